/- A function: from its reckoned text to what a call of it does. -/
import Derived.RangeFuncLeaves
import Derived.Test.YtajecapgmdfjcaaGreatDoorN27
namespace Go.Proofs.YtajecapgmdfjcaaGreatDoor
open Go.RowKit Vn
open Go.ChangeMaps (setBlock)
section
variable {P : Program} {O : Opq} {T : Tys} {n : Nat} {w0 : W0}
def resV (bv : Nat → Option Bx) (x : AV) (k : AV → Prop) : Prop := match x with
 | .c c => cond (isP c) (frzK true bv 6 c fun d => k (.c d)) (k (.c c))
 | .g cs => allK cs fun m => cond (noPs m) (k (.g m)) False
 | _ => False
def resK (T : Tys) (V : View) : List ResultVar → (List AV → Prop) → Prop
 | [], k => k []
 | .tmp t :: r, k => resV V.bv (V.tv t) fun x => resK T V r fun l => k (x :: l)
 | .cell a t :: r, k => match T t with
  | some ty => match V.tv a with
   | .c (.p h off) => match V.bv h with
    | some X => match X.cells with
     | some (_, cs) => partK ty.agg ty.zero.length (cs.drop off) fun x => resV V.bv x fun y => resK T V r fun l => k (y :: l)
     | none => False
    | none => False
   | _ => False
  | none => False
def joinR : List AV → AV
 | [x] => x
 | l => .t l
def argV (args : List AV) : View := ⟨fun i => args.getD i (.t []), fun _ => none, [], []⟩
def argM (ag : Bool) (ks : List Int) (vs : List (List AC)) (args : List AV) : View := ⟨fun i => (AV.c (.pm 1000) :: args).getD i (.t []), ascB [(1000, .m ag ks vs)], [], []⟩
def noPA : AV → Bool
 | .c x => !isP x
 | .g _ => true
 | _ => false
def readR (tmps : Array Value) : ResultVar → Sem Value
 | .tmp t => pure (tmps.getD t undef)
 | .cell a t => do loadVar t (← asAddr (tmps.getD a undef))
theorem resV_rep {β : Nat → Option Nat} {S S' : Nat → Prop} {V : View} {a : Act} {w : World} (C : Corr O n w0 β S V a w) (hs : ∀ b, S b → S' b) (hS : ∀ h b, β h = some b → S' b) {v : Value} {x : AV} {k : AV → Prop} (r : RepV O β S w v x) (h : resV V.bv x k) :
  ∃ y, k y ∧ RepW O (fun _ => none) S' w v y := by
 cases x with
 | c c =>
  simp only [resV] at h
  cases hp : isP c with
  | true =>
   rw [hp] at h
   simp only [cond_true] at h
   obtain ⟨d, h1, h2⟩ := frzK_rep (fl := true) (S' := S') hs (fun h b hb => by
    obtain ⟨X, q1, q2, _⟩ := C.bl h b hb
    exact ⟨X, q1, q2, fun _ => hS h b hb⟩) 6 c _ v r h
   exact ⟨_, h1, Rep0.toC h2⟩
  | false =>
   rw [hp] at h
   exact ⟨_, h, Rep0.toC (Rep0.evo (Evo.refl _ _ _) hs _ _ (RepC.to0 r hp))⟩
 | g cs =>
  simp only [resV, allK_iff] at h
  obtain ⟨hn, h⟩ := cond_ff h
  obtain ⟨vs, e, r⟩ := r
  exact ⟨_, h, vs, e, RepCs.evo (Evo.refl _ _ _) hs (fun _ _ h => by cases h) (R0s.toC (β := fun _ => none) (r.to0 hn))⟩
 | t _ => exact h.elim
 | j => exact h.elim
theorem resK_run (TK : TyOK P O T) {β : Nat → Option Nat} {S S' : Nat → Prop} {V : View} {a : Act} {w : World} (C : Corr O n w0 β S V a w) (hs : ∀ b, S b → S' b) (hS : ∀ h b, β h = some b → S' b) : ∀ (rs : List ResultVar) (k : List AV → Prop), resK T V rs k →
  ∃ vs l, (rs.mapM (readR a.tmps)).run P w = .ok vs w ∧ All2 (RepW O (fun _ => none) S' w) vs l ∧ k l
 | [], k, h => ⟨[], [], rfl, trivial, h⟩
 | .tmp t :: r, k, h => by
  simp only [resK] at h
  obtain ⟨x, h, hx⟩ := resV_rep C hs hS (C.tm t) h
  obtain ⟨vs, l, h1, h2, h3⟩ := resK_run TK C hs hS r _ h
  refine ⟨a.tmps.getD t undef :: vs, x :: l, ?_, ⟨hx, h2⟩, h3⟩
  rw [List.mapM_cons, Sem.run_bind]
  show Result.andThen (Result.ok _ w) _ = _
  rw [Result.andThen_ok, Sem.run_bind, h1]; rfl
 | .cell x t :: r, k, h => by
  simp only [resK] at h
  have hr := C.tm x
  cases ht : T t with
  | none => simp only [ht] at h
  | some ty =>
   simp only [ht] at h
   split at h
   ·rename_i g off hv
    rw [hv] at hr
    obtain ⟨b, hb, e'⟩ := hr
    obtain ⟨X, q1, q2, _⟩ := C.bl g b hb
    simp only [q1] at h
    split at h
    ·rename_i U cs hc
     obtain ⟨vs, ts, g1, g2, _⟩ := q2.toCells hc
     obtain ⟨v, y, l1, l2, l3, l4, l5⟩ := load_rep (β := β) TK ht (b := b) (off := off) (vs := vs.drop off) (fun j v hj => by
      rw [List.getElem?_drop] at hj
      have hl := (List.getElem?_eq_some_iff.1 hj).1
      simp only [World.cell?, g1]
      simpa [List.getElem?_append_left hl] using hj) (All2.drop off g2) h
     obtain ⟨z, l3, hz⟩ := resV_rep C hs hS (l2.toV l5) l3
     obtain ⟨us, l, h1, h2, h3⟩ := resK_run TK C hs hS r _ l3
     refine ⟨v :: us, z :: l, ?_, ⟨hz, h2⟩, h3⟩
     have hl : (loadVar t ⟨b, off, none⟩).run P w = .ok v w := by
      simpa only [Instr.loadAt, Instr.sureAddr, Sem.run_bind, Sem.run_pure, Result.andThen_ok] using l1
     rw [List.mapM_cons, Sem.run_bind]
     unfold readR
     rw [Sem.run_bind, e']
     show Result.andThen (Result.andThen (Result.ok _ w) _) _ = _
     rw [Result.andThen_ok, hl, Result.andThen_ok, Sem.run_bind]
     have h1' := h1
     unfold readR at h1'
     rw [h1']; rfl
    ·exact h.elim
   ·exact h.elim
theorem results_run {fn : Func} {a : Act} {w : World} {us : List Value} (h1 : (fn.results.toList.mapM (readR a.tmps)).run P w = .ok us w) :
  (results fn a.tmps).run P w = .ok (if h : us.toArray.size = 1 then us.toArray[0] else .tuple us.toArray) w := by
 have e0 : results fn a.tmps = (fn.results.mapM (readR a.tmps) >>= fun vs => pure (if h : vs.size = 1 then vs[0] else .tuple vs)) := by
  have : (fun x : ResultVar => (match x with | .tmp t => pure (a.tmps.getD t undef) | .cell b t => do loadVar t (← asAddr (a.tmps.getD b undef)) : Sem Value)) = readR a.tmps := by funext x; cases x <;> rfl
  rw [← this]; rfl
 rw [e0, Array.mapM_eq_mapM_toList, Sem.run_bind]
 have : ∀ (m : Sem (List Value)), m.run P w = .ok us w → (List.toArray <$> m).run P w = .ok us.toArray w := by
  intro m hm'
  rw [← bind_pure_comp, Sem.run_bind, hm']; rfl
 rw [this _ h1]; rfl
theorem init_tm {β : Nat → Option Nat} {S : Nat → Prop} {w : World} {vs : List Value} {args : List AV} (hvs : All2 (RepW O β S w) vs args) (ha : ∀ l, AV.t l ∉ args) (m i : Nat) (_ : args.length ≤ m) :
  RepV O β S w ((vs.toArray ++ Array.replicate (m - vs.toArray.size) undef).getD i undef) (args.getD i (.t [])) := by
 have hlen := hvs.len
 rcases Nat.lt_or_ge i args.length with hi | hi
 ·have hx : args[i]? = some args[i] := List.getElem?_eq_getElem hi
  obtain ⟨v, hv, rv⟩ := hvs.get i _ hx
  have e1 : (vs.toArray ++ Array.replicate (m - vs.toArray.size) undef).getD i undef = v := by
   rw [Array.getD_eq_getD_getElem?, Array.getElem?_append_left (by simp; omega)]
   simp [hv]
  have e2 : args.getD i (.t []) = args[i] := by rw [List.getD_eq_getElem?_getD, hx]; rfl
  rw [e1, e2]
  exact rv.toV (fun l hl' => ha l (hl' ▸ List.getElem_mem hi))
 ·have e1 : (vs.toArray ++ Array.replicate (m - vs.toArray.size) undef).getD i undef = undef := by
   rw [Array.getD_eq_getD_getElem?, Array.getElem?_append_right (by simp; omega)]
   cases hq : (Array.replicate (m - vs.toArray.size) undef)[i - vs.toArray.size]? with
   | none => rfl
   | some y =>
    have := Array.getElem?_eq_some_iff.1 hq
    obtain ⟨_, e⟩ := this
    simp at e; rw [← e]; rfl
  have e2 : args.getD i (.t []) = .t [] := by rw [List.getD_eq_getElem?_getD, List.getElem?_eq_none hi]; rfl
  rw [e1, e2]
  exact ⟨[], rfl, trivial⟩
theorem noPA_t {args : List AV} (h : args.all noPA = true) : ∀ l, AV.t l ∉ args := fun l hl => by
 have := (List.all_eq_true.1 h) _ hl
 cases this
def markV (V : View) (k : View → Prop) : Prop := match V.df with
 | [] => k V
 | [.p g 0] => match V.bv g with
  | some (.z (.deferred (some []))) => k ⟨V.tv, upd V.bv g (some (.z (.deferred none))), V.sv, V.df⟩
  | _ => False
 | _ => False
def markN (nd : Bool) (V : View) (k : View → Prop) : Prop := match nd with
 | true => k V
 | false => markV V k
theorem markV_out {V : View} {k : View → Prop} (h : markV V k) : (V.df = [] ∧ k V) ∨ ∃ g, V.df = [.p g 0] ∧ V.bv g = some (.z (.deferred (some []))) ∧ k ⟨V.tv, upd V.bv g (some (.z (.deferred none))), V.sv, V.df⟩ := by
 unfold markV at h
 split at h
 ·rename_i e; exact .inl ⟨e, h⟩
 ·rename_i g e
  split at h
  ·rename_i eb; exact .inr ⟨g, e, eb, h⟩
  ·exact h.elim
 ·exact h.elim
def codeK (nd : Bool) (B : Bxs) (m : Nat) (c : Code) : Bool := codeB B m c && kindB nd c
theorem codeK_out {nd : Bool} {m : Nat} {c : Code} {B : Bxs} (h : codeK nd B m c = true) : codeB B m c = true ∧ kindB nd c = true := by simpa [codeK] using h
theorem fn_core (B : Bxs) (TK : TyOK P O T) (hm : P.follows .mixedOrders = true) {H : Hnd} (HK : HOK P O H w0) {k : FuncId} {fn : Func} {c : Code} (hf : P.funcs[k]? = some fn) (hb : fn.body = some c) (hc : codeB B fn.ntmps c = true) (hkd : kindB w0.nd c = true)
  {vs : List Value} {w : World} {β : Nat → Option Nat} {S : Nat → Prop} {V : View} (C : Corr O fn.ntmps w0 β S V { tmps := vs.toArray ++ Array.replicate (fn.ntmps - vs.toArray.size) undef, defers := [] } w)
  {Kf : View → Prop} (h : ev P O T H B c V fun e V => match e with
   | .normal => markN w0.nd V Kf
   | .ret => markN w0.nd V Kf
   | _ => False) {R : Ending → World → Prop}
  (fin : ∀ V a w' β' S', Kf V → Corr O fn.ntmps w0 β' S' V a w' → ∃ us, (fn.results.toList.mapM (readR a.tmps)).run P w' = .ok us w' ∧ R (.returned (if h : us.toArray.size = 1 then us.toArray[0] else .tuple us.toArray)) w') : Calls P k vs.toArray w R := by
 refine (callsIn_wide (n := 0)).1 ?_
 refine callsIn_of_wp_marks hf hb trivial ?_
 show c.wpIn (Fr none) 0 P _ _ w
 refine ev_sound TK hm c HK hc hkd (.inr rfl) C h fun e V a w' β' S' hk C' => ?_
 have go : markN w0.nd V Kf → LeavesInM Fence.wide 0 P fn a.tmps R a.defers .returning w' := fun hk => by
  rcases C'.su.df with ⟨hnd, hd⟩ | ⟨hnd, hd⟩
  ·rw [hd]
   rw [hnd] at hk
   obtain ⟨us, h1, h2⟩ := fin V a w' β' S' hk C'
   exact ⟨_, results_run h1, h2⟩
  ·rw [hnd] at hk
   rcases markV_out hk with ⟨h1, hk⟩ | ⟨g, h1, h2, hk⟩
   ·rw [h1] at hd
    have hd : a.defers = [] := by
     cases hq : a.defers with
     | nil => rfl
     | cons _ _ => rw [hq] at hd; exact hd.elim
    rw [hd]
    obtain ⟨us, h1, h2⟩ := fin V a w' β' S' hk C'
    exact ⟨_, results_run h1, h2⟩
   ·rw [h1] at hd
    obtain ⟨d, hds, e1⟩ : ∃ d, a.defers = [d] ∧ ∃ D, d = { target := .collected D, args := #[] } ∧ RepC O β' S' w' (.pointer (some ⟨D, 0, none⟩)) (.p g 0) := by
     cases hq : a.defers with
     | nil => rw [hq] at hd; exact hd.elim
     | cons d l =>
      rw [hq] at hd
      cases l with
      | nil => exact ⟨d, rfl, hd.1⟩
      | cons _ _ => exact hd.2.elim
    obtain ⟨D, ed, hD⟩ := e1
    obtain ⟨b, hb', eb⟩ := hD
    have eb : D = b := by cases eb; rfl
    subst eb
    have hrec := C'.recd hb' h2
    have C3 := C'.chgM (X := .z (.deferred none)) (o' := .deferred none) hb' hrec rfl (fun ⟨_, _, e⟩ => by cases e) (heap_setBlock _ hrec)
    rw [hds, ed]
    obtain ⟨us, h1, h2⟩ := fin _ a _ β' S' hk C3
    exact ⟨(fun h => by cases h), .inl ⟨D, _, rfl, run_takeDeferred hrec, _, results_run h1, h2⟩⟩
 cases e with
 | normal => exact go hk
 | ret => exact go hk
 | exit _ => exact hk
 | goto _ => exact hk
 | panic _ => exact hk.elim
 | outgrown => exact hk.elim
theorem argC {S : Nat → Prop} {w : World} {vs : List Value} {args : List AV} (hS : ∀ b, S b → b < w.heap.size) (hI : O.inv w) (hvs : All2 (RepW O (fun _ => none) S w) vs args) {m : Nat} (hl : args.length ≤ m) (hm : m ≤ 1000) (ha : args.all noPA = true) (nd : Bool := true) :
  Corr O m ⟨w, S, none, [], nd⟩ (fun _ => none) S (argV args) { tmps := vs.toArray ++ Array.replicate (m - vs.toArray.size) undef, defers := [] } w := by
 have hlen := hvs.len
 exact ⟨fun i => init_tm hvs (noPA_t ha) m i hl, (by simp; omega), fun h b hb => (by cases hb), fun h hs => (by cases hs), fun _ _ _ hb => (by cases hb), hS, ⟨w, rfl, Below.refl _ _⟩, fun b hb => .inl hb, hI, fun _ h => (by cases h), hm, ⟨trivial, by
  cases nd with
  | true => exact .inl ⟨rfl, rfl⟩
  | false => exact .inr ⟨rfl, trivial⟩⟩⟩
theorem joinR_rep {S : Nat → Prop} {w : World} {us : List Value} {l : List AV} {r : AV} (h : All2 (RepW O (fun _ => none) S w) us l) (e : joinR l = r) : RepV O (fun _ => none) S w (if h : us.toArray.size = 1 then us.toArray[0] else .tuple us.toArray) r := by
 cases us with
 | nil =>
  cases l with
  | nil => rw [← e]; exact ⟨[], rfl, trivial⟩
  | cons _ _ => exact h.elim
 | cons u us =>
  cases l with
  | nil => exact h.elim
  | cons x l =>
   cases us with
   | nil =>
    cases l with
    | cons _ _ => exact h.2.elim
    | nil =>
     have e : x = r := e
     subst e
     exact h.1.toV (fun l hl => by rw [hl] at h; exact h.1.elim)
   | cons u' us =>
    cases l with
    | nil => exact h.2.elim
    | cons x' l =>
     have e : AV.t (x :: x' :: l) = r := e
     subst e
     have : ¬ (u :: u' :: us).toArray.size = 1 := by simp
     rw [dif_neg this]
     exact ⟨_, rfl, h⟩
theorem fn_callB (B : Bxs) (TK : TyOK P O T) (hm : P.follows .mixedOrders = true) {k : FuncId} {fn : Func} {c : Code} (hf : P.funcs[k]? = some fn) (hb : fn.body = some c) (hn : (fn.name == "runtime.NumGoroutine") = false)
  {args : List AV} (hl : (Nat.ble args.length fn.ntmps && Nat.ble fn.ntmps 1000) = true) (hc : codeK true B fn.ntmps c = true) {r : AV} (hr : noPV r = true) (ha : args.all noPA = true)
  (h : ev P O T H0 B c (argV args) fun e V => match e with
   | .normal => resK T V fn.results.toList fun l => joinR l = r
   | .ret => resK T V fn.results.toList fun l => joinR l = r
   | _ => False) : Cal P O k args r := by
 simp only [Bool.and_eq_true, Nat.ble_eq] at hl
 refine ⟨⟨fn, hf, hn, by rw [hb]; rfl⟩, hr, fun S w vs hS hI hvs => ?_⟩
 refine fn_core (Kf := fun V => resK T V fn.results.toList fun l => joinR l = r) B TK hm (HOK.h0 _) hf hb (codeK_out hc).1 (codeK_out hc).2 (argC hS hI hvs hl.1 hl.2 ha) h fun V a w' β' S' hk C' => ?_
 obtain ⟨us, l, h1, h2, h3⟩ := resK_run TK C' (S' := fun b => S b ∨ (w.heap.size ≤ b ∧ b < w'.heap.size)) (fun b hb => (C'.sb b hb).imp id fun h => ⟨h, C'.sl b hb⟩) (fun h b hb => by
  obtain ⟨X, _, q2, q3, _⟩ := C'.bl h b hb
  rcases q3 with q3 | q3
  ·exact .inr ⟨q3, q2.lt⟩
  ·cases q3) _ _ hk
 obtain ⟨w1, e, hx⟩ := C'.ex
 have e : w1 = w := e
 subst e
 exact ⟨us, h1, _, rfl, hx, joinR_rep h2 h3⟩
theorem fn_call (TK : TyOK P O T) (hm : P.follows .mixedOrders = true) {k : FuncId} {fn : Func} {c : Code} (hf : P.funcs[k]? = some fn) (hb : fn.body = some c) (hn : (fn.name == "runtime.NumGoroutine") = false)
  {args : List AV} (hl : (Nat.ble args.length fn.ntmps && Nat.ble fn.ntmps 1000) = true) (hc : codeK true [] fn.ntmps c = true) {r : AV} (hr : noPV r = true) (ha : args.all noPA = true)
  (h : ev P O T H0 [] c (argV args) fun e V => match e with
   | .normal => resK T V fn.results.toList fun l => joinR l = r
   | .ret => resK T V fn.results.toList fun l => joinR l = r
   | _ => False) : Cal P O k args r := fn_callB [] TK hm hf hb hn hl hc hr ha h
theorem fn_callD (B : Bxs) (TK : TyOK P O T) (hm : P.follows .mixedOrders = true) {H : Hnd} (HK : ∀ w0 : W0, w0.m = none → HOK P O H w0) {nd : Bool} {k : FuncId} {fn : Func} {c : Code} (hf : P.funcs[k]? = some fn) (hb : fn.body = some c) (hn : (fn.name == "runtime.NumGoroutine") = false)
  {args : List AV} (hl : (Nat.ble args.length fn.ntmps && Nat.ble fn.ntmps 1000) = true) (hc : codeK nd B fn.ntmps c = true) {r : AV} (hr : noPV r = true) (ha : args.all noPA = true)
  (h : ev P O T H B c (argV args) fun e V => match e with
   | .normal => markN nd V fun V => resK T V fn.results.toList fun l => joinR l = r
   | .ret => markN nd V fun V => resK T V fn.results.toList fun l => joinR l = r
   | _ => False) : Cal P O k args r := by
 simp only [Bool.and_eq_true, Nat.ble_eq] at hl
 refine ⟨⟨fn, hf, hn, by rw [hb]; rfl⟩, hr, fun S w vs hS hI hvs => ?_⟩
 refine fn_core (Kf := fun V => resK T V fn.results.toList fun l => joinR l = r) (w0 := ⟨w, S, none, [], nd⟩) B TK hm (HK _ rfl) hf hb (codeK_out hc).1 (codeK_out hc).2 (argC hS hI hvs hl.1 hl.2 ha nd) h fun V a w' β' S' hk C' => ?_
 obtain ⟨us, l, h1, h2, h3⟩ := resK_run TK C' (S' := fun b => S b ∨ (w.heap.size ≤ b ∧ b < w'.heap.size)) (fun b hb => (C'.sb b hb).imp id fun h => ⟨h, C'.sl b hb⟩) (fun h b hb => by
  obtain ⟨X, _, q2, q3, _⟩ := C'.bl h b hb
  rcases q3 with q3 | q3
  ·exact .inr ⟨q3, q2.lt⟩
  ·cases q3) _ _ hk
 obtain ⟨w1, e, hx⟩ := C'.ex
 have e : w1 = w := e
 subst e
 exact ⟨us, h1, _, rfl, hx, joinR_rep h2 h3⟩
def resN (V : View) (rs : List ResultVar) (Y : Bx → Prop) : Prop := match rs with
 | [.tmp t] => match V.tv t with
  | .c (.pm h) => match V.bv h with
   | some X => Y X
   | none => False
  | _ => False
 | _ => False
theorem resN_run {Y : Bx → Prop} {fn : Func} {β : Nat → Option Nat} {S : Nat → Prop} {V : View} {a : Act} {w : World} (C : Corr O n w0 β S V a w) (h : resN V fn.results.toList Y) :
  ∃ g b X, V.bv g = some X ∧ Y X ∧ β g = some b ∧ (fn.results.toList.mapM (readR a.tmps)).run P w = .ok [.map (some b)] w := by
 unfold resN at h
 split at h
 ·rename_i t e
  split at h
  ·rename_i g hv
   split at h
   ·rename_i X hb
    have hr := C.tm t
    rw [hv] at hr
    obtain ⟨b, hb', ex⟩ := hr
    refine ⟨g, b, X, hb, h, hb', ?_⟩
    rw [e, List.mapM_cons, Sem.run_bind]
    show Result.andThen (Result.ok _ w) _ = _
    rw [Result.andThen_ok, ex]; rfl
   ·exact h.elim
  ·exact h.elim
 ·exact h.elim
theorem fn_callN (B : Bxs) (TK : TyOK P O T) (hm : P.follows .mixedOrders = true) {k : FuncId} {fn : Func} {c : Code} (hf : P.funcs[k]? = some fn) (hb : fn.body = some c) (hn : (fn.name == "runtime.NumGoroutine") = false)
  {args : List AV} (hl : (Nat.ble args.length fn.ntmps && Nat.ble fn.ntmps 1000) = true) (hc : codeK true B fn.ntmps c = true) {ag : Bool} {ks : List Int} {vs : List (List AC)} (hfl : FlatVs vs) (ha : args.all noPA = true)
  (h : ev P O T H0 B c (argV args) fun e V => match e with
   | .normal => resN V fn.results.toList fun X => X = .m ag ks vs
   | .ret => resN V fn.results.toList fun X => X = .m ag ks vs
   | _ => False) : CalN P O k args (.c (.mp ag ks vs)) := by
 simp only [Bool.and_eq_true, Nat.ble_eq] at hl
 refine ⟨⟨fn, hf, hn, by rw [hb]; rfl⟩, rfl, fun S w us hS hI hvs => ?_⟩
 refine fn_core (Kf := fun V => resN V fn.results.toList fun X => X = .m ag ks vs) B TK hm (HOK.h0 _) hf hb (codeK_out hc).1 (codeK_out hc).2 (argC hS hI hvs hl.1 hl.2 ha) h fun V a w' β' S' hk C' => ?_
 obtain ⟨g, b, X, h1, h2, h3, h4⟩ := resN_run (P := P) C' hk
 subst h2
 obtain ⟨Y, q1, q2, q3, q4⟩ := C'.bl g b h3
 rw [h1] at q1; cases q1
 have hlt := q2.lt
 obtain ⟨w1, e, hx⟩ := C'.ex
 have e : w1 = w := e
 subst e
 refine ⟨_, h4, _, rfl, hx, ?_⟩
 show Rep0 O _ w' (.mp ag ks vs) (.map (some b))
 simp only [Rep0]
 obtain ⟨E, ck, L, g1, g2, g3, g4⟩ := q2
 refine ⟨b, E, ck, L, ⟨?_, hlt⟩, rfl, g1, g2, g3, g4.flat hfl⟩
 rcases q3 with q3 | q3
 ·exact q3
 ·cases q3
def resS (V : View) (rs : List ResultVar) (Y : AC → Option Bx → Prop) : Prop := match rs with
 | [.tmp t] => match V.tv t with
  | .c (.os h n wd) => Y (.os 0 n wd) (V.bv h)
  | _ => False
 | _ => False
theorem fn_callS (B : Bxs) (TK : TyOK P O T) (hm : P.follows .mixedOrders = true) {k : FuncId} {fn : Func} {c : Code} (hf : P.funcs[k]? = some fn) (hb : fn.body = some c) (hn : (fn.name == "runtime.NumGoroutine") = false)
  {args : List AV} (hl : (Nat.ble args.length fn.ntmps && Nat.ble fn.ntmps 1000) = true) (hc : codeK true B fn.ntmps c = true) {n wd : Nat} {U : TypeId} {cs : List AC} (hfl : ∀ c ∈ cs, flatC c = true) (hU : O.box U = true) (ha : args.all noPA = true)
  (h : ev P O T H0 B c (argV args) fun e V => match e with
   | .normal => resS V fn.results.toList fun y X => y = .os 0 n wd ∧ X = some (.r U wd cs)
   | .ret => resS V fn.results.toList fun y X => y = .os 0 n wd ∧ X = some (.r U wd cs)
   | _ => False) : CalS P O k args n wd U cs := by
 simp only [Bool.and_eq_true, Nat.ble_eq] at hl
 refine ⟨⟨fn, hf, hn, by rw [hb]; rfl⟩, hU, hfl, fun S w vs hS hI hvs => ?_⟩
 refine fn_core (Kf := fun V => resS V fn.results.toList fun y X => y = .os 0 n wd ∧ X = some (.r U wd cs)) B TK hm (HOK.h0 _) hf hb (codeK_out hc).1 (codeK_out hc).2 (argC hS hI hvs hl.1 hl.2 ha) h fun V a w' β' S' hk C' => ?_
 unfold resS at hk
 split at hk
 ·rename_i t er
  split at hk
  ·rename_i g m wd' hv
   obtain ⟨e1, hX⟩ := hk
   cases e1
   have hr := C'.tm t
   rw [hv] at hr
   obtain ⟨b, cap, c0, U0, hb', ex, h0, hsz, hmx, hnc⟩ := hr
   obtain ⟨Y, q1, q2, q3, q4⟩ := C'.bl g b hb'
   rw [hX] at q1; cases q1
   obtain ⟨us, ts, g1, g2, g3⟩ := q2
   rw [h0] at g1; cases g1
   obtain ⟨w1, e, hx⟩ := C'.ex
   have e : w1 = w := e
   subst e
   have hbn : w1.heap.size ≤ b := by
    rcases q3 with q3 | q3
    ·exact q3
    ·cases q3
   have flat : ∀ {us : List Value} {cs : List AC}, (∀ c ∈ cs, flatC c = true) → RepCs O β' S' w' us cs → All2 (fun x c => Rep0 O (fun _ => False) w' c x) us cs := by
    intro us
    induction us with
    | nil => intro cs _ r; cases cs with
     | nil => trivial
     | cons _ _ => exact r.elim
    | cons u us ih => intro cs hf r; cases cs with
     | nil => exact r.elim
     | cons c cs =>
      refine ⟨?_, ih (fun c hc => hf c (by simp [hc])) r.2⟩
      have h1 := hf c (by simp)
      have r1 := r.1
      cases c with
      | v y => exact r1
      | o k n => exact r1
      | _ => cases h1
   refine ⟨[.slice (some ⟨b, 0, none⟩) n cap], ?_, b, cap, us, ts, rfl, hx, hbn, h0, flat hfl g2, by simpa using hsz, hmx, hnc⟩
   rw [er, List.mapM_cons, Sem.run_bind]
   show Result.andThen (Result.ok _ w') _ = _
   rw [Result.andThen_ok, ex]; rfl
  ·exact hk.elim
 ·exact hk.elim
def resH (V : View) (rs : List ResultVar) (X : Bx) : Prop := match rs with
 | [.tmp t] => V.tv t = .c (.pm 1000) ∧ V.bv 1000 = some X
 | _ => False
theorem fn_callH (B : Bxs) (TK : TyOK P O T) (hm : P.follows .mixedOrders = true) {k : FuncId} {fn : Func} {c : Code} (hf : P.funcs[k]? = some fn) (hb : fn.body = some c) (hn : (fn.name == "runtime.NumGoroutine") = false)
  {ag : Bool} {ks : List Int} {vs : List (List AC)} {args : List AV} (hl : (Nat.ble (args.length + 1) fn.ntmps && Nat.ble fn.ntmps 1000) = true) (hc : codeK true B fn.ntmps c = true) {ks' : List Int} {vs' : List (List AC)} (ha : args.all noPA = true)
  (h : ev P O T H0 B c (argM ag ks vs args) fun e V => match e with
   | .normal => resH V fn.results.toList (.m ag ks' vs')
   | .ret => resH V fn.results.toList (.m ag ks' vs')
   | _ => False) : CalH P O k ag ks vs args ks' vs' := by
 simp only [Bool.and_eq_true, Nat.ble_eq] at hl
 refine ⟨⟨fn, hf, hn, by rw [hb]; rfl⟩, fun S w b us hS hnS hI hmap hvs => ?_⟩
 have hlen := hvs.len
 have hβ : ∀ {h x : Nat}, cond (Nat.beq h 1000) (some b) none = some x → h = 1000 ∧ x = b := by
  intro h x e
  cases hh : Nat.beq h 1000 with
  | false => rw [hh] at e; cases e
  | true => rw [hh] at e; cases e; exact ⟨Nat.eq_of_beq_eq_true hh, rfl⟩
 have hmap' := hmap
 obtain ⟨E, ck, L, g1, _⟩ := hmap'
 have hvs' : All2 (RepW O (fun h => cond (Nat.beq h 1000) (some b) none) S w) (Value.map (some b) :: us) (AV.c (.pm 1000) :: args) :=
  ⟨⟨b, rfl, rfl⟩, All2.mono (fun _ _ r => RepW.evo (Evo.refl _ _ _) (fun _ h => h) (fun _ _ h => by cases h) r) hvs⟩
 have hx0 : Ext (setBlock w b (.map E ck)) w := ⟨rfl, rfl, rfl, by rw [size_setBlock]; exact Nat.le_refl _, fun j _ => by
  by_cases e : j = b
  ·subst e; rw [heap_setBlock _ g1, g1]
  ·rw [heap_setBlock_ne _ e]⟩
 have C : Corr O fn.ntmps ⟨w, S, some b, [], true⟩ (fun h => cond (Nat.beq h 1000) (some b) none) S (argM ag ks vs args) { tmps := (Value.map (some b) :: us).toArray ++ Array.replicate (fn.ntmps - (Value.map (some b) :: us).toArray.size) undef, defers := [] } w := by
  refine ⟨fun i => init_tm hvs' (fun l hl => ?_) _ i (by simp; omega), (by simp; omega), fun h x hx => ?_, fun h hs => ?_, fun h h' x e e' => by rw [(hβ e).1, (hβ e').1], hS, ⟨_, ⟨E, ck, E, ck, g1, rfl⟩, hx0⟩, fun b hb => .inl hb, hI, (fun x hx => by cases hx; rfl), hl.2, ⟨trivial, .inl ⟨rfl, rfl⟩⟩⟩
  ·cases hl with
   | tail _ hl => exact noPA_t ha l hl
  ·obtain ⟨rfl, rfl⟩ := hβ hx
   exact ⟨.m ag ks vs, rfl, hmap, .inr rfl, hnS⟩
  ·have hs : (ascB [(1000, .m ag ks vs)] h).isSome = true := hs
   show (cond (Nat.beq h 1000) (some b) none).isSome = true
   simp only [ascB] at hs
   cases hh : Nat.beq h 1000 with
   | true => rfl
   | false => rw [hh] at hs; cases hs
 refine fn_core (Kf := fun V => resH V fn.results.toList (.m ag ks' vs')) B TK hm (HOK.h0 _) hf hb (codeK_out hc).1 (codeK_out hc).2 C h fun V a w' β' S' hk C' => ?_
 simp only [resH] at hk
 split at hk
 ·rename_i t e
  obtain ⟨h1, h2⟩ := hk
  have hr := C'.tm t
  rw [h1] at hr
  obtain ⟨b', hb', ex⟩ := hr
  have h3 := C'.om b rfl
  rw [h3] at hb'; cases hb'
  obtain ⟨X, q1, q2, _⟩ := C'.bl 1000 b h3
  rw [h2] at q1; cases q1
  obtain ⟨w1, hp, hx⟩ := C'.ex
  obtain ⟨E1, ck1, E2, ck2, p1, p2⟩ := hp
  subst p2
  refine ⟨[.map (some b)], ?_, rfl, ⟨E1, ck1, E2, ck2, p1, hx⟩, ?_⟩
  ·rw [e, List.mapM_cons, Sem.run_bind]
   show Result.andThen (Result.ok _ w') _ = _
   rw [Result.andThen_ok, ex]; rfl
  ·obtain ⟨E3, ck3, L3, r1, r2, r3, r4⟩ := q2
   exact ⟨E3, ck3, L3, r1, r2, r3, RepEnts.evo (Evo.refl _ _ _) (fun x hx => (C'.sb x hx).imp id fun h => ⟨h, C'.sl x hx⟩) _ _ _ _ r4⟩
 ·exact hk.elim
end
end Go.Proofs.YtajecapgmdfjcaaGreatDoor
