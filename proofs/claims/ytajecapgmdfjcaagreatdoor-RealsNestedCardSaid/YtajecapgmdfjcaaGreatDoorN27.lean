/- A function's text, reckoned: that it is so. -/
import Derived.RangeFuncIn
import Derived.RangeFuncRecord
import Derived.Test.YtajecapgmdfjcaaGreatDoorN26
namespace Go.Proofs.YtajecapgmdfjcaaGreatDoor
open Go.RowKit Vn
open Go.ChangeMaps (setBlock)
section
variable {P : Program} {O : Opq} {T : Tys} {B : Bxs} {n : Nat} {w0 : W0}
theorem Corr.frm {β : Nat → Option Nat} {S : Nat → Prop} {V : View} {a : Act} {w : World} (C : Corr O n w0 β S V a w) {m : Nat} {tv : Nat → AV} {a' : Act} {sus : List (Nat → Value)} {sv : List (Nat → AV)} {nd : Bool} {df : List AC}
  (tm : ∀ i, RepV O β S w (a'.tmps.getD i undef) (tv i)) (sz : a'.tmps.size = m) (hm : m ≤ 1000) (su : Sus O β S w nd sus sv a'.defers df) : Corr O m { w0 with sus := sus, nd := nd } β S ⟨tv, V.bv, sv, df⟩ a' w :=
 ⟨tm, sz, C.bl, C.dm, C.inj, C.sl, C.ex, C.sb, C.iv, C.om, hm, su⟩
theorem Corr.nodf {β : Nat → Option Nat} {S : Nat → Prop} {V : View} {a : Act} {w : World} (C : Corr O n w0 β S V a w) (h : w0.nd = true) : Corr O n w0 β S ⟨V.tv, V.bv, V.sv, []⟩ a w :=
 ⟨C.tm, C.sz, C.bl, C.dm, C.inj, C.sl, C.ex, C.sb, C.iv, C.om, C.hn, ⟨C.su.sm, by
  rcases C.su.df with h' | ⟨h', _⟩
  ·exact .inl h'
  ·rw [h] at h'; cases h'⟩⟩
theorem AllP.cons {α γ : Type} {R : α → γ → Prop} {l : List α} {b : γ} {m : List γ} (h : AllP R l (b :: m)) : ∃ a l', l = a :: l' ∧ R a b ∧ AllP R l' m := by
 cases l with
 | nil => exact h.elim
 | cons a l => exact ⟨a, l, rfl, h.1, h.2⟩
def slotsA (a : Act) : Nat → Value := fun i => a.tmps.getD i undef
theorem setP_rep {β : Nat → Option Nat} {S : Nat → Prop} {w : World} : ∀ (ps : List Nat) (xs : List AV) (vs : List Value) (f : Nat → AV) (t : Array Value), ps.length = xs.length → All2 (RepV O β S w) vs xs → (∀ p ∈ ps, p < t.size) → (∀ i, RepV O β S w (t.getD i undef) (f i)) →
  ∀ i, RepV O β S w (((ps.zip vs).foldl (fun t (p, v) => t.setIfInBounds p v) t).getD i undef) (setPm f ps xs i)
 | [], xs, vs, f, t, _, _, _, h, i => by
  cases xs <;> exact h i
 | p :: ps, [], _, _, _, hl, _, _, _, _ => by simp at hl
 | p :: ps, x :: xs, [], f, t, _, hv, _, _, _ => hv.elim
 | p :: ps, x :: xs, v :: vs, f, t, hl, hv, hp, h, i => by
  simp only [List.zip_cons_cons, List.foldl_cons, setPm]
  refine setP_rep ps xs vs _ _ (by simpa using hl) hv.2 (fun q hq => by simp; exact hp q (by simp [hq])) (fun j => ?_) i
  by_cases e : j = p
  ·subst e
   rw [upd_same]
   have := hp j (by simp)
   have e2 : (t.setIfInBounds j v).getD j undef = v := by simp [Array.getD, this]
   rw [e2]; exact hv.1
  ·rw [upd_ne _ _ e]
   have e2 : (t.setIfInBounds p v).getD j undef = t.getD j undef := by
    simp only [Array.getD_eq_getD_getElem?]
    rw [Array.getElem?_setIfInBounds_ne (fun h => e h.symm)]
   rw [e2]; exact h j
theorem foldl_size : ∀ (ps : List Nat) (vs : List Value) (t : Array Value), ((ps.zip vs).foldl (fun t (p, v) => t.setIfInBounds p v) t).size = t.size
 | [], _, _ => rfl
 | _ :: _, [], _ => rfl
 | p :: ps, v :: vs, t => by simp only [List.zip_cons_cons, List.foldl_cons]; rw [foldl_size ps vs]; simp
theorem Corr.recd {β : Nat → Option Nat} {S : Nat → Prop} {V : View} {a : Act} {w : World} (C : Corr O n w0 β S V a w) {h l : Nat} {o : Obj} (hb : β h = some l) (hv : V.bv h = some (.z o)) : w.heap[l]? = some o := by
 obtain ⟨X, h1, h2, _⟩ := C.bl h l hb
 rw [hv] at h1; cases h1
 exact h2
theorem Corr.setRec {β : Nat → Option Nat} {S : Nat → Prop} {V : View} {a : Act} {w : World} (C : Corr O n w0 β S V a w) {h l : Nat} {r : Loop} (hb : β h = some l) (hv : V.bv h = some (.z (.loop r))) (r' : Loop) : Corr O n w0 β S ⟨V.tv, upd V.bv h (some (.z (.loop r'))), V.sv, V.df⟩ a (w.putObj l (.loop r')) := by
 have g := C.recd hb hv
 exact C.chgM (o' := .loop r') hb g rfl (fun ⟨_, _, e⟩ => by cases e) (heap_setBlock _ g)
def Snd (P : Program) (O : Opq) (c : Code) (f : View → (Exit → View → Prop) → Prop) (n : Nat) (w0 : W0) : Prop := ∀ {r : Option Nat} {m : Nat} {β : Nat → Option Nat} {S : Nat → Prop} {V : View} {a : Act} {w : World}, (w0.nd = true ∨ r = none) → Corr O n w0 β S V a w → ∀ {K : Exit → View → Prop}, f V K → ∀ {Q : Exit → Act → World → Prop}, Beyond O n w0 K Q → c.wpIn (Fr r) m P Q a w
theorem begRd_out {R : Loop} {f : View → (Exit → View → Prop) → Prop} {Kb : View → Bool → Prop} {V : View} (h : begRd R f Kb V) : ∃ it own pt rest g, V.sv = it :: own :: pt :: rest ∧ pt 1 = .c (.p g 0) ∧ V.bv g = some (LpB R .ready none) ∧ f ⟨V.tv, upd V.bv g (some (LpB R .busy none)), V.sv, []⟩ (endRd R Kb) := by
 unfold begRd at h
 cases hv : V.sv with
 | nil => rw [hv] at h; exact h.elim
 | cons it l =>
  cases l with
  | nil => rw [hv] at h; exact h.elim
  | cons own l =>
   cases l with
   | nil => rw [hv] at h; exact h.elim
   | cons pt rest =>
    simp only [hv] at h
    split at h
    ·rename_i g e
     exact ⟨it, own, pt, rest, g, rfl, e, h.1, h.2⟩
    ·exact h.elim
theorem endRd_out {R : Loop} {Kb : View → Bool → Prop} {V : View} {e : Exit} (h : endRd R Kb e V) : ∃ it own pt rest g, V.sv = it :: own :: pt :: rest ∧ pt 1 = .c (.p g 0) ∧ V.bv g = some (LpB R .busy none) ∧ match (motive := Exit → Prop) e with
   | .normal => Kb ⟨it, upd V.bv g (some (LpB R .ready none)), own :: pt :: rest, []⟩ true
   | .ret => Kb ⟨it, upd V.bv g (some (LpB R .done (some .ret))), own :: pt :: rest, []⟩ false
   | _ => False := by
 unfold endRd at h
 cases hv : V.sv with
 | nil => rw [hv] at h; exact h.elim
 | cons it l =>
  cases l with
  | nil => rw [hv] at h; exact h.elim
  | cons own l =>
   cases l with
   | nil => rw [hv] at h; exact h.elim
   | cons pt rest =>
    simp only [hv] at h
    split at h
    ·rename_i g e
     exact ⟨it, own, pt, rest, g, rfl, e, h.1, h.2⟩
    ·exact h.elim
theorem endLp_out {K : Exit → View → Prop} {V : View} (h : endLp K V) : ∃ own pt rest d g r, V.sv = own :: pt :: rest ∧ pt 0 = .c d ∧ pt 1 = .c (.p g 0) ∧ V.bv g = some (.z (.loop r)) ∧ r.state ≠ .busy ∧
  ((r.pending = none ∧ K .normal ⟨own, upd V.bv g (some (.z (.loop { r with state := .exhausted }))), rest, [d]⟩) ∨ (r.pending = some .ret ∧ K .ret ⟨own, upd V.bv g (some (.z (.loop { r with state := .exhausted }))), rest, [d]⟩)) := by
 unfold endLp at h
 cases hv : V.sv with
 | nil => rw [hv] at h; exact h.elim
 | cons own l =>
  cases l with
  | nil => rw [hv] at h; exact h.elim
  | cons pt rest =>
   simp only [hv] at h
   split at h
   ·rename_i d g e0 e1
    split at h
    ·rename_i r er
     refine ⟨own, pt, rest, d, g, r, rfl, e0, e1, er, ?_⟩
     split at h
     ·exact h.elim
     ·rename_i hs
      refine ⟨fun e => hs e, ?_⟩
      split at h
      ·rename_i hp; exact .inl ⟨hp, h⟩
      ·rename_i hp; exact .inr ⟨hp, h⟩
      ·exact h.elim
    ·exact h.elim
   ·exact h.elim
theorem rd_sound {ps : List Nat} {assign body : Code} {g f : View → (Exit → View → Prop) → Prop} {R : Loop} {own : Nat → Value} {ptr : Nat → Value} {sus : List (Nat → Value)} (hm0 : w0.m = none) (hn : n ≤ 1000) (hps : R.params = ps.toArray) (hb : R.body = body) (ha : R.assign = assign) (htm : ∀ i, R.tmps.getD i undef = own i) (hsz : R.tmps.size = n) (hpl : ∀ p ∈ ps, p < n)
  (hg : ∀ w1 : W0, w1.m = none → w1.nd = true → Snd P O assign g n w1) (hf : ∀ w1 : W0, w1.m = none → w1.nd = true → Snd P O body f n w1) : YOK P O (rndV ps g f R) { w0 with sus := own :: ptr :: sus, nd := true } := by
 intro n' β S V a w h lo l vs K C hr hlo hvs
 unfold rndV at hr
 split at hr
 ·rename_i own' pt rest esv
  split at hr
  ·rename_i h1 ept
   obtain ⟨hc, hbv, hr2⟩ := cond_ff hr
   clear hr
   simp only [Bool.and_eq_true, Nat.beq_eq] at hc
   obtain ⟨rfl, hll⟩ := hc
   have hrec := C.recd hlo hbv
   have hlen := hvs.len
   have hsm := C.su.sm
   rw [esv] at hsm
   have hsm : (∀ i, RepV O β S w (own i) (own' i)) ∧ _ := hsm
   have hd0 : a.defers = [] := by
    rcases C.su.df with ⟨_, h⟩ | ⟨h, _⟩
    ·exact h
    ·cases h
   refine ⟨R.fn, _, R.assign, R.body, run_yield (r := { R with state := .ready, pending := none }) hrec (by show _ = R.params.size; rw [hps]; simp; omega), fun m => ?_⟩
   refine roundIn_of_wpIn (F := Fr none) trivial ?_
   rw [ha, hb]
   show assign.wpIn (Fr (some lo)) m P _ _ w
   have Cr : Corr O n { w0 with sus := slotsA a :: own :: ptr :: sus, nd := true } β S ⟨setPm own' ps l, V.bv, V.tv :: V.sv, []⟩ { tmps := (ps.zip vs).foldl (fun t (p, v) => t.setIfInBounds p v) R.tmps, defers := [] } w := by
    refine C.frm (fun i => ?_) ?_ hn ⟨⟨C.tm, C.su.sm⟩, .inl ⟨rfl, rfl⟩⟩
    ·refine setP_rep ps l vs own' R.tmps hll hvs (fun p hp => by rw [hsz]; exact hpl p hp) (fun i => ?_) i
     rw [htm]; exact hsm.1 i
    ·show (((ps.zip vs).foldl (fun t (p, v) => t.setIfInBounds p v) R.tmps)).size = n
     rw [foldl_size, hsz]
   have hz : (R.params.zip vs.toArray).foldl (fun tmps (x : Tmp × Value) => tmps.setIfInBounds x.1 x.2) R.tmps = (ps.zip vs).foldl (fun t (x : Nat × Value) => t.setIfInBounds x.1 x.2) R.tmps := by
    rw [hps, List.zip_toArray, List.foldl_toArray]
   have hz' : (({ R with state := .ready, pending := none } : Loop).params.zip vs.toArray).foldl (fun tmps (t, a) => tmps.setIfInBounds t a) ({ R with state := .ready, pending := none } : Loop).tmps = (ps.zip vs).foldl (fun t (p, v) => t.setIfInBounds p v) R.tmps := hz
   rw [hz']
   refine hg { w0 with sus := slotsA a :: own :: ptr :: sus, nd := true } hm0 rfl (.inl rfl) Cr hr2 fun e V1 a1 w1 β1 S1 hk C1 => ?_
   cases e with
   | normal =>
    show ∃ w₂, _
    obtain ⟨it, own1, pt1, rest1, h1, esv1, ept1, hbv1, hk⟩ := begRd_out hk
    have hsm1 := C1.su.sm
    rw [esv1] at hsm1
    have hp1 := hsm1.2.2.1 1
    rw [ept1] at hp1
    obtain ⟨b1, hb1, eb1⟩ := hp1
    have hp0 := hsm.2.1 1
    rw [ept] at hp0
    obtain ⟨b0, hb0, eb0⟩ := hp0
    rw [eb0] at eb1
    have eb1 : b0 = b1 := by cases eb1; rfl
    subst eb1
    rw [hlo] at hb0
    have hb0 : lo = b0 := Option.some.inj hb0
    subst hb0
    have hrec1 := C1.recd hb1 hbv1
    refine ⟨_, run_beginRound hrec1 rfl, ?_⟩
    have C2 := C1.setRec hb1 hbv1 { R with state := .busy, pending := none }
    refine hf { w0 with sus := slotsA a :: own :: ptr :: sus, nd := true } hm0 rfl (.inl rfl) (C2.nodf rfl) hk fun e V3 a3 w3 β3 S3 hk3 C3 => ?_
    obtain ⟨it3, own3, pt3, rest3, h3, esv3, ept3, hbv3, hk3⟩ := endRd_out hk3
    have hsm3 := C3.su.sm
    rw [esv3] at hsm3
    have hp3 := hsm3.2.2.1 1
    rw [ept3] at hp3
    obtain ⟨b3, hb3, eb3⟩ := hp3
    rw [eb0] at eb3
    have eb3 : lo = b3 := by cases eb3; rfl
    subst eb3
    have hrec3 := C3.recd hb3 hbv3
    have fin : ∀ (r' : Loop), Corr O n' { w0 with sus := own :: ptr :: sus, nd := true } β3 S3 ⟨it3, upd V3.bv h3 (some (.z (.loop r'))), own3 :: pt3 :: rest3, []⟩ a (w3.putObj lo (.loop r')) := by
     intro r'
     have C4 := C3.setRec hb3 hbv3 r'
     have hsm4 := C4.su.sm
     have esv4 : V3.sv = it3 :: own3 :: pt3 :: rest3 := esv3
     simp only [esv4] at hsm4
     exact C4.frm (tv := it3) (fun i => hsm4.1 i) C.sz C.hn ⟨hsm4.2, .inl ⟨rfl, hd0⟩⟩
    cases e with
    | normal => exact ⟨_, _, run_endRound none hrec3, true, _, _, _, rfl, fin _, hk3⟩
    | ret => exact ⟨_, _, run_endRound (some .ret) hrec3, false, _, _, _, rfl, fin _, hk3⟩
    | _ => exact hk3.elim
   | _ => exact hk.elim
  ·exact hr.elim
 ·exact hr.elim
theorem rf_sound {H : Hnd} (HK : HOK P O H w0) (hm0 : w0.m = none) (hnd : w0.nd = false) {g : Operand} {ps : Array Tmp} {assign body : Code} (hpl : ∀ p ∈ ps.toList, p < n) {ga fa : View → (Exit → View → Prop) → Prop}
  (hg : ∀ w1 : W0, w1.m = none → w1.nd = true → Snd P O assign ga n w1) (hf : ∀ w1 : W0, w1.m = none → w1.nd = true → Snd P O body fa n w1) {β : Nat → Option Nat} {S : Nat → Prop} {V : View} {a : Act} {w : World} (C : Corr O n w0 β S V a w) {y : AC} (ey : V.ev g = .c y)
  (h990 : V.bv 990 = none) (h991 : V.bv 991 = none) (hdf : V.df = []) {K : Exit → View → Prop} (h : ∀ R : Loop, H.iter y (rndV ps.toList ga fa R) ⟨fun _ => .j, upd (upd V.bv 990 (some (.z (.deferred (some []))))) 991 (some (LpB R .ready none)), V.tv :: ptr2 990 991 :: V.sv, []⟩ (endLp K))
  {Q : Exit → Act → World → Prop} (hQ : Beyond O n w0 K Q) {m : Nat} : (Code.rangeFunc g ps assign body).wpIn (Fr none) m P Q a w := by
 have hd0 : a.defers = [] := by
  rcases C.su.df with ⟨_, h⟩ | ⟨_, h⟩
  ·exact h
  ·rw [hdf] at h
   cases hd : a.defers with
   | nil => rfl
   | cons _ _ => rw [hd] at h; exact h.elim
 refine wpIn_rangeFunc ?_
 intro fn _
 obtain ⟨rec, hrec⟩ : ∃ rec : Loop, rec = { state := .ready, pending := none, fn, tmps := a.tmps, params := ps, assign, body, defers := w.heap.size } := ⟨_, rfl⟩
 obtain ⟨W1, hW1⟩ : ∃ W1, (w.alloc (.deferred (some []))).alloc (.loop rec) = W1 := ⟨_, rfl⟩
 have hL1 : W1.heap[w.heap.size + 1]? = some (.loop rec) := by
  rw [← hW1]; have := World.alloc_heap_new (w.alloc (.deferred (some []))) (.loop rec); rwa [World.size_alloc] at this
 have hK1 : W1.heap[w.heap.size]? = some (.deferred (some [])) := by
  rw [← hW1]; exact (Below.heap_alloc _ _ _ (by simp)).trans (World.alloc_heap_new w _)
 have hx : Ext w W1 := by
  rw [← hW1]; exact ((Below.refl _ w).alloc (Nat.le_refl _) _).alloc (by simp) _
 have C1 := C.evo hx (S' := S) (fun _ h => h) (fun _ h => .inl h)
 have lt : ∀ k b, β k = some b → b < w.heap.size := fun k b hb => by obtain ⟨_, _, h2, _⟩ := C.bl k b hb; exact h2.lt
 have C2 := C1.own (g := 990) (b := w.heap.size) (X := .z (.deferred (some []))) h990 (fun k hb => by have := lt k _ hb; omega) (fun hS => by have := C.sl _ hS; omega) C.ex.size (fun β' _ => hK1)
 have C3 := C2.own (g := 991) (b := w.heap.size + 1) (X := LpB rec .ready none) (by show upd V.bv 990 (some (.z (.deferred (some [])))) 991 = none; rw [upd_ne _ _ (by omega)]; exact h991) (fun k hb => by
  by_cases e : k = 990
  ·subst e; rw [upd_same] at hb; have hb := Option.some.inj hb; omega
  ·rw [upd_ne _ _ e] at hb; have := lt k _ hb; omega) (fun hS => by have := C.sl _ hS; omega) (by have := C.ex.size; omega) (fun β' _ => by
   show W1.heap[w.heap.size + 1]? = some (.loop _)
   rw [hL1, hrec])
 have b990 : upd (upd β 990 (some w.heap.size)) 991 (some (w.heap.size + 1)) 990 = some w.heap.size := by rw [upd_ne _ _ (by omega), upd_same]
 have b991 : upd (upd β 990 (some w.heap.size)) 991 (some (w.heap.size + 1)) 991 = some (w.heap.size + 1) := upd_same _ _ _
 obtain ⟨ptr, hptr⟩ : ∃ ptr : Nat → Value, ptr = fun i => if i = 0 then .pointer (some ⟨w.heap.size, 0, none⟩) else .pointer (some ⟨w.heap.size + 1, 0, none⟩) := ⟨_, rfl⟩
 have C4 : Corr O n { w0 with sus := slotsA a :: ptr :: w0.sus, nd := true } (upd (upd β 990 (some w.heap.size)) 991 (some (w.heap.size + 1))) S ⟨fun _ => .j, upd (upd V.bv 990 (some (.z (.deferred (some []))))) 991 (some (LpB rec .ready none)), V.tv :: ptr2 990 991 :: V.sv, []⟩ a W1 := by
  refine C3.frm (fun _ => trivial) C.sz C.hn ⟨⟨C3.tm, ⟨fun i => ?_, C3.su.sm⟩⟩, .inl ⟨rfl, hd0⟩⟩
  rw [hptr]
  match i with
  | 0 => exact ⟨_, b990, rfl⟩
  | 1 => exact ⟨_, b991, rfl⟩
  | _ + 2 => trivial
 have hy := C3.ev g
 have ey3 : (⟨V.tv, upd (upd V.bv 990 (some (.z (.deferred (some []))))) 991 (some (LpB rec .ready none)), V.sv, V.df⟩ : View).ev g = .c y := by
  rw [← ey]
  cases g <;> rfl
 rw [ey3] at hy
 have hY : YOK P O (rndV ps.toList ga fa rec) { w0 with sus := slotsA a :: ptr :: w0.sus, nd := true } :=
  rd_sound hm0 C.hn (by rw [hrec]) (by rw [hrec]) (by rw [hrec]) (fun i => by rw [hrec]; rfl) (by rw [hrec]; exact C.sz) hpl hg hf
 have HI : IterOK P O H := @HOK.iter _ _ _ _ HK
 obtain ⟨k, lb, ex, hfn, hcal⟩ := @HI n { w0 with sus := slotsA a :: ptr :: w0.sus, nd := true } _ _ _ _ _ _ _ _ _ hm0 rfl C4 (h rec) hy @hY _ _ _ _ _ rfl rfl b991
 obtain ⟨fn', f1, f2, f3⟩ := hfn
 refine ⟨w.heap.size + 1, [{ target := .collected w.heap.size, args := #[] }], W1, { target := .fn (.func k) lb, args := #[.func (.yield (w.heap.size + 1)) #[] #[]] }, W1, k, #[.func (.yield (w.heap.size + 1)) #[] #[]] ++ lb, W1, ?_, ?_, fun _ _ => trivial, ?_, (fun hx => absurd hx (by simp [Fence.wide])), ?_⟩
 ·rw [← hW1, hrec]; exact run_enterLoop_outer _ _ _ _ _
 ·simp only [resolve]
  rw [ex]
  simp [Deferred.ofValue, Act.eval]
 ·have hn' : ¬ fn'.name = "runtime.NumGoroutine" := by simpa using f2
  have hb' : ¬ fn'.body = none := fun e => by rw [e] at f3; cases f3
  simp [invoke, callFunc, f1, hn', hb']
 ·refine (hcal (m - 1)).mono ?_
  rintro e W2 ⟨⟨v, rfl⟩, V', β', S', C5, hk⟩
  obtain ⟨own, pt, rest, d, q, r, esv, e0, e1, er, hs, hk⟩ := endLp_out hk
  have hsm := C5.su.sm
  have esv' : V'.sv = own :: pt :: rest := esv
  simp only [esv'] at hsm
  have hp1 := hsm.2.1 1
  rw [e1] at hp1
  obtain ⟨b, hb, eb⟩ := hp1
  have eb : w.heap.size + 1 = b := by rw [hptr] at eb; cases eb; rfl
  subst eb
  have hrec2 := C5.recd hb er
  have C6 := C5.setRec hb er { r with state := .exhausted }
  have hsm6 := C6.su.sm
  simp only [esv'] at hsm6
  have hp0 := hsm6.2.1 0
  rw [e0] at hp0
  have hp0 : RepC O β' S' (W2.putObj (w.heap.size + 1) (.loop { r with state := .exhausted })) (.pointer (some ⟨w.heap.size, 0, none⟩)) d := by
   rw [hptr] at hp0; exact hp0
  have C7 : Corr O n w0 β' S' ⟨own, upd V'.bv q (some (.z (.loop { r with state := .exhausted }))), rest, [d]⟩ { a with defers := [{ target := .collected w.heap.size, args := #[] }] ++ a.defers } (W2.putObj (w.heap.size + 1) (.loop { r with state := .exhausted })) :=
   ⟨hsm6.1, C.sz, C6.bl, C6.dm, C6.inj, C6.sl, C6.ex, C6.sb, C6.iv, C6.om, C.hn, ⟨hsm6.2.2, .inr ⟨hnd, by rw [hd0]; exact ⟨⟨_, rfl, hp0⟩, trivial⟩⟩⟩⟩
  have he := run_endLoop (P := P) hrec2 hs
  rcases hk with ⟨hp, hk⟩ | ⟨hp, hk⟩
  ·exact ⟨none, _, he.trans (congrArg (fun p => Result.ok p _) hp), hQ _ _ _ _ _ _ hk C7⟩
  ·exact ⟨some .ret, _, he.trans (congrArg (fun p => Result.ok p _) hp), wpIn_ret (hQ _ _ _ _ _ _ hk C7)⟩
theorem ev_sound (TK : TyOK P O T) (hm : P.follows .mixedOrders = true) {H : Hnd} : ∀ (c : Code) {w0 : W0}, HOK P O H w0 → codeB B n c = true → kindB w0.nd c = true → Snd P O c (ev P O T H B c) n w0
 | .skip, w0, HK, _, _, _, _, _, _, _, _, _, _, C, K, h, Q, hQ => wpIn_skip (hQ _ _ _ _ _ _ h C)
 | .label _, w0, HK, _, _, _, _, _, _, _, _, _, _, C, K, h, Q, hQ => wpIn_label (hQ _ _ _ _ _ _ h C)
 | .region id ops d, w0, HK, hc, hk, r, m, β, S, V, a, w, hr, C, K, h, Q, hQ => by
  simp only [ev] at h
  split at h
  ·rename_i e; exact evC_sound TK hm HK hc e C h hQ
  ·rename_i l e
   obtain ⟨β', S', C'⟩ := Corr.fzs (fzOf l) C
   exact evC_sound TK hm HK hc e C' h hQ
 | .seq x y, w0, HK, hc, hk, r, m, β, S, V, a, w, hr, C, K, h, Q, hQ => by
  simp only [codeB, Bool.and_eq_true] at hc
  simp only [kindB, Bool.and_eq_true] at hk
  refine wpIn_seq (ev_sound TK hm x HK hc.1 hk.1 hr C h fun e V' a' w' β' S' hk' C' => ?_)
  cases e with
  | normal => exact ev_sound TK hm y HK hc.2 hk.2 hr C' hk' hQ
  | _ => exact hQ _ _ _ _ _ _ hk' C'
 | .cond c x y, w0, HK, hc, hk, r, m, β, S, V, a, w, hr, C, K, h, Q, hQ => by
  simp only [codeB, Bool.and_eq_true] at hc
  simp only [kindB, Bool.and_eq_true] at hk
  simp only [ev] at h
  split at h
  ·rename_i t e
   have := evC C e
   cases t with
   | true => exact wpIn_cond_true this (ev_sound TK hm x HK hc.1 hk.1 hr C h hQ)
   | false => exact wpIn_cond_false this (ev_sound TK hm y HK hc.2 hk.2 hr C h hQ)
  ·exact h.elim
 | .block id c, w0, HK, hc, hk, r, m, β, S, V, a, w, hr, C, K, h, Q, hQ => by
  simp only [codeB] at hc
  simp only [kindB] at hk
  refine wpIn_block (ev_sound TK hm c HK hc hk hr C h fun e V' a' w' β' S' hk C' => ?_)
  cases e with
  | exit i =>
   show if i = id then _ else _
   by_cases e : i = id
   ·subst e
    rw [if_pos rfl]
    have : Nat.beq i i = true := by simp
    simp only [this, cond_true] at hk
    exact hQ _ _ _ _ _ _ hk C'
   ·rw [if_neg e]
    have : Nat.beq i id = false := by
     cases hb : Nat.beq i id with
     | false => rfl
     | true => exact absurd (Nat.eq_of_beq_eq_true hb) e
    simp only [this, cond_false] at hk
    exact hQ _ _ _ _ _ _ hk C'
  | _ => exact hQ _ _ _ _ _ _ hk C'
 | .loop c, w0, HK, hc, hk, r, m, β, S, V, a, w, hr, C, K, h, Q, hQ => by
  simp only [codeB] at hc
  simp only [kindB, Bool.and_eq_true] at hk
  obtain ⟨hnd, hk⟩ := hk
  obtain ⟨m', h⟩ := h
  refine wpIn_of_LWI ?_
  have stat : ∀ {V a w β S}, Corr O n w0 β S V a w → LoopI (ev P O T H B c) K V → LWI r P c Q a w := by
   intro V a w β S C h
   obtain ⟨σ, l, mm, μ, fz, s0, A, h⟩ := h
   have key : ∀ (N : Nat) (s : σ), μ s ≤ N → ∀ {V a w β S fz}, Corr O n w0 β S V a w → Agree (l s) (mm s) (V.fzs fz) → LWI r P c Q a w := by
    intro N
    induction N with
    | zero =>
     intro s hs V a w β S fz C A
     obtain ⟨β1, S1, C1⟩ := Corr.fzs fz C
     obtain ⟨β2, C2⟩ := C1.sub hnd A
     refine LWI_of_wpIn (m := m) (ev_sound TK hm c HK hc hk hr C2 (h s) fun e V' a' w' β' S' hk C' => ?_)
     cases e with
     | normal => obtain ⟨fz', s', hlt, _⟩ := hk; omega
     | _ => exact hQ _ _ _ _ _ _ hk C'
    | succ N ih =>
     intro s hs V a w β S fz C A
     obtain ⟨β1, S1, C1⟩ := Corr.fzs fz C
     obtain ⟨β2, C2⟩ := C1.sub hnd A
     refine LWI_of_wpIn (m := m) (ev_sound TK hm c HK hc hk hr C2 (h s) fun e V' a' w' β' S' hk C' => ?_)
     cases e with
     | normal => obtain ⟨fz', s', hlt, A'⟩ := hk; exact ih s' (by omega) C' A'
     | _ => exact hQ _ _ _ _ _ _ hk C'
   exact key (μ s0) s0 (Nat.le_refl _) C A
  have key : ∀ (j : Nat) {β S V a w}, Corr O n w0 β S V a w → iter (ev P O T H B c) (LoopI (ev P O T H B c) K) K j V → LWI r P c Q a w := by
   intro j
   induction j with
   | zero => intro β S V a w C h; exact stat C h
   | succ j ih =>
    intro β S V a w C h
    refine LWI_of_wpIn (m := m) (ev_sound TK hm c HK hc hk hr C h fun e V' a' w' β' S' hk C' => ?_)
    cases e with
    | normal => exact ih C' hk
    | _ => exact hQ _ _ _ _ _ _ hk C'
  exact key m' C h
 | .exit id, w0, HK, _, _, _, _, _, _, _, _, _, _, C, K, h, Q, hQ => wpIn_exit (hQ _ _ _ _ _ _ h C)
 | .scope c, w0, HK, hc, hk, r, m, β, S, V, a, w, hr, C, K, h, Q, hQ => by
  simp only [codeB] at hc
  simp only [kindB] at hk
  refine wpIn_scope_straight (ev_sound TK hm c HK hc hk hr C h fun e V' a' w' β' S' hk C' => ?_)
  cases e with
  | goto _ => exact hk
  | _ => exact hQ _ _ _ _ _ _ hk C'
 | .ret, w0, HK, _, _, _, _, _, _, _, _, _, _, C, K, h, Q, hQ => wpIn_ret (hQ _ _ _ _ _ _ h C)
 | .rangeFunc g ps assign body, w0, HK, hc, hk, r, m, β, S, V, a, w, hr, C, K, h, Q, hQ => by
  simp only [codeB, Bool.and_eq_true, List.all_eq_true] at hc
  simp only [kindB, Bool.and_eq_true, Bool.not_eq_true'] at hk
  obtain ⟨⟨hnd, hka⟩, hkb⟩ := hk
  have hr : r = none := by
   rcases hr with h | h
   ·rw [hnd] at h; cases h
   ·exact h
  subst hr
  simp only [ev] at h
  split at h
  ·rename_i y ey
   cases hcd : (V.bv 990).isSome || (V.bv 991).isSome || !V.df.isEmpty with
   | true => rw [hcd] at h; exact h.elim
   | false =>
    rw [hcd] at h
    simp only [cond_false] at h
    simp only [Bool.or_eq_false_iff, Bool.not_eq_false', Option.isSome_eq_false_iff, Option.isNone_iff_eq_none, List.isEmpty_iff] at hcd
    rcases HK.m0 with hm0 | rfl
    ·have hw1 : ∀ w1 : W0, w1.m = none → w1.nd = true → HOK P O H w1 := fun w1 h1 h2 => ⟨HK.call, HK.iter, HK.all hnd w1, (fun e => by rw [h2] at e; cases e), .inl h1⟩
     exact rf_sound HK hm0 hnd (fun p hp => by simpa [Nat.blt_eq] using hc.2 p hp) (fun w1 h1 h2 => ev_sound TK hm assign (hw1 w1 h1 h2) hc.1.1 (by rw [h2]; exact hka)) (fun w1 h1 h2 => ev_sound TK hm body (hw1 w1 h1 h2) hc.1.2 (by rw [h2]; exact hkb)) C ey hcd.1.1 hcd.1.2 hcd.2 h hQ
    ·exact (h default).elim
  ·exact h.elim
 | .goto _, _, _, _, _, _, _, _, _, _, _, _, _, _, _, h, _, _ => h.elim
 | .refuse _, _, _, _, _, _, _, _, _, _, _, _, _, _, _, h, _, _ => h.elim
end
end Go.Proofs.YtajecapgmdfjcaaGreatDoor
