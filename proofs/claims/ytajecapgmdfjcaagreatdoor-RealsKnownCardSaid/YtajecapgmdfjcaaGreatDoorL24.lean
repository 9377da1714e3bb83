/- A function's text, reckoned: that it is so. -/
import Derived.RangeFuncIn
import Derived.RangeFuncRecord
import Derived.RangeFuncLeaves
import Derived.Test.YtajecapgmdfjcaaGreatDoorL23
namespace Go.Proofs.YtajecapgmdfjcaaGreatDoor
open Go.RowKit Vn
open Go.ChangeMaps (setBlock)
section
variable {P : Program} {O : Opq} {T : Tys} {B : Bxs} {n : Nat} {w0 : W0}
theorem Corr.frm {β : Nat → Option Nat} {S : Nat → Prop} {V : View} {a : Act} {w : World} (C : Corr O n w0 β S V a w) {m : Nat} {tv : Nat → AV} {a' : Act} {sus : List (Nat → Value)} {sv : List (Nat → AV)} {nd : Bool} {df : List AC}
  (tm : ∀ i, RepV O β S w (a'.tmps.getD i undef) (tv i)) (sz : a'.tmps.size = m) (hm : m ≤ 1000) (su : Sus O β S w nd sus sv a'.defers df) : Corr O m { w0 with sus := sus, nd := nd } β S ⟨tv, V.bv, sv, df⟩ a' w :=
 ⟨tm, sz, C.bl, C.dm, C.inj, C.sl, C.ex, C.sb, C.iv, C.om, hm, su⟩
theorem Corr.nodf {β : Nat → Option Nat} {S : Nat → Prop} {V : View} {a : Act} {w : World} (C : Corr O n w0 β S V a w) (h : w0.nd = true) : Corr O n w0 β S ⟨V.tv, V.bv, V.sv, []⟩ a w :=
 ⟨C.tm, C.sz, C.bl, C.dm, C.inj, C.sl, C.ex, C.sb, C.iv, C.om, C.hn, ⟨C.su.sm, by
  rcases C.su.df with h' | ⟨h', _⟩
  ·exact .inl h'
  ·rw [h] at h'; cases h'⟩⟩
theorem AllP.cons {α γ : Type} {R : α → γ → Prop} {l : List α} {b : γ} {m : List γ} (h : AllP R l (b :: m)) : ∃ a l', l = a :: l' ∧ R a b ∧ AllP R l' m := by
 cases l with
 | nil => exact h.elim
 | cons a l => exact ⟨a, l, rfl, h.1, h.2⟩
def slotsA (a : Act) : Nat → Value := fun i => a.tmps.getD i undef
theorem setP_rep {β : Nat → Option Nat} {S : Nat → Prop} {w : World} : ∀ (ps : List Nat) (xs : List AV) (vs : List Value) (f : Nat → AV) (t : Array Value), ps.length = xs.length → All2 (RepV O β S w) vs xs → (∀ p ∈ ps, p < t.size) → (∀ i, RepV O β S w (t.getD i undef) (f i)) →
  ∀ i, RepV O β S w (((ps.zip vs).foldl (fun t (p, v) => t.setIfInBounds p v) t).getD i undef) (setPm f ps xs i)
 | [], xs, vs, f, t, _, _, _, h, i => by
  cases xs <;> exact h i
 | p :: ps, [], _, _, _, hl, _, _, _, _ => by simp at hl
 | p :: ps, x :: xs, [], f, t, _, hv, _, _, _ => hv.elim
 | p :: ps, x :: xs, v :: vs, f, t, hl, hv, hp, h, i => by
  simp only [List.zip_cons_cons, List.foldl_cons, setPm]
  refine setP_rep ps xs vs _ _ (by simpa using hl) hv.2 (fun q hq => by simp; exact hp q (by simp [hq])) (fun j => ?_) i
  by_cases e : j = p
  ·subst e
   rw [upd_same]
   have := hp j (by simp)
   have e2 : (t.setIfInBounds j v).getD j undef = v := by simp [Array.getD, this]
   rw [e2]; exact hv.1
  ·rw [upd_ne _ _ e]
   have e2 : (t.setIfInBounds p v).getD j undef = t.getD j undef := by
    simp only [Array.getD_eq_getD_getElem?]
    rw [Array.getElem?_setIfInBounds_ne (fun h => e h.symm)]
   rw [e2]; exact h j
theorem foldl_size : ∀ (ps : List Nat) (vs : List Value) (t : Array Value), ((ps.zip vs).foldl (fun t (p, v) => t.setIfInBounds p v) t).size = t.size
 | [], _, _ => rfl
 | _ :: _, [], _ => rfl
 | p :: ps, v :: vs, t => by simp only [List.zip_cons_cons, List.foldl_cons]; rw [foldl_size ps vs]; simp
theorem Corr.recd {β : Nat → Option Nat} {S : Nat → Prop} {V : View} {a : Act} {w : World} (C : Corr O n w0 β S V a w) {h l : Nat} {o : Obj} (hb : β h = some l) (hv : V.bv h = some (.z o)) : w.heap[l]? = some o := by
 obtain ⟨X, h1, h2, _⟩ := C.bl h l hb
 rw [hv] at h1; cases h1
 exact h2
theorem Corr.setRec {β : Nat → Option Nat} {S : Nat → Prop} {V : View} {a : Act} {w : World} (C : Corr O n w0 β S V a w) {h l : Nat} {r : Loop} (hb : β h = some l) (hv : V.bv h = some (.z (.loop r))) (r' : Loop) : Corr O n w0 β S ⟨V.tv, upd V.bv h (some (.z (.loop r'))), V.sv, V.df⟩ a (w.putObj l (.loop r')) := by
 have g := C.recd hb hv
 exact C.chgM (o' := .loop r') hb g rfl (fun ⟨_, _, e⟩ => by cases e) (heap_setBlock _ g)
def Snd (P : Program) (O : Opq) (c : Code) (f : View → (Exit → View → Prop) → Prop) (n : Nat) (w0 : W0) : Prop := ∀ {r : Option Nat} {m : Nat} {β : Nat → Option Nat} {S : Nat → Prop} {V : View} {a : Act} {w : World}, (w0.nd = true ∨ r = none) → Corr O n w0 β S V a w → ∀ {K : Exit → View → Prop}, f V K → ∀ {Q : Exit → Act → World → Prop}, Beyond O n w0 K Q → c.wpIn (Fr r) m P Q a w
theorem begRd_out {R : Loop} {f : View → (Exit → View → Prop) → Prop} {Kb : View → Bool → Prop} {V : View} (h : begRd R f Kb V) : ∃ it own pt rest g, V.sv = it :: own :: pt :: rest ∧ pt 1 = .c (.p g 0) ∧ V.bv g = some (LpB R .ready none) ∧ f ⟨V.tv, upd V.bv g (some (LpB R .busy none)), V.sv, []⟩ (endRd R Kb) := by
 unfold begRd at h
 cases hv : V.sv with
 | nil => rw [hv] at h; exact h.elim
 | cons it l =>
  cases l with
  | nil => rw [hv] at h; exact h.elim
  | cons own l =>
   cases l with
   | nil => rw [hv] at h; exact h.elim
   | cons pt rest =>
    simp only [hv] at h
    split at h
    ·rename_i g e
     exact ⟨it, own, pt, rest, g, rfl, e, h.1, h.2⟩
    ·exact h.elim
theorem endRd_out {R : Loop} {Kb : View → Bool → Prop} {V : View} {e : Exit} (h : endRd R Kb e V) : ∃ it own pt rest g, V.sv = it :: own :: pt :: rest ∧ pt 1 = .c (.p g 0) ∧ V.bv g = some (LpB R .busy none) ∧ match (motive := Exit → Prop) e with
   | .normal => Kb ⟨it, upd V.bv g (some (LpB R .ready none)), own :: pt :: rest, []⟩ true
   | .ret => Kb ⟨it, upd V.bv g (some (LpB R .done (some .ret))), own :: pt :: rest, []⟩ false
   | _ => False := by
 unfold endRd at h
 cases hv : V.sv with
 | nil => rw [hv] at h; exact h.elim
 | cons it l =>
  cases l with
  | nil => rw [hv] at h; exact h.elim
  | cons own l =>
   cases l with
   | nil => rw [hv] at h; exact h.elim
   | cons pt rest =>
    simp only [hv] at h
    split at h
    ·rename_i g e
     exact ⟨it, own, pt, rest, g, rfl, e, h.1, h.2⟩
    ·exact h.elim
theorem endLp_out {K : Exit → View → Prop} {V : View} (h : endLp K V) : ∃ own pt rest d g r, V.sv = own :: pt :: rest ∧ pt 0 = .c d ∧ pt 1 = .c (.p g 0) ∧ V.bv g = some (.z (.loop r)) ∧ r.state ≠ .busy ∧
  ((r.pending = none ∧ K .normal ⟨own, upd V.bv g (some (.z (.loop { r with state := .exhausted }))), rest, [d]⟩) ∨ (r.pending = some .ret ∧ K .ret ⟨own, upd V.bv g (some (.z (.loop { r with state := .exhausted }))), rest, [d]⟩)) := by
 unfold endLp at h
 cases hv : V.sv with
 | nil => rw [hv] at h; exact h.elim
 | cons own l =>
  cases l with
  | nil => rw [hv] at h; exact h.elim
  | cons pt rest =>
   simp only [hv] at h
   split at h
   ·rename_i d g e0 e1
    split at h
    ·rename_i r er
     refine ⟨own, pt, rest, d, g, r, rfl, e0, e1, er, ?_⟩
     split at h
     ·exact h.elim
     ·rename_i hs
      refine ⟨fun e => hs e, ?_⟩
      split at h
      ·rename_i hp; exact .inl ⟨hp, h⟩
      ·rename_i hp; exact .inr ⟨hp, h⟩
      ·exact h.elim
    ·exact h.elim
   ·exact h.elim
theorem rd_sound {ps : List Nat} {assign body : Code} {g f : View → (Exit → View → Prop) → Prop} {R : Loop} {own : Nat → Value} {ptr : Nat → Value} {sus : List (Nat → Value)} (hm0 : w0.m = none) (hn : n ≤ 1000) (hps : R.params = ps.toArray) (hb : R.body = body) (ha : R.assign = assign) (htm : ∀ i, R.tmps.getD i undef = own i) (hsz : R.tmps.size = n) (hpl : ∀ p ∈ ps, p < n)
  (hg : ∀ w1 : W0, w1.m = none → w1.nd = true → Snd P O assign g n w1) (hf : ∀ w1 : W0, w1.m = none → w1.nd = true → Snd P O body f n w1) : YOK P O (rndV ps g f R) { w0 with sus := own :: ptr :: sus, nd := true } := by
 intro n' β S V a w h lo l vs K C hr hlo hvs
 unfold rndV at hr
 split at hr
 ·rename_i own' pt rest esv
  split at hr
  ·rename_i h1 ept
   obtain ⟨hc, hbv, hr2⟩ := cond_ff hr
   clear hr
   simp only [Bool.and_eq_true, Nat.beq_eq] at hc
   obtain ⟨rfl, hll⟩ := hc
   have hrec := C.recd hlo hbv
   have hlen := hvs.len
   have hsm := C.su.sm
   rw [esv] at hsm
   have hsm : (∀ i, RepV O β S w (own i) (own' i)) ∧ _ := hsm
   have hd0 : a.defers = [] := by
    rcases C.su.df with ⟨_, h⟩ | ⟨h, _⟩
    ·exact h
    ·cases h
   refine ⟨R.fn, _, R.assign, R.body, run_yield (r := { R with state := .ready, pending := none }) hrec (by show _ = R.params.size; rw [hps]; simp; omega), fun m => ?_⟩
   refine roundIn_of_wpIn (F := Fr none) trivial ?_
   rw [ha, hb]
   show assign.wpIn (Fr (some lo)) m P _ _ w
   have Cr : Corr O n { w0 with sus := slotsA a :: own :: ptr :: sus, nd := true } β S ⟨setPm own' ps l, V.bv, V.tv :: V.sv, []⟩ { tmps := (ps.zip vs).foldl (fun t (p, v) => t.setIfInBounds p v) R.tmps, defers := [] } w := by
    refine C.frm (fun i => ?_) ?_ hn ⟨⟨C.tm, C.su.sm⟩, .inl ⟨rfl, rfl⟩⟩
    ·refine setP_rep ps l vs own' R.tmps hll hvs (fun p hp => by rw [hsz]; exact hpl p hp) (fun i => ?_) i
     rw [htm]; exact hsm.1 i
    ·show (((ps.zip vs).foldl (fun t (p, v) => t.setIfInBounds p v) R.tmps)).size = n
     rw [foldl_size, hsz]
   have hz : (R.params.zip vs.toArray).foldl (fun tmps (x : Tmp × Value) => tmps.setIfInBounds x.1 x.2) R.tmps = (ps.zip vs).foldl (fun t (x : Nat × Value) => t.setIfInBounds x.1 x.2) R.tmps := by
    rw [hps, List.zip_toArray, List.foldl_toArray]
   have hz' : (({ R with state := .ready, pending := none } : Loop).params.zip vs.toArray).foldl (fun tmps (t, a) => tmps.setIfInBounds t a) ({ R with state := .ready, pending := none } : Loop).tmps = (ps.zip vs).foldl (fun t (p, v) => t.setIfInBounds p v) R.tmps := hz
   rw [hz']
   refine hg { w0 with sus := slotsA a :: own :: ptr :: sus, nd := true } hm0 rfl (.inl rfl) Cr hr2 fun e V1 a1 w1 β1 S1 hk C1 => ?_
   cases e with
   | normal =>
    show ∃ w₂, _
    obtain ⟨it, own1, pt1, rest1, h1, esv1, ept1, hbv1, hk⟩ := begRd_out hk
    have hsm1 := C1.su.sm
    rw [esv1] at hsm1
    have hp1 := hsm1.2.2.1 1
    rw [ept1] at hp1
    obtain ⟨b1, hb1, eb1⟩ := hp1
    have hp0 := hsm.2.1 1
    rw [ept] at hp0
    obtain ⟨b0, hb0, eb0⟩ := hp0
    rw [eb0] at eb1
    have eb1 : b0 = b1 := by cases eb1; rfl
    subst eb1
    rw [hlo] at hb0
    have hb0 : lo = b0 := Option.some.inj hb0
    subst hb0
    have hrec1 := C1.recd hb1 hbv1
    refine ⟨_, run_beginRound hrec1 rfl, ?_⟩
    have C2 := C1.setRec hb1 hbv1 { R with state := .busy, pending := none }
    refine hf { w0 with sus := slotsA a :: own :: ptr :: sus, nd := true } hm0 rfl (.inl rfl) (C2.nodf rfl) hk fun e V3 a3 w3 β3 S3 hk3 C3 => ?_
    obtain ⟨it3, own3, pt3, rest3, h3, esv3, ept3, hbv3, hk3⟩ := endRd_out hk3
    have hsm3 := C3.su.sm
    rw [esv3] at hsm3
    have hp3 := hsm3.2.2.1 1
    rw [ept3] at hp3
    obtain ⟨b3, hb3, eb3⟩ := hp3
    rw [eb0] at eb3
    have eb3 : lo = b3 := by cases eb3; rfl
    subst eb3
    have hrec3 := C3.recd hb3 hbv3
    have fin : ∀ (r' : Loop), Corr O n' { w0 with sus := own :: ptr :: sus, nd := true } β3 S3 ⟨it3, upd V3.bv h3 (some (.z (.loop r'))), own3 :: pt3 :: rest3, []⟩ a (w3.putObj lo (.loop r')) := by
     intro r'
     have C4 := C3.setRec hb3 hbv3 r'
     have hsm4 := C4.su.sm
     have esv4 : V3.sv = it3 :: own3 :: pt3 :: rest3 := esv3
     simp only [esv4] at hsm4
     exact C4.frm (tv := it3) (fun i => hsm4.1 i) C.sz C.hn ⟨hsm4.2, .inl ⟨rfl, hd0⟩⟩
    cases e with
    | normal => exact ⟨_, _, run_endRound none hrec3, true, _, _, _, rfl, fin _, hk3⟩
    | ret => exact ⟨_, _, run_endRound (some .ret) hrec3, false, _, _, _, rfl, fin _, hk3⟩
    | _ => exact hk3.elim
   | _ => exact hk.elim
  ·exact hr.elim
 ·exact hr.elim
theorem rf_sound {H : Hnd} (HK : HOK P O H w0) (hm0 : w0.m = none) (hnd : w0.nd = false) {g : Operand} {ps : Array Tmp} {assign body : Code} (hpl : ∀ p ∈ ps.toList, p < n) {ga fa : View → (Exit → View → Prop) → Prop}
  (hg : ∀ w1 : W0, w1.m = none → w1.nd = true → Snd P O assign ga n w1) (hf : ∀ w1 : W0, w1.m = none → w1.nd = true → Snd P O body fa n w1) {β : Nat → Option Nat} {S : Nat → Prop} {V : View} {a : Act} {w : World} (C : Corr O n w0 β S V a w) {y : AC} (ey : V.ev g = .c y)
  (h990 : V.bv 990 = none) (h991 : V.bv 991 = none) (hdf : V.df = []) {K : Exit → View → Prop} (h : ∀ R : Loop, H.iter y (rndV ps.toList ga fa R) ⟨fun _ => .j, upd (upd V.bv 990 (some (.z (.deferred (some []))))) 991 (some (LpB R .ready none)), V.tv :: ptr2 990 991 :: V.sv, []⟩ (endLp K))
  {Q : Exit → Act → World → Prop} (hQ : Beyond O n w0 K Q) {m : Nat} : (Code.rangeFunc g ps assign body).wpIn (Fr none) m P Q a w := by
 have hd0 : a.defers = [] := by
  rcases C.su.df with ⟨_, h⟩ | ⟨_, h⟩
  ·exact h
  ·rw [hdf] at h
   cases hd : a.defers with
   | nil => rfl
   | cons _ _ => rw [hd] at h; exact h.elim
 refine wpIn_rangeFunc ?_
 intro fn _
 obtain ⟨rec, hrec⟩ : ∃ rec : Loop, rec = { state := .ready, pending := none, fn, tmps := a.tmps, params := ps, assign, body, defers := w.heap.size } := ⟨_, rfl⟩
 obtain ⟨W1, hW1⟩ : ∃ W1, (w.alloc (.deferred (some []))).alloc (.loop rec) = W1 := ⟨_, rfl⟩
 have hL1 : W1.heap[w.heap.size + 1]? = some (.loop rec) := by
  rw [← hW1]; have := World.alloc_heap_new (w.alloc (.deferred (some []))) (.loop rec); rwa [World.size_alloc] at this
 have hK1 : W1.heap[w.heap.size]? = some (.deferred (some [])) := by
  rw [← hW1]; exact (Below.heap_alloc _ _ _ (by simp)).trans (World.alloc_heap_new w _)
 have hx : Ext w W1 := by
  rw [← hW1]; exact ((Below.refl _ w).alloc (Nat.le_refl _) _).alloc (by simp) _
 have C1 := C.evo hx (S' := S) (fun _ h => h) (fun _ h => .inl h)
 have lt : ∀ k b, β k = some b → b < w.heap.size := fun k b hb => by obtain ⟨_, _, h2, _⟩ := C.bl k b hb; exact h2.lt
 have C2 := C1.own (g := 990) (b := w.heap.size) (X := .z (.deferred (some []))) h990 (fun k hb => by have := lt k _ hb; omega) (fun hS => by have := C.sl _ hS; omega) C.ex.size (fun β' _ => hK1)
 have C3 := C2.own (g := 991) (b := w.heap.size + 1) (X := LpB rec .ready none) (by show upd V.bv 990 (some (.z (.deferred (some [])))) 991 = none; rw [upd_ne _ _ (by omega)]; exact h991) (fun k hb => by
  by_cases e : k = 990
  ·subst e; rw [upd_same] at hb; have hb := Option.some.inj hb; omega
  ·rw [upd_ne _ _ e] at hb; have := lt k _ hb; omega) (fun hS => by have := C.sl _ hS; omega) (by have := C.ex.size; omega) (fun β' _ => by
   show W1.heap[w.heap.size + 1]? = some (.loop _)
   rw [hL1, hrec])
 have b990 : upd (upd β 990 (some w.heap.size)) 991 (some (w.heap.size + 1)) 990 = some w.heap.size := by rw [upd_ne _ _ (by omega), upd_same]
 have b991 : upd (upd β 990 (some w.heap.size)) 991 (some (w.heap.size + 1)) 991 = some (w.heap.size + 1) := upd_same _ _ _
 obtain ⟨ptr, hptr⟩ : ∃ ptr : Nat → Value, ptr = fun i => if i = 0 then .pointer (some ⟨w.heap.size, 0, none⟩) else .pointer (some ⟨w.heap.size + 1, 0, none⟩) := ⟨_, rfl⟩
 have C4 : Corr O n { w0 with sus := slotsA a :: ptr :: w0.sus, nd := true } (upd (upd β 990 (some w.heap.size)) 991 (some (w.heap.size + 1))) S ⟨fun _ => .j, upd (upd V.bv 990 (some (.z (.deferred (some []))))) 991 (some (LpB rec .ready none)), V.tv :: ptr2 990 991 :: V.sv, []⟩ a W1 := by
  refine C3.frm (fun _ => trivial) C.sz C.hn ⟨⟨C3.tm, ⟨fun i => ?_, C3.su.sm⟩⟩, .inl ⟨rfl, hd0⟩⟩
  rw [hptr]
  match i with
  | 0 => exact ⟨_, b990, rfl⟩
  | 1 => exact ⟨_, b991, rfl⟩
  | _ + 2 => trivial
 have hy := C3.ev g
 have ey3 : (⟨V.tv, upd (upd V.bv 990 (some (.z (.deferred (some []))))) 991 (some (LpB rec .ready none)), V.sv, V.df⟩ : View).ev g = .c y := by
  rw [← ey]
  cases g <;> rfl
 rw [ey3] at hy
 have hY : YOK P O (rndV ps.toList ga fa rec) { w0 with sus := slotsA a :: ptr :: w0.sus, nd := true } :=
  rd_sound hm0 C.hn (by rw [hrec]) (by rw [hrec]) (by rw [hrec]) (fun i => by rw [hrec]; rfl) (by rw [hrec]; exact C.sz) hpl hg hf
 have HI : IterOK P O H := @HOK.iter _ _ _ _ HK
 obtain ⟨k, lb, ex, hfn, hcal⟩ := @HI n { w0 with sus := slotsA a :: ptr :: w0.sus, nd := true } _ _ _ _ _ _ _ _ _ hm0 rfl C4 (h rec) hy @hY _ _ _ _ _ rfl rfl b991
 obtain ⟨fn', f1, f2, f3⟩ := hfn
 refine ⟨w.heap.size + 1, [{ target := .collected w.heap.size, args := #[] }], W1, { target := .fn (.func k) lb, args := #[.func (.yield (w.heap.size + 1)) #[] #[]] }, W1, k, #[.func (.yield (w.heap.size + 1)) #[] #[]] ++ lb, W1, ?_, ?_, fun _ _ => trivial, ?_, (fun hx => absurd hx (by simp [Fence.wide])), ?_⟩
 ·rw [← hW1, hrec]; exact run_enterLoop_outer _ _ _ _ _
 ·simp only [resolve]
  rw [ex]
  simp [Deferred.ofValue, Act.eval]
 ·have hn' : ¬ fn'.name = "runtime.NumGoroutine" := by simpa using f2
  have hb' : ¬ fn'.body = none := fun e => by rw [e] at f3; cases f3
  simp [invoke, callFunc, f1, hn', hb']
 ·refine (hcal (m - 1)).mono ?_
  rintro e W2 ⟨⟨v, rfl⟩, V', β', S', C5, hk⟩
  obtain ⟨own, pt, rest, d, q, r, esv, e0, e1, er, hs, hk⟩ := endLp_out hk
  have hsm := C5.su.sm
  have esv' : V'.sv = own :: pt :: rest := esv
  simp only [esv'] at hsm
  have hp1 := hsm.2.1 1
  rw [e1] at hp1
  obtain ⟨b, hb, eb⟩ := hp1
  have eb : w.heap.size + 1 = b := by rw [hptr] at eb; cases eb; rfl
  subst eb
  have hrec2 := C5.recd hb er
  have C6 := C5.setRec hb er { r with state := .exhausted }
  have hsm6 := C6.su.sm
  simp only [esv'] at hsm6
  have hp0 := hsm6.2.1 0
  rw [e0] at hp0
  have hp0 : RepC O β' S' (W2.putObj (w.heap.size + 1) (.loop { r with state := .exhausted })) (.pointer (some ⟨w.heap.size, 0, none⟩)) d := by
   rw [hptr] at hp0; exact hp0
  have C7 : Corr O n w0 β' S' ⟨own, upd V'.bv q (some (.z (.loop { r with state := .exhausted }))), rest, [d]⟩ { a with defers := [{ target := .collected w.heap.size, args := #[] }] ++ a.defers } (W2.putObj (w.heap.size + 1) (.loop { r with state := .exhausted })) :=
   ⟨hsm6.1, C.sz, C6.bl, C6.dm, C6.inj, C6.sl, C6.ex, C6.sb, C6.iv, C6.om, C.hn, ⟨hsm6.2.2, .inr ⟨hnd, by rw [hd0]; exact ⟨⟨_, rfl, hp0⟩, trivial⟩⟩⟩⟩
  have he := run_endLoop (P := P) hrec2 hs
  rcases hk with ⟨hp, hk⟩ | ⟨hp, hk⟩
  ·exact ⟨none, _, he.trans (congrArg (fun p => Result.ok p _) hp), hQ _ _ _ _ _ _ hk C7⟩
  ·exact ⟨some .ret, _, he.trans (congrArg (fun p => Result.ok p _) hp), wpIn_ret (hQ _ _ _ _ _ _ hk C7)⟩
theorem ev_sound (TK : TyOK P O T) (hm : P.follows .mixedOrders = true) {H : Hnd} : ∀ (c : Code) {w0 : W0}, HOK P O H w0 → codeB B n c = true → kindB w0.nd c = true → Snd P O c (ev P O T H B c) n w0
 | .skip, w0, HK, _, _, _, _, _, _, _, _, _, _, C, K, h, Q, hQ => wpIn_skip (hQ _ _ _ _ _ _ h C)
 | .label _, w0, HK, _, _, _, _, _, _, _, _, _, _, C, K, h, Q, hQ => wpIn_label (hQ _ _ _ _ _ _ h C)
 | .region id ops d, w0, HK, hc, hk, r, m, β, S, V, a, w, hr, C, K, h, Q, hQ => by
  simp only [ev] at h
  split at h
  ·rename_i e; exact evC_sound TK hm HK hc e C h hQ
  ·rename_i l e
   obtain ⟨β', S', C'⟩ := Corr.fzs (fzOf l) C
   exact evC_sound TK hm HK hc e C' h hQ
 | .seq x y, w0, HK, hc, hk, r, m, β, S, V, a, w, hr, C, K, h, Q, hQ => by
  simp only [codeB, Bool.and_eq_true] at hc
  simp only [kindB, Bool.and_eq_true] at hk
  refine wpIn_seq (ev_sound TK hm x HK hc.1 hk.1 hr C h fun e V' a' w' β' S' hk' C' => ?_)
  cases e with
  | normal => exact ev_sound TK hm y HK hc.2 hk.2 hr C' hk' hQ
  | _ => exact hQ _ _ _ _ _ _ hk' C'
 | .cond c x y, w0, HK, hc, hk, r, m, β, S, V, a, w, hr, C, K, h, Q, hQ => by
  simp only [codeB, Bool.and_eq_true] at hc
  simp only [kindB, Bool.and_eq_true] at hk
  simp only [ev] at h
  split at h
  ·rename_i t e
   have := evC C e
   cases t with
   | true => exact wpIn_cond_true this (ev_sound TK hm x HK hc.1 hk.1 hr C h hQ)
   | false => exact wpIn_cond_false this (ev_sound TK hm y HK hc.2 hk.2 hr C h hQ)
  ·exact h.elim
 | .block id c, w0, HK, hc, hk, r, m, β, S, V, a, w, hr, C, K, h, Q, hQ => by
  simp only [codeB] at hc
  simp only [kindB] at hk
  refine wpIn_block (ev_sound TK hm c HK hc hk hr C h fun e V' a' w' β' S' hk C' => ?_)
  cases e with
  | exit i =>
   show if i = id then _ else _
   by_cases e : i = id
   ·subst e
    rw [if_pos rfl]
    have : Nat.beq i i = true := by simp
    simp only [this, cond_true] at hk
    exact hQ _ _ _ _ _ _ hk C'
   ·rw [if_neg e]
    have : Nat.beq i id = false := by
     cases hb : Nat.beq i id with
     | false => rfl
     | true => exact absurd (Nat.eq_of_beq_eq_true hb) e
    simp only [this, cond_false] at hk
    exact hQ _ _ _ _ _ _ hk C'
  | _ => exact hQ _ _ _ _ _ _ hk C'
 | .loop c, w0, HK, hc, hk, r, m, β, S, V, a, w, hr, C, K, h, Q, hQ => by
  simp only [codeB] at hc
  simp only [kindB, Bool.and_eq_true] at hk
  obtain ⟨hnd, hk⟩ := hk
  obtain ⟨m', h⟩ := h
  refine wpIn_of_LWI ?_
  have stat : ∀ {V a w β S}, Corr O n w0 β S V a w → LoopI (ev P O T H B c) K V → LWI r P c Q a w := by
   intro V a w β S C h
   obtain ⟨σ, l, mm, μ, fz, s0, A, h⟩ := h
   have key : ∀ (N : Nat) (s : σ), μ s ≤ N → ∀ {V a w β S fz}, Corr O n w0 β S V a w → Agree (l s) (mm s) (V.fzs fz) → LWI r P c Q a w := by
    intro N
    induction N with
    | zero =>
     intro s hs V a w β S fz C A
     obtain ⟨β1, S1, C1⟩ := Corr.fzs fz C
     obtain ⟨β2, C2⟩ := C1.sub hnd A
     refine LWI_of_wpIn (m := m) (ev_sound TK hm c HK hc hk hr C2 (h s) fun e V' a' w' β' S' hk C' => ?_)
     cases e with
     | normal => obtain ⟨fz', s', hlt, _⟩ := hk; omega
     | _ => exact hQ _ _ _ _ _ _ hk C'
    | succ N ih =>
     intro s hs V a w β S fz C A
     obtain ⟨β1, S1, C1⟩ := Corr.fzs fz C
     obtain ⟨β2, C2⟩ := C1.sub hnd A
     refine LWI_of_wpIn (m := m) (ev_sound TK hm c HK hc hk hr C2 (h s) fun e V' a' w' β' S' hk C' => ?_)
     cases e with
     | normal => obtain ⟨fz', s', hlt, A'⟩ := hk; exact ih s' (by omega) C' A'
     | _ => exact hQ _ _ _ _ _ _ hk C'
   exact key (μ s0) s0 (Nat.le_refl _) C A
  have key : ∀ (j : Nat) {β S V a w}, Corr O n w0 β S V a w → iter (ev P O T H B c) (LoopI (ev P O T H B c) K) K j V → LWI r P c Q a w := by
   intro j
   induction j with
   | zero => intro β S V a w C h; exact stat C h
   | succ j ih =>
    intro β S V a w C h
    refine LWI_of_wpIn (m := m) (ev_sound TK hm c HK hc hk hr C h fun e V' a' w' β' S' hk C' => ?_)
    cases e with
    | normal => exact ih C' hk
    | _ => exact hQ _ _ _ _ _ _ hk C'
  exact key m' C h
 | .exit id, w0, HK, _, _, _, _, _, _, _, _, _, _, C, K, h, Q, hQ => wpIn_exit (hQ _ _ _ _ _ _ h C)
 | .scope c, w0, HK, hc, hk, r, m, β, S, V, a, w, hr, C, K, h, Q, hQ => by
  simp only [codeB] at hc
  simp only [kindB] at hk
  refine wpIn_scope_straight (ev_sound TK hm c HK hc hk hr C h fun e V' a' w' β' S' hk C' => ?_)
  cases e with
  | goto _ => exact hk
  | _ => exact hQ _ _ _ _ _ _ hk C'
 | .ret, w0, HK, _, _, _, _, _, _, _, _, _, _, C, K, h, Q, hQ => wpIn_ret (hQ _ _ _ _ _ _ h C)
 | .rangeFunc g ps assign body, w0, HK, hc, hk, r, m, β, S, V, a, w, hr, C, K, h, Q, hQ => by
  simp only [codeB, Bool.and_eq_true, List.all_eq_true] at hc
  simp only [kindB, Bool.and_eq_true, Bool.not_eq_true'] at hk
  obtain ⟨⟨hnd, hka⟩, hkb⟩ := hk
  have hr : r = none := by
   rcases hr with h | h
   ·rw [hnd] at h; cases h
   ·exact h
  subst hr
  simp only [ev] at h
  split at h
  ·rename_i y ey
   cases hcd : (V.bv 990).isSome || (V.bv 991).isSome || !V.df.isEmpty with
   | true => rw [hcd] at h; exact h.elim
   | false =>
    rw [hcd] at h
    simp only [cond_false] at h
    simp only [Bool.or_eq_false_iff, Bool.not_eq_false', Option.isSome_eq_false_iff, Option.isNone_iff_eq_none, List.isEmpty_iff] at hcd
    rcases HK.m0 with hm0 | rfl
    ·have hw1 : ∀ w1 : W0, w1.m = none → w1.nd = true → HOK P O H w1 := fun w1 h1 h2 => ⟨HK.call, HK.iter, HK.all hnd w1, (fun e => by rw [h2] at e; cases e), .inl h1⟩
     exact rf_sound HK hm0 hnd (fun p hp => by simpa [Nat.blt_eq] using hc.2 p hp) (fun w1 h1 h2 => ev_sound TK hm assign (hw1 w1 h1 h2) hc.1.1 (by rw [h2]; exact hka)) (fun w1 h1 h2 => ev_sound TK hm body (hw1 w1 h1 h2) hc.1.2 (by rw [h2]; exact hkb)) C ey hcd.1.1 hcd.1.2 hcd.2 h hQ
    ·exact (h default).elim
  ·exact h.elim
 | .goto _, _, _, _, _, _, _, _, _, _, _, _, _, _, _, h, _, _ => h.elim
 | .refuse _, _, _, _, _, _, _, _, _, _, _, _, _, _, _, h, _, _ => h.elim
end
end Go.Proofs.YtajecapgmdfjcaaGreatDoor

/- A function: from its reckoned text to what a call of it does. -/
namespace Go.Proofs.YtajecapgmdfjcaaGreatDoor
open Go.RowKit Vn
open Go.ChangeMaps (setBlock)
section
variable {P : Program} {O : Opq} {T : Tys} {n : Nat} {w0 : W0}
def resV (bv : Nat → Option Bx) (x : AV) (k : AV → Prop) : Prop := match x with
 | .c c => cond (isP c) (frzK true bv 6 c fun d => k (.c d)) (k (.c c))
 | .g cs => allK cs fun m => cond (noPs m) (k (.g m)) False
 | _ => False
def resK (T : Tys) (V : View) : List ResultVar → (List AV → Prop) → Prop
 | [], k => k []
 | .tmp t :: r, k => resV V.bv (V.tv t) fun x => resK T V r fun l => k (x :: l)
 | .cell a t :: r, k => match T t with
  | some ty => match V.tv a with
   | .c (.p h off) => match V.bv h with
    | some X => match X.cells with
     | some (_, cs) => partK ty.agg ty.zero.length (cs.drop off) fun x => resV V.bv x fun y => resK T V r fun l => k (y :: l)
     | none => False
    | none => False
   | _ => False
  | none => False
def joinR : List AV → AV
 | [x] => x
 | l => .t l
def argV (args : List AV) : View := ⟨fun i => args.getD i (.t []), fun _ => none, [], []⟩
def argM (ag : Bool) (ks : List Int) (vs : List (List AC)) (args : List AV) : View := ⟨fun i => (AV.c (.pm 1000) :: args).getD i (.t []), ascB [(1000, .m ag ks vs)], [], []⟩
def noPA : AV → Bool
 | .c x => !isP x
 | .g _ => true
 | _ => false
def readR (tmps : Array Value) : ResultVar → Sem Value
 | .tmp t => pure (tmps.getD t undef)
 | .cell a t => do loadVar t (← asAddr (tmps.getD a undef))
theorem resV_rep {β : Nat → Option Nat} {S S' : Nat → Prop} {V : View} {a : Act} {w : World} (C : Corr O n w0 β S V a w) (hs : ∀ b, S b → S' b) (hS : ∀ h b, β h = some b → S' b) {v : Value} {x : AV} {k : AV → Prop} (r : RepV O β S w v x) (h : resV V.bv x k) :
  ∃ y, k y ∧ RepW O (fun _ => none) S' w v y := by
 cases x with
 | c c =>
  simp only [resV] at h
  cases hp : isP c with
  | true =>
   rw [hp] at h
   simp only [cond_true] at h
   obtain ⟨d, h1, h2⟩ := frzK_rep (fl := true) (S' := S') hs (fun h b hb => by
    obtain ⟨X, q1, q2, _⟩ := C.bl h b hb
    exact ⟨X, q1, q2, fun _ => hS h b hb⟩) 6 c _ v r h
   exact ⟨_, h1, Rep0.toC h2⟩
  | false =>
   rw [hp] at h
   exact ⟨_, h, Rep0.toC (Rep0.evo (Evo.refl _ _ _) hs _ _ (RepC.to0 r hp))⟩
 | g cs =>
  simp only [resV, allK_iff] at h
  obtain ⟨hn, h⟩ := cond_ff h
  obtain ⟨vs, e, r⟩ := r
  exact ⟨_, h, vs, e, RepCs.evo (Evo.refl _ _ _) hs (fun _ _ h => by cases h) (R0s.toC (β := fun _ => none) (r.to0 hn))⟩
 | t _ => exact h.elim
 | j => exact h.elim
theorem resK_run (TK : TyOK P O T) {β : Nat → Option Nat} {S S' : Nat → Prop} {V : View} {a : Act} {w : World} (C : Corr O n w0 β S V a w) (hs : ∀ b, S b → S' b) (hS : ∀ h b, β h = some b → S' b) : ∀ (rs : List ResultVar) (k : List AV → Prop), resK T V rs k →
  ∃ vs l, (rs.mapM (readR a.tmps)).run P w = .ok vs w ∧ All2 (RepW O (fun _ => none) S' w) vs l ∧ k l
 | [], k, h => ⟨[], [], rfl, trivial, h⟩
 | .tmp t :: r, k, h => by
  simp only [resK] at h
  obtain ⟨x, h, hx⟩ := resV_rep C hs hS (C.tm t) h
  obtain ⟨vs, l, h1, h2, h3⟩ := resK_run TK C hs hS r _ h
  refine ⟨a.tmps.getD t undef :: vs, x :: l, ?_, ⟨hx, h2⟩, h3⟩
  rw [List.mapM_cons, Sem.run_bind]
  show Result.andThen (Result.ok _ w) _ = _
  rw [Result.andThen_ok, Sem.run_bind, h1]; rfl
 | .cell x t :: r, k, h => by
  simp only [resK] at h
  have hr := C.tm x
  cases ht : T t with
  | none => simp only [ht] at h
  | some ty =>
   simp only [ht] at h
   split at h
   ·rename_i g off hv
    rw [hv] at hr
    obtain ⟨b, hb, e'⟩ := hr
    obtain ⟨X, q1, q2, _⟩ := C.bl g b hb
    simp only [q1] at h
    split at h
    ·rename_i U cs hc
     obtain ⟨vs, ts, g1, g2, _⟩ := q2.toCells hc
     obtain ⟨v, y, l1, l2, l3, l4, l5⟩ := load_rep (β := β) TK ht (b := b) (off := off) (vs := vs.drop off) (fun j v hj => by
      rw [List.getElem?_drop] at hj
      have hl := (List.getElem?_eq_some_iff.1 hj).1
      simp only [World.cell?, g1]
      simpa [List.getElem?_append_left hl] using hj) (All2.drop off g2) h
     obtain ⟨z, l3, hz⟩ := resV_rep C hs hS (l2.toV l5) l3
     obtain ⟨us, l, h1, h2, h3⟩ := resK_run TK C hs hS r _ l3
     refine ⟨v :: us, z :: l, ?_, ⟨hz, h2⟩, h3⟩
     have hl : (loadVar t ⟨b, off, none⟩).run P w = .ok v w := by
      simpa only [Instr.loadAt, Instr.sureAddr, Sem.run_bind, Sem.run_pure, Result.andThen_ok] using l1
     rw [List.mapM_cons, Sem.run_bind]
     unfold readR
     rw [Sem.run_bind, e']
     show Result.andThen (Result.andThen (Result.ok _ w) _) _ = _
     rw [Result.andThen_ok, hl, Result.andThen_ok, Sem.run_bind]
     have h1' := h1
     unfold readR at h1'
     rw [h1']; rfl
    ·exact h.elim
   ·exact h.elim
theorem results_run {fn : Func} {a : Act} {w : World} {us : List Value} (h1 : (fn.results.toList.mapM (readR a.tmps)).run P w = .ok us w) :
  (results fn a.tmps).run P w = .ok (if h : us.toArray.size = 1 then us.toArray[0] else .tuple us.toArray) w := by
 have e0 : results fn a.tmps = (fn.results.mapM (readR a.tmps) >>= fun vs => pure (if h : vs.size = 1 then vs[0] else .tuple vs)) := by
  have : (fun x : ResultVar => (match x with | .tmp t => pure (a.tmps.getD t undef) | .cell b t => do loadVar t (← asAddr (a.tmps.getD b undef)) : Sem Value)) = readR a.tmps := by funext x; cases x <;> rfl
  rw [← this]; rfl
 rw [e0, Array.mapM_eq_mapM_toList, Sem.run_bind]
 have : ∀ (m : Sem (List Value)), m.run P w = .ok us w → (List.toArray <$> m).run P w = .ok us.toArray w := by
  intro m hm'
  rw [← bind_pure_comp, Sem.run_bind, hm']; rfl
 rw [this _ h1]; rfl
theorem init_tm {β : Nat → Option Nat} {S : Nat → Prop} {w : World} {vs : List Value} {args : List AV} (hvs : All2 (RepW O β S w) vs args) (ha : ∀ l, AV.t l ∉ args) (m i : Nat) (_ : args.length ≤ m) :
  RepV O β S w ((vs.toArray ++ Array.replicate (m - vs.toArray.size) undef).getD i undef) (args.getD i (.t [])) := by
 have hlen := hvs.len
 rcases Nat.lt_or_ge i args.length with hi | hi
 ·have hx : args[i]? = some args[i] := List.getElem?_eq_getElem hi
  obtain ⟨v, hv, rv⟩ := hvs.get i _ hx
  have e1 : (vs.toArray ++ Array.replicate (m - vs.toArray.size) undef).getD i undef = v := by
   rw [Array.getD_eq_getD_getElem?, Array.getElem?_append_left (by simp; omega)]
   simp [hv]
  have e2 : args.getD i (.t []) = args[i] := by rw [List.getD_eq_getElem?_getD, hx]; rfl
  rw [e1, e2]
  exact rv.toV (fun l hl' => ha l (hl' ▸ List.getElem_mem hi))
 ·have e1 : (vs.toArray ++ Array.replicate (m - vs.toArray.size) undef).getD i undef = undef := by
   rw [Array.getD_eq_getD_getElem?, Array.getElem?_append_right (by simp; omega)]
   cases hq : (Array.replicate (m - vs.toArray.size) undef)[i - vs.toArray.size]? with
   | none => rfl
   | some y =>
    have := Array.getElem?_eq_some_iff.1 hq
    obtain ⟨_, e⟩ := this
    simp at e; rw [← e]; rfl
  have e2 : args.getD i (.t []) = .t [] := by rw [List.getD_eq_getElem?_getD, List.getElem?_eq_none hi]; rfl
  rw [e1, e2]
  exact ⟨[], rfl, trivial⟩
theorem noPA_t {args : List AV} (h : args.all noPA = true) : ∀ l, AV.t l ∉ args := fun l hl => by
 have := (List.all_eq_true.1 h) _ hl
 cases this
def markV (V : View) (k : View → Prop) : Prop := match V.df with
 | [] => k V
 | [.p g 0] => match V.bv g with
  | some (.z (.deferred (some []))) => k ⟨V.tv, upd V.bv g (some (.z (.deferred none))), V.sv, V.df⟩
  | _ => False
 | _ => False
def markN (nd : Bool) (V : View) (k : View → Prop) : Prop := match nd with
 | true => k V
 | false => markV V k
theorem markV_out {V : View} {k : View → Prop} (h : markV V k) : (V.df = [] ∧ k V) ∨ ∃ g, V.df = [.p g 0] ∧ V.bv g = some (.z (.deferred (some []))) ∧ k ⟨V.tv, upd V.bv g (some (.z (.deferred none))), V.sv, V.df⟩ := by
 unfold markV at h
 split at h
 ·rename_i e; exact .inl ⟨e, h⟩
 ·rename_i g e
  split at h
  ·rename_i eb; exact .inr ⟨g, e, eb, h⟩
  ·exact h.elim
 ·exact h.elim
def codeK (nd : Bool) (B : Bxs) (m : Nat) (c : Code) : Bool := codeB B m c && kindB nd c
theorem codeK_out {nd : Bool} {m : Nat} {c : Code} {B : Bxs} (h : codeK nd B m c = true) : codeB B m c = true ∧ kindB nd c = true := by simpa [codeK] using h
theorem fn_core (B : Bxs) (TK : TyOK P O T) (hm : P.follows .mixedOrders = true) {H : Hnd} (HK : HOK P O H w0) {k : FuncId} {fn : Func} {c : Code} (hf : P.funcs[k]? = some fn) (hb : fn.body = some c) (hc : codeB B fn.ntmps c = true) (hkd : kindB w0.nd c = true)
  {vs : List Value} {w : World} {β : Nat → Option Nat} {S : Nat → Prop} {V : View} (C : Corr O fn.ntmps w0 β S V { tmps := vs.toArray ++ Array.replicate (fn.ntmps - vs.toArray.size) undef, defers := [] } w)
  {Kf : View → Prop} (h : ev P O T H B c V fun e V => match e with
   | .normal => markN w0.nd V Kf
   | .ret => markN w0.nd V Kf
   | _ => False) {R : Ending → World → Prop}
  (fin : ∀ V a w' β' S', Kf V → Corr O fn.ntmps w0 β' S' V a w' → ∃ us, (fn.results.toList.mapM (readR a.tmps)).run P w' = .ok us w' ∧ R (.returned (if h : us.toArray.size = 1 then us.toArray[0] else .tuple us.toArray)) w') : Calls P k vs.toArray w R := by
 refine (callsIn_wide (n := 0)).1 ?_
 refine callsIn_of_wp_marks hf hb trivial ?_
 show c.wpIn (Fr none) 0 P _ _ w
 refine ev_sound TK hm c HK hc hkd (.inr rfl) C h fun e V a w' β' S' hk C' => ?_
 have go : markN w0.nd V Kf → LeavesInM Fence.wide 0 P fn a.tmps R a.defers .returning w' := fun hk => by
  rcases C'.su.df with ⟨hnd, hd⟩ | ⟨hnd, hd⟩
  ·rw [hd]
   rw [hnd] at hk
   obtain ⟨us, h1, h2⟩ := fin V a w' β' S' hk C'
   exact ⟨_, results_run h1, h2⟩
  ·rw [hnd] at hk
   rcases markV_out hk with ⟨h1, hk⟩ | ⟨g, h1, h2, hk⟩
   ·rw [h1] at hd
    have hd : a.defers = [] := by
     cases hq : a.defers with
     | nil => rfl
     | cons _ _ => rw [hq] at hd; exact hd.elim
    rw [hd]
    obtain ⟨us, h1, h2⟩ := fin V a w' β' S' hk C'
    exact ⟨_, results_run h1, h2⟩
   ·rw [h1] at hd
    obtain ⟨d, hds, e1⟩ : ∃ d, a.defers = [d] ∧ ∃ D, d = { target := .collected D, args := #[] } ∧ RepC O β' S' w' (.pointer (some ⟨D, 0, none⟩)) (.p g 0) := by
     cases hq : a.defers with
     | nil => rw [hq] at hd; exact hd.elim
     | cons d l =>
      rw [hq] at hd
      cases l with
      | nil => exact ⟨d, rfl, hd.1⟩
      | cons _ _ => exact hd.2.elim
    obtain ⟨D, ed, hD⟩ := e1
    obtain ⟨b, hb', eb⟩ := hD
    have eb : D = b := by cases eb; rfl
    subst eb
    have hrec := C'.recd hb' h2
    have C3 := C'.chgM (X := .z (.deferred none)) (o' := .deferred none) hb' hrec rfl (fun ⟨_, _, e⟩ => by cases e) (heap_setBlock _ hrec)
    rw [hds, ed]
    obtain ⟨us, h1, h2⟩ := fin _ a _ β' S' hk C3
    exact ⟨(fun h => by cases h), .inl ⟨D, _, rfl, run_takeDeferred hrec, _, results_run h1, h2⟩⟩
 cases e with
 | normal => exact go hk
 | ret => exact go hk
 | exit _ => exact hk
 | goto _ => exact hk
 | panic _ => exact hk.elim
 | outgrown => exact hk.elim
theorem argC {S : Nat → Prop} {w : World} {vs : List Value} {args : List AV} (hS : ∀ b, S b → b < w.heap.size) (hI : O.inv w) (hvs : All2 (RepW O (fun _ => none) S w) vs args) {m : Nat} (hl : args.length ≤ m) (hm : m ≤ 1000) (ha : args.all noPA = true) (nd : Bool := true) :
  Corr O m ⟨w, S, none, [], nd⟩ (fun _ => none) S (argV args) { tmps := vs.toArray ++ Array.replicate (m - vs.toArray.size) undef, defers := [] } w := by
 have hlen := hvs.len
 exact ⟨fun i => init_tm hvs (noPA_t ha) m i hl, (by simp; omega), fun h b hb => (by cases hb), fun h hs => (by cases hs), fun _ _ _ hb => (by cases hb), hS, ⟨w, rfl, Below.refl _ _⟩, fun b hb => .inl hb, hI, fun _ h => (by cases h), hm, ⟨trivial, by
  cases nd with
  | true => exact .inl ⟨rfl, rfl⟩
  | false => exact .inr ⟨rfl, trivial⟩⟩⟩
theorem joinR_rep {S : Nat → Prop} {w : World} {us : List Value} {l : List AV} {r : AV} (h : All2 (RepW O (fun _ => none) S w) us l) (e : joinR l = r) : RepV O (fun _ => none) S w (if h : us.toArray.size = 1 then us.toArray[0] else .tuple us.toArray) r := by
 cases us with
 | nil =>
  cases l with
  | nil => rw [← e]; exact ⟨[], rfl, trivial⟩
  | cons _ _ => exact h.elim
 | cons u us =>
  cases l with
  | nil => exact h.elim
  | cons x l =>
   cases us with
   | nil =>
    cases l with
    | cons _ _ => exact h.2.elim
    | nil =>
     have e : x = r := e
     subst e
     exact h.1.toV (fun l hl => by rw [hl] at h; exact h.1.elim)
   | cons u' us =>
    cases l with
    | nil => exact h.2.elim
    | cons x' l =>
     have e : AV.t (x :: x' :: l) = r := e
     subst e
     have : ¬ (u :: u' :: us).toArray.size = 1 := by simp
     rw [dif_neg this]
     exact ⟨_, rfl, h⟩
theorem fn_callB (B : Bxs) (TK : TyOK P O T) (hm : P.follows .mixedOrders = true) {k : FuncId} {fn : Func} {c : Code} (hf : P.funcs[k]? = some fn) (hb : fn.body = some c) (hn : (fn.name == "runtime.NumGoroutine") = false)
  {args : List AV} (hl : (Nat.ble args.length fn.ntmps && Nat.ble fn.ntmps 1000) = true) (hc : codeK true B fn.ntmps c = true) {r : AV} (hr : noPV r = true) (ha : args.all noPA = true)
  (h : ev P O T H0 B c (argV args) fun e V => match e with
   | .normal => resK T V fn.results.toList fun l => joinR l = r
   | .ret => resK T V fn.results.toList fun l => joinR l = r
   | _ => False) : Cal P O k args r := by
 simp only [Bool.and_eq_true, Nat.ble_eq] at hl
 refine ⟨⟨fn, hf, hn, by rw [hb]; rfl⟩, hr, fun S w vs hS hI hvs => ?_⟩
 refine fn_core (Kf := fun V => resK T V fn.results.toList fun l => joinR l = r) B TK hm (HOK.h0 _) hf hb (codeK_out hc).1 (codeK_out hc).2 (argC hS hI hvs hl.1 hl.2 ha) h fun V a w' β' S' hk C' => ?_
 obtain ⟨us, l, h1, h2, h3⟩ := resK_run TK C' (S' := fun b => S b ∨ (w.heap.size ≤ b ∧ b < w'.heap.size)) (fun b hb => (C'.sb b hb).imp id fun h => ⟨h, C'.sl b hb⟩) (fun h b hb => by
  obtain ⟨X, _, q2, q3, _⟩ := C'.bl h b hb
  rcases q3 with q3 | q3
  ·exact .inr ⟨q3, q2.lt⟩
  ·cases q3) _ _ hk
 obtain ⟨w1, e, hx⟩ := C'.ex
 have e : w1 = w := e
 subst e
 exact ⟨us, h1, _, rfl, hx, joinR_rep h2 h3⟩
theorem fn_call (TK : TyOK P O T) (hm : P.follows .mixedOrders = true) {k : FuncId} {fn : Func} {c : Code} (hf : P.funcs[k]? = some fn) (hb : fn.body = some c) (hn : (fn.name == "runtime.NumGoroutine") = false)
  {args : List AV} (hl : (Nat.ble args.length fn.ntmps && Nat.ble fn.ntmps 1000) = true) (hc : codeK true [] fn.ntmps c = true) {r : AV} (hr : noPV r = true) (ha : args.all noPA = true)
  (h : ev P O T H0 [] c (argV args) fun e V => match e with
   | .normal => resK T V fn.results.toList fun l => joinR l = r
   | .ret => resK T V fn.results.toList fun l => joinR l = r
   | _ => False) : Cal P O k args r := fn_callB [] TK hm hf hb hn hl hc hr ha h
theorem fn_callD (B : Bxs) (TK : TyOK P O T) (hm : P.follows .mixedOrders = true) {H : Hnd} (HK : ∀ w0 : W0, w0.m = none → HOK P O H w0) {nd : Bool} {k : FuncId} {fn : Func} {c : Code} (hf : P.funcs[k]? = some fn) (hb : fn.body = some c) (hn : (fn.name == "runtime.NumGoroutine") = false)
  {args : List AV} (hl : (Nat.ble args.length fn.ntmps && Nat.ble fn.ntmps 1000) = true) (hc : codeK nd B fn.ntmps c = true) {r : AV} (hr : noPV r = true) (ha : args.all noPA = true)
  (h : ev P O T H B c (argV args) fun e V => match e with
   | .normal => markN nd V fun V => resK T V fn.results.toList fun l => joinR l = r
   | .ret => markN nd V fun V => resK T V fn.results.toList fun l => joinR l = r
   | _ => False) : Cal P O k args r := by
 simp only [Bool.and_eq_true, Nat.ble_eq] at hl
 refine ⟨⟨fn, hf, hn, by rw [hb]; rfl⟩, hr, fun S w vs hS hI hvs => ?_⟩
 refine fn_core (Kf := fun V => resK T V fn.results.toList fun l => joinR l = r) (w0 := ⟨w, S, none, [], nd⟩) B TK hm (HK _ rfl) hf hb (codeK_out hc).1 (codeK_out hc).2 (argC hS hI hvs hl.1 hl.2 ha nd) h fun V a w' β' S' hk C' => ?_
 obtain ⟨us, l, h1, h2, h3⟩ := resK_run TK C' (S' := fun b => S b ∨ (w.heap.size ≤ b ∧ b < w'.heap.size)) (fun b hb => (C'.sb b hb).imp id fun h => ⟨h, C'.sl b hb⟩) (fun h b hb => by
  obtain ⟨X, _, q2, q3, _⟩ := C'.bl h b hb
  rcases q3 with q3 | q3
  ·exact .inr ⟨q3, q2.lt⟩
  ·cases q3) _ _ hk
 obtain ⟨w1, e, hx⟩ := C'.ex
 have e : w1 = w := e
 subst e
 exact ⟨us, h1, _, rfl, hx, joinR_rep h2 h3⟩
def resN (V : View) (rs : List ResultVar) (Y : Bx → Prop) : Prop := match rs with
 | [.tmp t] => match V.tv t with
  | .c (.pm h) => match V.bv h with
   | some X => Y X
   | none => False
  | _ => False
 | _ => False
theorem resN_run {Y : Bx → Prop} {fn : Func} {β : Nat → Option Nat} {S : Nat → Prop} {V : View} {a : Act} {w : World} (C : Corr O n w0 β S V a w) (h : resN V fn.results.toList Y) :
  ∃ g b X, V.bv g = some X ∧ Y X ∧ β g = some b ∧ (fn.results.toList.mapM (readR a.tmps)).run P w = .ok [.map (some b)] w := by
 unfold resN at h
 split at h
 ·rename_i t e
  split at h
  ·rename_i g hv
   split at h
   ·rename_i X hb
    have hr := C.tm t
    rw [hv] at hr
    obtain ⟨b, hb', ex⟩ := hr
    refine ⟨g, b, X, hb, h, hb', ?_⟩
    rw [e, List.mapM_cons, Sem.run_bind]
    show Result.andThen (Result.ok _ w) _ = _
    rw [Result.andThen_ok, ex]; rfl
   ·exact h.elim
  ·exact h.elim
 ·exact h.elim
theorem fn_callN (B : Bxs) (TK : TyOK P O T) (hm : P.follows .mixedOrders = true) {k : FuncId} {fn : Func} {c : Code} (hf : P.funcs[k]? = some fn) (hb : fn.body = some c) (hn : (fn.name == "runtime.NumGoroutine") = false)
  {args : List AV} (hl : (Nat.ble args.length fn.ntmps && Nat.ble fn.ntmps 1000) = true) (hc : codeK true B fn.ntmps c = true) {ag : Bool} {ks : List Int} {vs : List (List AC)} (hfl : FlatVs vs) (ha : args.all noPA = true)
  (h : ev P O T H0 B c (argV args) fun e V => match e with
   | .normal => resN V fn.results.toList fun X => X = .m ag ks vs
   | .ret => resN V fn.results.toList fun X => X = .m ag ks vs
   | _ => False) : CalN P O k args (.c (.mp ag ks vs)) := by
 simp only [Bool.and_eq_true, Nat.ble_eq] at hl
 refine ⟨⟨fn, hf, hn, by rw [hb]; rfl⟩, rfl, fun S w us hS hI hvs => ?_⟩
 refine fn_core (Kf := fun V => resN V fn.results.toList fun X => X = .m ag ks vs) B TK hm (HOK.h0 _) hf hb (codeK_out hc).1 (codeK_out hc).2 (argC hS hI hvs hl.1 hl.2 ha) h fun V a w' β' S' hk C' => ?_
 obtain ⟨g, b, X, h1, h2, h3, h4⟩ := resN_run (P := P) C' hk
 subst h2
 obtain ⟨Y, q1, q2, q3, q4⟩ := C'.bl g b h3
 rw [h1] at q1; cases q1
 have hlt := q2.lt
 obtain ⟨w1, e, hx⟩ := C'.ex
 have e : w1 = w := e
 subst e
 refine ⟨_, h4, _, rfl, hx, ?_⟩
 show Rep0 O _ w' (.mp ag ks vs) (.map (some b))
 simp only [Rep0]
 obtain ⟨E, ck, L, g1, g2, g3, g4⟩ := q2
 refine ⟨b, E, ck, L, ⟨?_, hlt⟩, rfl, g1, g2, g3, g4.flat hfl⟩
 rcases q3 with q3 | q3
 ·exact q3
 ·cases q3
def resS (V : View) (rs : List ResultVar) (Y : AC → Option Bx → Prop) : Prop := match rs with
 | [.tmp t] => match V.tv t with
  | .c (.os h n wd) => Y (.os 0 n wd) (V.bv h)
  | _ => False
 | _ => False
theorem fn_callS (B : Bxs) (TK : TyOK P O T) (hm : P.follows .mixedOrders = true) {k : FuncId} {fn : Func} {c : Code} (hf : P.funcs[k]? = some fn) (hb : fn.body = some c) (hn : (fn.name == "runtime.NumGoroutine") = false)
  {args : List AV} (hl : (Nat.ble args.length fn.ntmps && Nat.ble fn.ntmps 1000) = true) (hc : codeK true B fn.ntmps c = true) {n wd : Nat} {U : TypeId} {cs : List AC} (hfl : ∀ c ∈ cs, flatC c = true) (hU : O.box U = true) (ha : args.all noPA = true)
  (h : ev P O T H0 B c (argV args) fun e V => match e with
   | .normal => resS V fn.results.toList fun y X => y = .os 0 n wd ∧ X = some (.r U wd cs)
   | .ret => resS V fn.results.toList fun y X => y = .os 0 n wd ∧ X = some (.r U wd cs)
   | _ => False) : CalS P O k args n wd U cs := by
 simp only [Bool.and_eq_true, Nat.ble_eq] at hl
 refine ⟨⟨fn, hf, hn, by rw [hb]; rfl⟩, hU, hfl, fun S w vs hS hI hvs => ?_⟩
 refine fn_core (Kf := fun V => resS V fn.results.toList fun y X => y = .os 0 n wd ∧ X = some (.r U wd cs)) B TK hm (HOK.h0 _) hf hb (codeK_out hc).1 (codeK_out hc).2 (argC hS hI hvs hl.1 hl.2 ha) h fun V a w' β' S' hk C' => ?_
 unfold resS at hk
 split at hk
 ·rename_i t er
  split at hk
  ·rename_i g m wd' hv
   obtain ⟨e1, hX⟩ := hk
   cases e1
   have hr := C'.tm t
   rw [hv] at hr
   obtain ⟨b, cap, c0, U0, hb', ex, h0, hsz, hmx, hnc⟩ := hr
   obtain ⟨Y, q1, q2, q3, q4⟩ := C'.bl g b hb'
   rw [hX] at q1; cases q1
   obtain ⟨us, ts, g1, g2, g3⟩ := q2
   rw [h0] at g1; cases g1
   obtain ⟨w1, e, hx⟩ := C'.ex
   have e : w1 = w := e
   subst e
   have hbn : w1.heap.size ≤ b := by
    rcases q3 with q3 | q3
    ·exact q3
    ·cases q3
   have flat : ∀ {us : List Value} {cs : List AC}, (∀ c ∈ cs, flatC c = true) → RepCs O β' S' w' us cs → All2 (fun x c => Rep0 O (fun _ => False) w' c x) us cs := by
    intro us
    induction us with
    | nil => intro cs _ r; cases cs with
     | nil => trivial
     | cons _ _ => exact r.elim
    | cons u us ih => intro cs hf r; cases cs with
     | nil => exact r.elim
     | cons c cs =>
      refine ⟨?_, ih (fun c hc => hf c (by simp [hc])) r.2⟩
      have h1 := hf c (by simp)
      have r1 := r.1
      cases c with
      | v y => exact r1
      | o k n => exact r1
      | _ => cases h1
   refine ⟨[.slice (some ⟨b, 0, none⟩) n cap], ?_, b, cap, us, ts, rfl, hx, hbn, h0, flat hfl g2, by simpa using hsz, hmx, hnc⟩
   rw [er, List.mapM_cons, Sem.run_bind]
   show Result.andThen (Result.ok _ w') _ = _
   rw [Result.andThen_ok, ex]; rfl
  ·exact hk.elim
 ·exact hk.elim
def resH (V : View) (rs : List ResultVar) (X : Bx) : Prop := match rs with
 | [.tmp t] => V.tv t = .c (.pm 1000) ∧ V.bv 1000 = some X
 | _ => False
theorem fn_callH (B : Bxs) (TK : TyOK P O T) (hm : P.follows .mixedOrders = true) {k : FuncId} {fn : Func} {c : Code} (hf : P.funcs[k]? = some fn) (hb : fn.body = some c) (hn : (fn.name == "runtime.NumGoroutine") = false)
  {ag : Bool} {ks : List Int} {vs : List (List AC)} {args : List AV} (hl : (Nat.ble (args.length + 1) fn.ntmps && Nat.ble fn.ntmps 1000) = true) (hc : codeK true B fn.ntmps c = true) {ks' : List Int} {vs' : List (List AC)} (ha : args.all noPA = true)
  (h : ev P O T H0 B c (argM ag ks vs args) fun e V => match e with
   | .normal => resH V fn.results.toList (.m ag ks' vs')
   | .ret => resH V fn.results.toList (.m ag ks' vs')
   | _ => False) : CalH P O k ag ks vs args ks' vs' := by
 simp only [Bool.and_eq_true, Nat.ble_eq] at hl
 refine ⟨⟨fn, hf, hn, by rw [hb]; rfl⟩, fun S w b us hS hnS hI hmap hvs => ?_⟩
 have hlen := hvs.len
 have hβ : ∀ {h x : Nat}, cond (Nat.beq h 1000) (some b) none = some x → h = 1000 ∧ x = b := by
  intro h x e
  cases hh : Nat.beq h 1000 with
  | false => rw [hh] at e; cases e
  | true => rw [hh] at e; cases e; exact ⟨Nat.eq_of_beq_eq_true hh, rfl⟩
 have hmap' := hmap
 obtain ⟨E, ck, L, g1, _⟩ := hmap'
 have hvs' : All2 (RepW O (fun h => cond (Nat.beq h 1000) (some b) none) S w) (Value.map (some b) :: us) (AV.c (.pm 1000) :: args) :=
  ⟨⟨b, rfl, rfl⟩, All2.mono (fun _ _ r => RepW.evo (Evo.refl _ _ _) (fun _ h => h) (fun _ _ h => by cases h) r) hvs⟩
 have hx0 : Ext (setBlock w b (.map E ck)) w := ⟨rfl, rfl, rfl, by rw [size_setBlock]; exact Nat.le_refl _, fun j _ => by
  by_cases e : j = b
  ·subst e; rw [heap_setBlock _ g1, g1]
  ·rw [heap_setBlock_ne _ e]⟩
 have C : Corr O fn.ntmps ⟨w, S, some b, [], true⟩ (fun h => cond (Nat.beq h 1000) (some b) none) S (argM ag ks vs args) { tmps := (Value.map (some b) :: us).toArray ++ Array.replicate (fn.ntmps - (Value.map (some b) :: us).toArray.size) undef, defers := [] } w := by
  refine ⟨fun i => init_tm hvs' (fun l hl => ?_) _ i (by simp; omega), (by simp; omega), fun h x hx => ?_, fun h hs => ?_, fun h h' x e e' => by rw [(hβ e).1, (hβ e').1], hS, ⟨_, ⟨E, ck, E, ck, g1, rfl⟩, hx0⟩, fun b hb => .inl hb, hI, (fun x hx => by cases hx; rfl), hl.2, ⟨trivial, .inl ⟨rfl, rfl⟩⟩⟩
  ·cases hl with
   | tail _ hl => exact noPA_t ha l hl
  ·obtain ⟨rfl, rfl⟩ := hβ hx
   exact ⟨.m ag ks vs, rfl, hmap, .inr rfl, hnS⟩
  ·have hs : (ascB [(1000, .m ag ks vs)] h).isSome = true := hs
   show (cond (Nat.beq h 1000) (some b) none).isSome = true
   simp only [ascB] at hs
   cases hh : Nat.beq h 1000 with
   | true => rfl
   | false => rw [hh] at hs; cases hs
 refine fn_core (Kf := fun V => resH V fn.results.toList (.m ag ks' vs')) B TK hm (HOK.h0 _) hf hb (codeK_out hc).1 (codeK_out hc).2 C h fun V a w' β' S' hk C' => ?_
 simp only [resH] at hk
 split at hk
 ·rename_i t e
  obtain ⟨h1, h2⟩ := hk
  have hr := C'.tm t
  rw [h1] at hr
  obtain ⟨b', hb', ex⟩ := hr
  have h3 := C'.om b rfl
  rw [h3] at hb'; cases hb'
  obtain ⟨X, q1, q2, _⟩ := C'.bl 1000 b h3
  rw [h2] at q1; cases q1
  obtain ⟨w1, hp, hx⟩ := C'.ex
  obtain ⟨E1, ck1, E2, ck2, p1, p2⟩ := hp
  subst p2
  refine ⟨[.map (some b)], ?_, rfl, ⟨E1, ck1, E2, ck2, p1, hx⟩, ?_⟩
  ·rw [e, List.mapM_cons, Sem.run_bind]
   show Result.andThen (Result.ok _ w') _ = _
   rw [Result.andThen_ok, ex]; rfl
  ·obtain ⟨E3, ck3, L3, r1, r2, r3, r4⟩ := q2
   exact ⟨E3, ck3, L3, r1, r2, r3, RepEnts.evo (Evo.refl _ _ _) (fun x hx => (C'.sb x hx).imp id fun h => ⟨h, C'.sl x hx⟩) _ _ _ _ r4⟩
 ·exact hk.elim
end
end Go.Proofs.YtajecapgmdfjcaaGreatDoor
