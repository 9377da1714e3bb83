/- What stands in slots and boxes, brought out: a view of lists, frames that wait kept. -/
import Derived.Test.YtajecapgmdfjcaaGreatDoorN28
namespace Go.Proofs.YtajecapgmdfjcaaGreatDoor
open Go.RowKit Vn
section
variable {P : Program} {O : Opq} {T : Tys} {n : Nat} {w0 : W0} {β : Nat → Option Nat} {S : Nat → Prop} {V : View} {a : Act} {w : World} {bs : List Nat}
def pickB (h : Nat) : List Nat → Option Nat
 | [] => none
 | t :: l => cond (Nat.beq h t) (some t) (pickB h l)
theorem pickB_ok {h g : Nat} : ∀ {l : List Nat}, pickB h l = some g → g = h ∧ memB h l = true
 | t :: l, e => by
  simp only [pickB] at e
  simp only [memB, Bool.or_eq_true]
  cases hb : Nat.beq h t with
  | true => rw [hb] at e; cases e; exact ⟨(Nat.eq_of_beq_eq_true hb).symm, .inl rfl⟩
  | false => rw [hb] at e; exact (pickB_ok e).imp id .inr
def frcC (bs : List Nat) (c : AC) (k : AC → Prop) : Prop := match c with
 | .v x => k (.v x)
 | .o a b => k (.o a b)
 | .e cs => k (.e cs)
 | .sl wd xs => k (.sl wd xs)
 | .mp ag ks vs => k (.mp ag ks vs)
 | .cl f cs => k (.cl f cs)
 | .u => k .u
 | .p h off => match pickB h bs with
  | some g => k (.p g off)
  | none => k .u
 | .pm h => match pickB h bs with
  | some g => k (.pm g)
  | none => k .u
 | .os h n wd => match pickB h bs with
  | some g => k (.os g n wd)
  | none => k .u
 | .clp f h cs => match pickB h bs with
  | some g => k (.clp f g cs)
  | none => k .u
def kC (bs : List Nat) (c c' : AC) : Prop := c' = .u ∨ (c' = c ∧ ∀ h, refC c = some h → memB h bs = true)
theorem frcC_ok {c : AC} {k : AC → Prop} (h : frcC bs c k) : ∃ c', kC bs c c' ∧ k c' := by
 have plain : ∀ {c : AC}, refC c = none → k c → ∃ c', kC bs c c' ∧ k c' := fun hr h => ⟨_, .inr ⟨rfl, fun h e => by rw [hr] at e; cases e⟩, h⟩
 cases c <;> simp only [frcC] at h
 case p g off =>
  split at h
  ·rename_i g' e
   obtain ⟨rfl, hm⟩ := pickB_ok e
   exact ⟨_, .inr ⟨rfl, fun h e => by cases e; exact hm⟩, h⟩
  ·exact ⟨_, .inl rfl, h⟩
 case pm g =>
  split at h
  ·rename_i g' e
   obtain ⟨rfl, hm⟩ := pickB_ok e
   exact ⟨_, .inr ⟨rfl, fun h e => by cases e; exact hm⟩, h⟩
  ·exact ⟨_, .inl rfl, h⟩
 case os g m wd =>
  split at h
  ·rename_i g' e
   obtain ⟨rfl, hm⟩ := pickB_ok e
   exact ⟨_, .inr ⟨rfl, fun h e => by cases e; exact hm⟩, h⟩
  ·exact ⟨_, .inl rfl, h⟩
 case clp f g cs =>
  split at h
  ·rename_i g' e
   obtain ⟨rfl, hm⟩ := pickB_ok e
   exact ⟨_, .inr ⟨rfl, fun h e => by cases e; exact hm⟩, h⟩
  ·exact ⟨_, .inl rfl, h⟩
 all_goals exact plain rfl h
theorem frcL_ok : ∀ {cs : List AC} {k : List AC → Prop}, mapK (frcC bs) cs k → ∃ cs', All2 (kC bs) cs cs' ∧ k cs'
 | [], k, h => ⟨[], trivial, h⟩
 | c :: cs, k, h => by
  simp only [mapK] at h
  obtain ⟨c', h1, h⟩ := frcC_ok h
  obtain ⟨cs', h2, h⟩ := frcL_ok h
  exact ⟨c' :: cs', ⟨h1, h2⟩, h⟩
abbrev cutB (bs : List Nat) (β : Nat → Option Nat) (h : Nat) : Option Nat := cond (memB h bs) (β h) none
theorem kC_rep {x : Value} {c c' : AC} (h : kC bs c c') (r : RepC O β S w x c) : RepC O (cutB bs β) S w x c' := by
 rcases h with rfl | ⟨rfl, hm⟩
 ·exact r.one
 ·have e : ∀ {h b}, memB h bs = true → β h = some b → cutB bs β h = some b := fun hm hb => by
   show cond (memB _ bs) (β _) none = _
   rw [hm]; exact hb
  cases c' with
  | p h off => obtain ⟨b, h1, h2⟩ := r; exact ⟨b, e (hm h rfl) h1, h2⟩
  | pm h => obtain ⟨b, h1, h2⟩ := r; exact ⟨b, e (hm h rfl) h1, h2⟩
  | os h k wd => obtain ⟨b, cap, c, U, h1, h2⟩ := r; exact ⟨b, cap, c, U, e (hm h rfl) h1, h2⟩
  | clp k h cs => obtain ⟨b, us, h1, h2⟩ := r; exact ⟨b, us, e (hm h rfl) h1, h2⟩
  | u => exact r
  | _ => exact Rep0.toC (RepC.to0 r rfl)
theorem kL_rep : ∀ {vs : List Value} {cs cs' : List AC}, All2 (kC bs) cs cs' → RepCs O β S w vs cs → RepCs O (cutB bs β) S w vs cs'
 | [], [], [], _, _ => trivial
 | _ :: _, _ :: _, _ :: _, h, r => ⟨kC_rep h.1 r.1, kL_rep h.2 r.2⟩
def frcV (bs : List Nat) (x : AV) (k : AV → Prop) : Prop := match x with
 | .c c => frcC bs c fun d => k (.c d)
 | .g cs => mapK (frcC bs) cs fun l => k (.g l)
 | .t l => k (.t l)
 | .j => k .j
def kV (bs : List Nat) (x y : AV) : Prop := y = .j ∨ match x, y with
 | .c c, .c d => kC bs c d
 | .g cs, .g l => All2 (kC bs) cs l
 | .t l, .t m => l = m
 | _, _ => False
theorem frcV_ok {x : AV} {k : AV → Prop} (h : frcV bs x k) : ∃ y, kV bs x y ∧ k y := by
 cases x with
 | c c =>
  simp only [frcV] at h
  obtain ⟨d, h1, h⟩ := frcC_ok h; exact ⟨.c d, .inr h1, h⟩
 | g cs =>
  simp only [frcV] at h
  obtain ⟨l, h1, h⟩ := frcL_ok h; exact ⟨.g l, .inr h1, h⟩
 | t l => exact ⟨_, .inr rfl, h⟩
 | j => exact ⟨_, .inl rfl, h⟩
theorem kV_rep {v : Value} {x y : AV} (h : kV bs x y) (r : RepV O β S w v x) : RepV O (cutB bs β) S w v y := by
 rcases h with rfl | h
 ·trivial
 ·cases x with
  | c c => cases y with
   | c d => exact kC_rep h r
   | _ => exact h.elim
  | g cs => cases y with
   | g l => obtain ⟨vs, e, r⟩ := r; exact ⟨vs, e, kL_rep h r⟩
   | _ => exact h.elim
  | t l => cases y with
   | t m => have h : l = m := h; subst h; exact r
   | _ => exact h.elim
  | j => cases y <;> exact h.elim
def frcT (bs : List Nat) (f : Nat → AV) : Nat → List (Nat × AV) → (List (Nat × AV) → Prop) → Prop
 | 0, acc, k => k acc
 | n + 1, acc, k => frcV bs (f n) fun x => match x with
  | .j => frcT bs f n acc k
  | x => frcT bs f n ((n, x) :: acc) k
theorem frcT_ok {f : Nat → AV} : ∀ {n : Nat} {acc : List (Nat × AV)} {k : List (Nat × AV) → Prop}, (∀ i, kV bs (f i) (ascT acc i)) → frcT bs f n acc k → ∃ l, (∀ i, kV bs (f i) (ascT l i)) ∧ k l
 | 0, acc, k, ha, h => ⟨acc, ha, h⟩
 | n + 1, acc, k, ha, h => by
  simp only [frcT] at h
  obtain ⟨x, hx, h⟩ := frcV_ok h
  have more : ∀ i, kV bs (f i) (ascT ((n, x) :: acc) i) := fun i => by
   simp only [ascT]
   cases hb : Nat.beq i n with
   | true => have := Nat.eq_of_beq_eq_true hb; subst this; exact hx
   | false => exact ha i
  split at h
  ·exact frcT_ok ha h
  ·exact frcT_ok more h
def fwL {α : Type} : List α → (List α → Prop) → Prop
 | [], k => k []
 | x :: l, k => fwL l fun m => k (x :: m)
theorem fwL_iff {α : Type} : ∀ (l : List α) (k : List α → Prop), fwL l k ↔ k l
 | [], _ => Iff.rfl
 | _ :: l, _ => fwL_iff l _
def frcX (bs : List Nat) (X : Bx) (k : Bx → Prop) : Prop := match X with
 | .b T cs => mapK (frcC bs) cs fun l => k (.b T l)
 | .r T wd cs => mapK (frcC bs) cs fun l => k (.r T wd l)
 | .m ag ks vs => fwL ks fun ks => fwL vs fun vs => k (.m ag ks vs)
 | .it ag ks vs cur => k (.it ag ks vs cur)
 | .z o => k (.z o)
theorem frcX_ok {X : Bx} {k : Bx → Prop} (h : frcX bs X k) : ∃ Y, k Y ∧ ∀ {O : Opq} {β : Nat → Option Nat} {S : Nat → Prop} {w : World} {b : Nat}, BxRep O β S w b X → BxRep O (cutB bs β) S w b Y := by
 cases X with
 | b T cs => obtain ⟨l, h1, h⟩ := frcL_ok h; exact ⟨_, h, fun ⟨vs, g1, g2, g3⟩ => ⟨vs, g1, kL_rep h1 g2, g3⟩⟩
 | r T wd cs => obtain ⟨l, h1, h⟩ := frcL_ok h; exact ⟨_, h, fun ⟨vs, ts, g1, g2, g3⟩ => ⟨vs, ts, g1, kL_rep h1 g2, g3⟩⟩
 | m ag ks vs => simp only [frcX, fwL_iff] at h; exact ⟨_, h, fun r => r⟩
 | it ag ks vs cur => exact ⟨_, h, fun r => r⟩
 | z o => exact ⟨_, h, fun r => r⟩
def exB (bv : Nat → Option Bx) : List Nat → List Nat → (List Nat → Prop) → Prop
 | [], acc, k => k acc
 | h :: l, acc, k => match bv h with
  | some _ => exB bv l (h :: acc) k
  | none => exB bv l acc k
theorem exB_ok {bv : Nat → Option Bx} : ∀ {l acc : List Nat} {k : List Nat → Prop}, (∀ h, memB h acc = true → (bv h).isSome = true) → exB bv l acc k → ∃ bs, (∀ h, memB h bs = true → (bv h).isSome = true) ∧ k bs
 | [], acc, k, ha, h => ⟨acc, ha, h⟩
 | g :: l, acc, k, ha, h => by
  simp only [exB] at h
  split at h
  ·rename_i X e
   refine exB_ok (fun x hx => ?_) h
   simp only [memB, Bool.or_eq_true] at hx
   rcases hx with hx | hx
   ·have := Nat.eq_of_beq_eq_true hx; subst this; rw [e]; rfl
   ·exact ha x hx
  ·exact exB_ok ha h
def frcB (bs : List Nat) (bv : Nat → Option Bx) : List Nat → List (Nat × Bx) → (List (Nat × Bx) → Prop) → Prop
 | [], acc, k => k acc
 | h :: l, acc, k => match bv h with
  | some X => frcX bs X fun Y => frcB bs bv l ((h, Y) :: acc) k
  | none => False
structure KB (bs : List Nat) (bv : Nat → Option Bx) (l : List Nat) (m : List (Nat × Bx)) : Prop where
 dom : ∀ h, (ascB m h).isSome = memB h l
 rep : ∀ h Y, ascB m h = some Y → ∃ X, bv h = some X ∧ ∀ {O : Opq} {β : Nat → Option Nat} {S : Nat → Prop} {w : World} {b : Nat}, BxRep O β S w b X → BxRep O (cutB bs β) S w b Y
theorem frcB_ok {bv : Nat → Option Bx} : ∀ {l : List Nat} {d : List Nat} {acc : List (Nat × Bx)} {k : List (Nat × Bx) → Prop}, KB bs bv d acc → frcB bs bv l acc k → ∃ m d', (∀ h, memB h d' = (memB h l || memB h d)) ∧ KB bs bv d' m ∧ k m
 | [], d, acc, k, ha, h => ⟨acc, d, fun _ => by simp [memB], ha, h⟩
 | g :: l, d, acc, k, ha, h => by
  simp only [frcB] at h
  split at h
  ·rename_i X e
   obtain ⟨Y, h, hr⟩ := frcX_ok h
   have hk : KB bs bv (g :: d) ((g, Y) :: acc) := ⟨fun x => by
    simp only [ascB, memB]
    cases hb : Nat.beq x g with
    | true => rfl
    | false => simp only [cond_false, Bool.false_or]; exact ha.dom x, fun x Z hz => by
    simp only [ascB] at hz
    cases hb : Nat.beq x g with
    | true =>
     rw [hb] at hz; cases hz
     have := Nat.eq_of_beq_eq_true hb
     subst this
     exact ⟨X, e, hr⟩
    | false => rw [hb] at hz; exact ha.rep x Z hz⟩
   obtain ⟨m, d', q1, q2, q3⟩ := frcB_ok hk h
   refine ⟨m, d', fun x => ?_, q2, q3⟩
   rw [q1]
   simp only [memB]
   cases Nat.beq x g <;> cases memB x l <;> cases memB x d <;> rfl
  ·exact h.elim
def frcS (bs : List Nat) (sn : Nat) : List (Nat → AV) → (List (Nat → AV) → Prop) → Prop
 | [], k => k []
 | f :: fs, k => frcT bs f sn [] fun l => frcS bs sn fs fun gs => k (ascT l :: gs)
theorem frcS_ok {sn : Nat} : ∀ {fs : List (Nat → AV)} {k : List (Nat → AV) → Prop}, frcS bs sn fs k → ∃ gs, All2 (fun f g => ∀ i, kV bs (f i) (g i)) fs gs ∧ k gs
 | [], k, h => ⟨[], trivial, h⟩
 | f :: fs, k, h => by
  simp only [frcS] at h
  obtain ⟨l, h1, h⟩ := frcT_ok (fun _ => .inl rfl) h
  obtain ⟨gs, h2, h⟩ := frcS_ok h
  exact ⟨ascT l :: gs, ⟨h1, h2⟩, h⟩
theorem AllP.comp {α γ δ : Type} {R : α → γ → Prop} {Q : γ → δ → Prop} {R' : α → δ → Prop} (hc : ∀ a b c, R a b → Q b c → R' a c) : ∀ {l : List α} {m : List γ} {o : List δ}, AllP R l m → All2 Q m o → AllP R' l o
 | _, [], [], _, _ => by simp [AllP]
 | _ :: _, _ :: _, _ :: _, h, q => ⟨hc _ _ _ h.1 q.1, AllP.comp hc h.2 q.2⟩
 | [], _ :: _, _, h, _ => h.elim
 | _, [], _ :: _, _, q => q.elim
 | _ :: _, _ :: _, [], _, q => q.elim
theorem All2.comp {α γ δ : Type} {R : α → γ → Prop} {Q : γ → δ → Prop} {R' : α → δ → Prop} (hc : ∀ a b c, R a b → Q b c → R' a c) : ∀ {l : List α} {m : List γ} {o : List δ}, All2 R l m → All2 Q m o → All2 R' l o
 | [], [], [], _, _ => trivial
 | _ :: _, _ :: _, _ :: _, h, q => ⟨hc _ _ _ h.1 q.1, All2.comp hc h.2 q.2⟩
 | [], [], _ :: _, _, q => q.elim
 | [], _ :: _, _, h, _ => h.elim
 | _ :: _, [], _, h, _ => h.elim
 | _ :: _, _ :: _, [], _, q => q.elim
def frcK (m sn : Nat) (names : List Nat) (V : View) (K : View → Prop) : Prop :=
 exB V.bv names [] fun bs => frcT bs V.tv m [] fun l => frcB bs V.bv bs [] fun bx => frcS bs sn V.sv fun fs => mapK (frcC bs) V.df fun df => K ⟨ascT l, ascB bx, fs, df⟩
theorem Corr.frc (C : Corr O n w0 β S V a w) (hm0 : w0.m = none) {m sn : Nat} {names : List Nat} {K : View → Prop} (h : frcK m sn names V K) : ∃ V' β', Corr O n w0 β' S V' a w ∧ K V' := by
 unfold frcK at h
 obtain ⟨bs, hbs, h⟩ := exB_ok (fun _ h => by cases h) h
 obtain ⟨l, hl, h⟩ := frcT_ok (fun _ => .inl rfl) h
 obtain ⟨bx, d, hd, hk, h⟩ := frcB_ok (d := []) ⟨fun _ => rfl, fun _ _ h => by cases h⟩ h
 obtain ⟨fs, hfs, h⟩ := frcS_ok h
 obtain ⟨df, hdf, h⟩ := frcL_ok h
 have hdom : ∀ h, (ascB bx h).isSome = memB h bs := fun h => by rw [hk.dom, hd]; simp [memB]
 have nin : ∀ {h b}, cutB bs β h = some b → memB h bs = true ∧ β h = some b := by
  intro h b hb
  have hb : cond (memB h bs) (β h) none = some b := hb
  cases hm : memB h bs with
  | true => rw [hm] at hb; exact ⟨rfl, hb⟩
  | false => rw [hm] at hb; cases hb
 refine ⟨_, cutB bs β, ⟨fun i => kV_rep (hl i) (C.tm i), C.sz, fun h b hb => ?_, fun h hs => ?_, fun h h' b hb hb' => C.inj _ _ _ (nin hb).2 (nin hb').2, C.sl, C.ex, C.sb, C.iv, fun b hb => ?_, C.hn, ?_⟩, h⟩
 ·obtain ⟨hm, hb⟩ := nin hb
  obtain ⟨X, q1, q2, q3⟩ := C.bl h b hb
  have hs := hdom h
  rw [hm] at hs
  obtain ⟨Y, hY⟩ := Option.isSome_iff_exists.1 hs
  obtain ⟨X', e, hr⟩ := hk.rep h Y hY
  rw [q1] at e; cases e
  exact ⟨Y, hY, hr q2, q3⟩
 ·have hs : (ascB bx h).isSome = true := hs
  rw [hdom] at hs
  show (cond (memB h bs) (β h) none).isSome = true
  rw [hs]
  exact C.dm h (hbs h hs)
 ·rw [hm0] at hb; cases hb
 ·exact ⟨C.su.sm.comp (fun _ _ _ r q i => kV_rep (q i) (r i)) hfs, C.su.df.imp id fun ⟨e, q⟩ => ⟨e, q.comp (fun _ _ _ ⟨D, e, r⟩ q => ⟨D, e, kC_rep q r⟩) hdf⟩⟩
end
end Go.Proofs.YtajecapgmdfjcaaGreatDoor

/- Functions that are walked in place, and functions that are ranged over. -/
namespace Go.Proofs.YtajecapgmdfjcaaGreatDoor
open Go.RowKit Vn
open Go.ChangeMaps (setBlock)
section
variable {P : Program} {O : Opq} {T : Tys} {n : Nat} {w0 : W0} {β : Nat → Option Nat} {S : Nat → Prop} {V : View} {a : Act} {w : World}
/-! ### other names -/
def renC (ρ : Nat → Option Nat) (c : AC) : AC := match c with
 | .p h off => match ρ h with
  | some g => .p g off
  | none => .u
 | .pm h => match ρ h with
  | some g => .pm g
  | none => .u
 | .os h m wd => match ρ h with
  | some g => .os g m wd
  | none => .u
 | .clp k h cs => match ρ h with
  | some g => .clp k g cs
  | none => .u
 | c => c
def renB (bv : Nat → Option Bx) (ρ ι : Nat → Option Nat) (g : Nat) : Option Bx := match ι g with
 | some h => (bv h).map (mapX (renC ρ))
 | none => none
def View.ren (V : View) (ρ ι : Nat → Option Nat) : View :=
 ⟨fun u => mapV (renC ρ) (V.tv u), renB V.bv ρ ι, V.sv.map fun f u => mapV (renC ρ) (f u), V.df.map (renC ρ)⟩
def renN (β ι : Nat → Option Nat) (g : Nat) : Option Nat := match ι g with
 | some h => β h
 | none => none
theorem renN_some {ι : Nat → Option Nat} {g b : Nat} (h : renN β ι g = some b) : ∃ k, ι g = some k ∧ β k = some b := by
 unfold renN at h
 cases e : ι g with
 | none => rw [e] at h; cases h
 | some k => rw [e] at h; exact ⟨k, rfl, h⟩
theorem RepC.ren {ρ ι : Nat → Option Nat} (h1 : ∀ h g, ρ h = some g → ι g = some h) {x : Value} {c : AC} (r : RepC O β S w x c) : RepC O (renN β ι) S w x (renC ρ c) := by
 have nm : ∀ {h g b}, ρ h = some g → β h = some b → renN β ι g = some b := fun hr hb => by
  unfold renN; rw [h1 _ _ hr]; exact hb
 cases c with
 | p h off =>
  simp only [renC]
  cases e : ρ h with
  | none => exact r.one
  | some g => obtain ⟨b, q1, q2⟩ := r; exact ⟨b, nm e q1, q2⟩
 | pm h =>
  simp only [renC]
  cases e : ρ h with
  | none => exact r.one
  | some g => obtain ⟨b, q1, q2⟩ := r; exact ⟨b, nm e q1, q2⟩
 | os h m wd =>
  simp only [renC]
  cases e : ρ h with
  | none => exact r.one
  | some g => obtain ⟨b, cap, c, U, q1, q2⟩ := r; exact ⟨b, cap, c, U, nm e q1, q2⟩
 | clp k h cs =>
  simp only [renC]
  cases e : ρ h with
  | none => exact r.one
  | some g => obtain ⟨b, us, q1, q2⟩ := r; exact ⟨b, us, nm e q1, q2⟩
 | u => exact r
 | _ => exact Rep0.toC (RepC.to0 r rfl)
theorem RepCs.ren {ρ ι : Nat → Option Nat} (h1 : ∀ h g, ρ h = some g → ι g = some h) : ∀ {vs : List Value} {cs : List AC}, RepCs O β S w vs cs → RepCs O (renN β ι) S w vs (cs.map (renC ρ))
 | [], [], _ => trivial
 | _ :: _, _ :: _, r => ⟨RepC.ren h1 r.1, RepCs.ren h1 r.2⟩
theorem RepV.ren {ρ ι : Nat → Option Nat} (h1 : ∀ h g, ρ h = some g → ι g = some h) {x : Value} {v : AV} (r : RepV O β S w x v) : RepV O (renN β ι) S w x (mapV (renC ρ) v) := by
 cases v with
 | c y => exact RepC.ren h1 r
 | g cs => obtain ⟨vs, e, r⟩ := r; exact ⟨vs, e, RepCs.ren h1 r⟩
 | t xs => exact r
 | j => trivial
theorem BxRep.ren {ρ ι : Nat → Option Nat} (h1 : ∀ h g, ρ h = some g → ι g = some h) {b : Nat} {X : Bx} (r : BxRep O β S w b X) : BxRep O (renN β ι) S w b (mapX (renC ρ) X) := by
 cases X with
 | b T cs => obtain ⟨vs, g1, g2, g3⟩ := r; exact ⟨vs, g1, RepCs.ren h1 g2, g3⟩
 | r T wd cs => obtain ⟨vs, ts, g1, g2, g3⟩ := r; exact ⟨vs, ts, g1, RepCs.ren h1 g2, g3⟩
 | m ag ks vs => exact r
 | it ag ks vs cur => exact r
 | z o => exact r
theorem Corr.ren (C : Corr O n w0 β S V a w) (hm0 : w0.m = none) {ρ ι : Nat → Option Nat} (h1 : ∀ h g, ρ h = some g → ι g = some h) (h2 : ∀ g h, ι g = some h → ρ h = some g) : Corr O n w0 (renN β ι) S (V.ren ρ ι) a w := by
 refine ⟨fun i => RepV.ren h1 (C.tm i), C.sz, fun g b hb => ?_, fun g hs => ?_, fun g g' b hb hb' => ?_, C.sl, C.ex, C.sb, C.iv, fun b hb => ?_, C.hn, C.su.map (fun _ _ r => RepV.ren h1 r) (fun _ _ r => RepC.ren h1 r)⟩
 ·obtain ⟨k, e, hb⟩ := renN_some hb
  obtain ⟨X, q1, q2, q3⟩ := C.bl k b hb
  refine ⟨mapX (renC ρ) X, ?_, BxRep.ren h1 q2, q3⟩
  show renB V.bv ρ ι g = _
  unfold renB
  rw [e]
  simp only [q1, Option.map_some]
 ·have hs : (renB V.bv ρ ι g).isSome = true := hs
  unfold renB at hs
  unfold renN
  cases e : ι g with
  | none => rw [e] at hs; cases hs
  | some k => rw [e] at hs; exact C.dm k (by simpa using hs)
 ·obtain ⟨k, e, hb⟩ := renN_some hb
  obtain ⟨k', e', hb'⟩ := renN_some hb'
  have := C.inj _ _ _ hb hb'
  subst this
  have p1 := h2 _ _ e
  have p2 := h2 _ _ e'
  rw [p1] at p2
  exact Option.some.inj p2
 ·rw [hm0] at hb; cases hb
def upR (h : Nat) : Option Nat := some (h + 1000000)
def upI (g : Nat) : Option Nat := cond (Nat.ble 1000000 g) (some (g - 1000000)) none
theorem up1 : ∀ h g, upR h = some g → upI g = some h := fun h g e => by
 have e : h + 1000000 = g := Option.some.inj e
 subst e
 unfold upI
 rw [show Nat.ble 1000000 (h + 1000000) = true from Nat.ble_eq_true_of_le (by omega)]
 simp
theorem up2 : ∀ g h, upI g = some h → upR h = some g := fun g h e => by
 unfold upI at e
 cases hb : Nat.ble 1000000 g with
 | false => rw [hb] at e; cases e
 | true =>
  rw [hb] at e
  have e : g - 1000000 = h := Option.some.inj e
  have := Nat.le_of_ble_eq_true hb
  subst e
  show some (g - 1000000 + 1000000) = some g
  rw [Nat.sub_add_cancel this]
def lookT (g : Nat) : List (Nat × Nat) → Option Nat
 | [] => none
 | (x, y) :: l => cond (Nat.beq g y) (some x) (lookT g l)
def eqN (x : Option Nat) (y : Nat) : Bool := match x with
 | some z => Nat.beq z y
 | none => false
theorem eqN_ok {x : Option Nat} {y : Nat} (h : eqN x y = true) : x = some y := by
 cases x with
 | none => cases h
 | some z => have : Nat.beq z y = true := h; rw [Nat.eq_of_beq_eq_true this]
def keepB (l : List (Nat × Nat)) : Bool := l.all fun p => eqN (lookN p.1 l) p.2 && (eqN (lookT p.2 l) p.1 && Nat.blt p.1 1000000)
def dnR (l : List (Nat × Nat)) (h : Nat) : Option Nat := cond (Nat.ble 1000000 h) (cond (lookT (h - 1000000) l).isSome none (some (h - 1000000))) (lookN h l)
def dnI (l : List (Nat × Nat)) (g : Nat) : Option Nat := match lookT g l with
 | some x => some x
 | none => some (g + 1000000)
theorem lookN_mem {h g : Nat} : ∀ {l : List (Nat × Nat)}, lookN h l = some g → (h, g) ∈ l
 | (x, y) :: l, e => by
  simp only [lookN] at e
  cases hb : Nat.beq h x with
  | true => rw [hb] at e; have := Nat.eq_of_beq_eq_true hb; cases e; subst this; simp
  | false => rw [hb] at e; exact List.mem_cons_of_mem _ (lookN_mem e)
theorem lookT_mem {h g : Nat} : ∀ {l : List (Nat × Nat)}, lookT g l = some h → (h, g) ∈ l
 | (x, y) :: l, e => by
  simp only [lookT] at e
  cases hb : Nat.beq g y with
  | true => rw [hb] at e; have := Nat.eq_of_beq_eq_true hb; cases e; subst this; simp
  | false => rw [hb] at e; exact List.mem_cons_of_mem _ (lookT_mem e)
theorem dn1 {l : List (Nat × Nat)} (hl : keepB l = true) : ∀ h g, dnR l h = some g → dnI l g = some h := fun h g e => by
 simp only [keepB, List.all_eq_true, Bool.and_eq_true, Nat.blt_eq] at hl
 unfold dnR at e
 cases hb : Nat.ble 1000000 h with
 | true =>
  rw [hb] at e
  simp only [cond_true] at e
  cases ht : lookT (h - 1000000) l with
  | some _ => rw [ht] at e; cases e
  | none =>
   rw [ht] at e
   have e : h - 1000000 = g := Option.some.inj e
   subst e
   have := Nat.le_of_ble_eq_true hb
   unfold dnI
   rw [ht]
   show some (h - 1000000 + 1000000) = some h
   rw [Nat.sub_add_cancel this]
 | false =>
  rw [hb] at e
  have := hl _ (lookN_mem e)
  unfold dnI
  rw [eqN_ok this.2.1]
theorem dn2 {l : List (Nat × Nat)} (hl : keepB l = true) : ∀ g h, dnI l g = some h → dnR l h = some g := fun g h e => by
 simp only [keepB, List.all_eq_true, Bool.and_eq_true, Nat.blt_eq] at hl
 unfold dnI at e
 cases ht : lookT g l with
 | some x =>
  rw [ht] at e
  have e : x = h := Option.some.inj e
  subst e
  have := hl _ (lookT_mem ht)
  unfold dnR
  have hb : Nat.ble 1000000 x = false := by
   cases hb : Nat.ble 1000000 x with
   | false => rfl
   | true => have := Nat.le_of_ble_eq_true hb; omega
  rw [hb]
  exact eqN_ok this.1
 | none =>
  rw [ht] at e
  have e : g + 1000000 = h := Option.some.inj e
  subst e
  unfold dnR
  rw [show Nat.ble 1000000 (g + 1000000) = true from Nat.ble_eq_true_of_le (by omega), Nat.add_sub_cancel, ht]
  rfl
/-! ### calls in place -/
structure FE where
 fn : Func
 B : Bxs
 keep : List (Nat × Nat)
 bn : Nat := 0
 sn : Nat := 0
 back : List Nat := []
def bodyF (f : Func) : Code := match f.body with
 | some c => c
 | none => .skip
structure FEOK (P : Program) (k : FuncId) (E : FE) : Prop where
 fn : P.funcs[k]? = some E.fn
 nm : (E.fn.name == "runtime.NumGoroutine") = false
 body : ∃ c, E.fn.body = some c
 nt : E.fn.ntmps ≤ 1000
 ok : codeK true E.B E.fn.ntmps (bodyF E.fn) = true
abbrev FTab := FuncId → Option FE
def FTOK (P : Program) (FT : FTab) : Prop := ∀ k E, FT k = some E → FEOK P k E
def actK (V : View) (l : List (Nat × Nat)) : List (Nat × Nat) := l.filter fun p => (V.bv p.1).isSome
def outK (E : FE) (K : View → AV → Prop) (x : AV) (V : View) : Prop := cond (noPV x && keepB (actK V E.keep)) (match V.sv with
 | f :: r => frcK E.bn E.sn E.back ((⟨f, V.bv, r, []⟩ : View).ren (dnR (actK V E.keep)) (dnI (actK V E.keep))) fun V' => K V' x
 | [] => False) False
def outC (E : FE) (K : View → AV → Prop) (V : View) : Prop := match E.fn.results.toList with
 | [.tmp t] => match V.tv t with
  | .c (.pm h) => cond (Nat.beq h 1000) False (outK E K ((V.fz h).tv t) (V.fz h))
  | x => outK E K x V
 | _ => False
def inC (P : Program) (O : Opq) (T : Tys) (H : Hnd) (E : FE) (xs : List Operand) (V : View) (K : View → AV → Prop) : Prop :=
 cond V.df.isEmpty (argsI (V.ren upR upI).ev xs fun l => cond (Nat.ble l.length E.fn.ntmps)
  (ev P O T H E.B (bodyF E.fn) ⟨fun i => l.getD i (.t []), (V.ren upR upI).bv, (V.ren upR upI).tv :: (V.ren upR upI).sv, []⟩ fun e V' => match e with
   | .normal => outC E K V'
   | .ret => outC E K V'
   | _ => False) False) False
def inI (P : Program) (O : Opq) (T : Tys) (H : Hnd) (FT : FTab) (y : AC) (yld : Nat → List AV → View → (View → Bool → Prop) → Prop) (V : View) (K : View → Prop) : Prop := match y with
 | .cl k cs => match FT k with
  | some E => match V.sv with
   | _ :: pt :: _ => match pt 1 with
    | .c (.p h 0) => cond (Nat.ble (cs.length + 1) E.fn.ntmps && E.fn.results.toList.isEmpty)
      (ev P O T ⟨H.call, yld, H.iter⟩ E.B (bodyF E.fn) ⟨fun i => (AV.c (.clp 1000000 h []) :: cs.map .c).getD i (.t []), V.bv, V.sv, []⟩ fun e V' => match e with
       | .normal => K V'
       | .ret => K V'
       | _ => False) False
    | _ => False
   | _ => False
  | none => False
 | _ => False
def HL (P : Program) (O : Opq) (T : Tys) (FT : FTab) : Nat → Hnd
 | 0 => H0
 | j + 1 => ⟨fun k xs V K => match FT k with
   | some E => inC P O T (HL P O T FT j) E xs V K
   | none => False, fun _ _ _ _ => False, inI P O T (HL P O T FT j) FT⟩
theorem noPV_rep {β' : Nat → Option Nat} {v : Value} {x : AV} (h : noPV x = true) (r : RepV O β S w v x) : RepV O β' S w v x := by
 cases x with
 | c y => exact Rep0.toC (RepC.to0 r (by simpa [noPV] using h))
 | g l => obtain ⟨vs, e, r⟩ := r; exact ⟨vs, e, R0s.toC (r.to0 h)⟩
 | t l => exact r
 | j => trivial
theorem toW : ∀ {vs : List Value} {l : List AV}, All2 (RepV O β S w) vs l → (∀ t, AV.t t ∉ l) → All2 (RepW O β S w) vs l
 | [], [], _, _ => trivial
 | v :: vs, x :: l, h, hn => ⟨by
   have h1 := h.1
   cases x with
   | t t => exact absurd (by simp) (hn t)
   | _ => exact h1, toW h.2 fun t ht => hn t (by simp [ht])⟩
theorem no_defers (C : Corr O n w0 β S V a w) (h : V.df = []) : a.defers = [] := by
 rcases C.su.df with ⟨_, h'⟩ | ⟨_, h'⟩
 ·exact h'
 ·rw [h] at h'
  cases hd : a.defers with
  | nil => rfl
  | cons _ _ => rw [hd] at h'; exact h'.elim
theorem body_ofE {E : FE} {k : FuncId} (h : FEOK P k E) : E.fn.body = some (bodyF E.fn) := by
 obtain ⟨c, hc⟩ := h.body
 unfold bodyF; rw [hc]
theorem call_ok (TK : TyOK P O T) (hm : P.follows .mixedOrders = true) {FT : FTab} (FK : FTOK P FT) {H : Hnd} (HK : ∀ w0 : W0, w0.m = none → HOK P O H w0) : CallOK P O ⟨fun k xs V K => match FT k with
   | some E => inC P O T H E xs V K
   | none => False, fun _ _ _ _ => False, fun _ _ _ _ => False⟩ := by
 intro n w0 β S V a w k xs K hm0 C h
 have h : (match FT k with
   | some E => inC P O T H E xs V K
   | none => False) := h
 cases hE : FT k with
 | none => rw [hE] at h; exact h.elim
 | some E =>
  rw [hE] at h
  have h : inC P O T H E xs V K := h
  have F := FK k E hE
  refine ⟨⟨E.fn, F.fn, F.nm, by rw [body_ofE F]; rfl⟩, ?_⟩
  unfold inC at h
  obtain ⟨hdf, h⟩ := cond_ff h
  have hd := no_defers C (List.isEmpty_iff.1 hdf)
  have C1 := C.ren hm0 up1 up2
  obtain ⟨l, h, hl, ht⟩ := argsI_rep C1.ev xs _ h
  obtain ⟨hlen, h⟩ := cond_ff h
  have hlen := Nat.le_of_ble_eq_true hlen
  have ll := hl.len
  have Cf : Corr O E.fn.ntmps { w0 with sus := slotsA a :: w0.sus, nd := true } (renN β upI) S ⟨fun i => l.getD i (.t []), (V.ren upR upI).bv, (V.ren upR upI).tv :: (V.ren upR upI).sv, []⟩ { tmps := (xs.map a.eval).toArray ++ Array.replicate (E.fn.ntmps - (xs.map a.eval).toArray.size) undef, defers := [] } w :=
   C1.frm (fun i => init_tm (toW hl ht) ht _ i hlen) (by simp at ll ⊢; omega) F.nt ⟨⟨C1.tm, C1.su.sm⟩, .inl ⟨rfl, rfl⟩⟩
  refine fn_core (w0 := { w0 with sus := slotsA a :: w0.sus, nd := true }) (Kf := outC E K) E.B TK hm (HK _ hm0) F.fn (body_ofE F) (codeK_out F.ok).1 (codeK_out F.ok).2 Cf h fun V' a' w' β' S' hk C' => ?_
  unfold outC at hk
  split at hk
  ·rename_i t er
   have fin : ∀ {β2 : Nat → Option Nat} {S2 : Nat → Prop} {V2 : View} {x : AV}, Corr O E.fn.ntmps { w0 with sus := slotsA a :: w0.sus, nd := true } β2 S2 V2 a' w' → RepV O β2 S2 w' (a'.tmps.getD t undef) x → outK E K x V2 →
     ∃ us, (E.fn.results.toList.mapM (readR a'.tmps)).run P w' = .ok us w' ∧ ∃ v V'' r β'' S'', Ending.returned (if h : us.toArray.size = 1 then us.toArray[0] else .tuple us.toArray) = .returned v ∧ Corr O n w0 β'' S'' V'' a w' ∧ RepV O β'' S'' w' v r ∧ K V'' r := by
    intro β2 S2 V2 x C2 rx hk
    unfold outK at hk
    obtain ⟨hn, hk⟩ := cond_ff hk
    simp only [Bool.and_eq_true] at hn
    split at hk
    ·rename_i f r esv
     have hsm := C2.su.sm
     rw [esv] at hsm
     have C3 : Corr O n w0 β2 S2 ⟨f, V2.bv, r, []⟩ a w' :=
      ⟨hsm.1, C.sz, C2.bl, C2.dm, C2.inj, C2.sl, C2.ex, C2.sb, C2.iv, C2.om, C.hn, ⟨hsm.2, by
       rw [hd]
       cases w0.nd with
       | true => exact .inl ⟨rfl, rfl⟩
       | false => exact .inr ⟨rfl, trivial⟩⟩⟩
     have C4 := C3.ren hm0 (dn1 hn.2) (dn2 hn.2)
     obtain ⟨V4, β4, C4, hk⟩ := C4.frc hm0 hk
     refine ⟨[a'.tmps.getD t undef], ?_, _, V4, x, _, _, rfl, C4, noPV_rep hn.1 rx, hk⟩
     rw [er, List.mapM_cons, Sem.run_bind]
     show Result.andThen (Result.ok _ w') _ = _
     rw [Result.andThen_ok]; rfl
    ·exact hk.elim
   split at hk
   ·rename_i g eg
    cases hg : Nat.beq g 1000 with
    | true => rw [hg] at hk; exact hk.elim
    | false =>
     rw [hg] at hk
     obtain ⟨β2, S2, C2⟩ := C'.fz (h := g) (fun e => by subst e; cases hg)
     exact fin C2 (C2.tm t) hk
   ·exact fin C' (C'.tm t) hk
  ·exact hk.elim
theorem iter_ok (TK : TyOK P O T) (hm : P.follows .mixedOrders = true) {FT : FTab} (FK : FTOK P FT) {H : Hnd} (HK : ∀ w0 : W0, w0.m = none → HOK P O H w0) : IterOK P O ⟨fun _ _ _ _ => False, fun _ _ _ _ => False, inI P O T H FT⟩ := by
 intro n w0 β S V a w y x yld K hm0 hnd C h hx hY own pt rest g l esv ept hl
 have h : inI P O T H FT y yld V K := h
 cases y with
 | cl k cs =>
  unfold inI at h
  cases hE : FT k with
  | none => simp only [hE] at h
  | some E =>
   simp only [hE] at h
   rw [esv] at h
   simp only [ept] at h
   obtain ⟨hc, h⟩ := cond_ff h
   simp only [Bool.and_eq_true, List.isEmpty_iff] at hc
   have hlen := Nat.le_of_ble_eq_true hc.1
   have F := FK k E hE
   have hx : Rep0 O S w (.cl k cs) x := hx
   simp only [Rep0] at hx
   obtain ⟨us, ex, ru⟩ := hx
   have ru := RepL.iff.1 ru
   have lu := ru.len
   have hd0 : a.defers = [] := by
    rcases C.su.df with ⟨_, h⟩ | ⟨h, _⟩
    ·exact h
    ·rw [hnd] at h; cases h
   refine ⟨k, us.toArray, ex, ⟨E.fn, F.fn, F.nm, by rw [body_ofE F]; rfl⟩, fun m => ?_⟩
   have hargs : All2 (RepW O β S w) (Value.func (.yield l) #[] #[] :: us) (AV.c (.clp 1000000 g []) :: cs.map .c) := by
    refine ⟨⟨l, [], hl, rfl, by simp only [RepL]⟩, ?_⟩
    have go : ∀ {us : List Value} {cs : List AC}, All2 (fun x c => Rep0 O S w c x) us cs → All2 (RepW O β S w) us (cs.map AV.c) := by
     intro us
     induction us with
     | nil => intro cs r; cases cs with
      | nil => trivial
      | cons _ _ => exact r.elim
     | cons u us ih => intro cs r; cases cs with
      | nil => exact r.elim
      | cons c cs => exact ⟨r.1.toC, ih r.2⟩
    exact go ru
   have hno : ∀ t, AV.t t ∉ (AV.c (.clp 1000000 g []) :: cs.map .c) := by
    intro t ht
    simp at ht
   have Cf : Corr O E.fn.ntmps w0 β S ⟨fun i => (AV.c (.clp 1000000 g []) :: cs.map .c).getD i (.t []), V.bv, own :: pt :: rest, []⟩ { tmps := (Value.func (.yield l) #[] #[] :: us).toArray ++ Array.replicate (E.fn.ntmps - (Value.func (.yield l) #[] #[] :: us).toArray.size) undef, defers := [] } w := by
    have hsm := C.su.sm
    rw [esv] at hsm
    exact ⟨fun i => init_tm hargs hno _ i (by simp; omega), (by simp; omega), C.bl, C.dm, C.inj, C.sl, C.ex, C.sb, C.iv, C.om, F.nt, ⟨hsm, .inl ⟨hnd, rfl⟩⟩⟩
   have e1 : (#[Value.func (.yield l) #[] #[]] ++ us.toArray) = (Value.func (.yield l) #[] #[] :: us).toArray := by simp
   rw [e1]
   refine callsFr ?_
   have HK0 := HK w0 hm0
   have HK1 : HOK P O ⟨H.call, yld, H.iter⟩ w0 := ⟨HK0.call, HK0.iter, @hY, (fun e => by rw [hnd] at e; cases e), .inl hm0⟩
   refine fn_core (Kf := K) E.B TK hm HK1 F.fn (body_ofE F) (codeK_out F.ok).1 (by rw [hnd]; exact (codeK_out F.ok).2) Cf (by rw [hnd]; exact h) fun V' a' w' β' S' hk C' => ?_
   refine ⟨[], by rw [hc.2]; rfl, ⟨_, rfl⟩, V', β', S', ?_, hk⟩
   exact ⟨fun _ => trivial, C.sz, C'.bl, C'.dm, C'.inj, C'.sl, C'.ex, C'.sb, C'.iv, C'.om, C.hn, ⟨C'.su.sm, .inl ⟨hnd, hd0⟩⟩⟩
 | _ => exact h.elim
theorem HL_ok (TK : TyOK P O T) (hm : P.follows .mixedOrders = true) {FT : FTab} (FK : FTOK P FT) : ∀ (j : Nat) (w0 : W0), w0.m = none → HOK P O (HL P O T FT j) w0
 | 0, _, _ => HOK.h0 _
 | j + 1, _, hm0 => ⟨@call_ok P O T TK hm FT FK _ (HL_ok TK hm FK j), @iter_ok P O T TK hm FT FK _ (HL_ok TK hm FK j), fun _ h => h.elim, fun _ _ _ _ _ _ _ _ _ _ _ _ _ _ h => h.elim, .inl hm0⟩
end
end Go.Proofs.YtajecapgmdfjcaaGreatDoor
