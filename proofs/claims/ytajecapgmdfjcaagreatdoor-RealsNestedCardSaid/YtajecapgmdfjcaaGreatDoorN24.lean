/- A function's text, reckoned. -/
import Derived.Scope
import Derived.LoopN
import Derived.Test.YtajecapgmdfjcaaGreatDoorN23
namespace Go.Proofs.YtajecapgmdfjcaaGreatDoor
open Go.RowKit Vn
open Go.ChangeMaps (setBlock)
theorem roomFr {r : Option Nat} {m : Nat} : (Fr r).room m := fun _ h => by simp [Fence.wide] at h
def LWI (r : Option Nat) (P : Program) (c : Code) (Q : Exit → Act → World → Prop) (a : Act) (w : World) : Prop :=
 ∀ (b : Frame) (k : List Item) (cs : List Frame), b.roundOf = r → ∃ e a' w', Q e a' w' ∧ ArrivesIn (Machine.fenced P (Fr r)) P (lone (b.atR a (.code c :: .inLoop c :: k)) cs w) b k cs e a' w'
theorem wpIn_of_LWI {r : Option Nat} {m : Nat} {P : Program} {c : Code} {Q : Exit → Act → World → Prop} {a : Act} {w : World} (h : LWI r P c Q a w) : (Code.loop c).wpIn (Fr r) m P Q a w := by
 intro b k cs hro hb hr
 obtain ⟨e, a', w', hq, harr⟩ := h b k cs hro
 exact ⟨e, a', w', hq, .of_steps (.one (fenced_calm hb hr rfl) stepR_loop) harr⟩
theorem LWI_of_wpIn {r : Option Nat} {m : Nat} {P : Program} {c : Code} {Q : Exit → Act → World → Prop} {a : Act} {w : World} (h : c.wpIn (Fr r) m P (Exit.then (LWI r P c Q) Q) a w) : LWI r P c Q a w := by
 intro b k cs hro
 have hb : (Fr r).fn b.fn := trivial
 obtain ⟨e, a₁, w₁, hq, harr⟩ := h b (.inLoop c :: k) cs hro hb roomFr
 cases e with
 | normal =>
  obtain ⟨e₂, a₂, w₂, hq₂, harr₂⟩ := hq b k cs hro
  exact ⟨e₂, a₂, w₂, hq₂, .of_steps (StepsIn.trans harr (.one (fenced_calm (n := m) hb roomFr rfl) stepR_inLoop)) harr₂⟩
 | exit id => exact ⟨_, a₁, w₁, hq, .pass (x := .inLoop c) rfl (fun _ _ => .inl (by simp)) harr⟩
 | goto l => exact ⟨_, a₁, w₁, hq, .pass (x := .inLoop c) rfl (fun _ _ => .inl (by simp)) harr⟩
 | ret => exact ⟨_, a₁, w₁, hq, .pass (x := .inLoop c) rfl (fun _ _ => .inl (by simp)) harr⟩
 | panic ch => exact ⟨_, a₁, w₁, hq, .pass (x := .inLoop c) rfl (fun _ _ => .inl (by simp)) harr⟩
 | outgrown => exact ⟨_, a₁, w₁, hq, .pass (x := .inLoop c) rfl (fun _ _ => .inl (by simp)) harr⟩
theorem stepR_scope {P : Program} {b : Frame} {a : Act} {k : List Item} {cs : List Frame} {w : World} {c : Code} : step P (lone (b.atR a (.code (.scope c) :: k)) cs w) = .next (lone (b.atR a (.code c :: .inScope c :: k)) cs w) :=
 step_lone_go (by simp [stepG, stepG.exec, Frame.atR])
theorem stepR_inScope {P : Program} {b : Frame} {a : Act} {k : List Item} {cs : List Frame} {w : World} {c : Code} : step P (lone (b.atR a (.inScope c :: k)) cs w) = .next (lone (b.atR a k) cs w) :=
 step_lone_go (by simp [stepG, stepG.exec, Frame.atR])
theorem wpIn_scope_straight {r : Option Nat} {m : Nat} {P : Program} {c : Code} {Q : Exit → Act → World → Prop} {a : Act} {w : World} (h : c.wpIn (Fr r) m P (Exit.noGoto Q) a w) : (Code.scope c).wpIn (Fr r) m P Q a w := by
 intro b k cs hro hb hr
 have h0 : (lone (b.atR a (.code (.scope c) :: k)) cs w).fenced P (Fr r) := fenced_calm hb hr rfl
 obtain ⟨e, a₁, w₁, hq, harr⟩ := h b (.inScope c :: k) cs hro hb hr
 cases e with
 | normal => exact ⟨.normal, a₁, w₁, hq, .head h0 stepR_scope (StepsIn.trans harr (.one (fenced_calm hb hr rfl) stepR_inScope))⟩
 | exit id =>
  have hx : exitTo id (.inScope c :: k) = exitTo id k := by simp [exitTo]
  exact ⟨.exit id, a₁, w₁, hq, fun k' hk => .head h0 stepR_scope (harr.1 k' (by rw [hx]; exact hk)), fun hr' hk => let ⟨k₁, h1, h2⟩ := harr.2 hr' (by rw [hx]; exact hk); ⟨k₁, h1, .head h0 stepR_scope h2⟩⟩
 | goto l => exact hq.elim
 | ret => exact ⟨_, a₁, w₁, hq, .of_steps (.one h0 stepR_scope) harr⟩
 | panic ch => exact ⟨_, a₁, w₁, hq, .of_steps (.one h0 stepR_scope) harr⟩
 | outgrown => exact ⟨_, a₁, w₁, hq, .of_steps (.one h0 stepR_scope) harr⟩
abbrev Bxs := List (Nat × List (Nat × Nat))
section
variable {P : Program} {O : Opq} {T : Tys} {B : Bxs} {n : Nat} {w0 : W0}
def memB (h : Nat) : List Nat → Bool
 | [] => false
 | t :: l => Nat.beq h t || memB h l
theorem memB_iff {h : Nat} : ∀ {l : List Nat}, memB h l = true ↔ h ∈ l
 | [] => by simp [memB]
 | t :: l => by
  have := memB_iff (h := h) (l := l)
  simp [memB, this]
/-! ### boxes that go, maps that stay from here on -/
def dropC (l : List Nat) (c : AC) : AC := match refC c with
 | some h => cond (memB h l) .u c
 | none => c
def fzC (h : Nat) (m c : AC) : AC := match c with
 | .pm g => cond (Nat.beq g h) m (.pm g)
 | c => dropC [h] c
def mapV (F : AC → AC) : AV → AV
 | .c c => .c (F c)
 | .g cs => .g (cs.map F)
 | x => x
def mapX (F : AC → AC) : Bx → Bx
 | .b T cs => .b T (cs.map F)
 | .r T wd cs => .r T wd (cs.map F)
 | X => X
def View.mapA (V : View) (F : AC → AC) (l : List Nat) : View :=
 ⟨fun u => mapV F (V.tv u), fun h => cond (memB h l) none ((V.bv h).map (mapX F)), V.sv.map fun f u => mapV F (f u), V.df.map F⟩
def View.clean (V : View) (l : List Nat) : View := V.mapA (dropC l) l
def fzP (h : Nat) (cs : List AC) (c : AC) : AC := match c with
 | .p g off => cond (Nat.beq g h) (.e (cs.drop off)) (.p g off)
 | c => dropC [h] c
def fzR (h wd : Nat) (cs : List AC) (c : AC) : AC := match c with
 | .os g n wd' => cond (Nat.beq g h) (cond (Nat.beq wd' wd && Nat.ble (n * wd) cs.length) (.sl wd (chunk wd n cs)) .u) (.os g n wd')
 | c => dropC [h] c
def View.fz (V : View) (h : Nat) : View := match V.bv h with
 | some (.m ag ks vs) => V.mapA (fzC h (.mp ag ks vs)) [h]
 | some (.b _ cs) => cond (noPs cs) (V.mapA (fzP h cs) [h]) V
 | some (.r _ wd cs) => cond (noPs cs) (V.mapA (fzR h wd cs) [h]) V
 | _ => V
def View.fzs (V : View) : List Nat → View
 | [] => V
 | h :: l => cond (Nat.beq h 1000) (V.fzs l) ((V.fz h).fzs l)
theorem Corr.mapA {β : Nat → Option Nat} {S : Nat → Prop} {V : View} {a : Act} {w : World} (C : Corr O n w0 β S V a w) {F : AC → AC} {l : List Nat} {S' : Nat → Prop} (hs : ∀ b, S b → S' b)
  (hS : ∀ b, S' b → S b ∨ ∃ h, h ∈ l ∧ h ≠ 1000 ∧ β h = some b) (hl : ∀ b, w0.m = some b → 1000 ∉ l)
  (hF : ∀ x c, RepC O β S w x c → RepC O (fun h => cond (memB h l) none (β h)) S' w x (F c)) : Corr O n w0 (fun h => cond (memB h l) none (β h)) S' (V.mapA F l) a w := by
 have hFs : ∀ {vs cs}, RepCs O β S w vs cs → RepCs O (fun h => cond (memB h l) none (β h)) S' w vs (cs.map F) := by
  intro vs
  induction vs with
  | nil => intro cs r; cases cs with
   | nil => trivial
   | cons _ _ => exact r.elim
  | cons v vs ih => intro cs r; cases cs with
   | nil => exact r.elim
   | cons c cs => exact ⟨hF _ _ r.1, ih r.2⟩
 have nin : ∀ {h b}, cond (memB h l) none (β h) = some b → memB h l = false ∧ β h = some b := by
  intro h b hb
  cases hm : memB h l with
  | true => rw [hm] at hb; cases hb
  | false => rw [hm] at hb; exact ⟨rfl, hb⟩
 have hFv : ∀ {x v}, RepV O β S w x v → RepV O (fun h => cond (memB h l) none (β h)) S' w x (mapV F v) := by
  intro x v hi
  cases v with
  | c y => exact hF _ _ hi
  | g cs => obtain ⟨vs, e, r⟩ := hi; exact ⟨vs, e, hFs r⟩
  | t xs => obtain ⟨vs, e, r⟩ := hi; exact ⟨vs, e, All2.mono (fun _ _ r => RepW.evo (Evo.refl _ _ _) hs (fun _ _ h => h) r) r⟩
  | j => trivial
 refine ⟨fun i => hFv (C.tm i), C.sz, fun h b hb => ?_, fun h hs => ?_, fun h h' b hb hb' => ?_, fun b hb => ?_, C.ex, fun b hb => ?_, C.iv, fun b hb => ?_, C.hn, C.su.map (fun _ _ h => hFv h) (fun _ _ h => hF _ _ h)⟩
 ·obtain ⟨hm, hb⟩ := nin hb
  obtain ⟨X, h1, h2, h3, h4⟩ := C.bl h b hb
  refine ⟨mapX F X, by show cond (memB h l) none ((V.bv h).map _) = _; rw [hm, h1]; rfl, ?_, h3, fun hS' => ?_⟩
  ·cases X with
   | b T cs => obtain ⟨vs, g1, g2, g3⟩ := h2; exact ⟨vs, g1, hFs g2, g3⟩
   | r T wd cs => obtain ⟨vs, ts, g1, g2, g3⟩ := h2; exact ⟨vs, ts, g1, hFs g2, g3⟩
   | m ag ks vs => exact BxRep.evo (β := β) (β' := β) (X := .m ag ks vs) (Evo.refl _ _ _) hs (fun _ _ h => h) rfl h2
   | it ag ks vs cur => exact BxRep.evo (β := β) (β' := β) (X := .it ag ks vs cur) (Evo.refl _ _ _) hs (fun _ _ h => h) rfl h2
   | z o => exact h2
  ·rcases hS b hS' with h' | ⟨g, hg, _, hg'⟩
   ·exact h4 h'
   ·have := C.inj _ _ _ hb hg'
    rw [this, memB_iff.2 hg] at hm; cases hm
 ·have hs' : (cond (memB h l) none ((V.bv h).map (mapX F))).isSome = true := hs
  show (cond (memB h l) none (β h)).isSome = true
  cases hm : memB h l with
  | true => rw [hm] at hs'; cases hs'
  | false => rw [hm] at hs'; exact C.dm h (by simpa using hs')
 ·exact C.inj _ _ _ (nin hb).2 (nin hb').2
 ·rcases hS b hb with h | ⟨h, _, _, hb⟩
  ·exact C.sl b h
  ·obtain ⟨X, _, h2, _⟩ := C.bl h b hb; exact h2.lt
 ·rcases hS b hb with h | ⟨h, hh, h1, hb⟩
  ·exact C.sb b h
  ·obtain ⟨X, _, _, h3, _⟩ := C.bl h b hb
   rcases h3 with h3 | h3
   ·exact .inr h3
   ·exact absurd (C.inj _ _ _ hb (C.om b h3)) h1
 ·show cond (memB 1000 l) none (β 1000) = _
  have : memB 1000 l = false := by
   cases hm : memB 1000 l with
   | false => rfl
   | true => exact absurd (memB_iff.1 hm) (hl b hb)
  rw [this]; exact C.om b hb
theorem RepC.ref {β : Nat → Option Nat} {S : Nat → Prop} {w : World} {x : Value} {c : AC} {h : Nat} (r : RepC O β S w x c) (hr : refC c = some h) : ∃ b, β h = some b := by
 cases c <;> simp only [refC] at hr <;> try (cases hr; done)
 ·cases hr; obtain ⟨b, h1, _⟩ := r; exact ⟨b, h1⟩
 ·cases hr; obtain ⟨b, h1, _⟩ := r; exact ⟨b, h1⟩
 ·cases hr; obtain ⟨b, _, _, _, h1, _⟩ := r; exact ⟨b, h1⟩
 ·cases hr; obtain ⟨b, us, h1, _⟩ := r; exact ⟨b, h1⟩
theorem RepC.drop {β : Nat → Option Nat} {S S' : Nat → Prop} {w : World} {l : List Nat} (hs : ∀ b, S b → S' b) {x : Value} {c : AC} (r : RepC O β S w x c) : RepC O (fun h => cond (memB h l) none (β h)) S' w x (dropC l c) := by
 cases hr : refC c with
 | none =>
  simp only [dropC, hr]
  cases c <;> simp only [refC] at hr <;> try (cases hr; done)
  case u => exact r
  all_goals exact Rep0.toC (Rep0.evo (Evo.refl _ _ _) hs _ _ (RepC.to0 r rfl))
 | some h =>
  simp only [dropC, hr]
  cases hm : memB h l with
  | true => exact r.one
  | false =>
   have e : ∀ b, β h = some b → cond (memB h l) none (β h) = some b := fun b hb => by rw [hm]; exact hb
   cases c <;> simp only [refC] at hr <;> try (cases hr; done)
   ·cases hr; obtain ⟨b, h1, h2⟩ := r; exact ⟨b, e b h1, h2⟩
   ·cases hr; obtain ⟨b, h1, h2⟩ := r; exact ⟨b, e b h1, h2⟩
   ·cases hr; obtain ⟨b, cap, c, U, h1, h2⟩ := r; exact ⟨b, cap, c, U, e b h1, h2⟩
   ·cases hr; obtain ⟨b, us, h1, h2, h3⟩ := r; exact ⟨b, us, e b h1, h2, RepL.evo (Evo.refl _ _ _) hs _ _ h3⟩
theorem Corr.clean {β : Nat → Option Nat} {S : Nat → Prop} {V : View} {a : Act} {w : World} (C : Corr O n w0 β S V a w) {l : List Nat} (hl : ∀ t ∈ l, t < n) : Corr O n w0 (fun h => cond (memB h l) none (β h)) S (V.clean l) a w :=
 C.mapA (fun _ h => h) (fun _ h => .inl h) (fun _ _ h => by have := hl _ h; have := C.hn; omega) (fun _ _ r => r.drop fun _ h => h)
theorem Corr.fz {β : Nat → Option Nat} {S : Nat → Prop} {V : View} {a : Act} {w : World} (C : Corr O n w0 β S V a w) {h : Nat} (hh : h ≠ 1000) : ∃ β' S', Corr O n w0 β' S' (V.fz h) a w := by
 have go : ∀ {b : Nat} {F : AC → AC}, β h = some b → (∀ x c, RepC O β S w x c → RepC O (fun g => cond (memB g [h]) none (β g)) (fun x => S x ∨ x = b) w x (F c)) → ∃ β' S', Corr O n w0 β' S' (V.mapA F [h]) a w := by
  intro b F hb hF
  exact ⟨_, _, C.mapA (S' := fun x => S x ∨ x = b) (fun _ h => .inl h) (fun x hx => hx.imp id fun hx => ⟨h, by simp, hh, by rw [hx]; exact hb⟩) (fun _ _ h' => by simp at h'; exact hh h'.symm) hF⟩
 have nm : ∀ {g b' : Nat}, Nat.beq g h = false → β g = some b' → cond (memB g [h]) none (β g) = some b' := by
  intro g b' hg hb
  simp only [memB, hg, Bool.or_false, cond_false]; exact hb
 have box : ∀ {X}, V.bv h = some X → ∃ b, β h = some b ∧ BxRep O β S w b X := by
  intro X e
  have hd := C.dm h (by rw [e]; rfl)
  obtain ⟨b, hb⟩ := Option.isSome_iff_exists.1 hd
  obtain ⟨Y, h1, h2, _⟩ := C.bl h b hb
  rw [e] at h1; cases h1
  exact ⟨b, hb, h2⟩
 have cellAt : ∀ {b T : Nat} {vs ts : List Value}, w.heap[b]? = some (.cells (vs ++ ts).toArray T (0, 0)) → ∀ j v, vs[j]? = some v → w.cell? ⟨b, 0 + j, none⟩ = some v := by
  intro b T vs ts hh j v hj
  simp only [World.cell?, hh, Nat.zero_add]
  have hl := (List.getElem?_eq_some_iff.1 hj).1
  simp [List.getElem?_append_left hl, hj]
 unfold View.fz
 split
 ·rename_i ag ks vs e
  obtain ⟨b, hb, h2⟩ := box e
  refine go hb fun x c r => ?_
  have other : RepC O (fun g => cond (memB g [h]) none (β g)) (fun x => S x ∨ x = b) w x (dropC [h] c) := r.drop fun _ h => .inl h
  cases c with
  | pm g =>
   simp only [fzC]
   obtain ⟨b', h3, h4⟩ := r
   cases hg : Nat.beq g h with
   | true =>
    have hg := Nat.eq_of_beq_eq_true hg
    subst hg
    rw [hb] at h3; cases h3
    simp only [cond_true]
    refine Rep0.toC (c := .mp ag ks vs) ?_
    simp only [Rep0]
    obtain ⟨E, ck, L, g1, g2, g3, g4⟩ := h2
    exact ⟨b, E, ck, L, .inr rfl, h4, g1, g2, g3, RepEnts.evo (Evo.refl _ _ _) (fun _ h => .inl h) ag vs ks L g4⟩
   | false =>
    simp only [cond_false]
    exact ⟨b', nm hg h3, h4⟩
  | _ => exact other
 ·rename_i T cs e
  cases hn : noPs cs with
  | false => exact ⟨β, S, C⟩
  | true =>
   simp only [cond_true]
   obtain ⟨b, hb, vs, h1, h2, _⟩ := box e
   have h2 : R0s O (fun x => S x ∨ x = b) w vs cs := All2.mono (fun _ _ r => Rep0.evo (Evo.refl _ _ _) (fun _ h => .inl h) _ _ r) (h2.to0 hn)
   refine go hb fun x c r => ?_
   have other : RepC O (fun g => cond (memB g [h]) none (β g)) (fun x => S x ∨ x = b) w x (dropC [h] c) := r.drop fun _ h => .inl h
   cases c with
   | p g off =>
    simp only [fzP]
    obtain ⟨b', h3, h4⟩ := r
    cases hg : Nat.beq g h with
    | true =>
     have hg := Nat.eq_of_beq_eq_true hg
     subst hg
     rw [hb] at h3; cases h3
     simp only [cond_true]
     refine Rep0.toC (c := .e (cs.drop off)) ?_
     simp only [Rep0]
     have := RepRow.drop off cs b 0 (RepRow.of_list cs vs b 0 (cellAt (ts := []) (by simpa using h1)) h2)
     exact ⟨b, off, .inr rfl, h4, by rw [Nat.zero_add] at this; exact this⟩
    | false =>
     simp only [cond_false]
     exact ⟨b', nm hg h3, h4⟩
   | _ => exact other
 ·rename_i T wd cs e
  cases hn : noPs cs with
  | false => exact ⟨β, S, C⟩
  | true =>
   simp only [cond_true]
   obtain ⟨b, hb, vs, ts, h1, h2, _⟩ := box e
   have h2 : R0s O (fun x => S x ∨ x = b) w vs cs := All2.mono (fun _ _ r => Rep0.evo (Evo.refl _ _ _) (fun _ h => .inl h) _ _ r) (h2.to0 hn)
   refine go hb fun x c r => ?_
   have other : RepC O (fun g => cond (memB g [h]) none (β g)) (fun x => S x ∨ x = b) w x (dropC [h] c) := r.drop fun _ h => .inl h
   cases c with
   | os g k wd' =>
    simp only [fzR]
    have hone := r.one
    obtain ⟨b', cap, c', U, h3, h4, h5, h6⟩ := r
    cases hg : Nat.beq g h with
    | true =>
     have hg := Nat.eq_of_beq_eq_true hg
     subst hg
     rw [hb] at h3; cases h3
     simp only [cond_true]
     cases hc : Nat.beq wd' wd && Nat.ble (k * wd) cs.length with
     | false => exact hone
     | true =>
      simp only [Bool.and_eq_true, Nat.ble_eq] at hc
      simp only [cond_true]
      refine Rep0.toC (c := .sl wd (chunk wd k cs)) ?_
      simp only [Rep0]
      exact ⟨some ⟨b, 0, none⟩, b, 0, cap, by rw [chunk_len]; exact h4, fun _ => ⟨rfl, .inr rfl, by rw [chunk_len]; exact h6.2.2⟩, chunk_rep wd k cs b 0 hc.2 (RepRow.of_list cs vs b 0 (cellAt h1) h2)⟩
    | false =>
     simp only [cond_false]
     exact ⟨b', cap, c', U, nm hg h3, h4, h5, h6⟩
   | _ => exact other
 ·exact ⟨β, S, C⟩
theorem Corr.fzs {a : Act} {w : World} : ∀ (l : List Nat) {β : Nat → Option Nat} {S : Nat → Prop} {V : View}, Corr O n w0 β S V a w → ∃ β' S', Corr O n w0 β' S' (V.fzs l) a w
 | [], β, S, _, C => ⟨β, S, C⟩
 | h :: l, β, S, V, C => by
  simp only [View.fzs]
  cases hh : Nat.beq h 1000 with
  | true => exact Corr.fzs l C
  | false =>
   obtain ⟨β', S', C'⟩ := C.fz (h := h) (fun e => by subst e; cases hh)
   exact Corr.fzs l C'
end
end Go.Proofs.YtajecapgmdfjcaaGreatDoor
