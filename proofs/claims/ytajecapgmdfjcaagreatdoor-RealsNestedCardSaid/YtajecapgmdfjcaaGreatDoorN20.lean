/- A memory of parts: values of the walk as parts that say what they read as, the frame's own boxes by the number of the slot that holds them. -/
import Derived.Maps.RangeRun
import Derived.Test.YtajecapgmdfjcaaGreatDoorN02
namespace Go.Proofs.YtajecapgmdfjcaaGreatDoor
open Go.RowKit Vn
open Go.ChangeMaps (setBlock)
inductive AC where
 | v (x : Value)
 | o (k n : Nat)
 | p (h off : Nat)
 | e (cs : List AC)
 | sl (wd : Nat) (xs : List (List AC))
 | mp (ag : Bool) (ks : List Int) (vs : List (List AC))
 | pm (h : Nat)
 | os (h n wd : Nat)
 | cl (k : Nat) (cs : List AC)
 | clp (k h : Nat) (cs : List AC)
 | u
inductive AV where
 | c (x : AC)
 | g (xs : List AC)
 | t (xs : List AV)
 | j
def isMapO : Obj → Bool
 | .map _ _ => true
 | .mapIter _ _ _ _ => true
 | .loop _ => true
 | .deferred _ => true
 | _ => false
structure Opq where
 R : Nat → Nat → World → Value → Prop
 box : TypeId → Bool
 ext : ∀ {k n w w' x}, R k n w x → Ext w w' → R k n w' x
 set : ∀ {k n w x b c U fr i}, R k n w x → w.heap[b]? = some (.cells c U fr) → box U = true → ∀ y, R k n (w.setCell ⟨b, i, none⟩ y) x
 one : ∀ {k n w x}, R k n w x → x.oneCell' = true
 setM : ∀ {k n w x b o}, R k n w x → w.heap[b]? = some o → isMapO o = true → ∀ o', R k n (setBlock w b o') x
 row : ∀ {k n w w' x b c U}, R k n w x → w.heap[b]? = some (.cells c U (0, 0)) → box U = true → (∀ j, j < w.heap.size → j ≠ b → w'.heap[j]? = w.heap[j]?) → R k n w' x
 inv : World → Prop
 invM : ∀ {w b o}, inv w → w.heap[b]? = some o → isMapO o = true → ∀ o', inv (setBlock w b o')
 invE : ∀ {w w'}, inv w → Ext w w' → inv w'
 tab : Nat → Nat → Option Value
 tabR : ∀ {w}, inv w → ∀ g i x, tab g i = some x → w.cell? ⟨g, i, none⟩ = some x ∧ x.oneCell' = true
def clV (k b : Nat) (us : List Value) : Value := cond (Nat.beq k 1000000) (.func (.yield b) #[] #[]) (.func (.func k) #[] (Value.pointer (some ⟨b, 0, none⟩) :: us).toArray)
theorem clV_one (k b : Nat) (us : List Value) : (clV k b us).oneCell' = true := by
 unfold clV
 cases Nat.beq k 1000000 <;> rfl
theorem clV_ne {k : Nat} (h : Nat.beq k 1000000 = false) (b : Nat) (us : List Value) : clV k b us = .func (.func k) #[] (Value.pointer (some ⟨b, 0, none⟩) :: us).toArray := by simp [clV, h]
def All2 {α β : Type} (R : α → β → Prop) : List α → List β → Prop
 | [], [] => True
 | a :: l, b :: m => R a b ∧ All2 R l m
 | _, _ => False
theorem All2.len {α β : Type} {R : α → β → Prop} : ∀ {l : List α} {m : List β}, All2 R l m → l.length = m.length
 | [], [], _ => rfl
 | _ :: _, _ :: _, h => by simp [All2.len h.2]
theorem All2.mono {α β : Type} {R R' : α → β → Prop} (hr : ∀ a b, R a b → R' a b) : ∀ {l : List α} {m : List β}, All2 R l m → All2 R' l m
 | [], [], _ => trivial
 | _ :: _, _ :: _, h => ⟨hr _ _ h.1, h.2.mono hr⟩
theorem All2.app {α β : Type} {R : α → β → Prop} : ∀ {l : List α} {m : List β} {l' : List α} {m' : List β}, All2 R l m → All2 R l' m' → All2 R (l ++ l') (m ++ m')
 | [], [], _, _, _, h' => h'
 | _ :: _, _ :: _, _, _, h, h' => ⟨h.1, h.2.app h'⟩
theorem All2.take {α β : Type} {R : α → β → Prop} : ∀ (n : Nat) {l : List α} {m : List β}, All2 R l m → All2 R (l.take n) (m.take n)
 | 0, _, _, _ => by simp [All2]
 | _ + 1, [], [], _ => trivial
 | n + 1, _ :: _, _ :: _, h => ⟨h.1, All2.take n h.2⟩
theorem All2.drop {α β : Type} {R : α → β → Prop} : ∀ (n : Nat) {l : List α} {m : List β}, All2 R l m → All2 R (l.drop n) (m.drop n)
 | 0, _, _, h => h
 | _ + 1, [], [], _ => trivial
 | n + 1, _ :: _, _ :: _, h => All2.drop n h.2
theorem All2.get {α β : Type} {R : α → β → Prop} : ∀ {l : List α} {m : List β} (_ : All2 R l m) (i : Nat) (b : β), m[i]? = some b → ∃ a, l[i]? = some a ∧ R a b
 | [], [], _, i, b, h => by simp at h
 | a :: _, _ :: _, h, 0, b, e => ⟨a, rfl, by simp at e; rw [← e]; exact h.1⟩
 | _ :: _, _ :: _, h, i + 1, b, e => by simpa using h.2.get i b (by simpa using e)
structure MapOK (E : Array MapEntry) (ck : Nat) : Prop where
 lt : ∀ x ∈ E.toList, x.born < ck
 bn : (E.toList.map (·.born)).Nodup
 kn : (E.toList.map (·.key)).Nodup
def pack (ag : Bool) (us : List Value) : Value := match ag with
 | true => .agg us.toArray
 | false => us.headD undef
mutual
def Rep0 (O : Opq) (S : Nat → Prop) (w : World) : AC → Value → Prop
 | .v y, x => x = y ∧ y.oneCell' = true
 | .o k n, x => O.R k n w x
 | .p _ _, _ => False
 | .e cs, x => ∃ b off, S b ∧ x = .pointer (some ⟨b, off, none⟩) ∧ RepRow O S w cs b off
 | .sl wd xs, x => ∃ (a : Option Addr) (b off cap : Nat), x = .slice a xs.length cap ∧ (0 < xs.length → a = some ⟨b, off, none⟩ ∧ S b ∧ xs.length ≤ cap) ∧ RepRows O S w wd xs b off
 | .mp ag ks vs, x => ∃ (b : Nat) (E : Array MapEntry) (ck : Nat) (L : List MapEntry), S b ∧ x = .map (some b) ∧ w.heap[b]? = some (.map E ck) ∧ MapOK E ck ∧ L.Perm E.toList ∧ RepEnts O S w ag vs ks L
 | .pm _, _ => False
 | .os _ _ _, _ => False
 | .cl k cs, x => ∃ us : List Value, x = .func (.func k) #[] us.toArray ∧ RepL O S w cs us
 | .clp _ _ _, _ => False
 | .u, _ => False
def RepEnts (O : Opq) (S : Nat → Prop) (w : World) (ag : Bool) : List (List AC) → List Int → List MapEntry → Prop
 | [], [], [] => True
 | v :: vs, k :: ks, e :: L => e.key = .int .i64 k ∧ (∃ us, e.val = pack ag us ∧ (ag = false → us.length = 1) ∧ RepL O S w v us) ∧ RepEnts O S w ag vs ks L
 | _, _, _ => False
def RepL (O : Opq) (S : Nat → Prop) (w : World) : List AC → List Value → Prop
 | [], [] => True
 | c :: cs, u :: us => Rep0 O S w c u ∧ RepL O S w cs us
 | _, _ => False
def RepRow (O : Opq) (S : Nat → Prop) (w : World) : List AC → Nat → Nat → Prop
 | [], _, _ => True
 | c :: cs, b, off => (∃ x, w.cell? ⟨b, off, none⟩ = some x ∧ Rep0 O S w c x) ∧ RepRow O S w cs b (off + 1)
def RepRows (O : Opq) (S : Nat → Prop) (w : World) (wd : Nat) : List (List AC) → Nat → Nat → Prop
 | [], _, _ => True
 | r :: rs, b, off => r.length = wd ∧ RepRow O S w r b off ∧ RepRows O S w wd rs b (off + wd)
end
structure Evo (O : Opq) (S : Nat → Prop) (w w' : World) : Prop where
 heap : ∀ b, S b → w'.heap[b]? = w.heap[b]?
 opq : ∀ {k n x}, O.R k n w x → O.R k n w' x
 csz : ∀ {b : Nat} {c : Array Value} {T : TypeId}, w.heap[b]? = some (.cells c T (0, 0)) → ∃ c' : Array Value, w'.heap[b]? = some (.cells c' T (0, 0)) ∧ c'.size = c.size
theorem cell_of_heap {w w' : World} {b : Nat} (h : w'.heap[b]? = w.heap[b]?) (off : Nat) : w'.cell? ⟨b, off, none⟩ = w.cell? ⟨b, off, none⟩ := by
 simp only [World.cell?, h]
mutual
theorem Rep0.evo {O : Opq} {S S' : Nat → Prop} {w w' : World} (h : Evo O S w w') (hs : ∀ b, S b → S' b) : ∀ (c : AC) (x : Value), Rep0 O S w c x → Rep0 O S' w' c x
 | .v y, x, r => by simpa only [Rep0] using r
 | .o k n, x, r => by simp only [Rep0] at r ⊢; exact h.opq r
 | .p _ _, x, r => by simp only [Rep0] at r
 | .e cs, x, r => by
  simp only [Rep0] at r ⊢
  obtain ⟨b, off, hb, e, r⟩ := r
  exact ⟨b, off, hs b hb, e, RepRow.evo h hs cs b off (fun _ => hb) r⟩
 | .sl wd xs, x, r => by
  simp only [Rep0] at r ⊢
  obtain ⟨a, b, off, cap, e, ha, r⟩ := r
  refine ⟨a, b, off, cap, e, fun hl => ⟨(ha hl).1, hs b (ha hl).2.1, (ha hl).2.2⟩, ?_⟩
  exact RepRows.evo h hs wd xs b off (fun hl => (ha hl).2.1) r
 | .mp ag ks vs, x, r => by
  simp only [Rep0] at r ⊢
  obtain ⟨b, E, ck, L, hb, e, hh, ok, hp, r⟩ := r
  exact ⟨b, E, ck, L, hs b hb, e, by rw [h.heap b hb]; exact hh, ok, hp, RepEnts.evo h hs ag vs ks L r⟩
 | .pm _, x, r => by simp only [Rep0] at r
 | .os _ _ _, x, r => by simp only [Rep0] at r
 | .cl k cs, x, r => by
  simp only [Rep0] at r ⊢
  obtain ⟨us, e, r⟩ := r
  exact ⟨us, e, RepL.evo h hs cs us r⟩
 | .clp _ _ _, x, r => by simp only [Rep0] at r
 | .u, x, r => by simp only [Rep0] at r
theorem RepEnts.evo {O : Opq} {S S' : Nat → Prop} {w w' : World} (h : Evo O S w w') (hs : ∀ b, S b → S' b) (ag : Bool) : ∀ (vs : List (List AC)) (ks : List Int) (L : List MapEntry), RepEnts O S w ag vs ks L → RepEnts O S' w' ag vs ks L
 | [], [], [], _ => by simp only [RepEnts]
 | v :: vs, k :: ks, e :: L, r => by
  simp only [RepEnts] at r ⊢
  obtain ⟨h1, ⟨us, h2, h3, h4⟩, r⟩ := r
  exact ⟨h1, ⟨us, h2, h3, RepL.evo h hs v us h4⟩, RepEnts.evo h hs ag vs ks L r⟩
 | [], [], _ :: _, r => by simp only [RepEnts] at r
 | [], _ :: _, _, r => by simp only [RepEnts] at r
 | _ :: _, [], _, r => by simp only [RepEnts] at r
 | _ :: _, _ :: _, [], r => by simp only [RepEnts] at r
theorem RepL.evo {O : Opq} {S S' : Nat → Prop} {w w' : World} (h : Evo O S w w') (hs : ∀ b, S b → S' b) : ∀ (cs : List AC) (us : List Value), RepL O S w cs us → RepL O S' w' cs us
 | [], [], _ => by simp only [RepL]
 | c :: cs, u :: us, r => by
  simp only [RepL] at r ⊢
  exact ⟨Rep0.evo h hs c u r.1, RepL.evo h hs cs us r.2⟩
 | [], _ :: _, r => by simp only [RepL] at r
 | _ :: _, [], r => by simp only [RepL] at r
theorem RepRow.evo {O : Opq} {S S' : Nat → Prop} {w w' : World} (h : Evo O S w w') (hs : ∀ b, S b → S' b) : ∀ (cs : List AC) (b off : Nat), (cs ≠ [] → S b) → RepRow O S w cs b off → RepRow O S' w' cs b off
 | [], _, _, _, _ => by simp only [RepRow]
 | c :: cs, b, off, hb, r => by
  simp only [RepRow] at r ⊢
  obtain ⟨⟨x, hx, r0⟩, r⟩ := r
  exact ⟨⟨x, by rw [cell_of_heap (h.heap b (hb (by simp)))]; exact hx, Rep0.evo h hs c x r0⟩, RepRow.evo h hs cs b (off + 1) (fun _ => hb (by simp)) r⟩
theorem RepRows.evo {O : Opq} {S S' : Nat → Prop} {w w' : World} (h : Evo O S w w') (hs : ∀ b, S b → S' b) (wd : Nat) : ∀ (xs : List (List AC)) (b off : Nat), (0 < xs.length → S b) → RepRows O S w wd xs b off → RepRows O S' w' wd xs b off
 | [], _, _, _, _ => by simp only [RepRows]
 | r :: rs, b, off, hb, q => by
  simp only [RepRows] at q ⊢
  exact ⟨q.1, RepRow.evo h hs r b off (fun _ => hb (by simp)) q.2.1, RepRows.evo h hs wd rs b (off + wd) (fun _ => hb (by simp)) q.2.2⟩
end
def RepC (O : Opq) (β : Nat → Option Nat) (S : Nat → Prop) (w : World) (x : Value) : AC → Prop
 | .p h off => ∃ b, β h = some b ∧ x = .pointer (some ⟨b, off, none⟩)
 | .pm h => ∃ b, β h = some b ∧ x = .map (some b)
 | .os h n wd => ∃ (b cap : Nat) (c : Array Value) (T : TypeId), β h = some b ∧ x = .slice (some ⟨b, 0, none⟩) n cap ∧ w.heap[b]? = some (.cells c T (0, 0)) ∧ c.size = cap * wd ∧ cap ≤ maxLen ∧ n ≤ cap
 | .clp k h cs => ∃ (b : Nat) (us : List Value), β h = some b ∧ x = clV k b us ∧ RepL O S w cs us
 | .u => x.oneCell' = true
 | c => Rep0 O S w c x
def isP : AC → Bool
 | .p _ _ => true
 | .pm _ => true
 | .os _ _ _ => true
 | .clp _ _ _ => true
 | .u => true
 | _ => false
def refC : AC → Option Nat
 | .p h _ => some h
 | .pm h => some h
 | .os h _ _ => some h
 | .clp _ h _ => some h
 | _ => none
def RepCs (O : Opq) (β : Nat → Option Nat) (S : Nat → Prop) (w : World) (vs : List Value) (cs : List AC) : Prop := All2 (fun x c => RepC O β S w x c) vs cs
def RepW (O : Opq) (β : Nat → Option Nat) (S : Nat → Prop) (w : World) (x : Value) : AV → Prop
 | .c a => RepC O β S w x a
 | .g cs => ∃ vs : List Value, x = .agg vs.toArray ∧ RepCs O β S w vs cs
 | .t _ => False
 | .j => True
def RepV (O : Opq) (β : Nat → Option Nat) (S : Nat → Prop) (w : World) (x : Value) : AV → Prop
 | .t xs => ∃ vs : List Value, x = .tuple vs.toArray ∧ All2 (RepW O (fun _ => none) S w) vs xs
 | a => RepW O β S w x a
theorem Rep0.v' {O : Opq} {S : Nat → Prop} {w : World} {x y : Value} (e : x = y) (h : y.oneCell' = true) : Rep0 O S w (.v y) x := by rw [Rep0]; exact ⟨e, h⟩
theorem Rep0.o' {O : Opq} {S : Nat → Prop} {w : World} {x : Value} {k n : Nat} (h : O.R k n w x) : Rep0 O S w (.o k n) x := by rw [Rep0]; exact h
theorem Rep0.one {O : Opq} {S : Nat → Prop} {w : World} {c : AC} {x : Value} (h : Rep0 O S w c x) : x.oneCell' = true := by
 cases c with
 | v y => simp only [Rep0] at h; rw [h.1]; exact h.2
 | o k n => simp only [Rep0] at h; exact O.one h
 | p _ _ => simp only [Rep0] at h
 | e cs => simp only [Rep0] at h; obtain ⟨b, off, _, e, _⟩ := h; rw [e]; rfl
 | sl wd xs => simp only [Rep0] at h; obtain ⟨a, b, off, cap, e, _⟩ := h; rw [e]; rfl
 | mp ag ks vs => simp only [Rep0] at h; obtain ⟨b, _, _, _, _, e, _⟩ := h; rw [e]; rfl
 | pm _ => simp only [Rep0] at h
 | os _ _ _ => simp only [Rep0] at h
 | cl k cs => simp only [Rep0] at h; obtain ⟨us, e, _⟩ := h; rw [e]; rfl
 | clp _ _ _ => simp only [Rep0] at h
 | u => simp only [Rep0] at h
theorem RepC.one {O : Opq} {β : Nat → Option Nat} {S : Nat → Prop} {w : World} {c : AC} {x : Value} (h : RepC O β S w x c) : x.oneCell' = true := by
 cases c with
 | p _ _ => obtain ⟨b, _, e⟩ := h; rw [e]; rfl
 | pm _ => obtain ⟨b, _, e⟩ := h; rw [e]; rfl
 | os _ _ _ => obtain ⟨b, _, _, _, _, e, _⟩ := h; rw [e]; rfl
 | clp _ _ _ => obtain ⟨b, us, _, e, _⟩ := h; rw [e]; exact clV_one _ _ _
 | u => exact h
 | _ => exact Rep0.one h
theorem RepC.evo {O : Opq} {β β' : Nat → Option Nat} {S S' : Nat → Prop} {w w' : World} (h : Evo O S w w') (hs : ∀ b, S b → S' b) (hβ : ∀ k b, β k = some b → β' k = some b) {x : Value} {c : AC} (r : RepC O β S w x c) : RepC O β' S' w' x c := by
 cases c with
 | p _ _ => obtain ⟨b, hb, e⟩ := r; exact ⟨b, hβ _ _ hb, e⟩
 | pm _ => obtain ⟨b, hb, e⟩ := r; exact ⟨b, hβ _ _ hb, e⟩
 | os _ _ _ => obtain ⟨b, cap, c, T, hb, e, g, hc⟩ := r; obtain ⟨c', g', e'⟩ := h.csz g; exact ⟨b, cap, c', T, hβ _ _ hb, e, g', by rw [e']; exact hc⟩
 | clp _ _ _ => obtain ⟨b, us, hb, e, r⟩ := r; exact ⟨b, us, hβ _ _ hb, e, RepL.evo h hs _ _ r⟩
 | u => exact r
 | _ => exact Rep0.evo h hs _ _ r
theorem RepCs.evo {O : Opq} {β β' : Nat → Option Nat} {S S' : Nat → Prop} {w w' : World} (h : Evo O S w w') (hs : ∀ b, S b → S' b) (hβ : ∀ k b, β k = some b → β' k = some b) {vs : List Value} {cs : List AC} (r : RepCs O β S w vs cs) : RepCs O β' S' w' vs cs :=
 All2.mono (fun _ _ r => RepC.evo h hs hβ r) r
theorem RepW.evo {O : Opq} {β β' : Nat → Option Nat} {S S' : Nat → Prop} {w w' : World} (h : Evo O S w w') (hs : ∀ b, S b → S' b) (hβ : ∀ k b, β k = some b → β' k = some b) {x : Value} {c : AV} (r : RepW O β S w x c) : RepW O β' S' w' x c := by
 cases c with
 | c a => exact RepC.evo h hs hβ r
 | g cs => obtain ⟨vs, e, r⟩ := r; exact ⟨vs, e, r.evo h hs hβ⟩
 | t _ => exact r.elim
 | j => trivial
theorem RepV.evo {O : Opq} {β β' : Nat → Option Nat} {S S' : Nat → Prop} {w w' : World} (h : Evo O S w w') (hs : ∀ b, S b → S' b) (hβ : ∀ k b, β k = some b → β' k = some b) {x : Value} {c : AV} (r : RepV O β S w x c) : RepV O β' S' w' x c := by
 cases c with
 | t xs => obtain ⟨vs, e, r⟩ := r; exact ⟨vs, e, All2.mono (fun _ _ r => RepW.evo h hs (fun _ _ h => h) r) r⟩
 | c a => exact RepC.evo h hs hβ r
 | g cs => exact RepW.evo (c := .g cs) h hs hβ r
 | j => trivial
theorem Evo.refl (O : Opq) (S : Nat → Prop) (w : World) : Evo O S w w := ⟨fun _ _ => rfl, fun h => h, fun h => ⟨_, h, rfl⟩⟩
theorem Evo.of_ext {O : Opq} {S : Nat → Prop} {w w' : World} (h : Ext w w') (hs : ∀ b, S b → b < w.heap.size) : Evo O S w w' := ⟨fun b hb => h.block b (hs b hb), fun r => O.ext r h, fun g => ⟨_, h.heap g, rfl⟩⟩
theorem Rep0.toC {O : Opq} {β : Nat → Option Nat} {S : Nat → Prop} {w : World} {c : AC} {x : Value} (h : Rep0 O S w c x) : RepC O β S w x c := by
 cases c with
 | p _ _ => simp only [Rep0] at h
 | pm _ => simp only [Rep0] at h
 | os _ _ _ => simp only [Rep0] at h
 | clp _ _ _ => simp only [Rep0] at h
 | u => simp only [Rep0] at h
 | _ => exact h
theorem RepC.to0 {O : Opq} {β : Nat → Option Nat} {S : Nat → Prop} {w : World} {c : AC} {x : Value} (h : RepC O β S w x c) (hp : isP c = false) : Rep0 O S w c x := by
 cases c with
 | p _ _ => simp [isP] at hp
 | pm _ => simp [isP] at hp
 | os _ _ _ => simp [isP] at hp
 | clp _ _ _ => simp [isP] at hp
 | u => simp [isP] at hp
 | _ => exact h
end Go.Proofs.YtajecapgmdfjcaaGreatDoor
