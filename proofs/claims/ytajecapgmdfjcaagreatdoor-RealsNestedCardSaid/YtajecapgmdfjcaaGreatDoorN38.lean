/- Elements in memory; with. -/
import Derived.Test.YtajecapgmdfjcaaGreatDoorN37
namespace Go.Proofs.YtajecapgmdfjcaaGreatDoor
open Go.RowKit Vn
def keysE (E : El) : List Int := E.map (·.1)
def valsE (E : El) : List (List AC) := E.map fun p => numA p.2
abbrev eC (E : El) : AC := .mp true (keysE E) (valsE E)
abbrev eA (E : El) : AV := .c (eC E)
abbrev eX (E : El) : Bx := .m true (keysE E) (valsE E)
theorem flat_num (q : Rat) : ∀ c ∈ numA q, flatC c = true := by
 intro c hc
 simp only [numA, List.mem_cons, List.not_mem_nil, or_false] at hc
 rcases hc with rfl | rfl | rfl <;> rfl
theorem flat_E (E : El) : FlatVs (valsE E) := by
 intro v hv c hc
 obtain ⟨p, _, rfl⟩ := List.mem_map.1 hv
 exact flat_num _ c hc
theorem look_E : ∀ (E : El) (i : Int), lookK (keysE E) (valsE E) i [.v (.bool false), .o 0 0, .o 1 1] = numA (getE E i)
 | [], i => rfl
 | (k, q) :: E, i => by
  by_cases e : k = i
  ·subst e; simp [keysE, valsE, lookK, getE]
  ·have e' : decide (k = i) = false := by simp [e]
   have := look_E E i
   simp only [keysE, valsE] at this
   simp [keysE, valsE, lookK, getE, e, this]
theorem mem_E : ∀ (E : El) (i : Int), memK (keysE E) i = memE E i
 | [], i => rfl
 | (k, q) :: E, i => by
  have := mem_E E i
  simp only [keysE] at this
  simp [keysE, memK, memE, this]
theorem rep_E (x : Rat) : ∀ (E : El) (i : Int), memE E i = true → keysE (repE E i x) = keysE E ∧ repV (keysE E) (valsE E) i (numA x) = valsE (repE E i x)
 | [], i, h => by cases h
 | (k, q) :: E, i, h => by
  by_cases e : k = i
  ·subst e; simp [keysE, valsE, repV, repE]
  ·have e' : decide (k = i) = false := by simp [e]
   simp only [memE, e', cond_false] at h
   obtain ⟨h1, h2⟩ := rep_E x E i h
   simp only [keysE, valsE] at h1 h2
   simp [keysE, valsE, repV, repE, e, h1, h2]
theorem ins_E (x : Rat) : ∀ (E : El) (i : Int), insKs (keysE E) i = keysE (insE E i x) ∧ insV (keysE E) (valsE E) i (numA x) = valsE (insE E i x)
 | [], i => ⟨rfl, rfl⟩
 | (k, q) :: E, i => by
  obtain ⟨h1, h2⟩ := ins_E x E i
  simp only [keysE, valsE] at h1 h2
  cases e : decide (i < k) <;> simp [keysE, valsE, insKs, insV, insE, e, h1, h2]
theorem put_E (E : El) (i : Int) (x : Rat) : putKs (keysE E) i = keysE (putE E i x) ∧ putV (keysE E) (valsE E) i (numA x) = valsE (putE E i x) := by
 simp only [putKs, putV, putE, mem_E]
 cases h : memE E i with
 | true => obtain ⟨h1, h2⟩ := rep_E x E i h; exact ⟨h1.symm, h2⟩
 | false => exact ins_E x E i
theorem del_E : ∀ (E : El) (i : Int), delKs (keysE E) i = keysE (delE E i) ∧ delV (keysE E) (valsE E) i = valsE (delE E i)
 | [], i => ⟨rfl, rfl⟩
 | (k, q) :: E, i => by
  obtain ⟨h1, h2⟩ := del_E E i
  simp only [keysE, valsE] at h1 h2
  cases e : decide (k = i) <;> simp [keysE, valsE, delKs, delV, delE, e, h1, h2]
theorem cWith {E : El} {k : Int} {q : Rat} {K : Nat} (hE : SmQ K (getE E k)) (hq : SmQ K q) (hK : K ≤ 20000000) :
  CalH Tryz.prog OQ 71 true (keysE E) (valsE E) [iA k, nA q] (keysE (withE E k q)) (valsE (withE E k q)) := by
 refine fn_callH [] TK MX Tryz.func71 rfl (by kernel_rfl) (by kernel_rfl) (by kernel_rfl) rfl ?_
 conv => whnf
 rw [look_E]
 conv => whnf
 refine ⟨_, cAdd hE hq hK, ?_⟩
 conv => whnf
 refine ⟨_, cSign, ?_⟩
 conv => whnf
 cases h : (getE E k + q).num.sign != 0
 ·have h0 : getE E k + q = 0 := by
   have : (getE E k + q).num.sign = 0 := by simpa using h
   exact Rat.num_eq_zero.1 (Int.sign_eq_zero_iff_zero.1 this)
  have e : withE E k q = delE E k := by rw [withE, if_pos h0]
  rw [e]
  conv => whnf
  refine ⟨rfl, ?_⟩
  show some (Bx.m true (delKs (keysE E) k) (delV (keysE E) (valsE E) k)) = _
  rw [(del_E E k).1, (del_E E k).2]
 ·have h0 : getE E k + q ≠ 0 := by
   intro e; rw [e] at h; cases h
  have e : withE E k q = putE E k (getE E k + q) := by rw [withE, if_neg h0]
  rw [e]
  conv => whnf
  refine ⟨rfl, ?_⟩
  show some (Bx.m true (putKs (keysE E) k) (putV (keysE E) (valsE E) k (numA (getE E k + q)))) = _
  rw [(put_E E k _).1, (put_E E k _).2]
end Go.Proofs.YtajecapgmdfjcaaGreatDoor

/- scale: a loop over an element. -/
namespace Go.Proofs.YtajecapgmdfjcaaGreatDoor
open Go.RowKit Vn
structure LS (f : Int × Rat → Int × Rat) (A0 x : El) where
 left : El
 acc : El
 cur : Option (Int × List AC)
 can : CanE acc
 tot : ∀ i, getE acc i + totE f left i = getE A0 i + totE f x i
 mem : ∀ p ∈ left, p ∈ x
 nod : (left.map fun p => (f p).1).Nodup
 sub : ∀ i, totE f left i = 0 ∨ totE f left i = totE f x i
def LS.start {f : Int × Rat → Int × Rat} {A0 x : El} (hc : CanE A0) (hn : (x.map fun p => (f p).1).Nodup) : LS f A0 x :=
 ⟨x, A0, none, hc, fun _ => rfl, fun _ h => h, hn, fun _ => .inr rfl⟩
theorem tot_none {f : Int × Rat → Int × Rat} : ∀ {L : El} {i : Int}, i ∉ L.map (fun p => (f p).1) → totE f L i = 0
 | [], _, _ => rfl
 | p :: L, i, h => by
  simp only [List.map_cons, List.mem_cons, not_or] at h
  simp only [totE]
  rw [if_neg (fun e => h.1 e.symm), tot_none h.2, Rat.add_zero]
theorem nodup_erase {f : Int × Rat → Int × Rat} : ∀ {L : El} {i : Nat} {p : Int × Rat}, L[i]? = some p → (L.map fun p => (f p).1).Nodup → ((L.eraseIdx i).map fun p => (f p).1).Nodup ∧ (f p).1 ∉ (L.eraseIdx i).map fun p => (f p).1
 | [], _, _, h, _ => by simp at h
 | x :: L, 0, p, h, hn => by
  simp at h; subst h
  simp only [List.map_cons, List.nodup_cons] at hn
  exact ⟨hn.2, hn.1⟩
 | x :: L, i + 1, p, h, hn => by
  have h : L[i]? = some p := by simpa using h
  simp only [List.map_cons, List.nodup_cons] at hn
  obtain ⟨h1, h2⟩ := nodup_erase h hn.2
  have hp : (f p).1 ∈ L.map fun p => (f p).1 := List.mem_map.2 ⟨p, List.mem_of_getElem? h, rfl⟩
  simp only [List.eraseIdx_cons_succ, List.map_cons, List.nodup_cons, List.mem_cons, not_or]
  refine ⟨⟨fun hm => ?_, h1⟩, fun e => hn.1 (e ▸ hp), h2⟩
  obtain ⟨q, hq, e⟩ := List.mem_map.1 hm
  exact hn.1 (e ▸ List.mem_map.2 ⟨q, List.mem_of_mem_eraseIdx hq, rfl⟩)
def LS.step {f : Int × Rat → Int × Rat} {A0 x : El} (s : LS f A0 x) {i : Nat} {p : Int × Rat} (hp : s.left[i]? = some p) (cur : Option (Int × List AC)) : LS f A0 x :=
 ⟨s.left.eraseIdx i, withE s.acc (f p).1 (f p).2, cur, (s.can.with _ _).1, fun j => by
  rw [(s.can.with _ _).2 j, ← s.tot j, totE_erase f hp j, Rat.add_assoc], fun q hq => s.mem q (List.mem_of_mem_eraseIdx hq), (nodup_erase hp s.nod).1, fun j => by
  by_cases e : (f p).1 = j
  ·exact .inl (tot_none (e ▸ (nodup_erase hp s.nod).2))
  ·have := totE_erase f hp j
   rw [if_neg e, Rat.zero_add] at this
   rw [← this]; exact s.sub j⟩
theorem LS.sm {f : Int × Rat → Int × Rat} {A0 x : El} {M : Nat} (s : LS f A0 x) (hM : ∀ i, SmQ M (getE A0 i) ∧ SmQ M (getE A0 i + totE f x i)) (i : Int) : SmQ M (getE s.acc i) := by
 have := s.tot i
 rcases s.sub i with h | h
 ·rw [h, Rat.add_zero] at this; rw [this]; exact (hM i).2
 ·rw [h] at this
  have : getE s.acc i = getE A0 i := by
   have e := congrArg (fun q => q + -(totE f x i)) this
   simp only [Rat.add_assoc, Rat.add_neg_cancel, Rat.add_zero] at e
   exact e
  rw [this]; exact (hM i).1
theorem LS.done {f : Int × Rat → Int × Rat} {A0 x : El} (s : LS f A0 x) (hA : CanE A0) (h : s.left = []) : s.acc = foldE f A0 x := by
 refine CanE.ext s.can (CanE.fold f x hA).1 fun i => ?_
 have := s.tot i
 rw [h] at this
 simp only [totE, Rat.add_zero] at this
 rw [this, (CanE.fold f x hA).2]
theorem key_at {E : El} {i : Nat} {k : Int} {v : List AC} (hk : (keysE E)[i]? = some k) (hv : (valsE E)[i]? = some v) : ∃ q, E[i]? = some (k, q) ∧ v = numA q := by
 simp only [keysE, valsE, List.getElem?_map] at hk hv
 cases h : E[i]? with
 | none => rw [h] at hk; cases hk
 | some p => rw [h] at hk hv; cases hk; cases hv; exact ⟨p.2, rfl, rfl⟩
theorem erase_map {α β : Type} (f : α → β) : ∀ (l : List α) (i : Nat), (l.map f).eraseIdx i = (l.eraseIdx i).map f
 | [], _ => rfl
 | _ :: _, 0 => rfl
 | a :: l, i + 1 => by simp [erase_map f l i]
theorem keys_erase (E : El) (i : Nat) : (keysE E).eraseIdx i = keysE (E.eraseIdx i) := erase_map _ E i
theorem vals_erase (E : El) (i : Nat) : (valsE E).eraseIdx i = valsE (E.eraseIdx i) := erase_map _ E i
theorem keys_nil {E : El} (h : keysE E = []) : E = [] := by simpa [keysE] using h
theorem can_nodup {x : El} (h : CanE x) : (x.map (·.1)).Nodup := by
 rw [List.nodup_iff_pairwise_ne, List.pairwise_map]
 exact h.1.imp fun h => by omega
def SmB (K : Nat) (x : El) : Prop := ∀ p ∈ x, SmQ K p.2
theorem SmB.get {K : Nat} : ∀ {x : El}, SmB K x → 0 < K → ∀ i, SmQ K (getE x i)
 | [], _, hK, i => SmQ.zero K hK
 | (k, q) :: x, h, hK, i => by
  simp only [getE]
  by_cases e : k = i
  ·rw [if_pos e]; exact h (k, q) (by simp)
  ·rw [if_neg e]; exact SmB.get (fun p hp => h p (by simp [hp])) hK i
theorem SmB.mono {K L : Nat} {x : El} (h : SmB K x) (hl : K ≤ L) : SmB L x := fun p hp => (h p hp).mono hl
theorem can_get {x : El} (h : CanE x) {p : Int × Rat} (hp : p ∈ x) : getE x p.1 = p.2 := by
 induction x with
 | nil => cases hp
 | cons y x ih =>
  obtain ⟨k, q⟩ := y
  cases hp with
  | head => simp [getE]
  | tail _ hp =>
   have := h.head p hp
   simp only [getE]
   rw [if_neg (by omega)]
   exact ih h.tail hp
theorem can_sm {K : Nat} {x : El} (h : CanE x) (hs : ∀ i, SmQ K (getE x i)) : SmB K x := fun p hp => by rw [← can_get h hp]; exact hs _
theorem tot_id : ∀ {x : El}, CanE x → ∀ i, totE (fun p => p) x i = getE x i
 | [], _, _ => rfl
 | (k, q) :: x, h, i => by
  simp only [totE, getE]
  rw [tot_id h.tail i]
  by_cases e : k = i
  ·subst e; rw [if_pos rfl, if_pos rfl, getE_lo h.head, Rat.add_zero]
  ·rw [if_neg e, if_neg e, Rat.zero_add]
theorem tot_scale (n : Rat) : ∀ (x : El) (i : Int), totE (fun p => (p.1, p.2 * n)) x i = totE (fun p => p) x i * n
 | [], _ => by simp [totE, Rat.zero_mul]
 | p :: x, i => by
  simp only [totE]
  rw [tot_scale n x i, Rat.add_mul]
  by_cases e : p.1 = i
  ·rw [if_pos e, if_pos e]
  ·rw [if_neg e, if_neg e, Rat.zero_mul]
def scaleE (x : El) (n : Rat) : El := foldE (fun p => (p.1, p.2 * n)) [] x
set_option maxHeartbeats 1000000 in
theorem nScale {x : El} {n : Rat} {K L : Nat} (hc : CanE x) (hx : SmB K x) (hn : SmQ L n) (hK : K + L ≤ 20000000) :
  CalN Tryz.prog OQ 72 [eA x, nA n] (eA (scaleE x n)) := by
 refine fn_callN [] TK MX Tryz.func72 rfl (by kernel_rfl) (by kernel_rfl) (by kernel_rfl) (flat_E _) rfl ?_
 have hp := hn.pos
 have hM : ∀ i, SmQ (K + L) (getE [] i) ∧ SmQ (K + L) (getE [] i + totE (fun p => (p.1, p.2 * n)) x i) := fun i => by
  refine ⟨SmQ.zero _ (by omega), ?_⟩
  rw [tot_scale, tot_id hc]
  show SmQ _ (0 + _)
  rw [Rat.zero_add]
  cases x with
  | nil => simp only [getE, Rat.zero_mul]; exact SmQ.zero _ (by omega)
  | cons p x => exact (hx.get (hx p (by simp)).pos i).mul hn
 conv => whnf
 refine ⟨0, LS (fun p => (p.1, p.2 * n)) [] x, fun _ => [(3, .c (.p 3 0)), (5, .c (.pm 8)), (10, .c (.p 10 0))], fun s => [(3, .b 33 (numA n)), (8, eX s.acc), (10, .it true (keysE s.left) (valsE s.left) s.cur)], fun s => s.left.length, [], LS.start CanE.nil (can_nodup hc), ⟨?_, ?_, rfl, rfl⟩, fun s => ?_⟩
 ·exact ⟨rfl, rfl, rfl, trivial⟩
 ·exact ⟨rfl, rfl, rfl, trivial⟩
 conv => whnf
 refine ⟨fun h => ?_, fun i k v hk hv => ?_⟩
 ·conv => whnf
  rw [s.done CanE.nil (keys_nil h)]
  rfl
 ·obtain ⟨q, hq, rfl⟩ := key_at hk hv
  conv => whnf
  have hmem := s.mem _ (List.mem_of_getElem? hq)
  have hsm : SmQ (K + L) (q * n) := (hx _ hmem).mul hn
  have hk := (hx _ hmem).pos
  refine ⟨_, cMul (K := K + L) ((hx _ hmem).mono (by omega)) (hn.mono (by omega)) (by omega), ?_⟩
  conv => whnf
  refine ⟨_, _, cWith (K := K + L) (s.sm hM k) hsm (by omega), ?_⟩
  conv => whnf
  refine ⟨[], s.step hq (some (k, numA q)), ?_, ⟨?_, ?_, rfl, rfl⟩⟩
  ·show (s.left.eraseIdx i).length < s.left.length
   have := (List.getElem?_eq_some_iff.1 hq).1
   rw [List.length_eraseIdx_of_lt this]; omega
  ·exact ⟨rfl, rfl, rfl, trivial⟩
  ·refine ⟨rfl, rfl, ?_, trivial⟩
   show some (Bx.it true ((keysE s.left).eraseIdx i) ((valsE s.left).eraseIdx i) (some (k, numA q))) = _
   rw [keys_erase, vals_erase]; rfl
end Go.Proofs.YtajecapgmdfjcaaGreatDoor

/- whole, add, sub, rational. -/
namespace Go.Proofs.YtajecapgmdfjcaaGreatDoor
open Go.RowKit Vn
theorem scale_get {x : El} (h : CanE x) (n : Rat) : CanE (scaleE x n) ∧ ∀ i, getE (scaleE x n) i = getE x i * n := by
 obtain ⟨h1, h2⟩ := CanE.fold (fun p => (p.1, p.2 * n)) x CanE.nil
 refine ⟨h1, fun i => ?_⟩
 show getE (foldE (fun p => (p.1, p.2 * n)) [] x) i = _
 rw [h2, tot_scale, tot_id h]
 simp [getE, Rat.zero_add]
theorem scale_one {x : El} (h : CanE x) : scaleE x 1 = x := CanE.ext (scale_get h 1).1 h fun i => by rw [(scale_get h 1).2, Rat.mul_one]
def addE (x y : El) : El := foldE (fun p => p) x y
theorem add_get {x y : El} (h : CanE x) (k : CanE y) : CanE (addE x y) ∧ ∀ i, getE (addE x y) i = getE x i + getE y i := by
 obtain ⟨h1, h2⟩ := CanE.fold (fun p => p) y h
 exact ⟨h1, fun i => by show getE (foldE (fun p => p) x y) i = _; rw [h2, tot_id k]⟩
def subE (x y : El) : El := addE x (scaleE y ((-1 : Int) : Rat))
def wholeE (q : Rat) : El := withE [] 0 q
theorem nWhole {q : Rat} {K : Nat} (hq : SmQ K q) (hK : K ≤ 20000000) : CalN Tryz.prog OQ 37 [nA q] (eA (wholeE q)) := by
 refine fn_callN [] TK MX Tryz.func37 rfl (by kernel_rfl) (by kernel_rfl) (by kernel_rfl) (flat_E _) rfl ?_
 have hp := hq.pos
 conv => whnf
 refine ⟨_, _, cWith (E := []) (K := K) (SmQ.zero K hp) hq hK, ?_⟩
 conv => whnf
 rfl
theorem cRational {x : El} : Cal Tryz.prog OQ 30 [eA x] (nA (getE x 0)) := by
 refine fn_call TK MX Tryz.func30 rfl (by kernel_rfl) (by kernel_rfl) (by kernel_rfl) rfl rfl ?_
 conv => whnf
 rw [look_E]
 rfl
set_option maxHeartbeats 1000000 in
theorem nAdd {x y : El} {K L : Nat} (hc : CanE x) (hd : CanE y) (hx : SmB K x) (hy : SmB L y) (h0 : 0 < K) (h0' : 0 < L) (hK : K + L + 1 ≤ 20000000) :
  CalN Tryz.prog OQ 73 [eA x, eA y] (eA (addE x y)) := by
 refine fn_callN [] TK MX Tryz.func73 rfl (by kernel_rfl) (by kernel_rfl) (by kernel_rfl) (flat_E _) rfl ?_
 have hM : ∀ i, SmQ (K + L + 1) (getE x i) ∧ SmQ (K + L + 1) (getE x i + totE (fun p => p) y i) := fun i => by
  refine ⟨(hx.get h0 i).mono (by omega), ?_⟩
  rw [tot_id hd]
  exact SmQ.add (hx.get h0 i) (hy.get h0' i)
 conv => whnf
 refine ⟨_, cInt (n := 1) (by omega) (by omega), ?_⟩
 conv => whnf
 have h1 : SmQ 1 ((1 : Int) : Rat) := SmQ.int (by omega) (by decide)
 refine .inr ⟨true, _, _, nScale (n := ((1 : Int) : Rat)) hc hx h1 (by omega), flat_E _, ?_⟩
 have es : scaleE x ((1 : Int) : Rat) = x := scale_one hc
 rw [es]
 conv => whnf
 refine ⟨0, LS (fun p => p) x y, fun _ => [(5, .c (.pm 10)), (12, .c (.p 12 0))], fun s => [(10, eX s.acc), (12, .it true (keysE s.left) (valsE s.left) s.cur)], fun s => s.left.length, [], LS.start hc (can_nodup hd), ⟨?_, ?_, rfl, rfl⟩, fun s => ?_⟩
 ·exact ⟨rfl, rfl, trivial⟩
 ·exact ⟨rfl, rfl, trivial⟩
 conv => whnf
 refine ⟨fun h => ?_, fun i k v hk hv => ?_⟩
 ·conv => whnf
  rw [s.done hc (keys_nil h)]
  rfl
 ·obtain ⟨q, hq, rfl⟩ := key_at hk hv
  conv => whnf
  have hmem := s.mem _ (List.mem_of_getElem? hq)
  refine ⟨_, _, cWith (K := K + L + 1) (s.sm hM k) ((hy _ hmem).mono (by omega)) (by omega), ?_⟩
  conv => whnf
  refine ⟨[], s.step hq (some (k, numA q)), ?_, ⟨?_, ?_, rfl, rfl⟩⟩
  ·show (s.left.eraseIdx i).length < s.left.length
   have := (List.getElem?_eq_some_iff.1 hq).1
   rw [List.length_eraseIdx_of_lt this]; omega
  ·exact ⟨rfl, rfl, trivial⟩
  ·refine ⟨rfl, ?_, trivial⟩
   show some (Bx.it true ((keysE s.left).eraseIdx i) ((valsE s.left).eraseIdx i) (some (k, numA q))) = _
   rw [keys_erase, vals_erase]; rfl
theorem sm_scale {x : El} {n : Rat} {K L : Nat} (hc : CanE x) (hx : SmB K x) (hn : SmQ L n) : SmB (K + L) (scaleE x n) := by
 refine can_sm (scale_get hc n).1 fun i => ?_
 rw [(scale_get hc n).2]
 cases x with
 | nil => simp only [getE, Rat.zero_mul]; exact SmQ.zero _ (by have := hn.pos; omega)
 | cons p x => exact (hx.get (hx p (by simp)).pos i).mul hn
theorem sm_add {x y : El} {K L : Nat} (hc : CanE x) (hd : CanE y) (hx : SmB K x) (hy : SmB L y) (h0 : 0 < K) (h0' : 0 < L) : SmB (K + L + 1) (addE x y) := by
 refine can_sm (add_get hc hd).1 fun i => ?_
 rw [(add_get hc hd).2]
 exact SmQ.add (hx.get h0 i) (hy.get h0' i)
theorem sm_one : SmQ 1 (((-1 : Int)) : Rat) := SmQ.int (by omega) (by decide)
theorem nSub {x y : El} {K L : Nat} (hc : CanE x) (hd : CanE y) (hx : SmB K x) (hy : SmB L y) (h0 : 0 < K) (h0' : 0 < L) (hK : K + L + 2 ≤ 20000000) :
  CalN Tryz.prog OQ 36 [eA x, eA y] (eA (subE x y)) := by
 refine fn_callN [] TK MX Tryz.func36 rfl (by kernel_rfl) (by kernel_rfl) (by kernel_rfl) (flat_E _) rfl ?_
 conv => whnf
 refine ⟨_, cInt (n := -1) (by omega) (by omega), ?_⟩
 conv => whnf
 refine .inl ⟨_, nScale hd hy sm_one (by omega), ?_⟩
 conv => whnf
 refine .inr ⟨true, _, _, nAdd hc (scale_get hd _).1 hx (sm_scale hd hy sm_one) h0 (by omega) (by omega), flat_E _, ?_⟩
 conv => whnf
 rfl
end Go.Proofs.YtajecapgmdfjcaaGreatDoor

/- parts, top. -/
namespace Go.Proofs.YtajecapgmdfjcaaGreatDoor
open Go.RowKit Vn
def andK (a b : Int) : Int := IntKind.i64.wrap (BitVec.ofInt IntKind.i64.bits a &&& BitVec.ofInt IntKind.i64.bits b).toNat
def xorK (a b : Int) : Int := IntKind.i64.wrap (BitVec.ofInt IntKind.i64.bits a ^^^ BitVec.ofInt IntKind.i64.bits b).toNat
def shlK (a i : Int) : Int := IntKind.i64.wrap (a * 2 ^ (min i.toNat IntKind.i64.bits))
def shrK (a i : Int) : Int := a.fdiv (2 ^ (min i.toNat IntKind.i64.bits))
def bitK (a i : Int) : Bool := andK (shrK a i) 1 == 1
def prA (i : Int) (p : Int × Rat) : Int × Rat := (p.1, if bitK p.1 i then 0 else p.2)
def prB (i : Int) (p : Int × Rat) : Int × Rat := (if bitK p.1 i then xorK p.1 (shlK 1 i) else -1 - p.1, if bitK p.1 i then p.2 else 0)
def partA (x : El) (i : Int) : El := foldE (prA i) [] x
def partB (x : El) (i : Int) : El := foldE (prB i) [] x
theorem with_zero {E : El} (h : CanE E) (k : Int) : withE E k 0 = E := CanE.ext (h.with k 0).1 h fun j => by
 rw [(h.with k 0).2]
 by_cases e : k = j
 ·rw [if_pos e, Rat.add_zero]
 ·rw [if_neg e, Rat.add_zero]
theorem tot_sm {f : Int × Rat → Int × Rat} {K : Nat} (hK : 0 < K) : ∀ {x : El}, (∀ p ∈ x, SmQ K (f p).2) → (x.map fun p => (f p).1).Nodup → ∀ i, SmQ K (totE f x i)
 | [], _, _, i => SmQ.zero K hK
 | p :: x, h, hn, i => by
  simp only [List.map_cons, List.nodup_cons] at hn
  simp only [totE]
  by_cases e : (f p).1 = i
  ·rw [if_pos e, tot_none (e ▸ hn.1), Rat.add_zero]; exact h p (by simp)
  ·rw [if_neg e, Rat.zero_add]; exact tot_sm hK (fun q hq => h q (by simp [hq])) hn.2 i
structure LS2 (f g : Int × Rat → Int × Rat) (x : El) where
 a : LS f [] x
 b : LS g [] x
 l : a.left = b.left
 c : a.cur = b.cur
set_option maxHeartbeats 1000000 in
theorem cParts {x : El} {i : Int} {K : Nat} (hx : SmB K x) (h0 : 0 < K) (hK : K ≤ 20000000) (hi : 0 ≤ i) (hnA : (x.map fun p => (prA i p).1).Nodup) (hnB : (x.map fun p => (prB i p).1).Nodup) :
  Cal Tryz.prog OQ 62 [eA x, iA i] (.t [eA (partA x i), eA (partB x i)]) := by
 refine fn_call TK MX Tryz.func62 rfl (by kernel_rfl) (by kernel_rfl) (by kernel_rfl) rfl rfl ?_
 have hd : decide (0 ≤ i) = true := by simp [hi]
 have smf : ∀ {f : Int × Rat → Int × Rat}, (∀ p ∈ x, SmQ K (f p).2) → (x.map fun p => (f p).1).Nodup → ∀ i, SmQ K (getE [] i) ∧ SmQ K (getE [] i + totE f x i) := fun h hn i => by
  refine ⟨SmQ.zero K h0, ?_⟩
  show SmQ _ (0 + _)
  rw [Rat.zero_add]; exact tot_sm h0 h hn i
 have sA := smf (f := prA i) (fun p hp => by
  simp only [prA]
  split
  ·exact SmQ.zero K h0
  ·exact hx p hp) hnA
 have sB := smf (f := prB i) (fun p hp => by
  simp only [prB]
  split
  ·exact hx p hp
  ·exact SmQ.zero K h0) hnB
 conv => whnf
 refine ⟨0, LS2 (prA i) (prB i) x, fun _ => [(1, iA i), (4, .c (.pm 8)), (5, .c (.pm 9)), (11, .c (.p 11 0))], fun s => [(8, eX s.a.acc), (9, eX s.b.acc), (11, .it true (keysE s.a.left) (valsE s.a.left) s.a.cur)], fun s => s.a.left.length, [],
  ⟨LS.start CanE.nil hnA, LS.start CanE.nil hnB, rfl, rfl⟩, ⟨?_, ?_, rfl, rfl⟩, fun s => ?_⟩
 ·exact ⟨rfl, rfl, rfl, rfl, trivial⟩
 ·exact ⟨rfl, rfl, rfl, trivial⟩
 conv => whnf
 refine ⟨fun h => ?_, fun j k v hk hv => ?_⟩
 ·conv => whnf
  have e1 := s.a.done CanE.nil (keys_nil h)
  have e2 := s.b.done CanE.nil (by rw [← s.l]; exact keys_nil h)
  rw [e1, e2]
  rfl
 ·obtain ⟨q, hq, rfl⟩ := key_at hk hv
  have hmem := s.a.mem _ (List.mem_of_getElem? hq)
  have hq' := hq
  rw [s.l] at hq'
  have fin : ∀ (V : View), V.tv 1 = iA i → V.tv 4 = .c (.pm 8) → V.tv 5 = .c (.pm 9) → V.tv 11 = .c (.p 11 0) → V.bv 8 = some (eX (withE s.a.acc (prA i (k, q)).1 (prA i (k, q)).2)) → V.bv 9 = some (eX (withE s.b.acc (prB i (k, q)).1 (prB i (k, q)).2)) → V.bv 11 = some (.it true ((keysE s.a.left).eraseIdx j) ((valsE s.a.left).eraseIdx j) (some (k, numA q))) → V.bv 1000 = none →
    ∃ (fz : List Nat) (s' : LS2 (prA i) (prB i) x), s'.a.left.length < s.a.left.length ∧ Agree [(1, iA i), (4, .c (.pm 8)), (5, .c (.pm 9)), (11, .c (.p 11 0))] [(8, eX s'.a.acc), (9, eX s'.b.acc), (11, .it true (keysE s'.a.left) (valsE s'.a.left) s'.a.cur)] (V.fzs fz) := by
   intro V h1 h2 h3 h4 h5 h6 h7 h8
   refine ⟨[], ⟨s.a.step hq (some (k, numA q)), s.b.step hq' (some (k, numA q)), by show s.a.left.eraseIdx j = s.b.left.eraseIdx j; rw [s.l], rfl⟩, ?_, ⟨⟨h1, h2, h3, h4, trivial⟩, ⟨h5, h6, ?_, trivial⟩, rfl, ?_⟩⟩
   ·show (s.a.left.eraseIdx j).length < s.a.left.length
    have := (List.getElem?_eq_some_iff.1 hq).1
    rw [List.length_eraseIdx_of_lt this]; omega
   ·show V.bv 11 = _
    rw [h7, keys_erase, vals_erase]; rfl
   ·show ((V.bv 1000).isSome && _) = false
    rw [h8]; rfl
  conv => whnf
  rw [hd]
  conv => whnf
  cases hb : (IntKind.i64.wrap (BitVec.ofInt IntKind.i64.bits (k.fdiv (2 ^ min i.toNat IntKind.i64.bits)) &&& BitVec.ofInt IntKind.i64.bits 1).toNat == 1)
  ·have hb' : bitK k i = false := hb
   conv => whnf
   refine ⟨_, _, cWith (K := K) (s.a.sm sA k) (hx _ hmem) hK, ?_⟩
   conv => whnf
   refine fin _ rfl rfl rfl rfl ?_ ?_ rfl rfl
   ·have e : withE s.a.acc (prA i (k, q)).1 (prA i (k, q)).2 = withE s.a.acc k q := by simp [prA, hb']
    rw [e]; rfl
   ·have e : withE s.b.acc (prB i (k, q)).1 (prB i (k, q)).2 = s.b.acc := by simp [prB, hb', with_zero s.b.can]
    rw [e]; rfl
  ·have hb' : bitK k i = true := hb
   conv => whnf
   rw [hd]
   conv => whnf
   refine ⟨_, _, cWith (K := K) (s.b.sm sB _) (hx _ hmem) hK, ?_⟩
   conv => whnf
   refine fin _ rfl rfl rfl rfl ?_ ?_ rfl rfl
   ·have e : withE s.a.acc (prA i (k, q)).1 (prA i (k, q)).2 = s.a.acc := by simp [prA, hb', with_zero s.a.can]
    rw [e]; rfl
   ·have e : withE s.b.acc (prB i (k, q)).1 (prB i (k, q)).2 = withE s.b.acc (xorK k (shlK 1 i)) q := by simp [prB, hb']
    rw [e]; rfl
end Go.Proofs.YtajecapgmdfjcaaGreatDoor

/- top: the last root that an element has. -/
namespace Go.Proofs.YtajecapgmdfjcaaGreatDoor
open Go.RowKit Vn
def lenS (k : Int) : Int := if k ≤ 0 then 0 else ((Nat.log2 k.toNat + 1 : Nat) : Int)
def topL : El → Int
 | [] => -1
 | p :: L => max (lenS p.1 - 1) (topL L)
theorem topL_erase : ∀ {L : El} {i : Nat} {p : Int × Rat}, L[i]? = some p → topL L = max (lenS p.1 - 1) (topL (L.eraseIdx i))
 | [], _, _, h => by simp at h
 | x :: L, 0, p, h => by simp at h; subst h; rfl
 | x :: L, i + 1, p, h => by
  have h : L[i]? = some p := by simpa using h
  simp only [List.eraseIdx_cons_succ, topL]
  rw [topL_erase h]; omega
theorem topL_ge : ∀ L : El, -1 ≤ topL L
 | [] => Int.le_refl _
 | p :: L => by have := topL_ge L; simp only [topL]; omega
theorem lenS_le {k : Int} (h : k < 1048576) : 0 ≤ lenS k ∧ lenS k ≤ 20 := by
 unfold lenS
 split
 ·omega
 ·have : Nat.log2 k.toNat < 20 := (Nat.log2_lt (by omega)).2 (by omega)
  omega
theorem shr_len {k i : Int} (h0 : 0 ≤ k) (h1 : k < 1048576) (i0 : 0 ≤ i) (i1 : i ≤ 60) : (k.fdiv (2 ^ min i.toNat IntKind.i64.bits) != 0) = decide (i < lenS k) := by
 have hm : min i.toNat IntKind.i64.bits = i.toNat := by
  show min i.toNat 64 = _
  omega
 rw [hm]
 obtain ⟨n, rfl⟩ := Int.eq_ofNat_of_zero_le h0
 have e : ((n : Int)).fdiv (2 ^ i.toNat) = ((n / 2 ^ i.toNat : Nat) : Int) := by
  have : (2 : Int) ^ i.toNat = ((2 ^ i.toNat : Nat) : Int) := by simp
  rw [this]
  exact Int.ofNat_fdiv n (2 ^ i.toNat) |>.symm
 rw [e]
 unfold lenS
 by_cases hn : n = 0
 ·subst hn; simp; omega
 ·rw [if_neg (by omega)]
  have hd : (n / 2 ^ i.toNat = 0) ↔ ¬ i < ((Nat.log2 n + 1 : Nat) : Int) := by
   rw [Nat.div_eq_zero_iff]
   have hp : 2 ^ i.toNat ≠ 0 := by simp
   rw [← Nat.log2_lt hn]
   omega
  by_cases hz : n / 2 ^ i.toNat = 0
  ·have := hd.1 hz
   rw [hz]
   simp; omega
  ·have hlt : i < ((Nat.log2 n + 1 : Nat) : Int) := by
    rcases Classical.em (i < ((Nat.log2 n + 1 : Nat) : Int)) with h | h
    ·exact h
    ·exact absurd (hd.2 h) hz
   have h1 : decide (i < ((Nat.log2 ((n : Int)).toNat + 1 : Nat) : Int)) = true := by simpa using hlt
   rw [h1]
   have hne : ((n / 2 ^ i.toNat : Nat) : Int) ≠ 0 := fun e => hz (Int.ofNat.inj e)
   rw [bne_iff_ne]; exact hne
structure TS (x : El) where
 left : El
 t : Int
 cur : Option (Int × List AC)
 mem : ∀ p ∈ left, p ∈ x
 max : max t (topL left) = topL x
 lo : -1 ≤ t
 hi : t ≤ 20
structure TI (b m : Int) where
 t : Int
 lo : b ≤ t
 hi : t ≤ m
set_option maxHeartbeats 1000000 in
theorem cTop {x : El} (hx : ∀ p ∈ x, 0 ≤ p.1 ∧ p.1 < 1048576) : Cal Tryz.prog OQ 59 [eA x] (iA (topL x)) := by
 refine fn_call TK MX Tryz.func59 rfl (by kernel_rfl) (by kernel_rfl) (by kernel_rfl) rfl rfl ?_
 conv => whnf
 refine ⟨0, TS x, fun s => [(3, iA s.t), (7, .c (.p 7 0))], fun s => [(7, .it true (keysE s.left) (valsE s.left) s.cur)], fun s => s.left.length, [], ⟨x, -1, none, fun _ h => h, by have := topL_ge x; omega, by omega, by omega⟩, ⟨?_, ?_, rfl, rfl⟩, fun s => ?_⟩
 ·exact ⟨rfl, rfl, trivial⟩
 ·exact ⟨rfl, trivial⟩
 conv => whnf
 refine ⟨fun h => ?_, fun i k v hk hv => ?_⟩
 ·conv => whnf
  have e : s.t = topL x := by
   have h1 := s.max
   have h2 := s.lo
   rw [keys_nil h] at h1
   simp only [topL] at h1
   omega
  rw [e]; rfl
 ·obtain ⟨q, hq, rfl⟩ := key_at hk hv
  obtain ⟨k0, k1⟩ : 0 ≤ k ∧ k < 1048576 := hx _ (s.mem _ (List.mem_of_getElem? hq))
  have hlen : 0 ≤ lenS k ∧ lenS k ≤ 20 := lenS_le k1
  have hs0 := s.lo
  have hs1 := s.hi
  have w : ∀ t : Int, -1 ≤ t → t ≤ 20 → IntKind.i64.wrap (t + 1) = t + 1 := fun t h0 h1 => IntWalk.i64_in _ (by omega)
  conv => whnf
  refine ⟨0, TI s.t (max s.t (lenS k - 1)), fun u => [(3, iA u.t), (4, iA k), (5, iA (u.t + 1)), (7, .c (.p 7 0))], fun _ => [(7, .it true ((keysE s.left).eraseIdx i) ((valsE s.left).eraseIdx i) (some (k, numA q)))], fun u => (max s.t (lenS k - 1) - u.t).toNat, [], ⟨s.t, Int.le_refl _, by omega⟩, ⟨?_, ?_, rfl, rfl⟩, fun u => ?_⟩
  ·refine ⟨rfl, rfl, ?_, rfl, trivial⟩
   show AV.c (.v (.int .i64 (IntKind.i64.wrap (s.t + 1)))) = _
   rw [w _ s.lo s.hi]
  ·exact ⟨rfl, trivial⟩
  have hu0 := u.lo
  have hu1 := u.hi
  have d0 : decide ((0 : Int) ≤ u.t + 1) = true := by simp; omega
  conv => whnf
  rw [d0]
  conv => whnf
  rw [shr_len k0 k1 (by omega) (by omega)]
  cases hd : decide (u.t + 1 < lenS k)
  ·have hge := of_decide_eq_false hd
   conv => whnf
   refine ⟨[], ⟨s.left.eraseIdx i, u.t, some (k, numA q), fun p hp => s.mem p (List.mem_of_mem_eraseIdx hp), ?_, by omega, by omega⟩, ?_, ⟨?_, ?_, rfl, rfl⟩⟩
   ·have h1 := s.max
    have h2 := topL_erase hq
    simp only at h2
    have h3 : max u.t (topL (s.left.eraseIdx i)) = topL x := by omega
    exact h3
   ·show (s.left.eraseIdx i).length < s.left.length
    have := (List.getElem?_eq_some_iff.1 hq).1
    rw [List.length_eraseIdx_of_lt this]; omega
   ·exact ⟨rfl, rfl, trivial⟩
   ·refine ⟨?_, trivial⟩
    show some (Bx.it true ((keysE s.left).eraseIdx i) ((valsE s.left).eraseIdx i) (some (k, numA q))) = _
    rw [keys_erase, vals_erase]
  ·have hlt := of_decide_eq_true hd
   conv => whnf
   refine ⟨[], ⟨u.t + 1, by omega, by omega⟩, by show (max s.t (lenS k - 1) - (u.t + 1)).toNat < (max s.t (lenS k - 1) - u.t).toNat; omega, ⟨?_, ?_, rfl, rfl⟩⟩
   ·refine ⟨rfl, rfl, ?_, rfl, trivial⟩
    show AV.c (.v (.int .i64 (IntKind.i64.wrap (u.t + 1 + 1)))) = _
    rw [w _ (by omega) (by omega)]
   ·exact ⟨rfl, trivial⟩
end Go.Proofs.YtajecapgmdfjcaaGreatDoor

/- mul. -/
namespace Go.Proofs.YtajecapgmdfjcaaGreatDoor
open Go.RowKit Vn
def rowsE (t : List El) : List (List AC) := t.map fun c => [eC c]
abbrev tC (t : List El) (rest : List AC) : AC := .e (.sl 1 (rowsE t) :: rest)
abbrev tA (t : List El) (rest : List AC) : AV := .c (tC t rest)
def termL (mul : El → El → El) (ab : Int) : Nat → List El → El → El
 | _, [], e => e
 | i, c :: cs, e => termL mul ab (i + 1) cs (if bitK ab (i : Nat) then mul e c else e)
def mulE (t : List El) : Nat → El → El → El
 | 0, _, _ => []
 | f + 1, x, y => x.foldl (fun out p => y.foldl (fun out r => addE out (termL (mulE t f) (andK p.1 r.1) 0 t (withE [] (xorK p.1 r.1) (p.2 * r.2)))) out) []
def smqB (K : Nat) (q : Rat) : Bool := decide (q.num.natAbs < 2 ^ K) && decide (q.den < 2 ^ K)
def smB (K : Nat) (x : El) : Bool := x.all fun p => smqB K p.2
def termB (mul : El → El → El) (mb : El → El → Bool) (ab : Int) : Nat → List El → El → Bool
 | _, [], _ => true
 | i, c :: cs, e => cond (bitK ab (i : Nat)) (mb e c && termB mul mb ab (i + 1) cs (mul e c)) (termB mul mb ab (i + 1) cs e)
def mulB (K : Nat) (t : List El) : Nat → El → El → Bool
 | 0, _, _ => false
 | f + 1, x, y => smB K x && smB K y && decide (x.length * (y.length * (K + 1)) + 2 * K + 3 ≤ 10000000) && x.all fun p => y.all fun r =>
   termB (mulE t f) (mulB K t f) (andK p.1 r.1) 0 t (withE [] (xorK p.1 r.1) (p.2 * r.2)) && smB K (termL (mulE t f) (andK p.1 r.1) 0 t (withE [] (xorK p.1 r.1) (p.2 * r.2)))
theorem smqB_ok {K : Nat} {q : Rat} (h : smqB K q = true) : SmQ K q := by
 simp only [smqB, Bool.and_eq_true, decide_eq_true_eq] at h
 exact ⟨h.1, h.2⟩
theorem smB_ok {K : Nat} {x : El} (h : smB K x = true) : SmB K x := fun p hp => smqB_ok (List.all_eq_true.1 h p hp)
def totG (G : Int × Rat → El) : El → Int → Rat
 | [], _ => 0
 | p :: L, j => getE (G p) j + totG G L j
theorem totG_erase (G : Int × Rat → El) : ∀ {L : El} {i : Nat} {p : Int × Rat}, L[i]? = some p → ∀ j, totG G L j = getE (G p) j + totG G (L.eraseIdx i) j
 | [], _, _, h, _ => by simp at h
 | x :: L, 0, p, h, j => by simp at h; subst h; rfl
 | x :: L, i + 1, p, h, j => by
  have h : L[i]? = some p := by simpa using h
  simp only [List.eraseIdx_cons_succ, totG]
  rw [totG_erase G h j, ← Rat.add_assoc, ← Rat.add_assoc, Rat.add_comm (getE (G x) j)]
theorem fold_add {G : Int × Rat → El} (hG : ∀ p, CanE (G p)) : ∀ (L : El) {A : El}, CanE A → CanE (L.foldl (fun A p => addE A (G p)) A) ∧ ∀ j, getE (L.foldl (fun A p => addE A (G p)) A) j = getE A j + totG G L j
 | [], A, h => ⟨h, fun j => by simp [totG, Rat.add_zero]⟩
 | p :: L, A, h => by
  obtain ⟨h1, h2⟩ := add_get h (hG p)
  obtain ⟨h3, h4⟩ := fold_add hG L h1
  refine ⟨h3, fun j => ?_⟩
  show getE (L.foldl (fun A p => addE A (G p)) (addE A (G p))) j = _
  rw [h4, h2]; simp only [totG]; rw [Rat.add_assoc]
theorem termL_can {mul : El → El → El} (hm : ∀ x y, CanE (mul x y)) (ab : Int) : ∀ (cs : List El) (i : Nat) (e : El), CanE e → CanE (termL mul ab i cs e)
 | [], _, _, h => h
 | c :: cs, i, e, h => by
  simp only [termL]
  refine termL_can hm ab cs (i + 1) _ ?_
  split
  ·exact hm _ _
  ·exact h
theorem foldl_can {α : Type} {F : El → α → El} (hF : ∀ (A : El) (p : α), CanE A → CanE (F A p)) : ∀ (L : List α) {A : El}, CanE A → CanE (L.foldl F A)
 | [], _, h => h
 | p :: L, A, h => foldl_can hF L (hF A p h)
theorem mulE_can (t : List El) : ∀ (f : Nat) (x y : El), CanE (mulE t f x y)
 | 0, _, _ => CanE.nil
 | f + 1, x, y => foldl_can (fun _ _ hA => foldl_can (fun _ _ hA => (add_get hA (termL_can (mulE_can t f) _ _ _ _ (CanE.nil.with _ _).1)).1) y hA) x CanE.nil
def termE (t : List El) (f : Nat) (p r : Int × Rat) : El := termL (mulE t f) (andK p.1 r.1) 0 t (withE [] (xorK p.1 r.1) (p.2 * r.2))
theorem termE_can (t : List El) (f : Nat) (p r : Int × Rat) : CanE (termE t f p r) := termL_can (mulE_can t f) _ _ _ _ (CanE.nil.with _ _).1
def rowE (t : List El) (f : Nat) (y : El) (p : Int × Rat) : El := y.foldl (fun out r => addE out (termE t f p r)) []
theorem rowE_get (t : List El) (f : Nat) (y : El) (p : Int × Rat) (j : Int) : getE (rowE t f y p) j = totG (termE t f p) y j := by
 rw [rowE, (fold_add (fun r => termE_can t f p r) y CanE.nil).2]; simp [getE, Rat.zero_add]
theorem mulE_get (t : List El) (f : Nat) (x y : El) (j : Int) : getE (mulE t (f + 1) x y) j = totG (rowE t f y) x j := by
 have : ∀ (L : El) {A : El}, CanE A → getE (L.foldl (fun out p => y.foldl (fun out r => addE out (termE t f p r)) out) A) j = getE A j + totG (rowE t f y) L j := by
  intro L
  induction L with
  | nil => intro A _; simp [totG, Rat.add_zero]
  | cons p L ih =>
   intro A hA
   obtain ⟨h1, h2⟩ := fold_add (fun r => termE_can t f p r) y hA
   show getE (L.foldl _ (y.foldl (fun out r => addE out (termE t f p r)) A)) j = _
   rw [ih h1, h2]; simp only [totG]; rw [rowE_get, Rat.add_assoc]
 have h := this x CanE.nil
 simp only [getE, Rat.zero_add] at h
 exact h
structure LM (G : Int × Rat → El) (A0 x : El) (L M : Nat) where
 left : El
 acc : El
 cur : Option (Int × List AC)
 can : CanE acc
 tot : ∀ i, getE acc i + totG G left i = getE A0 i + totG G x i
 mem : ∀ p ∈ left, p ∈ x
 len : left.length ≤ x.length
 sm : SmB ((x.length - left.length) * L + M) acc
def LM.start {G : Int × Rat → El} {A0 x : El} {L M : Nat} (hc : CanE A0) (hs : SmB M A0) : LM G A0 x L M :=
 ⟨x, A0, none, hc, fun _ => rfl, fun _ h => h, Nat.le_refl _, by rw [Nat.sub_self, Nat.zero_mul, Nat.zero_add]; exact hs⟩
def LM.step {G : Int × Rat → El} {A0 x : El} {L M : Nat} (s : LM G A0 x L M) {i : Nat} {p : Int × Rat} (hp : s.left[i]? = some p) (cur : Option (Int × List AC)) (acc' : El) (hc : CanE acc') (hg : ∀ j, getE acc' j = getE s.acc j + getE (G p) j) (hs : SmB ((x.length - s.left.length) * L + M + L) acc') : LM G A0 x L M :=
 ⟨s.left.eraseIdx i, acc', cur, hc, fun j => by rw [hg, ← s.tot j, totG_erase G hp j, Rat.add_assoc], fun q hq => s.mem q (List.mem_of_mem_eraseIdx hq), Nat.le_trans (List.length_eraseIdx_le _ _) s.len, by
  have hl : i < s.left.length := (List.getElem?_eq_some_iff.1 hp).1
  have := s.len
  rw [List.length_eraseIdx_of_lt hl, show x.length - (s.left.length - 1) = (x.length - s.left.length) + 1 by omega, Nat.add_mul, Nat.one_mul]
  exact hs.mono (by omega)⟩
theorem LM.done {G : Int × Rat → El} {A0 x : El} {L M : Nat} (s : LM G A0 x L M) (h : s.left = []) (i : Int) : getE s.acc i = getE A0 i + totG G x i := by
 have := s.tot i
 rw [h] at this
 simpa only [totG, Rat.add_zero] using this
theorem rows_get {t : List El} {j : Nat} {c : El} (h : t[j]? = some c) : (rowsE t).getD j [] = [eC c] := by
 simp [rowsE, List.getD_eq_getElem?_getD, List.getElem?_map, h]
theorem rows_len (t : List El) : (rowsE t).length = t.length := by simp [rowsE]
structure LT (mul : El → El → El) (mb : El → El → Bool) (ab : Int) (t : List El) (target : El) where
 j : Nat
 e : El
 can : CanE e
 le : j ≤ t.length
 res : termL mul ab j (t.drop j) e = target
 ok : termB mul mb ab j (t.drop j) e = true
set_option maxHeartbeats 4000000 in
theorem cMulE {t : List El} {K : Nat} (hK0 : 0 < K) (ht : ∀ c ∈ t, CanE c) (hl : t.length ≤ 60) : ∀ (f : Nat) (x y : El) (rest : List AC), CanE x → CanE y → mulB K t f x y = true →
  Cal Tryz.prog OQ 109 [tA t rest, eA x, eA y] (eA (mulE t f x y))
 | 0, _, _, _, _, _, h => by cases h
 | f + 1, x, y, rest, hx, hy, h => by
  simp only [mulB, Bool.and_eq_true, decide_eq_true_eq, List.all_eq_true] at h
  obtain ⟨⟨⟨b1, b2⟩, b3⟩, b4⟩ := h
  have sx := smB_ok b1
  have sy := smB_ok b2
  refine fn_call TK MX Tryz.func109 rfl (by kernel_rfl) (by kernel_rfl) (by kernel_rfl) rfl rfl ?_
  conv => whnf
  refine ⟨0, LM (rowE t f y) [] x (y.length * (K + 1)) 1, fun s => [(0, tA t rest), (2, eA y), (7, eA s.acc), (17, .c (.p 17 0))], fun s => [(17, .it true (keysE s.left) (valsE s.left) s.cur)], fun s => s.left.length, [15], LM.start CanE.nil (by intro p hp; cases hp), ⟨?_, ?_, rfl, rfl⟩, fun s => ?_⟩
  ·exact ⟨rfl, rfl, rfl, rfl, trivial⟩
  ·exact ⟨rfl, trivial⟩
  conv => whnf
  refine ⟨fun h => ?_, fun i k v hk hv => ?_⟩
  ·conv => whnf
   have e : s.acc = mulE t (f + 1) x y := CanE.ext s.can (mulE_can t _ x y) fun j => by
    rw [s.done (keys_nil h), mulE_get]; simp [getE, Rat.zero_add]
   rw [e]
   rfl
  ·obtain ⟨q, hq, rfl⟩ := key_at hk hv
   have hmem := s.mem _ (List.mem_of_getElem? hq)
   have hsl := s.len
   have hxl : (x.length - s.left.length) * (y.length * (K + 1)) + y.length * (K + 1) ≤ x.length * (y.length * (K + 1)) := by
    have h1 := (List.getElem?_eq_some_iff.1 hq).1
    have : (x.length - s.left.length + 1) * (y.length * (K + 1)) ≤ x.length * (y.length * (K + 1)) := Nat.mul_le_mul_right _ (by omega)
    rw [Nat.add_mul, Nat.one_mul] at this; exact this
   generalize hM : (x.length - s.left.length) * (y.length * (K + 1)) + 1 = M2
   conv => whnf
   refine ⟨0, LM (termE t f (k, q)) s.acc y (K + 1) M2, fun u => [(0, tA t rest), (2, eA y), (7, eA u.acc), (8, iA k), (9, .c (.p 9 0)), (17, .c (.p 17 0)), (24, .c (.p 24 0))],
    fun u => [(9, .b 33 (numA q)), (17, .it true ((keysE s.left).eraseIdx i) ((valsE s.left).eraseIdx i) (some (k, numA q))), (24, .it true (keysE u.left) (valsE u.left) u.cur)], fun u => u.left.length, [], LM.start s.can (hM ▸ s.sm), ⟨?_, ?_, rfl, rfl⟩, fun u => ?_⟩
   ·exact ⟨rfl, rfl, rfl, rfl, rfl, rfl, rfl, trivial⟩
   ·exact ⟨rfl, rfl, rfl, trivial⟩
   conv => whnf
   refine ⟨fun h => ?_, fun i2 k2 v2 hk2 hv2 => ?_⟩
   ·conv => whnf
    have hun := keys_nil h
    refine ⟨[], s.step hq (some (k, numA q)) u.acc u.can (fun j => by rw [u.done hun, rowE_get]) (u.sm.mono (by rw [hun]; simp; omega)), ?_, ⟨?_, ?_, rfl, rfl⟩⟩
    ·show (s.left.eraseIdx i).length < s.left.length
     have := (List.getElem?_eq_some_iff.1 hq).1
     rw [List.length_eraseIdx_of_lt this]; omega
    ·exact ⟨rfl, rfl, rfl, rfl, trivial⟩
    ·refine ⟨?_, trivial⟩
     show some (Bx.it true ((keysE s.left).eraseIdx i) ((valsE s.left).eraseIdx i) (some (k, numA q))) = _
     rw [keys_erase, vals_erase]; rfl
   ·obtain ⟨q2, hq2, rfl⟩ := key_at hk2 hv2
    have hmem2 := u.mem _ (List.mem_of_getElem? hq2)
    have hul := u.len
    have b5 := b4 _ hmem _ hmem2
    have hyl : (y.length - u.left.length) * (K + 1) + (K + 1) ≤ y.length * (K + 1) := by
     have h1 := (List.getElem?_eq_some_iff.1 hq2).1
     have : (y.length - u.left.length + 1) * (K + 1) ≤ y.length * (K + 1) := Nat.mul_le_mul_right _ (by omega)
     rw [Nat.add_mul, Nat.one_mul] at this; exact this
    have st : SmB K (termE t f (k, q) (k2, q2)) := smB_ok b5.2
    conv => whnf
    have sm2 : SmQ (2 * K) (q * q2) := ((sx _ hmem).mul (sy _ hmem2)).mono (by omega)
    refine ⟨_, cMul (K := K) (sx _ hmem) (sy _ hmem2) (by omega), ?_⟩
    conv => whnf
    refine ⟨_, _, cWith (E := []) (K := 2 * K) (SmQ.zero _ (by omega)) sm2 (by omega), ?_⟩
    conv => whnf
    refine ⟨0, LT (mulE t f) (mulB K t f) (andK k k2) t (termE t f (k, q) (k2, q2)), fun z => [(0, tA t rest), (2, eA y), (7, eA u.acc), (8, iA k), (9, .c (.p 9 0)), (10, iA k2), (12, eA z.e), (17, .c (.p 17 0)), (24, .c (.p 24 0)), (41, .c (.sl 1 (rowsE t))), (42, iA ((rowsE t).length : Nat)), (43, iA (z.j : Nat))],
     fun _ => [(9, .b 33 (numA q)), (17, .it true ((keysE s.left).eraseIdx i) ((valsE s.left).eraseIdx i) (some (k, numA q))), (24, .it true ((keysE u.left).eraseIdx i2) ((valsE u.left).eraseIdx i2) (some (k2, numA q2)))], fun z => t.length - z.j, [30],
     ⟨0, withE [] (xorK k k2) (q * q2), (CanE.nil.with _ _).1, Nat.zero_le _, rfl, b5.1⟩, ⟨?_, ?_, rfl, rfl⟩, fun z => ?_⟩
    ·exact ⟨rfl, rfl, rfl, rfl, rfl, rfl, rfl, rfl, rfl, rfl, rfl, rfl, trivial⟩
    ·exact ⟨rfl, rfl, rfl, trivial⟩
    conv => whnf
    cases hlt : decide (((z.j : Nat) : Int) < (((rowsE t).length : Nat) : Int))
    ·have hj : z.j = t.length := by
      rw [rows_len] at hlt
      have := of_decide_eq_false hlt
      have := z.le
      omega
     have he : z.e = termE t f (k, q) (k2, q2) := by
      have := z.res
      rw [hj, List.drop_length] at this; exact this
     conv => whnf
     refine .inl ⟨_, nAdd u.can z.can u.sm (by rw [he]; exact st) (by omega) hK0 (by omega), ?_⟩
     conv => whnf
     refine ⟨[], u.step hq2 (some (k2, numA q2)) (addE u.acc z.e) (add_get u.can z.can).1 (fun j => by rw [(add_get u.can z.can).2, he]) ?_, ?_, ⟨?_, ?_, rfl, rfl⟩⟩
     ·exact (sm_add u.can z.can u.sm (L := K) (by rw [he]; exact st) (by omega) hK0).mono (by omega)
     ·show (u.left.eraseIdx i2).length < u.left.length
      have := (List.getElem?_eq_some_iff.1 hq2).1
      rw [List.length_eraseIdx_of_lt this]; omega
     ·exact ⟨rfl, rfl, rfl, rfl, rfl, rfl, rfl, trivial⟩
     ·refine ⟨rfl, rfl, ?_, trivial⟩
      show some (Bx.it true ((keysE u.left).eraseIdx i2) ((valsE u.left).eraseIdx i2) (some (k2, numA q2))) = _
      rw [keys_erase, vals_erase]; rfl
    ·have hj : z.j < t.length := by
      rw [rows_len] at hlt
      have := of_decide_eq_true hlt
      omega
     obtain ⟨c, hc⟩ : ∃ c, t[z.j]? = some c := ⟨_, List.getElem?_eq_getElem hj⟩
     have d1 : decide ((0 : Int) ≤ ((z.j : Nat) : Int)) = true := by simp
     have d2 : decide ((((z.j : Nat) : Int)).toNat < (rowsE t).length) = true := by rw [rows_len]; simp [hj]
     conv => whnf
     rw [d1]
     conv => whnf
     rw [d2]
     conv => whnf
     have d3 : (rowsE t).getD (((z.j : Nat) : Int)).toNat [] = [eC c] := by simpa using rows_get hc
     rw [d3]
     conv => whnf
     have hdr : t.drop z.j = c :: t.drop (z.j + 1) := by
      rw [List.drop_eq_getElem_cons hj]
      congr 1
      have := List.getElem?_eq_getElem hj
      rw [hc] at this
      exact (Option.some.inj this).symm
     have zr := z.res
     have zo := z.ok
     rw [hdr] at zr zo
     simp only [termL] at zr
     simp only [termB] at zo
     have hw : IntKind.i64.wrap (((z.j : Nat) : Int) + 1) = ((z.j + 1 : Nat) : Int) := by
      rw [IntWalk.i64_in _ (by omega)]; omega
     have fin : ∀ (e' : El), CanE e' → termL (mulE t f) (andK k k2) (z.j + 1) (t.drop (z.j + 1)) e' = termE t f (k, q) (k2, q2) → termB (mulE t f) (mulB K t f) (andK k k2) (z.j + 1) (t.drop (z.j + 1)) e' = true →
       ∀ V : View, V.tv 0 = tA t rest → V.tv 2 = eA y → V.tv 7 = eA u.acc → V.tv 8 = iA k → V.tv 9 = .c (.p 9 0) → V.tv 10 = iA k2 → V.tv 12 = eA e' → V.tv 17 = .c (.p 17 0) → V.tv 24 = .c (.p 24 0) → V.tv 41 = .c (.sl 1 (rowsE t)) → V.tv 42 = iA ((rowsE t).length : Nat) → V.tv 43 = iA (IntKind.i64.wrap (((z.j : Nat) : Int) + 1)) →
       V.bv 9 = some (.b 33 (numA q)) → V.bv 17 = some (.it true ((keysE s.left).eraseIdx i) ((valsE s.left).eraseIdx i) (some (k, numA q))) → V.bv 24 = some (.it true ((keysE u.left).eraseIdx i2) ((valsE u.left).eraseIdx i2) (some (k2, numA q2))) → V.bv 1000 = none →
       ∃ (fz : List Nat) (z' : LT (mulE t f) (mulB K t f) (andK k k2) t (termE t f (k, q) (k2, q2))), t.length - z'.j < t.length - z.j ∧
        Agree [(0, tA t rest), (2, eA y), (7, eA u.acc), (8, iA k), (9, .c (.p 9 0)), (10, iA k2), (12, eA z'.e), (17, .c (.p 17 0)), (24, .c (.p 24 0)), (41, .c (.sl 1 (rowsE t))), (42, iA ((rowsE t).length : Nat)), (43, iA (z'.j : Nat))]
         [(9, .b 33 (numA q)), (17, .it true ((keysE s.left).eraseIdx i) ((valsE s.left).eraseIdx i) (some (k, numA q))), (24, .it true ((keysE u.left).eraseIdx i2) ((valsE u.left).eraseIdx i2) (some (k2, numA q2)))] (V.fzs fz) := by
      intro e' h1 h2 h3 V v0 v2 v7 v8 v9 v10 v12 v17 v24 v41 v42 v43 w9 w17 w24 w1
      refine ⟨[], ⟨z.j + 1, e', h1, by omega, h2, h3⟩, by show t.length - (z.j + 1) < _; omega, ⟨⟨v0, v2, v7, v8, v9, v10, v12, v17, v24, v41, v42, by rw [← hw]; exact v43, trivial⟩, ⟨w9, w17, w24, trivial⟩, rfl, ?_⟩⟩
      show ((V.bv 1000).isSome && _) = false
      rw [w1]; rfl
     cases hb : (IntKind.i64.wrap (BitVec.ofInt IntKind.i64.bits ((IntKind.i64.wrap (BitVec.ofInt IntKind.i64.bits k &&& BitVec.ofInt IntKind.i64.bits k2).toNat).fdiv (2 ^ min (((z.j : Nat) : Int)).toNat IntKind.i64.bits)) &&& BitVec.ofInt IntKind.i64.bits 1).toNat == 1)
     ·have hb' : bitK (andK k k2) (z.j : Nat) = false := hb
      rw [hb'] at zr zo
      conv => whnf
      exact fin z.e z.can (by simpa using zr) zo _ rfl rfl rfl rfl rfl rfl rfl rfl rfl rfl rfl rfl rfl rfl rfl rfl
     ·have hb' : bitK (andK k k2) (z.j : Nat) = true := hb
      rw [hb'] at zr zo
      simp only [cond_true, Bool.and_eq_true] at zo
      conv => whnf
      refine ⟨_, cMulE hK0 ht hl f z.e c rest z.can (ht c (List.mem_of_getElem? hc)) zo.1, ?_⟩
      conv => whnf
      exact fin _ (mulE_can t f _ _) (by simpa using zr) zo.2 _ rfl rfl rfl rfl rfl rfl rfl rfl rfl rfl rfl rfl rfl rfl rfl rfl
end Go.Proofs.YtajecapgmdfjcaaGreatDoor

/- norm. -/
namespace Go.Proofs.YtajecapgmdfjcaaGreatDoor
open Go.RowKit Vn
def normE (t : List El) (f : Nat) (a b c : El) : El := subE (mulE t f a a) (mulE t f (mulE t f b b) c)
def normB (K : Nat) (t : List El) (f : Nat) (a b c : El) : Bool := mulB K t f a a && (mulB K t f b b && (mulB K t f (mulE t f b b) c && (smB K (mulE t f a a) && (smB K (mulE t f (mulE t f b b) c) && decide (2 * K + 2 ≤ 20000000)))))
set_option maxHeartbeats 1000000 in
theorem cNorm {t : List El} {K : Nat} (hK0 : 0 < K) (ht : ∀ c ∈ t, CanE c) (hl : t.length ≤ 60) {f : Nat} {a b c : El} {i : Nat} (rest : List AC) (ha : CanE a) (hb : CanE b) (hc : t[i]? = some c) (h : normB K t f a b c = true) :
  Cal Tryz.prog OQ 63 [tA t rest, eA a, eA b, iA (i : Nat)] (eA (normE t f a b c)) := by
 simp only [normB, Bool.and_eq_true, decide_eq_true_eq] at h
 obtain ⟨h1, h2, h3, h4, h5, h6⟩ := h
 have hi : i < t.length := (List.getElem?_eq_some_iff.1 hc).1
 refine fn_call TK MX Tryz.func63 rfl (by kernel_rfl) (by kernel_rfl) (by kernel_rfl) rfl rfl ?_
 have d2 : decide ((((i : Nat) : Int)).toNat < (rowsE t).length) = true := by rw [rows_len]; simp [hi]
 have d3 : (rowsE t).getD (((i : Nat) : Int)).toNat [] = [eC c] := by simpa using rows_get hc
 have d1 : decide ((0 : Int) ≤ ((i : Nat) : Int)) = true := by simp
 conv => whnf
 refine ⟨_, cMulE hK0 ht hl f a a rest ha ha h1, ?_⟩
 conv => whnf
 refine ⟨_, cMulE hK0 ht hl f b b rest hb hb h2, ?_⟩
 conv => whnf
 rw [d1]
 conv => whnf
 rw [d2]
 conv => whnf
 rw [d3]
 conv => whnf
 refine ⟨_, cMulE hK0 ht hl f _ c rest (mulE_can _ _ _ _) (ht c (List.mem_of_getElem? hc)) h3, ?_⟩
 conv => whnf
 refine .inl ⟨_, nSub (K := K) (L := K) (mulE_can _ _ _ _) (mulE_can _ _ _ _) (smB_ok h4) (smB_ok h5) hK0 hK0 (by omega), ?_⟩
 conv => whnf
 rfl
end Go.Proofs.YtajecapgmdfjcaaGreatDoor

/- Small things. -/
namespace Go.Proofs.YtajecapgmdfjcaaGreatDoor
open Go.RowKit Vn
theorem dF {p : Prop} [Decidable p] (h : ¬ p) : decide p = false := decide_eq_false h
def lgQ (q : Rat) : Int := if (absQ q).num.natAbs * 2 ^ (max (-((bl (absQ q).num.natAbs : Int) - bl (absQ q).den)) 0).toNat < (absQ q).den * 2 ^ (max ((bl (absQ q).num.natAbs : Int) - bl (absQ q).den) 0).toNat then (bl (absQ q).num.natAbs : Int) - bl (absQ q).den - 1 else (bl (absQ q).num.natAbs : Int) - bl (absQ q).den
theorem lg_is {q : Rat} (h : q ≠ 0) : IsLog (absQ q) (lgQ q) := log_is (absQ_num_pos (fun e => h (Rat.num_eq_zero.1 e))) _ rfl
end Go.Proofs.YtajecapgmdfjcaaGreatDoor
