/- The reference: Text and Parse, by reckoning. -/
import Derived.Test.YtajecapgmdfjcaaGreatDoorK45
import Derived.Test.YtajecapgmdfjcaaGreatDoorK48
import Derived.Test.YtajecapgmdfjcaaGreatDoorK49
namespace Go.Proofs.YtajecapgmdfjcaaGreatDoor
open Go.RowKit Vn
abbrev rN (n : Nat) : AV := .c (.o 2 n)
theorem cRtext {n K : Nat} (sx : Sm K n) (hK : K ≤ 1000000) : Cal Tryz.prog OQ 166 [rN n] (sA (decT n)) :=
 cal_of (by kernel_rfl) rfl fun S w vs _ hv => by
  match vs, hv with
  | [x], hv =>
   have hx : RefV w x n := hv.1
   exact (rtext_c x n K w hx sx hK).mono fun _ _ ⟨h1, h2⟩ => ⟨_, h1, h2, fun S' => ⟨rfl, rfl⟩⟩
theorem cRread {l : List UInt8} (hd : Digs l) (hl : l.length ≤ 2000) : Cal Tryz.prog OQ 132 [sA (ba l)] (rN (decV l)) :=
 cal_of (by kernel_rfl) rfl fun S w vs _ hv => by
  match vs, hv with
  | [x], hv =>
   have e := sc_of hv.1
   subst e
   exact (rread_c l w hd hl).mono fun _ _ ⟨a, k, c, h1, h2, h3⟩ => ⟨_, h1, h3, fun S' => h2⟩
theorem cRmade {s : Int} {P Q K : Nat} (hs : s = 1 ∨ s = -1 ∨ s = 0) (sx : Sm K P) (sy : Sm K Q) (hK : K ≤ 30000000) (hQ : 0 < Q) : Cal Tryz.prog OQ 131 [iA s, rN P, rN Q] (rA (mkRat (s * P) Q)) :=
 cal_of (by kernel_rfl) rfl fun S w vs _ hv => by
  match vs, hv with
  | [x, y, z], hv =>
   have e := sc_of hv.1
   subst e
   have hy : RefV w y P := hv.2.1
   have hz : RefV w z Q := hv.2.2.1
   exact (rmade_c s y z P Q K w hs hy hz sx sy hK hQ).mono fun _ _ ⟨v, h1, h2, h3⟩ => ⟨_, h1, h3, fun S' => (rnumA_of (β := fun _ => none) (S := S') h2).toV (by intro l h; cases h)⟩
theorem cRrows {l : List UInt8} {X Y : ByteArray} {Z : Bool} (hl : l.length ≤ 9223372036854775807) (h : RowsR l X Y Z) : Cal Tryz.prog OQ 130 [sA (ba l)] (.t [sA X, sA Y, iA (if pNeg l = true then -1 else 1), bA Z]) :=
 cal_of (by kernel_rfl) rfl fun S w vs _ hv => by
  match vs, hv with
  | [x], hv =>
   have e := sc_of hv.1
   subst e
   exact (rrows_c l X Y Z w hl h).mono fun _ _ ⟨h1, h2⟩ => ⟨_, h1, h2, fun S' => ⟨[_, _, _, _], rfl, ⟨rfl, rfl⟩, ⟨rfl, rfl⟩, ⟨rfl, rfl⟩, ⟨rfl, rfl⟩, trivial⟩⟩
theorem sgnLt (q : Rat) : decide (q.num.sign < 0) = decide (q.num < 0) := by
 have : q.num.sign < 0 ↔ q.num < 0 := Int.sign_neg_iff
 simp only [this]
set_option maxRecDepth 100000 in
set_option maxHeartbeats 2000000 in
theorem cRText {q : Rat} {K : Nat} (sx : SmQ K q) (hK : K ≤ 1000000) : Cal Tryz.prog OQ 133 [rA q] (sA (numText q)) := by
 refine fn_call TK MX Tryz.func133 rfl (by kernel_rfl) (by kernel_rfl) (by kernel_rfl) rfl rfl ?_
 have z1 := decT_size sx.1
 have z2 := decT_size sx.2
 conv => whnf
 refine ⟨_, cRtext sx.1 hK, ?_⟩
 conv => whnf
 rw [sgnLt]
 have h1 : (⟨#[45]⟩ : ByteArray).size = 1 := rfl
 have h2 : (⟨#[47]⟩ : ByteArray).size = 1 := rfl
 have hz : ∀ (a b : ByteArray), (a ++ b).size = a.size + b.size := fun a b => ByteArray.size_append
 unfold numText
 generalize decT q.num.natAbs = U at *
 generalize hV : decT q.den = V at *
 by_cases hn : q.num < 0
 ·rw [dT hn, if_pos hn]
  conv => whnf
  rw [fits_of (by rw [h1]; omega)]
  have hS := hz ⟨#[45]⟩ U
  generalize ⟨#[45]⟩ ++ U = S at *
  conv => whnf
  refine ⟨_, cRIsInt sx (by omega), ?_⟩
  conv => whnf
  by_cases hd : q.den = 1
  ·rw [dT hd, if_pos hd, ba_empty]
   conv => whnf
   rfl
  ·rw [dF hd, if_neg hd]
   conv => whnf
   rw [fits_of (by rw [hS, h1, h2]; omega), ← ByteArray.append_assoc]
   have hS2 := hz S ⟨#[47]⟩
   generalize S ++ ⟨#[47]⟩ = T at *
   conv => whnf
   rw [if_neg (show ¬ q = 0 from fun e => hd (by rw [e]; rfl))]
   refine ⟨_, cRtext sx.2 hK, ?_⟩
   rw [hV]
   conv => whnf
   rw [fits_of (by rw [hS2, hS, h1, h2]; omega)]
   generalize T ++ V = R at *
   conv => whnf
   rfl
 ·rw [dF hn, if_neg hn]
  conv => whnf
  refine ⟨_, cRIsInt sx (by omega), ?_⟩
  conv => whnf
  by_cases hd : q.den = 1
  ·rw [dT hd, if_pos hd, ba_empty]
   conv => whnf
   rfl
  ·rw [dF hd, if_neg hd]
   conv => whnf
   rw [fits_of (by rw [h2]; omega), ← ByteArray.append_assoc]
   have hS2 := hz U ⟨#[47]⟩
   generalize U ++ ⟨#[47]⟩ = T at *
   conv => whnf
   rw [if_neg (show ¬ q = 0 from fun e => hd (by rw [e]; rfl))]
   refine ⟨_, cRtext sx.2 hK, ?_⟩
   rw [hV]
   conv => whnf
   rw [fits_of (by rw [hS2, h2]; omega)]
   generalize T ++ V = R at *
   conv => whnf
   rfl
theorem sg_mul (neg : Bool) (P : Nat) : (if neg = true then -1 else 1) * ((P : Nat) : Int) = sg neg P := by
 unfold sg; cases neg <;> simp
theorem toList_eq_iff {a b : ByteArray} : (a.toList == b.toList) = decide (a = b) := by
 rw [ByteArray.toList_eq, ByteArray.toList_eq, Bool.eq_iff_iff, beq_iff_eq, decide_eq_true_iff]
 constructor
 ·intro h; exact ByteArray.ext (Array.toList_inj.1 h)
 ·intro h; rw [h]
theorem rparse_small {l : List UInt8} (hb : parseBad (pNeg l) (pCut l).2.2 (pCut l).1 (pCut l).2.1 = false) (h1 : (pCut l).1.length ≤ 2000) (h2 : (pCut l).2.1.length ≤ 2000) :
  Digs (pCut l).1 ∧ Digs (if (pCut l).2.2 = true then (pCut l).2.1 else [49]) ∧ Sm 8000 (decV (pCut l).1) ∧ Sm 8000 (decV (if (pCut l).2.2 = true then (pCut l).2.1 else [49])) ∧ 0 < decV (if (pCut l).2.2 = true then (pCut l).2.1 else [49]) := by
 unfold parseBad at hb
 simp only [Bool.or_eq_false_iff, Bool.not_eq_false'] at hb
 obtain ⟨⟨hA, _⟩, hB⟩ := hb
 refine ⟨rowB_digs hA, ?_, decV_small hA h1, ?_⟩
 ·split
  ·rename_i hbr
   rw [hbr] at hB
   simp only [Bool.true_and, Bool.or_eq_false_iff, Bool.not_eq_false', beq_eq_false_iff_ne] at hB
   exact rowB_digs hB.1.1
  ·intro b hb; simp at hb; subst hb; decide
 ·split
  ·rename_i hbr
   rw [hbr] at hB
   simp only [Bool.true_and, Bool.or_eq_false_iff, Bool.not_eq_false', beq_eq_false_iff_ne] at hB
   have := decV_big hB.1.1 hB.1.2 hB.2
   exact ⟨decV_small hB.1.1 h2, by omega⟩
  ·exact ⟨sm8000, by decide⟩
set_option maxRecDepth 100000 in
set_option maxHeartbeats 4000000 in
theorem cRParse {l : List UInt8} (hl : l.length ≤ 9223372036854775807) : Cal Tryz.prog OQ 87 [sA (ba l)] (.t [rA (parseV l).1, iA (parseV l).2]) := by
 refine fn_call TK MX Tryz.func87 rfl (by kernel_rfl) (by kernel_rfl) (by kernel_rfl) rfl rfl ?_
 have hR : RowsR l (ba (pCut l).1) (ba (if (pCut l).2.2 = true then (pCut l).2.1 else [49])) (!parseBad (pNeg l) (pCut l).2.2 (pCut l).1 (pCut l).2.1) := ⟨rfl, by split <;> rfl, rfl⟩
 have hsz1 : (ba (pCut l).1).size = (pCut l).1.length := ba_size _
 have hsz2 : (ba (if (pCut l).2.2 = true then (pCut l).2.1 else [49])).size = if (pCut l).2.2 = true then (pCut l).2.1.length else 1 := by rw [ba_size]; split <;> rfl
 have hBl : (pCut l).2.2 = false → (pCut l).2.1.length = 0 := fun h => by
  obtain ⟨A, B, b, e, _, hB⟩ := text_parts l
  rw [e] at h ⊢; rw [hB h]; rfl
 conv => whnf
 refine ⟨_, cRrows hl hR, ?_⟩
 conv => whnf
 cases hb : parseBad (pNeg l) (pCut l).2.2 (pCut l).1 (pCut l).2.1
 ·conv => whnf
  have s1 := rparse_small hb
  have s2 := rparse_same hb
  by_cases h1 : (pCut l).1.length ≤ 2000
  ·rw [hsz1, dF (show ¬ (((pCut l).1.length : Nat) : Int) > 2000 by omega)]
   conv => whnf
   by_cases h2 : (pCut l).2.1.length ≤ 2000
   ·rw [hsz2, dF (show ¬ (((if (pCut l).2.2 = true then (pCut l).2.1.length else 1) : Nat) : Int) > 2000 by split <;> omega)]
    obtain ⟨d1, d2, z1, z2, z3⟩ := s1 h1 h2
    conv => whnf
    refine ⟨_, cRread d1 h1, ?_⟩
    conv => whnf
    refine ⟨_, cRread d2 (by split <;> first | exact h2 | decide), ?_⟩
    conv => whnf
    refine ⟨_, cRmade (by split <;> simp) z1 z2 (by decide) z3, ?_⟩
    rw [sg_mul]
    have eq : mkRat (sg (pNeg l) (decV (pCut l).1)) (decV (if (pCut l).2.2 = true then (pCut l).2.1 else [49])) = rparseQ l := by
     unfold rparseQ mkq; congr 1; split <;> rfl
    rw [eq]
    conv => whnf
    have sq : SmQ 8000 (rparseQ l) := by
     rw [← eq]
     have : mkRat (sg (pNeg l) (decV (pCut l).1)) (decV (if (pCut l).2.2 = true then (pCut l).2.1 else [49])) = mkq (pNeg l) (decV (pCut l).1) (decV (if (pCut l).2.2 = true then (pCut l).2.1 else [49])) := rfl
     rw [this]
     exact ⟨by rw [mkq_natAbs _ _ _ (by omega)]; exact z1.of_le (Nat.div_le_self _ _), by rw [mkq_den _ _ _ (by omega)]; exact z2.of_le (Nat.div_le_self _ _)⟩
    refine ⟨_, cRText sq (by decide), ?_⟩
    conv => whnf
    rw [toList_eq_iff]
    rcases s2 h1 h2 with ⟨e1, e2⟩ | ⟨e1, e2⟩
    ·rw [e1, dT e2]
     conv => whnf
     rfl
    ·rw [e1, dF e2]
     conv => whnf
     rfl
   ·have hbr : (pCut l).2.2 = true := by
     cases h : (pCut l).2.2
     ·have := hBl h; omega
     ·rfl
    rw [hsz2, dT (show (((if (pCut l).2.2 = true then (pCut l).2.1.length else 1) : Nat) : Int) > 2000 by rw [if_pos hbr]; omega)]
    have e1 : parseV l = (0, 3) := by unfold parseV; rw [hb, if_neg (by decide), if_pos (by omega)]
    rw [e1]
    conv => whnf
    rfl
  ·rw [hsz1, dT (show (((pCut l).1.length : Nat) : Int) > 2000 by omega)]
   have e1 : parseV l = (0, 3) := by unfold parseV; rw [hb, if_neg (by decide), if_pos (by omega)]
   rw [e1]
   conv => whnf
   rfl
 ·have e1 : parseV l = (0, 6) := by unfold parseV; rw [hb, if_pos rfl]
  rw [e1]
  conv => whnf
  rfl
end Go.Proofs.YtajecapgmdfjcaaGreatDoor

/- The reference's Check; the law RealsChecks. -/
namespace Go.Proofs.YtajecapgmdfjcaaGreatDoor
open Go.RowKit Vn
theorem cRCheckX {l : List UInt8} (hl : l.length ≤ 9223372036854775807) : Cal Tryz.prog OQ 47 [sA (ba l)] (iA (parseV l).2) := by
 refine fn_call TK MX Tryz.func47 rfl (by kernel_rfl) (by kernel_rfl) (by kernel_rfl) rfl rfl ?_
 conv => whnf
 refine ⟨_, cRParse hl, ?_⟩
 conv => whnf
 rfl
def oneB (k : Int) : Bool := decide (k ≥ 2) && decide (k ≤ 4)
def twoB (k : Int) : Bool := decide (k ≥ 5) && decide (k ≤ 10)
theorem cROne {k : Int} : Cal Tryz.prog OQ 48 [iA k] (bA (oneB k)) := by
 refine fn_call TK MX Tryz.func48 rfl (by kernel_rfl) (by kernel_rfl) (by kernel_rfl) rfl rfl ?_
 unfold oneB
 conv => whnf
 cases e : decide (k ≥ 2)
 ·conv => whnf
  rfl
 ·conv => whnf
  rfl
theorem cRTwo {k : Int} : Cal Tryz.prog OQ 49 [iA k] (bA (twoB k)) := by
 refine fn_call TK MX Tryz.func49 rfl (by kernel_rfl) (by kernel_rfl) (by kernel_rfl) rfl rfl ?_
 unfold twoB
 conv => whnf
 cases e : decide (k ≥ 5)
 ·conv => whnf
  rfl
 ·conv => whnf
  rfl
theorem kinds (k : Int) : ((k == 1) = true ∧ usesE k = 0) ∨ ((k == 1) = false ∧ oneB k = true ∧ twoB k = false ∧ usesE k = 1) ∨ ((k == 1) = false ∧ oneB k = false ∧ twoB k = true ∧ usesE k = 2) ∨ ((k == 1) = false ∧ oneB k = false ∧ twoB k = false ∧ usesE k = -1) := by
 unfold usesE oneB twoB
 by_cases h1 : k = 1
 ·subst h1; exact .inl ⟨rfl, rfl⟩
 ·have e1 : (k == 1) = false := by simpa using h1
  rw [e1]
  by_cases h2 : 2 ≤ k ∧ k ≤ 4
  ·have a : decide (k ≥ 2) = true := by simp; omega
   have b : decide (k ≤ 4) = true := by simp; omega
   have c : decide (k ≥ 5) = false := by simp; omega
   simp [a, b, c]
  ·by_cases h3 : 5 ≤ k ∧ k ≤ 10
   ·have a : decide (k ≤ 4) = false := by simp; omega
    have b : decide (k ≥ 5) = true := by simp; omega
    have c : decide (k ≤ 10) = true := by simp; omega
    simp [a, b, c]
   ·have a : (decide (k ≥ 2) && decide (k ≤ 4)) = false := by simp; omega
    have b : (decide (k ≥ 5) && decide (k ≤ 10)) = false := by simp; omega
    simp only [a, b, cond_false]; simp
set_option maxHeartbeats 2000000 in
theorem cRWrong {x : Nd} {many : Int} (hv : x.v.length ≤ 9223372036854775807) : Cal Tryz.prog OQ 24 [ndA x, iA many] (iA (wrongE x many)) := by
 refine fn_call TK MX Tryz.func24 rfl (by kernel_rfl) (by kernel_rfl) (by kernel_rfl) rfl rfl ?_
 unfold wrongE
 conv => whnf
 rcases kinds x.k with ⟨k1, k2⟩ | ⟨k1, k3, k4, k2⟩ | ⟨k1, k3, k4, k2⟩ | ⟨k1, k3, k4, k2⟩ <;> rw [k1, k2]
 ·conv => whnf
  cases e1 : (x.a != 0)
  ·conv => whnf
   cases e2 : (x.b != 0)
   ·conv => whnf
    refine ⟨_, cRCheckX hv, ?_⟩
    conv => whnf
    rfl
   ·conv => whnf
    rfl
  ·conv => whnf
   rfl
 ·have c1 := cROne (k := x.k)
  have c2 := cRTwo (k := x.k)
  rw [k3] at c1
  rw [k4] at c2
  conv => whnf
  refine ⟨_, c1, ?_⟩
  conv => whnf
  cases e0 : emB x.v
  ·have e0' : ((ba x.v).toList == (⟨#[]⟩ : ByteArray).toList) = false := e0
   rw [e0']
   conv => whnf
   rfl
  ·have e0' : ((ba x.v).toList == (⟨#[]⟩ : ByteArray).toList) = true := e0
   rw [e0']
   conv => whnf
   refine ⟨_, c1, ?_⟩
   conv => whnf
   cases e2 : (x.b != 0)
   ·have b0 : x.b = 0 := by simpa using e2
    conv => whnf
    cases e3 : decide (x.a < 0)
    ·conv => whnf
     cases e4 : decide (x.a ≥ many)
     ·conv => whnf
      rw [b0]
      conv => whnf
      refine ⟨_, c2, ?_⟩
      conv => whnf
      rfl
     ·conv => whnf
      rfl
    ·conv => whnf
     rfl
   ·conv => whnf
    rfl
 ·have c1 := cROne (k := x.k)
  have c2 := cRTwo (k := x.k)
  rw [k3] at c1
  rw [k4] at c2
  conv => whnf
  refine ⟨_, c1, ?_⟩
  conv => whnf
  refine ⟨_, c2, ?_⟩
  conv => whnf
  cases e0 : emB x.v
  ·have e0' : ((ba x.v).toList == (⟨#[]⟩ : ByteArray).toList) = false := e0
   rw [e0']
   conv => whnf
   rfl
  ·have e0' : ((ba x.v).toList == (⟨#[]⟩ : ByteArray).toList) = true := e0
   rw [e0']
   conv => whnf
   refine ⟨_, c1, ?_⟩
   conv => whnf
   cases e3 : decide (x.a < 0)
   ·conv => whnf
    cases e4 : decide (x.a ≥ many)
    ·conv => whnf
     cases e5 : decide (x.b < 0)
     ·conv => whnf
      refine ⟨_, c2, ?_⟩
      conv => whnf
      cases e6 : decide (x.b ≥ many)
      ·conv => whnf
       rfl
      ·conv => whnf
       rfl
     ·conv => whnf
      rfl
    ·conv => whnf
     rfl
   ·conv => whnf
    rfl
 ·have c1 := cROne (k := x.k)
  have c2 := cRTwo (k := x.k)
  rw [k3] at c1
  rw [k4] at c2
  conv => whnf
  refine ⟨_, c1, ?_⟩
  conv => whnf
  refine ⟨_, c2, ?_⟩
  conv => whnf
  rfl
set_option maxHeartbeats 2000000 in
theorem cRCheck {l : List Nd} (hl : ∀ x ∈ l, x.v.length ≤ 9223372036854775807) : Cal Tryz.prog OQ 7 [lsA l] (.t [iA (checkE l).1, iA (checkE l).2]) := by
 refine fn_call TK MX Tryz.func7 rfl (by kernel_rfl) (by kernel_rfl) (by kernel_rfl) rfl rfl ?_
 have lm : (l.map ndC).length = l.length := by simp
 unfold checkE
 conv => whnf
 rw [lm]
 cases e0 : decide (((l.length : Nat) : Int) > 300)
 ·have hlen : l.length ≤ 300 := by have := of_decide_eq_false e0; omega
  conv => whnf
  refine ⟨0, CkS l, fun s => [(0, lsA l), (4, iA ((s.j : Nat) : Int))], fun _ => [], fun s => l.length - s.j, [], ⟨0, Nat.zero_le _, rfl⟩, ⟨?_, ?_, rfl, rfl⟩, fun s => ?_⟩
  ·exact ⟨rfl, rfl, trivial⟩
  ·exact trivial
  have hs := s.le
  have hr := s.res
  conv => whnf
  rw [lm]
  cases hlt : decide (((s.j : Nat) : Int) < ((l.length : Nat) : Int))
  ·have hj : s.j = l.length := by have := of_decide_eq_false hlt; omega
   conv => whnf
   rw [hj, List.drop_length] at hr
   rw [← hr]
   rfl
  ·have hj : s.j < l.length := by have := of_decide_eq_true hlt; omega
   obtain ⟨x, hx⟩ : ∃ x, l[s.j]? = some x := ⟨_, List.getElem?_eq_getElem hj⟩
   have hdr : l.drop s.j = x :: l.drop (s.j + 1) := by
    rw [List.drop_eq_getElem_cons hj]
    congr 1
    have := List.getElem?_eq_getElem hj
    rw [hx] at this
    exact (Option.some.inj this).symm
   rw [hdr] at hr
   have d1 : decide ((0 : Int) ≤ ((s.j : Nat) : Int)) = true := by simp
   have d2 : decide ((((s.j : Nat) : Int)).toNat < (l.map ndC).length) = true := by rw [lm]; simp [hj]
   have d3 : (l.map ndC).getD (((s.j : Nat) : Int)).toNat [] = ndC x := by simpa using ls_get hx
   conv => whnf
   rw [d1]
   conv => whnf
   rw [d2]
   conv => whnf
   rw [d3]
   conv => whnf
   obtain ⟨W, hW⟩ : ∃ W, wrongE x ((s.j : Nat) : Int) = W := ⟨_, rfl⟩
   have cw := cRWrong (many := ((s.j : Nat) : Int)) (hl x (List.mem_of_getElem? hx))
   rw [hW] at cw
   simp only [checkGo, hW] at hr
   refine ⟨_, cw, ?_⟩
   conv => whnf
   cases e1 : (W != 0)
   ·rw [e1] at hr
    conv => whnf
    refine ⟨[], ⟨s.j + 1, hj, hr⟩, by show l.length - (s.j + 1) < l.length - s.j; omega, ⟨⟨rfl, ?_, trivial⟩, trivial, rfl, rfl⟩⟩
    show AV.c (.v (.int .i64 (IntKind.i64.wrap (((s.j : Nat) : Int) + 1)))) = _
    rw [IntWalk.i64_in _ (by omega)]; rfl
   ·rw [e1] at hr
    conv => whnf
    rw [← hr]
    rfl
 ·conv => whnf
  rfl
theorem cRealsChecks {l : List Nd} (hl : ∀ x ∈ l, x.v.length ≤ 9223372036854775807) : Cal Tryz.prog OQ 3 [lsA l] (bA true) := by
 refine fn_call TK MX Tryz.func3 rfl (by kernel_rfl) (by kernel_rfl) (by kernel_rfl) rfl rfl ?_
 have c1 := cCheck hl
 have c2 := cRCheck hl
 generalize (checkE l).1 = m at c1 c2
 generalize (checkE l).2 = e at c1 c2
 conv => whnf
 refine ⟨_, c1, ?_⟩
 conv => whnf
 refine ⟨_, c2, ?_⟩
 conv => whnf
 rw [show (m == m) = true from by simp]
 conv => whnf
 rw [show (e == e) = true from by simp]
 conv => whnf
 refine ⟨_, cAwake, ?_⟩
 conv => whnf
 rfl
end Go.Proofs.YtajecapgmdfjcaaGreatDoor
