/- exact: Parse of whatever text (that is no longer than memory's words say); what Text prints is read as the same number. -/
import Derived.Test.YtajecapgmdfjcaaGreatDoorN17
import Derived.Test.YtajecapgmdfjcaaGreatDoorN36
namespace Go.Proofs.YtajecapgmdfjcaaGreatDoor
open Go.RowKit Vn
theorem Parse_c (l : List UInt8) (w : World) (hw : WM w) (hl : l.length ≤ 9223372036854775807) :
  Calls Tryz.prog 64 #[.string (ba l)] w fun e w' => ParsePost (parseV l) w e w' := by
 have hs : (Lib.trimPrefix l [45]).length ≤ l.length := by
  unfold Lib.trimPrefix
  split
  ·rw [List.length_drop]; omega
  ·exact Nat.le_refl _
 have h1 : (pCut l).1.length ≤ (Lib.trimPrefix l [45]).length := by
  unfold pCut Lib.cut
  split
  ·exact List.length_take_le' _ _
  ·exact Nat.le_refl _
 have h2 : (pCut l).2.1.length ≤ (Lib.trimPrefix l [45]).length := by
  unfold pCut Lib.cut
  split
  ·show (List.drop _ _).length ≤ _
   rw [List.length_drop]; omega
  ·exact Nat.zero_le _
 refine Parse_x l (Lib.trimPrefix l [45]) (pCut l).1 (pCut l).2.1 (pNeg l) (pCut l).2.2 (parseBad (pNeg l) (pCut l).2.2 (pCut l).1 (pCut l).2.1) (parseV l) w hw (by omega) (by omega) (hid fun w => ?_) (hid fun w _ => ?_) rfl rfl
 ·exact (Tryz.sCutPrefix (ba l) ⟨#[45]⟩ w).mono fun e w' ⟨h1, h2⟩ => ⟨h1, h2 ▸ Below.refl _ _⟩
 ·exact sCut1_c (ba (Lib.trimPrefix l [45])) w (by rw [ba_size]; omega)
theorem dig_isDig {d : Nat} (h : d < 10) : isDig (UInt8.ofNat (48 + d)) = true := by
 have : ∀ x : Fin 10, isDig (UInt8.ofNat (48 + x.val)) = true := by decide
 exact this ⟨d, h⟩
theorem dec_all : ∀ n, (Lib.decDigits n).all isDig = true := by
 intro n
 induction n using Nat.strongRecOn with
 | ind n ih =>
  by_cases h : n < 10
  ·rw [Lib.decDigits_one h, List.all_cons, dig_isDig h]; rfl
  ·rw [dec_big h, List.all_append, ih (n / 10) (by omega), List.all_cons, dig_isDig (Nat.mod_lt _ (by decide))]; rfl
theorem decV_dec : ∀ n, decV (Lib.decDigits n) = n := by
 intro n
 induction n using Nat.strongRecOn with
 | ind n ih =>
  have hd : ∀ d, d < 10 → (UInt8.ofNat (48 + d)).toNat - 48 = d := by
   intro d hd
   have : ∀ x : Fin 10, (UInt8.ofNat (48 + x.val)).toNat - 48 = x.val := by decide
   exact this ⟨d, hd⟩
  by_cases h : n < 10
  ·rw [Lib.decDigits_one h]
   show 10 * 0 + ((UInt8.ofNat (48 + n)).toNat - 48) = n
   rw [hd n h]; omega
  ·rw [dec_big h, decV_snoc, ih (n / 10) (by omega), hd _ (Nat.mod_lt _ (by decide))]; omega
theorem dec_head : ∀ n, 0 < n → ∃ b l, Lib.decDigits n = b :: l ∧ b ≠ 48 := by
 intro n
 induction n using Nat.strongRecOn with
 | ind n ih =>
  intro h0
  by_cases h : n < 10
  ·refine ⟨_, [], Lib.decDigits_one h, ?_⟩
   have : ∀ x : Fin 10, 0 < x.val → UInt8.ofNat (48 + x.val) ≠ 48 := by decide
   exact this ⟨n, h⟩ h0
  ·obtain ⟨b, l, e, hb⟩ := ih (n / 10) (by omega) (by omega)
   exact ⟨b, l ++ [UInt8.ofNat (48 + n % 10)], by rw [dec_big h, e]; rfl, hb⟩
theorem rowB_dec (n : Nat) : rowB (Lib.decDigits n) = true := by
 rcases Nat.eq_zero_or_pos n with h | h
 ·subst h; rw [Lib.decDigits_one (by decide)]; decide
 ·obtain ⟨b, l, e, hb⟩ := dec_head n h
  unfold rowB
  rw [dec_all, e]
  simp only [List.head?_cons]
  have h1 : ((b :: l) == ([] : List UInt8)) = false := rfl
  have h2 : (some b == some (48 : UInt8)) = false := beq_eq_false_iff_ne.2 (fun k => hb (Option.some.inj k))
  rw [h1, h2]; simp
theorem dec_eq_lit {n k : Nat} (hk : k < 10) : Lib.decDigits n = [UInt8.ofNat (48 + k)] ↔ n = k := by
 constructor
 ·intro h
  have h1 := decV_dec n
  rw [h, ← Lib.decDigits_one hk, decV_dec] at h1
  exact h1.symm
 ·rintro rfl; exact Lib.decDigits_one hk
theorem not_pre {b : UInt8} {l : List UInt8} {c : UInt8} (h : b ≠ c) : [c].isPrefixOf (b :: l) = false := by
 simp [List.isPrefixOf]; exact fun e => h e.symm
theorem isDig_ne {b c : UInt8} (h : isDig b = true) (hc : isDig c = false) : b ≠ c := by
 rintro rfl; rw [h] at hc; cases hc
theorem index_slash : ∀ (D E : List UInt8), D.all isDig = true → Lib.index (D ++ 47 :: E) [47] = D.length
 | [], E, _ => by
  show Lib.index (47 :: E) [47] = _
  rw [Lib.index, if_pos (by simp [List.isPrefixOf])]; rfl
 | b :: D, E, h => by
  rw [List.all_cons, Bool.and_eq_true] at h
  have hn := index_slash D E h.2
  show Lib.index (b :: (D ++ 47 :: E)) [47] = _
  rw [Lib.index, not_pre (isDig_ne h.1 (by decide)), if_neg (by decide), hn]
  rw [if_neg (by simp)]
  simp
theorem index_noslash : ∀ (D : List UInt8), D.all isDig = true → Lib.index D [47] = -1
 | [], _ => rfl
 | b :: D, h => by
  rw [List.all_cons, Bool.and_eq_true] at h
  have hn := index_noslash D h.2
  rw [Lib.index, not_pre (isDig_ne h.1 (by decide)), if_neg (by decide), hn]
  rfl
theorem cut_digits {D : List UInt8} (h : D.all isDig = true) : Lib.cut D [47] = (D, [], false) := by
 unfold Lib.cut
 rw [index_noslash D h]
 rfl
theorem cut_quo {D : List UInt8} (E : List UInt8) (h : D.all isDig = true) : Lib.cut (D ++ 47 :: E) [47] = (D, E, true) := by
 unfold Lib.cut
 rw [index_slash D E h, if_pos (by omega)]
 simp
theorem numText_list (q : Rat) : (numText q).data.toList = (if q.num < 0 then [45] else []) ++ (Lib.decDigits q.num.natAbs ++ (if q.den = 1 then [] else 47 :: Lib.decDigits q.den)) := by
 unfold numText decT
 split <;> split <;> simp
theorem digs_pre {D R : List UInt8} (hne : D ≠ []) (h : D.all isDig = true) : Lib.hasPrefix (D ++ R) [45] = false := by
 obtain ⟨b, l, rfl⟩ := List.exists_cons_of_ne_nil hne
 rw [List.all_cons, Bool.and_eq_true] at h
 exact not_pre (isDig_ne h.1 (by decide))
theorem parse_text (q : Rat) (h1 : (Lib.decDigits q.num.natAbs).length ≤ 2000) (h2 : (Lib.decDigits q.den).length ≤ 2000) : parseV (numText q).data.toList = (q, 0) := by
 have hD := dec_all q.num.natAbs
 have hne := dec_ne q.num.natAbs
 have hneg : pNeg (numText q).data.toList = decide (q.num < 0) := by
  unfold pNeg
  rw [numText_list]
  split
  ·rename_i h; rw [decide_eq_true h]; rfl
  ·rename_i h; rw [decide_eq_false h, List.nil_append]; exact digs_pre hne hD
 have htp : Lib.trimPrefix (numText q).data.toList [45] = Lib.decDigits q.num.natAbs ++ (if q.den = 1 then [] else 47 :: Lib.decDigits q.den) := by
  unfold Lib.trimPrefix
  unfold pNeg at hneg
  rw [hneg, numText_list]
  by_cases h : q.num < 0
  ·rw [decide_eq_true h, if_pos rfl, if_pos h]; rfl
  ·rw [decide_eq_false h, if_neg (by decide), if_neg h]; rfl
 have hself : mkq (decide (q.num < 0)) q.num.natAbs q.den = q := mkq_self q
 have hz : (decide (q.num < 0) && Lib.decDigits q.num.natAbs == [48]) = false := by
  by_cases h : q.num < 0
  ·have : Lib.decDigits q.num.natAbs ≠ [48] := fun e => by
    have := (dec_eq_lit (k := 0) (by decide)).1 e
    omega
   rw [beq_eq_false_iff_ne.2 this]; simp
  ·rw [decide_eq_false h]; rfl
 by_cases hd : q.den = 1
 ·have hc : pCut (numText q).data.toList = (Lib.decDigits q.num.natAbs, [], false) := by
   unfold pCut
   rw [htp, if_pos hd, List.append_nil]; exact cut_digits hD
  unfold parseV
  rw [hc, hneg]
  have hb : parseBad (decide (q.num < 0)) false (Lib.decDigits q.num.natAbs) [] = false := by
   unfold parseBad
   rw [rowB_dec, hz]; rfl
  rw [hb, if_neg (by decide), if_neg (by simp; omega), if_pos rfl, decV_dec]
  rw [hd] at hself
  rw [hself]
 ·have hc : pCut (numText q).data.toList = (Lib.decDigits q.num.natAbs, Lib.decDigits q.den, true) := by
   unfold pCut
   rw [htp, if_neg hd]; exact cut_quo _ hD
  have hden : q.den ≠ 0 := q.den_nz
  unfold parseV
  rw [hc, hneg]
  have hb : parseBad (decide (q.num < 0)) true (Lib.decDigits q.num.natAbs) (Lib.decDigits q.den) = false := by
   have e0 : Lib.decDigits q.den ≠ [48] := fun e => hden ((dec_eq_lit (k := 0) (by decide)).1 e)
   have e1 : Lib.decDigits q.den ≠ [49] := fun e => hd ((dec_eq_lit (k := 1) (by decide)).1 e)
   unfold parseBad
   rw [rowB_dec, rowB_dec, hz, beq_eq_false_iff_ne.2 e0, beq_eq_false_iff_ne.2 e1]; rfl
  rw [hb, if_neg (by decide), if_neg (by simp; omega), if_neg (by simp), decV_dec, decV_dec, if_pos q.reduced, hself]
end Go.Proofs.YtajecapgmdfjcaaGreatDoor
