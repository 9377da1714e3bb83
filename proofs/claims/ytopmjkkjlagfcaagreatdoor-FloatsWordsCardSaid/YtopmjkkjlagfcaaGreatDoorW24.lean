/- exact: row of whatever text. -/
import Derived.Test.YtopmjkkjlagfcaaGreatDoorW11
import Derived.Test.YtopmjkkjlagfcaaGreatDoorW19
namespace Go.Proofs.YtopmjkkjlagfcaaGreatDoor
open Go.RowKit Vn
def isDig (b : UInt8) : Bool := decide (48 ≤ b ∧ b ≤ 57)
def rowB (l : List UInt8) : Bool := !(l == []) && l.all isDig && (l == [48] || !(l.head? == some 48))
def digitSet : List UInt8 := [48, 49, 50, 51, 52, 53, 54, 55, 56, 57]
theorem digitSet_mem (b : UInt8) : digitSet.contains b = isDig b := by
 have h : ∀ n : Fin 256, digitSet.contains (UInt8.ofNat n.val) = isDig (UInt8.ofNat n.val) := by decide +kernel
 have := h ⟨b.toNat, b.toNat_lt⟩
 rwa [UInt8.ofNat_toNat] at this
theorem dropWhile_nil {α : Type} (p : α → Bool) : ∀ l : List α, l.dropWhile p = [] ↔ l.all p = true
 | [] => by simp
 | x :: l => by
  rw [List.dropWhile_cons]
  cases h : p x
  ·simp [h]
  ·simp [h, dropWhile_nil p l]
theorem trim_nil (l : List UInt8) : Lib.trimS l digitSet = [] ↔ l.all isDig = true := by
 have e : (fun b => digitSet.contains b) = isDig := funext digitSet_mem
 unfold Lib.trimS Lib.trimLeftS Lib.trimRightS
 rw [e, dropWhile_nil, List.all_reverse]
 constructor
 ·intro h
  have h1 := List.takeWhile_append_dropWhile (p := isDig) (l := l.reverse)
  have h2 : (l.reverse.takeWhile isDig).all isDig = true := by
   rw [List.all_takeWhile]
  have h3 : l.reverse.all isDig = true := by rw [← h1, List.all_append, h2, h]; rfl
  rwa [List.all_reverse] at h3
 ·intro h
  have : l.reverse.dropWhile isDig = [] := by rw [dropWhile_nil, List.all_reverse]; exact h
  rw [this]; rfl
set_option maxRecDepth 100000 in
theorem row_c (S : ByteArray) (w : World) (hs : S.size ≤ 9223372036854775807) :
  Calls Tryz.prog 105 #[.string S] w fun e w' => e = .returned (.bool (rowB S.data.toList)) ∧ Ext w w' := by
 have C : Hid (∀ w, Calls Tryz.prog 160 #[.string S, .string ⟨#[48, 49, 50, 51, 52, 53, 54, 55, 56, 57]⟩] w fun e w' => e = .returned (.string ⟨(Lib.trimS S.data.toList digitSet).toArray⟩) ∧ Ext w w') := hid fun w =>
  Tryz.sTrim S ⟨#[48, 49, 50, 51, 52, 53, 54, 55, 56, 57]⟩ w hs (by decide) (ascii_of_all (by decide))
 have hL : S.toList = S.data.toList := ByteArray.toList_eq S
 by_cases h0 : S.data.toList = []
 ·have e0 : (S.toList == []) = true := by rw [hL, h0]; rfl
  have hr : rowB S.data.toList = false := by rw [h0]; rfl
  rw [hr]
  clear hL h0
  go_enter Tryz.func105, Tryz.ntmps105
  go_wp2_with fail
  refine bodyPost_ret (v := .bool false) (by simp [results, Tryz.results105, go_sem]) rfl ⟨rfl, Below.refl _ _⟩
 ·have e0 : (S.toList == []) = false := by rw [hL]; exact beq_eq_false_iff_ne.2 h0
  obtain ⟨T, hT⟩ : ∃ T : ByteArray, T = ⟨(Lib.trimS S.data.toList digitSet).toArray⟩ := ⟨_, rfl⟩
  have hTL : T.toList = Lib.trimS S.data.toList digitSet := by rw [ByteArray.toList_eq, hT]
  rw [← hT] at C
  by_cases h1 : S.data.toList.all isDig = true
  ·have e1 : (T.toList == []) = true := by rw [hTL, (trim_nil _).2 h1]; rfl
   by_cases h2 : S.data.toList = [48]
   ·have e2 : (S.toList == [48]) = true := by rw [hL, h2]; rfl
    have hr : rowB S.data.toList = true := by rw [h2]; decide
    rw [hr]
    clear hL h0 h1 h2 hT hTL hr
    go_enter Tryz.func105, Tryz.ntmps105
    go_wp2_with (go_at_call 160; refine (C.out _).mono ?_; rintro e w1 ⟨rfl, hE⟩)
    refine bodyPost_ret (v := .bool true) (by simp [results, Tryz.results105, go_sem]) rfl ⟨rfl, hE⟩
   ·have e2 : (S.toList == [48]) = false := by rw [hL]; exact beq_eq_false_iff_ne.2 h2
    obtain ⟨b, l, hbl⟩ := List.exists_cons_of_ne_nil h0
    have hsz : 0 < S.size := by
     show 0 < S.data.toList.length; rw [hbl]; exact Nat.succ_pos _
    have hb : S[0]'hsz = b := by
     have h : 0 < S.data.toList.length := by rw [hbl]; exact Nat.succ_pos _
     have : S.data.toList[0]'h = b := List.getElem_of_eq hbl h
     rw [← this]; rfl
    have hr : rowB S.data.toList = ((b.toNat : Int) != 48) := by
     unfold rowB
     rw [h1, beq_eq_false_iff_ne.2 h0, beq_eq_false_iff_ne.2 h2, hbl]
     simp only [Bool.not_false, Bool.true_and, Bool.false_or, List.head?_cons]
     have e : (b = (48 : UInt8)) ↔ ((b.toNat : Int) = 48) := by
      constructor
      ·intro h; rw [h]; rfl
      ·intro h; exact UInt8.toNat_inj.1 (by show b.toNat = 48; omega)
     by_cases h3 : (b.toNat : Int) = 48
     ·rw [show (some b == some (48 : UInt8)) = true from by rw [e.2 h3]; rfl, show ((b.toNat : Int) != 48) = false from by rw [h3]; rfl]; rfl
     ·rw [show (some b == some (48 : UInt8)) = false from beq_eq_false_iff_ne.2 (fun k => h3 (e.1 (Option.some.inj k))), show ((b.toNat : Int) != 48) = true from bne_iff_ne.2 h3]; rfl
    rw [hr]
    clear hL h0 h1 h2 hT hTL hr hbl
    go_enter Tryz.func105, Tryz.ntmps105
    go_wp2_with (go_at_call 160; refine (C.out _).mono ?_; rintro e w1 ⟨rfl, hE⟩)
    refine bodyPost_ret (v := .bool ((b.toNat : Int) != 48)) (by simp [results, Tryz.results105, go_sem]) rfl ⟨rfl, hE⟩
  ·have e1 : (T.toList == []) = false := by rw [hTL]; exact beq_eq_false_iff_ne.2 (fun h => h1 ((trim_nil _).1 h))
   have hr : rowB S.data.toList = false := by
    unfold rowB
    rw [Bool.eq_false_iff.2 h1]; simp
   rw [hr]
   clear hL h0 h1 hT hTL hr
   go_enter Tryz.func105, Tryz.ntmps105
   go_wp2_with (go_at_call 160; refine (C.out _).mono ?_; rintro e w1 ⟨rfl, hE⟩)
   refine bodyPost_ret (v := .bool false) (by simp [results, Tryz.results105, go_sem]) rfl ⟨rfl, hE⟩
end Go.Proofs.YtopmjkkjlagfcaaGreatDoor
