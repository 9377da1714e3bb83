/- The reference's texts: the parts of whatever text. -/
import Derived.Test.YtajecapgmdfjcaaGreatDoorK47
namespace Go.Proofs.YtajecapgmdfjcaaGreatDoor
open Go.RowKit Vn
set_option maxRecDepth 100000 in
set_option maxHeartbeats 4000000 in
theorem rows_e (l : List UInt8) (X Y : ByteArray) (Z : Bool) (w : World) (HN : Hid (pNeg l = false)) (HR : Hid (RowsR l X Y Z)) (S : ByteArray) (hS : S = ⟨#[]⟩) (HT : Hid (S = ba (Lib.trimPrefix l [45]))) :
  Calls Tryz.prog 130 #[.string S] w fun e w' => e = .returned (.tuple #[.string X, .string Y, .int .i64 (1), .bool Z]) ∧ Ext w w' := by
 subst hS
 obtain ⟨q1, q2, q3⟩ := rows_miss HT.out (fun j hj => by simp at hj)
 have HX := hid (HR.out.1.trans q1)
 have HY := hid (HR.out.2.1.trans (if_neg (by rw [q3]; decide)))
 have HZ := hid (HR.out.2.2.trans (congrArg (!·) (bad_miss HN.out q1 q3)))
 have CU : Hid (∀ w, Calls Tryz.prog 160 #[.string ⟨#[]⟩] w fun e w' => e = .returned (.bool false) ∧ Ext w w') := hid fun w => rrow_c ⟨#[]⟩ w (by decide)
 clear q1 q2 q3 HR HT HN
 go_enter Tryz.func130, Tryz.ntmps130
 go_wp2
 go_loopw [8] (fun i wr => i = .int .i64 0 ∧ Ext w wr) (fun _ _ => 0)
 case atStart => exact ⟨rfl, Below.refl _ _⟩
 case round =>
  obtain ⟨rfl, hE⟩ := hrel
  have HE := hid hE
  clear hE
  go_wp2_with (go_at_call 160; refine (CU.out _).mono ?_; rintro e w1 ⟨rfl, g1⟩)
  rw [HX.out, HY.out, HZ.out]
  refine bodyPost_ret (v := .tuple #[.string ⟨#[]⟩, .string ⟨#[49]⟩, .int .i64 1, .bool false]) (by simp [results, Tryz.results130, go_sem]) rfl ⟨rfl, HE.out.trans g1⟩
set_option maxRecDepth 100000 in
set_option maxHeartbeats 4000000 in
theorem rows_p (l : List UInt8) (X Y : ByteArray) (Z : Bool) (w : World) (HN : Hid (pNeg l = false)) (HR : Hid (RowsR l X Y Z)) (S : ByteArray) (hs : S.size ≤ 9223372036854775807) (h0 : 0 < S.size) (h45 : Hid (S[0]'h0 ≠ 45)) (HT : Hid (S = ba (Lib.trimPrefix l [45]))) :
  Calls Tryz.prog 130 #[.string S] w fun e w' => e = .returned (.tuple #[.string X, .string Y, .int .i64 (1), .bool Z]) ∧ Ext w w' := by
 have mixed : Tryz.prog.follows .mixedOrders = true := by kernel_rfl
 obtain ⟨c, hc⟩ : ∃ c, S[0]'h0 = c := ⟨_, rfl⟩
 have h45' : ((c.toNat : Int) == 45) = false := beq_eq_false_iff_ne.2 (fun e => h45.out (by rw [hc]; exact u8_int.1 e))
 clear h45
 have h00 : decide ((0 : Int) < (S.size : Int)) = true := decide_eq_true (by omega)
 go_enter Tryz.func130, Tryz.ntmps130
 go_wp2
 go_loopw [8] (fun i wr => ∃ k : Nat, i = .int .i64 k ∧ k ≤ S.size ∧ Hid (∀ j (h : j < S.data.toList.length), j < k → S.data.toList[j] ≠ 47) ∧ Ext w wr) (fun i _ => S.size - (intOf i).toNat)
 case atStart => exact ⟨0, by go_num, by omega, hid (fun _ _ h => by omega), Below.refl _ _⟩
 case round =>
  obtain ⟨k, rfl, hk, HD, hE⟩ := hrel
  have HE := hid hE
  clear hE
  rcases Nat.lt_or_ge k S.size with hlt | hge
  ·obtain ⟨b, hb⟩ : ∃ b, S[k]'hlt = b := ⟨_, rfl⟩
   have HB : Hid (S.data.toList[k]'hlt = b) := hid hb
   have h1 : decide ((k : Int) < (S.size : Int)) = true := decide_eq_true (by omega)
   have i1 : (0 : Int) ≤ (k : Int) := by omega
   have i2 : (k : Int) < (S.size : Int) := by omega
   by_cases h2 : (b.toNat : Int) = ((47 : UInt8).toNat : Int)
   ·have h3 : ((b.toNat : Int) == 47) = true := beq_iff_eq.2 h2
    obtain ⟨U, hU⟩ : ∃ U, S.extract 0 k = U := ⟨_, rfl⟩
    obtain ⟨V, hV⟩ : ∃ V, S.extract (k + 1) S.size = V := ⟨_, rfl⟩
    obtain ⟨q1, q2, q3⟩ := rows_hit HT.out hlt HD.out (by rw [HB.out]; exact u8_int.1 h2)
    have zU : U.size ≤ 9223372036854775807 := by rw [← hU, ByteArray.size_extract]; omega
    have zV : V.size ≤ 9223372036854775807 := by rw [← hV, ByteArray.size_extract]; omega
    have HX := hid (HR.out.1.trans (q1.trans hU))
    have HY := hid (HR.out.2.1.trans ((if_pos q3).trans (q2.trans hV)))
    have HZ := hid (HR.out.2.2.trans (congrArg (!·) (bad_hit HN.out (q1.trans hU) (q2.trans hV) q3)))
    have CU : Hid (∀ w, Calls Tryz.prog 160 #[.string U] w fun e w' => e = .returned (.bool (rowB U.data.toList)) ∧ Ext w w') := hid fun w => rrow_c U w zU
    have CV : Hid (∀ w, Calls Tryz.prog 160 #[.string V] w fun e w' => e = .returned (.bool (rowB V.data.toList)) ∧ Ext w w') := hid fun w => rrow_c V w zV
    have hw1 : IntKind.i64.wrap ((k : Int) + 1) = (k : Int) + 1 := IntWalk.i64_in _ (by omega)
    have c1 : (0 : Int) ≤ (k : Int) + 1 := by omega
    have c2 : (k : Int) ≤ (S.size : Int) := by omega
    have c3 : (k : Int) + 1 ≤ (S.size : Int) := by omega
    have eU : (U.toList == [48]) = (U.data.toList == [48]) := by rw [ByteArray.toList_eq]
    have eV : (V.toList == [48]) = (V.data.toList == [48]) := by rw [ByteArray.toList_eq]
    have eV1 : (V.toList == [49]) = (V.data.toList == [49]) := by rw [ByteArray.toList_eq]
    have hd : decide ((0 : Int) < 1) = true := by decide
    clear q1 q2 q3 HD HB HR HT HN zU zV
    generalize rowB U.data.toList = ru at *
    generalize rowB V.data.toList = rv at *
    generalize (U.data.toList == [48]) = u0 at *
    generalize (V.data.toList == [48]) = v0 at *
    generalize (V.data.toList == [49]) = v1 at *
    go_wp2
    go_region_o
    cases ru
    ·go_wp2_with (go_at_call 160; first | (with_reducible refine (CU.out _).mono ?_; rintro e w1 ⟨rfl, g1⟩) | (with_reducible refine (CV.out _).mono ?_; rintro e w2 ⟨rfl, g2⟩))
     rw [HX.out, HY.out, HZ.out]
     refine bodyPost_ret (v := .tuple #[.string U, .string V, .int .i64 (1), .bool false]) (by simp [results, Tryz.results130, go_sem]) rfl ⟨(by first | rfl | simp), HE.out.trans (((Below.refl _ _).drew).trans g1)⟩
    ·cases rv
     ·go_wp2_with (go_at_call 160; first | (with_reducible refine (CU.out _).mono ?_; rintro e w1 ⟨rfl, g1⟩) | (with_reducible refine (CV.out _).mono ?_; rintro e w2 ⟨rfl, g2⟩))
      rw [HX.out, HY.out, HZ.out]
      refine bodyPost_ret (v := .tuple #[.string U, .string V, .int .i64 (1), .bool false]) (by simp [results, Tryz.results130, go_sem]) rfl ⟨(by first | rfl | simp), HE.out.trans (((Below.refl _ _).drew).trans (g1.trans g2))⟩
     ·cases v0
      ·cases v1
       ·cases u0
        ·go_wp2_with (go_at_call 160; first | (with_reducible refine (CU.out _).mono ?_; rintro e w1 ⟨rfl, g1⟩) | (with_reducible refine (CV.out _).mono ?_; rintro e w2 ⟨rfl, g2⟩))
         rw [HX.out, HY.out, HZ.out]
         refine bodyPost_ret (v := .tuple #[.string U, .string V, .int .i64 (1), .bool true]) (by simp [results, Tryz.results130, go_sem]) rfl ⟨(by first | rfl | simp), HE.out.trans (((Below.refl _ _).drew).trans (g1.trans g2))⟩
        ·go_wp2_with (go_at_call 160; first | (with_reducible refine (CU.out _).mono ?_; rintro e w1 ⟨rfl, g1⟩) | (with_reducible refine (CV.out _).mono ?_; rintro e w2 ⟨rfl, g2⟩))
         rw [HX.out, HY.out, HZ.out]
         refine bodyPost_ret (v := .tuple #[.string U, .string V, .int .i64 (1), .bool true]) (by simp [results, Tryz.results130, go_sem]) rfl ⟨(by first | rfl | simp), HE.out.trans (((Below.refl _ _).drew).trans (g1.trans g2))⟩
       ·go_wp2_with (go_at_call 160; first | (with_reducible refine (CU.out _).mono ?_; rintro e w1 ⟨rfl, g1⟩) | (with_reducible refine (CV.out _).mono ?_; rintro e w2 ⟨rfl, g2⟩))
        rw [HX.out, HY.out, HZ.out]
        refine bodyPost_ret (v := .tuple #[.string U, .string V, .int .i64 (1), .bool false]) (by simp [results, Tryz.results130, go_sem]) rfl ⟨(by first | rfl | simp), HE.out.trans (((Below.refl _ _).drew).trans (g1.trans g2))⟩
      ·go_wp2_with (go_at_call 160; first | (with_reducible refine (CU.out _).mono ?_; rintro e w1 ⟨rfl, g1⟩) | (with_reducible refine (CV.out _).mono ?_; rintro e w2 ⟨rfl, g2⟩))
       rw [HX.out, HY.out, HZ.out]
       refine bodyPost_ret (v := .tuple #[.string U, .string V, .int .i64 (1), .bool false]) (by simp [results, Tryz.results130, go_sem]) rfl ⟨(by first | rfl | simp), HE.out.trans (((Below.refl _ _).drew).trans (g1.trans g2))⟩
   ·have h3 : ((b.toNat : Int) == 47) = false := beq_eq_false_iff_ne.2 h2
    have hw1 : IntKind.i64.wrap ((k : Int) + 1) = (k : Int) + 1 := IntWalk.i64_in _ (by omega)
    go_wp2
    go_roundw
    case rel =>
     refine ⟨k + 1, by go_num, by omega, hid fun j h hj => ?_, HE.out⟩
     rcases Nat.lt_or_eq_of_le (Nat.le_of_lt_succ hj) with h' | h'
     ·exact HD.out j h h'
     ·subst h'
      rw [HB.out]; exact fun e => h2 (by rw [e])
    case measure => simp [intOf]; omega
  ·obtain rfl : k = S.size := by omega
   obtain ⟨q1, q2, q3⟩ := rows_miss HT.out (fun j hj => HD.out j hj hj)
   have HX := hid (HR.out.1.trans q1)
   have HY := hid (HR.out.2.1.trans (if_neg (by rw [q3]; decide)))
   have HZ := hid (HR.out.2.2.trans (congrArg (!·) (bad_miss HN.out q1 q3)))
   have CU : Hid (∀ w, Calls Tryz.prog 160 #[.string S] w fun e w' => e = .returned (.bool (rowB S.data.toList)) ∧ Ext w w') := hid fun w => rrow_c S w hs
   have h1 : decide ((S.size : Int) < (S.size : Int)) = false := decide_eq_false (by omega)
   have eU : (S.toList == [48]) = (S.data.toList == [48]) := by rw [ByteArray.toList_eq]
   have hd : decide ((0 : Int) < 1) = true := by decide
   clear q1 q2 q3 HD HR HT HN hge
   generalize rowB S.data.toList = ru at *
   generalize (S.data.toList == [48]) = u0 at *
   cases ru
   ·go_wp2_with (go_at_call 160; refine (CU.out _).mono ?_; rintro e w1 ⟨rfl, g1⟩)
    rw [HX.out, HY.out, HZ.out]
    refine bodyPost_ret (v := .tuple #[.string S, .string ⟨#[49]⟩, .int .i64 (1), .bool false]) (by simp [results, Tryz.results130, go_sem]) rfl ⟨(by first | rfl | simp), HE.out.trans g1⟩
   ·cases u0
    ·go_wp2_with (go_at_call 160; refine (CU.out _).mono ?_; rintro e w1 ⟨rfl, g1⟩)
     rw [HX.out, HY.out, HZ.out]
     refine bodyPost_ret (v := .tuple #[.string S, .string ⟨#[49]⟩, .int .i64 (1), .bool true]) (by simp [results, Tryz.results130, go_sem]) rfl ⟨(by first | rfl | simp), HE.out.trans g1⟩
    ·go_wp2_with (go_at_call 160; refine (CU.out _).mono ?_; rintro e w1 ⟨rfl, g1⟩)
     rw [HX.out, HY.out, HZ.out]
     refine bodyPost_ret (v := .tuple #[.string S, .string ⟨#[49]⟩, .int .i64 (1), .bool true]) (by simp [results, Tryz.results130, go_sem]) rfl ⟨(by first | rfl | simp), HE.out.trans g1⟩
set_option maxRecDepth 100000 in
set_option maxHeartbeats 4000000 in
theorem rows_n (l : List UInt8) (X Y : ByteArray) (Z : Bool) (w : World) (HN : Hid (pNeg l = true)) (HR : Hid (RowsR l X Y Z)) (S T : ByteArray) (hS : S.size ≤ 9223372036854775807) (h0 : 0 < S.size) (h45 : Hid (S[0]'h0 = 45)) (hT : S.extract 1 S.size = T) (HT : Hid (T = ba (Lib.trimPrefix l [45]))) :
  Calls Tryz.prog 130 #[.string S] w fun e w' => e = .returned (.tuple #[.string X, .string Y, .int .i64 (-1), .bool Z]) ∧ Ext w w' := by
 have mixed : Tryz.prog.follows .mixedOrders = true := by kernel_rfl
 obtain ⟨c, hc⟩ : ∃ c, S[0]'h0 = c := ⟨_, rfl⟩
 have h45' : ((c.toNat : Int) == 45) = true := beq_iff_eq.2 (by rw [← hc, h45.out]; rfl)
 have hs : T.size ≤ 9223372036854775807 := by rw [← hT, ByteArray.size_extract]; omega
 have d1 : (1 : Int) ≤ (S.size : Int) := by omega
 clear h45
 have h00 : decide ((0 : Int) < (S.size : Int)) = true := decide_eq_true (by omega)
 go_enter Tryz.func130, Tryz.ntmps130
 go_wp2
 go_loopw [8] (fun i wr => ∃ k : Nat, i = .int .i64 k ∧ k ≤ T.size ∧ Hid (∀ j (h : j < T.data.toList.length), j < k → T.data.toList[j] ≠ 47) ∧ Ext w wr) (fun i _ => T.size - (intOf i).toNat)
 case atStart => exact ⟨0, by go_num, by omega, hid (fun _ _ h => by omega), Below.refl _ _⟩
 case round =>
  obtain ⟨k, rfl, hk, HD, hE⟩ := hrel
  have HE := hid hE
  clear hE
  rcases Nat.lt_or_ge k T.size with hlt | hge
  ·obtain ⟨b, hb⟩ : ∃ b, T[k]'hlt = b := ⟨_, rfl⟩
   have HB : Hid (T.data.toList[k]'hlt = b) := hid hb
   have h1 : decide ((k : Int) < (T.size : Int)) = true := decide_eq_true (by omega)
   have i1 : (0 : Int) ≤ (k : Int) := by omega
   have i2 : (k : Int) < (T.size : Int) := by omega
   by_cases h2 : (b.toNat : Int) = ((47 : UInt8).toNat : Int)
   ·have h3 : ((b.toNat : Int) == 47) = true := beq_iff_eq.2 h2
    obtain ⟨U, hU⟩ : ∃ U, T.extract 0 k = U := ⟨_, rfl⟩
    obtain ⟨V, hV⟩ : ∃ V, T.extract (k + 1) T.size = V := ⟨_, rfl⟩
    obtain ⟨q1, q2, q3⟩ := rows_hit HT.out hlt HD.out (by rw [HB.out]; exact u8_int.1 h2)
    have zU : U.size ≤ 9223372036854775807 := by rw [← hU, ByteArray.size_extract]; omega
    have zV : V.size ≤ 9223372036854775807 := by rw [← hV, ByteArray.size_extract]; omega
    have HX := hid (HR.out.1.trans (q1.trans hU))
    have HY := hid (HR.out.2.1.trans ((if_pos q3).trans (q2.trans hV)))
    have HZ := hid (HR.out.2.2.trans (congrArg (!·) (bad_hit HN.out (q1.trans hU) (q2.trans hV) q3)))
    have CU : Hid (∀ w, Calls Tryz.prog 160 #[.string U] w fun e w' => e = .returned (.bool (rowB U.data.toList)) ∧ Ext w w') := hid fun w => rrow_c U w zU
    have CV : Hid (∀ w, Calls Tryz.prog 160 #[.string V] w fun e w' => e = .returned (.bool (rowB V.data.toList)) ∧ Ext w w') := hid fun w => rrow_c V w zV
    have hw1 : IntKind.i64.wrap ((k : Int) + 1) = (k : Int) + 1 := IntWalk.i64_in _ (by omega)
    have c1 : (0 : Int) ≤ (k : Int) + 1 := by omega
    have c2 : (k : Int) ≤ (T.size : Int) := by omega
    have c3 : (k : Int) + 1 ≤ (T.size : Int) := by omega
    have eU : (U.toList == [48]) = (U.data.toList == [48]) := by rw [ByteArray.toList_eq]
    have eV : (V.toList == [48]) = (V.data.toList == [48]) := by rw [ByteArray.toList_eq]
    have eV1 : (V.toList == [49]) = (V.data.toList == [49]) := by rw [ByteArray.toList_eq]
    have hd : decide ((0 : Int) < -1) = false := by decide
    clear q1 q2 q3 HD HB HR HT HN zU zV
    generalize rowB U.data.toList = ru at *
    generalize rowB V.data.toList = rv at *
    generalize (U.data.toList == [48]) = u0 at *
    generalize (V.data.toList == [48]) = v0 at *
    generalize (V.data.toList == [49]) = v1 at *
    go_wp2
    go_region_o
    cases ru
    ·go_wp2_with (go_at_call 160; first | (with_reducible refine (CU.out _).mono ?_; rintro e w1 ⟨rfl, g1⟩) | (with_reducible refine (CV.out _).mono ?_; rintro e w2 ⟨rfl, g2⟩))
     rw [HX.out, HY.out, HZ.out]
     refine bodyPost_ret (v := .tuple #[.string U, .string V, .int .i64 (-1), .bool false]) (by simp [results, Tryz.results130, go_sem]) rfl ⟨(by first | rfl | simp), HE.out.trans (((Below.refl _ _).drew).trans g1)⟩
    ·cases rv
     ·go_wp2_with (go_at_call 160; first | (with_reducible refine (CU.out _).mono ?_; rintro e w1 ⟨rfl, g1⟩) | (with_reducible refine (CV.out _).mono ?_; rintro e w2 ⟨rfl, g2⟩))
      rw [HX.out, HY.out, HZ.out]
      refine bodyPost_ret (v := .tuple #[.string U, .string V, .int .i64 (-1), .bool false]) (by simp [results, Tryz.results130, go_sem]) rfl ⟨(by first | rfl | simp), HE.out.trans (((Below.refl _ _).drew).trans (g1.trans g2))⟩
     ·cases v0
      ·cases v1
       ·cases u0
        ·go_wp2_with (go_at_call 160; first | (with_reducible refine (CU.out _).mono ?_; rintro e w1 ⟨rfl, g1⟩) | (with_reducible refine (CV.out _).mono ?_; rintro e w2 ⟨rfl, g2⟩))
         rw [HX.out, HY.out, HZ.out]
         refine bodyPost_ret (v := .tuple #[.string U, .string V, .int .i64 (-1), .bool true]) (by simp [results, Tryz.results130, go_sem]) rfl ⟨(by first | rfl | simp), HE.out.trans (((Below.refl _ _).drew).trans (g1.trans g2))⟩
        ·go_wp2_with (go_at_call 160; first | (with_reducible refine (CU.out _).mono ?_; rintro e w1 ⟨rfl, g1⟩) | (with_reducible refine (CV.out _).mono ?_; rintro e w2 ⟨rfl, g2⟩))
         rw [HX.out, HY.out, HZ.out]
         refine bodyPost_ret (v := .tuple #[.string U, .string V, .int .i64 (-1), .bool false]) (by simp [results, Tryz.results130, go_sem]) rfl ⟨(by first | rfl | simp), HE.out.trans (((Below.refl _ _).drew).trans (g1.trans g2))⟩
       ·go_wp2_with (go_at_call 160; first | (with_reducible refine (CU.out _).mono ?_; rintro e w1 ⟨rfl, g1⟩) | (with_reducible refine (CV.out _).mono ?_; rintro e w2 ⟨rfl, g2⟩))
        rw [HX.out, HY.out, HZ.out]
        refine bodyPost_ret (v := .tuple #[.string U, .string V, .int .i64 (-1), .bool false]) (by simp [results, Tryz.results130, go_sem]) rfl ⟨(by first | rfl | simp), HE.out.trans (((Below.refl _ _).drew).trans (g1.trans g2))⟩
      ·go_wp2_with (go_at_call 160; first | (with_reducible refine (CU.out _).mono ?_; rintro e w1 ⟨rfl, g1⟩) | (with_reducible refine (CV.out _).mono ?_; rintro e w2 ⟨rfl, g2⟩))
       rw [HX.out, HY.out, HZ.out]
       refine bodyPost_ret (v := .tuple #[.string U, .string V, .int .i64 (-1), .bool false]) (by simp [results, Tryz.results130, go_sem]) rfl ⟨(by first | rfl | simp), HE.out.trans (((Below.refl _ _).drew).trans (g1.trans g2))⟩
   ·have h3 : ((b.toNat : Int) == 47) = false := beq_eq_false_iff_ne.2 h2
    have hw1 : IntKind.i64.wrap ((k : Int) + 1) = (k : Int) + 1 := IntWalk.i64_in _ (by omega)
    go_wp2
    go_roundw
    case rel =>
     refine ⟨k + 1, by go_num, by omega, hid fun j h hj => ?_, HE.out⟩
     rcases Nat.lt_or_eq_of_le (Nat.le_of_lt_succ hj) with h' | h'
     ·exact HD.out j h h'
     ·subst h'
      rw [HB.out]; exact fun e => h2 (by rw [e])
    case measure => simp [intOf]; omega
  ·obtain rfl : k = T.size := by omega
   obtain ⟨q1, q2, q3⟩ := rows_miss HT.out (fun j hj => HD.out j hj hj)
   have HX := hid (HR.out.1.trans q1)
   have HY := hid (HR.out.2.1.trans (if_neg (by rw [q3]; decide)))
   have HZ := hid (HR.out.2.2.trans (congrArg (!·) (bad_miss HN.out q1 q3)))
   have CU : Hid (∀ w, Calls Tryz.prog 160 #[.string T] w fun e w' => e = .returned (.bool (rowB T.data.toList)) ∧ Ext w w') := hid fun w => rrow_c T w hs
   have h1 : decide ((T.size : Int) < (T.size : Int)) = false := decide_eq_false (by omega)
   have eU : (T.toList == [48]) = (T.data.toList == [48]) := by rw [ByteArray.toList_eq]
   have hd : decide ((0 : Int) < -1) = false := by decide
   clear q1 q2 q3 HD HR HT HN hge
   generalize rowB T.data.toList = ru at *
   generalize (T.data.toList == [48]) = u0 at *
   cases ru
   ·go_wp2_with (go_at_call 160; refine (CU.out _).mono ?_; rintro e w1 ⟨rfl, g1⟩)
    rw [HX.out, HY.out, HZ.out]
    refine bodyPost_ret (v := .tuple #[.string T, .string ⟨#[49]⟩, .int .i64 (-1), .bool false]) (by simp [results, Tryz.results130, go_sem]) rfl ⟨(by first | rfl | simp), HE.out.trans g1⟩
   ·cases u0
    ·go_wp2_with (go_at_call 160; refine (CU.out _).mono ?_; rintro e w1 ⟨rfl, g1⟩)
     rw [HX.out, HY.out, HZ.out]
     refine bodyPost_ret (v := .tuple #[.string T, .string ⟨#[49]⟩, .int .i64 (-1), .bool true]) (by simp [results, Tryz.results130, go_sem]) rfl ⟨(by first | rfl | simp), HE.out.trans g1⟩
    ·go_wp2_with (go_at_call 160; refine (CU.out _).mono ?_; rintro e w1 ⟨rfl, g1⟩)
     rw [HX.out, HY.out, HZ.out]
     refine bodyPost_ret (v := .tuple #[.string T, .string ⟨#[49]⟩, .int .i64 (-1), .bool false]) (by simp [results, Tryz.results130, go_sem]) rfl ⟨(by first | rfl | simp), HE.out.trans g1⟩
theorem rrows_c (l : List UInt8) (X Y : ByteArray) (Z : Bool) (w : World) (hl : l.length ≤ 9223372036854775807) (HR : RowsR l X Y Z) :
  Calls Tryz.prog 130 #[.string (ba l)] w fun e w' => e = .returned (.tuple #[.string X, .string Y, .int .i64 (if pNeg l = true then -1 else 1), .bool Z]) ∧ Ext w w' := by
 have hz : (ba l).size ≤ 9223372036854775807 := by rw [ba_size]; exact hl
 match l, hl, HR, hz with
 | [], _, HR, _ => exact rows_e [] X Y Z w (hid rfl) (hid HR) (ba []) rfl (hid rfl)
 | b :: l, _, HR, hz =>
  have h0 : 0 < (ba (b :: l)).size := by rw [ba_size]; simp
  have hb : (ba (b :: l))[0]'h0 = b := rfl
  by_cases h : b = 45
  ·have hn : pNeg (b :: l) = true := by subst h; rfl
   rw [if_pos hn]
   refine rows_n (b :: l) X Y Z w (hid hn) (hid HR) (ba (b :: l)) _ hz h0 (hid (hb.trans h)) rfl (hid ?_)
   subst h
   exact bytes_ext (by
    show ((ba (45 :: l)).extract 1 (ba (45 :: l)).size).data.toList = l
    rw [ByteArray.data_extract, ba_size]
    show ((45 :: l).toArray.extract 1 (45 :: l).length).toList = l
    simp)
  ·have hn : pNeg (b :: l) = false := by
    show [45].isPrefixOf (b :: l) = false
    simp only [List.isPrefixOf, Bool.and_true]
    exact beq_eq_false_iff_ne.2 (fun e => h e.symm)
   rw [if_neg (by rw [hn]; decide)]
   refine rows_p (b :: l) X Y Z w (hid hn) (hid HR) (ba (b :: l)) hz h0 (hid (by rw [hb]; exact h)) (hid ?_)
   show _ = ba (if Lib.hasPrefix (b :: l) [45] = true then _ else _)
   rw [if_neg (by show ¬ pNeg (b :: l) = true; rw [hn]; decide)]
end Go.Proofs.YtajecapgmdfjcaaGreatDoor
