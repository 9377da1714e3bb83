/- The reference's texts: nine, nine decimal digits. -/
import Derived.Laws.IdiomStrings
import Derived.Test.YtajecapgmdfjcaaGreatDoorK33
import Derived.Test.YtajecapgmdfjcaaGreatDoorK22
namespace Go.Proofs.YtajecapgmdfjcaaGreatDoor
open Go.RowKit Vn
theorem conv1 (W : World) (g : Nat) (z : Int) (b : UInt8) (hz : z = (b.toNat : Int)) (h : W.cell? ⟨g, 0, none⟩ = some (.int .u8 z)) : (convert 108 9 (.slice (some ⟨g, 0, none⟩) 1 1)).run Tryz.prog W = .ok (.string (ba [b])) W := by
 refine run_convert_bytes_back (P := Tryz.prog) W 108 9 5 ⟨g, 0, none⟩ 1 [b] Tryz.underlying108 Tryz.underlying5 Tryz.underlying9 (fun j hj => ?_)
 obtain rfl : j = 0 := by simp at hj; exact hj
 rw [hz] at h; exact h
theorem u8_wrap (b : UInt8) : IntKind.u8.wrap (b.toNat : Int) = (b.toNat : Int) := by
 have := b.toNat_lt
 unfold IntKind.wrap
 simp [IntKind.signed, IntKind.bits]
 omega
theorem ba_add (a b : List UInt8) : ba a ++ ba b = ba (a ++ b) := by
 apply ByteArray.ext
 simp [ba]
set_option maxRecDepth 100000 in
set_option maxHeartbeats 4000000 in
theorem rnine_c (n : Nat) (w : World) (hn : n < 1000000000) :
  Calls Tryz.prog 195 #[.int .i64 (n : Nat)] w fun e w' => e = .returned (.string (ba (padk 9 n))) ∧ Ext w w' := by
 have HN := hid hn
 clear hn
 go_enter Tryz.func195, Tryz.ntmps195
 go_wp2_with fail
 go_loopw [0, 3, 4] (fun m s i wr => ∃ k D : Nat, m = .int .i64 (D : Nat) ∧ s = .string (ba (padk k n)) ∧ i = .int .i64 (k : Nat) ∧ k ≤ 9 ∧ D < 1000000000 ∧ Hid (D = n / 10 ^ k) ∧ Ext w wr) (fun _ _ i _ => 9 - (intOf i).toNat)
 case atStart => exact ⟨0, n, rfl, rfl, rfl, by omega, HN.out, hid (by simp), Below.refl _ _⟩
 case round =>
  obtain ⟨k, D, rfl, rfl, rfl, hk, hD, HD, hE⟩ := hrel
  have HE := hid hE
  clear hE
  have hsz := HE.out.size
  obtain ⟨S, hS⟩ : ∃ S, S = ba (padk k n) := ⟨_, rfl⟩
  rw [← hS]
  have hss : S.size = k := by rw [hS, ba_size, padk_len]
  have HS := hid hS
  clear hS
  rcases Nat.lt_or_ge k 9 with hlt | hge
  ·have h1 : decide ((k : Int) < 9) = true := decide_eq_true (by omega)
   obtain ⟨b, hb⟩ : ∃ b, b = UInt8.ofNat (48 + n / 10 ^ k % 10) := ⟨_, rfl⟩
   have hbn : (b.toNat : Int) = 48 + (D : Int) % 10 := by
    rw [hb, ← HD.out, UInt8.toNat_ofNat']; omega
   obtain ⟨U, hU⟩ : ∃ U, U = ba [b] := ⟨_, rfl⟩
   have hcv : ∀ W, W.cell? ⟨wr.heap.size, 0, none⟩ = some (.int .u8 (48 + (D : Int) % 10)) → (convert 108 9 (.slice (some ⟨wr.heap.size, 0, none⟩) 1 1)).run Tryz.prog W = .ok (.string U) W := fun W h => by
    rw [hU]; exact conv1 W wr.heap.size _ b hbn.symm h
   have hw1 : IntKind.i64.wrap ((k : Int) + 1) = (k : Int) + 1 := IntWalk.i64_in _ (by omega)
   have hw2 : IntKind.i64.wrap (48 + (D : Int) % 10) = 48 + (D : Int) % 10 := IntWalk.i64_in _ (by omega)
   have hw3 : IntKind.u8.wrap (48 + (D : Int) % 10) = 48 + (D : Int) % 10 := by
    rw [← hbn]; exact u8_wrap b
   have huz : U.size = 1 := by rw [hU]; rfl
   have hcap : (9223372036854775807 < 1 + k) = False := by simp; omega
   have HR : Hid (U ++ S = ba (padk (k + 1) n)) := hid (by rw [hU, HS.out, ba_add, padk_front, ← hb]; rfl)
   have HD2 : Hid (D / 10 = n / 10 ^ (k + 1)) := hid (by rw [HD.out, Nat.pow_succ, Nat.div_div_eq_div_mul])
   clear hb hbn hU
   go_wp2_with fail
   go_roundw
   case rel => exact ⟨k + 1, D / 10, by go_num, by rw [HR.out], by go_num, by omega, by omega, HD2, HE.out.trans (Below.alloc (Below.refl _ wr) (Nat.le_refl _) _)⟩
   case measure => simp [intOf]; omega
  ·obtain rfl : k = 9 := by omega
   have h1 : decide (((9 : Nat) : Int) < 9) = false := by decide
   go_wp2_with fail
   refine bodyPost_ret (v := .string S) (by simp [results, Tryz.results195, go_sem]) rfl ⟨by rw [HS.out], HE.out⟩
end Go.Proofs.YtajecapgmdfjcaaGreatDoor
