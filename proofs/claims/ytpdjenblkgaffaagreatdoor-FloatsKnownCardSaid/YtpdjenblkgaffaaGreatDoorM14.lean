/- Natural numbers in words of 32 bits: bits returns how many binary digits there are. -/
import Derived.Test.YtpdjenblkgaffaaGreatDoorM10
import Derived.Test.YtpdjenblkgaffaaGreatDoorM11
namespace Go.Proofs.YtpdjenblkgaffaaGreatDoor
open Go.RowKit Vn

theorem ret_int {k : IntKind} {a b : Int} (h : a = b) : Ending.returned (.int k a) = .returned (.int k b) := by rw [h]

set_option maxHeartbeats 400000 in
theorem bits_core (aa : Option Addr) (ba oa ca n d : Nat) (w : World) (hn0 : 0 < n) (hn : n ≤ 100000000) (hd : d < 4294967296) (Hax : Hid (0 < n → aa = some ⟨ba, oa, none⟩)) (hcell : w.cell? ⟨ba, oa + (n - 1), none⟩ = some (.int .u32 d)) :
   Calls Tryz.prog 120 #[.slice aa n ca] w fun e w' => e = .returned (.int .i64 ((32 * (n - 1) + bl d : Nat) : Int)) ∧ Ext w w' := by
  obtain rfl := Hax.out (by omega)
  have hb : bl d ≤ 32 := bl_le_of_lt hd
  have hne : ((n : Int) == 0) = false := by simp; omega
  go_enter Tryz.func120, Tryz.ntmps120
  go_wp2_with fail
  refine (len32_c d _ hd).mono ?_
  rintro e w1 ⟨rfl, hb1⟩
  obtain ⟨z, hz⟩ : ∃ z, z = bl d := ⟨_, rfl⟩
  rw [← hz] at hb ⊢
  have Hz := hid hz
  clear hz
  go_wp2_with fail
  go_ret
  exact ⟨ret_int (by have := Hz.out; omega), hb1⟩

set_option maxHeartbeats 400000 in
theorem bits_nil (aa : Option Addr) (ca : Nat) (w : World) : Calls Tryz.prog 120 #[.slice aa 0 ca] w fun e w' => e = .returned (.int .i64 0) ∧ Ext w w' := by
  go_enter Tryz.func120, Tryz.ntmps120
  go_wp2
  go_ret
  exact ⟨rfl, Below.refl _ _⟩

theorem bits_c (x : Value) (M K : Nat) (w : World) (hx : NatV w x M) (sx : Sm K M) (hK : K ≤ 50000000) :
   Calls Tryz.prog 120 #[x] w fun e w' => e = .returned (.int .i64 (bl M)) ∧ Ext w w' := by
  obtain ⟨a, b, off, n, cap, l, rfl, h1, h2, h3, h4, h5, h6, h7, h8⟩ := hx.open
  have e1 := sx.len h5.out h6.out
  rw [h3.out] at e1
  rcases Nat.eq_zero_or_pos n with h0 | h0
  · subst h0
    have hl : l = [] := List.eq_nil_of_length_eq_zero h3.out
    have hM : M = 0 := by rw [← h6.out, hl]; rfl
    subst hM
    exact bits_nil a cap w
  · refine (bits_core a b off cap n (l.getD (n - 1) 0) w h0 (by omega) (h5.out.dig.get (by decide) _) h4 (h7.out (n - 1) (by omega))).mono ?_
    rintro e w' ⟨rfl, hb⟩
    refine ⟨?_, hb⟩
    have hd : 0 < l.getD (n - 1) 0 := by
      rcases h5.out.trim with h | h
      · have := h3.out; rw [h] at this; simp at this; omega
      · rwa [h3.out] at h
    have ht := dv_top1 4294967296 l (n - 1) (by rw [h3.out]; omega)
    rw [h6.out] at ht
    have hlow := Vn.dv_lt (B := 4294967296) (by decide) (h5.out.dig.take (n - 1))
    rw [List.length_take, h3.out, Nat.min_eq_left (by omega)] at hlow
    rw [bl_words hd hlow ht]
end Go.Proofs.YtpdjenblkgaffaaGreatDoor
