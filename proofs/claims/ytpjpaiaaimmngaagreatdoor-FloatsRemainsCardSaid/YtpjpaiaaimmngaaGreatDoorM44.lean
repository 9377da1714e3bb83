/- exact: the text of a number below 100. -/
import Derived.Laws.AppendOwn
import Derived.Maps.AppendAt
import Derived.RangeFuncBox
import Derived.Test.YtpjpaiaaimmngaaGreatDoorM13
import Derived.Test.YtpjpaiaaimmngaaGreatDoorM07
import Derived.Test.YtpjpaiaaimmngaaGreatDoorM16
import Derived.Test.YtpjpaiaaimmngaaGreatDoorM43
import Derived.Test.YtpjpaiaaimmngaaGreatDoorM25
import Derived.Test.YtpjpaiaaimmngaaGreatDoorM28
namespace Go.Proofs.YtpjpaiaaimmngaaGreatDoor
open Go.RowKit Vn

theorem infoStr : (Tryz.prog.info? 9).map (fun i => (i.zero, i.size, i.bytes)) = some (some (.string ByteArray.empty), 1, 16) := by kernel_rfl

/-- how many rounds are left. -/
def textM : Value → Nat
  | .slice none _ _ => 1
  | _ => 0
/-- the first loop's state: at the start, and behind its one round. -/
def TextA (w : World) (x : Value) (n : Nat) (t : Value) (p : Value) (wr : World) : Prop :=
  Ext w wr ∧ ((t = x ∧ p = .slice none 0 0 ∧ NatV wr x n) ∨ (∃ a c, t = .slice a 0 c ∧ wr.ownsRow w.heap.size 9 1 p 1 [.string ⟨(Lib.decDigits n).toArray⟩]))
/-- the second loop's state. -/
def TextB (w : World) (b : Nat) (n : Nat) (i : Value) (wr : World) : Prop :=
  Ext w wr ∧ ((i = .int .i64 0 ∧ Lib.IsBuilderF 131 5 w.heap.size b [] wr) ∨ (i = .int .i64 (-1) ∧ Lib.IsBuilderF 131 5 w.heap.size b (Lib.byteCells (Lib.decDigits n)) wr))

theorem decShort (n : Nat) (h : n < 100) : (Lib.decDigits n).length ≤ 2 ∧ Lib.decDigits n ≠ [] := by
  rw [Lib.decDigits]
  split
  · simp
  · rw [Lib.decDigits, dif_pos (by omega)]; simp
theorem decLen (n : Nat) (h : n < 100) : (Lib.decDigits n).length ≤ 2 := (decShort n h).1
theorem decNe (n : Nat) (h : n < 100) : Lib.decDigits n ≠ [] := (decShort n h).2
theorem dar_size (l : List UInt8) : (ByteArray.mk l.toArray).size = l.length := by simp [ByteArray.size]
theorem ownsRow_one {W : World} {base : Nat} {e : TypeId} {size : Nat} {v : Value} {xs : List Value} (h : W.ownsRow base e size v 1 xs) : ∃ g cap, v = .slice (some ⟨g, 0, none⟩) 1 cap := ownsRow_succ h
theorem strCell {w : World} {base g cap : Nat} {e : TypeId} {s : Value} (h : w.ownsRow base e 1 (.slice (some ⟨g, 0, none⟩) 1 cap) 1 [s]) : w.cell? ⟨g, 0, none⟩ = some s := by
  rcases h.2 with ⟨_, h0⟩ | ⟨g', cap', cur, h1, h2, h3, h4, h5, h6, h7⟩
  · omega
  · cases h1
    have : cur[0]? = some s := by
      rw [← Array.getElem?_toList]
      have h8 : (cur.toList.take (1 * 1))[0]? = [s][0]? := by rw [h7]
      simpa using h8
    simp [World.cell?, h3, this]
set_option maxRecDepth 100000 in
set_option maxHeartbeats 4000000 in
theorem text_c (x : Value) (n : Nat) (w : World) (hx : NatV w x n) (h0 : 0 < n) (hn : n < 100) :
   Calls Tryz.prog 59 #[x] w fun e w' => e = .returned (.string ⟨(Lib.decDigits n).toArray⟩) ∧ Ext w w' := by
  obtain ⟨i0, hi, hz0, hz1, hz2⟩ := info_parts infoStr
  obtain ⟨a, k, c, rfl⟩ := hx.shape
  have hk : 0 < k := by have := hx.len0; omega
  have hk2 : ((k : Nat) : Int) ≠ 0 := by omega
  have hk3 : (0 : Int) < (k : Nat) := by omega
  have hkb : (((k : Nat) : Int) == 0) = false := by simp; omega
  have HX := hid hx
  have CS : Hid (∀ w, NatV w (.slice a k c) n → Calls Tryz.prog 78 #[.slice a k c, .int .u32 1000000000] w fun e w' => ∃ a1 c1, e = .returned (.tuple #[.slice a1 0 c1, .int .u32 (n : Nat)]) ∧ Ext w w') := hid fun w h =>
    (small_c _ n 100 1000000000 w h (Nat.lt_of_lt_of_le hn (by decide)) (by decide) (by decide) (by decide)).mono fun e w' ⟨a1, k1, c1, h1, h2, h3⟩ => by
      rw [Nat.div_eq_of_lt (by omega)] at h2
      rw [Nat.mod_eq_of_lt (by omega)] at h1
      obtain rfl := h2.len0.2 rfl
      exact ⟨a1, c1, h1, h3⟩
  have w1n : IntKind.u64.wrap (n : Int) = n := IntWalk.u64_in _ (by omega)
  go_enter Tryz.func59, Tryz.ntmps59
  go_wp2_with fail
  go_loopw [0, 3] (fun t p wr => TextA w (.slice a k c) n t p wr) (fun _ p _ => textM p)
  case atStart => exact ⟨Below.refl _ _, .inl ⟨rfl, rfl, hx⟩⟩
  case round =>
    obtain ⟨hE, (⟨rfl, rfl, hX⟩ | ⟨a', c', rfl, hown⟩)⟩ := hrel
    · go_wp2_with (first
        | (go_at_call 78; (with_reducible refine (CS.out _ hX).mono ?_); rintro e w1 ⟨a1, c1, rfl, g1⟩; have hz1' := g1.size; have hz0' := hE.size)
        | (go_at_call 92; (with_reducible refine (fmt_c n _ hn).mono ?_); rintro e w2 ⟨rfl, rfl⟩)
        | (at_builtin; refine wpList_append_own _ rfl _ _ 125 rfl w.heap.size 9 i0 (.string ByteArray.empty) 1 16 Tryz.underlying125 hi hz0 hz1 hz2 rfl (by decide) _ _ _ rfl (World.ownsRow_nil _ _ _ _) ⟨w2.heap.size, 0, none⟩ 1 1 [.string ⟨(Lib.decDigits n).toArray⟩] rfl rfl (cell_one_new _ _ _) (fun x hx => by simp at hx; subst hx; rfl) (by unfold maxLen; omega) (by omega) (by simp; omega) ?_; intro v' w3 hown' hgrow3 hnil3; obtain ⟨g', cap', rfl⟩ := ownsRow_succ hown'))
      go_roundw
      case rel => exact ⟨Ext.trans hE (Ext.trans g1 (((Below.refl _ w2).alloc (Nat.le_refl _) _).grown hgrow3 (by simp) (fun k hk => by cases hk))), .inr ⟨_, _, rfl, by simpa using hown'⟩⟩
      case measure => exact Nat.zero_lt_one
    · obtain ⟨g', cap', rfl⟩ := ownsRow_one hown
      have hc := strCell hown
      have hz0 := hE.size
      go_wp2_with fail
      go_loopw [8] (fun i wq => TextB wr wr.heap.size n i wq) (fun i _ => (intOf i + 1).toNat)
      case atStart => exact ⟨Ext.alloc wr _, .inl ⟨rfl, .inl ⟨Nat.le_refl _, _, Box.new wr _ _, ⟨rfl, .inl ⟨rfl, rfl⟩⟩, by simp [Value.ownBlock]⟩⟩⟩
      case round =>
        obtain ⟨hE2, (⟨rfl, hb⟩ | ⟨rfl, hb⟩)⟩ := hrel
        · have hc2 := hE2.cell hc
          have hz1 := hE2.size
          go_wp2_with (go_at_call 94; refine (Tryz.WriteString _ _ [] ⟨(Lib.decDigits n).toArray⟩ _ hb (by have := decLen n hn; rw [dar_size]; simp; omega) hz1).mono ?_; rintro e w5 ⟨rfl, hB5, g5, _⟩)
          go_roundw
          case rel => exact ⟨Below.trans hE2 g5, .inr ⟨by go_num, .inr (by simpa [Lib.strCells, Lib.byteCells] using hB5)⟩⟩
          case measure => simp [intOf]
        · go_wp2_with (go_at_call 95; refine (Tryz.BString _ _ (Lib.decDigits n) _ hb (decNe n hn)).mono ?_; rintro e w5 ⟨rfl, g5⟩)
          refine bodyPost_ret (v := .string ⟨(Lib.decDigits n).toArray⟩) (by simp [results, Tryz.results59, go_sem]) rfl ⟨rfl, Ext.trans hE (Below.trans hE2 g5)⟩
end Go.Proofs.YtpjpaiaaimmngaaGreatDoor

/- exact: the text of a small number. -/
namespace Go.Proofs.YtpjpaiaaimmngaaGreatDoor
open Go.RowKit Vn

theorem dec1 (n : Nat) (h : n < 10) : Lib.decDigits n = [UInt8.ofNat (48 + n)] := by rw [Lib.decDigits, dif_pos h]
theorem cat3 (a b c : UInt8) : ByteArray.mk #[a] ++ (ByteArray.mk #[b] ++ ByteArray.mk #[c]) = ⟨#[a, b, c]⟩ := by
  apply ByteArray.ext; simp [ByteArray.data_append]
theorem text1_c (x : Value) (n : Nat) (w : World) (hx : NatV w x n) (h0 : 0 < n) (hn : n < 10) :
   Calls Tryz.prog 59 #[x] w fun e w' => e = .returned (.string ⟨#[UInt8.ofNat (48 + n)]⟩) ∧ Ext w w' :=
  (text_c x n w hx h0 (by omega)).mono fun e w' ⟨h1, h2⟩ => ⟨h1.trans (by rw [dec1 n hn]), h2⟩

set_option maxRecDepth 100000 in
set_option maxHeartbeats 4000000 in
theorem Text_whole (v : Value) (q : Rat) (n : Nat) (w : World) (hv : NumV w v q) (hq : q = n) (h0 : 0 < n) (hn : n < 10) :
   Calls Tryz.prog 30 #[v] w fun e w' => e = .returned (.string ⟨#[UInt8.ofNat (48 + n)]⟩) ∧ Ext w w' := by
  obtain ⟨a, k, c, a', k', c', rfl, h1, h2⟩ := hv
  subst hq
  have e1 : (n : Rat).num = n := rfl
  have e2 : (n : Rat).den = 1 := rfl
  rw [e1] at h1 ⊢
  rw [Int.natAbs_natCast] at h1
  have e3 : decide ((n : Int) < 0) = false := by simp
  rw [e3]
  rcases h2 with ⟨_, rfl, rfl, rfl⟩ | ⟨h2, _⟩
  all_goals try exact absurd e2 h2
  have k1 := h1
  clear e1 e2 e3
  obtain ⟨W0, hW0, g0, hz0, B_X⟩ := pro1 w #[.bool false, .slice a k c, .slice none 0 0] 32
  have HE := hid g0
  have HB_X := hid B_X
  clear g0 B_X 
  go_enter Tryz.func30, Tryz.ntmps30
  go_wp2_with fail
  rw [← hW0]
  clear hW0
  replace k1 := k1.ext HE.out
  refine (text1_c _ n _ k1 h0 hn).mono ?_
  rintro e w1 ⟨rfl, g1⟩
  have hz_w1 := g1.size
  replace HE := hid (HE.out.trans g1)
  replace HB_X := hid (HB_X.out.ext g1)
  replace k1 := k1.ext g1
  obtain ⟨c_1, c_2, c_3⟩ := HB_X.out.c3
  go_wp2_with fail
  clear c_1 c_2 c_3
  refine bodyPost_ret (v := .string ⟨#[UInt8.ofNat (48 + n)]⟩) (by simp [results, Tryz.results30, go_sem]) rfl ⟨rfl, HE.out⟩
set_option maxRecDepth 100000 in
set_option maxHeartbeats 4000000 in
theorem Text_quo (v : Value) (q : Rat) (n d : Nat) (w : World) (hv : NumV w v q) (hq1 : q.num = n) (hq2 : q.den = d) (h0 : 0 < n) (hn : n < 10) (hd0 : 1 < d) (hd : d < 10) :
   Calls Tryz.prog 30 #[v] w fun e w' => e = .returned (.string ⟨#[UInt8.ofNat (48 + n), 47, UInt8.ofNat (48 + d)]⟩) ∧ Ext w w' := by
  obtain ⟨a, k, c, a', k', c', rfl, h1, h2⟩ := hv
  rw [hq1] at h1 ⊢
  rw [hq2] at h2
  rw [Int.natAbs_natCast] at h1
  have e3 : decide ((n : Int) < 0) = false := by simp
  rw [e3]
  rcases h2 with ⟨h2, _⟩ | ⟨_, h2, h3⟩
  · omega
  obtain ⟨ad, rfl⟩ := Option.isSome_iff_exists.1 h2
  have k1 := h1
  have k2 := h3
  clear e3 hq1 hq2
  obtain ⟨W0, hW0, g0, hz0, B_X⟩ := pro1 w #[.bool false, .slice a k c, .slice (some ad) k' c'] 32
  have HE := hid g0
  have HB_X := hid B_X
  clear g0 B_X 
  go_enter Tryz.func30, Tryz.ntmps30
  go_wp2_with fail
  rw [← hW0]
  clear hW0
  replace k1 := k1.ext HE.out
  replace k2 := k2.ext HE.out
  refine (text1_c _ n _ k1 h0 hn).mono ?_
  rintro e w1 ⟨rfl, g1⟩
  have hz_w1 := g1.size
  replace HE := hid (HE.out.trans g1)
  replace HB_X := hid (HB_X.out.ext g1)
  replace k1 := k1.ext g1
  replace k2 := k2.ext g1
  obtain ⟨c_1, c_2, c_3⟩ := HB_X.out.c3
  go_wp2_with fail
  clear c_1 c_2 c_3
  refine (text1_c _ d _ k2 (by omega) hd).mono ?_
  rintro e w2 ⟨rfl, g2⟩
  have hz_w2 := g2.size
  replace HE := hid (HE.out.trans g2)
  replace HB_X := hid (HB_X.out.ext g2)
  replace k1 := k1.ext g2
  replace k2 := k2.ext g2
  obtain ⟨c_4, c_5, c_6⟩ := HB_X.out.c3
  go_wp2_with fail
  clear c_4 c_5 c_6
  refine bodyPost_ret (v := .string ⟨#[UInt8.ofNat (48 + n), 47, UInt8.ofNat (48 + d)]⟩) (by simp [results, Tryz.results30, go_sem, cat3]) rfl ⟨rfl, HE.out⟩
end Go.Proofs.YtpjpaiaaimmngaaGreatDoor
