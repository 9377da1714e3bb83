/- floats: what is decoded is encoded to the same word. -/
import Derived.Test.YtopmjkkjlagfcaaGreatDoorW41
import Derived.Test.YtopmjkkjlagfcaaGreatDoorW42
import Derived.Test.YtopmjkkjlagfcaaGreatDoorW40
import Derived.Test.YtopmjkkjlagfcaaGreatDoorW14
import Derived.Test.YtopmjkkjlagfcaaGreatDoorW33
import Derived.Test.YtopmjkkjlagfcaaGreatDoorW28
import Derived.Test.YtopmjkkjlagfcaaGreatDoorW30
import Derived.Test.YtopmjkkjlagfcaaGreatDoorW39
namespace Go.Proofs.YtopmjkkjlagfcaaGreatDoor
open Go.RowKit Vn
theorem ba_back (S : ByteArray) : ba S.data.toList = S := rfl
theorem snan_lt {E P n : Nat} (hP : 2 ≤ P) (hk : wkind E P n = 5) : wr P n < 2 ^ (P - 2) := by
 have hf := kind_full (show 3 ≤ wkind E P n by omega)
 have hr : wr P n < 2 ^ (P - 1) := Nat.mod_lt _ (Nat.pow_pos (by decide))
 unfold wkind at hk
 rw [if_pos hf] at hk
 split at hk
 ·omega
 ·split at hk
  ·omega
  ·rename_i hb
   have h1 := bl_le_of_lt hr
   exact Nat.lt_of_lt_of_le (bl_lt _) (Nat.pow_le_pow_right (by decide) (by omega))
theorem EncDec (E P n : Nat) (w : World) (hF : Fmt E P) (hn : n < 2 ^ (E + P)) (hw : WM w) (hT : Tabs w) :
  Calls Tryz.prog 9 #[.agg #[.int .i64 (E : Nat), .int .i64 (P : Nat)], .agg #[.int .i64 (wkind E P n), .bool (wn E P n), .string (numText (wvalK E P (bias E) n))]] w fun e w' => e = .returned (.tuple #[Word n, .int .i64 0]) ∧ Ext w w' := by
 obtain ⟨hE, hP, hb, hEP, hb1⟩ := fmt_bounds hF
 have hn8 : W128 n := w128_of hEP hn
 obtain ⟨o0, o1, eo⟩ := Word.shape n
 have sq := wvalK_small (n := n) hF
 have hlen := dec_2000 sq.1
 have hlen2 := dec_2000 sq.2
 have CD : Hid (∀ w, Tabs w → Calls Tryz.prog 37 #[.agg #[.int .i64 (E : Nat), .int .i64 (P : Nat)], .agg #[.int .u64 (o0 : Nat), .int .u64 (o1 : Nat)]] w fun e w' => e = .returned (.tuple #[.agg #[.int .i64 (wkind E P n), .bool (wn E P n), .string (numText (wvalK E P (bias E) n))], .int .i64 0]) ∧ Ext w w') := hid fun w hT => by
  have := Decode_good E P n w hF hn8 hT
  unfold decodeR at this
  rw [if_pos hn, eo] at this
  exact this
 have CP : Hid (∀ w, WM w → Calls Tryz.prog 42 #[.string (numText (wvalK E P (bias E) n))] w fun e w' => ∃ v, e = .returned (.tuple #[v, .int .i64 0]) ∧ NumV w' v (wvalK E P (bias E) n) ∧ Ext w w') := hid fun w hw => by
  have hl : (numText (wvalK E P (bias E) n)).data.toList.length ≤ 4294967280 := by
   rw [numText_list]
   split <;> split <;> simp <;> omega
  have := Parse_c (numText (wvalK E P (bias E) n)).data.toList w hw hl
  rw [parse_text _ hlen hlen2, ba_back] at this
  exact this
 have hc := wkind_cases E P n
 obtain ⟨l, hl⟩ := log_there (wvalK E P (bias E) n)
 rw [eo]
 rcases hc with h | h | h | h | h
 ·rw [h] at CD ⊢
  exact Encode_3s E P _ _ _ w hF CP hw hT o0 o1 CD (by rw [inf_back (by omega) (by omega) hn h, eo])
 ·rw [h] at CD ⊢
  have hq : wvalK E P (bias E) n = ((wr P n % 2 ^ (P - 2) : Nat) : Rat) := by
   unfold wvalK; rw [if_neg (by omega), if_pos h]
  exact Encode_4s E P _ _ _ w hF CP hw hT _ hq (Nat.mod_lt _ (Nat.pow_pos (by decide))) o0 o1 CD (by rw [qnan_back hP.1 hn h, eo])
 ·rw [h] at CD ⊢
  have hq : wvalK E P (bias E) n = ((wr P n : Nat) : Rat) := by
   unfold wvalK; rw [if_neg (by omega), if_neg (by omega), if_pos h]
  exact Encode_5s E P _ _ _ w hF CP hw hT _ hq (snan_lt hP.1 h) o0 o1 CD (by rw [snan_back (by omega) (by omega) hn h, eo])
 ·rw [h] at CD ⊢
  exact Encode_1s E P _ _ _ w hF CP hw hT o0 o1 CD (by rw [zero_back (by omega) hn (by omega) h, eo])
 ·rw [h] at CD ⊢
  have hk2 : wkind E P n ≤ 2 := by omega
  have hq0 : wvalK E P (bias E) n ≠ 0 := fun e => by have := (kind_zero hk2).2 e; omega
  have hv : wvalK E P (bias E) n = wval E P (bias E) n := wvalK_fin hk2
  have hb1 := word_back (m := 0) hE.1 (by omega) hn h (by rw [← hv]; exact hl hq0)
  rw [← hv] at hb1
  have hr : (rnd E P (bias E) 0 (wvalK E P (bias E) n) l).1 = n := by unfold rnd; rw [if_neg hq0]; exact hb1
  exact Encode_2s E P _ _ _ w hF CP hw hT o0 o1 CD l 5000 sq (by decide) hl (by rw [hr, eo])
end Go.Proofs.YtopmjkkjlagfcaaGreatDoor

/- What the laws' walks share: the law returns true; numbers held against each other. -/
namespace Go.Proofs.YtopmjkkjlagfcaaGreatDoor
open Go.RowKit Vn
def TruePost (w : World) (e : Ending) (w' : World) : Prop := e = .returned (.bool true) ∧ Ext w w'
end Go.Proofs.YtopmjkkjlagfcaaGreatDoor

/- Numbers held against each other. -/
namespace Go.Proofs.YtopmjkkjlagfcaaGreatDoor
open Go.RowKit Vn
theorem cmpQ_lt {q r : Rat} : cmpQ q r < 0 ↔ q < r := by
 unfold cmpQ
 split
 ·rename_i h; exact ⟨fun _ => h, fun _ => by decide⟩
 ·rename_i h
  split
  ·exact ⟨fun k => absurd k (by decide), fun k => absurd k h⟩
  ·exact ⟨fun k => absurd k (by decide), fun k => absurd k h⟩
theorem cmpQ_gt {q r : Rat} : 0 < cmpQ q r ↔ r < q := by
 unfold cmpQ
 split
 ·rename_i h; exact ⟨fun k => absurd k (by decide), fun k => absurd k (by grind)⟩
 ·split
  ·rename_i h1 h; exact ⟨fun _ => h, fun _ => by decide⟩
  ·rename_i h1 h; exact ⟨fun k => absurd k (by decide), fun k => absurd k h⟩
end Go.Proofs.YtopmjkkjlagfcaaGreatDoor

/- exact: the text of a small number. -/
namespace Go.Proofs.YtopmjkkjlagfcaaGreatDoor
open Go.RowKit Vn
theorem decT1 {n : Nat} (h : n < 10) : decT n = ⟨#[UInt8.ofNat (48 + n)]⟩ := by
 unfold decT
 rw [Lib.decDigits_one h]
theorem cat3 (a b c : UInt8) : ByteArray.mk #[a] ++ (ByteArray.mk #[b] ++ ByteArray.mk #[c]) = ⟨#[a, b, c]⟩ := by
 apply ByteArray.ext; simp [ByteArray.data_append]
theorem numText_whole {n : Nat} (h : n < 10) : numText ((n : Nat) : Rat) = ⟨#[UInt8.ofNat (48 + n)]⟩ := by
 have e1 : ((n : Nat) : Rat).num = n := rfl
 have e2 : ((n : Nat) : Rat).den = 1 := rfl
 unfold numText
 rw [e1, e2, if_neg (by omega), if_pos rfl, ba_empty, Int.natAbs_natCast, decT1 h]
theorem numText_quo {q : Rat} {n d : Nat} (hq1 : q.num = n) (hq2 : q.den = d) (hn : n < 10) (hd0 : 1 < d) (hd : d < 10) : numText q = ⟨#[UInt8.ofNat (48 + n), 47, UInt8.ofNat (48 + d)]⟩ := by
 unfold numText
 rw [hq1, hq2, if_neg (by omega), if_neg (by omega), Int.natAbs_natCast, decT1 hn, decT1 hd, cat3]
theorem Text_whole (v : Value) (q : Rat) (n : Nat) (w : World) (hv : NumV w v q) (hq : q = n) (hn : n < 10) (hT : Tabs w) :
  Calls Tryz.prog 67 #[v] w fun e w' => e = .returned (.string ⟨#[UInt8.ofNat (48 + n)]⟩) ∧ Ext w w' := by
 subst hq
 have := Text_c v _ 10 w hv (SmQ.nat (by decide) (by omega)) (by decide) hT
 rwa [numText_whole hn] at this
theorem Text_quo (v : Value) (q : Rat) (n d : Nat) (w : World) (hv : NumV w v q) (hq1 : q.num = n) (hq2 : q.den = d) (hn : n < 10) (hd0 : 1 < d) (hd : d < 10) (hT : Tabs w) :
  Calls Tryz.prog 67 #[v] w fun e w' => e = .returned (.string ⟨#[UInt8.ofNat (48 + n), 47, UInt8.ofNat (48 + d)]⟩) ∧ Ext w w' := by
 have := Text_c v q 10 w hv ⟨by unfold Sm; rw [hq1, Int.natAbs_natCast]; omega, by unfold Sm; rw [hq2]; omega⟩ (by decide) hT
 rwa [numText_quo hq1 hq2 hn hd0 hd] at this
end Go.Proofs.YtopmjkkjlagfcaaGreatDoor

/- floats: Decode of the word of one, in the least of formats. -/
namespace Go.Proofs.YtopmjkkjlagfcaaGreatDoor
open Go.RowKit Vn
theorem kd12 : wkind 3 3 12 = 2 := by decide
theorem wn12 : wn 3 3 12 = false := by decide
theorem wv12 : wvalK 3 3 3 12 = 1 := by decide +kernel
theorem dec12 : decodeR 3 3 12 = .tuple #[.agg #[.int .i64 2, .bool false, .string ⟨#[49]⟩], .int .i64 0] := by
 unfold decodeR
 rw [if_pos (by decide), kd12, wn12, show bias 3 = 3 from rfl, wv12, show (1 : Rat) = ((1 : Nat) : Rat) from rfl, numText_whole (by decide)]
 rfl
theorem Decode_one (w : World) (hT : Tabs w) :
  Calls Tryz.prog 37 #[.agg #[.int .i64 3, .int .i64 3], .agg #[.int .u64 0, .int .u64 12]] w fun e w' => e = .returned (.tuple #[.agg #[.int .i64 2, .bool false, .string ⟨#[49]⟩], .int .i64 0]) ∧ Ext w w' := by
 have := Decode_good 3 3 12 w (by unfold Fmt; decide) (by decide) hT
 rw [dec12] at this
 exact this
end Go.Proofs.YtopmjkkjlagfcaaGreatDoor
