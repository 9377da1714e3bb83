/- The reference's texts: text, read. -/
import Derived.Test.YtajecapgmdfjcaaGreatDoorK46
import Derived.Test.YtajecapgmdfjcaaGreatDoorK47
namespace Go.Proofs.YtajecapgmdfjcaaGreatDoor
open Go.RowKit Vn
def strSz : Value → Nat
 | .string b => b.size
 | _ => 0
theorem text_start (x : List Nat) (n : Nat) (_hn : x.length = n) : padk (9 * (n - n)) (dv 1000000000 (x.drop n)) = [] := by
 rw [Nat.sub_self]; rfl
theorem text_step {x : List Nat} {n j d : Nat} (hn : x.length = n) (hj : j < n) (hd : d = x.getD j 0) (hlt : d < 1000000000) :
  ba (padk (9 * (n - (j + 1))) (dv 1000000000 (x.drop (j + 1)))) ++ ba (padk 9 d) = ba (padk (9 * (n - j)) (dv 1000000000 (x.drop j))) := by
 rw [ba_add, ← padk_group hlt, dv_drop _ x j (by omega), ← hd]
 rw [show 9 * (n - (j + 1)) + 9 = 9 * (n - j) by omega]
theorem dv_lt10 {x : List Nat} (h : Dig 1000000000 x) : dv 1000000000 x < 10 ^ (9 * x.length) := by
 have := dv_lt (B := 1000000000) (by decide) h
 rw [Nat.pow_mul]; exact this
theorem ba_tail (b : UInt8) (l : List UInt8) : (ba (b :: l)).extract 1 (ba (b :: l)).size = ba l := by
 apply bytes_ext
 rw [ByteArray.data_extract, ba_size]
 show ((b :: l).toArray.extract 1 (b :: l).length).toList = l
 simp
set_option maxRecDepth 100000 in
set_option maxHeartbeats 4000000 in
theorem rtext_core (aa : Option Addr) (bx oa ca : Nat) (x : List Nat) (n : Nat) (w : World) (Hn : Hid (x.length = n)) (hn : n ≤ 1000000)
  (Hax : Hid (0 < n → aa = some ⟨bx, oa, none⟩)) (Hx : Hid (Dig 1000000000 x)) (Hcx : RCells w bx oa n x) :
  Calls Tryz.prog 166 #[.slice aa n ca] w fun e w' => e = .returned (.string (ba (Lib.decDigits (dv 1000000000 x)))) ∧ Ext w w' := by
 go_enter Tryz.func166, Tryz.ntmps166
 go_wp2
 go_loopw [3, 4] (fun s i wr => ∃ k : Nat, i = .int .i64 ((k : Int) - 1) ∧ s = .string (ba (padk (9 * (n - k)) (dv 1000000000 (x.drop k)))) ∧ k ≤ n ∧ Ext w wr) (fun _ i _ => (intOf i + 1).toNat)
 case atStart => exact ⟨n, by go_num, by rw [text_start x n Hn.out]; rfl, Nat.le_refl _, Below.refl _ _⟩
 case round =>
  obtain ⟨k, rfl, rfl, hk, hE⟩ := hrel
  have HE := hid hE
  clear hE
  rcases Nat.eq_zero_or_pos k with hk0 | hk0
  ·subst hk0
   have em : (((0 : Nat) : Int) - 1) = -1 := rfl
   rw [em]
   have hd0 : decide ((0 : Int) ≤ -1) = false := by decide
   have e0 : padk (9 * (n - 0)) (dv 1000000000 (x.drop 0)) = padk (9 * n) (dv 1000000000 x) := rfl
   rw [e0]
   have hlt := dv_lt10 Hx.out
   rw [Hn.out] at hlt
   obtain ⟨N, hN⟩ : ∃ N, N = dv 1000000000 x := ⟨_, rfl⟩
   rw [← hN] at hlt ⊢
   have HL := hid hlt
   have HV := hid hN
   clear hlt hN e0
   go_wp2
   go_loopw [3] (fun s wq => ∃ j : Nat, s = .string (ba (padk j N)) ∧ j ≤ 9 * n ∧ Hid (N < 10 ^ j) ∧ Ext w wq) (fun s _ => strSz s)
   case atStart => exact ⟨9 * n, rfl, Nat.le_refl _, HL, HE.out⟩
   case round =>
    obtain ⟨j, rfl, hj, HJ, hE⟩ := hrel
    have HE := hid hE
    clear hE
    match j, hj, HJ with
    | 0, _, HJ =>
     have h0 : N = 0 := by have := HJ.out; simpa using this
     obtain ⟨S, hS⟩ : ∃ S, S = ba (padk 0 N) := ⟨_, rfl⟩
     rw [← hS]
     have hz : S.size = 0 := by rw [hS]; rfl
     have e2 : (S.toList == []) = true := by rw [hS, ba_toList]; rfl
     have HR : Hid ((⟨#[48]⟩ : ByteArray) = ba (Lib.decDigits N)) := hid (by rw [h0, Lib.decDigits_one (by decide)]; rfl)
     clear hS HL HJ h0
     go_wp2_with fail
     refine bodyPost_ret (v := .string ⟨#[48]⟩) (by simp [results, Tryz.results166, go_sem]) rfl ⟨by rw [HR.out, HV.out], HE.out⟩
    | 1, _, HJ =>
     obtain ⟨S, hS⟩ : ∃ S, S = ba (padk 1 N) := ⟨_, rfl⟩
     rw [← hS]
     have hz : S.size = 1 := by rw [hS, ba_size, padk_len]
     have e2 : (S.toList == []) = false := by rw [hS, ba_toList]; rfl
     have HR : Hid (S = ba (Lib.decDigits N)) := hid (by rw [hS, padk_one (by have := HJ.out; omega)])
     clear hS HL HJ
     go_wp2_with fail
     refine bodyPost_ret (v := .string S) (by simp [results, Tryz.results166, go_sem]) rfl ⟨by rw [HR.out, HV.out], HE.out⟩
    | i + 2, hj, HJ =>
     have hd1 : decide ((1 : Int) < ((i + 2 : Nat) : Int)) = true := decide_eq_true (by omega)
     have hz : (ba (padk (i + 2) N)).size = i + 2 := by rw [ba_size, padk_len]
     have h0 : 0 < (ba (padk (i + 2) N)).size := by omega
     obtain ⟨c, hc⟩ : ∃ c, c = UInt8.ofNat (48 + N / 10 ^ (i + 1) % 10) := ⟨_, rfl⟩
     have ef : padk (i + 2) N = c :: padk (i + 1) N := by rw [hc]; exact padk_front (i + 1) N
     have hg : (ba (padk (i + 2) N))[0]'h0 = c := by
      have : ∀ (l : List UInt8) (h : 0 < (ba l).size), l = c :: padk (i + 1) N → (ba l)[0]'h = c := fun l h e => by subst e; rfl
      exact this _ h0 ef
     have ht : (ba (padk (i + 2) N)).extract 1 (ba (padk (i + 2) N)).size = ba (padk (i + 1) N) := by rw [ef]; exact ba_tail _ _
     have e2 : ((ba (padk (i + 2) N)).toList == []) = false := by rw [ba_toList, ef]; rfl
     have HR : Hid (c ≠ 48 → ba (padk (i + 2) N) = ba (Lib.decDigits N)) := hid fun h => by
      rw [padk_dec (by omega) HJ.out (.inr ⟨i + 1, rfl, by rw [← hc]; exact h⟩)]
     have HK : Hid (c = 48 → N < 10 ^ (i + 1)) := hid fun h => padk_strip HJ.out (by rw [← hc]; exact h)
     obtain ⟨S, hS⟩ : ∃ S, S = ba (padk (i + 2) N) := ⟨_, rfl⟩
     have hg' : ∃ h0 : 0 < S.size, S[0]'h0 = c := by subst hS; exact ⟨h0, hg⟩
     rw [← hS] at hz ht e2 HR ⊢
     clear hS hg h0 ef hc HL HJ
     obtain ⟨h0, hg⟩ := hg'
     obtain ⟨T, hT⟩ : ∃ T, T = ba (padk (i + 1) N) := ⟨_, rfl⟩
     rw [← hT, hz] at ht
     have HT := hid hT
     clear hT
     by_cases h4 : c = 48
     ·have h5 : ((c.toNat : Int) == 48) = true := beq_iff_eq.2 (by rw [h4]; rfl)
      have HN2 := hid (HK.out h4)
      clear HK HR h4
      have d1 : (1 : Int) ≤ (S.size : Int) := by omega
      go_wp2_with fail
      go_roundw
      case rel => exact ⟨i + 1, by rw [HT.out], by omega, HN2, HE.out⟩
      case measure =>
       have : T.size = i + 1 := by rw [HT.out, ba_size, padk_len]
       simp [strSz, this, hz]
     ·have h5 : ((c.toNat : Int) == 48) = false := beq_eq_false_iff_ne.2 (fun e => h4 (u8_int.1 e))
      have HR2 := hid (HR.out h4)
      clear HK HR h4
      go_wp2_with fail
      refine bodyPost_ret (v := .string S) (by simp [results, Tryz.results166, go_sem]) rfl ⟨by rw [HR2.out, HV.out], HE.out⟩
  ·obtain ⟨j, rfl⟩ : ∃ j, k = j + 1 := ⟨k - 1, by omega⟩
   have ej : (((j + 1 : Nat) : Int) - 1) = (j : Int) := by omega
   rw [ej]
   obtain ⟨d, hd2⟩ : ∃ d, d = x.getD j 0 := ⟨_, rfl⟩
   have hcell : wr.cell? ⟨bx, oa + j, none⟩ = some (.int .i64 d) := by rw [hd2]; exact HE.out.cell (Hcx.out j (by omega))
   have hlt : d < 1000000000 := by rw [hd2]; exact Hx.out.get (by decide) _
   obtain rfl := Hax.out (by omega)
   have hd0 : decide ((0 : Int) ≤ (j : Int)) = true := decide_eq_true (by omega)
   obtain ⟨S, hS⟩ : ∃ S, S = ba (padk (9 * (n - (j + 1))) (dv 1000000000 (x.drop (j + 1)))) := ⟨_, rfl⟩
   obtain ⟨U, hU⟩ : ∃ U, U = ba (padk 9 d) := ⟨_, rfl⟩
   have hsz : S.size = 9 * (n - (j + 1)) := by rw [hS, ba_size, padk_len]
   have huz : U.size = 9 := by rw [hU, ba_size, padk_len]
   have HR : Hid (S ++ U = ba (padk (9 * (n - j)) (dv 1000000000 (x.drop j)))) := hid (by rw [hS, hU]; exact text_step Hn.out (by omega) hd2 hlt)
   have CN : Hid (∀ w, Calls Tryz.prog 195 #[.int .i64 (d : Nat)] w fun e w' => e = .returned (.string U) ∧ Ext w w') := hid fun w => by rw [hU]; exact rnine_c d w hlt
   rw [← hS]
   clear hS hU hd2 ej
   go_wp2_with (go_at_call 195; refine (CN.out _).mono ?_; rintro e w1 ⟨rfl, g1⟩)
   go_roundw
   case rel => exact ⟨j, rfl, by rw [HR.out], by omega, HE.out.trans g1⟩
   case measure => simp [intOf]
theorem rtext_c (x : Value) (M K : Nat) (w : World) (hx : RefV w x M) (sx : Sm K M) (hK : K ≤ 1000000) :
  Calls Tryz.prog 166 #[x] w fun e w' => e = .returned (.string (decT M)) ∧ Ext w w' := by
 obtain ⟨a, c, off, n, cap, l, rfl, h1', h2, h3, h4, h5, h6, h7, h8⟩ := hx.open
 have e1 := sx.rlen h5.out h6.out
 rw [h3.out] at e1
 have := rtext_core a c off cap l n w h3 (by omega) h4 (hid h5.out.dig) h7
 rw [h6.out] at this
 exact this
end Go.Proofs.YtajecapgmdfjcaaGreatDoor

/- The reference's texts: read. -/
namespace Go.Proofs.YtajecapgmdfjcaaGreatDoor
open Go.RowKit Vn
structure ReadR (l : List UInt8) (m : Nat) (o : List Nat) : Prop where
 hm : m ≤ l.length
 val : dv 1000000000 o = decV (l.drop m)
 dig : Dig 1000000000 o
 len : 0 < m → l.length - m = 9 * o.length
theorem ReadR.start (l : List UInt8) : ReadR l l.length [] := ⟨Nat.le_refl _, by rw [List.drop_eq_nil_of_le (Nat.le_refl _)]; rfl, Dig.nil, fun _ => by simp⟩
theorem Digs.drop {l : List UInt8} (h : Digs l) (m : Nat) : Digs (l.drop m) := fun b hb => h b (List.mem_of_mem_drop hb)
theorem Digs.take {l : List UInt8} (h : Digs l) (m : Nat) : Digs (l.take m) := fun b hb => h b (List.mem_of_mem_take hb)
def part (l : List UInt8) (k m : Nat) : List UInt8 := (l.drop k).take (m - k)
theorem part_len {l : List UInt8} {k m : Nat} (hk : k ≤ m) (hm : m ≤ l.length) : (part l k m).length = m - k := by
 unfold part; rw [List.length_take, List.length_drop]; omega
theorem part_digs {l : List UInt8} (h : Digs l) (k m : Nat) : Digs (part l k m) := (h.drop k).take _
theorem part_app {l : List UInt8} {k m : Nat} (hk : k ≤ m) : part l k m ++ l.drop m = l.drop k := by
 unfold part
 conv => rhs; rw [← List.take_append_drop (m - k) (l.drop k)]
 rw [List.drop_drop, show k + (m - k) = m by omega]
theorem part_snoc {l : List UInt8} {k j : Nat} (hk : k ≤ j) (hj : j < l.length) : part l k (j + 1) = part l k j ++ [l[j]] := by
 unfold part
 rw [show j + 1 - k = (j - k) + 1 by omega, List.take_succ_eq_append_getElem (by rw [List.length_drop]; omega)]
 congr 2
 rw [List.getElem_drop]
 congr 1
 omega
theorem ReadR.step {l : List UInt8} {m : Nat} {o : List Nat} (h : ReadR l m o) (hd : Digs l) (h0 : 0 < m) : ReadR l (m - 9) (o ++ [decV (part l (m - 9) m)]) := by
 have hm := h.hm
 have hl := part_len (l := l) (k := m - 9) (m := m) (by omega) hm
 have hlt := decV_lt _ _ hl (part_digs hd _ _)
 have h9 : 10 ^ (m - (m - 9)) ≤ 10 ^ 9 := Nat.pow_le_pow_right (by decide) (by omega)
 refine ⟨by omega, ?_, h.dig.append (Dig.mk (by omega) Dig.nil), fun hp => ?_⟩
 ·rw [dv_snoc, h.val, ← part_app (l := l) (k := m - 9) (m := m) (by omega), decV_append _ _ _ rfl]
  rw [List.length_drop, h.len h0]
  have : (1000000000 : Nat) ^ o.length = 10 ^ (9 * o.length) := by rw [Nat.pow_mul]
  rw [this]
  generalize 10 ^ (9 * o.length) = p at *
  omega
 ·have := h.len h0
  rw [List.length_append, List.length_singleton]
  omega
set_option maxRecDepth 100000 in
set_option maxHeartbeats 4000000 in
theorem rread_c (l : List UInt8) (w : World) (hd : Digs l) (hl : l.length ≤ 2000) :
  Calls Tryz.prog 132 #[.string (ba l)] w fun e w' => ∃ a k cap, e = .returned (.slice a k cap) ∧ RefV w' (.slice a k cap) (decV l) ∧ Ext w w' := by
 obtain ⟨i0, hi, hz0, hz1, hz2⟩ := info_parts info64
 have hz : (ba l).size = l.length := ba_size l
 have HD := hid hd
 clear hd
 go_enter Tryz.func132, Tryz.ntmps132
 go_wp2_with fail
 go_loopg [3, 4, 5, 6] l.length (fun g v i n k wr => ∃ (a : Option Addr) (kk cp : Nat) (o : List Nat) (z : Int), v = .slice a kk cp ∧ i = .int .i64 z ∧ (0 < z → z = g) ∧ (z ≤ 0 → g = 0) ∧ -9 ≤ z ∧ g ≤ l.length ∧ o.length = kk ∧ kk ≤ 2000 ∧ Hid (ReadR l g o) ∧ Hid (wr.ownsRow w.heap.size 2 1 (.slice a kk cp) kk (digs o)) ∧ Hid (Ext w wr))
 case atStart => exact ⟨none, 0, 0, [], _, rfl, rfl, by omega, by omega, by omega, by omega, rfl, by omega, hid (ReadR.start l), hid (World.ownsRow_nil _ _ _ _), hid (Below.refl _ _)⟩
 case round =>
  obtain ⟨a, kk, cp, o, z, rfl, rfl, h1, h2, h3, hg, hk, hkk, HR, HO, HE⟩ := hrel
  have hsz := HE.out.size
  rcases Nat.eq_zero_or_pos gk with h0 | h0
  ·have hzz : z ≤ 0 := by omega
   have hd0 : decide ((0 : Int) < z) = false := decide_eq_false (by omega)
   go_wp2_with (go_at_call 165; refine (rtrim_c _ o _ (slat_of_owns HO.out) HR.out.dig (by omega)).mono ?_; rintro e w1 ⟨a1, n1, c1, rfl, g1, g2⟩)
   have hb := HR.out.val
   rw [h2 hzz, List.drop_zero] at hb
   rw [hb] at g1
   refine bodyPost_ret (v := .slice a1 n1 c1) (by simp [results, Tryz.results132, go_sem]) rfl ⟨_, _, _, rfl, g1, HE.out.trans g2⟩
  ·obtain rfl : z = (gk : Int) := by omega
   have hd0 : decide ((0 : Int) < (gk : Int)) = true := decide_eq_true (by omega)
   go_wp2_with fail
   obtain ⟨m0, hm0⟩ : ∃ m0, m0 = gk - 9 := ⟨_, rfl⟩
   rw [show max ((gk : Int) - 9) 0 = (m0 : Int) by omega]
   have hm9 : m0 ≤ gk := by omega
   have HM := hid hm0
   clear hm0 h1 h2 h3
   go_loopw [5, 6] (fun n k wq => ∃ (j N : Nat), n = .int .i64 (N : Nat) ∧ k = .int .i64 (j : Nat) ∧ m0 ≤ j ∧ j ≤ gk ∧ N < 1000000000 ∧ Hid (N = decV (part l m0 j)) ∧ wq = wr) (fun _ k _ => gk - (intOf k).toNat)
   case atStart => exact ⟨m0, 0, rfl, rfl, Nat.le_refl _, hm9, by decide, hid (by unfold part; rw [Nat.sub_self]; rfl), rfl⟩
   case round =>
    obtain ⟨j, N, rfl, rfl, hj1, hj2, hN, HN, rfl⟩ := hrel
    rcases Nat.lt_or_ge j gk with hlt | hge
    ·have hd1 : decide ((j : Int) < (gk : Int)) = true := decide_eq_true (by omega)
     have hjl : j < l.length := by omega
     have hjs : j < (ba l).size := by omega
     obtain ⟨b, hb⟩ : ∃ b, b = l[j] := ⟨_, rfl⟩
     have hg2 : (ba l)[j]'hjs = b := hb.symm
     have hbd : 48 ≤ b.toNat ∧ b.toNat ≤ 57 := HD.out b (by rw [hb]; exact List.getElem_mem _)
     have HN2 : Hid (10 * N + (b.toNat - 48) = decV (part l m0 (j + 1))) := hid (by
      have e := decV_snoc (part l m0 j) (l[j]'hjl)
      rw [← part_snoc hj1 hjl] at e
      rw [e, ← HN.out, hb]; rfl)
     have hlt9 : 10 * N + (b.toNat - 48) < 1000000000 := by
      rw [HN2.out]
      have hl := part_len (l := l) (k := m0) (m := j + 1) (by omega) (by omega)
      have h1 := decV_lt _ _ hl (part_digs HD.out _ _)
      have h9 : 10 ^ (j + 1 - m0) ≤ 10 ^ 9 := Nat.pow_le_pow_right (by decide) (by have := HM.out; omega)
      omega
     have i1 : (0 : Int) ≤ (j : Int) := by omega
     have i2 : (j : Int) < ((ba l).size : Int) := by omega
     have hw1 : IntKind.i64.wrap ((j : Int) + 1) = (j : Int) + 1 := IntWalk.i64_in _ (by omega)
     have hw2 : IntKind.u8.wrap ((b.toNat : Int) - 48) = (b.toNat : Int) - 48 := by
      unfold IntKind.wrap; simp [IntKind.signed, IntKind.bits]; omega
     clear hb HN
     go_wp2_with fail
     go_roundw
     case rel => exact ⟨j + 1, 10 * N + (b.toNat - 48), vint (by omega), by go_num, by omega, by omega, hlt9, HN2, by first | rfl | trivial⟩
     case measure => simp [intOf]; omega
    ·obtain rfl : j = gk := by omega
     have hd1 : decide ((j : Int) < (j : Int)) = false := decide_eq_false (by omega)
     have hw3 : IntKind.i64.wrap ((j : Int) - 9) = (j : Int) - 9 := IntWalk.i64_in _ (by omega)
     go_wp2_with (at_builtin; refine wpList_append_own _ rfl _ _ 145 rfl w.heap.size 2 i0 (.int .i64 0) 1 8 Tryz.underlying145 hi hz0 hz1 hz2 rfl (by decide) (.slice a kk cp) kk (digs o) rfl (rows_ext HO.out (Below.alloc (Below.refl _ wr) (Nat.le_refl _) _)) ⟨wr.heap.size, 0, none⟩ 1 1 [.int .i64 (N : Nat)] rfl rfl (cell_one_new _ _ _) (fun x hx => by simp at hx; subst hx; rfl) (by unfold maxLen; omega) (by omega) (by simp; omega) ?_; intro v' w3 hown' hgrow3 hnil3; obtain ⟨a5, c5, hsh5⟩ := rows_shape hown'; subst hsh5)
     go_roundg m0
     case measure => have := HM.out; omega
     case rel =>
      have hs := HR.out.step HD.out h0
      rw [← HM.out, ← HN.out] at hs
      rw [digs_snoc] at hown'
      have hlen : kk + 1 ≤ 2000 := by
       have h1 := HR.out.len h0
       omega
      exact ⟨_, _, _, o ++ [N], _, rfl, rfl, by have := HM.out; omega, by have := HM.out; omega, by omega, by omega, by simp [hk], hlen, hid hs, hid hown', hid (rows_grown HE.out HO.out hgrow3)⟩
end Go.Proofs.YtajecapgmdfjcaaGreatDoor

/- Plain: a text and its parts; the reference's way to tell a text's own form says what the program's does. -/
namespace Go.Proofs.YtajecapgmdfjcaaGreatDoor
open Go.RowKit Vn
theorem idx_cases : ∀ T : List UInt8, (∃ A B, T = A ++ 47 :: B ∧ Lib.index T [47] = A.length) ∨ Lib.index T [47] = -1
 | [] => .inr rfl
 | b :: T => by
  by_cases hb : b = 47
  ·subst hb; exact .inl ⟨[], T, rfl, rfl⟩
  ·have hp : ((47 : UInt8) == b) = false := beq_eq_false_iff_ne.2 (fun e => hb e.symm)
   rcases idx_cases T with ⟨A, B, e, h⟩ | h
   ·refine .inl ⟨b :: A, B, by rw [e]; rfl, ?_⟩
    unfold Lib.index
    rw [pre47, hp, h, show (((A.length : Nat) : Int) == -1) = false from beq_eq_false_iff_ne.2 (by omega)]
    simp
   ·right
    unfold Lib.index
    rw [pre47, hp, h]
    rfl
theorem cut_cases (T : List UInt8) : (∃ A B, T = A ++ 47 :: B ∧ Lib.cut T [47] = (A, B, true)) ∨ Lib.cut T [47] = (T, [], false) := by
 rcases idx_cases T with ⟨A, B, e, h⟩ | h
 ·left
  refine ⟨A, B, e, ?_⟩
  unfold Lib.cut
  rw [h, if_pos (by omega)]
  subst e
  simp
 ·right
  unfold Lib.cut
  rw [h]
  rfl
theorem text_parts (l : List UInt8) : ∃ A B b, pCut l = (A, B, b) ∧ l = (if pNeg l = true then [45] else []) ++ (A ++ (if b = true then 47 :: B else [])) ∧ (b = false → B = []) := by
 have hl : l = (if pNeg l = true then [45] else []) ++ Lib.trimPrefix l [45] := by
  unfold pNeg Lib.trimPrefix
  by_cases h : Lib.hasPrefix l [45] = true
  ·rw [if_pos h, if_pos h]
   cases l with
   | nil => exact absurd h (by decide)
   | cons c l =>
    have : c = 45 := by
     have h : ([45] : List UInt8).isPrefixOf (c :: l) = true := h
     simp [List.isPrefixOf] at h
     exact h.symm
    subst this; rfl
  ·rw [if_neg h, if_neg h]; rfl
 have hT : pCut l = Lib.cut (Lib.trimPrefix l [45]) [47] := rfl
 generalize Lib.trimPrefix l [45] = T at *
 rcases cut_cases T with ⟨A, B, e, h⟩ | h
 ·exact ⟨A, B, true, by rw [hT, h], by rw [if_pos rfl, ← e]; exact hl, fun h => by cases h⟩
 ·exact ⟨T, [], false, by rw [hT, h], by rw [if_neg (by decide : ¬ false = true), List.append_nil]; exact hl, fun _ => rfl⟩
def rparseQ (l : List UInt8) : Rat := mkq (pNeg l) (decV (pCut l).1) (if (pCut l).2.2 = true then decV (pCut l).2.1 else 1)
theorem dec_len_le {m n k : Nat} (hk : 1 ≤ k) (h : m ≤ n) (hn : n < 10 ^ k) : (Lib.decDigits m).length ≤ k := dec_len_pow hk (Nat.lt_of_le_of_lt h hn)
theorem rparse_same {l : List UInt8} (hb : parseBad (pNeg l) (pCut l).2.2 (pCut l).1 (pCut l).2.1 = false) (h1 : (pCut l).1.length ≤ 2000) (h2 : (pCut l).2.1.length ≤ 2000) :
  (parseV l = (rparseQ l, 0) ∧ numText (rparseQ l) = ba l) ∨ (parseV l = (0, 6) ∧ numText (rparseQ l) ≠ ba l) := by
 obtain ⟨A, B, b, e, el, hB⟩ := text_parts l
 have hpv : parseV l = if b = false then (mkq (pNeg l) (decV A) 1, 0) else if Nat.gcd (decV A) (decV B) = 1 then (mkq (pNeg l) (decV A) (decV B), 0) else (0, 6) := by
  unfold parseV
  rw [hb, if_neg (by decide), if_neg (by omega), e]
 have hq : rparseQ l = mkq (pNeg l) (decV A) (if b = true then decV B else 1) := by unfold rparseQ; rw [e]
 rw [e] at hb h1 h2
 simp only at hb h1 h2
 unfold parseBad at hb
 simp only [Bool.or_eq_false_iff, Bool.not_eq_false'] at hb
 obtain ⟨⟨hA, hz⟩, hBB⟩ := hb
 have hdA := dec_decV _ A rfl hA
 have hA0 : pNeg l = true → decV A ≠ 0 := by
  intro hn h0
  rw [h0, Lib.decDigits_one (by decide)] at hdA
  rw [hn, ← hdA] at hz
  exact absurd hz (by decide)
 have lA := decV_lt A.length A rfl (rowB_digs hA)
 have pA : 1 ≤ A.length := by
  cases A with
  | nil => exact absurd rfl (rowB_ne hA)
  | cons => simp
 have hnum : ∀ Q, 0 < Q → Nat.gcd (decV A) Q = 1 → (numText (mkq (pNeg l) (decV A) Q)).data.toList = (if pNeg l = true then [45] else []) ++ (A ++ (if Q = 1 then [] else 47 :: Lib.decDigits Q)) := by
  intro Q hQ hg
  rw [numText_list]
  have e1 := mkq_natAbs (pNeg l) (decV A) Q (by omega)
  have e2 := mkq_den (pNeg l) (decV A) Q (by omega)
  have e3 := mkq_neg (pNeg l) (decV A) Q (by omega)
  rw [hg, Nat.div_one] at e1 e2
  rw [e1, e2, hdA]
  congr 1
  by_cases hn : pNeg l = true
  ·rw [hn] at e3 ⊢
   rw [if_pos (of_decide_eq_true (by rw [e3]; simp [hA0 hn])), if_pos rfl]
  ·have hn' : pNeg l = false := by simpa using hn
   rw [hn'] at e3 ⊢
   rw [if_neg (of_decide_eq_false (by rw [e3]; rfl)), if_neg (by decide)]
 cases b with
 | false =>
  left
  rw [if_neg (by decide)] at hq
  refine ⟨by rw [hpv, if_pos rfl, hq], ?_⟩
  rw [hq]
  have h := hnum 1 (by decide) (Nat.gcd_one_right _)
  rw [if_pos rfl] at h
  refine bytes_ext (h.trans ?_)
  rw [if_neg (by decide : ¬ false = true)] at el
  exact el.symm
 | true =>
  rw [if_pos rfl] at hq el
  rw [if_neg (by decide)] at hpv
  simp only [Bool.true_and, Bool.or_eq_false_iff, Bool.not_eq_false', beq_eq_false_iff_ne] at hBB
  obtain ⟨⟨hrB, h48⟩, h49⟩ := hBB
  have hbig := decV_big hrB h48 h49
  have lB := decV_lt B.length B rfl (rowB_digs hrB)
  have pB : 1 ≤ B.length := by
   cases B with
   | nil => exact absurd rfl (rowB_ne hrB)
   | cons => simp
  by_cases hg : Nat.gcd (decV A) (decV B) = 1
  ·left
   rw [if_pos hg] at hpv
   refine ⟨by rw [hpv, hq], ?_⟩
   rw [hq]
   have h := hnum (decV B) (by omega) hg
   rw [if_neg (show ¬ decV B = 1 by omega), dec_decV _ B rfl hrB] at h
   exact bytes_ext (h.trans el.symm)
  ·right
   rw [if_neg hg] at hpv
   refine ⟨hpv, fun hc => ?_⟩
   rw [hq] at hc
   have i1 : (mkq (pNeg l) (decV A) (decV B)).num.natAbs ≤ decV A := by rw [mkq_natAbs _ _ _ (by omega)]; exact Nat.div_le_self _ _
   have i2 : (mkq (pNeg l) (decV A) (decV B)).den ≤ decV B := by rw [mkq_den _ _ _ (by omega)]; exact Nat.div_le_self _ _
   have h := parse_text (mkq (pNeg l) (decV A) (decV B)) (Nat.le_trans (dec_len_le pA i1 lA) h1) (Nat.le_trans (dec_len_le pB i2 lB) h2)
   rw [hc] at h
   have h : parseV l = _ := h
   rw [hpv] at h
   exact absurd (Prod.mk.inj h).2 (by decide)
end Go.Proofs.YtajecapgmdfjcaaGreatDoor
