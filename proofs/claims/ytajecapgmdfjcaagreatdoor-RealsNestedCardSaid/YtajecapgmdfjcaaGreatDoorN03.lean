/- What all the walks import. -/
import Derived.Test.YtajecapgmdfjcaaGreatDoorProg
import Derived.WalkKit
import Derived.WalkSpells
import Derived.WalkLawsBesides
import Derived.BigQuiet
import Derived.Deep.QuietTactic
import Derived.Deep.RegionHeld3
import Derived.Laws.Pointers
import Derived.StillTactics
import Derived.Outline
import Derived.Deep.LoopGhost
import Derived.Deep.CutBlock
import Derived.Deep.DeepCutAuto
import Derived.Test.YtajecapgmdfjcaaGreatDoorN02
import Derived.Deep.DeepCutAuto

/- Natural numbers in words of 32 bits: trim, cut, of, add return what they are named for. -/
namespace Go.Proofs.YtajecapgmdfjcaaGreatDoor
open Go.RowKit Vn
theorem vint {k : IntKind} {a b : Int} (h : a = b) : Value.int k a = Value.int k b := by rw [h]
def NatV (w : World) (v : Value) (n : Nat) : Prop := ∃ l, Norm 4294967296 l ∧ dv 4294967296 l = n ∧ SlAt 100 .u32 w v l
theorem NatV.ext {w w' : World} {v : Value} {n : Nat} (h : NatV w v n) (hb : Ext w w') : NatV w' v n := by
 obtain ⟨l, h1, h2, h3⟩ := h; exact ⟨l, h1, h2, h3.ext hb⟩
theorem info32 : (Tryz.prog.info? 100).map (fun i => (i.zero, i.size, i.bytes)) = some (some (.int .u32 0), 1, 4) := by kernel_rfl
theorem mkNat (n : Nat) (x : Int) (hx : x = (n : Int)) (hn : n ≤ 1000000000000) (w : World) :
  (Instr.makeSlice 31 (.int .i64 x) (.int .i64 x)).run Tryz.prog w = .ok (.slice (some ⟨w.heap.size, 0, none⟩) n n) (w.alloc (.cells (rowOf .u32 (List.replicate n 0)) 100)) := by
 obtain ⟨i0, hi, hz0, hz1, hz2⟩ := info_parts info32
 exact make_row (P := Tryz.prog) 31 100 i0 .u32 Tryz.underlying31 hi hz0 hz1 n x hx (by rw [hz2]; omega) (by unfold maxLen; omega) w
def lenOf : Value → Nat | .slice _ n _ => n | _ => 0
structure TrimRel (l : List Nat) (n : Nat) (w : World) (k : Nat) (wr : World) : Prop where
 hk : k ≤ n
 zeros : ∀ i, k ≤ i → i < n → l.getD i 0 = 0
 heap : wr.heap = w.heap
 ext : Ext w wr
set_option maxHeartbeats 400000 in
theorem trim_core (a : Option Addr) (b off n cap : Nat) (l : List Nat) (w : World) (hn : n ≤ 1000000000000) (hcap : n ≤ cap) (_hcap2 : cap ≤ maxLen)
  (Ha : Hid (0 < n → a = some ⟨b, off, none⟩)) (Hd : Hid (Dig 4294967296 l))
  (Hc : Hid (∀ i, i < n → w.cell? ⟨b, off + i, none⟩ = some (.int .u32 (l.getD i 0 : Nat)))) :
  Calls Tryz.prog 93 #[.slice a n cap] w fun e w' => ∃ k : Nat, e = .returned (.slice a k cap) ∧ TrimRel l n w k w' ∧ (0 < k → l.getD (k - 1) 0 ≠ 0) := by
 go_enter Tryz.func93, Tryz.ntmps93
 go_wp2
 go_loopw [0] (fun v wr => ∃ k : Nat, v = .slice a k cap ∧ TrimRel l n w k wr) (fun v _ => lenOf v)
 case atStart => exact ⟨n, rfl, Nat.le_refl _, fun i h h' => by omega, rfl, Below.refl _ _⟩
 case round =>
  obtain ⟨k, rfl, hR⟩ := hrel
  have hk := hR.hk
  rcases Nat.eq_zero_or_pos k with h0 | h0
  ·subst h0
   have hd : decide ((0 : Int) < 0) = false := by decide
   go_wp2
   go_ret
   exact ⟨0, rfl, ⟨hR.hk, hR.zeros, hR.heap, hR.ext⟩, by omega⟩
  ·have hd1 : decide ((0 : Int) < (k : Int)) = true := decide_eq_true (by omega)
   obtain ⟨d, hd2⟩ : ∃ d, d = l.getD (k - 1) 0 := ⟨_, rfl⟩
   have hcell : wr.cell? ⟨b, off + (k - 1), none⟩ = some (.int .u32 d) := by
    rw [hd2, ← Hc.out (k - 1) (by omega)]; simp [World.cell?, hR.heap]
   have hlt : d < 4294967296 := by rw [hd2]; exact Hd.out.get (by decide) _
   obtain rfl := Ha.out (by omega)
   have Hd2 : Hid (d = l.getD (k - 1) 0) := hd2
   clear hd2 Hc Ha
   go_wp2
   ·have h1 : ((d : Int) == 0) = true := by assumption
    go_roundw
    case rel =>
     refine ⟨k - 1, rfl, by omega, fun i h h' => ?_, hR.heap, hR.ext⟩
     rcases Nat.eq_or_lt_of_le h with h2 | h2
     ·rw [← h2, ← Hd2.out]; simpa using h1
     ·exact hR.zeros i (by omega) h'
    case measure => simp [lenOf]; omega
   ·have h1 : ((d : Int) == 0) = false := by assumption
    go_ret
    exact ⟨k, rfl, ⟨hR.hk, hR.zeros, hR.heap, hR.ext⟩, fun _ => by rw [← Hd2.out]; simpa using h1⟩
theorem cut_c (v : Value) (l : List Nat) (w : World) (h : SlAt 100 .u32 w v l) (hd : Dig 4294967296 l) (hl : l.length ≤ 1000000000000) :
  Calls Tryz.prog 53 #[v] w fun e w' => ∃ a n cap, e = .returned (.slice a n cap) ∧ NatV w' (.slice a n cap) (dv 4294967296 l) ∧ Ext w w' := by
 obtain ⟨a, b, off, cap, rfl, h2, h3, h4, h5⟩ := h.open
 obtain ⟨n, hn⟩ : ∃ n, n = l.length := ⟨_, rfl⟩
 rw [← hn] at h h2 h4 h5 hl ⊢
 have Hh := hid h; have H4 := hid h4; have H5 := hid h5; have Hn : Hid (n = l.length) := hn; have Hd := hid hd
 clear h h4 h5 hn hd
 go_enter Tryz.func53, Tryz.ntmps53
 go_wp2_with (go_at_call 93; refine (trim_core a b off n cap l _ hl h2 h3 H4 Hd H5).mono ?_; rintro e w1 ⟨k, rfl, hR, hnz⟩)
 go_ret
 have hk := hR.hk
 have hn := Hn.out
 refine ⟨a, k, cap, rfl, ⟨l.take k, ⟨Hd.out.take k, ?_⟩, ?_, ?_⟩, hR.ext⟩
 ·rcases Nat.eq_zero_or_pos k with h0 | h0
  ·left; simp [h0]
  ·right
   have : (l.take k).length = k := by simp; omega
   rw [this]
   have := hnz h0
   rw [List.getD_eq_getElem?_getD] at this ⊢
   rw [List.getElem?_take, if_pos (by omega)]
   omega
 ·exact dv_take_zeros (by omega) (fun i h1 h2 => hR.zeros i h1 (by omega))
 ·exact (Hh.out.ext hR.ext).short k hk
end Go.Proofs.YtajecapgmdfjcaaGreatDoor

/- Natural numbers in words of 32 bits: of, add, sub return what they are named for. -/
namespace Go.Proofs.YtajecapgmdfjcaaGreatDoor
open Go.RowKit Vn
structure Own (w wr : World) (b : Nat) (o : List Nat) (n : Nat) : Prop where
 row : wr.heap[b]? = some (.cells (rowOf .u32 o) 100 (0, 0))
 len : o.length = n
 dig : Dig 4294967296 o
 ext : Ext w wr
theorem Own.cell {w wr : World} {b n : Nat} {o : List Nat} (h : Own w wr b o n) {k : Nat} (hk : k < n) : wr.cell? ⟨b, k, none⟩ = some (.int .u32 (o.getD k 0 : Nat)) :=
 row_cell h.row k (by rw [h.len]; exact hk)
theorem Own.free {w wr : World} {b n : Nat} {o : List Nat} (h : Own w wr b o n) (k : Nat) : wr.frozen? ⟨b, k, none⟩ = false := row_free h.row k
theorem Own.set {w wr : World} {b n : Nat} {o : List Nat} (h : Own w wr b o n) (hb : w.heap.size ≤ b) (k x : Nat) (e : Int) (he : e = (x : Int)) (hx : x < 4294967296) :
  Own w (wr.setCell ⟨b, k, none⟩ (.int .u32 e)) b (o.set k x) n := by
 subst he
 exact ⟨row_set h.row k x, by rw [List.length_set]; exact h.len, h.dig.set hx k, h.ext.setCell (p := ⟨b, k, none⟩) hb _⟩
theorem Own.init (w : World) (n : Nat) : Own w (w.alloc (.cells (rowOf .u32 (List.replicate n 0)) 100)) w.heap.size (List.replicate n 0) n :=
 ⟨heap_alloc_new w _, by simp, Dig.replicate (by decide) n, (Below.refl _ w).alloc (Nat.le_refl _) _⟩
theorem Own.slat {w wr : World} {b n : Nat} {o : List Nat} (h : Own w wr b o n) (hn : n ≤ maxLen) : SlAt 100 .u32 wr (.slice (some ⟨b, 0, none⟩) n n) o := by
 have := SlAt.row h.row n n (by rw [h.len]; exact Nat.le_refl _) (Nat.le_refl _) hn
 rwa [List.take_of_length_le (by rw [h.len]; exact Nat.le_refl _)] at this
theorem Own.drew {w wr : World} {b n : Nat} {o : List Nat} (h : Own w wr b o n) : Own w wr.drew b o n := ⟨h.row, h.len, h.dig, h.ext.drew⟩
theorem NatV.zero (w : World) : NatV w (.slice none 0 0) 0 := ⟨[], Norm.nil, rfl, SlAt.nil _ _ _⟩
abbrev Cells (w : World) (b off n : Nat) (l : List Nat) : Prop := Hid (∀ i, i < n → w.cell? ⟨b, off + i, none⟩ = some (.int .u32 (l.getD i 0 : Nat)))
structure AddRel (x y : List Nat) (n : Nat) (w : World) (k q : Nat) (o : List Nat) (wr : World) : Prop where
 hk : k ≤ n
 hq : q ≤ 1
 zero : Zero o k
 val : dv 4294967296 o + 4294967296 ^ k * q = dv 4294967296 (x.take k) + dv 4294967296 (y.take k)
 own : Own w wr w.heap.size o (n + 1)
theorem AddRel.step {x y : List Nat} {n : Nat} {w : World} {k q : Nat} {o : List Nat} {wr : World} (h : AddRel x y n w k q o wr) (hk : k < n) {d f : Nat}
  (hd : d = x.getD k 0) (hf : f = y.getD k 0) (hd' : d < 4294967296) (hf' : f < 4294967296) (e : Int) (he : e = (((q + d + f) % 4294967296 : Nat) : Int)) :
  AddRel x y n w (k + 1) ((q + d + f) / 4294967296) (o.set k ((q + d + f) % 4294967296)) (wr.setCell ⟨w.heap.size, k, none⟩ (.int .u32 e)) := by
 have hq := h.hq
 have hl : k < o.length := by rw [h.own.len]; omega
 refine ⟨by omega, by omega, h.zero.set _ hl, ?_, h.own.set (Nat.le_refl _) k _ e he (by omega)⟩
 rw [dv_set_zero _ h.zero _ hl, dv_take_succ', dv_take_succ', ← hd, ← hf]
 exact add_step h.val (by omega)
set_option maxRecDepth 100000 in
set_option maxHeartbeats 1000000 in
theorem add_core (aa ab : Option Addr) (ba oa ca bb ob cb : Nat) (x y : List Nat) (n m : Nat) (w : World) (Hn : Hid (x.length = n)) (Hm : Hid (y.length = m)) (hxy : m ≤ n) (hn : n ≤ 100000000000)
  (Hax : Hid (0 < n → aa = some ⟨ba, oa, none⟩)) (Hay : Hid (0 < m → ab = some ⟨bb, ob, none⟩))
  (Hx : Hid (Dig 4294967296 x)) (Hy : Hid (Dig 4294967296 y)) (Hcx : Cells w ba oa n x) (Hcy : Cells w bb ob m y) :
  Calls Tryz.prog 76 #[.slice aa n ca, .slice ab m cb] w fun e w' => ∃ a k cap, e = .returned (.slice a k cap) ∧ NatV w' (.slice a k cap) (dv 4294967296 x + dv 4294967296 y) ∧ Ext w w' := by
 have hmk := mkNat (n + 1) ((n : Int) + 1) (by omega) (by omega)
 have hge : decide ((n : Int) < (m : Int)) = false := decide_eq_false (by omega)
 go_enter Tryz.func76, Tryz.ntmps76
 go_wp2
 go_loopw [6, 22] (fun c i wr => ∃ (k q : Nat) (o : List Nat), i = .int .i64 k ∧ c = .int .u64 q ∧ AddRel x y n w k q o wr) (fun _ i _ => n - (intOf i).toNat)
 case atStart => exact ⟨0, 0, _, rfl, rfl, Nat.zero_le _, Nat.zero_le _, Zero.replicate _ _, by simp [dv_replicate, dv], Own.init w _⟩
 case round =>
  obtain ⟨k, q, o, rfl, rfl, HR⟩ := hrel
  have hk := HR.hk
  have hq := HR.hq
  rcases Nat.lt_or_ge k n with hkn | hkn
  ·obtain ⟨d, hd2⟩ : ∃ d, d = x.getD k 0 := ⟨_, rfl⟩
   have hcell : wr.cell? ⟨ba, oa + k, none⟩ = some (.int .u32 d) := by rw [hd2]; exact HR.own.ext.cell (Hcx.out k hkn)
   have hlt : d < 4294967296 := by rw [hd2]; exact Hx.out.get (by decide) _
   obtain rfl := Hax.out (by omega)
   have hout := HR.own.cell (k := k) (by omega)
   rw [HR.zero k (Nat.le_refl _)] at hout
   have hfr := HR.own.free k
   have Hd2 : Hid (d = x.getD k 0) := hd2
   clear hd2
   rcases Nat.lt_or_ge k m with hkm | hkm
   ·obtain ⟨f, hf2⟩ : ∃ f, f = y.getD k 0 := ⟨_, rfl⟩
    have hcelf : wr.cell? ⟨bb, ob + k, none⟩ = some (.int .u32 f) := by rw [hf2]; exact HR.own.ext.cell (Hcy.out k hkm)
    have hltf : f < 4294967296 := by rw [hf2]; exact Hy.out.get (by decide) _
    obtain rfl := Hay.out (by omega)
    have Hf2 : Hid (f = y.getD k 0) := hf2
    clear hf2
    go_wp2
    go_roundw
    case rel => exact ⟨k + 1, _, _, by go_num, vint (by omega), HR.step hkn Hd2.out Hf2.out hlt hltf _ (by omega)⟩
    case measure => simp [intOf]; omega
   ·go_wp2
    go_roundw
    case rel => exact ⟨k + 1, _, _, by go_num, vint (by omega), HR.step hkn Hd2.out (f := 0) (by rw [getD_ge (by rw [Hm.out]; exact hkm)]) hlt (by decide) _ (by omega)⟩
    case measure => simp [intOf]; omega
  ·obtain rfl : k = n := by omega
   have hout := HR.own.cell (k := k) (by omega)
   rw [HR.zero k (Nat.le_refl _)] at hout
   have hfr := HR.own.free k
   have HO := HR.own.set (Nat.le_refl _) k q (q : Int) rfl (by omega)
   go_wp2_with (go_at_call 53; refine (cut_c _ _ _ (HO.slat (by unfold maxLen; omega)) HO.dig (by rw [HO.len]; omega)).mono ?_; rintro e w1 ⟨a1, n1, c1, rfl, h1, hb1⟩)
   go_ret
   have hv := HR.val
   have hl : k < o.length := by rw [HR.own.len]; omega
   rw [dv_set_zero _ HR.zero _ hl, Nat.mul_comm q, hv, List.take_of_length_le (by rw [Hn.out]; exact Nat.le_refl _), List.take_of_length_le (by rw [Hm.out]; exact hxy)] at h1
   exact ⟨a1, n1, c1, rfl, h1, HO.ext.trans hb1⟩
set_option maxRecDepth 100000 in
set_option maxHeartbeats 1000000 in
theorem add_core' (aa ab : Option Addr) (ba oa ca bb ob cb : Nat) (x y : List Nat) (n m : Nat) (w : World) (Hn : Hid (x.length = n)) (Hm : Hid (y.length = m)) (hxy : n < m) (hn : m ≤ 100000000000)
  (Hax : Hid (0 < n → aa = some ⟨ba, oa, none⟩)) (Hay : Hid (0 < m → ab = some ⟨bb, ob, none⟩))
  (Hx : Hid (Dig 4294967296 x)) (Hy : Hid (Dig 4294967296 y)) (Hcx : Cells w ba oa n x) (Hcy : Cells w bb ob m y) :
  Calls Tryz.prog 76 #[.slice aa n ca, .slice ab m cb] w fun e w' => ∃ a k cap, e = .returned (.slice a k cap) ∧ NatV w' (.slice a k cap) (dv 4294967296 x + dv 4294967296 y) ∧ Ext w w' := by
 have hmk := mkNat (m + 1) ((m : Int) + 1) (by omega) (by omega)
 have hge : decide ((n : Int) < (m : Int)) = true := decide_eq_true (by omega)
 go_enter Tryz.func76, Tryz.ntmps76
 go_wp2
 go_loopw [6, 22] (fun c i wr => ∃ (k q : Nat) (o : List Nat), i = .int .i64 k ∧ c = .int .u64 q ∧ AddRel y x m w k q o wr) (fun _ i _ => m - (intOf i).toNat)
 case atStart => exact ⟨0, 0, _, rfl, rfl, Nat.zero_le _, Nat.zero_le _, Zero.replicate _ _, by simp [dv_replicate, dv], Own.init w _⟩
 case round =>
  obtain ⟨k, q, o, rfl, rfl, HR⟩ := hrel
  have hk := HR.hk
  have hq := HR.hq
  rcases Nat.lt_or_ge k m with hkn | hkn
  ·obtain ⟨d, hd2⟩ : ∃ d, d = y.getD k 0 := ⟨_, rfl⟩
   have hcell : wr.cell? ⟨bb, ob + k, none⟩ = some (.int .u32 d) := by rw [hd2]; exact HR.own.ext.cell (Hcy.out k hkn)
   have hlt : d < 4294967296 := by rw [hd2]; exact Hy.out.get (by decide) _
   obtain rfl := Hay.out (by omega)
   have hout := HR.own.cell (k := k) (by omega)
   rw [HR.zero k (Nat.le_refl _)] at hout
   have hfr := HR.own.free k
   have Hd2 : Hid (d = y.getD k 0) := hd2
   clear hd2
   rcases Nat.lt_or_ge k n with hkm | hkm
   ·obtain ⟨f, hf2⟩ : ∃ f, f = x.getD k 0 := ⟨_, rfl⟩
    have hcelf : wr.cell? ⟨ba, oa + k, none⟩ = some (.int .u32 f) := by rw [hf2]; exact HR.own.ext.cell (Hcx.out k hkm)
    have hltf : f < 4294967296 := by rw [hf2]; exact Hx.out.get (by decide) _
    obtain rfl := Hax.out (by omega)
    have Hf2 : Hid (f = x.getD k 0) := hf2
    clear hf2
    go_wp2
    go_roundw
    case rel => exact ⟨k + 1, _, _, by go_num, vint (by omega), HR.step hkn Hd2.out Hf2.out hlt hltf _ (by omega)⟩
    case measure => simp [intOf]; omega
   ·go_wp2
    go_roundw
    case rel => exact ⟨k + 1, _, _, by go_num, vint (by omega), HR.step hkn Hd2.out (f := 0) (by rw [getD_ge (by rw [Hn.out]; exact hkm)]) hlt (by decide) _ (by omega)⟩
    case measure => simp [intOf]; omega
  ·obtain rfl : k = m := by omega
   have hout := HR.own.cell (k := k) (by omega)
   rw [HR.zero k (Nat.le_refl _)] at hout
   have hfr := HR.own.free k
   have HO := HR.own.set (Nat.le_refl _) k q (q : Int) rfl (by omega)
   go_wp2_with (go_at_call 53; refine (cut_c _ _ _ (HO.slat (by unfold maxLen; omega)) HO.dig (by rw [HO.len]; omega)).mono ?_; rintro e w1 ⟨a1, n1, c1, rfl, h1, hb1⟩)
   go_ret
   have hv := HR.val
   have hl : k < o.length := by rw [HR.own.len]; omega
   rw [dv_set_zero _ HR.zero _ hl, Nat.mul_comm q, hv, List.take_of_length_le (by rw [Hm.out]; exact Nat.le_refl _), List.take_of_length_le (by rw [Hn.out]; exact Nat.le_of_lt hxy)] at h1
   rw [Nat.add_comm] at h1
   exact ⟨a1, n1, c1, rfl, h1, HO.ext.trans hb1⟩
theorem len_le {l : List Nat} {K : Nat} (h : Norm 4294967296 l) (hK : dv 4294967296 l < 2 ^ (32 * K)) : l.length ≤ K := by
 refine h.len_le (by decide) ?_
 have : (4294967296 : Nat) ^ K = 2 ^ (32 * K) := by rw [Nat.pow_mul]
 rw [this]; exact hK
theorem NatV.open {w : World} {v : Value} {N : Nat} (h : NatV w v N) : ∃ (a : Option Addr) (b off n cap : Nat) (l : List Nat), v = .slice a n cap ∧ n ≤ cap ∧ cap ≤ maxLen ∧ Hid (l.length = n) ∧
  Hid (0 < n → a = some ⟨b, off, none⟩) ∧ Hid (Norm 4294967296 l) ∧ Hid (dv 4294967296 l = N) ∧ Cells w b off n l ∧ Hid (SlAt 100 .u32 w v l) := by
 obtain ⟨l, h1, h2, h3⟩ := h
 obtain ⟨a, b, off, cap, h4, h5, h6, h7, h8⟩ := h3.open
 exact ⟨a, b, off, l.length, cap, l, h4, h5, h6, hid rfl, hid h7, hid h1, hid h2, hid h8, hid h3⟩
def Sm (K n : Nat) : Prop := n < 2 ^ K
theorem Sm.mono {K L n : Nat} (h : Sm K n) (hl : K ≤ L) : Sm L n := Nat.lt_of_lt_of_le h (Nat.pow_le_pow_right (by decide) hl)
theorem Sm.len {l : List Nat} {K n : Nat} (h : Sm K n) (hl : Norm 4294967296 l) (hv : dv 4294967296 l = n) : l.length ≤ K := by
 refine len_le hl ?_
 rw [hv]
 exact Nat.lt_of_lt_of_le h (Nat.pow_le_pow_right (by decide) (by omega))
theorem add_c (x y : Value) (M N K : Nat) (w : World) (hx : NatV w x M) (hy : NatV w y N) (sx : Sm K M) (sy : Sm K N) (hK : K ≤ 100000000) :
  Calls Tryz.prog 76 #[x, y] w fun e w' => ∃ a k cap, e = .returned (.slice a k cap) ∧ NatV w' (.slice a k cap) (M + N) ∧ Ext w w' := by
 obtain ⟨a, b, off, n, cap, l, rfl, h1, h2, h3, h4, h5, h6, h7, h8⟩ := hx.open
 obtain ⟨a', b', off', n', cap', l', rfl, h1', h2', h3', h4', h5', h6', h7', h8'⟩ := hy.open
 have e1 := sx.len h5.out h6.out
 have e2 := sy.len h5'.out h6'.out
 rw [h3.out] at e1
 rw [h3'.out] at e2
 rcases Nat.lt_or_ge n n' with hlt | hge
 ·have := add_core' a a' b off cap b' off' cap' l l' n n' w h3 h3' hlt (by omega) h4 h4' (hid h5.out.dig) (hid h5'.out.dig) h7 h7'
  rw [h6.out, h6'.out] at this
  exact this
 ·have := add_core a a' b off cap b' off' cap' l l' n n' w h3 h3' hge (by omega) h4 h4' (hid h5.out.dig) (hid h5'.out.dig) h7 h7'
  rw [h6.out, h6'.out] at this
  exact this
end Go.Proofs.YtajecapgmdfjcaaGreatDoor

/- Natural numbers in words of 32 bits: of, sub return what they are named for. -/
namespace Go.Proofs.YtajecapgmdfjcaaGreatDoor
open Go.RowKit Vn
set_option maxHeartbeats 400000 in
theorem of_c (e : Int) (w : World) (h0 : 0 ≤ e) (h1 : e < 18446744073709551616) :
  Calls Tryz.prog 26 #[.int .u64 e] w fun r w' => ∃ a k cap, r = .returned (.slice a k cap) ∧ NatV w' (.slice a k cap) e.toNat ∧ Ext w w' := by
 obtain ⟨n, rfl⟩ := Int.eq_ofNat_of_zero_le h0
 have hn : n < 18446744073709551616 := by omega
 rw [Int.toNat_natCast]
 go_enter Tryz.func26, Tryz.ntmps26
 have hs : SlAt 100 .u32 (w.alloc (.cells #[.int .u32 ((n : Int) % 4294967296), .int .u32 ((n : Int) / 4294967296)] 100)) (.slice (some ⟨w.heap.size, 0, none⟩) 2 2) [n % 4294967296, n / 4294967296] :=
  SlAt.row (l := [n % 4294967296, n / 4294967296]) (fr := (0, 0)) (heap_alloc_new w _) 2 2 (Nat.le_refl _) (Nat.le_refl _) (by unfold maxLen; omega)
 have hd : Dig 4294967296 [n % 4294967296, n / 4294967296] := Dig.mk (by omega) (Dig.mk (by omega) Dig.nil)
 have hb : Ext w (w.alloc (.cells #[.int .u32 ((n : Int) % 4294967296), .int .u32 ((n : Int) / 4294967296)] 100)) := (Below.refl _ _).alloc (Nat.le_refl _) _
 go_wp2_with (go_at_call 53; refine (cut_c _ _ _ hs hd (by simp)).mono ?_; rintro e w1 ⟨a1, n1, c1, rfl, h1, hb1⟩)
 go_ret
 have e1 : dv 4294967296 [n % 4294967296, n / 4294967296] = n := by simp [dv]; omega
 rw [e1] at h1
 exact ⟨a1, n1, c1, rfl, h1, hb.trans hb1⟩
theorem w64 (z : Int) : IntKind.u64.wrap z = z % 18446744073709551616 := by
 rw [IntKind.wrap_u64]
structure SubRel (x y : List Nat) (n : Nat) (w : World) (k q : Nat) (o : List Nat) (wr : World) : Prop where
 hk : k ≤ n
 hq : q ≤ 1
 zero : Zero o k
 val : dv 4294967296 o + dv 4294967296 (y.take k) = dv 4294967296 (x.take k) + 4294967296 ^ k * q
 own : Own w wr w.heap.size o n
theorem SubRel.step {x y : List Nat} {n : Nat} {w : World} {k q : Nat} {o : List Nat} {wr : World} (h : SubRel x y n w k q o wr) (hk : k < n) {d f : Nat}
  (hd : d = x.getD k 0) (hf : f = y.getD k 0) (hd' : d < 4294967296) (hf' : f < 4294967296) (t : Int) (ht : t = ((d : Int) - q - f) % 18446744073709551616) :
  SubRel x y n w (k + 1) (t / 9223372036854775808).toNat (o.set k (t % 4294967296).toNat) (wr.setCell ⟨w.heap.size, k, none⟩ (.int .u32 (t % 4294967296))) := by
 have hq := h.hq
 have hl : k < o.length := by rw [h.own.len]; omega
 refine ⟨by omega, by omega, h.zero.set _ hl, ?_, h.own.set (Nat.le_refl _) k _ _ (by omega) (by omega)⟩
 rw [dv_set_zero _ h.zero _ hl, dv_take_succ', dv_take_succ', ← hd, ← hf]
 exact dif_step h.val (by omega)
set_option maxRecDepth 100000 in
set_option maxHeartbeats 1000000 in
theorem sub_core (aa ab : Option Addr) (ba oa ca bb ob cb : Nat) (x y : List Nat) (n m : Nat) (w : World) (Hn : Hid (x.length = n)) (Hm : Hid (y.length = m)) (hxy : m ≤ n) (hn : n ≤ 100000000000)
  (Hax : Hid (0 < n → aa = some ⟨ba, oa, none⟩)) (Hay : Hid (0 < m → ab = some ⟨bb, ob, none⟩))
  (Hx : Hid (Dig 4294967296 x)) (Hy : Hid (Dig 4294967296 y)) (Hv : Hid (dv 4294967296 y ≤ dv 4294967296 x)) (Hcx : Cells w ba oa n x) (Hcy : Cells w bb ob m y) :
  Calls Tryz.prog 78 #[.slice aa n ca, .slice ab m cb] w fun e w' => ∃ a k cap, e = .returned (.slice a k cap) ∧ NatV w' (.slice a k cap) (dv 4294967296 x - dv 4294967296 y) ∧ Ext w w' := by
 have hmk := mkNat n (n : Int) (by omega) (by omega)
 go_enter Tryz.func78, Tryz.ntmps78
 go_wp2
 go_loopw [6, 15] (fun c i wr => ∃ (k q : Nat) (o : List Nat), i = .int .i64 k ∧ c = .int .u64 q ∧ SubRel x y n w k q o wr) (fun _ i _ => n - (intOf i).toNat)
 case atStart => exact ⟨0, 0, _, rfl, rfl, Nat.zero_le _, Nat.zero_le _, Zero.replicate _ _, by simp [dv_replicate, dv], Own.init w _⟩
 case round =>
  obtain ⟨k, q, o, rfl, rfl, HR⟩ := hrel
  have hk := HR.hk
  have hq := HR.hq
  rcases Nat.lt_or_ge k n with hkn | hkn
  ·obtain ⟨d, hd2⟩ : ∃ d, d = x.getD k 0 := ⟨_, rfl⟩
   have hcell : wr.cell? ⟨ba, oa + k, none⟩ = some (.int .u32 d) := by rw [hd2]; exact HR.own.ext.cell (Hcx.out k hkn)
   have hlt : d < 4294967296 := by rw [hd2]; exact Hx.out.get (by decide) _
   obtain rfl := Hax.out (by omega)
   have hout := HR.own.cell (k := k) (by omega)
   rw [HR.zero k (Nat.le_refl _)] at hout
   have hfr := HR.own.free k
   have Hd2 : Hid (d = x.getD k 0) := hd2
   clear hd2
   rcases Nat.lt_or_ge k m with hkm | hkm
   ·obtain ⟨f, hf2⟩ : ∃ f, f = y.getD k 0 := ⟨_, rfl⟩
    have hcelf : wr.cell? ⟨bb, ob + k, none⟩ = some (.int .u32 f) := by rw [hf2]; exact HR.own.ext.cell (Hcy.out k hkm)
    have hltf : f < 4294967296 := by rw [hf2]; exact Hy.out.get (by decide) _
    obtain rfl := Hay.out (by omega)
    have Hf2 : Hid (f = y.getD k 0) := hf2
    clear hf2
    go_wp2
    go_roundw
    case rel => exact ⟨k + 1, _, _, by go_num, vint (by rw [w64, w64]; omega), HR.step hkn Hd2.out Hf2.out hlt hltf _ (by rw [w64, w64]; omega)⟩
    case measure => simp [intOf]; omega
   ·go_wp2
    go_roundw
    case rel => exact ⟨k + 1, _, _, by go_num, vint (by rw [w64]; omega), HR.step hkn Hd2.out (f := 0) (by rw [getD_ge (by rw [Hm.out]; exact hkm)]) hlt (by decide) _ (by rw [w64]; omega)⟩
    case measure => simp [intOf]; omega
  ·obtain rfl : k = n := by omega
   have HO := HR.own
   go_wp2_with (go_at_call 53; refine (cut_c _ _ _ (HO.slat (by unfold maxLen; omega)) HO.dig (by rw [HO.len]; omega)).mono ?_; rintro e w1 ⟨a1, n1, c1, rfl, h1, hb1⟩)
   go_ret
   have hv := HR.val
   rw [List.take_of_length_le (by rw [Hm.out]; exact hxy), List.take_of_length_le (by rw [Hn.out]; exact Nat.le_refl _)] at hv
   have hlt := Vn.dv_lt (by decide) HO.dig
   rw [HO.len] at hlt
   have hle := Hv.out
   have e1 : dv 4294967296 o = dv 4294967296 x - dv 4294967296 y := by
    rcases (show q = 0 ∨ q = 1 from by omega) with rfl | rfl
    ·omega
    ·omega
   rw [e1] at h1
   exact ⟨a1, n1, c1, rfl, h1, HO.ext.trans hb1⟩
theorem norm_len {l m : List Nat} (hl : Norm 4294967296 l) (hm : Norm 4294967296 m) (h : dv 4294967296 l ≤ dv 4294967296 m) : l.length ≤ m.length := by
 rcases Nat.lt_or_ge m.length l.length with hlt | hge
 ·have := Norm.lt_of_len (by decide) hm.dig hl hlt; omega
 ·exact hge
theorem sub_c (x y : Value) (M N K : Nat) (w : World) (hx : NatV w x M) (hy : NatV w y N) (sx : Sm K M) (hK : K ≤ 100000000) (hle : N ≤ M) :
  Calls Tryz.prog 78 #[x, y] w fun e w' => ∃ a k cap, e = .returned (.slice a k cap) ∧ NatV w' (.slice a k cap) (M - N) ∧ Ext w w' := by
 obtain ⟨a, b, off, n, cap, l, rfl, h1, h2, h3, h4, h5, h6, h7, h8⟩ := hx.open
 obtain ⟨a', b', off', n', cap', l', rfl, h1', h2', h3', h4', h5', h6', h7', h8'⟩ := hy.open
 have e1 := sx.len h5.out h6.out
 have e2 : l'.length ≤ l.length := norm_len h5'.out h5.out (by rw [h6.out, h6'.out]; exact hle)
 rw [h3.out] at e1 e2
 rw [h3'.out] at e2
 have := sub_core a a' b off cap b' off' cap' l l' n n' w h3 h3' e2 (by omega) h4 h4' (hid h5.out.dig) (hid h5'.out.dig) (hid (by rw [h6.out, h6'.out]; exact hle)) h7 h7'
 rw [h6.out, h6'.out] at this
 exact this
end Go.Proofs.YtajecapgmdfjcaaGreatDoor

/- Natural numbers in words of 32 bits: mul returns the product. -/
namespace Go.Proofs.YtajecapgmdfjcaaGreatDoor
open Go.RowKit Vn
structure MulRel (x y : List Nat) (n m : Nat) (w : World) (k : Nat) (o : List Nat) (wr : World) : Prop where
 hk : k ≤ n
 zero : Zero o (k + m)
 val : dv 4294967296 o = dv 4294967296 (x.take k) * dv 4294967296 y
 own : Own w wr w.heap.size o (n + m)
structure MulIn (x y : List Nat) (n m : Nat) (w : World) (k d : Nat) (j c : Nat) (o : List Nat) (wr : World) : Prop where
 hj : j ≤ m
 hc : c < 4294967296
 zero : Zero o (k + m)
 val : dv 4294967296 o + c * 4294967296 ^ (k + j) = dv 4294967296 (x.take k) * dv 4294967296 y + d * dv 4294967296 (y.take j) * 4294967296 ^ k
 own : Own w wr w.heap.size o (n + m)
theorem mulBound {c d f o : Nat} (hc : c < 4294967296) (hd : d < 4294967296) (hf : f < 4294967296) (ho : o < 4294967296) : c + d * f + o < 18446744073709551616 := by
 have : d * f ≤ 4294967295 * 4294967295 := Nat.mul_le_mul (by omega) (by omega)
 omega
theorem MulIn.step {x y : List Nat} {n m : Nat} {w : World} {k d j c : Nat} {o : List Nat} {wr : World} (h : MulIn x y n m w k d j c o wr) (hk : k < n) (hj : j < m) (hd : d < 4294967296) {f : Nat}
  (hf : f = y.getD j 0) (hf' : f < 4294967296) (e : Int) (he : e = (((c + d * f + o.getD (k + j) 0) % 4294967296 : Nat) : Int)) :
  MulIn x y n m w k d (j + 1) ((c + d * f + o.getD (k + j) 0) / 4294967296) (o.set (k + j) ((c + d * f + o.getD (k + j) 0) % 4294967296)) (wr.setCell ⟨w.heap.size, k + j, none⟩ (.int .u32 e)) := by
 have hl : k + j < o.length := by rw [h.own.len]; omega
 have ho : o.getD (k + j) 0 < 4294967296 := h.own.dig.get (by decide) _
 have hb := mulBound h.hc hd hf' ho
 refine ⟨by omega, by omega, ?_, ?_, h.own.set (Nat.le_refl _) _ _ e he (by omega)⟩
 ·intro i hi
  rw [getD_set _ _ _ _ hl, if_neg (by omega)]
  exact h.zero i hi
 ·rw [dv_take_succ', ← hf]
  exact mul_step h.val (Nat.mod_add_div _ _).symm (dv_set _ o _ _ hl)
theorem MulIn.start {x y : List Nat} {n m : Nat} {w : World} {k : Nat} {o : List Nat} {wr : World} (h : MulRel x y n m w k o wr) (d : Nat) : MulIn x y n m w k d 0 0 o wr :=
 ⟨Nat.zero_le _, by decide, h.zero, by simp [h.val, dv], h.own⟩
theorem MulIn.finish {x y : List Nat} {n m : Nat} {w : World} {k d c : Nat} {o : List Nat} {wr : World} (h : MulIn x y n m w k d m c o wr) (hk : k < n) (hd : d = x.getD k 0) (hm : y.length = m) (e : Int) (he : e = (c : Int)) :
  MulRel x y n m w (k + 1) (o.set (k + m) c) (wr.setCell ⟨w.heap.size, k + m, none⟩ (.int .u32 e)) := by
 have hl : k + m < o.length := by rw [h.own.len]; omega
 refine ⟨by omega, ?_, ?_, h.own.set (Nat.le_refl _) _ _ e he h.hc⟩
 ·have := h.zero.set c hl
  rwa [show k + 1 + m = k + m + 1 by omega]
 ·rw [dv_set_zero _ h.zero _ hl, h.val, dv_take_succ', ← hd, List.take_of_length_le (Nat.le_of_eq hm)]
  grind
set_option maxRecDepth 100000 in
set_option maxHeartbeats 2000000 in
theorem mul_core (aa ab : Option Addr) (ba oa ca bb ob cb : Nat) (x y : List Nat) (n m : Nat) (w : World) (Hn : Hid (x.length = n)) (Hm : Hid (y.length = m)) (hn : n ≤ 100000000000) (hm : m ≤ 100000000000)
  (Hax : Hid (0 < n → aa = some ⟨ba, oa, none⟩)) (Hay : Hid (0 < m → ab = some ⟨bb, ob, none⟩))
  (Hx : Hid (Dig 4294967296 x)) (Hy : Hid (Dig 4294967296 y)) (Hcx : Cells w ba oa n x) (Hcy : Cells w bb ob m y) :
  Calls Tryz.prog 74 #[.slice aa n ca, .slice ab m cb] w fun e w' => ∃ a k cap, e = .returned (.slice a k cap) ∧ NatV w' (.slice a k cap) (dv 4294967296 x * dv 4294967296 y) ∧ Ext w w' := by
 have hmk := mkNat (n + m) ((n : Int) + (m : Int)) (by omega) (by omega)
 go_enter Tryz.func74, Tryz.ntmps74
 go_wp2
 go_loopw [19] (fun i wr => ∃ (k : Nat) (o : List Nat), i = .int .i64 k ∧ MulRel x y n m w k o wr) (fun i _ => n - (intOf i).toNat)
 case atStart => exact ⟨0, _, rfl, Nat.zero_le _, Zero.replicate _ _, by simp [dv_replicate, dv], Own.init w _⟩
 case round =>
  obtain ⟨k, o, rfl, HR⟩ := hrel
  have hk := HR.hk
  rcases Nat.lt_or_ge k n with hkn | hkn
  ·obtain ⟨d, hd2⟩ : ∃ d, d = x.getD k 0 := ⟨_, rfl⟩
   have hcell : wr.cell? ⟨ba, oa + k, none⟩ = some (.int .u32 d) := by rw [hd2]; exact HR.own.ext.cell (Hcx.out k hkn)
   have hlt : d < 4294967296 := by rw [hd2]; exact Hx.out.get (by decide) _
   obtain rfl := Hax.out (by omega)
   have Hd2 : Hid (d = x.getD k 0) := hd2
   clear hd2
   obtain ⟨wo, rfl⟩ : ∃ wo : World, wo = wr := ⟨_, rfl⟩
   go_wp2
   go_loopw [8, 26] (fun c j wi => ∃ (q p : Nat) (o' : List Nat), j = .int .i64 p ∧ c = .int .u64 q ∧ MulIn x y n m w k d p q o' wi) (fun _ j _ => m - (intOf j).toNat)
   case atStart => exact ⟨0, 0, o, rfl, rfl, MulIn.start HR d⟩
   case round =>
    clear HR hcell
    obtain ⟨q, p, o', rfl, rfl, HI⟩ := hrel
    have hj := HI.hj
    have hc := HI.hc
    rcases Nat.lt_or_ge p m with hpm | hpm
    ·obtain ⟨f, hf2⟩ : ∃ f, f = y.getD p 0 := ⟨_, rfl⟩
     have hcelf : wr.cell? ⟨bb, ob + p, none⟩ = some (.int .u32 f) := by rw [hf2]; exact HI.own.ext.cell (Hcy.out p hpm)
     have hltf : f < 4294967296 := by rw [hf2]; exact Hy.out.get (by decide) _
     obtain rfl := Hay.out (by omega)
     have Hf2 : Hid (f = y.getD p 0) := hf2
     clear hf2
     obtain ⟨t, ht⟩ : ∃ t, t = o'.getD (k + p) 0 := ⟨_, rfl⟩
     have hout : wr.cell? ⟨w.heap.size, k + p, none⟩ = some (.int .u32 t) := by rw [ht]; exact HI.own.cell (by omega)
     have hto : t < 4294967296 := by rw [ht]; exact HI.own.dig.get (by decide) _
     have hfr := HI.own.free (k + p)
     have Ht : Hid (t = o'.getD (k + p) 0) := ht
     clear ht
     have hdf : 0 ≤ (d : Int) * (f : Int) := Int.mul_nonneg (by omega) (by omega)
     have hdf2 : (d : Int) * (f : Int) ≤ 18446744065119617025 := by
      have := Nat.mul_le_mul (show d ≤ 4294967295 by omega) (show f ≤ 4294967295 by omega)
      have h2 : ((d * f : Nat) : Int) ≤ ((4294967295 * 4294967295 : Nat) : Int) := Int.ofNat_le.2 this
      simpa using h2
     have hcast : ((d * f : Nat) : Int) = (d : Int) * (f : Int) := Int.natCast_mul _ _
     have Hcast := hid hcast
     clear hcast
     go_wp2
     go_roundw
     case rel =>
      refine ⟨_, p + 1, _, by go_num, vint ?_, HI.step hkn hpm hlt Hf2.out hltf _ ?_⟩
      ·rw [← Ht.out]; have := Hcast.out; generalize d * f = g at *; generalize (d : Int) * (f : Int) = g' at *; subst this; omega
      ·rw [← Ht.out]; have := Hcast.out; generalize d * f = g at *; generalize (d : Int) * (f : Int) = g' at *; subst this; omega
     case measure => simp [intOf]; omega
    ·obtain rfl : p = m := by omega
     have hout := HI.own.cell (k := k + p) (by omega)
     rw [HI.zero _ (Nat.le_refl _)] at hout
     have hfr := HI.own.free (k + p)
     go_wp2
     go_roundw
     case rel => exact ⟨k + 1, _, by go_num, MulIn.finish HI hkn Hd2.out Hm.out _ rfl⟩
     case measure => simp [intOf]; omega
  ·obtain rfl : k = n := by omega
   have HO := HR.own
   go_wp2_with (go_at_call 53; refine (cut_c _ _ _ (HO.slat (by unfold maxLen; omega)) HO.dig (by rw [HO.len]; omega)).mono ?_; rintro e w1 ⟨a1, n1, c1, rfl, h1, hb1⟩)
   go_ret
   have hv := HR.val
   rw [List.take_of_length_le (by rw [Hn.out]; exact Nat.le_refl _)] at hv
   rw [hv] at h1
   exact ⟨a1, n1, c1, rfl, h1, HO.ext.trans hb1⟩
theorem mul_c (x y : Value) (M N K : Nat) (w : World) (hx : NatV w x M) (hy : NatV w y N) (sx : Sm K M) (sy : Sm K N) (hK : K ≤ 100000000) :
  Calls Tryz.prog 74 #[x, y] w fun e w' => ∃ a k cap, e = .returned (.slice a k cap) ∧ NatV w' (.slice a k cap) (M * N) ∧ Ext w w' := by
 obtain ⟨a, b, off, n, cap, l, rfl, h1, h2, h3, h4, h5, h6, h7, h8⟩ := hx.open
 obtain ⟨a', b', off', n', cap', l', rfl, h1', h2', h3', h4', h5', h6', h7', h8'⟩ := hy.open
 have e1 := sx.len h5.out h6.out
 have e2 := sy.len h5'.out h6'.out
 rw [h3.out] at e1
 rw [h3'.out] at e2
 have := mul_core a a' b off cap b' off' cap' l l' n n' w h3 h3' (by omega) (by omega) h4 h4' (hid h5.out.dig) (hid h5'.out.dig) h7 h7'
 rw [h6.out, h6'.out] at this
 exact this
end Go.Proofs.YtajecapgmdfjcaaGreatDoor
