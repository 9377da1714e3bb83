/- exact: groups: the digits of a text come in groups of at most nine. -/
import Derived.Shelf.Abstract
import Derived.Shelf.RegionOpen
import Derived.OwnWalkIn
import Derived.TacticsInMore
import Derived.LoopNIn
import Derived.LoopIn
import Derived.Test.YtajecapgmdfjcaaGreatDoorN11
namespace Go.Proofs.YtajecapgmdfjcaaGreatDoor
open Go.RowKit Vn Go.Shelf
attribute [local go_sem] Oper.semAt_some
def decV (l : List UInt8) : Nat := l.foldl (fun n b => 10 * n + (b.toNat - 48)) 0
def Digs (l : List UInt8) : Prop := ∀ b ∈ l, 48 ≤ b.toNat ∧ b.toNat ≤ 57
theorem decV_snoc (l : List UInt8) (b : UInt8) : decV (l ++ [b]) = 10 * decV l + (b.toNat - 48) := by simp [decV]
theorem decV_lt : ∀ (n : Nat) (l : List UInt8), l.length = n → Digs l → decV l < 10 ^ n
 | 0, l, h, _ => by have : l = [] := List.eq_nil_of_length_eq_zero h; subst this; decide
 | n + 1, l, h, hd => by
  obtain ⟨x, b, rfl⟩ : ∃ x b, l = x ++ [b] := ⟨l.dropLast, l.getLast (by intro e; simp [e] at h), (List.dropLast_concat_getLast _).symm⟩
  have h1 := decV_lt n x (by simpa using h) (fun c hc => hd c (by simp [hc]))
  have h2 := hd b (by simp)
  rw [decV_snoc, Nat.pow_succ]
  omega
theorem ar_size (l : List UInt8) : (ByteArray.mk l.toArray).size = l.length := by simp [ByteArray.size]
theorem decV_append : ∀ (n : Nat) (a b : List UInt8), b.length = n → decV (a ++ b) = decV a * 10 ^ b.length + decV b
 | 0, a, b, h => by have : b = [] := List.eq_nil_of_length_eq_zero h; subst this; simp [decV]
 | n + 1, a, b, h => by
  obtain ⟨x, c, rfl⟩ : ∃ x c, b = x ++ [c] := ⟨b.dropLast, b.getLast (by intro e; simp [e] at h), (List.dropLast_concat_getLast _).symm⟩
  rw [← List.append_assoc, decV_snoc, decV_snoc, decV_append n a x (by simpa using h), List.length_append, List.length_singleton, Nat.pow_succ]
  rw [← Nat.mul_assoc (decV a)]
  generalize decV a * 10 ^ x.length = Q
  omega
def encG (x : List UInt8) : Array Value := #[.int .u32 (decV x : Nat), .int .u32 (10 ^ x.length : Nat)]
def okG (ds : List UInt8) (pre : List (List UInt8)) (x : List UInt8) : Prop := x ≠ [] ∧ x.length ≤ 9 ∧ Digs x ∧ ∃ r, ds = (pre ++ [x]).flatten ++ r
def leftG (bc : Nat) (w : World) : Nat := match w.cell? ⟨bc, 0, none⟩ with | some (.string s) => s.size | _ => 0
theorem leftG_box {w : World} {bc : Nat} {r : List UInt8} {T : TypeId} (h : Box w bc #[.string ⟨r.toArray⟩] T) : leftG bc w = r.length := by
 have : w.cell? ⟨bc, 0, none⟩ = some (.string ⟨r.toArray⟩) := h.cell 0
 simp [leftG, this, ar_size]
theorem extract_one (b : UInt8) (r : List UInt8) : (ByteArray.mk (b :: r).toArray).extract 1 (r.length + 1) = ⟨r.toArray⟩ := by
 apply ByteArray.ext
 rw [ByteArray.data_extract]
 simp
set_option maxRecDepth 100000 in
set_option maxHeartbeats 4000000 in
theorem groups_seq (F : Fence) (n : Nat) (hF : F.fn 184) (hro : F.round = none) (hn : 1 ≤ n) (bc : Nat) (ds : List UInt8) (hd : Digs ds) (hlen : ds.length < 4611686018427387904) :
  SeqBox F n Tryz.prog 184 #[.pointer (some ⟨bc, 0, none⟩)] encG (okG ds) (fun xs => xs.flatten = ds) bc 9 #[.string ⟨ds.toArray⟩] := by
 intro l J W hJs hY h0 hB
 refine callsIn_of_wp Tryz.func184 rfl hF ?_ hro
 simp only [Tryz.ntmps184, List.size_toArray, List.length_cons, List.length_nil, Nat.reduceAdd, Nat.reduceSub, Array.replicate_succ, Array.replicate_zero, List.push_toArray, List.append_toArray, List.nil_append, List.cons_append]
 gi_wp2
 gi_loopw [] (fun wr => ∃ (pre : List (List UInt8)) (rest : List UInt8), ds = pre.flatten ++ rest ∧ Box wr bc #[.string ⟨rest.toArray⟩] 9 ∧ J pre wr)
  (fun wr => leftG bc wr)
 case atStart =>
  exact ⟨[], ds, rfl, hB, h0⟩
 case round =>
  obtain ⟨pre, rest, hx, hB1, hJ1⟩ := hrel
  have c0 : wr.cell? ⟨bc, 0, none⟩ = some (.string ⟨rest.toArray⟩) := hB1.cell 0
  have f0 : wr.frozen? ⟨bc, 0, none⟩ = false := hB1.free 0
  have z0 := ar_size rest
  have z1 : rest.length < 4611686018427387904 := by rw [hx] at hlen; simp at hlen; omega
  cases rest with
  | nil =>
   gi_wp2
   go_end0
   exact ⟨⟨_, rfl⟩, pre, by simp [hx], hJ1⟩
  | cons b0 rest =>
   gi_wp2
   have HL1 := hid (leftG_box hB1)
   gi_loopw [3, 4, 5] (fun v s i wr => ∃ (x r : List UInt8), b0 :: rest = x ++ r ∧ v = .int .u32 (decV x : Nat) ∧ s = .int .u32 (10 ^ x.length : Nat) ∧ i = .int .i64 (x.length : Nat) ∧ x.length ≤ 9 ∧ Box wr bc #[.string ⟨r.toArray⟩] 9 ∧ J pre wr)
    (fun v s i wr => leftG bc wr)
   case atStart => exact ⟨[], b0 :: rest, rfl, rfl, rfl, rfl, by decide, hB1, hJ1⟩
   case round =>
    obtain ⟨x, r, hxr, rfl, rfl, rfl, hx9, hB2, hJ2⟩ := hrel
    have d0 : wr.cell? ⟨bc, 0, none⟩ = some (.string ⟨r.toArray⟩) := hB2.cell 0
    have g0 : wr.frozen? ⟨bc, 0, none⟩ = false := hB2.free 0
    have y0 := ar_size r
    have hdx : Digs x := fun c hc => hd c (by rw [hx, hxr]; simp [hc])
    have hv := decV_lt x.length x rfl hdx
    obtain ⟨V, hV⟩ : ∃ V, V = decV x := ⟨_, rfl⟩
    obtain ⟨S, hS⟩ : ∃ S, S = 10 ^ x.length := ⟨_, rfl⟩
    rw [← hV, ← hS] at hv ⊢
    have HV := hid hV
    have HS := hid hS
    have HX := hid hx
    have HXR := hid hxr
    have hl2 : x.length + r.length = rest.length + 1 := by have := congrArg List.length hxr; simp at this; omega
    have YY : okG ds pre x → ∃ fn tmps assign body, (Instr.yield l #[.int .u32 (V : Nat), .int .u32 (S : Nat)]).run Tryz.prog wr = .ok (.round l fn tmps assign body) wr ∧
      RoundIn F (n - 1) Tryz.prog l fn tmps assign body wr fun e W' => e = .returned (.bool true) ∧ J (pre ++ [x]) W' ∧ ∀ cs, Box wr bc cs 9 → Box W' bc cs 9 := fun ho => by
     rw [hV, hS]; exact hY pre x wr hJ2 ho
    by_cases h9 : x.length < 9
    ·have i9 : ((x.length : Nat) : Int) < 9 := by omega
     cases r with
     | nil =>
      obtain ⟨fn, tmps, assign, body, hy, hR⟩ := YY ⟨by intro e; subst e; simp at hxr, hx9, hdx, [], by rw [hx, hxr]; simp⟩
      clear hV hS hx hxr hv YY hl2
      gi_wp2
      refine hR.mono ?_
      rintro e W3 ⟨rfl, hJ3, hB3⟩
      gi_wp2
      exact ⟨⟨pre ++ [x], [], by rw [HX.out, HXR.out]; simp, hB3 _ hB2, hJ3⟩, by rw [leftG_box (hB3 _ hB2), HL1.out]; simp⟩
     | cons b r =>
      have hb := hd b (by rw [hx, hxr]; simp)
      have e8 : 10 ^ x.length ≤ 10 ^ 8 := Nat.pow_le_pow_right (by decide) (by omega)
      obtain ⟨B, hBn⟩ : ∃ B, B = b.toNat := ⟨_, rfl⟩
      rw [← hS] at e8
      rw [← hBn] at hb
      have HBB := hid hBn
      have v1 : (V : Int) < 100000000 := by omega
      have s1 : (S : Int) ≤ 100000000 := by omega
      have b1 : (48 : Int) ≤ B := by omega
      have b2 : (B : Int) ≤ 57 := by omega
      have e0 : ∀ h, ((ByteArray.mk (b :: r).toArray)[0]'h).toNat = B := fun _ => hBn.symm
      clear e8 hv hV hS hx hxr YY hl2 hBn
      gi_wp2
      refine ⟨⟨x ++ [b], r, by rw [HXR.out]; simp, ?_, ?_, ?_, ?_, ?_, hJs _ _ _ hJ2⟩, ?_⟩
      ·rw [decV_snoc, ← HV.out, ← HBB.out]; congr 1; omega
      ·rw [List.length_append, List.length_singleton, Nat.pow_succ, ← HS.out]; congr 1; omega
      ·simp
      ·simp; omega
      ·have := hB2.set 0 (.string ((ByteArray.mk (b :: r).toArray).extract 1 (r.length + 1))); rw [extract_one] at this ⊢; exact this
      ·rw [leftG_box (r := r) (T := 9) (by have := hB2.set 0 (.string ((ByteArray.mk (b :: r).toArray).extract 1 (r.length + 1))); rw [extract_one] at this ⊢; exact this), leftG_box hB2]; simp
    ·have i9 : ¬ ((x.length : Nat) : Int) < 9 := by omega
     obtain ⟨fn, tmps, assign, body, hy, hR⟩ := YY ⟨by intro e; subst e; simp at h9, hx9, hdx, r, by rw [hx, hxr]; simp⟩
     clear hV hS hx hxr hv YY hl2
     gi_wp2
     refine hR.mono ?_
     rintro e W3 ⟨rfl, hJ3, hB3⟩
     gi_wp2
     exact ⟨⟨pre ++ [x], r, by rw [HX.out, HXR.out]; simp, hB3 _ hB2, hJ3⟩, by rw [leftG_box (hB3 _ hB2), HL1.out]; have := congrArg List.length HXR.out; simp at this ⊢; omega⟩
end Go.Proofs.YtajecapgmdfjcaaGreatDoor
