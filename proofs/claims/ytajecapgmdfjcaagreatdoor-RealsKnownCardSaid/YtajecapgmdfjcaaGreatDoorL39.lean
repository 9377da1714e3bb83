/- The law's lists; which nodes are needed. -/
import Derived.Test.YtajecapgmdfjcaaGreatDoorL37
import Derived.Test.YtajecapgmdfjcaaGreatDoorL38
namespace Go.Proofs.YtajecapgmdfjcaaGreatDoor
open Go.RowKit Vn
theorem cNum {s : ByteArray} : Cal Tryz.prog OQ 13 [sA s] (.g [.v (.int .i64 1), .v (.int .i64 0), .v (.int .i64 0), .v (.string s)]) := by
 refine fn_call TK MX Tryz.func13 rfl (by kernel_rfl) (by kernel_rfl) (by kernel_rfl) rfl rfl ?_
 conv => whnf
 rfl
theorem cOne {k a : Int} : Cal Tryz.prog OQ 14 [iA k, iA a] (ndA ⟨k, a, 0, []⟩) := by
 refine fn_call TK MX Tryz.func14 rfl (by kernel_rfl) (by kernel_rfl) (by kernel_rfl) rfl rfl ?_
 conv => whnf
 rfl
theorem cTwoN {k a b : Int} : Cal Tryz.prog OQ 15 [iA k, iA a, iA b] (ndA ⟨k, a, b, []⟩) := by
 refine fn_call TK MX Tryz.func15 rfl (by kernel_rfl) (by kernel_rfl) (by kernel_rfl) rfl rfl ?_
 conv => whnf
 rfl
def nestL (x y : List UInt8) : List Nd := [⟨1, 0, 0, x⟩, ⟨1, 0, 0, y⟩, ⟨4, 0, 0, []⟩, ⟨4, 1, 0, []⟩, ⟨7, 2, 3, []⟩, ⟨5, 4, 4, []⟩, ⟨5, 0, 1, []⟩, ⟨5, 6, 5, []⟩, ⟨4, 7, 0, []⟩, ⟨5, 2, 3, []⟩, ⟨6, 8, 9, []⟩]
set_option maxHeartbeats 1000000 in
theorem cNested {x y : List UInt8} : Cal Tryz.prog OQ 11 [sA (ba x), sA (ba y)] (lsA (nestL x y)) := by
 refine fn_call TK MX Tryz.func11 rfl (by kernel_rfl) (by kernel_rfl) (by kernel_rfl) rfl rfl ?_
 conv => whnf
 repeat (first | (refine ⟨_, cNum, ?_⟩; conv => whnf) | (refine ⟨_, cOne, ?_⟩; conv => whnf) | (refine ⟨_, cTwoN, ?_⟩; conv => whnf))
 rfl
theorem cBackward {l : List Nd} : Cal Tryz.prog OQ 128 [lsA l] (.c (.cl 159 [.e [lsC l]])) := by
 refine fn_call TK MX Tryz.func128 rfl (by kernel_rfl) (by kernel_rfl) (by kernel_rfl) rfl rfl ?_
 conv => whnf
 rfl
noncomputable def FTn : FTab := fun k => cond (Nat.beq k 159) (some ⟨Tryz.f159, [], [], 0, 0, []⟩) none
theorem FTn_ok : FTOK Tryz.prog FTn := by
 intro k E h
 unfold FTn at h
 cases hb : Nat.beq k 159 with
 | false => rw [hb] at h; cases h
 | true =>
  rw [hb] at h; cases h
  have := Nat.eq_of_beq_eq_true hb
  subst this
  exact ⟨Tryz.func159, by kernel_rfl, ⟨_, rfl⟩, by decide, by kernel_rfl⟩
def bC (b : Bool) : List AC := [.v (.bool b)]
end Go.Proofs.YtajecapgmdfjcaaGreatDoor

/- Contracts whose premises are one check. -/
namespace Go.Proofs.YtajecapgmdfjcaaGreatDoor
open Go.RowKit Vn
theorem canB_ok : ∀ {x : El}, canB x = true → CanE x
 | [], _ => CanE.nil
 | p :: L, h => by
  simp only [canB, Bool.and_eq_true, decide_eq_true_eq, List.all_eq_true] at h
  have ih := canB_ok h.2
  refine ⟨List.pairwise_cons.2 ⟨fun q hq => h.1.2 q hq, ih.1⟩, fun q hq => ?_⟩
  cases hq with
  | head => exact h.1.1
  | tail _ hq => exact ih.2 q hq
def towC : List El → AC
 | [] => .v (.slice none 0 0)
 | c :: cs => .sl 1 (rowsE (c :: cs))
theorem tow_weak {k : FuncId} {t : List El} {rest : List AC} {args : List AV} {r : AV} (h : Cal Tryz.prog OQ k (tA t rest :: args) r) : Cal Tryz.prog OQ k (.c (.e (towC t :: rest)) :: args) r := by
 cases t with
 | cons c cs => exact h
 | nil =>
  refine cal_weak h fun S w vs hv => ?_
  match vs, hv with
  | v1 :: vs, hv =>
   obtain ⟨h1, h2⟩ := hv
   refine ⟨?_, h2⟩
   have h1 : Rep0 OQ S w (.e (.v (.slice none 0 0) :: rest)) v1 := h1
   show Rep0 OQ S w (.e (.sl 1 [] :: rest)) v1
   simp only [Rep0, RepRow] at h1 ⊢
   obtain ⟨b, off, hb, e, ⟨x, hx, hx2, _⟩, hr⟩ := h1
   refine ⟨b, off, hb, e, ⟨x, hx, none, 0, 0, 0, ?_, fun h => absurd h (by simp), by simp only [RepRows]⟩, hr⟩
   rw [hx2]; rfl
def towB (K : Nat) (t : List El) : Bool := decide (0 < K ∧ K ≤ 100000 ∧ t.length ≤ 3) && (t.all canB && rootsB K 64 t [])
def sgnB (K : Nat) (t : List El) (m f : Nat) (x : El) (s : Int) : Bool := towB K t && (canB x && (signB K t m f x && decide (signE t m f x = s)))
theorem sgnT (t : List El) (x : El) (K m f : Nat) (s : Int) (rest : List AC) (h : sgnB K t m f x s = true) : Cal Tryz.prog OQ 29 [.c (.e (towC t :: rest)), eA x] (iA s) := by
 simp only [sgnB, towB, Bool.and_eq_true, decide_eq_true_eq, List.all_eq_true] at h
 obtain ⟨⟨⟨h1, h2, h3⟩, h4, h5⟩, h6, h7, h8⟩ := h
 rw [← h8]
 exact tow_weak (cSignT h1 h2 (fun c hc => canB_ok (h4 c hc)) h3 h5 f x rest (canB_ok h6) h7)
def mulTB (K : Nat) (t : List El) (f : Nat) (x y z : El) : Bool := decide (0 < K ∧ t.length ≤ 60) && (t.all canB && (canB x && (canB y && (mulB K t f x y && decide (mulE t f x y = z)))))
theorem mulT (t : List El) (x y z : El) (K f : Nat) (rest : List AC) (h : mulTB K t f x y z = true) : Cal Tryz.prog OQ 109 [.c (.e (towC t :: rest)), eA x, eA y] (eA z) := by
 simp only [mulTB, Bool.and_eq_true, decide_eq_true_eq, List.all_eq_true] at h
 obtain ⟨⟨h1, h3⟩, h4, h6, h7, h8, h9⟩ := h
 rw [← h9]
 exact tow_weak (cMulE h1 (fun c hc => canB_ok (h4 c hc)) h3 f x y rest (canB_ok h6) (canB_ok h7) h8)
def addB (K : Nat) (x y z : El) : Bool := decide (0 < K ∧ K ≤ 100000) && (canB x && (canB y && (smB K x && (smB K y && decide (addE x y = z)))))
theorem addT (x y z : El) (K : Nat) (h : addB K x y z = true) : CalN Tryz.prog OQ 73 [eA x, eA y] (eA z) := by
 simp only [addB, Bool.and_eq_true, decide_eq_true_eq] at h
 obtain ⟨⟨h1, h2⟩, h3, h4, h5, h6, h7⟩ := h
 rw [← h7]
 exact nAdd (canB_ok h3) (canB_ok h4) (smB_ok h5) (smB_ok h6) h1 h1 (by omega)
def subB (K : Nat) (x y z : El) : Bool := decide (0 < K ∧ K ≤ 100000) && (canB x && (canB y && (smB K x && (smB K y && decide (subE x y = z)))))
theorem subT (x y z : El) (K : Nat) (h : subB K x y z = true) : CalN Tryz.prog OQ 36 [eA x, eA y] (eA z) := by
 simp only [subB, Bool.and_eq_true, decide_eq_true_eq] at h
 obtain ⟨⟨h1, h2⟩, h3, h4, h5, h6, h7⟩ := h
 rw [← h7]
 exact nSub (canB_ok h3) (canB_ok h4) (smB_ok h5) (smB_ok h6) h1 h1 (by omega)
def sclB (K : Nat) (x : El) (n : Rat) (z : El) : Bool := decide (0 < K ∧ K ≤ 100000) && (canB x && (smB K x && (smqB K n && decide (scaleE x n = z))))
theorem sclT (x : El) (n : Rat) (z : El) (K : Nat) (h : sclB K x n z = true) : CalN Tryz.prog OQ 72 [eA x, nA n] (eA z) := by
 simp only [sclB, Bool.and_eq_true, decide_eq_true_eq] at h
 obtain ⟨⟨h1, h2⟩, h3, h4, h5, h6⟩ := h
 rw [← h6]
 exact nScale (canB_ok h3) (smB_ok h4) (smqB_ok h5) (by omega)
def whlB (K : Nat) (n : Rat) (z : El) : Bool := decide (K ≤ 100000) && (smqB K n && decide (wholeE n = z))
theorem whlT (n : Rat) (z : El) (K : Nat) (h : whlB K n z = true) : CalN Tryz.prog OQ 37 [nA n] (eA z) := by
 simp only [whlB, Bool.and_eq_true, decide_eq_true_eq] at h
 rw [← h.2.2]
 exact nWhole (smqB_ok h.2.1) (by omega)
def parsB (l : List UInt8) (q : Rat) : Bool := decide (l.length ≤ 2100) && decide (parseV l = (q, 0))
theorem parsT (l : List UInt8) (q : Rat) (h : parsB l q = true) : Cal Tryz.prog OQ 64 [sA (ba l)] (.t [nA q, iA 0]) := by
 simp only [parsB, Bool.and_eq_true, decide_eq_true_eq] at h
 have := cParse (l := l) (by omega)
 rw [h.2] at this
 exact this
def digB (K : Nat) (q : Rat) (d : Int) : Bool := decide (K ≤ 1000000) && (smqB K q && decide (digE q = d))
theorem digT (q : Rat) (d : Int) (K : Nat) (h : digB K q d = true) : Cal Tryz.prog OQ 65 [nA q] (iA d) := by
 simp only [digB, Bool.and_eq_true, decide_eq_true_eq] at h
 have := cDigits (smqB_ok h.2.1) h.1
 rw [h.2.2] at this
 exact this
def rotB (K : Nat) (q r : Rat) (b : Bool) : Bool := decide (0 < q ∧ K ≤ 100000) && (smqB K q && ((sqB q.num.natAbs && sqB q.den) == b) && decide (cond b (rootR q) 0 = r))
theorem rotT (q r : Rat) (b : Bool) (K : Nat) (h : rotB K q r b = true) : Cal Tryz.prog OQ 157 [nA q] (.t [nA r, bA b]) := by
 simp only [rotB, Bool.and_eq_true, decide_eq_true_eq, beq_iff_eq] at h
 obtain ⟨⟨h1, h2⟩, ⟨h3, h4⟩, h5⟩ := h
 rw [← h5]
 exact cRootF (smqB_ok h3) h1 h2 b h4
def witB (K : Nat) (x : El) (i : Int) (n : Rat) (z : El) : Bool := decide (0 < K ∧ K ≤ 100000) && (smB K x && (smqB K n && decide (withE x i n = z)))
theorem witT (x : El) (i : Int) (n : Rat) (z : El) (K : Nat) (h : witB K x i n z = true) : CalH Tryz.prog OQ 71 true (keysE x) (valsE x) [iA i, nA n] (keysE z) (valsE z) := by
 simp only [witB, Bool.and_eq_true, decide_eq_true_eq] at h
 obtain ⟨⟨h1, h2⟩, h3, h4, h5⟩ := h
 rw [← h5]
 exact cWith ((smB_ok h3).get h1 i) (smqB_ok h4) (by omega)
theorem ratT (x : El) (q : Rat) (h : getE x 0 = q) : Cal Tryz.prog OQ 30 [eA x] (nA q) := by rw [← h]; exact cRational
def shfB (K : Nat) (x : El) (k : Int) (z : El) : Bool := decide (K ≤ 100000 ∧ -19000 ≤ k ∧ k ≤ 19000) && (canB x && (smB K x && decide (shiftE x k = z)))
theorem shfT (x : El) (k : Int) (z : El) (K : Nat) (h : shfB K x k z = true) : CalN Tryz.prog OQ 34 [eA x, iA k] (eA z) := by
 simp only [shfB, Bool.and_eq_true, decide_eq_true_eq] at h
 obtain ⟨⟨h1, h2, h3⟩, h4, h5, h6⟩ := h
 rw [← h6]
 exact nShift (canB_ok h4) (smB_ok h5) h2 h3 (by omega)
def flrB (K : Nat) (t : List El) (x : El) (n : Int) : Bool := towB K t && (encB K 64 (rootsE 64 t []) x && (smqB K (encE 64 (rootsE 64 t []) x).1 && (smqB K (encE 64 (rootsE 64 t []) x).2 && (decide ((encE 64 (rootsE 64 t []) x).1.floor = n) && decide ((encE 64 (rootsE 64 t []) x).2.floor = n)))))
theorem flrT (t : List El) (x : El) (K : Nat) (n : Int) (rest : List AC) (h : flrB K t x n = true) : Cal Tryz.prog OQ 33 [.c (.e (towC t :: rest)), eA x] (nA (n : Rat)) := by
 simp only [flrB, towB, Bool.and_eq_true, decide_eq_true_eq, List.all_eq_true] at h
 obtain ⟨⟨⟨h1, h2, h3⟩, h4, h5⟩, h6, h7, h8, h9, h10⟩ := h
 have := tow_weak (cFloorR h1 h2 h3 h5 rest h6 h7 h8 (by rw [h9, h10]))
 rw [h9] at this
 exact this
def txtB (K : Nat) (q : Rat) (l : List UInt8) : Bool := decide (K ≤ 1000000) && (smqB K q && decide ((numText q).data.toList = l))
theorem txtT (q : Rat) (l : List UInt8) (K : Nat) (h : txtB K q l = true) : Cal Tryz.prog OQ 10 [nA q] (sA (ba l)) := by
 simp only [txtB, Bool.and_eq_true, decide_eq_true_eq] at h
 have := cText (smqB_ok h.2.1) h.1
 have e : numText q = ba l := by rw [← h.2.2]; rfl
 rw [e] at this
 exact this
end Go.Proofs.YtajecapgmdfjcaaGreatDoor

/- The functions that open walks in place. -/
namespace Go.Proofs.YtajecapgmdfjcaaGreatDoor
open Go.RowKit Vn
def wC (ws : List Int) : AC := .sl 1 (ws.map fun w => [.v (.int .i64 w)])
noncomputable def FTo : FTab := fun k => cond (Nat.beq k 129) (some ⟨Tryz.f129, [], [], 0, 0, []⟩)
 (cond (Nat.beq k 127) (some ⟨Tryz.f127, [(1, [(3, 1000014), (5, 4), (10, 1000014), (12, 4)]), (3, [(3, 1000014), (11, 1000014), (13, 4), (23, 1000014), (25, 4)]), (24, [(5, 2000000)])], [(900, 901), (191, 902)], 20, 20, [3, 4, 6, 7, 8, 11, 12, 14, 990, 991, 901, 902]⟩)
 (cond (Nat.beq k 158) (some ⟨Tryz.f158, [(2, [(4, 2000014), (8, 2000000)])], [(12, 900)], 16, 20, [4, 11, 14, 1000003, 1000004, 1000006, 1000007, 1000008, 1000011, 1000012, 1000014, 1000990, 1000991, 1000901, 1000902, 900]⟩) none))
theorem FTo_ok : FTOK Tryz.prog FTo := by
 intro k E h
 unfold FTo at h
 cases hb : Nat.beq k 129 with
 | true =>
  rw [hb] at h; cases h
  have := Nat.eq_of_beq_eq_true hb
  subst this
  exact ⟨Tryz.func129, by kernel_rfl, ⟨_, rfl⟩, by decide, by kernel_rfl⟩
 | false =>
  rw [hb] at h
  cases hb : Nat.beq k 127 with
  | true =>
   rw [hb] at h; cases h
   have := Nat.eq_of_beq_eq_true hb
   subst this
   exact ⟨Tryz.func127, by kernel_rfl, ⟨_, rfl⟩, by decide, by kernel_rfl⟩
  | false =>
   rw [hb] at h
   cases hb : Nat.beq k 158 with
   | true =>
    rw [hb] at h; cases h
    have := Nat.eq_of_beq_eq_true hb
    subst this
    exact ⟨Tryz.func158, by kernel_rfl, ⟨_, rfl⟩, by decide, by kernel_rfl⟩
   | false => rw [hb] at h; cases h
end Go.Proofs.YtajecapgmdfjcaaGreatDoor
