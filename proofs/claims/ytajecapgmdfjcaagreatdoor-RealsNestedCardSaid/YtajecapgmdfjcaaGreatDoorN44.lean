/- The law's lists; which nodes are needed. -/
import Derived.Test.YtajecapgmdfjcaaGreatDoorN41
import Derived.Test.YtajecapgmdfjcaaGreatDoorN43
namespace Go.Proofs.YtajecapgmdfjcaaGreatDoor
open Go.RowKit Vn
theorem cNum {s : ByteArray} : Cal Tryz.prog OQ 13 [sA s] (.g [.v (.int .i64 1), .v (.int .i64 0), .v (.int .i64 0), .v (.string s)]) := by
 refine fn_call TK MX Tryz.func13 rfl (by kernel_rfl) (by kernel_rfl) (by kernel_rfl) rfl rfl ?_
 conv => whnf
 rfl
theorem cOne {k a : Int} : Cal Tryz.prog OQ 14 [iA k, iA a] (ndA ⟨k, a, 0, []⟩) := by
 refine fn_call TK MX Tryz.func14 rfl (by kernel_rfl) (by kernel_rfl) (by kernel_rfl) rfl rfl ?_
 conv => whnf
 rfl
theorem cTwoN {k a b : Int} : Cal Tryz.prog OQ 15 [iA k, iA a, iA b] (ndA ⟨k, a, b, []⟩) := by
 refine fn_call TK MX Tryz.func15 rfl (by kernel_rfl) (by kernel_rfl) (by kernel_rfl) rfl rfl ?_
 conv => whnf
 rfl
def nestL (x y : List UInt8) : List Nd := [⟨1, 0, 0, x⟩, ⟨1, 0, 0, y⟩, ⟨4, 0, 0, []⟩, ⟨4, 1, 0, []⟩, ⟨7, 2, 3, []⟩, ⟨5, 4, 4, []⟩, ⟨5, 0, 1, []⟩, ⟨5, 6, 5, []⟩, ⟨4, 7, 0, []⟩, ⟨5, 2, 3, []⟩, ⟨6, 8, 9, []⟩]
set_option maxHeartbeats 1000000 in
theorem cNested {x y : List UInt8} : Cal Tryz.prog OQ 11 [sA (ba x), sA (ba y)] (lsA (nestL x y)) := by
 refine fn_call TK MX Tryz.func11 rfl (by kernel_rfl) (by kernel_rfl) (by kernel_rfl) rfl rfl ?_
 conv => whnf
 repeat (first | (refine ⟨_, cNum, ?_⟩; conv => whnf) | (refine ⟨_, cOne, ?_⟩; conv => whnf) | (refine ⟨_, cTwoN, ?_⟩; conv => whnf))
 rfl
theorem cBackward {l : List Nd} : Cal Tryz.prog OQ 128 [lsA l] (.c (.cl 159 [.e [lsC l]])) := by
 refine fn_call TK MX Tryz.func128 rfl (by kernel_rfl) (by kernel_rfl) (by kernel_rfl) rfl rfl ?_
 conv => whnf
 rfl
noncomputable def FTn : FTab := fun k => cond (Nat.beq k 159) (some ⟨Tryz.f159, [], [], 0, 0, []⟩) none
theorem FTn_ok : FTOK Tryz.prog FTn := by
 intro k E h
 unfold FTn at h
 cases hb : Nat.beq k 159 with
 | false => rw [hb] at h; cases h
 | true =>
  rw [hb] at h; cases h
  have := Nat.eq_of_beq_eq_true hb
  subst this
  exact ⟨Tryz.func159, by kernel_rfl, ⟨_, rfl⟩, by decide, by kernel_rfl⟩
def bC (b : Bool) : List AC := [.v (.bool b)]
end Go.Proofs.YtajecapgmdfjcaaGreatDoor

/- Contracts whose premises are one check. -/
namespace Go.Proofs.YtajecapgmdfjcaaGreatDoor
open Go.RowKit Vn
theorem canB_ok : ∀ {x : El}, canB x = true → CanE x
 | [], _ => CanE.nil
 | p :: L, h => by
  simp only [canB, Bool.and_eq_true, decide_eq_true_eq, List.all_eq_true] at h
  have ih := canB_ok h.2
  refine ⟨List.pairwise_cons.2 ⟨fun q hq => h.1.2 q hq, ih.1⟩, fun q hq => ?_⟩
  cases hq with
  | head => exact h.1.1
  | tail _ hq => exact ih.2 q hq
def towC : List El → AC
 | [] => .v (.slice none 0 0)
 | c :: cs => .sl 1 (rowsE (c :: cs))
theorem tow_weak {k : FuncId} {t : List El} {rest : List AC} {args : List AV} {r : AV} (h : Cal Tryz.prog OQ k (tA t rest :: args) r) : Cal Tryz.prog OQ k (.c (.e (towC t :: rest)) :: args) r := by
 cases t with
 | cons c cs => exact h
 | nil =>
  refine cal_weak h fun S w vs hv => ?_
  match vs, hv with
  | v1 :: vs, hv =>
   obtain ⟨h1, h2⟩ := hv
   refine ⟨?_, h2⟩
   have h1 : Rep0 OQ S w (.e (.v (.slice none 0 0) :: rest)) v1 := h1
   show Rep0 OQ S w (.e (.sl 1 [] :: rest)) v1
   simp only [Rep0, RepRow] at h1 ⊢
   obtain ⟨b, off, hb, e, ⟨x, hx, hx2, _⟩, hr⟩ := h1
   refine ⟨b, off, hb, e, ⟨x, hx, none, 0, 0, 0, ?_, fun h => absurd h (by simp), by simp only [RepRows]⟩, hr⟩
   rw [hx2]; rfl
def towB (K : Nat) (t : List El) : Bool := decide (0 < K ∧ K ≤ 100000 ∧ t.length ≤ 3) && (t.all canB && rootsB K 64 t [])
def sgnB (K : Nat) (t : List El) (m f : Nat) (x : El) (s : Int) : Bool := towB K t && (canB x && (signB K t m f x && decide (signE t m f x = s)))
theorem sgnT (t : List El) (x : El) (K m f : Nat) (s : Int) (rest : List AC) (h : sgnB K t m f x s = true) : Cal Tryz.prog OQ 29 [.c (.e (towC t :: rest)), eA x] (iA s) := by
 simp only [sgnB, towB, Bool.and_eq_true, decide_eq_true_eq, List.all_eq_true] at h
 obtain ⟨⟨⟨h1, h2, h3⟩, h4, h5⟩, h6, h7, h8⟩ := h
 rw [← h8]
 exact tow_weak (cSignT h1 h2 (fun c hc => canB_ok (h4 c hc)) h3 h5 f x rest (canB_ok h6) h7)
def mulTB (K : Nat) (t : List El) (f : Nat) (x y z : El) : Bool := decide (0 < K ∧ t.length ≤ 60) && (t.all canB && (canB x && (canB y && (mulB K t f x y && decide (mulE t f x y = z)))))
theorem mulT (t : List El) (x y z : El) (K f : Nat) (rest : List AC) (h : mulTB K t f x y z = true) : Cal Tryz.prog OQ 109 [.c (.e (towC t :: rest)), eA x, eA y] (eA z) := by
 simp only [mulTB, Bool.and_eq_true, decide_eq_true_eq, List.all_eq_true] at h
 obtain ⟨⟨h1, h3⟩, h4, h6, h7, h8, h9⟩ := h
 rw [← h9]
 exact tow_weak (cMulE h1 (fun c hc => canB_ok (h4 c hc)) h3 f x y rest (canB_ok h6) (canB_ok h7) h8)
def addB (K : Nat) (x y z : El) : Bool := decide (0 < K ∧ K ≤ 100000) && (canB x && (canB y && (smB K x && (smB K y && decide (addE x y = z)))))
theorem addT (x y z : El) (K : Nat) (h : addB K x y z = true) : CalN Tryz.prog OQ 73 [eA x, eA y] (eA z) := by
 simp only [addB, Bool.and_eq_true, decide_eq_true_eq] at h
 obtain ⟨⟨h1, h2⟩, h3, h4, h5, h6, h7⟩ := h
 rw [← h7]
 exact nAdd (canB_ok h3) (canB_ok h4) (smB_ok h5) (smB_ok h6) h1 h1 (by omega)
def subB (K : Nat) (x y z : El) : Bool := decide (0 < K ∧ K ≤ 100000) && (canB x && (canB y && (smB K x && (smB K y && decide (subE x y = z)))))
theorem subT (x y z : El) (K : Nat) (h : subB K x y z = true) : CalN Tryz.prog OQ 36 [eA x, eA y] (eA z) := by
 simp only [subB, Bool.and_eq_true, decide_eq_true_eq] at h
 obtain ⟨⟨h1, h2⟩, h3, h4, h5, h6, h7⟩ := h
 rw [← h7]
 exact nSub (canB_ok h3) (canB_ok h4) (smB_ok h5) (smB_ok h6) h1 h1 (by omega)
def whlB (K : Nat) (n : Rat) (z : El) : Bool := decide (K ≤ 100000) && (smqB K n && decide (wholeE n = z))
theorem whlT (n : Rat) (z : El) (K : Nat) (h : whlB K n z = true) : CalN Tryz.prog OQ 37 [nA n] (eA z) := by
 simp only [whlB, Bool.and_eq_true, decide_eq_true_eq] at h
 rw [← h.2.2]
 exact nWhole (smqB_ok h.2.1) (by omega)
def parsB (l : List UInt8) (q : Rat) : Bool := decide (l.length ≤ 2100) && decide (parseV l = (q, 0))
theorem parsT (l : List UInt8) (q : Rat) (h : parsB l q = true) : Cal Tryz.prog OQ 64 [sA (ba l)] (.t [nA q, iA 0]) := by
 simp only [parsB, Bool.and_eq_true, decide_eq_true_eq] at h
 have := cParse (l := l) (by omega)
 rw [h.2] at this
 exact this
def digB (K : Nat) (q : Rat) (d : Int) : Bool := decide (K ≤ 1000000) && (smqB K q && decide (digE q = d))
theorem digT (q : Rat) (d : Int) (K : Nat) (h : digB K q d = true) : Cal Tryz.prog OQ 65 [nA q] (iA d) := by
 simp only [digB, Bool.and_eq_true, decide_eq_true_eq] at h
 have := cDigits (smqB_ok h.2.1) h.1
 rw [h.2.2] at this
 exact this
def rotB (K : Nat) (q r : Rat) (b : Bool) : Bool := cond (decide (q = 0)) (decide (r = 0) && b) (decide (0 < q ∧ K ≤ 100000) && (smqB K q && ((sqB q.num.natAbs && sqB q.den) == b) && decide (cond b (rootR q) 0 = r)))
theorem rotT (q r : Rat) (b : Bool) (K : Nat) (h : rotB K q r b = true) : Cal Tryz.prog OQ 157 [nA q] (.t [nA r, bA b]) := by
 unfold rotB at h
 by_cases h0 : q = 0
 ·rw [decide_eq_true h0, cond_true, Bool.and_eq_true, decide_eq_true_eq] at h
  rw [h0, h.1, h.2]
  exact cRoot0
 ·rw [decide_eq_false h0, cond_false] at h
  simp only [Bool.and_eq_true, decide_eq_true_eq, beq_iff_eq] at h
  obtain ⟨⟨h1, h2⟩, ⟨h3, h4⟩, h5⟩ := h
  rw [← h5]
  exact cRootF (smqB_ok h3) h1 h2 b h4
def witB (K : Nat) (x : El) (i : Int) (n : Rat) (z : El) : Bool := decide (0 < K ∧ K ≤ 100000) && (smB K x && (smqB K n && decide (withE x i n = z)))
theorem witT (x : El) (i : Int) (n : Rat) (z : El) (K : Nat) (h : witB K x i n z = true) : CalH Tryz.prog OQ 71 true (keysE x) (valsE x) [iA i, nA n] (keysE z) (valsE z) := by
 simp only [witB, Bool.and_eq_true, decide_eq_true_eq] at h
 obtain ⟨⟨h1, h2⟩, h3, h4, h5⟩ := h
 rw [← h5]
 exact cWith ((smB_ok h3).get h1 i) (smqB_ok h4) (by omega)
theorem ratT (x : El) (q : Rat) (h : getE x 0 = q) : Cal Tryz.prog OQ 30 [eA x] (nA q) := by rw [← h]; exact cRational
def shfB (K : Nat) (x : El) (k : Int) (z : El) : Bool := decide (K ≤ 100000 ∧ -19000 ≤ k ∧ k ≤ 19000) && (canB x && (smB K x && decide (shiftE x k = z)))
theorem shfT (x : El) (k : Int) (z : El) (K : Nat) (h : shfB K x k z = true) : CalN Tryz.prog OQ 34 [eA x, iA k] (eA z) := by
 simp only [shfB, Bool.and_eq_true, decide_eq_true_eq] at h
 obtain ⟨⟨h1, h2, h3⟩, h4, h5, h6⟩ := h
 rw [← h6]
 exact nShift (canB_ok h4) (smB_ok h5) h2 h3 (by omega)
def flrB (K : Nat) (t : List El) (x : El) (n : Int) : Bool := towB K t && (encB K 64 (rootsE 64 t []) x && (smqB K (encE 64 (rootsE 64 t []) x).1 && (smqB K (encE 64 (rootsE 64 t []) x).2 && (decide ((encE 64 (rootsE 64 t []) x).1.floor = n) && decide ((encE 64 (rootsE 64 t []) x).2.floor = n)))))
theorem flrT (t : List El) (x : El) (K : Nat) (n : Int) (rest : List AC) (h : flrB K t x n = true) : Cal Tryz.prog OQ 33 [.c (.e (towC t :: rest)), eA x] (nA (n : Rat)) := by
 simp only [flrB, towB, Bool.and_eq_true, decide_eq_true_eq, List.all_eq_true] at h
 obtain ⟨⟨⟨h1, h2, h3⟩, h4, h5⟩, h6, h7, h8, h9, h10⟩ := h
 have := tow_weak (cFloorR h1 h2 h3 h5 rest h6 h7 h8 (by rw [h9, h10]))
 rw [h9] at this
 exact this
def txtB (K : Nat) (q : Rat) (l : List UInt8) : Bool := decide (K ≤ 1000000) && (smqB K q && decide ((numText q).data.toList = l))
theorem txtT (q : Rat) (l : List UInt8) (K : Nat) (h : txtB K q l = true) : Cal Tryz.prog OQ 10 [nA q] (sA (ba l)) := by
 simp only [txtB, Bool.and_eq_true, decide_eq_true_eq] at h
 have := cText (smqB_ok h.2.1) h.1
 have e : numText q = ba l := by rw [← h.2.2]; rfl
 rw [e] at this
 exact this
end Go.Proofs.YtajecapgmdfjcaaGreatDoor

/- Plain: products of elements with letters, by rewriting. -/
namespace Go.Proofs.YtajecapgmdfjcaaGreatDoor
open Go.RowKit Vn
theorem an00 : andK 0 0 = 0 := by decide
theorem an01 : andK 0 1 = 0 := by decide
theorem an02 : andK 0 2 = 0 := by decide
theorem an03 : andK 0 3 = 0 := by decide
theorem an04 : andK 0 4 = 0 := by decide
theorem an05 : andK 0 5 = 0 := by decide
theorem an06 : andK 0 6 = 0 := by decide
theorem an07 : andK 0 7 = 0 := by decide
theorem an10 : andK 1 0 = 0 := by decide
theorem an11 : andK 1 1 = 1 := by decide
theorem an12 : andK 1 2 = 0 := by decide
theorem an13 : andK 1 3 = 1 := by decide
theorem an14 : andK 1 4 = 0 := by decide
theorem an15 : andK 1 5 = 1 := by decide
theorem an16 : andK 1 6 = 0 := by decide
theorem an17 : andK 1 7 = 1 := by decide
theorem an20 : andK 2 0 = 0 := by decide
theorem an21 : andK 2 1 = 0 := by decide
theorem an22 : andK 2 2 = 2 := by decide
theorem an23 : andK 2 3 = 2 := by decide
theorem an24 : andK 2 4 = 0 := by decide
theorem an25 : andK 2 5 = 0 := by decide
theorem an26 : andK 2 6 = 2 := by decide
theorem an27 : andK 2 7 = 2 := by decide
theorem an30 : andK 3 0 = 0 := by decide
theorem an31 : andK 3 1 = 1 := by decide
theorem an32 : andK 3 2 = 2 := by decide
theorem an33 : andK 3 3 = 3 := by decide
theorem an34 : andK 3 4 = 0 := by decide
theorem an35 : andK 3 5 = 1 := by decide
theorem an36 : andK 3 6 = 2 := by decide
theorem an37 : andK 3 7 = 3 := by decide
theorem an40 : andK 4 0 = 0 := by decide
theorem an41 : andK 4 1 = 0 := by decide
theorem an42 : andK 4 2 = 0 := by decide
theorem an43 : andK 4 3 = 0 := by decide
theorem an44 : andK 4 4 = 4 := by decide
theorem an45 : andK 4 5 = 4 := by decide
theorem an46 : andK 4 6 = 4 := by decide
theorem an47 : andK 4 7 = 4 := by decide
theorem an50 : andK 5 0 = 0 := by decide
theorem an51 : andK 5 1 = 1 := by decide
theorem an52 : andK 5 2 = 0 := by decide
theorem an53 : andK 5 3 = 1 := by decide
theorem an54 : andK 5 4 = 4 := by decide
theorem an55 : andK 5 5 = 5 := by decide
theorem an56 : andK 5 6 = 4 := by decide
theorem an57 : andK 5 7 = 5 := by decide
theorem an60 : andK 6 0 = 0 := by decide
theorem an61 : andK 6 1 = 0 := by decide
theorem an62 : andK 6 2 = 2 := by decide
theorem an63 : andK 6 3 = 2 := by decide
theorem an64 : andK 6 4 = 4 := by decide
theorem an65 : andK 6 5 = 4 := by decide
theorem an66 : andK 6 6 = 6 := by decide
theorem an67 : andK 6 7 = 6 := by decide
theorem an70 : andK 7 0 = 0 := by decide
theorem an71 : andK 7 1 = 1 := by decide
theorem an72 : andK 7 2 = 2 := by decide
theorem an73 : andK 7 3 = 3 := by decide
theorem an74 : andK 7 4 = 4 := by decide
theorem an75 : andK 7 5 = 5 := by decide
theorem an76 : andK 7 6 = 6 := by decide
theorem an77 : andK 7 7 = 7 := by decide
theorem xo00 : xorK 0 0 = 0 := by decide
theorem xo01 : xorK 0 1 = 1 := by decide
theorem xo02 : xorK 0 2 = 2 := by decide
theorem xo03 : xorK 0 3 = 3 := by decide
theorem xo04 : xorK 0 4 = 4 := by decide
theorem xo05 : xorK 0 5 = 5 := by decide
theorem xo06 : xorK 0 6 = 6 := by decide
theorem xo07 : xorK 0 7 = 7 := by decide
theorem xo10 : xorK 1 0 = 1 := by decide
theorem xo11 : xorK 1 1 = 0 := by decide
theorem xo12 : xorK 1 2 = 3 := by decide
theorem xo13 : xorK 1 3 = 2 := by decide
theorem xo14 : xorK 1 4 = 5 := by decide
theorem xo15 : xorK 1 5 = 4 := by decide
theorem xo16 : xorK 1 6 = 7 := by decide
theorem xo17 : xorK 1 7 = 6 := by decide
theorem xo20 : xorK 2 0 = 2 := by decide
theorem xo21 : xorK 2 1 = 3 := by decide
theorem xo22 : xorK 2 2 = 0 := by decide
theorem xo23 : xorK 2 3 = 1 := by decide
theorem xo24 : xorK 2 4 = 6 := by decide
theorem xo25 : xorK 2 5 = 7 := by decide
theorem xo26 : xorK 2 6 = 4 := by decide
theorem xo27 : xorK 2 7 = 5 := by decide
theorem xo30 : xorK 3 0 = 3 := by decide
theorem xo31 : xorK 3 1 = 2 := by decide
theorem xo32 : xorK 3 2 = 1 := by decide
theorem xo33 : xorK 3 3 = 0 := by decide
theorem xo34 : xorK 3 4 = 7 := by decide
theorem xo35 : xorK 3 5 = 6 := by decide
theorem xo36 : xorK 3 6 = 5 := by decide
theorem xo37 : xorK 3 7 = 4 := by decide
theorem xo40 : xorK 4 0 = 4 := by decide
theorem xo41 : xorK 4 1 = 5 := by decide
theorem xo42 : xorK 4 2 = 6 := by decide
theorem xo43 : xorK 4 3 = 7 := by decide
theorem xo44 : xorK 4 4 = 0 := by decide
theorem xo45 : xorK 4 5 = 1 := by decide
theorem xo46 : xorK 4 6 = 2 := by decide
theorem xo47 : xorK 4 7 = 3 := by decide
theorem xo50 : xorK 5 0 = 5 := by decide
theorem xo51 : xorK 5 1 = 4 := by decide
theorem xo52 : xorK 5 2 = 7 := by decide
theorem xo53 : xorK 5 3 = 6 := by decide
theorem xo54 : xorK 5 4 = 1 := by decide
theorem xo55 : xorK 5 5 = 0 := by decide
theorem xo56 : xorK 5 6 = 3 := by decide
theorem xo57 : xorK 5 7 = 2 := by decide
theorem xo60 : xorK 6 0 = 6 := by decide
theorem xo61 : xorK 6 1 = 7 := by decide
theorem xo62 : xorK 6 2 = 4 := by decide
theorem xo63 : xorK 6 3 = 5 := by decide
theorem xo64 : xorK 6 4 = 2 := by decide
theorem xo65 : xorK 6 5 = 3 := by decide
theorem xo66 : xorK 6 6 = 0 := by decide
theorem xo67 : xorK 6 7 = 1 := by decide
theorem xo70 : xorK 7 0 = 7 := by decide
theorem xo71 : xorK 7 1 = 6 := by decide
theorem xo72 : xorK 7 2 = 5 := by decide
theorem xo73 : xorK 7 3 = 4 := by decide
theorem xo74 : xorK 7 4 = 3 := by decide
theorem xo75 : xorK 7 5 = 2 := by decide
theorem xo76 : xorK 7 6 = 1 := by decide
theorem xo77 : xorK 7 7 = 0 := by decide
theorem bi00 : bitK 0 0 = false := by decide
theorem bi01 : bitK 0 1 = false := by decide
theorem bi02 : bitK 0 2 = false := by decide
theorem bi10 : bitK 1 0 = true := by decide
theorem bi11 : bitK 1 1 = false := by decide
theorem bi12 : bitK 1 2 = false := by decide
theorem bi20 : bitK 2 0 = false := by decide
theorem bi21 : bitK 2 1 = true := by decide
theorem bi22 : bitK 2 2 = false := by decide
theorem bi30 : bitK 3 0 = true := by decide
theorem bi31 : bitK 3 1 = true := by decide
theorem bi32 : bitK 3 2 = false := by decide
theorem bi40 : bitK 4 0 = false := by decide
theorem bi41 : bitK 4 1 = false := by decide
theorem bi42 : bitK 4 2 = true := by decide
theorem bi50 : bitK 5 0 = true := by decide
theorem bi51 : bitK 5 1 = false := by decide
theorem bi52 : bitK 5 2 = true := by decide
theorem bi60 : bitK 6 0 = false := by decide
theorem bi61 : bitK 6 1 = true := by decide
theorem bi62 : bitK 6 2 = true := by decide
theorem bi70 : bitK 7 0 = true := by decide
theorem bi71 : bitK 7 1 = true := by decide
theorem bi72 : bitK 7 2 = true := by decide
def addF : El → El → El
 | out, [] => out
 | out, p :: y => addF (withE out p.1 p.2) y
theorem addE_F : ∀ (y out : El), addE out y = addF out y
 | [], _ => rfl
 | p :: y, out => addE_F y (withE out p.1 p.2)
def termF (t : List El) (f : Nat) (ab : Int) : Nat → List El → El → El
 | _, [], e => e
 | i, c :: cs, e => termF t f ab (i + 1) cs (if bitK ab (i : Nat) = true then mulE t f e c else e)
theorem termL_F (t : List El) (f : Nat) (ab : Int) : ∀ (cs : List El) (i : Nat) (e : El), termL (mulE t f) ab i cs e = termF t f ab i cs e
 | [], _, _ => rfl
 | _ :: cs, i, _ => termL_F t f ab cs (i + 1) _
def rowF (t : List El) (f : Nat) (p : Int × Rat) : El → El → El
 | out, [] => out
 | out, r :: y => rowF t f p (addF out (termF t f (andK p.1 r.1) 0 t (withE [] (xorK p.1 r.1) (p.2 * r.2)))) y
def colF (t : List El) (f : Nat) (y : El) : El → El → El
 | out, [] => out
 | out, p :: x => colF t f y (rowF t f p out y) x
theorem row_F (t : List El) (f : Nat) (p : Int × Rat) : ∀ (y out : El), y.foldl (fun out r => addE out (termL (mulE t f) (andK p.1 r.1) 0 t (withE [] (xorK p.1 r.1) (p.2 * r.2)))) out = rowF t f p out y
 | [], _ => rfl
 | r :: y, out => by
  rw [List.foldl_cons, row_F t f p y, addE_F, termL_F]; rfl
theorem col_F (t : List El) (f : Nat) (y : El) : ∀ (x out : El), x.foldl (fun out p => y.foldl (fun out r => addE out (termL (mulE t f) (andK p.1 r.1) 0 t (withE [] (xorK p.1 r.1) (p.2 * r.2)))) out) out = colF t f y out x
 | [], _ => rfl
 | p :: x, out => by
  rw [List.foldl_cons, col_F t f y x, row_F]; rfl
theorem mulE_F (t : List El) (f : Nat) (x y : El) : mulE t (f + 1) x y = colF t f y [] x := col_F t f y x []
theorem mulF6 (t : List El) (x y : El) : mulE t 6 x y = colF t 5 y [] x := mulE_F t 5 x y
theorem mulF5 (t : List El) (x y : El) : mulE t 5 x y = colF t 4 y [] x := mulE_F t 4 x y
theorem mulF4 (t : List El) (x y : El) : mulE t 4 x y = colF t 3 y [] x := mulE_F t 3 x y
theorem ra1 : (1 : Rat) * 1 = 1 := by grind
theorem ra2 : (-1 : Rat) * -1 = 1 := by grind
theorem ra3 : (1 : Rat) + 1 = 2 := by grind
theorem ra4 : ¬ (1 : Rat) = 0 := by decide
theorem ra5 : ¬ (2 : Rat) = 0 := by decide
theorem ra6 : (2 : Rat) + -2 = 0 := by grind
theorem na0 : ((0 : Nat) : Int) = 0 := rfl
theorem na1 : ((0 + 1 : Nat) : Int) = 1 := rfl
theorem na2 : ((0 + 1 + 1 : Nat) : Int) = 2 := rfl
def smF (K : Nat) : El → Bool
 | [] => true
 | p :: x => smqB K p.2 && smF K x
theorem smB_F (K : Nat) : ∀ x : El, smB K x = smF K x
 | [] => rfl
 | p :: x => by
  show (smqB K p.2 && smB K x) = _
  rw [smB_F K x]; rfl
def termG (K : Nat) (t : List El) (f : Nat) (ab : Int) : Nat → List El → El → Bool
 | _, [], _ => true
 | i, c :: cs, e => if bitK ab (i : Nat) = true then (mulB K t f e c && termG K t f ab (i + 1) cs (mulE t f e c)) else termG K t f ab (i + 1) cs e
theorem termB_G (K : Nat) (t : List El) (f : Nat) (ab : Int) : ∀ (cs : List El) (i : Nat) (e : El), termB (mulE t f) (mulB K t f) ab i cs e = termG K t f ab i cs e
 | [], _, _ => rfl
 | c :: cs, i, e => by
  show cond (bitK ab (i : Nat)) (mulB K t f e c && termB (mulE t f) (mulB K t f) ab (i + 1) cs (mulE t f e c)) (termB (mulE t f) (mulB K t f) ab (i + 1) cs e) = if bitK ab (i : Nat) = true then (mulB K t f e c && termG K t f ab (i + 1) cs (mulE t f e c)) else termG K t f ab (i + 1) cs e
  rw [termB_G K t f ab cs, termB_G K t f ab cs]
  cases bitK ab (i : Nat) <;> rfl
def rowG (K : Nat) (t : List El) (f : Nat) (p : Int × Rat) : El → Bool
 | [] => true
 | r :: y => (termG K t f (andK p.1 r.1) 0 t (withE [] (xorK p.1 r.1) (p.2 * r.2)) && smF K (termF t f (andK p.1 r.1) 0 t (withE [] (xorK p.1 r.1) (p.2 * r.2)))) && rowG K t f p y
def colG (K : Nat) (t : List El) (f : Nat) (y : El) : El → Bool
 | [] => true
 | p :: x => rowG K t f p y && colG K t f y x
theorem row_G (K : Nat) (t : List El) (f : Nat) (p : Int × Rat) : ∀ y : El, (y.all fun r => termB (mulE t f) (mulB K t f) (andK p.1 r.1) 0 t (withE [] (xorK p.1 r.1) (p.2 * r.2)) && smB K (termL (mulE t f) (andK p.1 r.1) 0 t (withE [] (xorK p.1 r.1) (p.2 * r.2)))) = rowG K t f p y
 | [] => rfl
 | r :: y => by
  rw [List.all_cons, row_G K t f p y, termB_G, termL_F, smB_F]; rfl
theorem col_G (K : Nat) (t : List El) (f : Nat) (y : El) : ∀ x : El, (x.all fun p => y.all fun r => termB (mulE t f) (mulB K t f) (andK p.1 r.1) 0 t (withE [] (xorK p.1 r.1) (p.2 * r.2)) && smB K (termL (mulE t f) (andK p.1 r.1) 0 t (withE [] (xorK p.1 r.1) (p.2 * r.2)))) = colG K t f y x
 | [] => rfl
 | p :: x => by
  rw [List.all_cons, col_G K t f y x, row_G]; rfl
theorem mulB_G (K : Nat) (t : List El) (f : Nat) (x y : El) : mulB K t (f + 1) x y = (smF K x && smF K y && decide (x.length * (y.length * (K + 1)) + 2 * K + 3 ≤ 10000000) && colG K t f y x) := by
 rw [← smB_F, ← smB_F, ← col_G]; rfl
theorem mulG6 (K : Nat) (t : List El) (x y : El) : mulB K t 6 x y = (smF K x && smF K y && decide (x.length * (y.length * (K + 1)) + 2 * K + 3 ≤ 10000000) && colG K t 5 y x) := mulB_G K t 5 x y
theorem mulG5 (K : Nat) (t : List El) (x y : El) : mulB K t 5 x y = (smF K x && smF K y && decide (x.length * (y.length * (K + 1)) + 2 * K + 3 ≤ 10000000) && colG K t 4 y x) := mulB_G K t 4 x y
theorem mulG4 (K : Nat) (t : List El) (x y : El) : mulB K t 4 x y = (smF K x && smF K y && decide (x.length * (y.length * (K + 1)) + 2 * K + 3 ≤ 10000000) && colG K t 3 y x) := mulB_G K t 3 x y
theorem smqB_of {K : Nat} {q : Rat} (h : SmQ K q) (hk : K ≤ 1000) : smqB 1000 q = true := by
 have h' := h.mono hk
 unfold smqB
 rw [Bool.and_eq_true]
 exact ⟨decide_eq_true h'.1, decide_eq_true h'.2⟩
theorem sm1 : smqB 1000 1 = true := smqB_of (SmQ.nat (n := 1) (K := 2) (by decide) (by decide)) (by decide)
theorem sm2 : smqB 1000 2 = true := smqB_of (SmQ.nat (n := 2) (K := 2) (by decide) (by decide)) (by decide)
theorem smm1 : smqB 1000 (-1) = true := smqB_of (SmQ.int (n := -1) (K := 2) (by decide) (by decide)) (by decide)
section
attribute [local simp] mulF6 mulF5 mulF4 mulG6 mulG5 mulG4 smB_F smF termG rowG colG colF rowF termF addF withE getE putE memE repE insE delE an00 an01 an02 an03 an04 an05 an06 an07 an10 an11 an12 an13 an14 an15 an16 an17 an20 an21 an22 an23 an24 an25 an26 an27 an30 an31 an32 an33 an34 an35 an36 an37 an40 an41 an42 an43 an44 an45 an46 an47 an50 an51 an52 an53 an54 an55 an56 an57 an60 an61 an62 an63 an64 an65 an66 an67 an70 an71 an72 an73 an74 an75 an76 an77 xo00 xo01 xo02 xo03 xo04 xo05 xo06 xo07 xo10 xo11 xo12 xo13 xo14 xo15 xo16 xo17 xo20 xo21 xo22 xo23 xo24 xo25 xo26 xo27 xo30 xo31 xo32 xo33 xo34 xo35 xo36 xo37 xo40 xo41 xo42 xo43 xo44 xo45 xo46 xo47 xo50 xo51 xo52 xo53 xo54 xo55 xo56 xo57 xo60 xo61 xo62 xo63 xo64 xo65 xo66 xo67 xo70 xo71 xo72 xo73 xo74 xo75 xo76 xo77 bi00 bi01 bi02 bi10 bi11 bi12 bi20 bi21 bi22 bi30 bi31 bi32 bi40 bi41 bi42 bi50 bi51 bi52 bi60 bi61 bi62 bi70 bi71 bi72 na0 na1 na2 Rat.zero_add Rat.add_zero Rat.one_mul Rat.mul_one ra1 ra2 ra3 ra4 ra5 ra6 sm1 sm2 smm1 addE_F
end
end Go.Proofs.YtajecapgmdfjcaaGreatDoor

/- Plain: the sign of an element of a known shape. -/
namespace Go.Proofs.YtajecapgmdfjcaaGreatDoor
open Go.RowKit Vn
def SG (t : List El) (f : Nat) (x : El) (s : Int) : Prop := signB 1000 t 6 f x = true ∧ signE t 6 f x = s
def keysB (x : El) : Bool := x.all fun p => decide (0 ≤ p.1 ∧ p.1 < 1048576)
theorem SG_num {t : List El} {f : Nat} {x : El} (hk : keysB x = true) (ht : decide (topL x < 0) = true) : SG t (f + 1) x (getE x 0).num.sign := by
 unfold keysB at hk
 simp only [SG, signB, signE]
 rw [ht, hk]
 exact ⟨rfl, rfl⟩
theorem sgn_of_pos {q : Rat} (h : 0 < q) : q.num.sign = 1 := sgn_pos h
theorem sgn_of_neg {q : Rat} (h : q < 0) : q.num.sign = -1 := by
 have := sgn_pos (q := -q) (by grind)
 rw [Rat.neg_num, Int.sign_neg] at this
 omega
theorem sgn_nn {q : Rat} (h : 0 ≤ q) : decide (q.num.sign < 0) = false := by
 refine decide_eq_false ?_
 by_cases e : q = 0
 ·subst e; decide
 ·rw [sgn_of_pos (by grind)]; decide
theorem sgn_np {q : Rat} (h : q ≤ 0) : decide (q.num.sign > 0) = false := by
 refine decide_eq_false ?_
 by_cases e : q = 0
 ·subst e; decide
 ·rw [sgn_of_neg (by grind)]; decide
theorem orK11 : orK 1 1 = 1 := by decide
theorem orK10 : orK 1 0 = 1 := by decide
theorem orKm : orK (-1) (-1) = -1 := by decide
theorem SG_pos {t : List El} {f : Nat} {x : El} (hk : keysB x = true) (ht : decide (topL x < 0) = false) (he : encB 1000 64 (rootsE 64 t []) x = true) (h1 : 0 < (encE 64 (rootsE 64 t []) x).1) (h2 : 0 ≤ (encE 64 (rootsE 64 t []) x).2) : SG t (f + 1) x 1 := by
 unfold keysB at hk
 simp only [SG, signB, signE]
 rw [ht, hk, he, sgn_of_pos h1]
 refine ⟨rfl, ?_⟩
 by_cases e : (encE 64 (rootsE 64 t []) x).2 = 0
 ·rw [e]; exact orK10
 ·rw [sgn_of_pos (show 0 < (encE 64 (rootsE 64 t []) x).2 by grind)]; exact orK11
theorem SG_neg {t : List El} {f : Nat} {x : El} (hk : keysB x = true) (ht : decide (topL x < 0) = false) (he : encB 1000 64 (rootsE 64 t []) x = true) (h1 : (encE 64 (rootsE 64 t []) x).1 < 0) (h2 : (encE 64 (rootsE 64 t []) x).2 < 0) : SG t (f + 1) x (-1) := by
 unfold keysB at hk
 simp only [SG, signB, signE]
 rw [ht, hk, he, sgn_of_neg h1, sgn_of_neg h2]
 exact ⟨rfl, orKm⟩
theorem SG_deep {t : List El} {f : Nat} {x A B c : El} {n : Nat} {sn : Int} (hk : keysB x = true) (hn : topL x = (n : Nat)) (he : encB 1000 64 (rootsE 64 t []) x = true) (h1 : (encE 64 (rootsE 64 t []) x).1 ≤ 0) (h2 : 0 ≤ (encE 64 (rootsE 64 t []) x).2)
  (hs : smB 1000 x = true) (n1 : nodupB (x.map fun p => (prA (n : Nat) p).1) = true) (n2 : nodupB (x.map fun p => (prB (n : Nat) p).1) = true) (hl : n < t.length) (hA : partA x (n : Nat) = A) (hB : partB x (n : Nat) = B) (hc : t.getD n [] = c)
  (sA : SG t f A (-1)) (sB : SG t f B 1) (sc : SG t f c 1) (hN : normB 1000 t 6 A B c = true) (sN : SG t f (normE t 6 A B c) sn) (hsn : sn = 0 ∨ sn = -1) : SG t (f + 1) x (-sn) := by
 unfold keysB at hk
 simp only [SG, signB, signE]
 have ht : decide (topL x < 0) = false := by rw [hn]; exact decide_eq_false (by omega)
 have en : (((n : Nat) : Int)).toNat = n := rfl
 rw [ht, hk, he, hs, sgn_np h1, sgn_nn h2, hn, n1, n2, en, hA, hB, hc, sA.1, sA.2, sB.1, sB.2, sc.1, sc.2, hN, sN.1, sN.2, show Nat.blt n t.length = true from by rw [Nat.blt_eq]; exact hl]
 have m1 : mulI 1 1 = 1 := by decide
 have m2 : mulI (-1) 0 = 0 := by decide
 have m3 : mulI (-1) (-1) = 1 := by decide
 rw [m1]
 rcases hsn with h | h <;> subst h
 ·exact ⟨rfl, m2⟩
 ·exact ⟨rfl, m3⟩
end Go.Proofs.YtajecapgmdfjcaaGreatDoor

/- Plain: enclosures of elements with letters. -/
namespace Go.Proofs.YtajecapgmdfjcaaGreatDoor
open Go.RowKit Vn
theorem spanP_pos {b : Int} {rs : List Sp} {k : Int} {q : Rat} (h : 0 < q) : spanP b rs (k, q) = spanL b k 0 rs (q, q) := by
 have hn := num_posN h
 have e : absQ q = q := by rw [absQ_eq, if_neg (by omega)]
 unfold spanP
 rw [e, sgn_pos h]; rfl
theorem spanP_neg {b : Int} {rs : List Sp} {k : Int} {q : Rat} (h : q < 0) : spanP b rs (k, q) = (-(spanL b k 0 rs (-q, -q)).2, -(spanL b k 0 rs (-q, -q)).1) := by
 have hn : q.num < 0 := by
  have := num_posN (q := -q) (by grind)
  rw [Rat.neg_num] at this
  omega
 have e : absQ q = -q := by rw [absQ_eq, if_pos hn]
 unfold spanP
 rw [e, sgn_of_neg h]; rfl
theorem maxQ_nn {q : Rat} (h : 0 ≤ q) : maxQ q ((0 : Int) : Rat) = q := by
 unfold maxQ
 rw [if_neg]
 unfold cmpQ
 have e : ((0 : Int) : Rat) = 0 := rfl
 rw [e, if_neg (by grind)]
 split <;> decide
theorem Rg.add {L : Nat} {q r : Rat} (h : Rg L q) (k : Rg L r) : Rg (L + 1) (q + r) := by
 have h1 := h.1
 have h2 := h.2
 have h3 := k.pos
 have h4 := k.2
 refine ⟨?_, ?_⟩
 ·have : (2 : Rat) ^ (-((L + 1 : Nat) : Int)) ≤ (2 : Rat) ^ (-(L : Int)) := p2_mono (by omega)
  grind
 ·have e : (2 : Rat) ^ ((L + 1 : Nat) : Int) = (2 : Rat) ^ (L : Int) * 2 := by rw [← p2_succ]; congr 1
  rw [e]; grind
theorem Rg.nat {n L : Nat} (h0 : 0 < n) (h : n ≤ 2 ^ L) : Rg L ((n : Nat) : Rat) := by
 refine ⟨?_, ?_⟩
 ·have h1 : (2 : Rat) ^ (-(L : Int)) ≤ (2 : Rat) ^ (0 : Int) := p2_mono (by omega)
  rw [Rat.zpow_zero] at h1
  have : (1 : Rat) ≤ ((n : Nat) : Rat) := by
   have : ((1 : Nat) : Rat) ≤ ((n : Nat) : Rat) := by exact_mod_cast h0
   exact this
  grind
 ·rw [p2_nat]; exact_mod_cast h
structure Rt (L : Nat) (lo hi l u : Rat) : Prop where
 l0 : Rg L l
 u0 : Rg L u
 ll : l * l ≤ lo
 uu : hi ≤ u * u
 sl : SmQ (L + 130) l
 su : SmQ (L + 130) u
theorem Rt.mk' {L : Nat} {lo hi : Rat} (h : Rg L lo) (k : Rg L hi) : Rt (L + 1) lo hi (rtQ false 64 lo) (rtQ true 64 hi) := by
 obtain ⟨a1, a2, a3, _⟩ := root_q (up := false) h
 obtain ⟨b1, b2, _, b4⟩ := root_q (up := true) k
 exact ⟨a1, b1, a3 rfl, b4 rfl, a2.mono (by omega), b2.mono (by omega)⟩
theorem smq {K : Nat} {q : Rat} (h : SmQ K q) (hk : K ≤ 1000) : smqB 1000 q = true := smqB_of h hk
theorem Rt.lu {L : Nat} {q l u : Rat} (h : Rt L q q l u) : l ≤ u := sq_le (Rat.le_of_lt h.u0.pos) (le_tr h.ll h.uu)
theorem rootE_of {rs : List Sp} {c : El} {lo hi : Rat} (h : encE 64 rs c = (lo, hi)) (h1 : 0 ≤ lo) (h2 : 0 ≤ hi) : rootE 64 rs c = (rtQ false 64 lo, rtQ true 64 hi) := by
 unfold rootE
 rw [h, maxQ_nn h1, maxQ_nn h2]
section
attribute [local simp] encE spanL an00 an01 an02 an03 an04 an05 an06 an07 an10 an11 an12 an13 an14 an15 an16 an17 an20 an21 an22 an23 an24 an25 an26 an27 an30 an31 an32 an33 an34 an35 an36 an37 an40 an41 an42 an43 an44 an45 an46 an47 an50 an51 an52 an53 an54 an55 an56 an57 an60 an61 an62 an63 an64 an65 an66 an67 an70 an71 an72 an73 an74 an75 an76 an77 xo00 xo01 xo02 xo03 xo04 xo05 xo06 xo07 xo10 xo11 xo12 xo13 xo14 xo15 xo16 xo17 xo20 xo21 xo22 xo23 xo24 xo25 xo26 xo27 xo30 xo31 xo32 xo33 xo34 xo35 xo36 xo37 xo40 xo41 xo42 xo43 xo44 xo45 xo46 xo47 xo50 xo51 xo52 xo53 xo54 xo55 xo56 xo57 xo60 xo61 xo62 xo63 xo64 xo65 xo66 xo67 xo70 xo71 xo72 xo73 xo74 xo75 xo76 xo77 bi00 bi01 bi02 bi10 bi11 bi12 bi20 bi21 bi22 bi30 bi31 bi32 bi40 bi41 bi42 bi50 bi51 bi52 bi60 bi61 bi62 bi70 bi71 bi72 na0 na1 na2 Rat.zero_add Rat.add_zero Rat.one_mul Rat.mul_one ra1 ra2 ra3 ra4 ra5 ra6 Rat.neg_neg
theorem one_p : (0 : Rat) < 1 := by decide
theorem two_p : (0 : Rat) < 2 := by decide
theorem m1_n : (-1 : Rat) < 0 := by decide
theorem enc_0 {n : Rat} (h : 0 < n) : encE 64 [] [(0, n)] = (n, n) := by simp [spanP_pos h]
theorem enc_1 {n : Rat} {r : Sp} (h : 0 < n) : encE 64 [r] [(0, n)] = (n, n) := by simp [spanP_pos h]
theorem enc_c {s : Rat} {r1 r2 : Sp} (h : 0 < s) : encE 64 [r1, r2] [(0, s), (3, 2)] = (s + dnQ 64 (dnQ 64 (2 * r1.1) * r2.1), s + upQ 64 (upQ 64 (2 * r1.2) * r2.2)) := by
 simp [spanP_pos h, spanP_pos two_p]
theorem enc_c3 {s : Rat} {r1 r2 r3 : Sp} (h : 0 < s) : encE 64 [r1, r2, r3] [(0, s), (3, 2)] = (s + dnQ 64 (dnQ 64 (2 * r1.1) * r2.1), s + upQ 64 (upQ 64 (2 * r1.2) * r2.2)) := by
 simp [spanP_pos h, spanP_pos two_p]
theorem enc_x {r1 r2 r3 : Sp} : encE 64 [r1, r2, r3] [(1, -1), (2, -1), (4, 1)] = (-upQ 64 r1.2 + (-upQ 64 r2.2 + dnQ 64 r3.1), -dnQ 64 r1.1 + (-dnQ 64 r2.1 + upQ 64 r3.2)) := by
 simp [spanP_neg m1_n, spanP_pos one_p]
theorem enc_a {r1 r2 r3 : Sp} : encE 64 [r1, r2, r3] [(1, -1), (2, -1)] = (-upQ 64 r1.2 + -upQ 64 r2.2, -dnQ 64 r1.1 + -dnQ 64 r2.1) := by
 simp [spanP_neg m1_n]
end
end Go.Proofs.YtajecapgmdfjcaaGreatDoor

/- Plain: the sign of the sum of three roots. -/
namespace Go.Proofs.YtajecapgmdfjcaaGreatDoor
open Go.RowKit Vn
theorem absQ_pos' {q : Rat} (h : 0 < q) : absQ q = q := by
 have hn := num_posN h
 rw [absQ_eq, if_neg (by omega)]
theorem absQ_neg' {q : Rat} (h : q < 0) : absQ q = -q := by
 have hn : q.num < 0 := by
  have := num_posN (q := -q) (by grind)
  rw [Rat.neg_num] at this
  omega
 rw [absQ_eq, if_pos hn]
section
attribute [local simp] spanLB encB smB_F smF an00 an01 an02 an03 an04 an05 an06 an07 an10 an11 an12 an13 an14 an15 an16 an17 an20 an21 an22 an23 an24 an25 an26 an27 an30 an31 an32 an33 an34 an35 an36 an37 an40 an41 an42 an43 an44 an45 an46 an47 an50 an51 an52 an53 an54 an55 an56 an57 an60 an61 an62 an63 an64 an65 an66 an67 an70 an71 an72 an73 an74 an75 an76 an77 xo00 xo01 xo02 xo03 xo04 xo05 xo06 xo07 xo10 xo11 xo12 xo13 xo14 xo15 xo16 xo17 xo20 xo21 xo22 xo23 xo24 xo25 xo26 xo27 xo30 xo31 xo32 xo33 xo34 xo35 xo36 xo37 xo40 xo41 xo42 xo43 xo44 xo45 xo46 xo47 xo50 xo51 xo52 xo53 xo54 xo55 xo56 xo57 xo60 xo61 xo62 xo63 xo64 xo65 xo66 xo67 xo70 xo71 xo72 xo73 xo74 xo75 xo76 xo77 bi00 bi01 bi02 bi10 bi11 bi12 bi20 bi21 bi22 bi30 bi31 bi32 bi40 bi41 bi42 bi50 bi51 bi52 bi60 bi61 bi62 bi70 bi71 bi72 na0 na1 na2 Rat.zero_add Rat.add_zero Rat.one_mul Rat.mul_one ra1 ra2 ra3 ra4 ra5 ra6 Rat.neg_neg sm1 sm2 smm1
theorem ab1 : absQ 1 = 1 := absQ_pos' one_p
theorem ab2 : absQ 2 = 2 := absQ_pos' two_p
theorem abm : absQ (-1) = 1 := by rw [absQ_neg' m1_n, Rat.neg_neg]
attribute [local simp] ab1 ab2 abm
theorem encB_0 {n : Rat} (h : 0 < n) (k : smqB 1000 n = true) : encB 1000 64 [] [(0, n)] = true := by simp [absQ_pos' h, k]
theorem encB_1 {n : Rat} {r : Sp} (h : 0 < n) (k : smqB 1000 n = true) : encB 1000 64 [r] [(0, n)] = true := by simp [absQ_pos' h, k]
theorem encB_c {s : Rat} {r1 r2 : Sp} (h : 0 < s) (k : smqB 1000 s = true) (k1 : smqB 1000 r1.1 = true) (k2 : smqB 1000 r1.2 = true) (k3 : smqB 1000 r2.1 = true) (k4 : smqB 1000 r2.2 = true) (k5 : smqB 1000 (dnQ 64 (2 * r1.1)) = true) (k6 : smqB 1000 (upQ 64 (2 * r1.2)) = true)
  (k7 : smqB 1000 (dnQ 64 (dnQ 64 (2 * r1.1) * r2.1)) = true) (k8 : smqB 1000 (upQ 64 (upQ 64 (2 * r1.2) * r2.2)) = true) : encB 1000 64 [r1, r2] [(0, s), (3, 2)] = true := by
 simp [absQ_pos' h, k, k1, k2, k3, k4, k5, k6, k7, k8]
theorem encB_c3 {s : Rat} {r1 r2 r3 : Sp} (h : 0 < s) (k : smqB 1000 s = true) (k1 : smqB 1000 r1.1 = true) (k2 : smqB 1000 r1.2 = true) (k3 : smqB 1000 r2.1 = true) (k4 : smqB 1000 r2.2 = true) (k5 : smqB 1000 (dnQ 64 (2 * r1.1)) = true) (k6 : smqB 1000 (upQ 64 (2 * r1.2)) = true)
  (k7 : smqB 1000 (dnQ 64 (dnQ 64 (2 * r1.1) * r2.1)) = true) (k8 : smqB 1000 (upQ 64 (upQ 64 (2 * r1.2) * r2.2)) = true) : encB 1000 64 [r1, r2, r3] [(0, s), (3, 2)] = true := by
 simp [absQ_pos' h, k, k1, k2, k3, k4, k5, k6, k7, k8]
theorem encB_x {r1 r2 r3 : Sp} (k1 : smqB 1000 r1.1 = true) (k2 : smqB 1000 r1.2 = true) (k3 : smqB 1000 r2.1 = true) (k4 : smqB 1000 r2.2 = true) (k5 : smqB 1000 r3.1 = true) (k6 : smqB 1000 r3.2 = true)
  (k7 : smqB 1000 (dnQ 64 r1.1) = true) (k8 : smqB 1000 (upQ 64 r1.2) = true) (k9 : smqB 1000 (dnQ 64 r2.1) = true) (k10 : smqB 1000 (upQ 64 r2.2) = true) (k11 : smqB 1000 (dnQ 64 r3.1) = true) (k12 : smqB 1000 (upQ 64 r3.2) = true) : encB 1000 64 [r1, r2, r3] [(1, -1), (2, -1), (4, 1)] = true ∧ encB 1000 64 [r1, r2, r3] [(1, -1), (2, -1)] = true := by
 simp [k1, k2, k3, k4, k5, k6, k7, k8, k9, k10, k11, k12]
end
theorem dn_s {L : Nat} {q : Rat} (h : Rg L q) (hL : L ≤ 800) : smqB 1000 (dnQ 64 q) = true := smq (dn_q h).2.2 (by omega)
theorem up_s {L : Nat} {q : Rat} (h : Rg L q) (hL : L ≤ 800) : smqB 1000 (upQ 64 q) = true := smq (up_q h).2.2 (by omega)
theorem Rt.s1 {L : Nat} {lo hi l u : Rat} (h : Rt L lo hi l u) (hL : L ≤ 800) : smqB 1000 l = true := smq h.sl (by omega)
theorem Rt.s2 {L : Nat} {lo hi l u : Rat} (h : Rt L lo hi l u) (hL : L ≤ 800) : smqB 1000 u = true := smq h.su (by omega)
structure LA (n1 n2 s d l1 u1 l2 u2 l3 u3 c1 c2 : Rat) : Prop where
 p1 : Rg 20 n1
 p2 : Rg 20 n2
 ps : Rg 22 s
 m1 : SmQ 25 n1
 m2 : SmQ 25 n2
 ms : SmQ 25 s
 hs : s = n1 + n2 + d
 hd : 0 ≤ d
 e1 : c1 = s + dnQ 64 (dnQ 64 (2 * l1) * l2)
 e2 : c2 = s + upQ 64 (upQ 64 (2 * u1) * u2)
 r1 : Rt 21 n1 n1 l1 u1
 r2 : Rt 21 n2 n2 l2 u2
 r3 : Rt 48 c1 c2 l3 u3
theorem rg2 : Rg 1 2 := Rg.nat (n := 2) (L := 1) (by decide) (by decide)
theorem LA.f {n1 n2 s d l1 u1 l2 u2 l3 u3 c1 c2 : Rat} (h : LA n1 n2 s d l1 u1 l2 u2 l3 u3 c1 c2) : Rg 22 (2 * l1) ∧ Rg 22 (2 * u1) ∧ Rg 43 (dnQ 64 (2 * l1) * l2) ∧ Rg 44 (upQ 64 (2 * u1) * u2) := by
 have a1 := (rg2.mul h.r1.l0).mono (show 1 + 21 ≤ 22 by omega)
 have a2 := (rg2.mul h.r1.u0).mono (show 1 + 21 ≤ 22 by omega)
 exact ⟨a1, a2, ((dn_q a1).2.1.mul h.r2.l0).mono (by omega), ((up_q a2).2.1.mul h.r2.u0).mono (by omega)⟩
theorem LA.enc {n1 n2 s d l1 u1 l2 u2 l3 u3 c1 c2 : Rat} (h : LA n1 n2 s d l1 u1 l2 u2 l3 u3 c1 c2) : encB 1000 64 [(l1, u1), (l2, u2)] [(0, s), (3, 2)] = true ∧ encB 1000 64 [(l1, u1), (l2, u2), (l3, u3)] [(0, s), (3, 2)] = true := by
 obtain ⟨f1, f2, f3, f4⟩ := h.f
 have ss := smq h.ms (by decide)
 exact ⟨encB_c h.ps.pos ss (h.r1.s1 (by decide)) (h.r1.s2 (by decide)) (h.r2.s1 (by decide)) (h.r2.s2 (by decide)) (dn_s f1 (by decide)) (up_s f2 (by decide)) (dn_s f3 (by decide)) (up_s f4 (by decide)),
  encB_c3 h.ps.pos ss (h.r1.s1 (by decide)) (h.r1.s2 (by decide)) (h.r2.s1 (by decide)) (h.r2.s2 (by decide)) (dn_s f1 (by decide)) (up_s f2 (by decide)) (dn_s f3 (by decide)) (up_s f4 (by decide))⟩
theorem LA.encx {n1 n2 s d l1 u1 l2 u2 l3 u3 c1 c2 : Rat} (h : LA n1 n2 s d l1 u1 l2 u2 l3 u3 c1 c2) : encB 1000 64 [(l1, u1), (l2, u2), (l3, u3)] [(1, -1), (2, -1), (4, 1)] = true ∧ encB 1000 64 [(l1, u1), (l2, u2), (l3, u3)] [(1, -1), (2, -1)] = true :=
 encB_x (h.r1.s1 (by decide)) (h.r1.s2 (by decide)) (h.r2.s1 (by decide)) (h.r2.s2 (by decide)) (h.r3.s1 (by decide)) (h.r3.s2 (by decide)) (dn_s h.r1.l0 (by decide)) (up_s h.r1.u0 (by decide)) (dn_s h.r2.l0 (by decide)) (up_s h.r2.u0 (by decide)) (dn_s h.r3.l0 (by decide)) (up_s h.r3.u0 (by decide))
theorem LA.mk' {n1 n2 s d : Rat} (p1 : Rg 20 n1) (p2 : Rg 20 n2) (ps : Rg 22 s) (m1 : SmQ 25 n1) (m2 : SmQ 25 n2) (ms : SmQ 25 s) (hs : s = n1 + n2 + d) (hd : 0 ≤ d) :
  ∃ l1 u1 l2 u2 l3 u3 c1 c2, LA n1 n2 s d l1 u1 l2 u2 l3 u3 c1 c2 ∧ rootsE 64 [[(0, n1)]] [] = [(l1, u1)] ∧ rootsE 64 [[(0, n1)], [(0, n2)]] [] = [(l1, u1), (l2, u2)] ∧ rootsE 64 [[(0, n1)], [(0, n2)], [(0, s), (3, 2)]] [] = [(l1, u1), (l2, u2), (l3, u3)] ∧
   rootsB 1000 64 [[(0, n1)]] [] = true ∧ rootsB 1000 64 [[(0, n1)], [(0, n2)]] [] = true ∧ rootsB 1000 64 [[(0, n1)], [(0, n2)], [(0, s), (3, 2)]] [] = true := by
 have r1 := Rt.mk' p1 p1
 have r2 := Rt.mk' p2 p2
 have g1 : rootE 64 [] [(0, n1)] = (rtQ false 64 n1, rtQ true 64 n1) := rootE_of (enc_0 p1.pos) (Rat.le_of_lt p1.pos) (Rat.le_of_lt p1.pos)
 have g2 : rootE 64 [(rtQ false 64 n1, rtQ true 64 n1)] [(0, n2)] = (rtQ false 64 n2, rtQ true 64 n2) := rootE_of (enc_1 p2.pos) (Rat.le_of_lt p2.pos) (Rat.le_of_lt p2.pos)
 have x1 : encE 64 [] [(0, n1)] = (n1, n1) := enc_0 p1.pos
 have x2 : encE 64 [(rtQ false 64 n1, rtQ true 64 n1)] [(0, n2)] = (n2, n2) := enc_1 p2.pos
 generalize rtQ false 64 n1 = l1 at *
 generalize rtQ true 64 n1 = u1 at *
 generalize rtQ false 64 n2 = l2 at *
 generalize rtQ true 64 n2 = u2 at *
 have a1 := (rg2.mul r1.l0).mono (show 1 + (20 + 1) ≤ 22 by omega)
 have a2 := (rg2.mul r1.u0).mono (show 1 + (20 + 1) ≤ 22 by omega)
 have a3 := ((dn_q a1).2.1.mul r2.l0).mono (show 22 + (20 + 1) ≤ 43 by omega)
 have a4 := ((up_q a2).2.1.mul r2.u0).mono (show 22 + 1 + (20 + 1) ≤ 44 by omega)
 have b1 : Rg 46 (s + dnQ 64 (dnQ 64 (2 * l1) * l2)) := ((ps.mono (show 22 ≤ 45 by omega)).add ((dn_q a3).2.1.mono (by omega)))
 have b2 : Rg 46 (s + upQ 64 (upQ 64 (2 * u1) * u2)) := ((ps.mono (show 22 ≤ 45 by omega)).add ((up_q a4).2.1.mono (by omega)))
 have x3 : encE 64 [(l1, u1), (l2, u2)] [(0, s), (3, 2)] = (s + dnQ 64 (dnQ 64 (2 * l1) * l2), s + upQ 64 (upQ 64 (2 * u1) * u2)) := enc_c ps.pos
 have g3 : rootE 64 [(l1, u1), (l2, u2)] [(0, s), (3, 2)] = (rtQ false 64 (s + dnQ 64 (dnQ 64 (2 * l1) * l2)), rtQ true 64 (s + upQ 64 (upQ 64 (2 * u1) * u2))) := rootE_of x3 (Rat.le_of_lt b1.pos) (Rat.le_of_lt b2.pos)
 have r3 := Rt.mk' b1 b2
 have c1 : SmQ 400 (s + dnQ 64 (dnQ 64 (2 * l1) * l2)) := (ms.add (dn_q a3).2.2).mono (by omega)
 have c2 : SmQ 400 (s + upQ 64 (upQ 64 (2 * u1) * u2)) := (ms.add (up_q a4).2.2).mono (by omega)
 generalize hl3 : rtQ false 64 (s + dnQ 64 (dnQ 64 (2 * l1) * l2)) = l3 at *
 generalize hu3 : rtQ true 64 (s + upQ 64 (upQ 64 (2 * u1) * u2)) = u3 at *
 have hLA : LA n1 n2 s d l1 u1 l2 u2 l3 u3 (s + dnQ 64 (dnQ 64 (2 * l1) * l2)) (s + upQ 64 (upQ 64 (2 * u1) * u2)) :=
  ⟨p1, p2, ps, m1, m2, ms, hs, hd, rfl, rfl, r1, r2, ⟨r3.l0.mono (by omega), r3.u0.mono (by omega), r3.ll, r3.uu, r3.sl.mono (by omega), r3.su.mono (by omega)⟩⟩
 have k1 := smq m1 (by decide)
 have k2 := smq m2 (by decide)
 refine ⟨l1, u1, l2, u2, l3, u3, _, _, hLA, ?_, ?_, ?_, ?_, ?_, ?_⟩
 ·simp only [rootsE, g1, List.nil_append]
 ·simp only [rootsE, g1, g2, List.nil_append, List.cons_append]
 ·simp only [rootsE, g1, g2, g3, List.nil_append, List.cons_append]
 ·simp only [rootsB, encB_0 p1.pos k1, x1, k1, Bool.and_true]
 ·simp only [rootsB, encB_0 p1.pos k1, x1, x2, g1, k1, encB_1 p2.pos k2, k2, Bool.and_true, List.nil_append]
 ·simp only [rootsB, encB_0 p1.pos k1, x1, x2, x3, g1, g2, k1, encB_1 p2.pos k2, k2, hLA.enc.1, smq c1 (by decide), smq c2 (by decide), Bool.and_true, List.nil_append, List.cons_append]
end Go.Proofs.YtajecapgmdfjcaaGreatDoor

/- Plain: the sign of the sum of three roots. -/
namespace Go.Proofs.YtajecapgmdfjcaaGreatDoor
open Go.RowKit Vn
def scaF (n : Rat) : El → El → El
 | out, [] => out
 | out, p :: y => scaF n (withE out p.1 (p.2 * n)) y
theorem sca_F (n : Rat) : ∀ (y out : El), foldE (fun p => (p.1, p.2 * n)) out y = scaF n out y
 | [], _ => rfl
 | p :: y, out => sca_F n y (withE out p.1 (p.2 * n))
theorem scaleE_F (y : El) (n : Rat) : scaleE y n = scaF n [] y := sca_F n y []
theorem subE_F (x y : El) : subE x y = addF x (scaF ((-1 : Int) : Rat) [] y) := by unfold subE; rw [scaleE_F, addE_F]
theorem im1 : ((-1 : Int) : Rat) = -1 := rfl
theorem ra7 : ¬ (-2 : Rat) = 0 := by decide
theorem rb1 (q : Rat) : q * -1 = -q := by grind
section
attribute [local simp] normB normE mulF6 mulF5 mulF4 mulG6 mulG5 mulG4 smB_F smF termG rowG colG colF rowF termF addF withE getE putE memE repE insE delE an00 an01 an02 an03 an04 an05 an06 an07 an10 an11 an12 an13 an14 an15 an16 an17 an20 an21 an22 an23 an24 an25 an26 an27 an30 an31 an32 an33 an34 an35 an36 an37 an40 an41 an42 an43 an44 an45 an46 an47 an50 an51 an52 an53 an54 an55 an56 an57 an60 an61 an62 an63 an64 an65 an66 an67 an70 an71 an72 an73 an74 an75 an76 an77 xo00 xo01 xo02 xo03 xo04 xo05 xo06 xo07 xo10 xo11 xo12 xo13 xo14 xo15 xo16 xo17 xo20 xo21 xo22 xo23 xo24 xo25 xo26 xo27 xo30 xo31 xo32 xo33 xo34 xo35 xo36 xo37 xo40 xo41 xo42 xo43 xo44 xo45 xo46 xo47 xo50 xo51 xo52 xo53 xo54 xo55 xo56 xo57 xo60 xo61 xo62 xo63 xo64 xo65 xo66 xo67 xo70 xo71 xo72 xo73 xo74 xo75 xo76 xo77 bi00 bi01 bi02 bi10 bi11 bi12 bi20 bi21 bi22 bi30 bi31 bi32 bi40 bi41 bi42 bi50 bi51 bi52 bi60 bi61 bi62 bi70 bi71 bi72 na0 na1 na2 Rat.zero_add Rat.add_zero Rat.one_mul Rat.mul_one ra1 ra2 ra3 ra4 ra5 ra6 ra7 sm1 sm2 smm1 addE_F subE_F scaF im1 rb1 Rat.neg_neg
set_option maxRecDepth 10000 in
theorem norm_A3 (n1 n2 s : Rat) (h1 : ¬ n1 = 0) (h2 : ¬ n2 = 0) (h3 : ¬ n1 + n2 = 0) (h4 : ¬ s = 0) (h5 : n1 + n2 + -s = 0) : normE [[(0, n1)], [(0, n2)], [(0, s), (3, 2)]] 6 [(1, -1), (2, -1)] [(0, 1)] [(0, s), (3, 2)] = [] := by
 have h6 : ¬ -s = 0 := by grind
 simp [h1, h2, h3, h4, h5, h6]
set_option maxRecDepth 10000 in
theorem norm_A4 (n1 n2 s : Rat) (h1 : ¬ n1 = 0) (h2 : ¬ n2 = 0) (h3 : ¬ n1 + n2 = 0) (h4 : ¬ s = 0) (h5 : ¬ n1 + n2 + -s = 0) : normE [[(0, n1)], [(0, n2)], [(0, s), (3, 2)]] 6 [(1, -1), (2, -1)] [(0, 1)] [(0, s), (3, 2)] = [(0, n1 + n2 + -s)] := by
 have h6 : ¬ -s = 0 := by grind
 simp [h1, h2, h3, h4, h5, h6]
set_option maxRecDepth 10000 in
theorem norm_A5 (n1 n2 s : Rat) (h1 : ¬ n1 = 0) (h2 : ¬ n2 = 0) (h3 : ¬ n1 + n2 = 0) (h4 : ¬ s = 0) (k1 : smqB 1000 n1 = true) (k2 : smqB 1000 n2 = true) (k3 : smqB 1000 (n1 + n2) = true) (k4 : smqB 1000 s = true) : normB 1000 [[(0, n1)], [(0, n2)], [(0, s), (3, 2)]] 6 [(1, -1), (2, -1)] [(0, 1)] [(0, s), (3, 2)] = true := by
 simp [h1, h2, h3, h4, k1, k2, k3, k4]
end
theorem num0 : (getE [] 0).num.sign = 0 := by decide
theorem SG_nil {t : List El} {f : Nat} : SG t (f + 1) [] 0 := num0 ▸ SG_num (t := t) (f := f) (x := []) rfl rfl
theorem SG_m {t : List El} {f : Nat} {q : Rat} (h : q < 0) : SG t (f + 1) [(0, q)] (-1) := by
 have := SG_num (t := t) (f := f) (x := [(0, q)]) rfl rfl
 have e : getE [(0, q)] 0 = q := rfl
 rwa [e, sgn_of_neg h] at this
theorem SG_p {t : List El} {f : Nat} {q : Rat} (h : 0 < q) : SG t (f + 1) [(0, q)] 1 := by
 have := SG_num (t := t) (f := f) (x := [(0, q)]) rfl rfl
 have e : getE [(0, q)] 0 = q := rfl
 rwa [e, sgn_of_pos h] at this
theorem hi_A {n1 n2 s d l1 u1 l2 u2 l3 u3 c1 c2 : Rat} (h : LA n1 n2 s d l1 u1 l2 u2 l3 u3 c1 c2) : 0 ≤ -dnQ 64 l1 + (-dnQ 64 l2 + upQ 64 u3) := by
 obtain ⟨f1, f2, f3, f4⟩ := h.f
 have a1 := (dn_q h.r1.l0).1
 have a2 := (dn_q h.r2.l0).1
 have a3 := (up_q h.r3.u0).1
 have b1 := Rat.mul_le_mul_of_nonneg_right (up_q f2).1 (Rat.le_of_lt h.r2.u0.pos)
 have b2 := (up_q f4).1
 have b3 := mul_le2 (Rat.le_of_lt h.r1.l0.pos) (Rat.le_of_lt h.r2.u0.pos) h.r1.lu h.r2.lu
 have b4 := h.r1.ll
 have b5 := h.r2.ll
 have b6 := h.r3.uu
 have b7 := h.hd
 rw [h.e2, h.hs] at b6
 have q : (l1 + l2) * (l1 + l2) ≤ u3 * u3 := by
  have e : (l1 + l2) * (l1 + l2) = l1 * l1 + l2 * l2 + 2 * (l1 * l2) := by grind
  have e2 : 2 * u1 * u2 = 2 * (u1 * u2) := by grind
  rw [e2] at b1
  rw [e]; grind
 have := sq_le (Rat.le_of_lt h.r3.u0.pos) q
 grind
theorem lo_A {n1 n2 s d l1 u1 l2 u2 l3 u3 c1 c2 : Rat} (h : LA n1 n2 s d l1 u1 l2 u2 l3 u3 c1 c2) (h0 : d = 0) : -upQ 64 u1 + (-upQ 64 u2 + dnQ 64 l3) ≤ 0 := by
 obtain ⟨f1, f2, f3, f4⟩ := h.f
 have a1 := (up_q h.r1.u0).1
 have a2 := (up_q h.r2.u0).1
 have a3 := (dn_q h.r3.l0).1
 have b1 := Rat.mul_le_mul_of_nonneg_right (dn_q f1).1 (Rat.le_of_lt h.r2.l0.pos)
 have b2 := (dn_q f3).1
 have b3 := mul_le2 (Rat.le_of_lt h.r1.l0.pos) (Rat.le_of_lt h.r2.u0.pos) h.r1.lu h.r2.lu
 have b4 := h.r1.uu
 have b5 := h.r2.uu
 have b6 := h.r3.ll
 rw [h.e1, h.hs, h0] at b6
 have q : l3 * l3 ≤ (u1 + u2) * (u1 + u2) := by
  have e : (u1 + u2) * (u1 + u2) = u1 * u1 + u2 * u2 + 2 * (u1 * u2) := by grind
  have e2 : 2 * l1 * l2 = 2 * (l1 * l2) := by grind
  rw [e2] at b1
  rw [e]; grind
 have := sq_le (Rat.le_of_lt (by have := h.r1.u0.pos; have := h.r2.u0.pos; grind)) q
 grind
set_option maxRecDepth 10000 in
theorem sign_A {n1 n2 s d : Rat} (p1 : Rg 20 n1) (p2 : Rg 20 n2) (ps : Rg 22 s) (m1 : SmQ 25 n1) (m2 : SmQ 25 n2) (ms : SmQ 25 s) (hs : s = n1 + n2 + d) (hd : 0 ≤ d) :
  sgnB 1000 [[(0, n1)], [(0, n2)], [(0, s), (3, 2)]] 6 8 [(1, -1), (2, -1), (4, 1)] (if d = 0 then 0 else 1) = true ∧ sgnB 1000 [] 6 8 [(0, n1)] 1 = true ∧ sgnB 1000 [[(0, n1)]] 6 8 [(0, n2)] 1 = true ∧ sgnB 1000 [[(0, n1)], [(0, n2)]] 6 8 [(0, s), (3, 2)] 1 = true := by
 obtain ⟨l1, u1, l2, u2, l3, u3, c1, c2, h, g1, g2, g3, t1, t2, t3⟩ := LA.mk' p1 p2 ps m1 m2 ms hs hd
 have z1 : n1 ≠ 0 := by have := p1.pos; grind
 have z2 : n2 ≠ 0 := by have := p2.pos; grind
 have zs : s ≠ 0 := by have := ps.pos; grind
 have z12 : ¬ n1 + n2 = 0 := by have := p1.pos; have := p2.pos; grind
 have cb1 : canB [(0, n1)] = true := by simp [canB, z1]
 have cb2 : canB [(0, n2)] = true := by simp [canB, z2]
 have cbc : canB [(0, s), (3, 2)] = true := by simp [canB, zs]
 have cbx : canB [(1, -1), (2, -1), (4, 1)] = true := by kernel_rfl
 have kc1 := smq h.m1 (show 25 ≤ 1000 by decide)
 have kc2 := smq h.m2 (show 25 ≤ 1000 by decide)
 have kc3 := smq h.ms (show 25 ≤ 1000 by decide)
 have kc4 := smq (h.m1.add h.m2) (show 25 + 25 + 1 ≤ 1000 by decide)
 have w0 : towB 1000 [] = true := by rfl
 have w1 : towB 1000 [[(0, n1)]] = true := by simp [towB, t1, cb1]
 have w2 : towB 1000 [[(0, n1)], [(0, n2)]] = true := by simp [towB, t2, cb1, cb2]
 have w3 : towB 1000 [[(0, n1)], [(0, n2)], [(0, s), (3, 2)]] = true := by simp [towB, t3, cb1, cb2, cbc]
 have mk : ∀ {t : List El} {x : El} {v : Int}, towB 1000 t = true → canB x = true → SG t 8 x v → sgnB 1000 t 6 8 x v = true := fun a b c => by
  unfold sgnB; rw [a, b, c.1, c.2]; simp
 have sc : ∀ {f : Nat}, SG [[(0, n1)], [(0, n2)], [(0, s), (3, 2)]] (f + 1) [(0, s), (3, 2)] 1 := fun {f} => SG_pos rfl rfl (by rw [g3]; exact h.enc.2)
  (by rw [g3, enc_c3 ps.pos]; exact ((ps.mono (show 22 ≤ 43 by decide)).add ((dn_q h.f.2.2.1).2.1)).pos) (by rw [g3, enc_c3 ps.pos]; exact Rat.le_of_lt ((ps.mono (show 22 ≤ 45 by decide)).add ((up_q h.f.2.2.2).2.1)).pos)
 have sc2 : SG [[(0, n1)], [(0, n2)]] 8 [(0, s), (3, 2)] 1 := SG_pos rfl rfl (by rw [g2]; exact h.enc.1)
  (by rw [g2, enc_c ps.pos]; exact ((ps.mono (show 22 ≤ 43 by decide)).add ((dn_q h.f.2.2.1).2.1)).pos) (by rw [g2, enc_c ps.pos]; exact Rat.le_of_lt ((ps.mono (show 22 ≤ 45 by decide)).add ((up_q h.f.2.2.2).2.1)).pos)
 refine ⟨mk w3 cbx ?_, mk w0 cb1 (SG_p p1.pos), mk w1 cb2 (SG_p p2.pos), mk w2 cbc sc2⟩
 have hi := hi_A h
 have sA : SG [[(0, n1)], [(0, n2)], [(0, s), (3, 2)]] 7 [(1, -1), (2, -1)] (-1) := SG_neg rfl rfl (by rw [g3]; exact h.encx.2)
  (by rw [g3, enc_a]; have := (up_q h.r1.u0).2.1.pos; have := (up_q h.r2.u0).2.1.pos; grind) (by rw [g3, enc_a]; have := (dn_q h.r1.l0).2.1.pos; have := (dn_q h.r2.l0).2.1.pos; grind)
 have hN := norm_A5 n1 n2 s z1 z2 z12 zs kc1 kc2 kc4 kc3
 by_cases h0 : d = 0
 ·rw [if_pos h0]
  have lo := lo_A h h0
  exact SG_deep (n := 2) (c := [(0, s), (3, 2)]) (sn := 0) rfl rfl (by rw [g3]; exact h.encx.1) (by rw [g3, enc_x]; exact lo) (by rw [g3, enc_x]; exact hi) (by simp [smB_F, smF, sm1, smm1]) rfl rfl (by simp) (by kernel_rfl) (by kernel_rfl) rfl sA (SG_p one_p) sc hN
   (by rw [norm_A3 n1 n2 s z1 z2 z12 zs (by grind)]; exact SG_nil) (.inl rfl)
 ·rw [if_neg h0]
  by_cases hlo : 0 < -upQ 64 u1 + (-upQ 64 u2 + dnQ 64 l3)
  ·exact SG_pos rfl rfl (by rw [g3]; exact h.encx.1) (by rw [g3, enc_x]; exact hlo) (by rw [g3, enc_x]; exact hi)
  ·exact SG_deep (n := 2) (c := [(0, s), (3, 2)]) (sn := -1) rfl rfl (by rw [g3]; exact h.encx.1) (by rw [g3, enc_x]; show _ ≤ _; grind) (by rw [g3, enc_x]; exact hi) (by simp [smB_F, smF, sm1, smm1]) rfl rfl (by simp) (by kernel_rfl) (by kernel_rfl) rfl sA (SG_p one_p) sc hN
    (by rw [norm_A4 n1 n2 s z1 z2 z12 zs (by grind)]; exact SG_m (by grind)) (.inr rfl)
end Go.Proofs.YtajecapgmdfjcaaGreatDoor

/- Plain: the sign of a number and two roots. -/
namespace Go.Proofs.YtajecapgmdfjcaaGreatDoor
open Go.RowKit Vn
theorem rb2 (q : Rat) : -q * -q = q * q := by grind
theorem rb3 (q : Rat) : -1 * -q = q := by grind
theorem rb4 (q : Rat) : -q * -1 = q := by grind
theorem ra8 : ¬ (-1 : Rat) = 0 := by decide
theorem sh1 : shlK 1 1 = 2 := by decide
theorem sh0 : shlK 1 0 = 1 := by decide
theorem rb5 (q : Rat) : q + -q = 0 := by grind
section
attribute [local simp] encE spanL an00 an01 an02 an03 an04 an05 an06 an07 an10 an11 an12 an13 an14 an15 an16 an17 an20 an21 an22 an23 an24 an25 an26 an27 an30 an31 an32 an33 an34 an35 an36 an37 an40 an41 an42 an43 an44 an45 an46 an47 an50 an51 an52 an53 an54 an55 an56 an57 an60 an61 an62 an63 an64 an65 an66 an67 an70 an71 an72 an73 an74 an75 an76 an77 xo00 xo01 xo02 xo03 xo04 xo05 xo06 xo07 xo10 xo11 xo12 xo13 xo14 xo15 xo16 xo17 xo20 xo21 xo22 xo23 xo24 xo25 xo26 xo27 xo30 xo31 xo32 xo33 xo34 xo35 xo36 xo37 xo40 xo41 xo42 xo43 xo44 xo45 xo46 xo47 xo50 xo51 xo52 xo53 xo54 xo55 xo56 xo57 xo60 xo61 xo62 xo63 xo64 xo65 xo66 xo67 xo70 xo71 xo72 xo73 xo74 xo75 xo76 xo77 bi00 bi01 bi02 bi10 bi11 bi12 bi20 bi21 bi22 bi30 bi31 bi32 bi40 bi41 bi42 bi50 bi51 bi52 bi60 bi61 bi62 bi70 bi71 bi72 na0 na1 na2 Rat.zero_add Rat.add_zero Rat.one_mul Rat.mul_one ra1 ra2 ra3 ra4 ra5 ra6 Rat.neg_neg
theorem encb_c {s r : Rat} {r1 : Sp} (h : 0 < s) (k : 0 < r) : encE 64 [r1] [(0, s), (1, r)] = (s + dnQ 64 (r * r1.1), s + upQ 64 (r * r1.2)) := by simp [spanP_pos h, spanP_pos k]
theorem encb_c2 {s r : Rat} {r1 r2 : Sp} (h : 0 < s) (k : 0 < r) : encE 64 [r1, r2] [(0, s), (1, r)] = (s + dnQ 64 (r * r1.1), s + upQ 64 (r * r1.2)) := by simp [spanP_pos h, spanP_pos k]
theorem encb_x {r : Rat} {r1 r2 : Sp} (h : 0 < r) : encE 64 [r1, r2] [(0, -r), (1, -1), (2, 1)] = (-r + (-upQ 64 r1.2 + dnQ 64 r2.1), -r + (-dnQ 64 r1.1 + upQ 64 r2.2)) := by
 have h' : -r < 0 := by grind
 simp [spanP_neg m1_n, spanP_pos one_p, spanP_neg h']
theorem encb_a {r : Rat} {r1 r2 : Sp} (h : 0 < r) : encE 64 [r1, r2] [(0, -r), (1, -1)] = (-r + -upQ 64 r1.2, -r + -dnQ 64 r1.1) := by
 have h' : -r < 0 := by grind
 simp [spanP_neg m1_n, spanP_neg h']
end
section
attribute [local simp] spanLB encB smB_F smF an00 an01 an02 an03 an04 an05 an06 an07 an10 an11 an12 an13 an14 an15 an16 an17 an20 an21 an22 an23 an24 an25 an26 an27 an30 an31 an32 an33 an34 an35 an36 an37 an40 an41 an42 an43 an44 an45 an46 an47 an50 an51 an52 an53 an54 an55 an56 an57 an60 an61 an62 an63 an64 an65 an66 an67 an70 an71 an72 an73 an74 an75 an76 an77 xo00 xo01 xo02 xo03 xo04 xo05 xo06 xo07 xo10 xo11 xo12 xo13 xo14 xo15 xo16 xo17 xo20 xo21 xo22 xo23 xo24 xo25 xo26 xo27 xo30 xo31 xo32 xo33 xo34 xo35 xo36 xo37 xo40 xo41 xo42 xo43 xo44 xo45 xo46 xo47 xo50 xo51 xo52 xo53 xo54 xo55 xo56 xo57 xo60 xo61 xo62 xo63 xo64 xo65 xo66 xo67 xo70 xo71 xo72 xo73 xo74 xo75 xo76 xo77 bi00 bi01 bi02 bi10 bi11 bi12 bi20 bi21 bi22 bi30 bi31 bi32 bi40 bi41 bi42 bi50 bi51 bi52 bi60 bi61 bi62 bi70 bi71 bi72 na0 na1 na2 Rat.zero_add Rat.add_zero Rat.one_mul Rat.mul_one ra1 ra2 ra3 ra4 ra5 ra6 Rat.neg_neg sm1 sm2 smm1 ab1 ab2 abm
theorem encbB_c {s r : Rat} {r1 : Sp} (h : 0 < s) (g : 0 < r) (k : smqB 1000 s = true) (k0 : smqB 1000 r = true) (k1 : smqB 1000 r1.1 = true) (k2 : smqB 1000 r1.2 = true) (k5 : smqB 1000 (dnQ 64 (r * r1.1)) = true) (k6 : smqB 1000 (upQ 64 (r * r1.2)) = true) : encB 1000 64 [r1] [(0, s), (1, r)] = true := by
 simp [absQ_pos' h, absQ_pos' g, k, k0, k1, k2, k5, k6]
theorem encbB_c2 {s r : Rat} {r1 r2 : Sp} (h : 0 < s) (g : 0 < r) (k : smqB 1000 s = true) (k0 : smqB 1000 r = true) (k1 : smqB 1000 r1.1 = true) (k2 : smqB 1000 r1.2 = true) (k5 : smqB 1000 (dnQ 64 (r * r1.1)) = true) (k6 : smqB 1000 (upQ 64 (r * r1.2)) = true) : encB 1000 64 [r1, r2] [(0, s), (1, r)] = true := by
 simp [absQ_pos' h, absQ_pos' g, k, k0, k1, k2, k5, k6]
theorem encbB_x {r : Rat} {r1 r2 : Sp} (h : 0 < r) (k0 : smqB 1000 r = true) (k00 : smqB 1000 (-r) = true) (k1 : smqB 1000 r1.1 = true) (k2 : smqB 1000 r1.2 = true) (k3 : smqB 1000 r2.1 = true) (k4 : smqB 1000 r2.2 = true)
  (k7 : smqB 1000 (dnQ 64 r1.1) = true) (k8 : smqB 1000 (upQ 64 r1.2) = true) (k9 : smqB 1000 (dnQ 64 r2.1) = true) (k10 : smqB 1000 (upQ 64 r2.2) = true) : encB 1000 64 [r1, r2] [(0, -r), (1, -1), (2, 1)] = true ∧ encB 1000 64 [r1, r2] [(0, -r), (1, -1)] = true := by
 have h' : -r < 0 := by grind
 simp [absQ_neg' h', k0, k00, k1, k2, k3, k4, k7, k8, k9, k10]
end
section
attribute [local simp] normB normE mulF6 mulF5 mulF4 mulG6 mulG5 mulG4 smB_F smF termG rowG colG colF rowF termF addF withE getE putE memE repE insE delE an00 an01 an02 an03 an04 an05 an06 an07 an10 an11 an12 an13 an14 an15 an16 an17 an20 an21 an22 an23 an24 an25 an26 an27 an30 an31 an32 an33 an34 an35 an36 an37 an40 an41 an42 an43 an44 an45 an46 an47 an50 an51 an52 an53 an54 an55 an56 an57 an60 an61 an62 an63 an64 an65 an66 an67 an70 an71 an72 an73 an74 an75 an76 an77 xo00 xo01 xo02 xo03 xo04 xo05 xo06 xo07 xo10 xo11 xo12 xo13 xo14 xo15 xo16 xo17 xo20 xo21 xo22 xo23 xo24 xo25 xo26 xo27 xo30 xo31 xo32 xo33 xo34 xo35 xo36 xo37 xo40 xo41 xo42 xo43 xo44 xo45 xo46 xo47 xo50 xo51 xo52 xo53 xo54 xo55 xo56 xo57 xo60 xo61 xo62 xo63 xo64 xo65 xo66 xo67 xo70 xo71 xo72 xo73 xo74 xo75 xo76 xo77 bi00 bi01 bi02 bi10 bi11 bi12 bi20 bi21 bi22 bi30 bi31 bi32 bi40 bi41 bi42 bi50 bi51 bi52 bi60 bi61 bi62 bi70 bi71 bi72 na0 na1 na2 Rat.zero_add Rat.add_zero Rat.one_mul Rat.mul_one ra1 ra2 ra3 ra4 ra5 ra6 ra7 sm1 sm2 smm1 addE_F subE_F scaF im1 rb1 rb2 rb3 rb4 rb5 Rat.neg_neg
set_option maxRecDepth 10000 in
theorem norm_B3 (n s r : Rat) (h1 : ¬ n = 0) (h2 : ¬ r = 0) (h3 : ¬ r * r = 0) (h4 : ¬ s = 0) (h5 : ¬ r + r = 0) (h7 : ¬ r * r + n = 0) (h6 : r * r + n + -s = 0) : normE [[(0, n)], [(0, s), (1, r + r)]] 6 [(0, -r), (1, -1)] [(0, 1)] [(0, s), (1, r + r)] = [] := by
 have h8 : ¬ -s = 0 := by grind
 have h9 : ¬ -(r + r) = 0 := by grind
 simp [h1, h2, h3, h4, h5, h6, h7, h8, h9]
set_option maxRecDepth 10000 in
theorem norm_B4 (n s r : Rat) (h1 : ¬ n = 0) (h2 : ¬ r = 0) (h3 : ¬ r * r = 0) (h4 : ¬ s = 0) (h5 : ¬ r + r = 0) (h7 : ¬ r * r + n = 0) (h6 : ¬ r * r + n + -s = 0) : normE [[(0, n)], [(0, s), (1, r + r)]] 6 [(0, -r), (1, -1)] [(0, 1)] [(0, s), (1, r + r)] = [(0, r * r + n + -s)] := by
 have h8 : ¬ -s = 0 := by grind
 have h9 : ¬ -(r + r) = 0 := by grind
 simp [h1, h2, h3, h4, h5, h6, h7, h8, h9]
set_option maxRecDepth 10000 in
theorem norm_B5 (n s r : Rat) (h1 : ¬ n = 0) (h2 : ¬ r = 0) (h3 : ¬ r * r = 0) (h4 : ¬ s = 0) (h5 : ¬ r + r = 0) (h7 : ¬ r * r + n = 0) (k1 : smqB 1000 n = true) (k2 : smqB 1000 r = true) (k3 : smqB 1000 (-r) = true) (k4 : smqB 1000 s = true) (k5 : smqB 1000 (r * r) = true) (k6 : smqB 1000 (r + r) = true) (k7 : smqB 1000 (r * r + n) = true) : normB 1000 [[(0, n)], [(0, s), (1, r + r)]] 6 [(0, -r), (1, -1)] [(0, 1)] [(0, s), (1, r + r)] = true := by
 simp [h1, h2, h3, h4, h5, h7, k1, k2, k3, k4, k5, k6, k7]
theorem part_B1 (r : Rat) (h : ¬ -r = 0) : partA [(0, -r), (1, -1), (2, 1)] (1 : Nat) = [(0, -r), (1, -1)] := by
 simp [partA, foldE, prA, h, ra8]
theorem part_B3 (r : Rat) : nodupB ([((0 : Int), -r), (1, -1), (2, 1)].map fun p => (prB (1 : Nat) p).1) = true := by
 simp [prB, nodupB, sh1]
theorem part_B2 (r : Rat) : partB [(0, -r), (1, -1), (2, 1)] (1 : Nat) = [(0, 1)] := by
 simp [partB, foldE, prB, sh1]
end
structure LB (n s r d l1 u1 l2 u2 c1 c2 : Rat) : Prop where
 p1 : Rg 20 n
 pr : Rg 10 r
 ps : Rg 22 s
 m1 : SmQ 25 n
 mr : SmQ 25 r
 ms : SmQ 25 s
 hs : s = r * r + n + d
 hd : 0 ≤ d
 e1 : c1 = s + dnQ 64 ((r + r) * l1)
 e2 : c2 = s + upQ 64 ((r + r) * u1)
 r1 : Rt 21 n n l1 u1
 r2 : Rt 48 c1 c2 l2 u2
theorem LB.f {n s r d l1 u1 l2 u2 c1 c2 : Rat} (h : LB n s r d l1 u1 l2 u2 c1 c2) : Rg 32 ((r + r) * l1) ∧ Rg 32 ((r + r) * u1) :=
 ⟨((h.pr.add h.pr).mul h.r1.l0).mono (by omega), ((h.pr.add h.pr).mul h.r1.u0).mono (by omega)⟩
theorem LB.enc {n s r d l1 u1 l2 u2 c1 c2 : Rat} (h : LB n s r d l1 u1 l2 u2 c1 c2) : encB 1000 64 [(l1, u1)] [(0, s), (1, r + r)] = true ∧ encB 1000 64 [(l1, u1), (l2, u2)] [(0, s), (1, r + r)] = true := by
 obtain ⟨f1, f2⟩ := h.f
 have ss := smq h.ms (by decide)
 have sr := smq (h.mr.add h.mr) (by decide)
 have pr2 := (h.pr.add h.pr).pos
 exact ⟨encbB_c h.ps.pos pr2 ss sr (h.r1.s1 (by decide)) (h.r1.s2 (by decide)) (dn_s f1 (by decide)) (up_s f2 (by decide)), encbB_c2 h.ps.pos pr2 ss sr (h.r1.s1 (by decide)) (h.r1.s2 (by decide)) (dn_s f1 (by decide)) (up_s f2 (by decide))⟩
theorem LB.encx {n s r d l1 u1 l2 u2 c1 c2 : Rat} (h : LB n s r d l1 u1 l2 u2 c1 c2) : encB 1000 64 [(l1, u1), (l2, u2)] [(0, -r), (1, -1), (2, 1)] = true ∧ encB 1000 64 [(l1, u1), (l2, u2)] [(0, -r), (1, -1)] = true :=
 encbB_x h.pr.pos (smq h.mr (by decide)) (smq h.mr.neg (by decide)) (h.r1.s1 (by decide)) (h.r1.s2 (by decide)) (h.r2.s1 (by decide)) (h.r2.s2 (by decide)) (dn_s h.r1.l0 (by decide)) (up_s h.r1.u0 (by decide)) (dn_s h.r2.l0 (by decide)) (up_s h.r2.u0 (by decide))
theorem LB.mk' {n s r d : Rat} (p1 : Rg 20 n) (pr : Rg 10 r) (ps : Rg 22 s) (m1 : SmQ 25 n) (mr : SmQ 25 r) (ms : SmQ 25 s) (hs : s = r * r + n + d) (hd : 0 ≤ d) :
  ∃ l1 u1 l2 u2 c1 c2, LB n s r d l1 u1 l2 u2 c1 c2 ∧ rootsE 64 [[(0, n)]] [] = [(l1, u1)] ∧ rootsE 64 [[(0, n)], [(0, s), (1, r + r)]] [] = [(l1, u1), (l2, u2)] ∧ rootsB 1000 64 [[(0, n)]] [] = true ∧ rootsB 1000 64 [[(0, n)], [(0, s), (1, r + r)]] [] = true := by
 have r1 := Rt.mk' p1 p1
 have g1 : rootE 64 [] [(0, n)] = (rtQ false 64 n, rtQ true 64 n) := rootE_of (enc_0 p1.pos) (Rat.le_of_lt p1.pos) (Rat.le_of_lt p1.pos)
 have x1 : encE 64 [] [(0, n)] = (n, n) := enc_0 p1.pos
 generalize rtQ false 64 n = l1 at *
 generalize rtQ true 64 n = u1 at *
 have pr2 := (pr.add pr).pos
 have a1 := ((pr.add pr).mul r1.l0).mono (show 10 + 1 + (20 + 1) ≤ 32 by omega)
 have a2 := ((pr.add pr).mul r1.u0).mono (show 10 + 1 + (20 + 1) ≤ 32 by omega)
 have b1 : Rg 46 (s + dnQ 64 ((r + r) * l1)) := (ps.mono (show 22 ≤ 45 by omega)).add ((dn_q a1).2.1.mono (by omega))
 have b2 : Rg 46 (s + upQ 64 ((r + r) * u1)) := (ps.mono (show 22 ≤ 45 by omega)).add ((up_q a2).2.1.mono (by omega))
 have x2 : encE 64 [(l1, u1)] [(0, s), (1, r + r)] = (s + dnQ 64 ((r + r) * l1), s + upQ 64 ((r + r) * u1)) := encb_c ps.pos pr2
 have g2 : rootE 64 [(l1, u1)] [(0, s), (1, r + r)] = (rtQ false 64 (s + dnQ 64 ((r + r) * l1)), rtQ true 64 (s + upQ 64 ((r + r) * u1))) := rootE_of x2 (Rat.le_of_lt b1.pos) (Rat.le_of_lt b2.pos)
 have r2 := Rt.mk' b1 b2
 have c1 : SmQ 400 (s + dnQ 64 ((r + r) * l1)) := (ms.add (dn_q a1).2.2).mono (by omega)
 have c2 : SmQ 400 (s + upQ 64 ((r + r) * u1)) := (ms.add (up_q a2).2.2).mono (by omega)
 generalize hl2 : rtQ false 64 (s + dnQ 64 ((r + r) * l1)) = l2 at *
 generalize hu2 : rtQ true 64 (s + upQ 64 ((r + r) * u1)) = u2 at *
 have h : LB n s r d l1 u1 l2 u2 (s + dnQ 64 ((r + r) * l1)) (s + upQ 64 ((r + r) * u1)) :=
  ⟨p1, pr, ps, m1, mr, ms, hs, hd, rfl, rfl, r1, ⟨r2.l0.mono (by omega), r2.u0.mono (by omega), r2.ll, r2.uu, r2.sl.mono (by omega), r2.su.mono (by omega)⟩⟩
 have k1 := smq m1 (by decide)
 refine ⟨l1, u1, l2, u2, _, _, h, ?_, ?_, ?_, ?_⟩
 ·simp only [rootsE, g1, List.nil_append]
 ·simp only [rootsE, g1, g2, List.nil_append, List.cons_append]
 ·simp only [rootsB, encB_0 p1.pos k1, x1, k1, Bool.and_true]
 ·simp only [rootsB, encB_0 p1.pos k1, x1, x2, g1, k1, h.enc.1, smq c1 (by decide), smq c2 (by decide), Bool.and_true, List.nil_append]
theorem hi_B {n s r d l1 u1 l2 u2 c1 c2 : Rat} (h : LB n s r d l1 u1 l2 u2 c1 c2) : 0 ≤ -r + (-dnQ 64 l1 + upQ 64 u2) := by
 obtain ⟨f1, f2⟩ := h.f
 have a1 := (dn_q h.r1.l0).1
 have a3 := (up_q h.r2.u0).1
 have b2 := (up_q f2).1
 have b3 := Rat.mul_le_mul_of_nonneg_left h.r1.lu (Rat.le_of_lt (h.pr.add h.pr).pos)
 have b4 := h.r1.ll
 have b6 := h.r2.uu
 have b7 := h.hd
 rw [h.e2, h.hs] at b6
 have q : (r + l1) * (r + l1) ≤ u2 * u2 := by
  have e : (r + l1) * (r + l1) = r * r + l1 * l1 + (r + r) * l1 := by grind
  rw [e]; grind
 have := sq_le (Rat.le_of_lt h.r2.u0.pos) q
 grind
theorem lo_B {n s r d l1 u1 l2 u2 c1 c2 : Rat} (h : LB n s r d l1 u1 l2 u2 c1 c2) (h0 : d = 0) : -r + (-upQ 64 u1 + dnQ 64 l2) ≤ 0 := by
 obtain ⟨f1, f2⟩ := h.f
 have a1 := (up_q h.r1.u0).1
 have a3 := (dn_q h.r2.l0).1
 have b2 := (dn_q f1).1
 have b3 := Rat.mul_le_mul_of_nonneg_left h.r1.lu (Rat.le_of_lt (h.pr.add h.pr).pos)
 have b4 := h.r1.uu
 have b6 := h.r2.ll
 rw [h.e1, h.hs, h0] at b6
 have q : l2 * l2 ≤ (r + u1) * (r + u1) := by
  have e : (r + u1) * (r + u1) = r * r + u1 * u1 + (r + r) * u1 := by grind
  rw [e]; grind
 have := sq_le (Rat.le_of_lt (by have := h.r1.u0.pos; have := h.pr.pos; grind)) q
 grind
theorem sgn_mk {t : List El} {x : El} {v : Int} (a : towB 1000 t = true) (b : canB x = true) (c : SG t 8 x v) : sgnB 1000 t 6 8 x v = true := by
 unfold sgnB; rw [a, b, c.1, c.2]; simp
set_option maxRecDepth 10000 in
theorem sign_B {n s r d : Rat} (p1 : Rg 20 n) (pr : Rg 10 r) (ps : Rg 22 s) (m1 : SmQ 25 n) (mr : SmQ 25 r) (ms : SmQ 25 s) (hs : s = r * r + n + d) (hd : 0 ≤ d) :
  sgnB 1000 [[(0, n)], [(0, s), (1, r + r)]] 6 8 [(0, -r), (1, -1), (2, 1)] (if d = 0 then 0 else 1) = true ∧ sgnB 1000 [[(0, n)]] 6 8 [(0, s), (1, r + r)] 1 = true := by
 obtain ⟨l1, u1, l2, u2, c1, c2, h, g1, g2, t1, t2⟩ := LB.mk' p1 pr ps m1 mr ms hs hd
 have pr2 := (pr.add pr).pos
 have pp := pr.pos
 have pn := p1.pos
 have prr : 0 < r * r := Rat.mul_pos pp pp
 have z1 : ¬ n = 0 := by grind
 have zr : ¬ r = 0 := by grind
 have znr : ¬ -r = 0 := by grind
 have zs : ¬ s = 0 := by have := ps.pos; grind
 have zrr : ¬ r * r = 0 := by grind
 have zr2 : ¬ r + r = 0 := by grind
 have zrn : ¬ r * r + n = 0 := by grind
 have cb1 : canB [(0, n)] = true := by simp [canB, z1]
 have cbc : canB [(0, s), (1, r + r)] = true := by simp [canB, zs, zr2]
 have cbx : canB [(0, -r), (1, -1), (2, 1)] = true := by simp [canB, znr, ra8]
 have kc1 := smq h.m1 (show 25 ≤ 1000 by decide)
 have kcr := smq h.mr (show 25 ≤ 1000 by decide)
 have kcnr := smq h.mr.neg (show 25 ≤ 1000 by decide)
 have kcs := smq h.ms (show 25 ≤ 1000 by decide)
 have kcr2 := smq (h.mr.add h.mr) (show 25 + 25 + 1 ≤ 1000 by decide)
 have kcrr := smq (h.mr.mul h.mr) (show 25 + 25 ≤ 1000 by decide)
 have kcrn := smq ((h.mr.mul h.mr).add h.m1) (show 25 + 25 + 25 + 1 ≤ 1000 by decide)
 have w1 : towB 1000 [[(0, n)]] = true := by simp [towB, t1, cb1]
 have w2 : towB 1000 [[(0, n)], [(0, s), (1, r + r)]] = true := by simp [towB, t2, cb1, cbc]
 obtain ⟨f1, f2⟩ := h.f
 have pc1 : 0 < s + dnQ 64 ((r + r) * l1) := ((ps.mono (show 22 ≤ 32 by decide)).add (dn_q f1).2.1).pos
 have pc2 : 0 < s + upQ 64 ((r + r) * u1) := ((ps.mono (show 22 ≤ 33 by decide)).add (up_q f2).2.1).pos
 have sc : ∀ {f : Nat}, SG [[(0, n)], [(0, s), (1, r + r)]] (f + 1) [(0, s), (1, r + r)] 1 := fun {f} => SG_pos rfl rfl (by rw [g2]; exact h.enc.2)
  (by rw [g2, encb_c2 ps.pos pr2]; exact pc1) (by rw [g2, encb_c2 ps.pos pr2]; exact Rat.le_of_lt pc2)
 have sc2 : SG [[(0, n)]] 8 [(0, s), (1, r + r)] 1 := SG_pos rfl rfl (by rw [g1]; exact h.enc.1)
  (by rw [g1, encb_c ps.pos pr2]; exact pc1) (by rw [g1, encb_c ps.pos pr2]; exact Rat.le_of_lt pc2)
 refine ⟨sgn_mk w2 cbx ?_, sgn_mk w1 cbc sc2⟩
 have hi := hi_B h
 have sA : SG [[(0, n)], [(0, s), (1, r + r)]] 7 [(0, -r), (1, -1)] (-1) := SG_neg rfl rfl (by rw [g2]; exact h.encx.2)
  (by rw [g2, encb_a pp]; have := (up_q h.r1.u0).2.1.pos; grind) (by rw [g2, encb_a pp]; have := (dn_q h.r1.l0).2.1.pos; grind)
 have hN := norm_B5 n s r z1 zr zrr zs zr2 zrn kc1 kcr kcnr kcs kcrr kcr2 kcrn
 have sx : smB 1000 [(0, -r), (1, -1), (2, 1)] = true := by simp [smB_F, smF, kcnr, sm1, smm1]
 by_cases h0 : d = 0
 ·rw [if_pos h0]
  have lo := lo_B h h0
  exact SG_deep (n := 1) (c := [(0, s), (1, r + r)]) (sn := 0) rfl rfl (by rw [g2]; exact h.encx.1) (by rw [g2, encb_x pp]; exact lo) (by rw [g2, encb_x pp]; exact hi) sx rfl (part_B3 r) (by simp) (part_B1 r znr) (part_B2 r) rfl sA (SG_p one_p) sc hN
   (by rw [norm_B3 n s r z1 zr zrr zs zr2 zrn (by grind)]; exact SG_nil) (.inl rfl)
 ·rw [if_neg h0]
  by_cases hlo : 0 < -r + (-upQ 64 u1 + dnQ 64 l2)
  ·exact SG_pos rfl rfl (by rw [g2]; exact h.encx.1) (by rw [g2, encb_x pp]; exact hlo) (by rw [g2, encb_x pp]; exact hi)
  ·exact SG_deep (n := 1) (c := [(0, s), (1, r + r)]) (sn := -1) rfl rfl (by rw [g2]; exact h.encx.1) (by rw [g2, encb_x pp]; show _ ≤ _; grind) (by rw [g2, encb_x pp]; exact hi) sx rfl (part_B3 r) (by simp) (part_B1 r znr) (part_B2 r) rfl sA (SG_p one_p) sc hN
    (by rw [norm_B4 n s r z1 zr zrr zs zr2 zrn (by grind)]; exact SG_m (by grind)) (.inr rfl)
end Go.Proofs.YtajecapgmdfjcaaGreatDoor

/- Plain: the signs of the other shapes. -/
namespace Go.Proofs.YtajecapgmdfjcaaGreatDoor
open Go.RowKit Vn
section
attribute [local simp] encE spanL an00 an01 an02 an03 an04 an05 an06 an07 an10 an11 an12 an13 an14 an15 an16 an17 an20 an21 an22 an23 an24 an25 an26 an27 an30 an31 an32 an33 an34 an35 an36 an37 an40 an41 an42 an43 an44 an45 an46 an47 an50 an51 an52 an53 an54 an55 an56 an57 an60 an61 an62 an63 an64 an65 an66 an67 an70 an71 an72 an73 an74 an75 an76 an77 xo00 xo01 xo02 xo03 xo04 xo05 xo06 xo07 xo10 xo11 xo12 xo13 xo14 xo15 xo16 xo17 xo20 xo21 xo22 xo23 xo24 xo25 xo26 xo27 xo30 xo31 xo32 xo33 xo34 xo35 xo36 xo37 xo40 xo41 xo42 xo43 xo44 xo45 xo46 xo47 xo50 xo51 xo52 xo53 xo54 xo55 xo56 xo57 xo60 xo61 xo62 xo63 xo64 xo65 xo66 xo67 xo70 xo71 xo72 xo73 xo74 xo75 xo76 xo77 bi00 bi01 bi02 bi10 bi11 bi12 bi20 bi21 bi22 bi30 bi31 bi32 bi40 bi41 bi42 bi50 bi51 bi52 bi60 bi61 bi62 bi70 bi71 bi72 na0 na1 na2 Rat.zero_add Rat.add_zero Rat.one_mul Rat.mul_one ra1 ra2 ra3 ra4 ra5 ra6 Rat.neg_neg
theorem encz_x {r1 r2 : Sp} : encE 64 [r1, r2] [(1, -1), (2, 1)] = (-upQ 64 r1.2 + dnQ 64 r2.1, -dnQ 64 r1.1 + upQ 64 r2.2) := by simp [spanP_neg m1_n, spanP_pos one_p]
theorem encz_a {r1 r2 : Sp} : encE 64 [r1, r2] [(1, -1)] = (-upQ 64 r1.2, -dnQ 64 r1.1) := by simp [spanP_neg m1_n]
theorem ency_x {r : Rat} {r1 : Sp} (h : 0 < r) : encE 64 [r1] [(0, -r), (1, 1)] = (-r + dnQ 64 r1.1, -r + upQ 64 r1.2) := by
 have h' : -r < 0 := by grind
 simp [spanP_neg h', spanP_pos one_p]
theorem encw_x {r1 : Sp} : encE 64 [r1] [(1, 1)] = (dnQ 64 r1.1, upQ 64 r1.2) := by simp [spanP_pos one_p]
end
section
attribute [local simp] spanLB encB smB_F smF an00 an01 an02 an03 an04 an05 an06 an07 an10 an11 an12 an13 an14 an15 an16 an17 an20 an21 an22 an23 an24 an25 an26 an27 an30 an31 an32 an33 an34 an35 an36 an37 an40 an41 an42 an43 an44 an45 an46 an47 an50 an51 an52 an53 an54 an55 an56 an57 an60 an61 an62 an63 an64 an65 an66 an67 an70 an71 an72 an73 an74 an75 an76 an77 xo00 xo01 xo02 xo03 xo04 xo05 xo06 xo07 xo10 xo11 xo12 xo13 xo14 xo15 xo16 xo17 xo20 xo21 xo22 xo23 xo24 xo25 xo26 xo27 xo30 xo31 xo32 xo33 xo34 xo35 xo36 xo37 xo40 xo41 xo42 xo43 xo44 xo45 xo46 xo47 xo50 xo51 xo52 xo53 xo54 xo55 xo56 xo57 xo60 xo61 xo62 xo63 xo64 xo65 xo66 xo67 xo70 xo71 xo72 xo73 xo74 xo75 xo76 xo77 bi00 bi01 bi02 bi10 bi11 bi12 bi20 bi21 bi22 bi30 bi31 bi32 bi40 bi41 bi42 bi50 bi51 bi52 bi60 bi61 bi62 bi70 bi71 bi72 na0 na1 na2 Rat.zero_add Rat.add_zero Rat.one_mul Rat.mul_one ra1 ra2 ra3 ra4 ra5 ra6 Rat.neg_neg sm1 sm2 smm1 ab1 ab2 abm
theorem enczB_x {r1 r2 : Sp} (k1 : smqB 1000 r1.1 = true) (k2 : smqB 1000 r1.2 = true) (k3 : smqB 1000 r2.1 = true) (k4 : smqB 1000 r2.2 = true)
  (k7 : smqB 1000 (dnQ 64 r1.1) = true) (k8 : smqB 1000 (upQ 64 r1.2) = true) (k9 : smqB 1000 (dnQ 64 r2.1) = true) (k10 : smqB 1000 (upQ 64 r2.2) = true) : encB 1000 64 [r1, r2] [(1, -1), (2, 1)] = true ∧ encB 1000 64 [r1, r2] [(1, -1)] = true := by
 simp [k1, k2, k3, k4, k7, k8, k9, k10]
theorem encyB_x {r : Rat} {r1 : Sp} (h : 0 < r) (k0 : smqB 1000 r = true) (k00 : smqB 1000 (-r) = true) (k1 : smqB 1000 r1.1 = true) (k2 : smqB 1000 r1.2 = true)
  (k7 : smqB 1000 (dnQ 64 r1.1) = true) (k8 : smqB 1000 (upQ 64 r1.2) = true) : encB 1000 64 [r1] [(0, -r), (1, 1)] = true := by
 have h' : -r < 0 := by grind
 simp [absQ_neg' h', k0, k00, k1, k2, k7, k8]
theorem encwB_x {r1 : Sp} (k1 : smqB 1000 r1.1 = true) (k2 : smqB 1000 r1.2 = true) (k7 : smqB 1000 (dnQ 64 r1.1) = true) (k8 : smqB 1000 (upQ 64 r1.2) = true) : encB 1000 64 [r1] [(1, 1)] = true := by
 simp [k1, k2, k7, k8]
end
section
attribute [local simp] normB normE mulF6 mulF5 mulF4 mulG6 mulG5 mulG4 smB_F smF termG rowG colG colF rowF termF addF withE getE putE memE repE insE delE an00 an01 an02 an03 an04 an05 an06 an07 an10 an11 an12 an13 an14 an15 an16 an17 an20 an21 an22 an23 an24 an25 an26 an27 an30 an31 an32 an33 an34 an35 an36 an37 an40 an41 an42 an43 an44 an45 an46 an47 an50 an51 an52 an53 an54 an55 an56 an57 an60 an61 an62 an63 an64 an65 an66 an67 an70 an71 an72 an73 an74 an75 an76 an77 xo00 xo01 xo02 xo03 xo04 xo05 xo06 xo07 xo10 xo11 xo12 xo13 xo14 xo15 xo16 xo17 xo20 xo21 xo22 xo23 xo24 xo25 xo26 xo27 xo30 xo31 xo32 xo33 xo34 xo35 xo36 xo37 xo40 xo41 xo42 xo43 xo44 xo45 xo46 xo47 xo50 xo51 xo52 xo53 xo54 xo55 xo56 xo57 xo60 xo61 xo62 xo63 xo64 xo65 xo66 xo67 xo70 xo71 xo72 xo73 xo74 xo75 xo76 xo77 bi00 bi01 bi02 bi10 bi11 bi12 bi20 bi21 bi22 bi30 bi31 bi32 bi40 bi41 bi42 bi50 bi51 bi52 bi60 bi61 bi62 bi70 bi71 bi72 na0 na1 na2 Rat.zero_add Rat.add_zero Rat.one_mul Rat.mul_one ra1 ra2 ra3 ra4 ra5 ra6 ra7 ra8 sm1 sm2 smm1 addE_F subE_F scaF im1 rb1 rb2 rb3 rb4 rb5 Rat.neg_neg
set_option maxRecDepth 10000 in
theorem norm_Z3 (n s : Rat) (h1 : ¬ n = 0) (h4 : ¬ s = 0) (h6 : n + -s = 0) : normE [[(0, n)], [(0, s)]] 6 [(1, -1)] [(0, 1)] [(0, s)] = [] := by
 have h8 : ¬ -s = 0 := by grind
 simp [h1, h4, h6, h8]
set_option maxRecDepth 10000 in
theorem norm_Z4 (n s : Rat) (h1 : ¬ n = 0) (h4 : ¬ s = 0) (h6 : ¬ n + -s = 0) : normE [[(0, n)], [(0, s)]] 6 [(1, -1)] [(0, 1)] [(0, s)] = [(0, n + -s)] := by
 have h8 : ¬ -s = 0 := by grind
 simp [h1, h4, h6, h8]
set_option maxRecDepth 10000 in
theorem norm_Z5 (n s : Rat) (h1 : ¬ n = 0) (h4 : ¬ s = 0) (k1 : smqB 1000 n = true) (k4 : smqB 1000 s = true) : normB 1000 [[(0, n)], [(0, s)]] 6 [(1, -1)] [(0, 1)] [(0, s)] = true := by
 simp [h1, h4, k1, k4]
set_option maxRecDepth 10000 in
theorem norm_Y4 (n r : Rat) (h1 : ¬ n = 0) (h4 : ¬ r * r = 0) (h6 : ¬ r * r + -n = 0) : normE [[(0, n)]] 6 [(0, -r)] [(0, 1)] [(0, n)] = [(0, r * r + -n)] := by
 have h8 : ¬ -n = 0 := by grind
 simp [h1, h4, h6, h8]
set_option maxRecDepth 10000 in
theorem norm_Y5 (n r : Rat) (h1 : ¬ n = 0) (h4 : ¬ r * r = 0) (k1 : smqB 1000 n = true) (k2 : smqB 1000 (-r) = true) (k4 : smqB 1000 (r * r) = true) : normB 1000 [[(0, n)]] 6 [(0, -r)] [(0, 1)] [(0, n)] = true := by
 simp [h1, h4, k1, k2, k4]
theorem part_Y1 (r : Rat) (h : ¬ -r = 0) : partA [(0, -r), (1, 1)] (0 : Nat) = [(0, -r)] := by simp [partA, foldE, prA, h]
theorem part_Y2 (r : Rat) : partB [(0, -r), (1, 1)] (0 : Nat) = [(0, 1)] := by simp [partB, foldE, prB, sh0]
theorem part_Y3 (r : Rat) : nodupB ([((0 : Int), -r), (1, 1)].map fun p => (prB (0 : Nat) p).1) = true := by simp [prB, nodupB, sh0]
end
theorem tow_1 {n : Rat} (p : Rg 20 n) (m : SmQ 25 n) : towB 1000 [[(0, n)]] = true ∧ rootsE 64 [[(0, n)]] [] = [(rtQ false 64 n, rtQ true 64 n)] ∧ Rt 21 n n (rtQ false 64 n) (rtQ true 64 n) := by
 have g1 : rootE 64 [] [(0, n)] = (rtQ false 64 n, rtQ true 64 n) := rootE_of (enc_0 p.pos) (Rat.le_of_lt p.pos) (Rat.le_of_lt p.pos)
 have x1 : encE 64 [] [(0, n)] = (n, n) := enc_0 p.pos
 have k1 := smq m (by decide)
 have z1 : ¬ n = 0 := by have := p.pos; grind
 have t1 : rootsB 1000 64 [[(0, n)]] [] = true := by simp only [rootsB, encB_0 p.pos k1, x1, k1, Bool.and_true]
 exact ⟨by simp [towB, t1, canB, z1], by simp only [rootsE, g1, List.nil_append], Rt.mk' p p⟩
theorem tow_0 : towB 1000 [] = true := rfl
theorem sgn_num {t : List El} {q : Rat} (w : towB 1000 t = true) (h : 0 < q) : sgnB 1000 t 6 8 [(0, q)] 1 = true := by
 have z : ¬ q = 0 := by grind
 exact sgn_mk w (by simp [canB, z]) (SG_p h)
theorem sgn_nil {t : List El} (w : towB 1000 t = true) : sgnB 1000 t 6 8 [] 0 = true := sgn_mk w rfl SG_nil
theorem sign_C {n r d : Rat} (p1 : Rg 20 n) (pr : 0 < r) (m1 : SmQ 25 n) (mr : SmQ 25 r) (hs : n = r * r + d) (hd : 0 < d) : sgnB 1000 [[(0, n)]] 6 8 [(0, -r), (1, 1)] 1 = true := by
 obtain ⟨w, g, h⟩ := tow_1 p1 m1
 generalize rtQ false 64 n = l at *
 generalize rtQ true 64 n = u at *
 have znr : ¬ -r = 0 := by grind
 have zr : ¬ r = 0 := by grind
 have prr : 0 < r * r := Rat.mul_pos pr pr
 have kr := smq mr (by decide)
 have knr := smq mr.neg (by decide)
 have he : encB 1000 64 (rootsE 64 [[(0, n)]] []) [(0, -r), (1, 1)] = true := by
  rw [g]; exact encyB_x pr kr knr (h.s1 (by decide)) (h.s2 (by decide)) (dn_s h.l0 (by decide)) (up_s h.u0 (by decide))
 have hi : 0 ≤ -r + upQ 64 u := by
  have a1 := (up_q h.u0).1
  have q : r * r ≤ u * u := by have := h.uu; grind
  have := sq_le (Rat.le_of_lt h.u0.pos) q
  grind
 refine sgn_mk w (by simp [canB, znr]) ?_
 by_cases hlo : 0 < -r + dnQ 64 l
 ·exact SG_pos rfl rfl he (by rw [g, ency_x pr]; exact hlo) (by rw [g, ency_x pr]; exact hi)
 ·exact SG_deep (n := 0) (c := [(0, n)]) (sn := -1) rfl rfl he (by rw [g, ency_x pr]; show _ ≤ _; grind) (by rw [g, ency_x pr]; exact hi) (by simp [smB_F, smF, knr, sm1]) rfl (part_Y3 r) (by simp) (part_Y1 r znr) (part_Y2 r) rfl (SG_m (by grind)) (SG_p one_p) (SG_p p1.pos)
   (norm_Y5 n r (by have := p1.pos; grind) (by grind) (smq m1 (by decide)) knr (smq (mr.mul mr) (by decide)))
   (by rw [norm_Y4 n r (by have := p1.pos; grind) (by grind) (by grind)]; exact SG_m (by grind)) (.inr rfl)
theorem sign_C0 {n : Rat} (p1 : Rg 20 n) (m1 : SmQ 25 n) : sgnB 1000 [[(0, n)]] 6 8 [(1, 1)] 1 = true := by
 obtain ⟨w, g, h⟩ := tow_1 p1 m1
 generalize rtQ false 64 n = l at *
 generalize rtQ true 64 n = u at *
 refine sgn_mk w rfl (SG_pos rfl rfl ?_ ?_ ?_)
 ·rw [g]; exact encwB_x (h.s1 (by decide)) (h.s2 (by decide)) (dn_s h.l0 (by decide)) (up_s h.u0 (by decide))
 ·rw [g, encw_x]; exact (dn_q h.l0).2.1.pos
 ·rw [g, encw_x]; exact Rat.le_of_lt (up_q h.u0).2.1.pos
theorem sign_Z {n s d : Rat} (p1 : Rg 20 n) (ps : Rg 20 s) (m1 : SmQ 25 n) (ms : SmQ 25 s) (hs : s = n + d) (hd : 0 ≤ d) :
  sgnB 1000 [[(0, n)], [(0, s)]] 6 8 [(1, -1), (2, 1)] (if d = 0 then 0 else 1) = true := by
 obtain ⟨w1, g1, r1⟩ := tow_1 p1 m1
 have x1 : encE 64 [] [(0, n)] = (n, n) := enc_0 p1.pos
 have g0 : rootE 64 [] [(0, n)] = (rtQ false 64 n, rtQ true 64 n) := rootE_of x1 (Rat.le_of_lt p1.pos) (Rat.le_of_lt p1.pos)
 generalize rtQ false 64 n = l1 at *
 generalize rtQ true 64 n = u1 at *
 have x2 : encE 64 [(l1, u1)] [(0, s)] = (s, s) := enc_1 ps.pos
 have g2 : rootE 64 [(l1, u1)] [(0, s)] = (rtQ false 64 s, rtQ true 64 s) := rootE_of x2 (Rat.le_of_lt ps.pos) (Rat.le_of_lt ps.pos)
 have r2 := Rt.mk' ps ps
 generalize rtQ false 64 s = l2 at *
 generalize rtQ true 64 s = u2 at *
 have k1 := smq m1 (show 25 ≤ 1000 by decide)
 have ks := smq ms (show 25 ≤ 1000 by decide)
 have z1 : ¬ n = 0 := by have := p1.pos; grind
 have zs : ¬ s = 0 := by have := ps.pos; grind
 have g : rootsE 64 [[(0, n)], [(0, s)]] [] = [(l1, u1), (l2, u2)] := by simp only [rootsE, g0, g2, List.nil_append, List.cons_append]
 have t2 : rootsB 1000 64 [[(0, n)], [(0, s)]] [] = true := by simp only [rootsB, encB_0 p1.pos k1, x1, x2, g0, k1, encB_1 ps.pos ks, ks, Bool.and_true, List.nil_append]
 have w2 : towB 1000 [[(0, n)], [(0, s)]] = true := by simp [towB, t2, canB, z1, zs]
 obtain ⟨ex, ea⟩ : encB 1000 64 [(l1, u1), (l2, u2)] [(1, -1), (2, 1)] = true ∧ encB 1000 64 [(l1, u1), (l2, u2)] [(1, -1)] = true :=
  enczB_x (r1.s1 (by decide)) (r1.s2 (by decide)) (r2.s1 (by decide)) (r2.s2 (by decide)) (dn_s r1.l0 (by decide)) (up_s r1.u0 (by decide)) (dn_s r2.l0 (by decide)) (up_s r2.u0 (by decide))
 have a1 := (dn_q r1.l0).1
 have a2 := (up_q r1.u0).1
 have a3 := (dn_q r2.l0).1
 have a4 := (up_q r2.u0).1
 have hi : 0 ≤ -dnQ 64 l1 + upQ 64 u2 := by
  have q : l1 * l1 ≤ u2 * u2 := by have := r1.ll; have := r2.uu; grind
  have := sq_le (Rat.le_of_lt r2.u0.pos) q
  grind
 have sA : SG [[(0, n)], [(0, s)]] 7 [(1, -1)] (-1) := SG_neg rfl rfl (by rw [g]; exact ea)
  (by rw [g, encz_a]; have := (up_q r1.u0).2.1.pos; grind) (by rw [g, encz_a]; have := (dn_q r1.l0).2.1.pos; grind)
 have sx : smB 1000 [(1, -1), (2, 1)] = true := by simp [smB_F, smF, sm1, smm1]
 refine sgn_mk w2 (by kernel_rfl) ?_
 by_cases h0 : d = 0
 ·rw [if_pos h0]
  have lo : -upQ 64 u1 + dnQ 64 l2 ≤ 0 := by
   have q : l2 * l2 ≤ u1 * u1 := by have := r1.uu; have := r2.ll; grind
   have := sq_le (Rat.le_of_lt r1.u0.pos) q
   grind
  exact SG_deep (n := 1) (c := [(0, s)]) (sn := 0) rfl rfl (by rw [g]; exact ex) (by rw [g, encz_x]; exact lo) (by rw [g, encz_x]; exact hi) sx rfl rfl (by simp) (by kernel_rfl) (by kernel_rfl) rfl sA (SG_p one_p) (SG_p ps.pos)
   (norm_Z5 n s z1 zs k1 ks) (by rw [norm_Z3 n s z1 zs (by grind)]; exact SG_nil) (.inl rfl)
 ·rw [if_neg h0]
  by_cases hlo : 0 < -upQ 64 u1 + dnQ 64 l2
  ·exact SG_pos rfl rfl (by rw [g]; exact ex) (by rw [g, encz_x]; exact hlo) (by rw [g, encz_x]; exact hi)
  ·exact SG_deep (n := 1) (c := [(0, s)]) (sn := -1) rfl rfl (by rw [g]; exact ex) (by rw [g, encz_x]; show _ ≤ _; grind) (by rw [g, encz_x]; exact hi) sx rfl rfl (by simp) (by kernel_rfl) (by kernel_rfl) rfl sA (SG_p one_p) (SG_p ps.pos)
    (norm_Z5 n s z1 zs k1 ks) (by rw [norm_Z4 n s z1 zs (by grind)]; exact SG_m (by grind)) (.inr rfl)
end Go.Proofs.YtajecapgmdfjcaaGreatDoor

/- The functions that open walks in place. -/
namespace Go.Proofs.YtajecapgmdfjcaaGreatDoor
open Go.RowKit Vn
def wC (ws : List Int) : AC := .sl 1 (ws.map fun w => [.v (.int .i64 w)])
noncomputable def FTo : FTab := fun k => cond (Nat.beq k 129) (some ⟨Tryz.f129, [], [], 0, 0, []⟩)
 (cond (Nat.beq k 127) (some ⟨Tryz.f127, [(1, [(3, 1000014), (5, 4), (10, 1000014), (12, 4)]), (3, [(3, 1000014), (11, 1000014), (13, 4), (23, 1000014), (25, 4)]), (24, [(5, 2000000)])], [(900, 901), (191, 902)], 20, 20, [3, 4, 6, 7, 8, 11, 12, 14, 990, 991, 901, 902]⟩)
 (cond (Nat.beq k 158) (some ⟨Tryz.f158, [(2, [(4, 2000014), (8, 2000000)])], [(12, 900)], 16, 20, [4, 11, 14, 1000003, 1000004, 1000006, 1000007, 1000008, 1000011, 1000012, 1000014, 1000990, 1000991, 1000901, 1000902, 900]⟩) none))
theorem FTo_ok : FTOK Tryz.prog FTo := by
 intro k E h
 unfold FTo at h
 cases hb : Nat.beq k 129 with
 | true =>
  rw [hb] at h; cases h
  have := Nat.eq_of_beq_eq_true hb
  subst this
  exact ⟨Tryz.func129, by kernel_rfl, ⟨_, rfl⟩, by decide, by kernel_rfl⟩
 | false =>
  rw [hb] at h
  cases hb : Nat.beq k 127 with
  | true =>
   rw [hb] at h; cases h
   have := Nat.eq_of_beq_eq_true hb
   subst this
   exact ⟨Tryz.func127, by kernel_rfl, ⟨_, rfl⟩, by decide, by kernel_rfl⟩
  | false =>
   rw [hb] at h
   cases hb : Nat.beq k 158 with
   | true =>
    rw [hb] at h; cases h
    have := Nat.eq_of_beq_eq_true hb
    subst this
    exact ⟨Tryz.func158, by kernel_rfl, ⟨_, rfl⟩, by decide, by kernel_rfl⟩
   | false => rw [hb] at h; cases h
end Go.Proofs.YtajecapgmdfjcaaGreatDoor

/- awake's lists. PRINTED by gen/em.py. -/
namespace Go.Proofs.YtajecapgmdfjcaaGreatDoor
open Go.RowKit Vn
def nst : List Nd := nestL [50] [51]
def nstB : List Nd := [⟨1, 0, 0, [50]⟩, ⟨1, 0, 0, [51]⟩, ⟨4, 0, 0, []⟩, ⟨4, 1, 0, []⟩, ⟨7, 2, 3, []⟩, ⟨5, 4, 4, []⟩, ⟨5, 0, 1, []⟩, ⟨5, 6, 5, []⟩, ⟨4, 7, 0, []⟩, ⟨5, 2, 3, []⟩, ⟨6, 8, 9, []⟩, ⟨6, 2, 3, []⟩]
def nstC : List Nd := [⟨1, 0, 0, [45, 49]⟩, ⟨4, 0, 0, []⟩]
theorem vlen_ok {l : List Nd} (h : (l.all fun x => decide (x.v.length ≤ 9223372036854775807)) = true) : ∀ x ∈ l, x.v.length ≤ 9223372036854775807 := fun x hx => of_decide_eq_true (List.all_eq_true.1 h x hx)
theorem len_a : ∀ x ∈ nst, x.v.length ≤ 9223372036854775807 := vlen_ok (by kernel_rfl)
theorem chk_a : checkE nst = (0, 0) := by kernel_rfl
set_option maxRecDepth 100000 in
set_option maxHeartbeats 8000000 in
theorem cW_a : Cal Tryz.prog OQ 32 [lsA nst] (.c (wC [1, 1, 1, 1, 2, 4, 2, 6, 6, 2, 8])) := by
 refine fn_callB [(6, [(4, 5), (6, 10), (9, 5), (11, 10), (15, 10)])] TK MX Tryz.func32 rfl (by kernel_rfl) (by kernel_rfl) (by kernel_rfl) rfl rfl ?_
 conv => whnf
 refine ⟨12, ?_⟩
 conv => whnf
 refine ⟨_, cUses, ?_⟩
 conv => whnf
 refine ⟨_, parsT [50] 2 (by kernel_rfl), ?_⟩
 conv => whnf
 refine ⟨_, digT 2 1 1000 (by kernel_rfl), ?_⟩
 conv => whnf
 refine ⟨_, cUses, ?_⟩
 conv => whnf
 refine ⟨_, parsT [51] 3 (by kernel_rfl), ?_⟩
 conv => whnf
 refine ⟨_, digT 3 1 1000 (by kernel_rfl), ?_⟩
 conv => whnf
 refine ⟨_, cUses, ?_⟩
 conv => whnf
 refine ⟨_, cUses, ?_⟩
 conv => whnf
 refine ⟨_, cUses, ?_⟩
 conv => whnf
 refine ⟨_, cUses, ?_⟩
 conv => whnf
 refine ⟨_, cUses, ?_⟩
 conv => whnf
 refine ⟨_, cUses, ?_⟩
 conv => whnf
 refine ⟨_, cUses, ?_⟩
 conv => whnf
 refine ⟨_, cUses, ?_⟩
 conv => whnf
 refine ⟨_, cUses, ?_⟩
 conv => whnf
 rfl
set_option maxRecDepth 100000 in
set_option maxHeartbeats 8000000 in
theorem cW_b : Cal Tryz.prog OQ 32 [lsA nstB] (.c (wC [1, 1, 1, 1, 2, 4, 2, 6, 6, 2, 8, 2])) := by
 refine fn_callB [(6, [(4, 5), (6, 10), (9, 5), (11, 10), (15, 10)])] TK MX Tryz.func32 rfl (by kernel_rfl) (by kernel_rfl) (by kernel_rfl) rfl rfl ?_
 conv => whnf
 refine ⟨13, ?_⟩
 conv => whnf
 refine ⟨_, cUses, ?_⟩
 conv => whnf
 refine ⟨_, parsT [50] 2 (by kernel_rfl), ?_⟩
 conv => whnf
 refine ⟨_, digT 2 1 1000 (by kernel_rfl), ?_⟩
 conv => whnf
 refine ⟨_, cUses, ?_⟩
 conv => whnf
 refine ⟨_, parsT [51] 3 (by kernel_rfl), ?_⟩
 conv => whnf
 refine ⟨_, digT 3 1 1000 (by kernel_rfl), ?_⟩
 conv => whnf
 refine ⟨_, cUses, ?_⟩
 conv => whnf
 refine ⟨_, cUses, ?_⟩
 conv => whnf
 refine ⟨_, cUses, ?_⟩
 conv => whnf
 refine ⟨_, cUses, ?_⟩
 conv => whnf
 refine ⟨_, cUses, ?_⟩
 conv => whnf
 refine ⟨_, cUses, ?_⟩
 conv => whnf
 refine ⟨_, cUses, ?_⟩
 conv => whnf
 refine ⟨_, cUses, ?_⟩
 conv => whnf
 refine ⟨_, cUses, ?_⟩
 conv => whnf
 refine ⟨_, cUses, ?_⟩
 conv => whnf
 rfl
theorem len_c : ∀ x ∈ nstC, x.v.length ≤ 9223372036854775807 := vlen_ok (by kernel_rfl)
theorem chk_c : checkE nstC = (0, 0) := by kernel_rfl
set_option maxRecDepth 100000 in
set_option maxHeartbeats 8000000 in
theorem cW_c : Cal Tryz.prog OQ 32 [lsA nstC] (.c (wC [1, 1])) := by
 refine fn_callB [(6, [(4, 5), (6, 10), (9, 5), (11, 10), (15, 10)])] TK MX Tryz.func32 rfl (by kernel_rfl) (by kernel_rfl) (by kernel_rfl) rfl rfl ?_
 conv => whnf
 refine ⟨3, ?_⟩
 conv => whnf
 refine ⟨_, cUses, ?_⟩
 conv => whnf
 refine ⟨_, parsT [45, 49] (-1) (by kernel_rfl), ?_⟩
 conv => whnf
 refine ⟨_, digT (-1) 1 1000 (by kernel_rfl), ?_⟩
 conv => whnf
 refine ⟨_, cUses, ?_⟩
 conv => whnf
 rfl
set_option maxRecDepth 100000 in
set_option maxHeartbeats 8000000 in
theorem cN_a_2 : Cal Tryz.prog OQ 86 [lsA nst, iA 2] (.c (.cl 129 [.e [.sl 1 [bC true, bC false, bC true]]])) := by
 refine fn_callD [(9, [(0, 5), (2, 7), (3, 5), (5, 7), (7, 11), (13, 11)])] TK MX (H := HL Tryz.prog OQ TB FTn 1) (HL_ok TK MX FTn_ok 1) (nd := false) Tryz.func86 rfl (by kernel_rfl) (by kernel_rfl) (by kernel_rfl) rfl rfl ?_
 conv => whnf
 refine ⟨_, cBackward (l := (nst).take 3), ?_⟩
 conv => whnf
 intro R
 conv => whnf
 refine ⟨4, ?_⟩
 conv => whnf
 repeat (first | (refine ⟨_, cUses, ?_⟩; (conv => whnf)) | (refine ⟨rfl, ?_⟩; (conv => whnf)))
 rfl
set_option maxRecDepth 100000 in
set_option maxHeartbeats 8000000 in
theorem cN_a_10 : Cal Tryz.prog OQ 86 [lsA nst, iA 10] (.c (.cl 129 [.e [.sl 1 [bC true, bC true, bC true, bC true, bC true, bC true, bC true, bC true, bC true, bC true, bC true]]])) := by
 refine fn_callD [(9, [(0, 5), (2, 7), (3, 5), (5, 7), (7, 11), (13, 11)])] TK MX (H := HL Tryz.prog OQ TB FTn 1) (HL_ok TK MX FTn_ok 1) (nd := false) Tryz.func86 rfl (by kernel_rfl) (by kernel_rfl) (by kernel_rfl) rfl rfl ?_
 conv => whnf
 refine ⟨_, cBackward (l := (nst).take 11), ?_⟩
 conv => whnf
 intro R
 conv => whnf
 refine ⟨12, ?_⟩
 conv => whnf
 repeat (first | (refine ⟨_, cUses, ?_⟩; (conv => whnf)) | (refine ⟨rfl, ?_⟩; (conv => whnf)))
 rfl
set_option maxRecDepth 100000 in
set_option maxHeartbeats 8000000 in
theorem cN_b_11 : Cal Tryz.prog OQ 86 [lsA nstB, iA 11] (.c (.cl 129 [.e [.sl 1 [bC true, bC true, bC true, bC true, bC false, bC false, bC false, bC false, bC false, bC false, bC false, bC true]]])) := by
 refine fn_callD [(9, [(0, 5), (2, 7), (3, 5), (5, 7), (7, 11), (13, 11)])] TK MX (H := HL Tryz.prog OQ TB FTn 1) (HL_ok TK MX FTn_ok 1) (nd := false) Tryz.func86 rfl (by kernel_rfl) (by kernel_rfl) (by kernel_rfl) rfl rfl ?_
 conv => whnf
 refine ⟨_, cBackward (l := (nstB).take 12), ?_⟩
 conv => whnf
 intro R
 conv => whnf
 refine ⟨13, ?_⟩
 conv => whnf
 repeat (first | (refine ⟨_, cUses, ?_⟩; (conv => whnf)) | (refine ⟨rfl, ?_⟩; (conv => whnf)))
 rfl
set_option maxRecDepth 100000 in
set_option maxHeartbeats 8000000 in
theorem cN_c_1 : Cal Tryz.prog OQ 86 [lsA nstC, iA 1] (.c (.cl 129 [.e [.sl 1 [bC true, bC true]]])) := by
 refine fn_callD [(9, [(0, 5), (2, 7), (3, 5), (5, 7), (7, 11), (13, 11)])] TK MX (H := HL Tryz.prog OQ TB FTn 1) (HL_ok TK MX FTn_ok 1) (nd := false) Tryz.func86 rfl (by kernel_rfl) (by kernel_rfl) (by kernel_rfl) rfl rfl ?_
 conv => whnf
 refine ⟨_, cBackward (l := (nstC).take 2), ?_⟩
 conv => whnf
 intro R
 conv => whnf
 refine ⟨3, ?_⟩
 conv => whnf
 repeat (first | (refine ⟨_, cUses, ?_⟩; (conv => whnf)) | (refine ⟨rfl, ?_⟩; (conv => whnf)))
 rfl
set_option maxRecDepth 100000 in
set_option maxHeartbeats 8000000 in
theorem cN_c_0 : Cal Tryz.prog OQ 86 [lsA nstC, iA 0] (.c (.cl 129 [.e [.sl 1 [bC true]]])) := by
 refine fn_callD [(9, [(0, 5), (2, 7), (3, 5), (5, 7), (7, 11), (13, 11)])] TK MX (H := HL Tryz.prog OQ TB FTn 1) (HL_ok TK MX FTn_ok 1) (nd := false) Tryz.func86 rfl (by kernel_rfl) (by kernel_rfl) (by kernel_rfl) rfl rfl ?_
 conv => whnf
 refine ⟨_, cBackward (l := (nstC).take 1), ?_⟩
 conv => whnf
 intro R
 conv => whnf
 refine ⟨2, ?_⟩
 conv => whnf
 repeat (first | (refine ⟨_, cUses, ?_⟩; (conv => whnf)) | (refine ⟨rfl, ?_⟩; (conv => whnf)))
 rfl
end Go.Proofs.YtajecapgmdfjcaaGreatDoor

/- RealsNested's lists. PRINTED by gen/sn.py. -/
namespace Go.Proofs.YtajecapgmdfjcaaGreatDoor
open Go.RowKit Vn
def moreL (x y z : List UInt8) : List Nd := [⟨1, 0, 0, x⟩, ⟨1, 0, 0, y⟩, ⟨1, 0, 0, z⟩, ⟨4, 0, 0, []⟩, ⟨4, 1, 0, []⟩, ⟨7, 3, 4, []⟩, ⟨5, 5, 5, []⟩, ⟨5, 0, 2, []⟩, ⟨5, 7, 6, []⟩, ⟨4, 8, 0, []⟩, ⟨5, 3, 4, []⟩, ⟨6, 9, 10, []⟩]
set_option maxRecDepth 100000 in
set_option maxHeartbeats 8000000 in
theorem cN_A {x0 x1 : List UInt8} : Cal Tryz.prog OQ 86 [lsA (nestL x0 x1), iA 10] (.c (.cl 129 [.e [.sl 1 [bC true, bC true, bC true, bC true, bC true, bC true, bC true, bC true, bC true, bC true, bC true]]])) := by
 refine fn_callD [(9, [(0, 5), (2, 7), (3, 5), (5, 7), (7, 11), (13, 11)])] TK MX (H := HL Tryz.prog OQ TB FTn 1) (HL_ok TK MX FTn_ok 1) (nd := false) Tryz.func86 rfl (by kernel_rfl) (by kernel_rfl) (by kernel_rfl) rfl rfl ?_
 conv => whnf
 refine ⟨_, cBackward (l := ((nestL x0 x1)).take 11), ?_⟩
 conv => whnf
 intro R
 conv => whnf
 refine ⟨12, ?_⟩
 conv => whnf
 repeat (first | (refine ⟨_, cUses, ?_⟩; (conv => whnf)) | (refine ⟨rfl, ?_⟩; (conv => whnf)))
 rfl
set_option maxRecDepth 100000 in
set_option maxHeartbeats 8000000 in
theorem cN_B {x0 x1 x2 : List UInt8} : Cal Tryz.prog OQ 86 [lsA (moreL x0 x1 x2), iA 11] (.c (.cl 129 [.e [.sl 1 [bC true, bC true, bC true, bC true, bC true, bC true, bC true, bC true, bC true, bC true, bC true, bC true]]])) := by
 refine fn_callD [(9, [(0, 5), (2, 7), (3, 5), (5, 7), (7, 11), (13, 11)])] TK MX (H := HL Tryz.prog OQ TB FTn 1) (HL_ok TK MX FTn_ok 1) (nd := false) Tryz.func86 rfl (by kernel_rfl) (by kernel_rfl) (by kernel_rfl) rfl rfl ?_
 conv => whnf
 refine ⟨_, cBackward (l := ((moreL x0 x1 x2)).take 12), ?_⟩
 conv => whnf
 intro R
 conv => whnf
 refine ⟨13, ?_⟩
 conv => whnf
 repeat (first | (refine ⟨_, cUses, ?_⟩; (conv => whnf)) | (refine ⟨rfl, ?_⟩; (conv => whnf)))
 rfl
set_option maxRecDepth 100000 in
set_option maxHeartbeats 8000000 in
theorem cW_A {x0 x1 : List UInt8} {q0 q1 : Rat} {d0 d1 : Int} {K : Nat} (hp0 : parsB x0 q0 = true) (hd0 : digB K q0 d0 = true) (b0 : 0 ≤ d0 ∧ d0 ≤ 10) (hp1 : parsB x1 q1 = true) (hd1 : digB K q1 d1 = true) (b1 : 0 ≤ d1 ∧ d1 ≤ 10) : Cal Tryz.prog OQ 32 [lsA (nestL x0 x1)] (.c (wC [d0, d1, d0, d1, d0 + d1, (d0 + d1) + (d0 + d1), d0 + d1, (d0 + d1) + ((d0 + d1) + (d0 + d1)), (d0 + d1) + ((d0 + d1) + (d0 + d1)), d0 + d1, ((d0 + d1) + ((d0 + d1) + (d0 + d1))) + (d0 + d1)])) := by
 refine fn_callB [(6, [(4, 5), (6, 10), (9, 5), (11, 10), (15, 10)])] TK MX Tryz.func32 rfl (by kernel_rfl) (by kernel_rfl) (by kernel_rfl) rfl rfl ?_
 conv => whnf
 refine ⟨12, ?_⟩
 conv => whnf
 refine ⟨_, cUses, ?_⟩
 conv => whnf
 refine ⟨_, parsT x0 q0 hp0, ?_⟩
 conv => whnf
 refine ⟨_, digT q0 d0 K hd0, ?_⟩
 conv => whnf
 refine ⟨_, cUses, ?_⟩
 conv => whnf
 refine ⟨_, parsT x1 q1 hp1, ?_⟩
 conv => whnf
 refine ⟨_, digT q1 d1 K hd1, ?_⟩
 conv => whnf
 refine ⟨_, cUses, ?_⟩
 conv => whnf
 refine ⟨_, cUses, ?_⟩
 conv => whnf
 refine ⟨_, cUses, ?_⟩
 conv => whnf
 rw [IntWalk.i64_in (d0 + d1) (by omega), if_neg (show ¬ (2001 : Int) < d0 + d1 by omega)]
 refine ⟨_, cUses, ?_⟩
 conv => whnf
 rw [IntWalk.i64_in ((d0 + d1) + (d0 + d1)) (by omega), if_neg (show ¬ (2001 : Int) < (d0 + d1) + (d0 + d1) by omega)]
 refine ⟨_, cUses, ?_⟩
 conv => whnf
 rw [IntWalk.i64_in (d0 + d1) (by omega), if_neg (show ¬ (2001 : Int) < d0 + d1 by omega)]
 refine ⟨_, cUses, ?_⟩
 conv => whnf
 rw [IntWalk.i64_in ((d0 + d1) + ((d0 + d1) + (d0 + d1))) (by omega), if_neg (show ¬ (2001 : Int) < (d0 + d1) + ((d0 + d1) + (d0 + d1)) by omega)]
 refine ⟨_, cUses, ?_⟩
 conv => whnf
 refine ⟨_, cUses, ?_⟩
 conv => whnf
 rw [IntWalk.i64_in (d0 + d1) (by omega), if_neg (show ¬ (2001 : Int) < d0 + d1 by omega)]
 refine ⟨_, cUses, ?_⟩
 conv => whnf
 rw [IntWalk.i64_in (((d0 + d1) + ((d0 + d1) + (d0 + d1))) + (d0 + d1)) (by omega), if_neg (show ¬ (2001 : Int) < ((d0 + d1) + ((d0 + d1) + (d0 + d1))) + (d0 + d1) by omega)]
 conv => whnf
 rfl
set_option maxRecDepth 100000 in
set_option maxHeartbeats 8000000 in
theorem cW_B {x0 x1 x2 : List UInt8} {q0 q1 q2 : Rat} {d0 d1 d2 : Int} {K : Nat} (hp0 : parsB x0 q0 = true) (hd0 : digB K q0 d0 = true) (b0 : 0 ≤ d0 ∧ d0 ≤ 10) (hp1 : parsB x1 q1 = true) (hd1 : digB K q1 d1 = true) (b1 : 0 ≤ d1 ∧ d1 ≤ 10) (hp2 : parsB x2 q2 = true) (hd2 : digB K q2 d2 = true) (b2 : 0 ≤ d2 ∧ d2 ≤ 10) : Cal Tryz.prog OQ 32 [lsA (moreL x0 x1 x2)] (.c (wC [d0, d1, d2, d0, d1, d0 + d1, (d0 + d1) + (d0 + d1), d0 + d2, (d0 + d2) + ((d0 + d1) + (d0 + d1)), (d0 + d2) + ((d0 + d1) + (d0 + d1)), d0 + d1, ((d0 + d2) + ((d0 + d1) + (d0 + d1))) + (d0 + d1)])) := by
 refine fn_callB [(6, [(4, 5), (6, 10), (9, 5), (11, 10), (15, 10)])] TK MX Tryz.func32 rfl (by kernel_rfl) (by kernel_rfl) (by kernel_rfl) rfl rfl ?_
 conv => whnf
 refine ⟨13, ?_⟩
 conv => whnf
 refine ⟨_, cUses, ?_⟩
 conv => whnf
 refine ⟨_, parsT x0 q0 hp0, ?_⟩
 conv => whnf
 refine ⟨_, digT q0 d0 K hd0, ?_⟩
 conv => whnf
 refine ⟨_, cUses, ?_⟩
 conv => whnf
 refine ⟨_, parsT x1 q1 hp1, ?_⟩
 conv => whnf
 refine ⟨_, digT q1 d1 K hd1, ?_⟩
 conv => whnf
 refine ⟨_, cUses, ?_⟩
 conv => whnf
 refine ⟨_, parsT x2 q2 hp2, ?_⟩
 conv => whnf
 refine ⟨_, digT q2 d2 K hd2, ?_⟩
 conv => whnf
 refine ⟨_, cUses, ?_⟩
 conv => whnf
 refine ⟨_, cUses, ?_⟩
 conv => whnf
 refine ⟨_, cUses, ?_⟩
 conv => whnf
 rw [IntWalk.i64_in (d0 + d1) (by omega), if_neg (show ¬ (2001 : Int) < d0 + d1 by omega)]
 refine ⟨_, cUses, ?_⟩
 conv => whnf
 rw [IntWalk.i64_in ((d0 + d1) + (d0 + d1)) (by omega), if_neg (show ¬ (2001 : Int) < (d0 + d1) + (d0 + d1) by omega)]
 refine ⟨_, cUses, ?_⟩
 conv => whnf
 rw [IntWalk.i64_in (d0 + d2) (by omega), if_neg (show ¬ (2001 : Int) < d0 + d2 by omega)]
 refine ⟨_, cUses, ?_⟩
 conv => whnf
 rw [IntWalk.i64_in ((d0 + d2) + ((d0 + d1) + (d0 + d1))) (by omega), if_neg (show ¬ (2001 : Int) < (d0 + d2) + ((d0 + d1) + (d0 + d1)) by omega)]
 refine ⟨_, cUses, ?_⟩
 conv => whnf
 refine ⟨_, cUses, ?_⟩
 conv => whnf
 rw [IntWalk.i64_in (d0 + d1) (by omega), if_neg (show ¬ (2001 : Int) < d0 + d1 by omega)]
 refine ⟨_, cUses, ?_⟩
 conv => whnf
 rw [IntWalk.i64_in (((d0 + d2) + ((d0 + d1) + (d0 + d1))) + (d0 + d1)) (by omega), if_neg (show ¬ (2001 : Int) < ((d0 + d2) + ((d0 + d1) + (d0 + d1))) + (d0 + d1) by omega)]
 conv => whnf
 rfl
end Go.Proofs.YtajecapgmdfjcaaGreatDoor

/- The laws' numbers: texts, digits, roots. -/
namespace Go.Proofs.YtajecapgmdfjcaaGreatDoor
open Go.RowKit Vn
def tx (a : Nat) : List UInt8 := (numText ((a : Nat) : Rat)).data.toList
theorem qn_num (a : Nat) : (((a : Nat) : Rat)).num = ((a : Nat) : Int) := Rat.num_natCast a
theorem qn_den (a : Nat) : (((a : Nat) : Rat)).den = 1 := Rat.den_natCast a
theorem qn_abs (a : Nat) : (((a : Nat) : Rat)).num.natAbs = a := by rw [qn_num]; rfl
theorem dec1 : (Lib.decDigits 1).length ≤ 1 := dec_len_pow (by decide) (by decide)
theorem dec6 {a : Nat} (h : a < 1000000) : (Lib.decDigits a).length ≤ 6 := dec_len_pow (by decide) h
theorem pars_v {a : Nat} (h : a < 1000000) : parseV (tx a) = (((a : Nat) : Rat), 0) := by
 refine parse_text _ ?_ ?_
 ·rw [qn_abs]; have := dec6 h; omega
 ·rw [qn_den]; have := dec1; omega
theorem tx_len {a : Nat} (h : a < 1000000) : (tx a).length ≤ 6 := by
 have e : tx a = Lib.decDigits a := by
  unfold tx
  rw [numText_list, qn_den, if_pos rfl, qn_abs, if_neg (by rw [qn_num]; omega)]
  simp
 rw [e]; exact dec6 h
theorem pars_tx {a : Nat} (h : a < 1000000) : parsB (tx a) ((a : Nat) : Rat) = true := by
 unfold parsB
 rw [Bool.and_eq_true]
 exact ⟨decide_eq_true (by have := tx_len h; omega), decide_eq_true (pars_v h)⟩
theorem sm_qn {a : Nat} (h : a < 1048576) : SmQ 20 ((a : Nat) : Rat) := SmQ.nat (by decide) h
theorem dig_tx {a : Nat} (h : a < 1000000) : digB 1000 ((a : Nat) : Rat) (digE ((a : Nat) : Rat)) = true ∧ 0 ≤ digE ((a : Nat) : Rat) ∧ digE ((a : Nat) : Rat) ≤ 10 := by
 refine ⟨?_, ?_, ?_⟩
 ·unfold digB
  rw [smq (sm_qn (by omega)) (by decide)]
  simp
 ·unfold digE; split <;> omega
 ·have h1 := dec1
  have h2 := dec6 h
  unfold digE
  rw [qn_den, qn_abs]
  have e1 : (decT 1).size = (Lib.decDigits 1).length := rfl
  have e2 : (decT a).size = (Lib.decDigits a).length := rfl
  rw [e1, e2]
  split <;> omega
theorem wr1 {x : List UInt8} {q : Rat} (h : parseV x = (q, 0)) (i : Int) : wrongE ⟨1, 0, 0, x⟩ i = 0 := by
 show (parseV x).2 = 0
 rw [h]
theorem go_c {x : Nd} {i : Nat} {l : List Nd} (h : wrongE x (i : Nat) = 0) : checkGo i (x :: l) = checkGo (i + 1) l := by
 rw [checkGo, h]; rfl
theorem chk_A {x y : List UInt8} {p q : Rat} (h : parseV x = (p, 0)) (k : parseV y = (q, 0)) : checkE (nestL x y) = (0, 0) := by
 show checkGo 0 (⟨1, 0, 0, x⟩ :: ⟨1, 0, 0, y⟩ :: [⟨4, 0, 0, []⟩, ⟨4, 1, 0, []⟩, ⟨7, 2, 3, []⟩, ⟨5, 4, 4, []⟩, ⟨5, 0, 1, []⟩, ⟨5, 6, 5, []⟩, ⟨4, 7, 0, []⟩, ⟨5, 2, 3, []⟩, ⟨6, 8, 9, []⟩]) = (0, 0)
 rw [go_c (wr1 h _), go_c (wr1 k _)]
 kernel_rfl
theorem chk_B {x y z : List UInt8} {p q r : Rat} (h : parseV x = (p, 0)) (k : parseV y = (q, 0)) (g : parseV z = (r, 0)) : checkE (moreL x y z) = (0, 0) := by
 show checkGo 0 (⟨1, 0, 0, x⟩ :: ⟨1, 0, 0, y⟩ :: ⟨1, 0, 0, z⟩ :: [⟨4, 0, 0, []⟩, ⟨4, 1, 0, []⟩, ⟨7, 3, 4, []⟩, ⟨5, 5, 5, []⟩, ⟨5, 0, 2, []⟩, ⟨5, 7, 6, []⟩, ⟨4, 8, 0, []⟩, ⟨5, 3, 4, []⟩, ⟨6, 9, 10, []⟩]) = (0, 0)
 rw [go_c (wr1 h _), go_c (wr1 k _), go_c (wr1 g _)]
 kernel_rfl
theorem len_A {x y : List UInt8} (h : x.length ≤ 9223372036854775807) (k : y.length ≤ 9223372036854775807) : ∀ n ∈ nestL x y, n.v.length ≤ 9223372036854775807 := by
 intro n hn
 simp only [nestL, List.mem_cons, List.not_mem_nil, or_false] at hn
 rcases hn with e | e | e | e | e | e | e | e | e | e | e <;> subst e <;> first | exact h | exact k | exact Nat.zero_le _
theorem len_B {x y z : List UInt8} (h : x.length ≤ 9223372036854775807) (k : y.length ≤ 9223372036854775807) (g : z.length ≤ 9223372036854775807) : ∀ n ∈ moreL x y z, n.v.length ≤ 9223372036854775807 := by
 intro n hn
 simp only [moreL, List.mem_cons, List.not_mem_nil, or_false] at hn
 rcases hn with e | e | e | e | e | e | e | e | e | e | e | e <;> subst e <;> first | exact h | exact k | exact g | exact Nat.zero_le _
theorem sqB_true {a : Nat} (h : sqB a = true) : isqC a * isqC a = a := by
 unfold sqB cmpN at h
 split at h
 ·simp at h
 ·split at h
  ·simp at h
  ·omega
theorem sqB_sq (r : Nat) : sqB (r * r) = true := by
 obtain ⟨h1, h2⟩ := isqC_is (r * r)
 have e : isqC (r * r) = r := by
  generalize isqC (r * r) = s at *
  rcases Nat.lt_trichotomy s r with k | k | k
  ·have := Nat.mul_le_mul (show s + 1 ≤ r by omega) (show s + 1 ≤ r by omega)
   omega
  ·exact k
  ·have := Nat.mul_le_mul (show r + 1 ≤ s by omega) (show r + 1 ≤ s by omega)
   have e : (r + 1) * (r + 1) = r * r + r + r + 1 := by grind
   omega
 unfold sqB
 rw [e]
 simp [cmpN]
theorem rot_S {r : Nat} (h : r < 1024) : rotB 1000 ((r * r : Nat) : Rat) ((r : Nat) : Rat) true = true := by
 have hb : r * r < 1048576 := by have := Nat.mul_le_mul (show r ≤ 1023 by omega) (show r ≤ 1023 by omega); omega
 by_cases h0 : r = 0
 ·subst h0
  have z : rotB 1000 0 0 true = true := by kernel_rfl
  exact z
 ·unfold rotB
  have hp : 0 < r * r := Nat.mul_pos (by omega) (by omega)
  have hp' : (0 : Rat) < ((r * r : Nat) : Rat) := by exact_mod_cast hp
  have er : isqC (r * r) = r := by
   have := sqB_true (sqB_sq r)
   exact Nat.mul_self_inj.1 this
  have e1 : isqC 1 = 1 := by decide
  have e2 : rootR ((r * r : Nat) : Rat) = ((r : Nat) : Rat) := by
   unfold rootR
   rw [qn_abs, qn_den, er, e1]; exact mkq_nat r
  rw [decide_eq_false (by grind), cond_false, e2, qn_abs, qn_den, sqB_sq r, smq (sm_qn hb) (by decide), decide_eq_true (show (0 : Rat) < ((r * r : Nat) : Rat) ∧ 1000 ≤ 100000 from ⟨hp', by decide⟩)]
  simp [show sqB 1 = true from by decide]
theorem rot_N {a : Nat} (h : a < 1048576) (hs : sqB a = false) : rotB 1000 ((a : Nat) : Rat) 0 false = true := by
 unfold rotB
 have h0 : a ≠ 0 := fun e => by subst e; revert hs; decide
 have hp' : (0 : Rat) < ((a : Nat) : Rat) := by
  have : 0 < a := by omega
  exact_mod_cast this
 rw [decide_eq_false (by grind), cond_false, qn_abs, qn_den, hs, smq (sm_qn h) (by decide), decide_eq_true (show (0 : Rat) < ((a : Nat) : Rat) ∧ 1000 ≤ 100000 from ⟨hp', by decide⟩)]
 simp
end Go.Proofs.YtajecapgmdfjcaaGreatDoor

/- Plain: the values of the lists' nodes. -/
namespace Go.Proofs.YtajecapgmdfjcaaGreatDoor
open Go.RowKit Vn
section
attribute [local simp] mulTB addB subB whlB canB mulF6 mulF5 mulF4 mulG6 mulG5 mulG4 smB_F smF termG rowG colG colF rowF termF addF withE getE putE memE repE insE delE an00 an01 an02 an03 an04 an05 an06 an07 an10 an11 an12 an13 an14 an15 an16 an17 an20 an21 an22 an23 an24 an25 an26 an27 an30 an31 an32 an33 an34 an35 an36 an37 an40 an41 an42 an43 an44 an45 an46 an47 an50 an51 an52 an53 an54 an55 an56 an57 an60 an61 an62 an63 an64 an65 an66 an67 an70 an71 an72 an73 an74 an75 an76 an77 xo00 xo01 xo02 xo03 xo04 xo05 xo06 xo07 xo10 xo11 xo12 xo13 xo14 xo15 xo16 xo17 xo20 xo21 xo22 xo23 xo24 xo25 xo26 xo27 xo30 xo31 xo32 xo33 xo34 xo35 xo36 xo37 xo40 xo41 xo42 xo43 xo44 xo45 xo46 xo47 xo50 xo51 xo52 xo53 xo54 xo55 xo56 xo57 xo60 xo61 xo62 xo63 xo64 xo65 xo66 xo67 xo70 xo71 xo72 xo73 xo74 xo75 xo76 xo77 bi00 bi01 bi02 bi10 bi11 bi12 bi20 bi21 bi22 bi30 bi31 bi32 bi40 bi41 bi42 bi50 bi51 bi52 bi60 bi61 bi62 bi70 bi71 bi72 na0 na1 na2 Rat.zero_add Rat.add_zero Rat.one_mul Rat.mul_one ra1 ra2 ra3 ra4 ra5 ra6 ra7 ra8 sm1 sm2 smm1 addE_F subE_F scaF im1 rb1 rb2 rb3 rb4 rb5 Rat.neg_neg
set_option maxRecDepth 10000 in
theorem v_mab (n1 n2 : Rat) (h1 : ¬ n1 = 0) (h2 : ¬ n2 = 0) : mulTB 1000 [[(0, n1)], [(0, n2)]] 6 [(1, 1)] [(2, 1)] [(3, 1)] = true := by simp [h1, h2]
set_option maxRecDepth 10000 in
theorem v_mra (n r : Rat) (h1 : ¬ n = 0) (h2 : ¬ r = 0) (k : smqB 1000 r = true) : mulTB 1000 [[(0, n)]] 6 [(0, r)] [(1, 1)] [(1, r)] = true := by simp [h1, h2, k]
set_option maxRecDepth 10000 in
theorem v_mar (n r : Rat) (h1 : ¬ n = 0) (h2 : ¬ r = 0) (k : smqB 1000 r = true) : mulTB 1000 [[(0, n)]] 6 [(1, 1)] [(0, r)] [(1, r)] = true := by simp [h1, h2, k]
theorem v_mza (n : Rat) (h1 : ¬ n = 0) : mulTB 1000 [[(0, n)]] 6 [] [(1, 1)] [] = true := by simp [h1]
theorem v_maz (n : Rat) (h1 : ¬ n = 0) : mulTB 1000 [[(0, n)]] 6 [(1, 1)] [] [] = true := by simp [h1]
theorem v_33 : addB 1000 [(3, 1)] [(3, 1)] [(3, 2)] = true := by kernel_rfl
theorem v_00 : addB 1000 [] [] [] = true := by kernel_rfl
theorem v_rr (r : Rat) (h : ¬ r = 0) (h2 : ¬ r + r = 0) (k : smqB 1000 r = true) : addB 1000 [(1, r)] [(1, r)] [(1, r + r)] = true := by simp [h, h2, k]
theorem v_pq (p q : Rat) (h : ¬ p = 0) (h2 : ¬ q = 0) (h3 : ¬ p + q = 0) (k : smqB 1000 p = true) (k2 : smqB 1000 q = true) : addB 1000 [(0, p)] [(0, q)] [(0, p + q)] = true := by simp [h, h2, h3, k, k2]
theorem v_zq (q : Rat) (h2 : ¬ q = 0) (k2 : smqB 1000 q = true) : addB 1000 [] [(0, q)] [(0, q)] = true := by simp [h2, k2]
theorem v_pz (q : Rat) (h2 : ¬ q = 0) (k2 : smqB 1000 q = true) : addB 1000 [(0, q)] [] [(0, q)] = true := by simp [h2, k2]
theorem v_p3 (q : Rat) (h2 : ¬ q = 0) (k2 : smqB 1000 q = true) : addB 1000 [(0, q)] [(3, 2)] [(0, q), (3, 2)] = true := by simp [h2, k2]
theorem v_p1 (q r : Rat) (h2 : ¬ q = 0) (h : ¬ r = 0) (k2 : smqB 1000 q = true) (k : smqB 1000 r = true) : addB 1000 [(0, q)] [(1, r)] [(0, q), (1, r)] = true := by simp [h, h2, k, k2]
theorem v_12 : addB 1000 [(1, 1)] [(2, 1)] [(1, 1), (2, 1)] = true := by kernel_rfl
theorem v_r1 (r : Rat) (h : ¬ r = 0) (k : smqB 1000 r = true) : addB 1000 [(0, r)] [(1, 1)] [(0, r), (1, 1)] = true := by simp [h, k]
theorem v_1r (r : Rat) (h : ¬ r = 0) (k : smqB 1000 r = true) : addB 1000 [(1, 1)] [(0, r)] [(0, r), (1, 1)] = true := by simp [h, k]
theorem v_z1 : addB 1000 [] [(1, 1)] [(1, 1)] = true := by kernel_rfl
theorem v_1z : addB 1000 [(1, 1)] [] [(1, 1)] = true := by kernel_rfl
theorem v_s4 : subB 1000 [(4, 1)] [(1, 1), (2, 1)] [(1, -1), (2, -1), (4, 1)] = true := by kernel_rfl
theorem v_s2 (r : Rat) (h : ¬ r = 0) (h2 : ¬ -r = 0) (k : smqB 1000 r = true) : subB 1000 [(2, 1)] [(0, r), (1, 1)] [(0, -r), (1, -1), (2, 1)] = true := by simp [h, h2, k]
theorem v_s1 : subB 1000 [(2, 1)] [(1, 1)] [(1, -1), (2, 1)] = true := by kernel_rfl
theorem v_s0 (r : Rat) (h : ¬ r = 0) (h2 : ¬ -r = 0) (k : smqB 1000 r = true) : subB 1000 [(1, 1)] [(0, r)] [(0, -r), (1, 1)] = true := by simp [h, h2, k]
theorem v_sz : subB 1000 [(1, 1)] [] [(1, 1)] = true := by kernel_rfl
theorem v_mpz (p : Rat) (h : ¬ p = 0) (k : smqB 1000 p = true) : mulTB 1000 [] 6 [(0, p)] [] [] = true := by simp [h, k]
theorem v_mzp (p : Rat) (h : ¬ p = 0) (k : smqB 1000 p = true) : mulTB 1000 [] 6 [] [(0, p)] [] = true := by simp [h, k]
theorem v_mpq (p q : Rat) (h1 : ¬ p = 0) (h2 : ¬ q = 0) (h3 : ¬ p * q = 0) (k1 : smqB 1000 p = true) (k2 : smqB 1000 q = true) (k3 : smqB 1000 (p * q) = true) : mulTB 1000 [] 6 [(0, p)] [(0, q)] [(0, p * q)] = true := by simp [h1, h2, h3, k1, k2, k3]
theorem v_szz : subB 1000 [] [] [] = true := by kernel_rfl
theorem v_w (q : Rat) (h : ¬ q = 0) (k : smqB 1000 q = true) : whlB 1000 q [(0, q)] = true := by simp [wholeE, h, k]
theorem v_w0 : whlB 1000 0 [] = true := by kernel_rfl
def We (q : Rat) : El := if q = 0 then [] else [(0, q)]
theorem We0 {q : Rat} (h : q = 0) : We q = [] := if_pos h
theorem We1 {q : Rat} (h : ¬ q = 0) : We q = [(0, q)] := if_neg h
theorem W_whl {q : Rat} (k : smqB 1000 q = true) : whlB 1000 q (We q) = true := by
 by_cases h : q = 0
 ·rw [We0 h, h]; exact v_w0
 ·rw [We1 h]; exact v_w q h k
theorem W_get (q : Rat) : getE (We q) 0 = q := by
 by_cases h : q = 0
 ·rw [We0 h, h]; rfl
 ·rw [We1 h]; rfl
theorem W_add {p q : Rat} (k1 : smqB 1000 p = true) (k2 : smqB 1000 q = true) : addB 1000 (We p) (We q) (We (p + q)) = true := by
 by_cases h1 : p = 0
 ·subst h1
  rw [Rat.zero_add, We0 rfl]
  by_cases h2 : q = 0
  ·rw [We0 h2]; exact v_00
  ·rw [We1 h2]; exact v_zq q h2 k2
 ·rw [We1 h1]
  by_cases h2 : q = 0
  ·subst h2
   rw [Rat.add_zero, We0 rfl, We1 h1]; exact v_pz p h1 k1
  ·rw [We1 h2]
   by_cases h3 : p + q = 0
   ·rw [We0 h3]; simp [h1, h2, h3, k1, k2]
   ·rw [We1 h3]; exact v_pq p q h1 h2 h3 k1 k2
theorem W_sub {p q : Rat} (k1 : smqB 1000 p = true) (k2 : smqB 1000 q = true) : subB 1000 (We p) (We q) (We (p - q)) = true := by
 have e : p - q = p + -q := by grind
 rw [e]
 by_cases h2 : q = 0
 ·subst h2
  have e0 : p + -0 = p := by grind
  rw [e0, We0 (q := 0) rfl]
  by_cases h1 : p = 0
  ·rw [We0 h1]; exact v_szz
  ·rw [We1 h1]; simp [h1, k1]
 ·have hn : ¬ -q = 0 := by grind
  rw [We1 h2]
  by_cases h1 : p = 0
  ·subst h1
   rw [Rat.zero_add, We0 rfl, We1 hn]; simp [h2, hn, k2]
  ·rw [We1 h1]
   by_cases h3 : p + -q = 0
   ·rw [We0 h3]; simp [h1, h2, h3, hn, k1, k2]
   ·rw [We1 h3]; simp [h1, h2, h3, hn, k1, k2]
theorem W_mul {p q : Rat} (k1 : smqB 1000 p = true) (k2 : smqB 1000 q = true) (k3 : smqB 1000 (p * q) = true) : mulTB 1000 [] 6 (We p) (We q) (We (p * q)) = true := by
 by_cases h1 : p = 0
 ·subst h1
  rw [Rat.zero_mul, We0 rfl]
  by_cases h2 : q = 0
  ·rw [We0 h2]; kernel_rfl
  ·rw [We1 h2]; exact v_mzp q h2 k2
 ·rw [We1 h1]
  by_cases h2 : q = 0
  ·subst h2
   rw [Rat.mul_zero, We0 rfl]; exact v_mpz p h1 k1
  ·have h3 : ¬ p * q = 0 := fun e => (Rat.mul_eq_zero.1 e).elim h1 h2
   rw [We1 h2, We1 h3]; exact v_mpq p q h1 h2 h3 k1 k2 k3
theorem W_sgn {t : List El} {q : Rat} (w : towB 1000 t = true) (h : 0 ≤ q) : ∃ s : Int, sgnB 1000 t 6 8 (We q) s = true ∧ decide (s < 0) = false ∧ (q = 0 → s = 0) ∧ (¬ q = 0 → s = 1) := by
 by_cases h1 : q = 0
 ·exact ⟨0, by rw [We0 h1]; exact sgn_nil w, by decide, fun _ => rfl, fun h => absurd h1 h⟩
 ·exact ⟨1, by rw [We1 h1]; exact sgn_num w (by grind), by decide, fun h => absurd h h1, fun _ => rfl⟩
end
end Go.Proofs.YtajecapgmdfjcaaGreatDoor

/- Plain: sums with a number that may be 0. -/
namespace Go.Proofs.YtajecapgmdfjcaaGreatDoor
open Go.RowKit Vn
theorem v_pW (p q : Rat) (h : ¬ p = 0) (h3 : ¬ p + q = 0) (k : smqB 1000 p = true) (k2 : smqB 1000 q = true) : addB 1000 [(0, p)] (We q) [(0, p + q)] = true := by
 have := W_add k k2
 rwa [We1 h, We1 h3] at this
theorem v_zW (q : Rat) (h : ¬ q = 0) (k : smqB 1000 q = true) : addB 1000 [] (We q) [(0, q)] = true := by
 rw [We1 h]; exact v_zq q h k
theorem W_subz {p : Rat} (k : smqB 1000 p = true) : subB 1000 (We p) (We p) [] = true := by
 have := W_sub k k
 rwa [We0 (show p - p = 0 by grind)] at this
end Go.Proofs.YtajecapgmdfjcaaGreatDoor
