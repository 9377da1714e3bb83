/- exact: Parse, by reckoning. -/
import Derived.Test.YtajecapgmdfjcaaGreatDoorL36
import Derived.Test.YtajecapgmdfjcaaGreatDoorL34
namespace Go.Proofs.YtajecapgmdfjcaaGreatDoor
open Go.RowKit Vn
abbrev sA (S : ByteArray) : AV := .c (.v (.string S))
theorem cParse {l : List UInt8} (hl : l.length ≤ 9223372036854775807) : Cal Tryz.prog OQ 64 [sA (ba l)] (.t [nA (parseV l).1, iA (parseV l).2]) :=
 cal_of (by kernel_rfl) rfl fun S w vs hi hv => by
  match vs, hv with
  | [x], hv =>
   have e := sc_of hv.1
   subst e
   exact (Parse_c l w hi.1 hl).mono fun _ _ ⟨v, h1, h2, h3⟩ => ⟨_, h1, h3, fun S' => ⟨[_, _], rfl, numA_of h2, ⟨rfl, rfl⟩, trivial⟩⟩
end Go.Proofs.YtajecapgmdfjcaaGreatDoor

/- Check, asked, uses, wrong: lists of nodes. -/
namespace Go.Proofs.YtajecapgmdfjcaaGreatDoor
open Go.RowKit Vn
structure Nd where
 k : Int
 a : Int
 b : Int
 v : List UInt8
def ndC (x : Nd) : List AC := [.v (.int .i64 x.k), .v (.int .i64 x.a), .v (.int .i64 x.b), .v (.string (ba x.v))]
abbrev ndA (x : Nd) : AV := .g (ndC x)
abbrev lsC (l : List Nd) : AC := .sl 4 (l.map ndC)
abbrev lsA (l : List Nd) : AV := .c (lsC l)
theorem flat_nds (l : List Nd) : ∀ c ∈ (l.map ndC).flatten, flatC c = true := by
 intro c hc
 obtain ⟨r, hr, hc⟩ := List.mem_flatten.1 hc
 obtain ⟨x, _, rfl⟩ := List.mem_map.1 hr
 simp only [ndC, List.mem_cons, List.not_mem_nil, or_false] at hc
 rcases hc with rfl | rfl | rfl | rfl <;> rfl
theorem ls_get {l : List Nd} {j : Nat} {x : Nd} (h : l[j]? = some x) : (l.map ndC).getD j [] = ndC x := by
 simp [List.getD_eq_getElem?_getD, List.getElem?_map, h]
def usesE (k : Int) : Int := cond (k == 1) 0 (cond (decide (k ≥ 2) && decide (k ≤ 4)) 1 (cond (decide (k ≥ 5) && decide (k ≤ 10)) 2 (-1)))
theorem cUses {k : Int} : Cal Tryz.prog OQ 45 [iA k] (iA (usesE k)) := by
 refine fn_call TK MX Tryz.func45 rfl (by kernel_rfl) (by kernel_rfl) (by kernel_rfl) rfl rfl ?_
 unfold usesE
 conv => whnf
 cases e1 : (k == 1)
 ·conv => whnf
  cases e2 : decide (k ≥ 2)
  ·conv => whnf
   cases e4 : decide (k ≥ 5)
   ·conv => whnf
    rfl
   ·conv => whnf
    cases e5 : decide (k ≤ 10)
    ·conv => whnf
     rfl
    ·conv => whnf
     rfl
  ·conv => whnf
   cases e3 : decide (k ≤ 4)
   ·conv => whnf
    cases e4 : decide (k ≥ 5)
    ·conv => whnf
     rfl
    ·conv => whnf
     cases e5 : decide (k ≤ 10)
     ·conv => whnf
      rfl
     ·conv => whnf
      rfl
   ·conv => whnf
    rfl
 ·conv => whnf
  rfl
theorem cCheckX {l : List UInt8} (hl : l.length ≤ 9223372036854775807) : Cal Tryz.prog OQ 46 [sA (ba l)] (iA (parseV l).2) := by
 refine fn_call TK MX Tryz.func46 rfl (by kernel_rfl) (by kernel_rfl) (by kernel_rfl) rfl rfl ?_
 conv => whnf
 refine ⟨_, cParse hl, ?_⟩
 conv => whnf
 rfl
def emB (l : List UInt8) : Bool := (ba l).toList == (⟨#[]⟩ : ByteArray).toList
def wrongE (x : Nd) (many : Int) : Int :=
 cond (decide (usesE x.k < 0) || (decide (usesE x.k > 0) && !emB x.v) || (decide (usesE x.k < 1) && x.a != 0) || (decide (usesE x.k < 2) && x.b != 0)) 2
  (cond (usesE x.k == 0) (parseV x.v).2
   (cond (decide (x.a < 0) || decide (x.a ≥ many) || (usesE x.k == 2 && (decide (x.b < 0) || decide (x.b ≥ many)))) 7 0))
theorem uses_cases (k : Int) : usesE k = 0 ∨ usesE k = 1 ∨ usesE k = 2 ∨ usesE k = -1 := by
 unfold usesE
 cases (k == 1) <;> cases (decide (k ≥ 2) && decide (k ≤ 4)) <;> cases (decide (k ≥ 5) && decide (k ≤ 10)) <;> simp
set_option maxHeartbeats 2000000 in
theorem cWrong {x : Nd} {many : Int} (hv : x.v.length ≤ 9223372036854775807) : Cal Tryz.prog OQ 23 [ndA x, iA many] (iA (wrongE x many)) := by
 refine fn_call TK MX Tryz.func23 rfl (by kernel_rfl) (by kernel_rfl) (by kernel_rfl) rfl rfl ?_
 conv => whnf
 refine ⟨_, cUses, ?_⟩
 unfold wrongE
 rcases uses_cases x.k with h | h | h | h <;> rw [h]
 ·conv => whnf
  cases e1 : (x.a != 0)
  ·conv => whnf
   cases e2 : (x.b != 0)
   ·conv => whnf
    refine ⟨_, cCheckX hv, ?_⟩
    conv => whnf
    rfl
   ·conv => whnf
    rfl
  ·conv => whnf
   rfl
 ·conv => whnf
  cases e0 : emB x.v
  ·have e0' : ((ba x.v).toList == (⟨#[]⟩ : ByteArray).toList) = false := e0
   rw [e0']
   conv => whnf
   rfl
  ·have e0' : ((ba x.v).toList == (⟨#[]⟩ : ByteArray).toList) = true := e0
   rw [e0']
   conv => whnf
   cases e2 : (x.b != 0)
   ·conv => whnf
    cases e3 : decide (x.a < 0)
    ·conv => whnf
     cases e4 : decide (x.a ≥ many)
     ·conv => whnf
      rfl
     ·conv => whnf
      rfl
    ·conv => whnf
     rfl
   ·conv => whnf
    rfl
 ·conv => whnf
  cases e0 : emB x.v
  ·have e0' : ((ba x.v).toList == (⟨#[]⟩ : ByteArray).toList) = false := e0
   rw [e0']
   conv => whnf
   rfl
  ·have e0' : ((ba x.v).toList == (⟨#[]⟩ : ByteArray).toList) = true := e0
   rw [e0']
   conv => whnf
   cases e3 : decide (x.a < 0)
   ·conv => whnf
    cases e4 : decide (x.a ≥ many)
    ·conv => whnf
     cases e5 : decide (x.b < 0)
     ·conv => whnf
      cases e6 : decide (x.b ≥ many)
      ·conv => whnf
       rfl
      ·conv => whnf
       rfl
     ·conv => whnf
      rfl
    ·conv => whnf
     rfl
   ·conv => whnf
    rfl
 ·conv => whnf
  rfl
def checkGo : Nat → List Nd → Int × Int
 | _, [] => (0, 0)
 | i, x :: l => cond (wrongE x (i : Nat) != 0) ((i : Nat), wrongE x (i : Nat)) (checkGo (i + 1) l)
def checkE (l : List Nd) : Int × Int := cond (decide (((l.length : Nat) : Int) > 300)) (0, 3) (checkGo 0 l)
structure CkS (l : List Nd) where
 j : Nat
 le : j ≤ l.length
 res : checkGo j (l.drop j) = checkGo 0 l
set_option maxHeartbeats 2000000 in
theorem cCheck {l : List Nd} (hl : ∀ x ∈ l, x.v.length ≤ 9223372036854775807) : Cal Tryz.prog OQ 6 [lsA l] (.t [iA (checkE l).1, iA (checkE l).2]) := by
 refine fn_call TK MX Tryz.func6 rfl (by kernel_rfl) (by kernel_rfl) (by kernel_rfl) rfl rfl ?_
 have lm : (l.map ndC).length = l.length := by simp
 unfold checkE
 conv => whnf
 rw [lm]
 cases e0 : decide (((l.length : Nat) : Int) > 300)
 ·have hlen : l.length ≤ 300 := by have := of_decide_eq_false e0; omega
  conv => whnf
  refine ⟨0, CkS l, fun s => [(10, lsA l), (11, iA ((l.length : Nat) : Int)), (12, iA ((s.j : Nat) : Int))], fun _ => [], fun s => l.length - s.j, [], ⟨0, Nat.zero_le _, rfl⟩, ⟨?_, ?_, rfl, rfl⟩, fun s => ?_⟩
  ·refine ⟨rfl, ?_, rfl, trivial⟩
   show AV.c (.v (.int .i64 (((l.map ndC).length : Nat) : Int))) = _
   rw [lm]
  ·exact trivial
  have hs := s.le
  have hr := s.res
  conv => whnf
  cases hlt : decide (((s.j : Nat) : Int) < ((l.length : Nat) : Int))
  ·have hj : s.j = l.length := by have := of_decide_eq_false hlt; omega
   conv => whnf
   rw [hj, List.drop_length] at hr
   rw [← hr]
   rfl
  ·have hj : s.j < l.length := by have := of_decide_eq_true hlt; omega
   obtain ⟨x, hx⟩ : ∃ x, l[s.j]? = some x := ⟨_, List.getElem?_eq_getElem hj⟩
   have hdr : l.drop s.j = x :: l.drop (s.j + 1) := by
    rw [List.drop_eq_getElem_cons hj]
    congr 1
    have := List.getElem?_eq_getElem hj
    rw [hx] at this
    exact (Option.some.inj this).symm
   rw [hdr] at hr
   have d1 : decide ((0 : Int) ≤ ((s.j : Nat) : Int)) = true := by simp
   have d2 : decide ((((s.j : Nat) : Int)).toNat < (l.map ndC).length) = true := by rw [lm]; simp [hj]
   have d3 : (l.map ndC).getD (((s.j : Nat) : Int)).toNat [] = ndC x := by simpa using ls_get hx
   conv => whnf
   rw [d1]
   conv => whnf
   rw [d2]
   conv => whnf
   rw [d3]
   conv => whnf
   obtain ⟨W, hW⟩ : ∃ W, wrongE x ((s.j : Nat) : Int) = W := ⟨_, rfl⟩
   have cw := cWrong (many := ((s.j : Nat) : Int)) (hl x (List.mem_of_getElem? hx))
   rw [hW] at cw
   simp only [checkGo, hW] at hr
   refine ⟨_, cw, ?_⟩
   conv => whnf
   cases e1 : (W != 0)
   ·rw [e1] at hr
    conv => whnf
    refine ⟨[], ⟨s.j + 1, hj, hr⟩, by show l.length - (s.j + 1) < l.length - s.j; omega, ⟨⟨rfl, rfl, ?_, trivial⟩, trivial, rfl, rfl⟩⟩
    show AV.c (.v (.int .i64 (IntKind.i64.wrap (((s.j : Nat) : Int) + 1)))) = _
    rw [IntWalk.i64_in _ (by omega)]; rfl
   ·rw [e1] at hr
    conv => whnf
    rw [← hr]
    rfl
 ·conv => whnf
  rfl
theorem cAsked1 {l : List Nd} {i : Int} (hl : ∀ x ∈ l, x.v.length ≤ 9223372036854775807) (h : checkE l = (0, 0)) (h0 : 0 ≤ i) (h1 : i < (l.length : Nat)) : Cal Tryz.prog OQ 31 [lsA l, .c (.sl 1 [[.v (.int .i64 i)]])] (iA 0) := by
 refine fn_call TK MX Tryz.func31 rfl (by kernel_rfl) (by kernel_rfl) (by kernel_rfl) rfl rfl ?_
 have lm : (l.map ndC).length = l.length := by simp
 have c := cCheck hl
 rw [h] at c
 conv => whnf
 refine ⟨_, c, ?_⟩
 conv => whnf
 refine ⟨2, ?_⟩
 conv => whnf
 rw [dF (show ¬ i < 0 by omega)]
 conv => whnf
 rw [lm, dF (show ¬ i ≥ ((l.length : Nat) : Int) by omega)]
 conv => whnf
 rfl
theorem cAsked2 {l : List Nd} {i k : Int} (hl : ∀ x ∈ l, x.v.length ≤ 9223372036854775807) (h : checkE l = (0, 0)) (h0 : 0 ≤ i) (h1 : i < (l.length : Nat)) (h2 : 0 ≤ k) (h3 : k < (l.length : Nat)) :
  Cal Tryz.prog OQ 31 [lsA l, .c (.sl 1 [[.v (.int .i64 i)], [.v (.int .i64 k)]])] (iA 0) := by
 refine fn_call TK MX Tryz.func31 rfl (by kernel_rfl) (by kernel_rfl) (by kernel_rfl) rfl rfl ?_
 have lm : (l.map ndC).length = l.length := by simp
 have c := cCheck hl
 rw [h] at c
 conv => whnf
 refine ⟨_, c, ?_⟩
 conv => whnf
 refine ⟨3, ?_⟩
 conv => whnf
 rw [dF (show ¬ i < 0 by omega)]
 conv => whnf
 rw [lm, dF (show ¬ i ≥ ((l.length : Nat) : Int) by omega)]
 conv => whnf
 rw [dF (show ¬ k < 0 by omega)]
 conv => whnf
 rw [lm, dF (show ¬ k ≥ ((l.length : Nat) : Int) by omega)]
 conv => whnf
 rfl
def digE (q : Rat) : Int := if (((decT q.den).size : Nat) : Int) > (((decT q.num.natAbs).size : Nat) : Int) then (((decT q.den).size : Nat) : Int) else (((decT q.num.natAbs).size : Nat) : Int)
theorem cNatText {n K : Nat} (sx : Sm K n) (hK : K ≤ 10000000) : Cal Tryz.prog OQ 27 [pN n] (sA (decT n)) :=
 cal_of (by kernel_rfl) rfl fun _ w vs hi hv => match vs, hv with
  | [x], hv => (textN_c x n K w hv.1 sx hK hi.2).mono fun _ _ ⟨h1, h2⟩ => ⟨_, h1, h2, fun _ => ⟨rfl, rfl⟩⟩
theorem cDigits {q : Rat} {K : Nat} (sx : SmQ K q) (hK : K ≤ 1000000) : Cal Tryz.prog OQ 65 [nA q] (iA (digE q)) := by
 refine fn_callB [(1, [(1, 1), (2, 2000000), (4, 1), (5, 2000000), (6, 2000000)])] TK MX Tryz.func65 rfl (by kernel_rfl) (by kernel_rfl) (by kernel_rfl) rfl rfl ?_
 conv => whnf
 refine ⟨_, cNatText sx.1 (by omega), ?_⟩
 conv => whnf
 refine ⟨_, cBottomN, ?_⟩
 conv => whnf
 refine ⟨_, cNatText sx.2 (by omega), ?_⟩
 conv => whnf
 rfl
end Go.Proofs.YtajecapgmdfjcaaGreatDoor
