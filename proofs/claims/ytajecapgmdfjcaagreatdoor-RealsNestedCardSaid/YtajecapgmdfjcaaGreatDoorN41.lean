/- exact: Parse, by reckoning. -/
import Derived.Test.YtajecapgmdfjcaaGreatDoorN40
import Derived.Test.YtajecapgmdfjcaaGreatDoorN39
namespace Go.Proofs.YtajecapgmdfjcaaGreatDoor
open Go.RowKit Vn
abbrev sA (S : ByteArray) : AV := .c (.v (.string S))
theorem cParse {l : List UInt8} (hl : l.length ≤ 9223372036854775807) : Cal Tryz.prog OQ 64 [sA (ba l)] (.t [nA (parseV l).1, iA (parseV l).2]) :=
 cal_of (by kernel_rfl) rfl fun S w vs hi hv => by
  match vs, hv with
  | [x], hv =>
   have e := sc_of hv.1
   subst e
   exact (Parse_c l w hi.1 hl).mono fun _ _ ⟨v, h1, h2, h3⟩ => ⟨_, h1, h3, fun S' => ⟨[_, _], rfl, numA_of h2, ⟨rfl, rfl⟩, trivial⟩⟩
end Go.Proofs.YtajecapgmdfjcaaGreatDoor

/- Check, asked, uses, wrong: lists of nodes. -/
namespace Go.Proofs.YtajecapgmdfjcaaGreatDoor
open Go.RowKit Vn
structure Nd where
 k : Int
 a : Int
 b : Int
 v : List UInt8
def ndC (x : Nd) : List AC := [.v (.int .i64 x.k), .v (.int .i64 x.a), .v (.int .i64 x.b), .v (.string (ba x.v))]
abbrev ndA (x : Nd) : AV := .g (ndC x)
abbrev lsC (l : List Nd) : AC := .sl 4 (l.map ndC)
abbrev lsA (l : List Nd) : AV := .c (lsC l)
theorem flat_nds (l : List Nd) : ∀ c ∈ (l.map ndC).flatten, flatC c = true := by
 intro c hc
 obtain ⟨r, hr, hc⟩ := List.mem_flatten.1 hc
 obtain ⟨x, _, rfl⟩ := List.mem_map.1 hr
 simp only [ndC, List.mem_cons, List.not_mem_nil, or_false] at hc
 rcases hc with rfl | rfl | rfl | rfl <;> rfl
theorem ls_get {l : List Nd} {j : Nat} {x : Nd} (h : l[j]? = some x) : (l.map ndC).getD j [] = ndC x := by
 simp [List.getD_eq_getElem?_getD, List.getElem?_map, h]
def usesE (k : Int) : Int := cond (k == 1) 0 (cond (decide (k ≥ 2) && decide (k ≤ 4)) 1 (cond (decide (k ≥ 5) && decide (k ≤ 10)) 2 (-1)))
theorem cUses {k : Int} : Cal Tryz.prog OQ 45 [iA k] (iA (usesE k)) := by
 refine fn_call TK MX Tryz.func45 rfl (by kernel_rfl) (by kernel_rfl) (by kernel_rfl) rfl rfl ?_
 unfold usesE
 conv => whnf
 cases e1 : (k == 1)
 ·conv => whnf
  cases e2 : decide (k ≥ 2)
  ·conv => whnf
   cases e4 : decide (k ≥ 5)
   ·conv => whnf
    rfl
   ·conv => whnf
    cases e5 : decide (k ≤ 10)
    ·conv => whnf
     rfl
    ·conv => whnf
     rfl
  ·conv => whnf
   cases e3 : decide (k ≤ 4)
   ·conv => whnf
    cases e4 : decide (k ≥ 5)
    ·conv => whnf
     rfl
    ·conv => whnf
     cases e5 : decide (k ≤ 10)
     ·conv => whnf
      rfl
     ·conv => whnf
      rfl
   ·conv => whnf
    rfl
 ·conv => whnf
  rfl
theorem cCheckX {l : List UInt8} (hl : l.length ≤ 9223372036854775807) : Cal Tryz.prog OQ 46 [sA (ba l)] (iA (parseV l).2) := by
 refine fn_call TK MX Tryz.func46 rfl (by kernel_rfl) (by kernel_rfl) (by kernel_rfl) rfl rfl ?_
 conv => whnf
 refine ⟨_, cParse hl, ?_⟩
 conv => whnf
 rfl
def emB (l : List UInt8) : Bool := (ba l).toList == (⟨#[]⟩ : ByteArray).toList
def wrongE (x : Nd) (many : Int) : Int :=
 cond (decide (usesE x.k < 0) || (decide (usesE x.k > 0) && !emB x.v) || (decide (usesE x.k < 1) && x.a != 0) || (decide (usesE x.k < 2) && x.b != 0)) 2
  (cond (usesE x.k == 0) (parseV x.v).2
   (cond (decide (x.a < 0) || decide (x.a ≥ many) || (usesE x.k == 2 && (decide (x.b < 0) || decide (x.b ≥ many)))) 7 0))
theorem uses_cases (k : Int) : usesE k = 0 ∨ usesE k = 1 ∨ usesE k = 2 ∨ usesE k = -1 := by
 unfold usesE
 cases (k == 1) <;> cases (decide (k ≥ 2) && decide (k ≤ 4)) <;> cases (decide (k ≥ 5) && decide (k ≤ 10)) <;> simp
set_option maxHeartbeats 2000000 in
theorem cWrong {x : Nd} {many : Int} (hv : x.v.length ≤ 9223372036854775807) : Cal Tryz.prog OQ 23 [ndA x, iA many] (iA (wrongE x many)) := by
 refine fn_call TK MX Tryz.func23 rfl (by kernel_rfl) (by kernel_rfl) (by kernel_rfl) rfl rfl ?_
 conv => whnf
 refine ⟨_, cUses, ?_⟩
 unfold wrongE
 rcases uses_cases x.k with h | h | h | h <;> rw [h]
 ·conv => whnf
  cases e1 : (x.a != 0)
  ·conv => whnf
   cases e2 : (x.b != 0)
   ·conv => whnf
    refine ⟨_, cCheckX hv, ?_⟩
    conv => whnf
    rfl
   ·conv => whnf
    rfl
  ·conv => whnf
   rfl
 ·conv => whnf
  cases e0 : emB x.v
  ·have e0' : ((ba x.v).toList == (⟨#[]⟩ : ByteArray).toList) = false := e0
   rw [e0']
   conv => whnf
   rfl
  ·have e0' : ((ba x.v).toList == (⟨#[]⟩ : ByteArray).toList) = true := e0
   rw [e0']
   conv => whnf
   cases e2 : (x.b != 0)
   ·conv => whnf
    cases e3 : decide (x.a < 0)
    ·conv => whnf
     cases e4 : decide (x.a ≥ many)
     ·conv => whnf
      rfl
     ·conv => whnf
      rfl
    ·conv => whnf
     rfl
   ·conv => whnf
    rfl
 ·conv => whnf
  cases e0 : emB x.v
  ·have e0' : ((ba x.v).toList == (⟨#[]⟩ : ByteArray).toList) = false := e0
   rw [e0']
   conv => whnf
   rfl
  ·have e0' : ((ba x.v).toList == (⟨#[]⟩ : ByteArray).toList) = true := e0
   rw [e0']
   conv => whnf
   cases e3 : decide (x.a < 0)
   ·conv => whnf
    cases e4 : decide (x.a ≥ many)
    ·conv => whnf
     cases e5 : decide (x.b < 0)
     ·conv => whnf
      cases e6 : decide (x.b ≥ many)
      ·conv => whnf
       rfl
      ·conv => whnf
       rfl
     ·conv => whnf
      rfl
    ·conv => whnf
     rfl
   ·conv => whnf
    rfl
 ·conv => whnf
  rfl
def checkGo : Nat → List Nd → Int × Int
 | _, [] => (0, 0)
 | i, x :: l => cond (wrongE x (i : Nat) != 0) ((i : Nat), wrongE x (i : Nat)) (checkGo (i + 1) l)
def checkE (l : List Nd) : Int × Int := cond (decide (((l.length : Nat) : Int) > 300)) (0, 3) (checkGo 0 l)
structure CkS (l : List Nd) where
 j : Nat
 le : j ≤ l.length
 res : checkGo j (l.drop j) = checkGo 0 l
set_option maxHeartbeats 2000000 in
theorem cCheck {l : List Nd} (hl : ∀ x ∈ l, x.v.length ≤ 9223372036854775807) : Cal Tryz.prog OQ 6 [lsA l] (.t [iA (checkE l).1, iA (checkE l).2]) := by
 refine fn_call TK MX Tryz.func6 rfl (by kernel_rfl) (by kernel_rfl) (by kernel_rfl) rfl rfl ?_
 have lm : (l.map ndC).length = l.length := by simp
 unfold checkE
 conv => whnf
 rw [lenZ_eq, lm]
 conv => whnf
 cases e0 : decide (((l.length : Nat) : Int) > 300)
 ·have hlen : l.length ≤ 300 := by have := of_decide_eq_false e0; omega
  conv => whnf
  rw [lenZ_eq, lm]
  conv => whnf
  refine ⟨0, CkS l, fun s => [(10, lsA l), (11, iA ((l.length : Nat) : Int)), (12, iA ((s.j : Nat) : Int))], fun _ => [], fun s => l.length - s.j, [], ⟨0, Nat.zero_le _, rfl⟩, ⟨?_, ?_, rfl, rfl⟩, fun s => ?_⟩
  ·exact ⟨rfl, rfl, rfl, trivial⟩
  ·exact trivial
  have hs := s.le
  have hr := s.res
  conv => whnf
  cases hlt : decide (((s.j : Nat) : Int) < ((l.length : Nat) : Int))
  ·have hj : s.j = l.length := by have := of_decide_eq_false hlt; omega
   conv => whnf
   rw [hj, List.drop_length] at hr
   rw [← hr]
   rfl
  ·have hj : s.j < l.length := by have := of_decide_eq_true hlt; omega
   obtain ⟨x, hx⟩ : ∃ x, l[s.j]? = some x := ⟨_, List.getElem?_eq_getElem hj⟩
   have hdr : l.drop s.j = x :: l.drop (s.j + 1) := by
    rw [List.drop_eq_getElem_cons hj]
    congr 1
    have := List.getElem?_eq_getElem hj
    rw [hx] at this
    exact (Option.some.inj this).symm
   rw [hdr] at hr
   have d1 : decide ((0 : Int) ≤ ((s.j : Nat) : Int)) = true := by simp
   have d2 : decide ((((s.j : Nat) : Int)).toNat < (l.map ndC).length) = true := by rw [lm]; simp [hj]
   have d3 : (l.map ndC).getD (((s.j : Nat) : Int)).toNat [] = ndC x := by simpa using ls_get hx
   conv => whnf
   rw [d1]
   conv => whnf
   rw [d2]
   conv => whnf
   rw [d3]
   conv => whnf
   obtain ⟨W, hW⟩ : ∃ W, wrongE x ((s.j : Nat) : Int) = W := ⟨_, rfl⟩
   have cw := cWrong (many := ((s.j : Nat) : Int)) (hl x (List.mem_of_getElem? hx))
   rw [hW] at cw
   simp only [checkGo, hW] at hr
   refine ⟨_, cw, ?_⟩
   conv => whnf
   cases e1 : (W != 0)
   ·rw [e1] at hr
    conv => whnf
    refine ⟨[], ⟨s.j + 1, hj, hr⟩, by show l.length - (s.j + 1) < l.length - s.j; omega, ⟨⟨rfl, rfl, ?_, trivial⟩, trivial, rfl, rfl⟩⟩
    show AV.c (.v (.int .i64 (IntKind.i64.wrap (((s.j : Nat) : Int) + 1)))) = _
    rw [IntWalk.i64_in _ (by omega)]; rfl
   ·rw [e1] at hr
    conv => whnf
    rw [← hr]
    rfl
 ·conv => whnf
  rfl
theorem cAsked1 {l : List Nd} {i : Int} (hl : ∀ x ∈ l, x.v.length ≤ 9223372036854775807) (h : checkE l = (0, 0)) (h0 : 0 ≤ i) (h1 : i < (l.length : Nat)) : Cal Tryz.prog OQ 31 [lsA l, .c (.sl 1 [[.v (.int .i64 i)]])] (iA 0) := by
 refine fn_call TK MX Tryz.func31 rfl (by kernel_rfl) (by kernel_rfl) (by kernel_rfl) rfl rfl ?_
 have lm : (l.map ndC).length = l.length := by simp
 have c := cCheck hl
 rw [h] at c
 conv => whnf
 refine ⟨_, c, ?_⟩
 conv => whnf
 refine ⟨2, ?_⟩
 conv => whnf
 rw [dF (show ¬ i < 0 by omega)]
 conv => whnf
 rw [lenZ_eq, lm]
 conv => whnf
 rw [dF (show ¬ i ≥ ((l.length : Nat) : Int) by omega)]
 conv => whnf
 rfl
theorem cAsked2 {l : List Nd} {i k : Int} (hl : ∀ x ∈ l, x.v.length ≤ 9223372036854775807) (h : checkE l = (0, 0)) (h0 : 0 ≤ i) (h1 : i < (l.length : Nat)) (h2 : 0 ≤ k) (h3 : k < (l.length : Nat)) :
  Cal Tryz.prog OQ 31 [lsA l, .c (.sl 1 [[.v (.int .i64 i)], [.v (.int .i64 k)]])] (iA 0) := by
 refine fn_call TK MX Tryz.func31 rfl (by kernel_rfl) (by kernel_rfl) (by kernel_rfl) rfl rfl ?_
 have lm : (l.map ndC).length = l.length := by simp
 have c := cCheck hl
 rw [h] at c
 conv => whnf
 refine ⟨_, c, ?_⟩
 conv => whnf
 refine ⟨3, ?_⟩
 conv => whnf
 rw [dF (show ¬ i < 0 by omega)]
 conv => whnf
 rw [lenZ_eq, lm]
 conv => whnf
 rw [dF (show ¬ i ≥ ((l.length : Nat) : Int) by omega)]
 conv => whnf
 rw [dF (show ¬ k < 0 by omega)]
 conv => whnf
 rw [lenZ_eq, lm]
 conv => whnf
 rw [dF (show ¬ k ≥ ((l.length : Nat) : Int) by omega)]
 conv => whnf
 rfl
def digE (q : Rat) : Int := if (((decT q.den).size : Nat) : Int) > (((decT q.num.natAbs).size : Nat) : Int) then (((decT q.den).size : Nat) : Int) else (((decT q.num.natAbs).size : Nat) : Int)
theorem cNatText {n K : Nat} (sx : Sm K n) (hK : K ≤ 10000000) : Cal Tryz.prog OQ 27 [pN n] (sA (decT n)) :=
 cal_of (by kernel_rfl) rfl fun _ w vs hi hv => match vs, hv with
  | [x], hv => (textN_c x n K w hv.1 sx hK hi.2).mono fun _ _ ⟨h1, h2⟩ => ⟨_, h1, h2, fun _ => ⟨rfl, rfl⟩⟩
theorem cDigits {q : Rat} {K : Nat} (sx : SmQ K q) (hK : K ≤ 1000000) : Cal Tryz.prog OQ 65 [nA q] (iA (digE q)) := by
 refine fn_callB [(1, [(1, 1), (2, 2000000), (4, 1), (5, 2000000), (6, 2000000)])] TK MX Tryz.func65 rfl (by kernel_rfl) (by kernel_rfl) (by kernel_rfl) rfl rfl ?_
 conv => whnf
 refine ⟨_, cNatText sx.1 (by omega), ?_⟩
 conv => whnf
 refine ⟨_, cBottomN, ?_⟩
 conv => whnf
 refine ⟨_, cNatText sx.2 (by omega), ?_⟩
 conv => whnf
 rfl
end Go.Proofs.YtajecapgmdfjcaaGreatDoor

/- Plain: enclosures of 64 bits: bounds, sizes. -/
namespace Go.Proofs.YtajecapgmdfjcaaGreatDoor
open Go.RowKit Vn
theorem le_tr {a b c : Rat} (h : a ≤ b) (k : b ≤ c) : a ≤ c := Rat.le_trans h k
theorem lt_tr1 {a b c : Rat} (h : a < b) (k : b ≤ c) : a < c := by grind
theorem lt_tr2 {a b c : Rat} (h : a ≤ b) (k : b < c) : a < c := by grind
theorem mul_le2 {a b c d : Rat} (ha : 0 ≤ a) (hd : 0 ≤ d) (h : a ≤ b) (k : c ≤ d) : a * c ≤ b * d := by
 have h1 := Rat.mul_le_mul_of_nonneg_left k ha
 have h2 := Rat.mul_le_mul_of_nonneg_right h hd
 exact Rat.le_trans h1 h2
theorem mul_lt2 {a b : Rat} (hb : 0 < b) (h : a < b) (ha : 0 ≤ a) : a * a < b * b := by
 have h1 := Rat.mul_le_mul_of_nonneg_left (Rat.le_of_lt h) ha
 have h2 := Rat.mul_lt_mul_of_pos_right h hb
 grind
theorem sq_le {a b : Rat} (hb : 0 ≤ b) (h : a * a ≤ b * b) : a ≤ b := by
 rcases (Rat.le_total : a ≤ b ∨ b ≤ a) with k | k
 ·exact k
 ·by_cases e : b = a
  ·rw [e]; exact Rat.le_refl
  ·have hlt : b < a := by grind
   have := mul_lt2 (show 0 < a by grind) hlt hb
   grind
theorem p2_split {k : Int} {x : Rat} : x * (2 : Rat) ^ (-k) * (2 : Rat) ^ k = x := by rw [Rat.mul_assoc, p2_cancel, Rat.mul_one]
theorem flo {t : Rat} (h : 0 < t) : ((t.num.natAbs / t.den : Nat) : Rat) ≤ t ∧ t < ((t.num.natAbs / t.den + 1 : Nat) : Rat) ∧ (t.num.natAbs % t.den = 0 → ((t.num.natAbs / t.den : Nat) : Rat) = t) := by
 have hn := num_posN h
 have e2 : ((t.num.natAbs : Nat) : Rat) = ((t.num : Int) : Rat) := by
  have : t.num = ((t.num.natAbs : Nat) : Int) := by omega
  conv => rhs; rw [this]
  rfl
 have hd : (0 : Rat) < ((t.den : Nat) : Rat) := by have := Nat.pos_of_ne_zero t.den_nz; exact_mod_cast this
 have hm := Nat.div_add_mod t.num.natAbs t.den
 have hl := Nat.mod_lt t.num.natAbs (Nat.pos_of_ne_zero t.den_nz)
 have c : t * ((t.den : Nat) : Rat) = ((t.num.natAbs : Nat) : Rat) := by rw [e2]; exact (num_eq t).symm
 clear e2
 generalize t.num.natAbs = a at *
 have k1 : ((a / t.den : Nat) : Rat) * ((t.den : Nat) : Rat) ≤ ((a : Nat) : Rat) := by
  rw [← Rat.natCast_mul]
  have : a / t.den * t.den ≤ a := Nat.div_mul_le_self _ _
  exact_mod_cast this
 have k2 : ((a : Nat) : Rat) < ((a / t.den + 1 : Nat) : Rat) * ((t.den : Nat) : Rat) := by
  rw [← Rat.natCast_mul]
  have : a < (a / t.den + 1) * t.den := by rw [Nat.add_mul, Nat.mul_comm (a / t.den)]; omega
  exact_mod_cast this
 rw [← c] at k1 k2
 refine ⟨Rat.le_of_mul_le_mul_right k1 hd, Rat.lt_of_mul_lt_mul_right k2 (Rat.le_of_lt hd), fun e => ?_⟩
 have k3 : ((a / t.den : Nat) : Rat) * ((t.den : Nat) : Rat) = ((a : Nat) : Rat) := by
  rw [← Rat.natCast_mul]
  have : a / t.den * t.den = a := by rw [Nat.mul_comm]; omega
  exact_mod_cast this
 rw [← c] at k3
 exact Rat.le_antisymm (Rat.le_of_mul_le_mul_right (by rw [k3]; exact Rat.le_refl) hd) (Rat.le_of_mul_le_mul_right (by rw [k3]; exact Rat.le_refl) hd)
def Rg (L : Nat) (q : Rat) : Prop := (2 : Rat) ^ (-(L : Int)) ≤ q ∧ q ≤ (2 : Rat) ^ (L : Int)
theorem Rg.pos {L : Nat} {q : Rat} (h : Rg L q) : 0 < q := by have := p2_pos (-(L : Int)); have := h.1; grind
theorem Rg.mono {L M : Nat} {q : Rat} (h : Rg L q) (hl : L ≤ M) : Rg M q := ⟨le_tr (p2_mono (by omega)) h.1, le_tr h.2 (p2_mono (by omega))⟩
theorem Rg.mul {L M : Nat} {q r : Rat} (h : Rg L q) (k : Rg M r) : Rg (L + M) (q * r) := by
 refine ⟨?_, ?_⟩
 ·have := mul_le2 (Rat.le_of_lt (p2_pos _)) (Rat.le_of_lt k.pos) h.1 k.1
  rwa [← p2_add, show -(L : Int) + -(M : Int) = -((L + M : Nat) : Int) by omega] at this
 ·have := mul_le2 (Rat.le_of_lt h.pos) (Rat.le_of_lt (p2_pos _)) h.2 k.2
  rwa [← p2_add, show (L : Int) + (M : Int) = ((L + M : Nat) : Int) by omega] at this
theorem lg_rg {L : Nat} {q : Rat} (h : Rg L q) : (2 : Rat) ^ (lgQ q) ≤ q ∧ q < (2 : Rat) ^ (lgQ q + 1) ∧ -(L : Int) ≤ lgQ q ∧ lgQ q ≤ L := by
 have hp := h.pos
 have hl := lg_is (q := q) (by grind)
 rw [absQ_eq, if_neg (by have := num_posN hp; omega)] at hl
 refine ⟨hl.1, hl.2, ?_, ?_⟩
 ·have : (2 : Rat) ^ (-(L : Int)) < (2 : Rat) ^ (lgQ q + 1) := by have := h.1; have := hl.2; grind
  rw [p2_lt_iff] at this; omega
 ·have := le_tr hl.1 h.2
  rwa [p2_le_iff] at this
theorem sm_step {n L : Nat} {k : Int} (hn : n ≤ 2 ^ 64) (h : k.natAbs ≤ L + 64) : SmQ (L + 130) (((n : Nat) : Rat) * (2 : Rat) ^ k) := by
 have := SmQ.mul_p2 k (L + 65) (SmQ.nat (K := 65) (by decide) (Nat.lt_of_le_of_lt hn (by decide))) (by omega)
 exact this.mono (by omega)
theorem whole_q {away : Bool} {t : Rat} (h : 0 < t) : ∃ n : Nat, whQ away t = ((n : Nat) : Rat) ∧ (away = false → ((n : Nat) : Rat) ≤ t ∧ t < ((n + 1 : Nat) : Rat)) ∧ (away = true → t ≤ ((n : Nat) : Rat) ∧ ((n : Nat) : Rat) ≤ t + 1) := by
 have hn := num_posN h
 obtain ⟨f1, f2, f3⟩ := flo h
 have ed : decide (t.num < 0) = false := decide_eq_false (by omega)
 unfold whQ
 rw [ed]
 have i1 : ((1 : Nat) : Rat) = 1 := rfl
 cases away with
 | false =>
  refine ⟨t.num.natAbs / t.den, ?_, fun _ => ⟨f1, f2⟩, fun h => by cases h⟩
  simp only [Bool.false_and, Bool.false_eq_true, if_false]
  exact mkq_nat _
 | true =>
  by_cases e : t.num.natAbs % t.den = 0
  ·refine ⟨t.num.natAbs / t.den, ?_, (fun h => by cases h), fun _ => ?_⟩
   ·simp only [e, Bool.true_and, ne_eq, not_true_eq_false, decide_false, Bool.false_eq_true, if_false]
    exact mkq_nat _
   ·have := f3 e
    rw [this]; exact ⟨Rat.le_refl, by grind⟩
  ·refine ⟨t.num.natAbs / t.den + 1, ?_, (fun h => by cases h), fun _ => ⟨Rat.le_of_lt f2, ?_⟩⟩
   ·simp only [e, Bool.true_and, ne_eq, not_false_eq_true, decide_true, if_true]
    exact mkq_nat _
   ·rw [Rat.natCast_add, i1]; grind
theorem i64_64 : inR 64 = 64 := by decide
theorem nat_lt_of {a b : Nat} (h : ((a : Nat) : Rat) < ((b : Nat) : Rat)) : a < b := by exact_mod_cast h
theorem p63 : (2 : Rat) ^ (63 : Int) = ((2 ^ 63 : Nat) : Rat) := p2_nat 63
theorem p64 : (2 : Rat) ^ (64 : Int) = ((2 ^ 64 : Nat) : Rat) := p2_nat 64
theorem grid_t {L : Nat} {q : Rat} (h : Rg L q) : (2 : Rat) ^ (63 : Int) ≤ q * (2 : Rat) ^ (-gridK 64 q) ∧ q * (2 : Rat) ^ (-gridK 64 q) < (2 : Rat) ^ (64 : Int) ∧ (gridK 64 q).natAbs ≤ L + 64 ∧ gridK 64 q = lgQ q - 63 := by
 obtain ⟨h1, h2, h3, h4⟩ := lg_rg h
 have e : gridK 64 q = lgQ q - 63 := by unfold gridK; rw [i64_64]; omega
 rw [e]
 refine ⟨?_, ?_, by omega, rfl⟩
 ·have := Rat.mul_le_mul_of_nonneg_right h1 (Rat.le_of_lt (p2_pos (-(lgQ q - 63))))
  rwa [← p2_add, show lgQ q + -(lgQ q - 63) = 63 by omega] at this
 ·have := Rat.mul_lt_mul_of_pos_right h2 (p2_pos (-(lgQ q - 63)))
  rwa [← p2_add, show lgQ q + 1 + -(lgQ q - 63) = 64 by omega] at this
theorem dn_q {L : Nat} {q : Rat} (h : Rg L q) : dnQ 64 q ≤ q ∧ Rg L (dnQ 64 q) ∧ SmQ (L + 130) (dnQ 64 q) := by
 have hp := h.pos
 obtain ⟨g1, g2, g3, g4⟩ := grid_t h
 obtain ⟨h1, h2, h3, h4⟩ := lg_rg h
 have hn := num_posN hp
 have ed : decide (q.num < 0) = false := decide_eq_false (by omega)
 have e : dnQ 64 q = whQ false (q * (2 : Rat) ^ (-gridK 64 q)) * (2 : Rat) ^ (gridK 64 q) := by unfold dnQ; rw [ed]; exact if_neg (by grind)
 obtain ⟨n, w1, w2, _⟩ := whole_q (away := false) (t := q * (2 : Rat) ^ (-gridK 64 q)) (Rat.mul_pos hp (p2_pos _))
 obtain ⟨w2, w3⟩ := w2 rfl
 rw [e, w1]
 have n1 : 2 ^ 63 ≤ n := by
  have := lt_tr2 g1 w3
  rw [p63] at this
  have := nat_lt_of this
  omega
 have n2 : n ≤ 2 ^ 64 := by
  have := lt_tr2 w2 g2
  rw [p64] at this
  have := nat_lt_of this
  omega
 have u : ((n : Nat) : Rat) * (2 : Rat) ^ (gridK 64 q) ≤ q := by
  have := Rat.mul_le_mul_of_nonneg_right w2 (Rat.le_of_lt (p2_pos (gridK 64 q)))
  rwa [p2_split] at this
 refine ⟨u, ⟨?_, le_tr u h.2⟩, sm_step n2 g3⟩
 have n1' : (2 : Rat) ^ (63 : Int) ≤ ((n : Nat) : Rat) := by rw [p63]; exact_mod_cast n1
 have := Rat.mul_le_mul_of_nonneg_right n1' (Rat.le_of_lt (p2_pos (gridK 64 q)))
 rw [← p2_add, show 63 + gridK 64 q = lgQ q by omega] at this
 exact le_tr (p2_mono h3) this
theorem up_q {L : Nat} {q : Rat} (h : Rg L q) : q ≤ upQ 64 q ∧ Rg (L + 1) (upQ 64 q) ∧ SmQ (L + 130) (upQ 64 q) := by
 have hp := h.pos
 obtain ⟨g1, g2, g3, g4⟩ := grid_t h
 obtain ⟨h1, h2, h3, h4⟩ := lg_rg h
 have hn := num_posN hp
 have ed : decide (q.num < 0) = false := decide_eq_false (by omega)
 have e : upQ 64 q = whQ true (q * (2 : Rat) ^ (-gridK 64 q)) * (2 : Rat) ^ (gridK 64 q) := by unfold upQ; rw [ed]; exact if_neg (by grind)
 obtain ⟨n, w1, _, w2⟩ := whole_q (away := true) (t := q * (2 : Rat) ^ (-gridK 64 q)) (Rat.mul_pos hp (p2_pos _))
 obtain ⟨w2, w3⟩ := w2 rfl
 rw [e, w1]
 have n2 : n ≤ 2 ^ 64 := by
  have i1 : ((1 : Nat) : Rat) = 1 := rfl
  have k : ((n : Nat) : Rat) < ((2 ^ 64 + 1 : Nat) : Rat) := by
   rw [Rat.natCast_add, ← p64, i1]; grind
  have := nat_lt_of k
  omega
 have u : q ≤ ((n : Nat) : Rat) * (2 : Rat) ^ (gridK 64 q) := by
  have := Rat.mul_le_mul_of_nonneg_right w2 (Rat.le_of_lt (p2_pos (gridK 64 q)))
  rwa [p2_split] at this
 refine ⟨u, ⟨le_tr (p2_mono (by omega)) (le_tr h.1 u), ?_⟩, sm_step n2 g3⟩
 have n2' : ((n : Nat) : Rat) ≤ (2 : Rat) ^ (64 : Int) := by rw [p64]; exact_mod_cast n2
 have := Rat.mul_le_mul_of_nonneg_right n2' (Rat.le_of_lt (p2_pos (gridK 64 q)))
 rw [← p2_add, show 64 + gridK 64 q = lgQ q + 1 by omega] at this
 exact le_tr this (p2_mono (by omega))
theorem isqC_is (n : Nat) : IsRoot n (isqC n) := by
 refine isqGo_is n _ 0 (by simp) ?_
 have h1 := bl_lt n
 have h2 : 2 ^ bl n ≤ 2 ^ (bl n / 2 + 1) * 2 ^ (bl n / 2 + 1) := by
  rw [← Nat.pow_add]
  exact Nat.pow_le_pow_right (by decide) (by omega)
 rw [Nat.zero_add]; omega
theorem root_q {up : Bool} {L : Nat} {q : Rat} (h : Rg L q) : Rg (L + 1) (rtQ up 64 q) ∧ SmQ (L + 130) (rtQ up 64 q) ∧ (up = false → rtQ up 64 q * rtQ up 64 q ≤ q) ∧ (up = true → q ≤ rtQ up 64 q * rtQ up 64 q) := by
 have hp := h.pos
 obtain ⟨h1, h2, h3, h4⟩ := lg_rg h
 have ek : rtK 64 q = lgQ q / 2 - 63 := by unfold rtK; rw [i64_64]; omega
 have e : rtQ up 64 q = ((rtM up 64 q : Nat) : Rat) * (2 : Rat) ^ (rtK 64 q) := if_neg (by grind)
 have ht := rtT_pos (bits := 64) hp
 obtain ⟨f1, f2, f3⟩ := flo ht
 have t1 : (2 : Rat) ^ (126 : Int) ≤ rtT 64 q := by
  have := Rat.mul_le_mul_of_nonneg_right h1 (Rat.le_of_lt (p2_pos (-2 * rtK 64 q)))
  rw [← p2_add] at this
  exact le_tr (p2_mono (by omega)) this
 have t2 : rtT 64 q < (2 : Rat) ^ (128 : Int) := by
  have := Rat.mul_lt_mul_of_pos_right h2 (p2_pos (-2 * rtK 64 q))
  rw [← p2_add] at this
  exact lt_tr1 this (p2_mono (by omega))
 have eb : rtT 64 q * ((2 : Rat) ^ (rtK 64 q) * (2 : Rat) ^ (rtK 64 q)) = q := by
  unfold rtT
  rw [Rat.mul_assoc, ← p2_add, ← p2_add, show -2 * rtK 64 q + (rtK 64 q + rtK 64 q) = 0 by omega, Rat.zpow_zero, Rat.mul_one]
 have is : IsRoot (rtN 64 q) (isqC (rtN 64 q)) := isqC_is (rtN 64 q)
 obtain ⟨N, hN⟩ : ∃ N, N = rtN 64 q := ⟨_, rfl⟩
 have f1' : ((N : Nat) : Rat) ≤ rtT 64 q := by rw [hN]; exact f1
 have f2' : rtT 64 q < ((N + 1 : Nat) : Rat) := by rw [hN]; exact f2
 have f3' : (rtT 64 q).den = 1 → ((N : Nat) : Rat) = rtT 64 q := fun e => by rw [hN]; exact f3 (by rw [e, Nat.mod_one])
 rw [← hN] at is
 obtain ⟨S, hS⟩ : ∃ S, S = isqC N := ⟨_, rfl⟩
 rw [← hS] at is
 obtain ⟨s1, s2⟩ := is
 have hM : rtM up 64 q = S ∧ (up = true → rtT 64 q ≤ ((S * S : Nat) : Rat)) ∨ rtM up 64 q = S + 1 ∧ up = true := by
  unfold rtM
  rw [← hN, ← hS]
  cases up with
  | false => exact .inl ⟨by simp, fun h => by cases h⟩
  | true =>
   by_cases ed : (rtT 64 q).den = 1
   ·by_cases ec : cmpN (S * S) N < 0
    ·exact .inr ⟨by simp [ec], rfl⟩
    ·refine .inl ⟨by simp [ed, ec], fun _ => ?_⟩
     have : N ≤ S * S := by
      rcases Nat.lt_or_ge (S * S) N with k | k
      ·exact absurd (by unfold cmpN; rw [if_pos k]; decide) ec
      ·exact k
     rw [← f3' ed]
     exact_mod_cast this
   ·exact .inr ⟨by simp [ed], rfl⟩
 have a1 : 2 ^ 126 ≤ N := by
  have := lt_tr2 t1 f2'
  rw [show (2 : Rat) ^ (126 : Int) = ((2 ^ 126 : Nat) : Rat) from p2_nat 126] at this
  have := nat_lt_of this
  omega
 have a2 : N < 2 ^ 128 := by
  have := lt_tr2 f1' t2
  rw [show (2 : Rat) ^ (128 : Int) = ((2 ^ 128 : Nat) : Rat) from p2_nat 128] at this
  exact nat_lt_of this
 have b1 : 2 ^ 63 ≤ S := by
  rcases Nat.lt_or_ge S (2 ^ 63) with k | k
  ·have := Nat.mul_le_mul (show S + 1 ≤ 2 ^ 63 by omega) (show S + 1 ≤ 2 ^ 63 by omega)
   omega
  ·exact k
 have b2 : S < 2 ^ 64 := by
  rcases Nat.lt_or_ge S (2 ^ 64) with k | k
  ·exact k
  ·have := Nat.mul_le_mul k k
   omega
 have m1 : 2 ^ 63 ≤ rtM up 64 q := by rcases hM with h | h <;> omega
 have m2 : rtM up 64 q ≤ 2 ^ 64 := by rcases hM with h | h <;> omega
 have pk := p2_pos (rtK 64 q)
 have pk2 : 0 < (2 : Rat) ^ (rtK 64 q) * (2 : Rat) ^ (rtK 64 q) := Rat.mul_pos pk pk
 have er : rtQ up 64 q * rtQ up 64 q = ((rtM up 64 q * rtM up 64 q : Nat) : Rat) * ((2 : Rat) ^ (rtK 64 q) * (2 : Rat) ^ (rtK 64 q)) := by
  rw [e, Rat.natCast_mul]; grind
 rw [er]
 refine ⟨?_, ?_, fun hu => ?_, fun hu => ?_⟩
 ·rw [e]
  have m1' : (2 : Rat) ^ (63 : Int) ≤ ((rtM up 64 q : Nat) : Rat) := by rw [p63]; exact_mod_cast m1
  have m2' : ((rtM up 64 q : Nat) : Rat) ≤ (2 : Rat) ^ (64 : Int) := by rw [p64]; exact_mod_cast m2
  have k1 := Rat.mul_le_mul_of_nonneg_right m1' (Rat.le_of_lt pk)
  have k2 := Rat.mul_le_mul_of_nonneg_right m2' (Rat.le_of_lt pk)
  rw [← p2_add] at k1 k2
  exact ⟨le_tr (p2_mono (by omega)) k1, le_tr k2 (p2_mono (by omega))⟩
 ·rw [e]; exact sm_step m2 (by omega)
 ·subst hu
  rcases hM with ⟨h, _⟩ | ⟨_, h⟩
  ·rw [h]
   have k : ((S * S : Nat) : Rat) ≤ rtT 64 q := le_tr (by exact_mod_cast s1) f1'
   have := Rat.mul_le_mul_of_nonneg_right k (Rat.le_of_lt pk2)
   rwa [eb] at this
  ·cases h
 ·rcases hM with ⟨h, k⟩ | ⟨h, _⟩
  ·rw [h]
   have := Rat.mul_le_mul_of_nonneg_right (k hu) (Rat.le_of_lt pk2)
   rwa [eb] at this
  ·rw [h]
   have k : rtT 64 q ≤ (((S + 1) * (S + 1) : Nat) : Rat) := by
    have k0 : ((N + 1 : Nat) : Rat) ≤ (((S + 1) * (S + 1) : Nat) : Rat) := by exact_mod_cast s2
    exact le_tr (Rat.le_of_lt f2') k0
   have := Rat.mul_le_mul_of_nonneg_right k (Rat.le_of_lt pk2)
   rwa [eb] at this
end Go.Proofs.YtajecapgmdfjcaaGreatDoor
