/- exact: what the numbers' functions return, in the words of reckoning. -/
import Derived.Test.YtajecapgmdfjcaaGreatDoorN31
import Derived.Test.YtajecapgmdfjcaaGreatDoorN36
namespace Go.Proofs.YtajecapgmdfjcaaGreatDoor
open Go.RowKit Vn
theorem rep_t {y : Value} {q : Rat} (h1 : y.oneCell' = true) {w : World} {v : Value} (h : ∃ x, v = .tuple #[x, y] ∧ NumV w x q) : ∀ S, RepV OQ (fun _ => none) S w v (.t [nA q, .c (.v y)]) := by
 intro S
 obtain ⟨x, rfl, h⟩ := h
 exact ⟨[x, y], rfl, numA_of h, ⟨rfl, h1⟩, trivial⟩
section
variable {q r : Rat} {K : Nat}
theorem cMul (sx : SmQ K q) (sy : SmQ K r) (hK : K ≤ 20000000) : Cal Tryz.prog OQ 102 [nA q, nA r] (nA (q * r)) :=
 cal2 (by kernel_rfl) rfl rep_num fun x y w _ hx hy => Mul_c x y q r K w hx hy sx sy hK
theorem cAdd (sx : SmQ K q) (sy : SmQ K r) (hK : K ≤ 20000000) : Cal Tryz.prog OQ 38 [nA q, nA r] (nA (q + r)) :=
 cal2 (by kernel_rfl) rfl rep_num fun x y w _ hx hy => Add_c x y q r K w hx hy sx sy hK
theorem cSub (sx : SmQ K q) (sy : SmQ K r) (hK : K ≤ 20000000) : Cal Tryz.prog OQ 67 [nA q, nA r] (nA (q - r)) :=
 cal2 (by kernel_rfl) rfl rep_num fun x y w _ hx hy => Sub_c x y q r K w hx hy sx sy hK
theorem cCmp (sx : SmQ K q) (sy : SmQ K r) (hK : K ≤ 20000000) : Cal Tryz.prog OQ 68 [nA q, nA r] (iA (cmpQ q r)) :=
 cal2 (R := fun _ v => v = .int .i64 (cmpQ q r)) (by kernel_rfl) rfl (rep_sc rfl) fun x y w _ hx hy => (Cmp_c x y q r K w hx hy sx sy hK).mono fun _ _ ⟨h1, h2⟩ => ⟨_, h1, rfl, h2⟩
theorem cSign : Cal Tryz.prog OQ 60 [nA q] (iA q.num.sign) :=
 cal1 (R := fun _ v => v = .int .i64 q.num.sign) (by kernel_rfl) rfl (rep_sc rfl) fun x w _ hx => (sign_c x q w hx).mono fun _ _ ⟨h1, h2⟩ => ⟨_, h1, rfl, h2⟩
theorem cIsInt : Cal Tryz.prog OQ 123 [nA q] (bA (decide (q.den = 1))) :=
 cal1 (R := fun _ v => v = .bool (decide (q.den = 1))) (by kernel_rfl) rfl (rep_sc rfl) fun x w _ hx => (isInt_c x q w hx).mono fun _ _ ⟨h1, h2⟩ => ⟨_, h1, rfl, h2⟩
theorem cAbs : Cal Tryz.prog OQ 101 [nA q] (nA (absQ q)) :=
 cal1 (by kernel_rfl) rfl rep_num fun x w _ hx => abs_c x q w hx
theorem cNeg : Cal Tryz.prog OQ 105 [nA q] (nA (-q)) :=
 cal1 (by kernel_rfl) rfl rep_num fun x w _ hx => neg_c x q w hx
theorem cFloor (sx : SmQ K q) (hK : K ≤ 20000000) : Cal Tryz.prog OQ 66 [nA q] (nA ((q.floor : Int) : Rat)) :=
 cal1 (by kernel_rfl) rfl rep_num fun x w _ hx => Floor_c x q K w hx sx hK
theorem cShift {k : Int} (sx : SmQ K q) (h0 : -20000 ≤ k) (h1 : k ≤ 20000) (hK : K ≤ 20000000) : Cal Tryz.prog OQ 79 [nA q, iA k] (.t [nA (q * (2 : Rat) ^ k), iA 0]) :=
 cal1i (by kernel_rfl) rfl (rep_t rfl) fun x w _ hx => (Shift_c x q K k w hx sx h0 h1 hK).mono fun _ _ ⟨v, h1, h2, h3⟩ => ⟨_, h1, ⟨v, rfl, h2⟩, h3⟩
theorem cInt {n : Int} (h0 : -9223372036854775808 ≤ n) (h1 : n < 9223372036854775808) : Cal Tryz.prog OQ 9 [iA n] (nA (n : Rat)) :=
 cali (zs := [.int .i64 n]) (by kernel_rfl) rfl rep_num fun w _ => Int_c n w h0 h1
theorem cText (sx : SmQ K q) (hK : K ≤ 1000000) : Cal Tryz.prog OQ 10 [nA q] (.c (.v (.string (numText q)))) :=
 cal1 (R := fun _ v => v = .string (numText q)) (by kernel_rfl) rfl (rep_sc rfl) fun x w hi hx => (Text_c x q K w hx sx hK hi.2).mono fun _ _ ⟨h1, h2⟩ => ⟨_, h1, rfl, h2⟩
end
end Go.Proofs.YtajecapgmdfjcaaGreatDoor
