/- floats: Next, Count, Nth of words that are no NaN. -/
import Derived.Test.YtopmjkkjlagfcaaGreatDoorO31
import Derived.Test.YtopmjkkjlagfcaaGreatDoorO39
namespace Go.Proofs.YtopmjkkjlagfcaaGreatDoor
open Go.RowKit Vn
set_option maxRecDepth 100000
set_option maxHeartbeats 8000000
theorem infZ_124 {E P:Nat} (hP:1≤P) (h:E+P≤124):infZ E P<2^124:=Nat.lt_of_lt_of_le (infZ_lt hP) (Nat.pow_le_pow_right (by decide) (by omega))
theorem Next_up (E P n:Nat) (w:World) (hF:Fmt E P) (hn:n<2^(E+P)) (hk:wkind E P n≤3) :
  Calls Tryz.prog 21 #[.agg #[.int .i64 (E:Nat),.int .i64 (P:Nat)],Word n,.bool true] w fun e w'=>e=.returned (.tuple #[Word (nextU E P n),.int .i64 0])∧Ext w w':=by
 obtain ⟨hE,hP,hb,hEP,hb1⟩:=fmt_bounds hF
 by_cases hi:n=infw E P false
 ·have e:nextU E P n=n:=by unfold nextU;rw [if_pos hi]
  rw [e]
  exact Next_same_u E P n w hF hn hk hi
 ·obtain ⟨h1,h2,h3,h4⟩:=up_facts (by omega) (by omega) hn hk hi;have hI:=infZ_124 (E:=E) (P:=P) (by omega) hEP
  by_cases h0:rankZ E P n+1=0
  ·have e:nextU E P n=sgb E P true:=by unfold nextU;rw [if_neg hi,if_pos h0]
   rw [e]
   exact Next_zero_u E P n w hF hn hk hi h0
  ·have e:nextU E P n=rankW E P (rankZ E P n+1):=by unfold nextU;rw [if_neg hi,if_neg h0]
   rw [e]
   exact Next_step_u E P n w hF hn hk hi h0 (by omega)
theorem Next_dn (E P n:Nat) (w:World) (hF:Fmt E P) (hn:n<2^(E+P)) (hk:wkind E P n≤3) :
  Calls Tryz.prog 21 #[.agg #[.int .i64 (E:Nat),.int .i64 (P:Nat)],Word n,.bool false] w fun e w'=>e=.returned (.tuple #[Word (nextD E P n),.int .i64 0])∧Ext w w':=by
 obtain ⟨hE,hP,hb,hEP,hb1⟩:=fmt_bounds hF
 by_cases hi:n=infw E P true
 ·have e:nextD E P n=n:=by unfold nextD;rw [if_pos hi]
  rw [e]
  exact Next_same_d E P n w hF hn hk hi
 ·have e:nextD E P n=rankW E P (rankZ E P n + -1):=by unfold nextD;rw [if_neg hi]
  have hI:=infZ_lt (E:=E) (P:=P) (by omega);have hm:=(kind_mag (by omega)).1 hk;have ha:=rank_abs E P n;have h2:2^(E+P-1)≤2^123:=Nat.pow_le_pow_right (by decide) (by omega);rw [e]
  exact Next_step_d E P n w hF hn hk hi (by omega)
end Go.Proofs.YtopmjkkjlagfcaaGreatDoor
