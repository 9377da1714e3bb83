/- floats: look. -/
import Derived.Test.YtoaoebimjmjpeaaGreatDoorT42
namespace Go.Proofs.YtoaoebimjmjpeaaGreatDoor
open Go.RowKit Vn
set_option maxRecDepth 100000
set_option maxHeartbeats 8000000
def OpV (w:World) (v:Value) (kind:Int) (neg:Bool) (q:Rat):Prop :=
 ∃ (ng:Bool) (a:Option Addr) (n c:Nat) (a':Option Addr) (n' c':Nat),v=.agg #[.int .i64 kind,.bool neg,.bool ng,.slice a n c,.slice a' n' c']∧NumV w (.agg #[.bool ng,.slice a n c,.slice a' n' c']) q
theorem OpV.ext {w w':World} {v:Value} {kind:Int} {neg:Bool} {q:Rat} (h:OpV w v kind neg q) (k:Ext w w'):OpV w' v kind neg q:=by
 obtain ⟨ng,a,n,c,a',n',c',h1,h2⟩:=h;exact ⟨ng,a,n,c,a',n',c',h1,h2.ext k⟩
def wf (E P n:Nat):Nat:=n/2^(P-1)%2^E
def wr (P n:Nat):Nat:=n%2^(P-1)
def wn (E P n:Nat):Bool:=decide (n/2^(E+P-1)≠0)
def wfr (E P n:Nat):Nat:=if wf E P n=0 then wr P n else wr P n+2^(P-1)
def wval (E P b n:Nat):Rat:=(if wn E P n=true then -1 else 1)*(((wfr E P n:Nat):Rat)*(2:Rat)^(2-(b:Int)-P+((max (wf E P n) 1-1:Nat):Int)))
def wkind (E P n:Nat):Int:=if wf E P n=2^E-1 then (if wr P n=0 then 3 else if bl (wr P n)=P-1 then 4 else 5) else if wf E P n=0∧wr P n=0 then 1 else 2
def wvalK (E P b n:Nat):Rat:=if wkind E P n=2 then wval E P b n else if wkind E P n=4 then ((wr P n%2^(P-2):Nat):Rat) else if wkind E P n=5 then ((wr P n:Nat):Rat) else 0
end Go.Proofs.YtoaoebimjmjpeaaGreatDoor
