/- floats: words held against each other; with. -/
import Derived.Laws.StructEq
import Derived.Test.YtoaoebimjmjpeaaGreatDoorT15
namespace Go.Proofs.YtoaoebimjmjpeaaGreatDoor
open Go.RowKit Vn
set_option maxRecDepth 100000
set_option maxHeartbeats 8000000
def WSl (w:World) (v:Value) (ws:List Nat):Prop:=∃ (a:Option Addr) (b off cap:Nat),v=.slice a ws.length cap∧ws.length≤cap∧cap≤1000∧(0<ws.length→a=some ⟨b,off,none⟩) ∧
 (∀ n∈ws,W128 n)∧∀ i,i<ws.length→w.cell? ⟨b,off+i*2,none⟩=some (.int .u64 ((ws.getD i 0/18446744073709551616:Nat):Int))∧w.cell? ⟨b,off+i*2+1,none⟩=some (.int .u64 ((ws.getD i 0%18446744073709551616:Nat):Int))
theorem WSl.nil (w:World):WSl w (.slice none 0 0) []:=⟨none,0,0,0,rfl,Nat.le_refl _,by omega,fun h=>by simp at h,fun n h=>by simp at h,fun i h=>by simp at h⟩

end Go.Proofs.YtoaoebimjmjpeaaGreatDoor
