/- floats: words held against each other; with. -/
import Derived.Laws.StructEq
import Derived.Test.YtgabigepocfllaaGreatDoorP17
namespace Go.Proofs.YtgabigepocfllaaGreatDoor
open Go.RowKit Vn
set_option maxRecDepth 100000
set_option maxHeartbeats 8000000
def WSl (w:World) (v:Value) (ws:List Nat):Prop:=∃ (a:Option Addr) (b off cap:Nat),v=.slice a ws.length cap∧ws.length≤cap∧cap≤1000∧(0<ws.length→a=some ⟨b,off,none⟩) ∧
 (∀ n∈ws,W128 n)∧∀ i,i<ws.length→w.cell? ⟨b,off+i*2,none⟩=some (.int .u64 ((ws.getD i 0/18446744073709551616:Nat):Int))∧w.cell? ⟨b,off+i*2+1,none⟩=some (.int .u64 ((ws.getD i 0%18446744073709551616:Nat):Int))
theorem wcase {n k p q:Nat} (h1:p=n/2^k/18446744073709551616) (h2:q=n/2^k%18446744073709551616):(p=0∧q=0∧n<2^k)∨(((p:Int)==0)=false∧¬ n<2^k)∨(p=0∧((q:Int)==0)=false∧¬ n<2^k):=by
 by_cases h:n<2^k
 ·left
  rw [Nat.div_eq_of_lt h] at h1 h2
  exact ⟨by rw [h1],by rw [h2],h⟩
 ·right
  have hp:0<n/2^k:=Nat.div_pos (by omega) (Nat.pow_pos (by decide))
  have:=Nat.div_add_mod (n/2^k) 18446744073709551616
  rw [←h1,←h2] at this
  by_cases h3:p=0
  ·subst h3
   exact .inr ⟨rfl,by simp;omega,h⟩
  ·exact .inl ⟨by simp;omega,h⟩
theorem WSl.nil (w:World):WSl w (.slice none 0 0) []:=⟨none,0,0,0,rfl,Nat.le_refl _,by omega,fun h=>by simp at h,fun n h=>by simp at h,fun i h=>by simp at h⟩

end Go.Proofs.YtgabigepocfllaaGreatDoor
