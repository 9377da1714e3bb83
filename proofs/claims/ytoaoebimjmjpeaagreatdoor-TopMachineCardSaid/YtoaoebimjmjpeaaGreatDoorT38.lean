/- A run of which everything is known: the function that catches what another one leaves. -/
import Derived.Test.YtoaoebimjmjpeaaGreatDoorProg
import Derived.Recover
import Derived.Defers
import Derived.Tactics
import Derived.Tactics2
import Derived.Test.YtoaoebimjmjpeaaGreatDoorT35
namespace Go.Proofs.YtoaoebimjmjpeaaGreatDoor
open Go.RowKit Vn
set_option maxRecDepth 100000
set_option maxHeartbeats 8000000
theorem caught_idle (p:Addr) (w:World):CallsD Tryz.prog 144 #[.pointer (some p)] .returning w fun e u' w'=>e=.returned (.tuple #[])∧u'=.returning∧w'=w:=by
 have hnil:∀ w:World,(binOp BinOp.eql 20 .nilIface .nilIface).run Tryz.prog w=.ok (.bool true) w:=fun _=>by kernel_rfl
 refine callsD_of_wpS Tryz.func144 rfl fun c₀ cs hu => ?_
 apply wpS_seq
 apply wpS_region
 simp [wpOpsS,go_sem,recoverD,hu,Tryz.ntmps144,Exit.thenS]
 apply wpS_of_wp
 go_wp2
 cases c₀
 simp_all [bodyPostS,results,Tryz.results144]
theorem setCell_same {w:World} {b:Nat} {v:Value} {ts:List Value} {T:TypeId} {fr:Nat×Nat} (h:w.heap[b]?=some (.cells (v :: ts).toArray T fr)):w.setCell ⟨b,0,none⟩ v=w:=by
 have e:(w.setCell ⟨b,0,none⟩ v).heap=w.heap:=by
  apply Array.ext_getElem?
  intro i
  simp only [World.setCell,Array.getElem?_modify]
  by_cases e:b=i
  ·subst e;rw [if_pos rfl,h]
   simp
  ·rw [if_neg e]
 have e2:w.setCell ⟨b,0,none⟩ v = { w with heap:=(w.setCell ⟨b,0,none⟩ v).heap }:=rfl;rw [e2,e]
theorem caught_c {w:World} {k:FuncId} {us vs:List Value} {Po:Ending→World→Prop} (hb:ZBody Tryz.prog k) (hc:Calls Tryz.prog k (us++vs).toArray (w.alloc (.cells #[.int .i64 0] 33)) Po)
  (hp:∀ e w',Po e w'→(∃ v,e=.returned v)∧∃ ts:List Value,w'.heap[w.heap.size]?=some (.cells (Value.int .i64 0 :: ts).toArray 33 (0,0))) :
  Calls Tryz.prog 69 #[.func (.func k) us.toArray vs.toArray] w fun e w'=>∃ e1,e=.returned (.int .i64 0)∧Po e1 w':=by
 have hmf:∀ (fn:Fn) (first cap:Array Value) (w:World),(Instr.makeFunc fn first cap).run Tryz.prog w=.ok (.func fn first cap) w:=fun _ _ _ _=>rfl;obtain ⟨fn,f1,f2,f3⟩:=hb;have hn':¬ fn.name = "runtime.NumGoroutine" := by simpa using f2
 have hb':¬ fn.body=none:=fun e=>by rw [e] at f3;cases f3
 have hcf:∀ (args:Array Value) (w:World),(callFunc k args).run Tryz.prog w=.ok (.enter k args) w:=fun args w=>by
  simp only [callFunc,Sem.run_bind,program,Sem.run,Result.andThen_ok,f1]
  simp [hn',hb']
 go_enter_defers Tryz.func69,Tryz.ntmps69
 go_wp2
 refine hc.mono ?_;rintro e w2 hpo;obtain ⟨⟨v,rfl⟩,ts,hh⟩:=hp e w2 hpo;have hcell:w2.cell? ⟨w.heap.size,0,none⟩=some (.int .i64 0):=by simp [World.cell?,hh]
 have hfz:w2.frozen? ⟨w.heap.size,0,none⟩=false:=by simp [World.frozen?,hh]
 have hsame:=setCell_same hh
 go_wp2
 refine leaves_cons (f:=144) (args:=#[.pointer (some ⟨w.heap.size,0,none⟩)]) (by simp) (by simp [go_sem]) ?_;refine (caught_idle ⟨w.heap.size,0,none⟩ _).mono ?_;rintro e u' w3 ⟨rfl,rfl,rfl⟩
 simp [Leaves,settle,results,Tryz.results69,go_sem,hcell]
 exact ⟨_,hpo⟩
theorem caught_ok {O:Opq} (h:O.box 33=true):CaughtOK Tryz.prog O 33 69 :=
 ⟨⟨_,Tryz.func69,by kernel_rfl,by kernel_rfl⟩,h,fun hb hc hp=>caught_c hb hc hp⟩
end Go.Proofs.YtoaoebimjmjpeaaGreatDoor
