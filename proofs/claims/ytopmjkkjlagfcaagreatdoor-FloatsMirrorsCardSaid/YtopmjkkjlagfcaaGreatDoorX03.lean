/- What all the walks import. -/
import Derived.Test.YtopmjkkjlagfcaaGreatDoorProg
import Derived.WalkKit
import Derived.WalkSpells
import Derived.WalkLawsBesides
import Derived.BigQuiet
import Derived.Deep.QuietTactic
import Derived.Deep.RegionHeld3
import Derived.Laws.Pointers
import Derived.StillTactics
import Derived.Outline
import Derived.Deep.LoopGhost
import Derived.Deep.CutBlock
import Derived.Deep.DeepCutAuto
import Derived.Test.YtopmjkkjlagfcaaGreatDoorX02
import Derived.Deep.DeepCutAuto
namespace Go.Proofs.YtopmjkkjlagfcaaGreatDoor
open Go.RowKit Vn
set_option maxRecDepth 100000
set_option maxHeartbeats 8000000
theorem vint {k:IntKind} {a b:Int} (h:a=b):Value.int k a=Value.int k b:=by rw [h]
def NatV (w:World) (v:Value) (n:Nat):Prop:=∃ l,Norm 4294967296 l∧dv 4294967296 l=n∧SlAt 171 .u32 w v l
theorem NatV.ext {w w':World} {v:Value} {n:Nat} (h:NatV w v n) (hb:Ext w w'):NatV w' v n:=by
 obtain ⟨l,h1,h2,h3⟩:=h;exact ⟨l,h1,h2,h3.ext hb⟩
theorem info32:(Tryz.prog.info? 171).map (fun i=>(i.zero,i.size,i.bytes))=some (some (.int .u32 0),1,4):=by kernel_rfl
theorem mkNat (n:Nat) (x:Int) (hx:x=(n:Int)) (hn:n≤1000000000000) (w:World) :
  (Instr.makeSlice 38 (.int .i64 x) (.int .i64 x)).run Tryz.prog w=.ok (.slice (some ⟨w.heap.size,0,none⟩) n n) (w.alloc (.cells (rowOf .u32 (List.replicate n 0)) 171)):=by
 obtain ⟨i0,hi,hz0,hz1,hz2⟩:=info_parts info32
 exact make_row (P:=Tryz.prog) 38 171 i0 .u32 Tryz.underlying38 hi hz0 hz1 n x hx (by rw [hz2];omega) (by unfold maxLen;omega) w
def lenOf:Value→Nat | .slice _ n _=>n | _=>0
structure TrimRel (l:List Nat) (n:Nat) (w:World) (k:Nat) (wr:World):Prop where
 hk:k≤n
 zeros:∀ i,k≤i→i<n→l.getD i 0=0
 heap:wr.heap=w.heap
 ext:Ext w wr
theorem trim_core (a:Option Addr) (b off n cap:Nat) (l:List Nat) (w:World) (hn:n≤1000000000000) (hcap:n≤cap) (_hcap2:cap≤maxLen)
  (Ha:Hid (0<n→a=some ⟨b,off,none⟩)) (Hd:Hid (Dig 4294967296 l))
  (Hc:Hid (∀ i,i<n→w.cell? ⟨b,off+i,none⟩=some (.int .u32 (l.getD i 0:Nat)))) :
  Calls Tryz.prog 185 #[.slice a n cap] w fun e w'=>∃ k:Nat,e=.returned (.slice a k cap)∧TrimRel l n w k w'∧(0<k→l.getD (k-1) 0≠0):=by
 go_enter Tryz.func185,Tryz.ntmps185
 go_wp2
 go_loopw [0] (fun v wr=>∃ k:Nat,v=.slice a k cap∧TrimRel l n w k wr) (fun v _=>lenOf v)
 case atStart=>exact ⟨n,rfl,Nat.le_refl _,fun i h h'=>by omega,rfl,Below.refl _ _⟩
 case round =>
  obtain ⟨k,rfl,hR⟩:=hrel;have hk:=hR.hk
  rcases Nat.eq_zero_or_pos k with h0 | h0
  ·subst h0;have hd:decide ((0:Int)<0)=false:=by decide
   go_wp2
   go_ret
   exact ⟨0,rfl,⟨hR.hk,hR.zeros,hR.heap,hR.ext⟩,by omega⟩
  ·have hd1:decide ((0:Int)<(k:Int))=true:=decide_eq_true (by omega);obtain ⟨d,hd2⟩:∃ d,d=l.getD (k-1) 0:=⟨_,rfl⟩;have hcell:wr.cell? ⟨b,off+(k-1),none⟩=some (.int .u32 d):=by
    rw [hd2,←Hc.o (k-1) (by omega)];simp [World.cell?,hR.heap]
   have hlt:d<4294967296:=by rw [hd2];exact Hd.o.get (by decide) _
   obtain rfl:=Ha.o (by omega);have Hd2:Hid (d=l.getD (k-1) 0):=hd2;clear hd2 Hc Ha
   go_wp2
   ·have h1:((d:Int)==0)=true:=by assumption
    go_roundw
    case rel =>
     refine ⟨k-1,rfl,by omega,fun i h h' => ?_,hR.heap,hR.ext⟩
     rcases Nat.eq_or_lt_of_le h with h2 | h2
     ·rw [←h2,←Hd2.o];simpa using h1
     ·exact hR.zeros i (by omega) h'
    case measure=>simp [lenOf];omega
   ·have h1:((d:Int)==0)=false:=by assumption
    go_ret
    exact ⟨k,rfl,⟨hR.hk,hR.zeros,hR.heap,hR.ext⟩,fun _=>by rw [←Hd2.o];simpa using h1⟩
theorem cut_c (v:Value) (l:List Nat) (w:World) (h:SlAt 171 .u32 w v l) (hd:Dig 4294967296 l) (hl:l.length≤1000000000000) :
  Calls Tryz.prog 143 #[v] w fun e w'=>∃ a n cap,e=.returned (.slice a n cap)∧NatV w' (.slice a n cap) (dv 4294967296 l)∧Ext w w':=by
 obtain ⟨a,b,off,cap,rfl,h2,h3,h4,h5⟩:=h.open;obtain ⟨n,hn⟩:∃ n,n=l.length:=⟨_,rfl⟩;rw [←hn] at h h2 h4 h5 hl ⊢;have Hh:=hid h;have H4:=hid h4;have H5:=hid h5;have Hn:Hid (n=l.length):=hn;have Hd:=hid hd;clear h h4 h5 hn hd
 go_enter Tryz.func143,Tryz.ntmps143
 go_wp2_with (go_at_call 185;refine (trim_core a b off n cap l _ hl h2 h3 H4 Hd H5).mono ?_;rintro e w1 ⟨k,rfl,hR,hnz⟩)
 go_ret;have hk:=hR.hk;have hn:=Hn.o;refine ⟨a,k,cap,rfl,⟨l.take k,⟨Hd.o.take k,?_⟩,?_,?_⟩,hR.ext⟩
 ·rcases Nat.eq_zero_or_pos k with h0 | h0
  ·left;simp [h0]
  ·right
   have:(l.take k).length=k:=by simp;omega
   rw [this]
   have:=hnz h0
   rw [List.getD_eq_getElem?_getD] at this ⊢;rw [List.getElem?_take,if_pos (by omega)]
   omega
 ·exact dv_take_zeros (by omega) (fun i h1 h2=>hR.zeros i h1 (by omega))
 ·exact (Hh.o.ext hR.ext).short k hk
end Go.Proofs.YtopmjkkjlagfcaaGreatDoor
