/- What all the walks import. -/
import Derived.Test.YtoaoebimjmjpeaaGreatDoorProg
import Derived.WalkKit
import Derived.WalkSpells
import Derived.WalkLawsBesides
import Derived.BigQuiet
import Derived.Deep.QuietTactic
import Derived.Deep.RegionHeld3
import Derived.Laws.Pointers
import Derived.StillTactics
import Derived.Outline
import Derived.Deep.LoopGhost
import Derived.Deep.CutBlock
import Derived.Deep.DeepCutAuto
import Derived.Test.YtoaoebimjmjpeaaGreatDoorT02
import Derived.Deep.DeepCutAuto
namespace Go.Proofs.YtoaoebimjmjpeaaGreatDoor
open Go.RowKit Vn
set_option maxRecDepth 100000
set_option maxHeartbeats 8000000
theorem vint {k:IntKind} {a b:Int} (h:a=b):Value.int k a=Value.int k b:=by rw [h]
def NatV (w:World) (v:Value) (n:Nat):Prop:=∃ l,Norm 4294967296 l∧dv 4294967296 l=n∧SlAt 240 .u32 w v l
theorem NatV.ext {w w':World} {v:Value} {n:Nat} (h:NatV w v n) (hb:Ext w w'):NatV w' v n:=by
 obtain ⟨l,h1,h2,h3⟩:=h;exact ⟨l,h1,h2,h3.ext hb⟩
theorem info32:(Tryz.prog.info? 240).map (fun i=>(i.zero,i.size,i.bytes))=some (some (.int .u32 0),1,4):=by kernel_rfl
theorem mkNat (n:Nat) (x:Int) (hx:x=(n:Int)) (hn:n≤1000000000000) (w:World) :
  (Instr.makeSlice 47 (.int .i64 x) (.int .i64 x)).run Tryz.prog w=.ok (.slice (some ⟨w.heap.size,0,none⟩) n n) (w.alloc (.cells (rowOf .u32 (List.replicate n 0)) 240)):=by
 obtain ⟨i0,hi,hz0,hz1,hz2⟩:=info_parts info32
 exact make_row (P:=Tryz.prog) 47 240 i0 .u32 Tryz.underlying47 hi hz0 hz1 n x hx (by rw [hz2];omega) (by unfold maxLen;omega) w
def lenOf:Value→Nat | .slice _ n _=>n | _=>0
structure TrimRel (l:List Nat) (n:Nat) (w:World) (k:Nat) (wr:World):Prop where
 hk:k≤n
 zeros:∀ i,k≤i→i<n→l.getD i 0=0
 heap:wr.heap=w.heap
 ext:Ext w wr
theorem trim_core (a:Option Addr) (b off n cap:Nat) (l:List Nat) (w:World) (hn:n≤1000000000000) (hcap:n≤cap) (_hcap2:cap≤maxLen)
  (Ha:Hid (0<n→a=some ⟨b,off,none⟩)) (Hd:Hid (Dig 4294967296 l))
  (Hc:Hid (∀ i,i<n→w.cell? ⟨b,off+i,none⟩=some (.int .u32 (l.getD i 0:Nat)))) :
  Calls Tryz.prog 213 #[.slice a n cap] w fun e w'=>∃ k:Nat,e=.returned (.slice a k cap)∧TrimRel l n w k w'∧(0<k→l.getD (k-1) 0≠0):=by
 go_enter Tryz.func213,Tryz.ntmps213
 go_wp2
 go_loopw [0] (fun v wr=>∃ k:Nat,v=.slice a k cap∧TrimRel l n w k wr) (fun v _=>lenOf v)
 case atStart=>exact ⟨n,rfl,Nat.le_refl _,fun i h h'=>by omega,rfl,Below.refl _ _⟩
 case round =>
  obtain ⟨k,rfl,hR⟩:=hrel;have hk:=hR.hk
  rcases Nat.eq_zero_or_pos k with h0 | h0
  ·subst h0;have hd:decide ((0:Int)<0)=false:=by decide
   go_wp2
   go_ret
   exact ⟨0,rfl,⟨hR.hk,hR.zeros,hR.heap,hR.ext⟩,by omega⟩
  ·have hd1:decide ((0:Int)<(k:Int))=true:=decide_eq_true (by omega);obtain ⟨d,hd2⟩:∃ d,d=l.getD (k-1) 0:=⟨_,rfl⟩;have hcell:wr.cell? ⟨b,off+(k-1),none⟩=some (.int .u32 d):=by
    rw [hd2,←Hc.o (k-1) (by omega)];simp [World.cell?,hR.heap]
   have hlt:d<4294967296:=by rw [hd2];exact Hd.o.get (by decide) _
   obtain rfl:=Ha.o (by omega);have Hd2:Hid (d=l.getD (k-1) 0):=hd2;clear hd2 Hc Ha
   go_wp2
   ·have h1:((d:Int)==0)=true:=by assumption
    go_roundw
    case rel =>
     refine ⟨k-1,rfl,by omega,fun i h h' => ?_,hR.heap,hR.ext⟩
     rcases Nat.eq_or_lt_of_le h with h2 | h2
     ·rw [←h2,←Hd2.o];simpa using h1
     ·exact hR.zeros i (by omega) h'
    case measure=>simp [lenOf];omega
   ·have h1:((d:Int)==0)=false:=by assumption
    go_ret
    exact ⟨k,rfl,⟨hR.hk,hR.zeros,hR.heap,hR.ext⟩,fun _=>by rw [←Hd2.o];simpa using h1⟩
theorem cut_c (v:Value) (l:List Nat) (w:World) (h:SlAt 240 .u32 w v l) (hd:Dig 4294967296 l) (hl:l.length≤1000000000000) :
  Calls Tryz.prog 125 #[v] w fun e w'=>∃ a n cap,e=.returned (.slice a n cap)∧NatV w' (.slice a n cap) (dv 4294967296 l)∧Ext w w':=by
 obtain ⟨a,b,off,cap,rfl,h2,h3,h4,h5⟩:=h.open;obtain ⟨n,hn⟩:∃ n,n=l.length:=⟨_,rfl⟩;rw [←hn] at h h2 h4 h5 hl ⊢;have Hh:=hid h;have H4:=hid h4;have H5:=hid h5;have Hn:Hid (n=l.length):=hn;have Hd:=hid hd;clear h h4 h5 hn hd
 go_enter Tryz.func125,Tryz.ntmps125
 go_wp2_with (go_at_call 213;refine (trim_core a b off n cap l _ hl h2 h3 H4 Hd H5).mono ?_;rintro e w1 ⟨k,rfl,hR,hnz⟩)
 go_ret;have hk:=hR.hk;have hn:=Hn.o;refine ⟨a,k,cap,rfl,⟨l.take k,⟨Hd.o.take k,?_⟩,?_,?_⟩,hR.ext⟩
 ·rcases Nat.eq_zero_or_pos k with h0 | h0
  ·left;simp [h0]
  ·right
   have:(l.take k).length=k:=by simp;omega
   rw [this]
   have:=hnz h0
   rw [List.getD_eq_getElem?_getD] at this ⊢;rw [List.getElem?_take,if_pos (by omega)]
   omega
 ·exact dv_take_zeros (by omega) (fun i h1 h2=>hR.zeros i h1 (by omega))
 ·exact (Hh.o.ext hR.ext).short k hk
structure Own (w wr:World) (b:Nat) (o:List Nat) (n:Nat):Prop where
 row:wr.heap[b]?=some (.cells (rowOf .u32 o) 240 (0,0))
 len:o.length=n
 dig:Dig 4294967296 o
 ext:Ext w wr
theorem Own.cell {w wr:World} {b n:Nat} {o:List Nat} (h:Own w wr b o n) {k:Nat} (hk:k<n):wr.cell? ⟨b,k,none⟩=some (.int .u32 (o.getD k 0:Nat)) :=
 row_cell h.row k (by rw [h.len];exact hk)
theorem Own.free {w wr:World} {b n:Nat} {o:List Nat} (h:Own w wr b o n) (k:Nat):wr.frozen? ⟨b,k,none⟩=false:=row_free h.row k
theorem Own.set {w wr:World} {b n:Nat} {o:List Nat} (h:Own w wr b o n) (hb:w.heap.size≤b) (k x:Nat) (e:Int) (he:e=(x:Int)) (hx:x<4294967296) :
  Own w (wr.setCell ⟨b,k,none⟩ (.int .u32 e)) b (o.set k x) n:=by
 subst he
 exact ⟨row_set h.row k x,by rw [List.length_set];exact h.len,h.dig.set hx k,h.ext.setCell (p:=⟨b,k,none⟩) hb _⟩
theorem Own.init (w:World) (n:Nat):Own w (w.alloc (.cells (rowOf .u32 (List.replicate n 0)) 240)) w.heap.size (List.replicate n 0) n :=
 ⟨heap_alloc_new w _,by simp,Dig.replicate (by decide) n,(Below.refl _ w).alloc (Nat.le_refl _) _⟩
theorem Own.slat {w wr:World} {b n:Nat} {o:List Nat} (h:Own w wr b o n) (hn:n≤maxLen):SlAt 240 .u32 wr (.slice (some ⟨b,0,none⟩) n n) o:=by
 have:=SlAt.row h.row n n (by rw [h.len];exact Nat.le_refl _) (Nat.le_refl _) hn
 rwa [List.take_of_length_le (by rw [h.len];exact Nat.le_refl _)] at this
theorem Own.drew {w wr:World} {b n:Nat} {o:List Nat} (h:Own w wr b o n):Own w wr.drew b o n:=⟨h.row,h.len,h.dig,h.ext.drew⟩
theorem NatV.zero (w:World):NatV w (.slice none 0 0) 0:=⟨[],Norm.nil,rfl,SlAt.nil _ _ _⟩
abbrev Cells (w:World) (b off n:Nat) (l:List Nat):Prop:=Hid (∀ i,i<n→w.cell? ⟨b,off+i,none⟩=some (.int .u32 (l.getD i 0:Nat)))
structure AddRel (x y:List Nat) (n:Nat) (w:World) (k q:Nat) (o:List Nat) (wr:World):Prop where
 hk:k≤n
 hq:q≤1
 zero:Zero o k
 val:dv 4294967296 o+4294967296^k*q=dv 4294967296 (x.take k)+dv 4294967296 (y.take k)
 own:Own w wr w.heap.size o (n+1)
theorem AddRel.step {x y:List Nat} {n:Nat} {w:World} {k q:Nat} {o:List Nat} {wr:World} (h:AddRel x y n w k q o wr) (hk:k<n) {d f:Nat}
  (hd:d=x.getD k 0) (hf:f=y.getD k 0) (hd':d<4294967296) (hf':f<4294967296) (e:Int) (he:e=(((q+d+f)%4294967296:Nat):Int)) :
  AddRel x y n w (k+1) ((q+d+f)/4294967296) (o.set k ((q+d+f)%4294967296)) (wr.setCell ⟨w.heap.size,k,none⟩ (.int .u32 e)):=by
 have hq:=h.hq;have hl:k<o.length:=by rw [h.own.len];omega
 refine ⟨by omega,by omega,h.zero.set _ hl,?_,h.own.set (Nat.le_refl _) k _ e he (by omega)⟩;rw [dv_set_zero _ h.zero _ hl,dv_take_succ',dv_take_succ',←hd,←hf]
 exact add_step h.val (by omega)
theorem add_core (aa ab:Option Addr) (ba oa ca bb ob cb:Nat) (x y:List Nat) (n m:Nat) (w:World) (Hn:Hid (x.length=n)) (Hm:Hid (y.length=m)) (hxy:m≤n) (hn:n≤100000000000)
  (Hax:Hid (0<n→aa=some ⟨ba,oa,none⟩)) (Hay:Hid (0<m→ab=some ⟨bb,ob,none⟩))
  (Hx:Hid (Dig 4294967296 x)) (Hy:Hid (Dig 4294967296 y)) (Hcx:Cells w ba oa n x) (Hcy:Cells w bb ob m y) :
  Calls Tryz.prog 115 #[.slice aa n ca,.slice ab m cb] w fun e w'=>∃ a k cap,e=.returned (.slice a k cap)∧NatV w' (.slice a k cap) (dv 4294967296 x+dv 4294967296 y)∧Ext w w':=by
 have hmk:=mkNat (n+1) ((n:Int)+1) (by omega) (by omega);have hge:decide ((n:Int)<(m:Int))=false:=decide_eq_false (by omega)
 go_enter Tryz.func115,Tryz.ntmps115
 go_wp2
 go_loopw [6,22] (fun c i wr=>∃ (k q:Nat) (o:List Nat),i=.int .i64 k∧c=.int .u64 q∧AddRel x y n w k q o wr) (fun _ i _=>n-(intOf i).toNat)
 case atStart=>exact ⟨0,0,_,rfl,rfl,Nat.zero_le _,Nat.zero_le _,Zero.replicate _ _,by simp [dv_replicate,dv],Own.init w _⟩
 case round =>
  obtain ⟨k,q,o,rfl,rfl,HR⟩:=hrel;have hk:=HR.hk;have hq:=HR.hq
  rcases Nat.lt_or_ge k n with hkn | hkn
  ·obtain ⟨d,hd2⟩:∃ d,d=x.getD k 0:=⟨_,rfl⟩;have hcell:wr.cell? ⟨ba,oa+k,none⟩=some (.int .u32 d):=by rw [hd2];exact HR.own.ext.cell (Hcx.o k hkn)
   have hlt:d<4294967296:=by rw [hd2];exact Hx.o.get (by decide) _
   obtain rfl:=Hax.o (by omega);have hout:=HR.own.cell (k:=k) (by omega);rw [HR.zero k (Nat.le_refl _)] at hout;have hfr:=HR.own.free k;have Hd2:Hid (d=x.getD k 0):=hd2;clear hd2
   rcases Nat.lt_or_ge k m with hkm | hkm
   ·obtain ⟨f,hf2⟩:∃ f,f=y.getD k 0:=⟨_,rfl⟩;have hcelf:wr.cell? ⟨bb,ob+k,none⟩=some (.int .u32 f):=by rw [hf2];exact HR.own.ext.cell (Hcy.o k hkm)
    have hltf:f<4294967296:=by rw [hf2];exact Hy.o.get (by decide) _
    obtain rfl:=Hay.o (by omega);have Hf2:Hid (f=y.getD k 0):=hf2;clear hf2
    go_wp2
    go_roundw
    case rel=>exact ⟨k+1,_,_,by go_num,vint (by omega),HR.step hkn Hd2.o Hf2.o hlt hltf _ (by omega)⟩
    case measure=>simp [intOf];omega
   ·go_wp2
    go_roundw
    case rel=>exact ⟨k+1,_,_,by go_num,vint (by omega),HR.step hkn Hd2.o (f:=0) (by rw [getD_ge (by rw [Hm.o];exact hkm)]) hlt (by decide) _ (by omega)⟩
    case measure=>simp [intOf];omega
  ·obtain rfl:k=n:=by omega
   have hout:=HR.own.cell (k:=k) (by omega);rw [HR.zero k (Nat.le_refl _)] at hout;have hfr:=HR.own.free k;have HO:=HR.own.set (Nat.le_refl _) k q (q:Int) rfl (by omega)
   go_wp2_with (go_at_call 125;refine (cut_c _ _ _ (HO.slat (by unfold maxLen;omega)) HO.dig (by rw [HO.len];omega)).mono ?_;rintro e w1 ⟨a1,n1,c1,rfl,h1,hb1⟩)
   go_ret;have hv:=HR.val;have hl:k<o.length:=by rw [HR.own.len];omega
   rw [dv_set_zero _ HR.zero _ hl,Nat.mul_comm q,hv,List.take_of_length_le (by rw [Hn.o];exact Nat.le_refl _),List.take_of_length_le (by rw [Hm.o];exact hxy)] at h1
   exact ⟨a1,n1,c1,rfl,h1,HO.ext.trans hb1⟩
theorem add_core' (aa ab:Option Addr) (ba oa ca bb ob cb:Nat) (x y:List Nat) (n m:Nat) (w:World) (Hn:Hid (x.length=n)) (Hm:Hid (y.length=m)) (hxy:n<m) (hn:m≤100000000000)
  (Hax:Hid (0<n→aa=some ⟨ba,oa,none⟩)) (Hay:Hid (0<m→ab=some ⟨bb,ob,none⟩))
  (Hx:Hid (Dig 4294967296 x)) (Hy:Hid (Dig 4294967296 y)) (Hcx:Cells w ba oa n x) (Hcy:Cells w bb ob m y) :
  Calls Tryz.prog 115 #[.slice aa n ca,.slice ab m cb] w fun e w'=>∃ a k cap,e=.returned (.slice a k cap)∧NatV w' (.slice a k cap) (dv 4294967296 x+dv 4294967296 y)∧Ext w w':=by
 have hmk:=mkNat (m+1) ((m:Int)+1) (by omega) (by omega);have hge:decide ((n:Int)<(m:Int))=true:=decide_eq_true (by omega)
 go_enter Tryz.func115,Tryz.ntmps115
 go_wp2
 go_loopw [6,22] (fun c i wr=>∃ (k q:Nat) (o:List Nat),i=.int .i64 k∧c=.int .u64 q∧AddRel y x m w k q o wr) (fun _ i _=>m-(intOf i).toNat)
 case atStart=>exact ⟨0,0,_,rfl,rfl,Nat.zero_le _,Nat.zero_le _,Zero.replicate _ _,by simp [dv_replicate,dv],Own.init w _⟩
 case round =>
  obtain ⟨k,q,o,rfl,rfl,HR⟩:=hrel;have hk:=HR.hk;have hq:=HR.hq
  rcases Nat.lt_or_ge k m with hkn | hkn
  ·obtain ⟨d,hd2⟩:∃ d,d=y.getD k 0:=⟨_,rfl⟩;have hcell:wr.cell? ⟨bb,ob+k,none⟩=some (.int .u32 d):=by rw [hd2];exact HR.own.ext.cell (Hcy.o k hkn)
   have hlt:d<4294967296:=by rw [hd2];exact Hy.o.get (by decide) _
   obtain rfl:=Hay.o (by omega);have hout:=HR.own.cell (k:=k) (by omega);rw [HR.zero k (Nat.le_refl _)] at hout;have hfr:=HR.own.free k;have Hd2:Hid (d=y.getD k 0):=hd2;clear hd2
   rcases Nat.lt_or_ge k n with hkm | hkm
   ·obtain ⟨f,hf2⟩:∃ f,f=x.getD k 0:=⟨_,rfl⟩;have hcelf:wr.cell? ⟨ba,oa+k,none⟩=some (.int .u32 f):=by rw [hf2];exact HR.own.ext.cell (Hcx.o k hkm)
    have hltf:f<4294967296:=by rw [hf2];exact Hx.o.get (by decide) _
    obtain rfl:=Hax.o (by omega);have Hf2:Hid (f=x.getD k 0):=hf2;clear hf2
    go_wp2
    go_roundw
    case rel=>exact ⟨k+1,_,_,by go_num,vint (by omega),HR.step hkn Hd2.o Hf2.o hlt hltf _ (by omega)⟩
    case measure=>simp [intOf];omega
   ·go_wp2
    go_roundw
    case rel=>exact ⟨k+1,_,_,by go_num,vint (by omega),HR.step hkn Hd2.o (f:=0) (by rw [getD_ge (by rw [Hn.o];exact hkm)]) hlt (by decide) _ (by omega)⟩
    case measure=>simp [intOf];omega
  ·obtain rfl:k=m:=by omega
   have hout:=HR.own.cell (k:=k) (by omega);rw [HR.zero k (Nat.le_refl _)] at hout;have hfr:=HR.own.free k;have HO:=HR.own.set (Nat.le_refl _) k q (q:Int) rfl (by omega)
   go_wp2_with (go_at_call 125;refine (cut_c _ _ _ (HO.slat (by unfold maxLen;omega)) HO.dig (by rw [HO.len];omega)).mono ?_;rintro e w1 ⟨a1,n1,c1,rfl,h1,hb1⟩)
   go_ret;have hv:=HR.val;have hl:k<o.length:=by rw [HR.own.len];omega
   rw [dv_set_zero _ HR.zero _ hl,Nat.mul_comm q,hv,List.take_of_length_le (by rw [Hm.o];exact Nat.le_refl _),List.take_of_length_le (by rw [Hn.o];exact Nat.le_of_lt hxy)] at h1;rw [Nat.add_comm] at h1
   exact ⟨a1,n1,c1,rfl,h1,HO.ext.trans hb1⟩
theorem len_le {l:List Nat} {K:Nat} (h:Norm 4294967296 l) (hK:dv 4294967296 l<2^(32*K)):l.length≤K:=by
 refine h.len_le (by decide) ?_
 have:(4294967296:Nat)^K=2^(32*K):=by rw [Nat.pow_mul]
 rw [this];exact hK
theorem NatV.open {w:World} {v:Value} {N:Nat} (h:NatV w v N):∃ (a:Option Addr) (b off n cap:Nat) (l:List Nat),v=.slice a n cap∧n≤cap∧cap≤maxLen∧Hid (l.length=n) ∧
  Hid (0<n→a=some ⟨b,off,none⟩)∧Hid (Norm 4294967296 l)∧Hid (dv 4294967296 l=N)∧Cells w b off n l∧Hid (SlAt 240 .u32 w v l):=by
 obtain ⟨l,h1,h2,h3⟩:=h;obtain ⟨a,b,off,cap,h4,h5,h6,h7,h8⟩:=h3.open
 exact ⟨a,b,off,l.length,cap,l,h4,h5,h6,hid rfl,hid h7,hid h1,hid h2,hid h8,hid h3⟩
def Sm (K n:Nat):Prop:=n<2^K
theorem Sm.mono {K L n:Nat} (h:Sm K n) (hl:K≤L):Sm L n:=Nat.lt_of_lt_of_le h (Nat.pow_le_pow_right (by decide) hl)
theorem Sm.len {l:List Nat} {K n:Nat} (h:Sm K n) (hl:Norm 4294967296 l) (hv:dv 4294967296 l=n):l.length≤K:=by
 refine len_le hl ?_;rw [hv]
 exact Nat.lt_of_lt_of_le h (Nat.pow_le_pow_right (by decide) (by omega))
theorem add_c (x y:Value) (M N K:Nat) (w:World) (hx:NatV w x M) (hy:NatV w y N) (sx:Sm K M) (sy:Sm K N) (hK:K≤100000000) :
  Calls Tryz.prog 115 #[x,y] w fun e w'=>∃ a k cap,e=.returned (.slice a k cap)∧NatV w' (.slice a k cap) (M+N)∧Ext w w':=by
 obtain ⟨a,b,off,n,cap,l,rfl,h1,h2,h3,h4,h5,h6,h7,h8⟩:=hx.open;obtain ⟨a',b',off',n',cap',l',rfl,h1',h2',h3',h4',h5',h6',h7',h8'⟩:=hy.open;have e1:=sx.len h5.o h6.o;have e2:=sy.len h5'.out h6'.out;rw [h3.o] at e1;rw [h3'.out] at e2
 rcases Nat.lt_or_ge n n' with hlt | hge
 ·have:=add_core' a a' b off cap b' off' cap' l l' n n' w h3 h3' hlt (by omega) h4 h4' (hid h5.o.dig) (hid h5'.out.dig) h7 h7'
  rw [h6.o,h6'.out] at this
  exact this
 ·have:=add_core a a' b off cap b' off' cap' l l' n n' w h3 h3' hge (by omega) h4 h4' (hid h5.o.dig) (hid h5'.out.dig) h7 h7'
  rw [h6.o,h6'.out] at this
  exact this
theorem of_c (e:Int) (w:World) (h0:0≤e) (h1:e<18446744073709551616) :
  Calls Tryz.prog 117 #[.int .u64 e] w fun r w'=>∃ a k cap,r=.returned (.slice a k cap)∧NatV w' (.slice a k cap) e.toNat∧Ext w w':=by
 obtain ⟨n,rfl⟩:=Int.eq_ofNat_of_zero_le h0;have hn:n<18446744073709551616:=by omega
 rw [Int.toNat_natCast]
 go_enter Tryz.func117,Tryz.ntmps117
 have hs:SlAt 240 .u32 (w.alloc (.cells #[.int .u32 ((n:Int)%4294967296),.int .u32 ((n:Int)/4294967296)] 240)) (.slice (some ⟨w.heap.size,0,none⟩) 2 2) [n%4294967296,n/4294967296] :=
  SlAt.row (l:=[n%4294967296,n/4294967296]) (fr:=(0,0)) (heap_alloc_new w _) 2 2 (Nat.le_refl _) (Nat.le_refl _) (by unfold maxLen;omega)
 have hd:Dig 4294967296 [n%4294967296,n/4294967296]:=Dig.mk (by omega) (Dig.mk (by omega) Dig.nil);have hb:Ext w (w.alloc (.cells #[.int .u32 ((n:Int)%4294967296),.int .u32 ((n:Int)/4294967296)] 240)):=(Below.refl _ _).alloc (Nat.le_refl _) _
 go_wp2_with (go_at_call 125;refine (cut_c _ _ _ hs hd (by simp)).mono ?_;rintro e w1 ⟨a1,n1,c1,rfl,h1,hb1⟩)
 go_ret;have e1:dv 4294967296 [n%4294967296,n/4294967296]=n:=by simp [dv];omega
 rw [e1] at h1
 exact ⟨a1,n1,c1,rfl,h1,hb.trans hb1⟩
theorem w64 (z:Int):IntKind.u64.wrap z=z%18446744073709551616:=by
 rw [IntKind.wrap_u64]
structure SubRel (x y:List Nat) (n:Nat) (w:World) (k q:Nat) (o:List Nat) (wr:World):Prop where
 hk:k≤n
 hq:q≤1
 zero:Zero o k
 val:dv 4294967296 o+dv 4294967296 (y.take k)=dv 4294967296 (x.take k)+4294967296^k*q
 own:Own w wr w.heap.size o n
theorem SubRel.step {x y:List Nat} {n:Nat} {w:World} {k q:Nat} {o:List Nat} {wr:World} (h:SubRel x y n w k q o wr) (hk:k<n) {d f:Nat}
  (hd:d=x.getD k 0) (hf:f=y.getD k 0) (hd':d<4294967296) (hf':f<4294967296) (t:Int) (ht:t=((d:Int)-q-f)%18446744073709551616) :
  SubRel x y n w (k+1) (t/9223372036854775808).toNat (o.set k (t%4294967296).toNat) (wr.setCell ⟨w.heap.size,k,none⟩ (.int .u32 (t%4294967296))):=by
 have hq:=h.hq;have hl:k<o.length:=by rw [h.own.len];omega
 refine ⟨by omega,by omega,h.zero.set _ hl,?_,h.own.set (Nat.le_refl _) k _ _ (by omega) (by omega)⟩;rw [dv_set_zero _ h.zero _ hl,dv_take_succ',dv_take_succ',←hd,←hf]
 exact dif_step h.val (by omega)
theorem sub_core (aa ab:Option Addr) (ba oa ca bb ob cb:Nat) (x y:List Nat) (n m:Nat) (w:World) (Hn:Hid (x.length=n)) (Hm:Hid (y.length=m)) (hxy:m≤n) (hn:n≤100000000000)
  (Hax:Hid (0<n→aa=some ⟨ba,oa,none⟩)) (Hay:Hid (0<m→ab=some ⟨bb,ob,none⟩))
  (Hx:Hid (Dig 4294967296 x)) (Hy:Hid (Dig 4294967296 y)) (Hv:Hid (dv 4294967296 y≤dv 4294967296 x)) (Hcx:Cells w ba oa n x) (Hcy:Cells w bb ob m y) :
  Calls Tryz.prog 116 #[.slice aa n ca,.slice ab m cb] w fun e w'=>∃ a k cap,e=.returned (.slice a k cap)∧NatV w' (.slice a k cap) (dv 4294967296 x-dv 4294967296 y)∧Ext w w':=by
 have hmk:=mkNat n (n:Int) (by omega) (by omega)
 go_enter Tryz.func116,Tryz.ntmps116
 go_wp2
 go_loopw [6,15] (fun c i wr=>∃ (k q:Nat) (o:List Nat),i=.int .i64 k∧c=.int .u64 q∧SubRel x y n w k q o wr) (fun _ i _=>n-(intOf i).toNat)
 case atStart=>exact ⟨0,0,_,rfl,rfl,Nat.zero_le _,Nat.zero_le _,Zero.replicate _ _,by simp [dv_replicate,dv],Own.init w _⟩
 case round =>
  obtain ⟨k,q,o,rfl,rfl,HR⟩:=hrel;have hk:=HR.hk;have hq:=HR.hq
  rcases Nat.lt_or_ge k n with hkn | hkn
  ·obtain ⟨d,hd2⟩:∃ d,d=x.getD k 0:=⟨_,rfl⟩;have hcell:wr.cell? ⟨ba,oa+k,none⟩=some (.int .u32 d):=by rw [hd2];exact HR.own.ext.cell (Hcx.o k hkn)
   have hlt:d<4294967296:=by rw [hd2];exact Hx.o.get (by decide) _
   obtain rfl:=Hax.o (by omega);have hout:=HR.own.cell (k:=k) (by omega);rw [HR.zero k (Nat.le_refl _)] at hout;have hfr:=HR.own.free k;have Hd2:Hid (d=x.getD k 0):=hd2;clear hd2
   rcases Nat.lt_or_ge k m with hkm | hkm
   ·obtain ⟨f,hf2⟩:∃ f,f=y.getD k 0:=⟨_,rfl⟩;have hcelf:wr.cell? ⟨bb,ob+k,none⟩=some (.int .u32 f):=by rw [hf2];exact HR.own.ext.cell (Hcy.o k hkm)
    have hltf:f<4294967296:=by rw [hf2];exact Hy.o.get (by decide) _
    obtain rfl:=Hay.o (by omega);have Hf2:Hid (f=y.getD k 0):=hf2;clear hf2
    go_wp2
    go_roundw
    case rel=>exact ⟨k+1,_,_,by go_num,vint (by rw [w64,w64];omega),HR.step hkn Hd2.o Hf2.o hlt hltf _ (by rw [w64,w64];omega)⟩
    case measure=>simp [intOf];omega
   ·go_wp2
    go_roundw
    case rel=>exact ⟨k+1,_,_,by go_num,vint (by rw [w64];omega),HR.step hkn Hd2.o (f:=0) (by rw [getD_ge (by rw [Hm.o];exact hkm)]) hlt (by decide) _ (by rw [w64];omega)⟩
    case measure=>simp [intOf];omega
  ·obtain rfl:k=n:=by omega
   have HO:=HR.own
   go_wp2_with (go_at_call 125;refine (cut_c _ _ _ (HO.slat (by unfold maxLen;omega)) HO.dig (by rw [HO.len];omega)).mono ?_;rintro e w1 ⟨a1,n1,c1,rfl,h1,hb1⟩)
   go_ret;have hv:=HR.val;rw [List.take_of_length_le (by rw [Hm.o];exact hxy),List.take_of_length_le (by rw [Hn.o];exact Nat.le_refl _)] at hv;have hlt:=Vn.dv_lt (by decide) HO.dig;rw [HO.len] at hlt;have hle:=Hv.o;have e1:dv 4294967296 o=dv 4294967296 x-dv 4294967296 y:=by
    rcases (show q=0∨q=1 from by omega) with rfl | rfl
    ·omega
    ·omega
   rw [e1] at h1
   exact ⟨a1,n1,c1,rfl,h1,HO.ext.trans hb1⟩
theorem norm_len {l m:List Nat} (hl:Norm 4294967296 l) (hm:Norm 4294967296 m) (h:dv 4294967296 l≤dv 4294967296 m):l.length≤m.length:=by
 rcases Nat.lt_or_ge m.length l.length with hlt | hge
 ·have:=Norm.lt_of_len (by decide) hm.dig hl hlt;omega
 ·exact hge
theorem sub_c (x y:Value) (M N K:Nat) (w:World) (hx:NatV w x M) (hy:NatV w y N) (sx:Sm K M) (hK:K≤100000000) (hle:N≤M) :
  Calls Tryz.prog 116 #[x,y] w fun e w'=>∃ a k cap,e=.returned (.slice a k cap)∧NatV w' (.slice a k cap) (M-N)∧Ext w w':=by
 obtain ⟨a,b,off,n,cap,l,rfl,h1,h2,h3,h4,h5,h6,h7,h8⟩:=hx.open;obtain ⟨a',b',off',n',cap',l',rfl,h1',h2',h3',h4',h5',h6',h7',h8'⟩:=hy.open;have e1:=sx.len h5.o h6.o;have e2:l'.length≤l.length:=norm_len h5'.out h5.o (by rw [h6.o,h6'.out];exact hle);rw [h3.o] at e1 e2;rw [h3'.out] at e2
 have:=sub_core a a' b off cap b' off' cap' l l' n n' w h3 h3' e2 (by omega) h4 h4' (hid h5.o.dig) (hid h5'.out.dig) (hid (by rw [h6.o,h6'.out];exact hle)) h7 h7'
 rw [h6.o,h6'.out] at this
 exact this
structure MulRel (x y:List Nat) (n m:Nat) (w:World) (k:Nat) (o:List Nat) (wr:World):Prop where
 hk:k≤n
 zero:Zero o (k+m)
 val:dv 4294967296 o=dv 4294967296 (x.take k)*dv 4294967296 y
 own:Own w wr w.heap.size o (n+m)
structure MulIn (x y:List Nat) (n m:Nat) (w:World) (k d:Nat) (j c:Nat) (o:List Nat) (wr:World):Prop where
 hj:j≤m
 hc:c<4294967296
 zero:Zero o (k+m)
 val:dv 4294967296 o+c*4294967296^(k+j)=dv 4294967296 (x.take k)*dv 4294967296 y+d*dv 4294967296 (y.take j)*4294967296^k
 own:Own w wr w.heap.size o (n+m)
theorem mulBound {c d f o:Nat} (hc:c<4294967296) (hd:d<4294967296) (hf:f<4294967296) (ho:o<4294967296):c+d*f+o<18446744073709551616:=by
 have:d*f≤4294967295*4294967295:=Nat.mul_le_mul (by omega) (by omega)
 omega
theorem MulIn.step {x y:List Nat} {n m:Nat} {w:World} {k d j c:Nat} {o:List Nat} {wr:World} (h:MulIn x y n m w k d j c o wr) (hk:k<n) (hj:j<m) (hd:d<4294967296) {f:Nat}
  (hf:f=y.getD j 0) (hf':f<4294967296) (e:Int) (he:e=(((c+d*f+o.getD (k+j) 0)%4294967296:Nat):Int)) :
  MulIn x y n m w k d (j+1) ((c+d*f+o.getD (k+j) 0)/4294967296) (o.set (k+j) ((c+d*f+o.getD (k+j) 0)%4294967296)) (wr.setCell ⟨w.heap.size,k+j,none⟩ (.int .u32 e)):=by
 have hl:k+j<o.length:=by rw [h.own.len];omega
 have ho:o.getD (k+j) 0<4294967296:=h.own.dig.get (by decide) _;have hb:=mulBound h.hc hd hf' ho;refine ⟨by omega,by omega,?_,?_,h.own.set (Nat.le_refl _) _ _ e he (by omega)⟩
 ·intro i hi
  rw [getD_set _ _ _ _ hl,if_neg (by omega)]
  exact h.zero i hi
 ·rw [dv_take_succ',←hf]
  exact mul_step h.val (Nat.mod_add_div _ _).symm (dv_set _ o _ _ hl)
theorem MulIn.start {x y:List Nat} {n m:Nat} {w:World} {k:Nat} {o:List Nat} {wr:World} (h:MulRel x y n m w k o wr) (d:Nat):MulIn x y n m w k d 0 0 o wr :=
 ⟨Nat.zero_le _,by decide,h.zero,by simp [h.val,dv],h.own⟩
theorem MulIn.finish {x y:List Nat} {n m:Nat} {w:World} {k d c:Nat} {o:List Nat} {wr:World} (h:MulIn x y n m w k d m c o wr) (hk:k<n) (hd:d=x.getD k 0) (hm:y.length=m) (e:Int) (he:e=(c:Int)) :
  MulRel x y n m w (k+1) (o.set (k+m) c) (wr.setCell ⟨w.heap.size,k+m,none⟩ (.int .u32 e)):=by
 have hl:k+m<o.length:=by rw [h.own.len];omega
 refine ⟨by omega,?_,?_,h.own.set (Nat.le_refl _) _ _ e he h.hc⟩
 ·have:=h.zero.set c hl
  rwa [show k+1+m=k+m+1 by omega]
 ·rw [dv_set_zero _ h.zero _ hl,h.val,dv_take_succ',←hd,List.take_of_length_le (Nat.le_of_eq hm)]
  grind
theorem mul_core (aa ab:Option Addr) (ba oa ca bb ob cb:Nat) (x y:List Nat) (n m:Nat) (w:World) (Hn:Hid (x.length=n)) (Hm:Hid (y.length=m)) (hn:n≤100000000000) (hm:m≤100000000000)
  (Hax:Hid (0<n→aa=some ⟨ba,oa,none⟩)) (Hay:Hid (0<m→ab=some ⟨bb,ob,none⟩))
  (Hx:Hid (Dig 4294967296 x)) (Hy:Hid (Dig 4294967296 y)) (Hcx:Cells w ba oa n x) (Hcy:Cells w bb ob m y) :
  Calls Tryz.prog 52 #[.slice aa n ca,.slice ab m cb] w fun e w'=>∃ a k cap,e=.returned (.slice a k cap)∧NatV w' (.slice a k cap) (dv 4294967296 x*dv 4294967296 y)∧Ext w w':=by
 have hmk:=mkNat (n+m) ((n:Int)+(m:Int)) (by omega) (by omega)
 go_enter Tryz.func52,Tryz.ntmps52
 go_wp2
 go_loopw [19] (fun i wr=>∃ (k:Nat) (o:List Nat),i=.int .i64 k∧MulRel x y n m w k o wr) (fun i _=>n-(intOf i).toNat)
 case atStart=>exact ⟨0,_,rfl,Nat.zero_le _,Zero.replicate _ _,by simp [dv_replicate,dv],Own.init w _⟩
 case round =>
  obtain ⟨k,o,rfl,HR⟩:=hrel;have hk:=HR.hk
  rcases Nat.lt_or_ge k n with hkn | hkn
  ·obtain ⟨d,hd2⟩:∃ d,d=x.getD k 0:=⟨_,rfl⟩;have hcell:wr.cell? ⟨ba,oa+k,none⟩=some (.int .u32 d):=by rw [hd2];exact HR.own.ext.cell (Hcx.o k hkn)
   have hlt:d<4294967296:=by rw [hd2];exact Hx.o.get (by decide) _
   obtain rfl:=Hax.o (by omega);have Hd2:Hid (d=x.getD k 0):=hd2;clear hd2;obtain ⟨wo,rfl⟩:∃ wo:World,wo=wr:=⟨_,rfl⟩
   go_wp2
   go_loopw [8,26] (fun c j wi=>∃ (q p:Nat) (o':List Nat),j=.int .i64 p∧c=.int .u64 q∧MulIn x y n m w k d p q o' wi) (fun _ j _=>m-(intOf j).toNat)
   case atStart=>exact ⟨0,0,o,rfl,rfl,MulIn.start HR d⟩
   case round =>
    clear HR hcell;obtain ⟨q,p,o',rfl,rfl,HI⟩:=hrel;have hj:=HI.hj;have hc:=HI.hc
    rcases Nat.lt_or_ge p m with hpm | hpm
    ·obtain ⟨f,hf2⟩:∃ f,f=y.getD p 0:=⟨_,rfl⟩;have hcelf:wr.cell? ⟨bb,ob+p,none⟩=some (.int .u32 f):=by rw [hf2];exact HI.own.ext.cell (Hcy.o p hpm)
     have hltf:f<4294967296:=by rw [hf2];exact Hy.o.get (by decide) _
     obtain rfl:=Hay.o (by omega);have Hf2:Hid (f=y.getD p 0):=hf2;clear hf2;obtain ⟨t,ht⟩:∃ t,t=o'.getD (k+p) 0:=⟨_,rfl⟩;have hout:wr.cell? ⟨w.heap.size,k+p,none⟩=some (.int .u32 t):=by rw [ht];exact HI.own.cell (by omega)
     have hto:t<4294967296:=by rw [ht];exact HI.own.dig.get (by decide) _
     have hfr:=HI.own.free (k+p);have Ht:Hid (t=o'.getD (k+p) 0):=ht;clear ht;have hdf:0≤(d:Int)*(f:Int):=Int.mul_nonneg (by omega) (by omega);have hdf2:(d:Int)*(f:Int)≤18446744065119617025:=by
      have:=Nat.mul_le_mul (show d≤4294967295 by omega) (show f≤4294967295 by omega)
      have h2:((d*f:Nat):Int)≤((4294967295*4294967295:Nat):Int):=Int.ofNat_le.2 this
      simpa using h2
     have hcast:((d*f:Nat):Int)=(d:Int)*(f:Int):=Int.natCast_mul _ _;have Hcast:=hid hcast;clear hcast
     go_wp2
     go_roundw
     case rel =>
      refine ⟨_,p+1,_,by go_num,vint ?_,HI.step hkn hpm hlt Hf2.o hltf _ ?_⟩
      ·rw [←Ht.o];have:=Hcast.o;generalize d*f=g at *;generalize (d:Int)*(f:Int)=g' at *;subst this;omega
      ·rw [←Ht.o];have:=Hcast.o;generalize d*f=g at *;generalize (d:Int)*(f:Int)=g' at *;subst this;omega
     case measure=>simp [intOf];omega
    ·obtain rfl:p=m:=by omega
     have hout:=HI.own.cell (k:=k+p) (by omega);rw [HI.zero _ (Nat.le_refl _)] at hout;have hfr:=HI.own.free (k+p)
     go_wp2
     go_roundw
     case rel=>exact ⟨k+1,_,by go_num,MulIn.finish HI hkn Hd2.o Hm.o _ rfl⟩
     case measure=>simp [intOf];omega
  ·obtain rfl:k=n:=by omega
   have HO:=HR.own
   go_wp2_with (go_at_call 125;refine (cut_c _ _ _ (HO.slat (by unfold maxLen;omega)) HO.dig (by rw [HO.len];omega)).mono ?_;rintro e w1 ⟨a1,n1,c1,rfl,h1,hb1⟩)
   go_ret;have hv:=HR.val;rw [List.take_of_length_le (by rw [Hn.o];exact Nat.le_refl _)] at hv;rw [hv] at h1
   exact ⟨a1,n1,c1,rfl,h1,HO.ext.trans hb1⟩
theorem mul_c (x y:Value) (M N K:Nat) (w:World) (hx:NatV w x M) (hy:NatV w y N) (sx:Sm K M) (sy:Sm K N) (hK:K≤100000000) :
  Calls Tryz.prog 52 #[x,y] w fun e w'=>∃ a k cap,e=.returned (.slice a k cap)∧NatV w' (.slice a k cap) (M*N)∧Ext w w':=by
 obtain ⟨a,b,off,n,cap,l,rfl,h1,h2,h3,h4,h5,h6,h7,h8⟩:=hx.open;obtain ⟨a',b',off',n',cap',l',rfl,h1',h2',h3',h4',h5',h6',h7',h8'⟩:=hy.open;have e1:=sx.len h5.o h6.o;have e2:=sy.len h5'.out h6'.out;rw [h3.o] at e1;rw [h3'.out] at e2
 have:=mul_core a a' b off cap b' off' cap' l l' n n' w h3 h3' (by omega) (by omega) h4 h4' (hid h5.o.dig) (hid h5'.out.dig) h7 h7'
 rw [h6.o,h6'.out] at this
 exact this
structure ShlRel (x:List Nat) (n W L:Nat) (w:World) (k:Nat) (o:List Nat) (wr:World):Prop where
 hk:k≤n
 zero:Zero o (k+W+1)
 low:o.getD (k+W) 0<2^L
 val:dv 4294967296 o=dv 4294967296 (x.take k)*2^L*4294967296^W
 own:Own w wr w.heap.size o (n+W+1)
theorem wideI {d L:Nat} (hd:d<4294967296) (hL:L<32):IntKind.u64.wrap ((d:Int)*2^L)=((d*2^L:Nat):Int):=by
 have:=(wide_lt hL hd).1
 rw [w64,show ((d:Int)*2^L)=((d*2^L:Nat):Int) by simp [Int.natCast_mul,Int.natCast_pow]]
 omega
theorem ShlRel.step {x:List Nat} {n W L:Nat} {w:World} {k:Nat} {o:List Nat} {wr:World} (h:ShlRel x n W L w k o wr) (hk:k<n) (hL:L<32) {d t:Nat}
  (hd:d=x.getD k 0) (hd':d<4294967296) (ht:t=o.getD (k+W) 0) :
  ∃ o',ShlRel x n W L w (k+1) o' ((wr.setCell ⟨w.heap.size,k+W,none⟩ (.int .u32 (bits BinOp.or IntKind.u32 (t:Int) (IntKind.u64.wrap ((d:Int)*2^L)%4294967296)))).setCell
   ⟨w.heap.size,k+W+1,none⟩ (.int .u32 (IntKind.u64.wrap ((d:Int)*2^L)/4294967296%4294967296))):=by
 have hl:=h.own.len;have hlow:=h.low;rw [←ht] at hlow;obtain ⟨hw1,hw2⟩:=wide_lt hL hd';obtain ⟨ho1,ho2⟩:=or_low (d:=d) (Nat.le_of_lt hL) hlow;have h2:2^L≤2147483648:=by
  have:2^L≤2^31:=Nat.pow_le_pow_right (by decide) (by omega)
  exact this
 have e1:bits BinOp.or IntKind.u32 (t:Int) (IntKind.u64.wrap ((d:Int)*2^L)%4294967296)=((t+d*2^L%4294967296:Nat):Int):=by
  rw [wideI hd' hL,u32_or _ _ (by omega) (by omega) (by omega) (by omega),←ho1]
  rfl
 have e2:IntKind.u64.wrap ((d:Int)*2^L)/4294967296%4294967296=((d*2^L/4294967296:Nat):Int):=by
  rw [wideI hd' hL];omega
 have O1:=h.own.set (Nat.le_refl _) (k+W) _ _ e1 ho2;have O2:=O1.set (Nat.le_refl _) (k+W+1) _ _ e2 (by omega);have l1:k+W<o.length:=by omega
 have z1:Zero (o.set (k+W) (t+d*2^L%4294967296)) (k+W+1):=by
  intro j hj
  rw [getD_set _ _ _ _ l1,if_neg (by omega)]
  exact h.zero j hj
 have l2:k+W+1<(o.set (k+W) (t+d*2^L%4294967296)).length:=by rw [List.length_set];omega
 refine ⟨_,by omega,?_,?_,?_,O2⟩
 ·have:=z1.set (d*2^L/4294967296) l2
  rwa [show k+1+W+1=k+W+1+1 by omega]
 ·rw [show k+1+W=k+W+1 by omega,getD_set _ _ _ _ l2,if_pos rfl];exact hw2
 ·rw [dv_set_zero _ z1 _ l2,dv_take_succ',←hd];have hs:=dv_set 4294967296 o (k+W) (t+d*2^L%4294967296) l1;rw [←ht] at hs;have e3:(4294967296:Nat)^(k+W+1)=4294967296*(4294967296^k*4294967296^W):=by rw [Nat.pow_succ,Nat.pow_add];exact Nat.mul_comm _ _
  rw [e3];rw [Nat.pow_add] at hs
  exact shl_step h.val (Nat.mod_add_div _ _).symm _ hs
theorem shl_core (aa:Option Addr) (ba oa ca:Nat) (x:List Nat) (n s:Nat) (w:World) (Hn:Hid (x.length=n)) (hn:n≤100000000000) (h0:0<n) (hs:s≤100000000000)
  (Hax:Hid (0<n→aa=some ⟨ba,oa,none⟩))
  (Hx:Hid (Dig 4294967296 x)) (Hcx:Cells w ba oa n x) :
  Calls Tryz.prog 209 #[.slice aa n ca,.int .i64 s] w fun e w'=>∃ a k cap,e=.returned (.slice a k cap)∧NatV w' (.slice a k cap) (dv 4294967296 x*2^s)∧Ext w w':=by
 have hmk:=mkNat (n+s/32+1) ((n:Int)+(s:Int)/32+1) (by omega) (by omega);have hne:((n:Int)==0)=false:=by simp;omega
 go_enter Tryz.func209,Tryz.ntmps209
 go_wp2
 go_loopw [27] (fun i wr=>∃ (k:Nat) (o:List Nat),i=.int .i64 k∧ShlRel x n (s/32) (s%32) w k o wr) (fun i _=>n-(intOf i).toNat)
 case atStart=>exact ⟨0,_,rfl,Nat.zero_le _,Zero.replicate _ _,by rw [Zero.replicate (n+s/32+1) 0 _ (Nat.zero_le _)];exact Nat.pow_pos (by decide),by simp [dv_replicate,dv],Own.init w _⟩
 case round =>
  obtain ⟨k,o,rfl,HR⟩:=hrel;have hk:=HR.hk
  rcases Nat.lt_or_ge k n with hkn | hkn
  ·obtain ⟨d,hd2⟩:∃ d,d=x.getD k 0:=⟨_,rfl⟩;have hcell:wr.cell? ⟨ba,oa+k,none⟩=some (.int .u32 d):=by rw [hd2];exact HR.own.ext.cell (Hcx.o k hkn)
   have hlt:d<4294967296:=by rw [hd2];exact Hx.o.get (by decide) _
   obtain rfl:=Hax.o (by omega);obtain ⟨t,ht⟩:∃ t,t=o.getD (k+s/32) 0:=⟨_,rfl⟩;have hout:wr.cell? ⟨w.heap.size,k+s/32,none⟩=some (.int .u32 t):=by rw [ht];exact HR.own.cell (by omega)
   have hto:t<4294967296:=by rw [ht];exact HR.own.dig.get (by decide) _
   have hfr:=HR.own.free (k+s/32);have hout2:wr.cell? ⟨w.heap.size,k+s/32+1,none⟩=some (.int .u32 (0:Nat)):=by
    have:=HR.own.cell (k:=k+s/32+1) (by omega)
    rwa [HR.zero _ (by omega)] at this
   have hfr2:=HR.own.free (k+s/32+1);have Hd2:Hid (d=x.getD k 0):=hd2;have Ht:Hid (t=o.getD (k+s/32) 0):=ht;clear hd2 ht
   go_wp2
   go_roundw
   case rel =>
    obtain ⟨o',HS⟩:=HR.step hkn (Nat.mod_lt _ (by decide)) Hd2.o hlt Ht.o
    exact ⟨k+1,o',by go_num,HS⟩
   case measure=>simp [intOf];omega
  ·obtain rfl:k=n:=by omega
   have HO:=HR.own
   go_wp2_with (go_at_call 125;refine (cut_c _ _ _ (HO.slat (by unfold maxLen;omega)) HO.dig (by rw [HO.len];omega)).mono ?_;rintro e w1 ⟨a1,n1,c1,rfl,h1,hb1⟩)
   go_ret;have hv:=HR.val;rw [List.take_of_length_le (by rw [Hn.o];exact Nat.le_refl _)] at hv;have e1:(2:Nat)^(s%32)*4294967296^(s/32)=2^s:=by
    have:(4294967296:Nat)^(s/32)=2^(32*(s/32)):=by rw [Nat.pow_mul]
    rw [this,←Nat.pow_add,Nat.mod_add_div]
   rw [hv,Nat.mul_assoc,e1] at h1
   exact ⟨a1,n1,c1,rfl,h1,HO.ext.trans hb1⟩
theorem shl_nil (aa:Option Addr) (ca:Nat) (e:Int) (w:World) :
  Calls Tryz.prog 209 #[.slice aa 0 ca,.int .i64 e] w fun r w'=>r=.returned (.slice none 0 0)∧Ext w w':=by
 go_enter Tryz.func209,Tryz.ntmps209
 go_wp2
 go_ret
 exact ⟨rfl,Below.refl _ _⟩
theorem shl_c (x:Value) (M K:Nat) (e:Int) (w:World) (hx:NatV w x M) (sx:Sm K M) (hK:K≤100000000) (h0:0≤e) (h1:e≤100000000) :
  Calls Tryz.prog 209 #[x,.int .i64 e] w fun r w'=>∃ a k cap,r=.returned (.slice a k cap)∧NatV w' (.slice a k cap) (M*2^e.toNat)∧Ext w w':=by
 obtain ⟨s,rfl⟩:=Int.eq_ofNat_of_zero_le h0;rw [Int.toNat_natCast];obtain ⟨a,b,off,n,cap,l,rfl,h1',h2,h3,h4,h5,h6,h7,h8⟩:=hx.open;have e1:=sx.len h5.o h6.o;rw [h3.o] at e1
 rcases Nat.eq_zero_or_pos n with hz | hz
 ·subst hz;refine (shl_nil a cap s w).mono ?_;rintro r w' ⟨rfl,hb⟩;have hl:l=[]:=List.eq_nil_of_length_eq_zero h3.o;have hM:M=0:=by rw [←h6.o,hl];rfl
  subst hM
  exact ⟨none,0,0,rfl,by rw [Nat.zero_mul];exact NatV.zero _,hb⟩
 ·have:=shl_core a b off cap l n s w h3 (by omega) hz (by omega) h4 (hid h5.o.dig) h7
  rw [h6.o] at this
  exact this
structure ShrRel (x:List Nat) (n W L:Nat) (w:World) (k:Nat) (o:List Nat) (wr:World):Prop where
 hk:k+W≤n
 zero:Zero o k
 val:dv 4294967296 o=(dv 4294967296 (x.drop W)/2^L)%4294967296^k
 own:Own w wr w.heap.size o (n-W)
theorem or_high {d f:Nat} (hd:d<4294967296):d ||| f*4294967296=d+4294967296*f:=by
 have h1:=Nat.two_pow_add_eq_or_of_lt (i:=32) hd f;rw [Nat.or_comm,Nat.mul_comm f];have e:(2:Nat)^32=4294967296:=rfl;rw [e] at h1;rw [←h1,Nat.add_comm]
theorem ShrRel.step {x:List Nat} {n W L:Nat} {w:World} {k:Nat} {o:List Nat} {wr:World} (h:ShrRel x n W L w k o wr) (hk:k+W<n) (hL:L<32) (hx:Dig 4294967296 x) {d f:Nat}
  (hd:d=x.getD (W+k) 0) (hf:f=x.getD (W+k+1) 0) (e:Int) (he:e=(((d+4294967296*f)/2^L:Nat):Int)) :
  ShrRel x n W L w (k+1) (o.set k ((d+4294967296*f)/2^L%4294967296)) (wr.setCell ⟨w.heap.size,k,none⟩ (.int .u32 (e%4294967296))):=by
 have hl:k<o.length:=by rw [h.own.len];omega
 refine ⟨by omega,h.zero.set _ hl,?_,h.own.set (Nat.le_refl _) k _ _ (by rw [he];omega) (Nat.mod_lt _ (by decide))⟩;rw [dv_set_zero _ h.zero _ hl,h.val,dv_shr x hx W L k hL,←hd,←hf]
theorem orI {d f:Nat} (L:Nat) (hd:d<4294967296) (hf:f<4294967296):bits BinOp.or IntKind.u64 (d:Int) ((f:Int)*4294967296)/2^L=(((d+4294967296*f)/2^L:Nat):Int):=by
 rw [u64_or _ _ (by omega) (by omega) (by omega) (by omega)];have e1:((f:Int)*4294967296).toNat=f*4294967296:=by omega
 rw [e1,Int.toNat_natCast,or_high hd,Int.natCast_ediv,Int.natCast_pow]
 rfl
theorem shr_core (aa:Option Addr) (ba oa ca:Nat) (x:List Nat) (n s:Nat) (w:World) (Hn:Hid (x.length=n)) (hn:n≤100000000000) (h0:s/32<n) (hs:s≤100000000000)
  (Hax:Hid (0<n→aa=some ⟨ba,oa,none⟩))
  (Hx:Hid (Dig 4294967296 x)) (Hcx:Cells w ba oa n x) :
  Calls Tryz.prog 283 #[.slice aa n ca,.int .i64 s] w fun e w'=>∃ a k cap,e=.returned (.slice a k cap)∧NatV w' (.slice a k cap) (dv 4294967296 x/2^s)∧Ext w w':=by
 have hmk:=mkNat (n-s/32) ((n:Int)-(s:Int)/32) (by omega) (by omega);obtain rfl:=Hax.o (by omega)
 go_enter Tryz.func283,Tryz.ntmps283
 go_wp2
 go_loopw [26] (fun i wr=>∃ (k:Nat) (o:List Nat),i=.int .i64 k∧ShrRel x n (s/32) (s%32) w k o wr) (fun i _=>n-(intOf i).toNat)
 case atStart=>exact ⟨0,_,rfl,by omega,Zero.replicate _ _,by simp [dv_replicate,Nat.mod_one],Own.init w _⟩
 case round =>
  obtain ⟨k,o,rfl,HR⟩:=hrel;have hk:=HR.hk
  rcases Nat.lt_or_ge (k+s/32) n with hkn | hkn
  ·obtain ⟨d,hd2⟩:∃ d,d=x.getD (s/32+k) 0:=⟨_,rfl⟩;have hcell:wr.cell? ⟨ba,oa+(k+s/32),none⟩=some (.int .u32 d):=by rw [hd2,Nat.add_comm k];exact HR.own.ext.cell (Hcx.o (s/32+k) (by omega))
   have hlt:d<4294967296:=by rw [hd2];exact Hx.o.get (by decide) _
   have hout:=HR.own.cell (k:=k) (by omega);rw [HR.zero k (Nat.le_refl _)] at hout;have hfr:=HR.own.free k;have Hd2:Hid (d=x.getD (s/32+k) 0):=hd2;clear hd2
   rcases Nat.lt_or_ge (k+s/32+1) n with hkm | hkm
   ·obtain ⟨f,hf2⟩:∃ f,f=x.getD (s/32+k+1) 0:=⟨_,rfl⟩;have hcelf:wr.cell? ⟨ba,oa+(k+s/32+1),none⟩=some (.int .u32 f):=by rw [hf2,show k+s/32+1=s/32+k+1 by omega];exact HR.own.ext.cell (Hcx.o (s/32+k+1) (by omega))
    have hltf:f<4294967296:=by rw [hf2];exact Hx.o.get (by decide) _
    have Hf2:Hid (f=x.getD (s/32+k+1) 0):=hf2;clear hf2
    go_wp2
    go_roundw
    case rel=>exact ⟨k+1,_,by go_num,HR.step hkn (Nat.mod_lt _ (by decide)) Hx.o Hd2.o Hf2.o _ (orI (s%32) hlt hltf)⟩
    case measure=>simp [intOf];omega
   ·go_wp2
    go_roundw
    case rel =>
     refine ⟨k+1,_,by go_num,HR.step hkn (Nat.mod_lt _ (by decide)) Hx.o Hd2.o (f:=0) (by rw [getD_ge (by rw [Hn.o];omega)]) _ ?_⟩;rw [Nat.mul_zero,Nat.add_zero,Int.natCast_ediv,Int.natCast_pow];rfl
    case measure=>simp [intOf];omega
  ·have HO:=HR.own
   go_wp2_with (go_at_call 125;refine (cut_c _ _ _ (HO.slat (by unfold maxLen;omega)) HO.dig (by rw [HO.len];omega)).mono ?_;rintro e w1 ⟨a1,n1,c1,rfl,h1,hb1⟩)
   go_ret;have hv:=HR.val;have hxl:=Vn.dv_lt (by decide) Hx.o;have hkk:k=n-s/32:=by omega
   have hb:=dv_take_drop 4294967296 x (s/32) (by have:=Hn.o;omega);have ht:=Vn.dv_lt (by decide) (Hx.o.take (s/32));have htl:(x.take (s/32)).length=s/32:=by simp [Hn.o];omega
   rw [htl] at ht;have hd:=Vn.dv_lt (by decide) (Hx.o.drop (s/32));have hdl:(x.drop (s/32)).length=k:=by simp [Hn.o];omega
   rw [hdl] at hd;have e1:dv 4294967296 x/4294967296^(s/32)=dv 4294967296 (x.drop (s/32)):=by
    rw [hb,Nat.add_mul_div_left _ _ (Nat.pow_pos (by decide)),Nat.div_eq_of_lt ht,Nat.zero_add]
   have e2:(2:Nat)^s=4294967296^(s/32)*2^(s%32):=by
    have:(4294967296:Nat)^(s/32)=2^(32*(s/32)):=by rw [Nat.pow_mul]
    rw [this,←Nat.pow_add,Nat.div_add_mod]
   have e3:dv 4294967296 o=dv 4294967296 x/2^s:=by
    rw [e2,←Nat.div_div_eq_div_mul,e1,hv,Nat.mod_eq_of_lt (Nat.lt_of_le_of_lt (Nat.div_le_self _ _) hd)]
   rw [e3] at h1
   exact ⟨a1,n1,c1,rfl,h1,HO.ext.trans hb1⟩
theorem shr_nil (aa:Option Addr) (ca n s:Nat) (w:World) (hn:n≤100000000000) (hs:s≤100000000000) (h:n≤s/32) :
  Calls Tryz.prog 283 #[.slice aa n ca,.int .i64 s] w fun r w'=>r=.returned (.slice none 0 0)∧Ext w w':=by
 go_enter Tryz.func283,Tryz.ntmps283
 go_wp2
 go_ret
 exact ⟨rfl,Below.refl _ _⟩
theorem shr_c (x:Value) (M K:Nat) (e:Int) (w:World) (hx:NatV w x M) (sx:Sm K M) (hK:K≤100000000) (h0:0≤e) (h1:e≤100000000) :
  Calls Tryz.prog 283 #[x,.int .i64 e] w fun r w'=>∃ a k cap,r=.returned (.slice a k cap)∧NatV w' (.slice a k cap) (M/2^e.toNat)∧Ext w w':=by
 obtain ⟨s,rfl⟩:=Int.eq_ofNat_of_zero_le h0;rw [Int.toNat_natCast];obtain ⟨a,b,off,n,cap,l,rfl,h1',h2,h3,h4,h5,h6,h7,h8⟩:=hx.open;have e1:=sx.len h5.o h6.o;rw [h3.o] at e1
 rcases Nat.lt_or_ge (s/32) n with hz | hz
 ·have:=shr_core a b off cap l n s w h3 (by omega) hz (by omega) h4 (hid h5.o.dig) h7
  rw [h6.o] at this
  exact this
 ·refine (shr_nil a cap n s w (by omega) (by omega) hz).mono ?_;rintro r w' ⟨rfl,hb⟩;have hl:=Vn.dv_lt (by decide) h5.o.dig;rw [h3.o,h6.o] at hl;have hM:M/2^s=0:=by
   apply Nat.div_eq_of_lt
   have e2:(4294967296:Nat)^n≤2^s:=by
    have:(4294967296:Nat)^n=2^(32*n):=by rw [Nat.pow_mul]
    rw [this];exact Nat.pow_le_pow_right (by decide) (by omega)
   omega
  exact ⟨none,0,0,rfl,by rw [hM];exact NatV.zero _,hb⟩
structure SmallRel (x:List Nat) (n b:Nat) (w:World) (k r:Nat) (o:List Nat) (wr:World):Prop where
 hk:k≤n
 hr:r<b
 val:dv 4294967296 (x.drop k)=dv 4294967296 (o.drop k)*b+r
 own:Own w wr w.heap.size o n
theorem orI2 {d f:Nat} (hd:d<4294967296) (hf:f<4294967296):bits BinOp.or IntKind.u64 ((f:Int)*4294967296) (d:Int)=((d+4294967296*f:Nat):Int):=by
 rw [u64_or _ _ (by omega) (by omega) (by omega) (by omega)];have e1:((f:Int)*4294967296).toNat=f*4294967296:=by omega
 rw [e1,Int.toNat_natCast,Nat.or_comm,or_high hd]
theorem drop_set_self (l:List Nat) (k x:Nat) (h:k<l.length):(l.set k x).drop k=x :: l.drop (k+1):=by
 rw [List.drop_eq_getElem_cons (by simpa using h),List.getElem_set_self,List.drop_set_of_lt (by omega)]
theorem SmallRel.step {x:List Nat} {n b:Nat} {w:World} {k r:Nat} {o:List Nat} {wr:World} (h:SmallRel x n b w (k+1) r o wr) (hb:b<4294967296) (hn:x.length=n) {d:Nat}
  (hd:d=x.getD k 0) (hd':d<4294967296) (e:Int) (he:e=(((d+4294967296*r)/b:Nat):Int)) :
  SmallRel x n b w k ((d+4294967296*r)%b) (o.set k ((d+4294967296*r)/b)) (wr.setCell ⟨w.heap.size,k,none⟩ (.int .u32 e)):=by
 have hk:=h.hk;have hr:=h.hr;have hl:k<o.length:=by rw [h.own.len];omega
 have hq:(d+4294967296*r)/b<4294967296:=by
  apply Nat.div_lt_of_lt_mul
  have:4294967296*(r+1)≤4294967296*b:=Nat.mul_le_mul_left _ hr
  rw [Nat.mul_comm b]
  omega
 refine ⟨by omega,Nat.mod_lt _ (by omega),?_,h.own.set (Nat.le_refl _) k _ e he hq⟩;rw [dv_drop _ x k (by omega),←hd,drop_set_self _ _ _ hl,dv_cons,h.val]
 have:=Nat.div_add_mod (d+4294967296*r) b
 generalize (d+4294967296*r)/b=q at *
 generalize (d+4294967296*r)%b=s at *
 generalize dv 4294967296 (o.drop (k+1))=D at *
 grind
theorem small_core (aa:Option Addr) (ba oa ca:Nat) (x:List Nat) (n b:Nat) (w:World) (Hn:Hid (x.length=n)) (hn:n≤100000000000) (hb:b<4294967296) (hb0:0<b)
  (Hax:Hid (0<n→aa=some ⟨ba,oa,none⟩))
  (Hx:Hid (Dig 4294967296 x)) (Hcx:Cells w ba oa n x) :
  Calls Tryz.prog 165 #[.slice aa n ca,.int .u32 b] w fun e w'=>∃ a k cap,e=.returned (.tuple #[.slice a k cap,.int .u32 ((dv 4294967296 x%b:Nat):Int)])∧NatV w' (.slice a k cap) (dv 4294967296 x/b)∧Ext w w':=by
 have hmk:=mkNat n (n:Int) (by omega) (by omega)
 go_enter Tryz.func165,Tryz.ntmps165
 go_wp2
 go_loopw [6,7] (fun r i wr=>∃ (k q:Nat) (o:List Nat),i=.int .i64 ((k:Int)-1)∧r=.int .u64 q∧SmallRel x n b w k q o wr) (fun _ i _=>(intOf i+1).toNat)
 case atStart=>exact ⟨n,0,_,by go_num,rfl,Nat.le_refl _,hb0,by rw [List.drop_eq_nil_of_le (by rw [Hn.o];exact Nat.le_refl _),List.drop_eq_nil_of_le (by simp)];simp [dv],Own.init w _⟩
 case round =>
  obtain ⟨k,q,o,rfl,rfl,HR⟩:=hrel;have hk:=HR.hk;have hq:=HR.hr
  rcases Nat.eq_zero_or_pos k with hk0 | hk0
  ·subst hk0;have HO:=HR.own
   go_wp2_with (go_at_call 125;refine (cut_c _ _ _ (HO.slat (by unfold maxLen;omega)) HO.dig (by rw [HO.len];omega)).mono ?_;rintro e w1 ⟨a1,n1,c1,rfl,h1,hb1⟩)
   go_ret2;have hv:=HR.val;simp only [List.drop_zero] at hv;have e1:dv 4294967296 x/b=dv 4294967296 o:=by rw [hv,Nat.mul_comm,Nat.mul_add_div hb0,Nat.div_eq_of_lt hq,Nat.add_zero]
   have e2:dv 4294967296 x%b=q:=by rw [hv,Nat.mul_comm,Nat.mul_add_mod,Nat.mod_eq_of_lt hq]
   rw [e1,e2]
   exact ⟨a1,n1,c1,rfl,h1,HO.ext.trans hb1⟩
  ·obtain ⟨j,rfl⟩:∃ j,k=j+1:=⟨k-1,by omega⟩;have ej:(((j+1:Nat):Int)-1)=(j:Int):=by omega
   rw [ej];obtain ⟨d,hd2⟩:∃ d,d=x.getD j 0:=⟨_,rfl⟩;have hcell:wr.cell? ⟨ba,oa+j,none⟩=some (.int .u32 d):=by rw [hd2];exact HR.own.ext.cell (Hcx.o j (by omega))
   have hlt:d<4294967296:=by rw [hd2];exact Hx.o.get (by decide) _
   obtain rfl:=Hax.o (by omega);obtain ⟨t,ht⟩:∃ t,t=o.getD j 0:=⟨_,rfl⟩;have hout:wr.cell? ⟨w.heap.size,j,none⟩=some (.int .u32 t):=by rw [ht];exact HR.own.cell (by omega)
   have hfr:=HR.own.free j;have Hd2:Hid (d=x.getD j 0):=hd2;have horI:=orI2 (d:=d) (f:=q) hlt (by omega);have hle:(0:Int)≤((d+4294967296*q:Nat):Int):=by omega
   have hlu:((d+4294967296*q:Nat):Int)<18446744073709551616:=by omega
   obtain ⟨z,hz⟩:∃ z,z=d+4294967296*q:=⟨_,rfl⟩;rw [←hz] at horI hle hlu;have Hz:Hid (z=d+4294967296*q):=hz;have hb1:(1:Int)≤(b:Int):=by omega
   have hzq:z/b<4294967296:=by
    rw [hz]
    apply Nat.div_lt_of_lt_mul
    have:4294967296*(q+1)≤4294967296*b:=Nat.mul_le_mul_left _ hq
    rw [Nat.mul_comm b]
    omega
   clear hd2 ht hz ej
   go_wp2
   go_roundw
   case rel =>
    have ez:=Hz.o;have e1:IntKind.u64.wrap ((z:Int)/(b:Int))%4294967296=((z/b:Nat):Int):=by
     rw [w64,←Int.natCast_ediv];generalize z/b=y at *;omega
    rw [e1,ez];refine ⟨j,_,_,rfl,?_,HR.step hb Hn.o Hd2.o hlt _ rfl⟩;rw [←Int.natCast_emod]
   case measure=>simp [intOf]
theorem small_c (x:Value) (M K b:Nat) (w:World) (hx:NatV w x M) (sx:Sm K M) (hK:K≤100000000) (hb0:0<b) (hb:b<4294967296) :
  Calls Tryz.prog 165 #[x,.int .u32 b] w fun r w'=>∃ a k cap,r=.returned (.tuple #[.slice a k cap,.int .u32 ((M%b:Nat):Int)])∧NatV w' (.slice a k cap) (M/b)∧Ext w w':=by
 obtain ⟨a,c,off,n,cap,l,rfl,h1',h2,h3,h4,h5,h6,h7,h8⟩:=hx.open;have e1:=sx.len h5.o h6.o;rw [h3.o] at e1
 have:=small_core a c off cap l n b w h3 (by omega) hb hb0 h4 (hid h5.o.dig) h7
 rw [h6.o] at this
 exact this
structure TakeRel (u v:List Nat) (lu n j g:Nat) (w:World) (bu:Nat) (ws:World) (k c r:Nat) (o:List Nat) (wr:World):Prop where
 hk:k≤n
 hc:c<4294967296
 hr:r≤1
 same:∀ i,(i<j∨j+k≤i)→o.getD i 0=u.getD i 0
 val:dv 4294967296 o+g*dv 4294967296 (v.take k)*4294967296^j=dv 4294967296 u+(c+r)*4294967296^(j+k)
 own:Own w wr bu o lu
 oth:∀ i,i≠bu→wr.heap[i]?=ws.heap[i]?
theorem take_step {D D' U P gV g x c r lo c' a a' r' B:Nat} (h:D+gV=U+(c+r)*P) (hs:c+g*x=lo+B*c') (ht:a'+lo+r=a+B*r') (hset:D'+a*P=D+a'*P) :
  D'+(gV+g*x*P)=U+(c'+r')*(P*B):=by
 have h2:P*(c+g*x)=P*(lo+B*c'):=by rw [hs]
 have h3:P*(a'+lo+r)=P*(a+B*r'):=by rw [ht]
 grind
theorem TakeRel.step {u v:List Nat} {lu n j g:Nat} {w ws:World} {bu k c r:Nat} {o:List Nat} {wr:World} (h:TakeRel u v lu n j g w bu ws k c r o wr) (hb:w.heap.size≤bu) (hk:k<n) (hl:j+n<lu)
  (hg:g<4294967296) {x a:Nat} (hx:x=v.getD k 0) (hx':x<4294967296) (ha:a=o.getD (j+k) 0) (t:Int)
  (ht:t=((a:Int)-((c+g*x)%4294967296:Nat)-r)%18446744073709551616) :
  TakeRel u v lu n j g w bu ws (k+1) ((c+g*x)/4294967296) (t/9223372036854775808).toNat (o.set (j+k) (t%4294967296).toNat) (wr.setCell ⟨bu,j+k,none⟩ (.int .u32 (t%4294967296))):=by
 have hr:=h.hr;have hl':j+k<o.length:=by rw [h.own.len];omega
 have ha':a<4294967296:=by rw [ha];exact h.own.dig.get (by decide) _
 have hbd:=mulBound h.hc hg hx' (o:=0) (by decide);generalize hlo:(c+g*x)%4294967296=lo at ht;have hlo':lo<4294967296:=by omega
 refine ⟨by omega,by omega,by omega,?_,?_,h.own.set hb _ _ _ (by omega) (by omega),fun i hi=>by rw [Below.heap_setCell _ _ _ _ hi];exact h.oth i hi⟩
 ·intro i hi
  rw [getD_set _ _ _ _ hl',if_neg (by omega)]
  exact h.same i (by omega)
 ·rw [dv_take_succ',←hx];have hset:=dv_set 4294967296 o (j+k) (t%4294967296).toNat hl';rw [←ha] at hset;have e1:g*(dv 4294967296 (v.take k)+x*4294967296^k)*4294967296^j=g*dv 4294967296 (v.take k)*4294967296^j+g*x*4294967296^(j+k):=by
   rw [Nat.pow_add];grind
  rw [e1,show j+(k+1)=j+k+1 by omega,Nat.pow_succ];refine take_step h.val (lo:=lo) (c':=(c+g*x)/4294967296) (by omega) (by omega) hset
theorem take_core (bu lu j cu:Nat) (av:Option Addr) (bv ov cv:Nat) (u v:List Nat) (n g:Nat) (w wr:World) (hb:w.heap.size≤bu) (hlu:lu≤100000000000) (hn:j+n<lu) (hg:g<4294967296)
  (Hn:Hid (v.length=n)) (Hav:Hid (0<n→av=some ⟨bv,ov,none⟩)) (Hv:Hid (Dig 4294967296 v)) (Hcv:Cells w bv ov n v) (HO:Own w wr bu u lu) :
  Calls Tryz.prog 281 #[.slice (some ⟨bu,j,none⟩) (lu-j) cu,.slice av n cv,.int .u64 g] wr fun e w'=>∃ (neg:Bool) (o:List Nat),e=.returned (.bool neg)∧Own w w' bu o lu∧(∀ i,i≠bu→w'.heap[i]?=wr.heap[i]?) ∧
   (∀ i,(i<j∨j+n+1≤i)→o.getD i 0=u.getD i 0)∧dv 4294967296 o+g*dv 4294967296 v*4294967296^j=dv 4294967296 u+(if neg then 1 else 0)*4294967296^(j+n+1):=by
 go_enter Tryz.func281,Tryz.ntmps281
 go_wp2
 go_loopw [7,8,15] (fun c r i wq=>∃ (k q p:Nat) (o:List Nat),i=.int .i64 k∧c=.int .u64 q∧r=.int .u64 p∧TakeRel u v lu n j g w bu wr k q p o wq) (fun _ _ i _=>n-(intOf i).toNat)
 case atStart=>exact ⟨0,0,0,u,rfl,rfl,rfl,Nat.zero_le _,by decide,by decide,fun _ _=>rfl,by simp [dv],HO,fun _ _=>rfl⟩
 case round =>
  obtain ⟨k,q,p,o,rfl,rfl,rfl,HR⟩:=hrel;have hk:=HR.hk;have hq:=HR.hc;have hp:=HR.hr;clear HO
  rcases Nat.lt_or_ge k n with hkn | hkn
  ·obtain ⟨x,hx2⟩:∃ x,x=v.getD k 0:=⟨_,rfl⟩;have hcell:=HR.own.ext.cell (Hcv.o k hkn);rw [←hx2] at hcell;have hlt:x<4294967296:=by rw [hx2];exact Hv.o.get (by decide) _
   obtain rfl:=Hav.o (by omega);obtain ⟨a,ha2⟩:∃ a,a=o.getD (j+k) 0:=⟨_,rfl⟩;have hout:=HR.own.cell (k:=j+k) (by omega);rw [←ha2] at hout;have hla:a<4294967296:=by rw [ha2];exact HR.own.dig.get (by decide) _
   have hfr:=HR.own.free (j+k);have Hx2:Hid (x=v.getD k 0):=hx2;have Ha2:Hid (a=o.getD (j+k) 0):=ha2;clear hx2 ha2;have hgx:0≤(g:Int)*(x:Int):=Int.mul_nonneg (by omega) (by omega);have hgx2:(g:Int)*(x:Int)≤18446744065119617025:=by
    have:=Nat.mul_le_mul (show g≤4294967295 by omega) (show x≤4294967295 by omega)
    have h2:((g*x:Nat):Int)≤((4294967295*4294967295:Nat):Int):=Int.ofNat_le.2 this
    simpa using h2
   have Hcast:Hid (((g*x:Nat):Int)=(g:Int)*(x:Int)):=hid (Int.natCast_mul _ _);have hsz:k<lu-j:=by omega
   go_wp2
   go_roundw
   case rel =>
    have hc:=Hcast.o;refine ⟨k+1,_,_,_,by go_num,vint ?_,vint ?_,HR.step hb hkn hn hg Hx2.o hlt Ha2.o _ ?_⟩
    ·generalize g*x=y at *;generalize (g:Int)*(x:Int)=y' at *;subst hc;omega
    ·rw [w64,w64];generalize g*x=y at *;generalize (g:Int)*(x:Int)=y' at *;subst hc;omega
    ·rw [w64,w64];generalize g*x=y at *;generalize (g:Int)*(x:Int)=y' at *;subst hc;omega
   case measure=>simp [intOf];omega
  ·obtain rfl:k=n:=by omega
   obtain ⟨a,ha2⟩:∃ a,a=o.getD (j+k) 0:=⟨_,rfl⟩;have hout:=HR.own.cell (k:=j+k) (by omega);rw [←ha2] at hout;have hla:a<4294967296:=by rw [ha2];exact HR.own.dig.get (by decide) _
   have hfr:=HR.own.free (j+k);have Ha2:Hid (a=o.getD (j+k) 0):=ha2;clear ha2;have hsz:k<lu-j:=by omega
   go_wp2
   go_ret;have hv:=HR.val;rw [List.take_of_length_le (by rw [Hn.o];exact Nat.le_refl _)] at hv;have hl':j+k<o.length:=by rw [HR.own.len];omega
   have hset:=fun z=>dv_set 4294967296 o (j+k) z hl';rw [←Ha2.o] at hset;have hsame:∀ z i,(i<j∨j+k+1≤i)→(o.set (j+k) z).getD i 0=u.getD i 0:=by
    intro z i hi
    rw [getD_set _ _ _ _ hl',if_neg (by omega)]
    exact HR.same i (by omega)
   obtain ⟨t,ht⟩:∃ t,t=IntKind.u64.wrap (IntKind.u64.wrap ((a:Int)-(q:Int))-(p:Int)):=⟨_,rfl⟩;have ht2:t=((a:Int)-q-p)%18446744073709551616:=by rw [ht,w64,w64];omega
   rw [←ht];refine ⟨decide ((a:Int)-q-p<0),o.set (j+k) (t%4294967296).toNat,?_,HR.own.set hb _ _ _ (by omega) (by omega),fun i hi=>by rw [Below.heap_setCell _ _ _ _ hi];exact HR.oth i hi,hsame _,?_⟩
   ·show Ending.returned (Value.bool (t/9223372036854775808==1))=_
    have:(t/9223372036854775808==1)=decide ((a:Int)-q-p<0):=by
     rw [Bool.eq_iff_iff,beq_iff_eq,decide_eq_true_iff];omega
    rw [this]
   ·have h1:=hset (t%4294967296).toNat;rw [show j+k+1=j+k+1 from rfl,Nat.pow_succ];generalize (4294967296:Nat)^(j+k)=P at *
    have h2:(t%4294967296).toNat+q+p=a+4294967296*(if decide ((a:Int)-q-p<0)=true then 1 else 0):=by
     by_cases hneg:(a:Int)-q-p<0
     ·simp only [hneg,decide_true,if_true];omega
     ·simp only [hneg,decide_false];simp;omega
    generalize (if decide ((a:Int)-q-p<0)=true then 1 else 0)=ng at *
    generalize (t%4294967296).toNat=z at *
    have h3:P*(z+q+p)=P*(a+4294967296*ng):=by rw [h2]
    grind
structure GiveRel (u v:List Nat) (lu n j:Nat) (w:World) (bu:Nat) (ws:World) (k c:Nat) (o:List Nat) (wr:World):Prop where
 hk:k≤n
 hc:c≤1
 same:∀ i,(i<j∨j+k≤i)→o.getD i 0=u.getD i 0
 val:dv 4294967296 o+c*4294967296^(j+k)=dv 4294967296 u+dv 4294967296 (v.take k)*4294967296^j
 own:Own w wr bu o lu
 oth:∀ i,i≠bu→wr.heap[i]?=ws.heap[i]?
theorem GiveRel.step {u v:List Nat} {lu n j:Nat} {w ws:World} {bu k c:Nat} {o:List Nat} {wr:World} (h:GiveRel u v lu n j w bu ws k c o wr) (hb:w.heap.size≤bu) (hk:k<n) (hl:j+n<lu)
  {x a:Nat} (hx:x=v.getD k 0) (hx':x<4294967296) (ha:a=o.getD (j+k) 0) (t:Int) (ht:t=((c+(a+x):Nat):Int)) :
  GiveRel u v lu n j w bu ws (k+1) ((c+(a+x))/4294967296) (o.set (j+k) ((c+(a+x))%4294967296)) (wr.setCell ⟨bu,j+k,none⟩ (.int .u32 (t%4294967296))):=by
 have hc:=h.hc;have hl':j+k<o.length:=by rw [h.own.len];omega
 have ha':a<4294967296:=by rw [ha];exact h.own.dig.get (by decide) _
 refine ⟨by omega,by omega,?_,?_,h.own.set hb _ _ _ (by omega) (by omega),fun i hi=>by rw [Below.heap_setCell _ _ _ _ hi];exact h.oth i hi⟩
 ·intro i hi
  rw [getD_set _ _ _ _ hl',if_neg (by omega)]
  exact h.same i (by omega)
 ·rw [dv_take_succ',←hx];have hset:=dv_set 4294967296 o (j+k) ((c+(a+x))%4294967296) hl';rw [←ha] at hset;have hv:=h.val;have e1:(dv 4294967296 (v.take k)+x*4294967296^k)*4294967296^j=dv 4294967296 (v.take k)*4294967296^j+x*4294967296^(j+k):=by
   rw [Nat.pow_add];grind
  rw [e1,show j+(k+1)=j+k+1 by omega,Nat.pow_succ];have hs:=Nat.mod_add_div (c+(a+x)) 4294967296;generalize (c+(a+x))%4294967296=s at *
  generalize (c+(a+x))/4294967296=d at *
  generalize (4294967296:Nat)^(j+k)=P at *
  have h2:P*(s+4294967296*d)=P*(c+(a+x)):=by rw [hs]
  grind
theorem give_core (bu lu j cu:Nat) (av:Option Addr) (bv ov cv:Nat) (u v:List Nat) (n:Nat) (w wr:World) (hb:w.heap.size≤bu) (hlu:lu≤100000000000) (hn:j+n<lu)
  (Hn:Hid (v.length=n)) (Hav:Hid (0<n→av=some ⟨bv,ov,none⟩)) (Hv:Hid (Dig 4294967296 v)) (Hcv:Cells w bv ov n v) (HO:Own w wr bu u lu) :
  Calls Tryz.prog 282 #[.slice (some ⟨bu,j,none⟩) (lu-j) cu,.slice av n cv] wr fun e w'=>∃ (ov:Nat) (o:List Nat),e=.returned (.tuple #[])∧Own w w' bu o lu∧(∀ i,i≠bu→w'.heap[i]?=wr.heap[i]?) ∧
   (∀ i,(i<j∨j+n+1≤i)→o.getD i 0=u.getD i 0)∧dv 4294967296 o+ov*4294967296^(j+n+1)=dv 4294967296 u+dv 4294967296 v*4294967296^j:=by
 go_enter Tryz.func282,Tryz.ntmps282
 go_wp2
 go_loopw [4,9] (fun c i wq=>∃ (k q:Nat) (o:List Nat),i=.int .i64 k∧c=.int .u64 q∧GiveRel u v lu n j w bu wr k q o wq) (fun _ i _=>n-(intOf i).toNat)
 case atStart=>exact ⟨0,0,u,rfl,rfl,Nat.zero_le _,by decide,fun _ _=>rfl,by simp [dv],HO,fun _ _=>rfl⟩
 case round =>
  obtain ⟨k,q,o,rfl,rfl,HR⟩:=hrel;have hk:=HR.hk;have hq:=HR.hc;clear HO
  rcases Nat.lt_or_ge k n with hkn | hkn
  ·obtain ⟨x,hx2⟩:∃ x,x=v.getD k 0:=⟨_,rfl⟩;have hcell:=HR.own.ext.cell (Hcv.o k hkn);rw [←hx2] at hcell;have hlt:x<4294967296:=by rw [hx2];exact Hv.o.get (by decide) _
   obtain rfl:=Hav.o (by omega);obtain ⟨a,ha2⟩:∃ a,a=o.getD (j+k) 0:=⟨_,rfl⟩;have hout:=HR.own.cell (k:=j+k) (by omega);rw [←ha2] at hout;have hla:a<4294967296:=by rw [ha2];exact HR.own.dig.get (by decide) _
   have hfr:=HR.own.free (j+k);have Hx2:Hid (x=v.getD k 0):=hx2;have Ha2:Hid (a=o.getD (j+k) 0):=ha2;clear hx2 ha2;have hsz:k<lu-j:=by omega
   go_wp2
   go_roundw
   case rel=>exact ⟨k+1,_,_,by go_num,vint (by omega),HR.step hb hkn hn Hx2.o hlt Ha2.o _ (by omega)⟩
   case measure=>simp [intOf];omega
  ·obtain rfl:k=n:=by omega
   obtain ⟨a,ha2⟩:∃ a,a=o.getD (j+k) 0:=⟨_,rfl⟩;have hout:=HR.own.cell (k:=j+k) (by omega);rw [←ha2] at hout;have hla:a<4294967296:=by rw [ha2];exact HR.own.dig.get (by decide) _
   have hfr:=HR.own.free (j+k);have Ha2:Hid (a=o.getD (j+k) 0):=ha2;clear ha2;have hsz:k<lu-j:=by omega
   go_wp2
   go_end0
   have hv:=HR.val;rw [List.take_of_length_le (by rw [Hn.o];exact Nat.le_refl _)] at hv;have hl':j+k<o.length:=by rw [HR.own.len];omega
   have hset:=dv_set 4294967296 o (j+k) ((a+q)%4294967296) hl';rw [←Ha2.o] at hset;refine ⟨(a+q)/4294967296,o.set (j+k) ((a+q)%4294967296),rfl,HR.own.set hb _ _ _ (by omega) (by omega),fun i hi=>by rw [Below.heap_setCell _ _ _ _ hi];exact HR.oth i hi,?_,?_⟩
   ·intro i hi
    rw [getD_set _ _ _ _ hl',if_neg (by omega)]
    exact HR.same i (by omega)
   ·rw [Nat.pow_succ];have hs:=Nat.mod_add_div (a+q) 4294967296;generalize (a+q)%4294967296=s at *
    generalize (a+q)/4294967296=d at *
    generalize (4294967296:Nat)^(j+k)=P at *
    have h2:P*(s+4294967296*d)=P*(a+q):=by rw [hs]
    grind
def cmpN (m n:Nat):Int:=if m<n then -1 else if n<m then 1 else 0
theorem cmpN_lt {m n:Nat} (h:m<n):cmpN m n = -1:=if_pos h
theorem cmpN_gt {m n:Nat} (h:n<m):cmpN m n=1:=by unfold cmpN;rw [if_neg (by omega),if_pos h]
theorem cmpN_eq {m n:Nat} (h:m=n):cmpN m n=0:=by unfold cmpN;rw [if_neg (by omega),if_neg (by omega)]
theorem is1_core (aa:Option Addr) (ba oa ca n d:Nat) (w:World) (hax:0<n→aa=some ⟨ba,oa,none⟩) (hd:d<4294967296) (hcx:0<n→w.cell? ⟨ba,oa,none⟩=some (.int .u32 d)) (r:Bool)
  (Hr:Hid (r=(decide (n=1)&&decide (d=1)))) :
  Calls Tryz.prog 178 #[.slice aa n ca] w fun e w'=>e=.returned (.bool r)∧Ext w w':=by
 by_cases h1:n=1
 ·subst h1;obtain rfl:=hax (by omega);have hc:=hcx (by omega);clear hax hcx;have hb:(((1:Nat):Int)==1)=true:=rfl
  by_cases h2:d=1
  ·subst h2
   go_enter Tryz.func178,Tryz.ntmps178
   go_wp2
   go_ret
   exact ⟨by rw [Hr.o];rfl,Below.refl _ _⟩
  ·have h3:((d:Int)==1)=false:=by simp;omega
   have Hr2:Hid (r=false):=by unfold Hid;rw [Hr.o];simp [h2]
   clear Hr h2
   go_enter Tryz.func178,Tryz.ntmps178
   go_wp2
   go_ret
   exact ⟨by rw [Hr2.o];rfl,Below.refl _ _⟩
 ·have hb:(((n:Nat):Int)==1)=false:=by simp;omega
  have Hr2:Hid (r=false):=by unfold Hid;rw [Hr.o];simp [h1]
  clear Hr h1
  go_enter Tryz.func178,Tryz.ntmps178
  go_wp2
  go_ret
  exact ⟨by rw [Hr2.o];rfl,Below.refl _ _⟩
theorem is1_c (x:Value) (N:Nat) (w:World) (hx:NatV w x N) :
  Calls Tryz.prog 178 #[x] w fun e w'=>e=.returned (.bool (decide (N=1)))∧Ext w w':=by
 obtain ⟨a,b,off,n,cap,l,rfl,h1,h2,h3,h4,h5,h6,h7,h8⟩:=hx.open;refine is1_core a b off cap n (l.getD 0 0) w h4.o (h5.o.dig.get (by decide) _) (fun h=>by simpa using h7.o 0 h) _ ?_;unfold Hid;rw [←h6.o,←h3.o];have hN:=h5.o
 match l,hN with
 | [],_=>simp [dv]
 | [d],_ =>
  rw [show dv 4294967296 [d]=d by simp [dv]]
  by_cases hd:d=1<;>simp [hd]
 | d :: e :: l,hN =>
  have h:=Trim.pos (B:=4294967296) (by decide) hN.trim (by simp)
  have:4294967296≤4294967296^(l.length+1):=by
   have:=Nat.pow_le_pow_right (n:=4294967296) (by decide) (show 1≤l.length+1 by omega)
   simpa using this
  simp only [List.length_cons,Nat.add_sub_cancel] at h ⊢;have h1:¬ dv 4294967296 (d :: e :: l)=1:=by omega
  simp [h1]
structure CmpRel (x y:List Nat) (n:Nat) (w:World) (k:Int) (wr:World):Prop where
 lo : -1≤k
 hi:k<n
 same:dv 4294967296 (x.drop (k+1).toNat)=dv 4294967296 (y.drop (k+1).toNat)
 ext:Ext w wr
theorem cmp_core (aa ab:Option Addr) (ba oa ca bb ob cb:Nat) (x y:List Nat) (n:Nat) (w:World) (Hn:Hid (x.length=n)) (Hm:Hid (y.length=n)) (hn:n≤100000000000)
  (Hax:Hid (0<n→aa=some ⟨ba,oa,none⟩)) (Hay:Hid (0<n→ab=some ⟨bb,ob,none⟩))
  (Hx:Hid (Dig 4294967296 x)) (Hy:Hid (Dig 4294967296 y)) (Hcx:Cells w ba oa n x) (Hcy:Cells w bb ob n y) :
  Calls Tryz.prog 54 #[.slice aa n ca,.slice ab n cb] w fun e w'=>e=.returned (.int .i64 (cmpN (dv 4294967296 x) (dv 4294967296 y)))∧Ext w w':=by
 go_enter Tryz.func54,Tryz.ntmps54
 go_wp2
 go_loopw [5] (fun i wr=>∃ k:Int,i=.int .i64 k∧CmpRel x y n w k wr) (fun i _=>(intOf i+1).toNat)
 case atStart=>exact ⟨(n:Int)-1,by go_num,by omega,by omega,by rw [List.drop_eq_nil_of_le (by have:=Hn.o;omega),List.drop_eq_nil_of_le (by have:=Hm.o;omega)],Below.refl _ _⟩
 case round =>
  obtain ⟨k,rfl,HR⟩:=hrel;have hlo:=HR.lo;have hhi:=HR.hi
  rcases Int.lt_or_le k 0 with hk | hk
  ·obtain rfl:k = -1:=by omega
   have hd:decide ((0:Int) ≤ -1)=false:=by decide
   go_wp2
   go_ret
   have:=HR.same
   exact ⟨by rw [cmpN_eq (by simpa using this)];rfl,HR.ext⟩
  ·obtain ⟨j,rfl⟩:=Int.eq_ofNat_of_zero_le hk;obtain ⟨d,hd2⟩:∃ d,d=x.getD j 0:=⟨_,rfl⟩;obtain ⟨f,hf2⟩:∃ f,f=y.getD j 0:=⟨_,rfl⟩;have hcell:wr.cell? ⟨ba,oa+j,none⟩=some (.int .u32 d):=by rw [hd2];exact HR.ext.cell (Hcx.o j (by omega))
   have hcelf:wr.cell? ⟨bb,ob+j,none⟩=some (.int .u32 f):=by rw [hf2];exact HR.ext.cell (Hcy.o j (by omega))
   have hlt:d<4294967296:=by rw [hd2];exact Hx.o.get (by decide) _
   have hltf:f<4294967296:=by rw [hf2];exact Hy.o.get (by decide) _
   obtain rfl:=Hax.o (by omega);obtain rfl:=Hay.o (by omega);have Hd2:Hid (d=x.getD j 0):=hd2;have Hf2:Hid (f=y.getD j 0):=hf2;have hs:=HR.same;have Hs:Hid (dv 4294967296 (x.drop (j+1))=dv 4294967296 (y.drop (j+1))):=hid (by simpa using hs);have HE:=HR.ext;clear hd2 hf2 hs HR;have hj:j<n:=by omega
   have hge:decide ((0:Int)≤(j:Int))=true:=decide_eq_true (by omega);have i1:(0:Int)≤(j:Int):=by omega
   have i2:(j:Int)<(n:Int):=by omega
   rcases Nat.lt_trichotomy d f with h | h | h
   ·have h1:((d:Int)==(f:Int))=false:=by simp;omega
    have h2:((d:Int) != (f:Int))=true:=by simp;omega
    have h3:decide ((d:Int)<(f:Int))=true:=decide_eq_true (by omega)
    go_wp2
    go_quiet (fail)
    go_wp2
    go_quiet (fail)
    go_wp2
    go_ret
    have:=dv_lt_at (B:=4294967296) (by decide) Hx.o (k:=j) (by have:=Hn.o;omega) (by have:=Hm.o;omega) Hs.o (by rw [←Hd2.o,←Hf2.o];exact h)
    exact ⟨by rw [cmpN_lt this];rfl,below_drewN (below_drewN HE _) _⟩
   ·have h1:((d:Int)==(f:Int))=true:=by simp;omega
    have h2:((d:Int) != (f:Int))=false:=by simp;omega
    go_wp2
    go_quiet (fail)
    go_wp2
    go_roundw
    case rel =>
     refine ⟨(j:Int)-1,by go_num,by omega,by omega,?_,below_drewN HE _⟩;have e1:((j:Int)-1+1).toNat=j:=by omega
     rw [e1,dv_drop _ x j (by have:=Hn.o;omega),dv_drop _ y j (by have:=Hm.o;omega),Hs.o,←Hd2.o,←Hf2.o,h]
    case measure=>simp [intOf]
   ·have h1:((d:Int)==(f:Int))=false:=by simp;omega
    have h2:((d:Int) != (f:Int))=true:=by simp;omega
    have h3:decide ((d:Int)<(f:Int))=false:=decide_eq_false (by omega)
    go_wp2
    go_quiet (fail)
    go_wp2
    go_quiet (fail)
    go_wp2
    go_ret
    have:=dv_lt_at (B:=4294967296) (by decide) Hy.o (k:=j) (by have:=Hm.o;omega) (by have:=Hn.o;omega) Hs.o.symm (by rw [←Hd2.o,←Hf2.o];exact h)
    exact ⟨by rw [cmpN_gt this];rfl,below_drewN (below_drewN HE _) _⟩
theorem cmp_len (aa ab:Option Addr) (n m ca cb:Nat) (w:World) (_hn:n≤100000000000) (_hm:m≤100000000000) (hne:n<m∨m<n) (r:Int) (Hr:Hid (r=cmpN n m)) :
  Calls Tryz.prog 54 #[.slice aa n ca,.slice ab m cb] w fun e w'=>e=.returned (.int .i64 r)∧Ext w w':=by
 rcases hne with h | h
 ·have h1:((n:Int)==(m:Int))=false:=by simp;omega
  have h2:((n:Int) != (m:Int))=true:=by simp;omega
  have h3:decide ((n:Int)<(m:Int))=true:=decide_eq_true (by omega);have Hr2:Hid (r = -1):=hid (by rw [Hr.o,cmpN_lt h]);clear Hr
  go_enter Tryz.func54,Tryz.ntmps54
  go_wp2
  go_ret
  exact ⟨by rw [Hr2.o];rfl,Below.refl _ _⟩
 ·have h1:((n:Int)==(m:Int))=false:=by simp;omega
  have h2:((n:Int) != (m:Int))=true:=by simp;omega
  have h3:decide ((n:Int)<(m:Int))=false:=decide_eq_false (by omega);have Hr2:Hid (r=1):=hid (by rw [Hr.o,cmpN_gt h]);clear Hr
  go_enter Tryz.func54,Tryz.ntmps54
  go_wp2
  go_ret
  exact ⟨by rw [Hr2.o];rfl,Below.refl _ _⟩
theorem cmp_c (x y:Value) (M N K:Nat) (w:World) (hx:NatV w x M) (hy:NatV w y N) (sx:Sm K M) (sy:Sm K N) (hK:K≤100000000) :
  Calls Tryz.prog 54 #[x,y] w fun e w'=>e=.returned (.int .i64 (cmpN M N))∧Ext w w':=by
 obtain ⟨a,b,off,n,cap,l,rfl,h1,h2,h3,h4,h5,h6,h7,h8⟩:=hx.open;obtain ⟨a',b',off',n',cap',l',rfl,h1',h2',h3',h4',h5',h6',h7',h8'⟩:=hy.open;have e1:=sx.len h5.o h6.o;have e2:=sy.len h5'.out h6'.out;have hv:=h6.o;have hv':=h6'.out;have hn:=h3.o;have hn':=h3'.out
 rcases Nat.lt_trichotomy n n' with h | h | h
 ·refine cmp_len a a' n n' cap cap' w (by omega) (by omega) (.inl h) _ (hid ?_)
  have:=Norm.lt_of_len (by decide) h5.o.dig h5'.out (by omega)
  rw [cmpN_lt h,cmpN_lt (by omega)]
 ·subst h
  have:=cmp_core a a' b off cap b' off' cap' l l' n w h3 h3' (by omega) h4 h4' (hid h5.o.dig) (hid h5'.out.dig) h7 h7'
  rw [hv,hv'] at this
  exact this
 ·refine cmp_len a a' n n' cap cap' w (by omega) (by omega) (.inr h) _ (hid ?_)
  have:=Norm.lt_of_len (by decide) h5'.out.dig h5.o (by omega)
  rw [cmpN_gt h,cmpN_gt (by omega)]
end Go.Proofs.YtoaoebimjmjpeaaGreatDoor
