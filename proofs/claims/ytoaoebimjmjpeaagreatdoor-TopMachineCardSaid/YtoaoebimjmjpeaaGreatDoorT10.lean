/- exact: read: the number that decimal digits are. -/
import Derived.Test.YtoaoebimjmjpeaaGreatDoorT08
import Derived.Test.YtoaoebimjmjpeaaGreatDoorT09
namespace Go.Proofs.YtoaoebimjmjpeaaGreatDoor
open Go.RowKit Vn Go.Shelf
set_option maxRecDepth 100000
set_option maxHeartbeats 8000000
attribute [local go_sem] Oper.semAt_some
theorem groups_c (s:ByteArray) (w:World) :
  Calls Tryz.prog 264 #[.string s] w fun e w'=>∃ bc:Nat,e=.returned (.func (.func 320) #[] #[.pointer (some ⟨bc,0,none⟩)])∧Box w' bc #[.string s] 9∧Ext w w'∧w.heap.size≤bc∧bc<w'.heap.size:=by
 go_enter Tryz.func264,Tryz.ntmps264
 go_wp2
 refine bodyPost_ret (v:=.func (.func 320) #[] #[.pointer (some ⟨w.heap.size,0,none⟩)]) (by simp [results,Tryz.results264,go_sem]) rfl ⟨w.heap.size,rfl,Box.new w _ _,Ext.alloc w _,Nat.le_refl _,by simp⟩
def readI (w0:World) (ob bc:Nat) (xs:List (List UInt8)) (W:World):Prop :=
 (∃ a k c,Box W ob #[.slice a k c] 47∧NatV W (.slice a k c) (decV xs.flatten)∧∃ cs,Box W bc cs 9)∧Below w0.heap.size w0 W
def KeptCells (W W':World):Prop:=∀ (k:Nat) (cs:Array Value) (t:TypeId) (fr:Nat×Nat),W.heap[k]?=some (.cells cs t fr)→W'.heap[k]?=some (.cells cs t fr)
theorem SlAt.kept {T:TypeId} {k:IntKind} {w w':World} {v:Value} {l:List Nat} (h:SlAt T k w v l) (hb:KeptCells w w'):SlAt T k w' v l:=by
 obtain ⟨a,b,off,cap,h1,h2,h3,h4,cur,fr,h5,h6⟩:=h
 exact ⟨a,b,off,cap,h1,h2,h3,h4,cur,fr,fun h=>hb _ _ _ _ (h5 h),h6⟩
theorem NatV.kept {w w':World} {v:Value} {n:Nat} (h:NatV w v n) (hb:KeptCells w w'):NatV w' v n:=by
 obtain ⟨l,h1,h2,h3⟩:=h;exact ⟨l,h1,h2,h3.kept hb⟩
theorem KeptCells.of_grown {W W':World} {row:Option Nat} (hg:W.grownBy W' row) (hr:∀ r,row=some r→∃ o:Obj,W.heap[r]?=some o∧o.isCells=false):KeptCells W W' :=
 fun _ _ _ _ h=>(grownBy_keeps_cells hg hr h rfl).trans h
theorem KeepsOthers.of_ext {W W':World} (h:Ext W W'):KeepsOthers W W':=⟨h.size,fun k _ hk _=>(h.block k (Array.getElem?_eq_some_iff.1 hk).1).trans hk⟩
theorem readI_own (w0:World) (ob bc B:Nat) (hB:w0.heap.size≤B):OwnFrom B (readI w0 ob bc):=by
 refine OwnFrom.and (fun s W W' row hs hg hr => ?_) (ownFrom_below (Nat.le_refl _) hB);have hk:=KeptCells.of_grown hg (fun r e=>(hr r e).2);obtain ⟨a,k,c,h1,h2,cs,h3⟩:=hs
 exact ⟨a,k,c,hk _ _ _ _ h1,h2.kept hk,cs,hk _ _ _ _ h3⟩
theorem readI_set (w0:World) (ob bc:Nat) (hne:ob≠bc) (hle:w0.heap.size≤bc) (pre:List (List UInt8)) (W:World) (v:Value) (h:readI w0 ob bc pre W):readI w0 ob bc pre (W.setCell ⟨bc,0,none⟩ v):=by
 obtain ⟨⟨a,k,c,h1,h2,cs,h3⟩,h4⟩:=h
 exact ⟨⟨a,k,c,h1.other hne 0 v,h2.keep (Keep.setCell (p:=⟨bc,0,none⟩) h3 (by decide) v),_,h3.set 0 v⟩,h4.setCell (p:=⟨bc,0,none⟩) hle v⟩
theorem readEnd {w W x4:World} {bc V S M:Nat} {pre:List (List UInt8)} {x:List UInt8} {a:Option Addr} {k c:Nat} {aA:Option Addr} {nA cA:Nat} {cs:Array Value} {act:Act}
  (hne:w.heap.size≠bc) (hf:Hid (decV (pre++[x]).flatten=M*S+V)) (hO:Hid (Box W w.heap.size #[.slice a k c] 47)) (hC:Hid (Box W bc cs 9)) (hE1:Below w.heap.size w W) (E4:Ext W x4)
  (kA:NatV x4 (.slice aA nA cA) (M*S+V)) (_:True) :
  boxPost bc 9 (readI w w.heap.size bc) (pre++[x]) W .normal act (x4.setCell ⟨w.heap.size,0,none⟩ (.slice aA nA cA)):=by
 have h1:=hO.o.ext E4;refine ⟨(KeepsOthers.of_ext E4).trans (KeepsOthers.setCell _ _ _),fun cs' h=>(Box.ext h E4).other hne.symm 0 _,⟨aA,nA,cA,?_,?_,cs,(hC.o.ext E4).other hne.symm 0 _⟩,?_⟩
 ·have:=h1.set 0 (.slice aA nA cA);simpa using this
 ·rw [hf.o];exact kA.keep (Keep.setCell (p:=⟨w.heap.size,0,none⟩) h1 (by decide) _)
 ·exact (hE1.trans (E4.mono hE1.size)).setCell (p:=⟨w.heap.size,0,none⟩) (Nat.le_refl _) _
theorem read_c (ds:List UInt8) (hd:Digs ds) (hlen:ds.length≤20000000) (w:World) :
  Calls Tryz.prog 177 #[.string ⟨ds.toArray⟩] w fun e w'=>∃ a k c,e=.returned (.slice a k c)∧NatV w' (.slice a k c) (decV ds)∧Ext w w':=by
 refine (callsIn_wide (n:=3)).1 ?_;refine callsIn_of_wp_marks Tryz.func177 rfl trivial ?_ rfl;simp only [Tryz.ntmps177,List.size_toArray,List.length_cons,List.length_nil,Nat.reduceAdd,Nat.reduceSub,Array.replicate_succ,Array.replicate_zero,List.push_toArray,List.append_toArray,List.nil_append,List.cons_append]
 gi_wp2_with (refine ⟨trivial,?_⟩;gi_at_call 264;refine (callsIn_wide.2 (groups_c _ _)).mono ?_;rintro e w1 ⟨bc,rfl,hB,hE,hge,hlt⟩)
 rw [World.size_alloc] at hge;have hO:=(Box.new w #[.slice none 0 0] 47).ext hE;have hE0:Ext w w1:=(Ext.alloc w _).trans hE;refine wpIn_rangeFunc_box rfl (by decide) (gf:=320) (lb:=#[.pointer (some ⟨bc,0,none⟩)]) rfl trivial (enters_of Tryz.func320 (by kernel_rfl) rfl)
  (groups_seq Fence.wide (3-1) trivial rfl (by decide) bc ds hd (by omega)) hlt hB (fun _=>rfl)
  (readI w w.heap.size bc) (readI_own w w.heap.size bc _ hE0.size) (readI_set w w.heap.size bc (by omega) (by omega)) ⟨⟨_,_,_,hO,NatV.zero _,_,hB⟩,hE0⟩
  (fun x => { tmps:=#[.string ⟨ds.toArray⟩,undef,.slice none 0 0,.pointer (some ⟨w.heap.size,0,none⟩),.int .u32 (decV x:Nat),.int .u32 (10^x.length:Nat),.string ⟨ds.toArray⟩,.func (.func 320) #[] #[.pointer (some ⟨bc,0,none⟩)],.int .u32 (decV x:Nat),.int .u32 (10^x.length:Nat),undef,undef,undef,undef,undef,undef,undef,undef,undef,undef],defers:=[] }) ?assign ?body ?done
 case assign =>
  intro l x W K hK
  dsimp only [encG]
  generalize decV x=V at hK ⊢;generalize 10^x.length=S at hK ⊢
  gi_wp2
  exact hK
 case body =>
  rintro l pre x W ⟨⟨a,k,c,hO,hV,cs,hC⟩,hE1⟩ ⟨hne,hx9,hdx,r,hr⟩;have hmx:Tryz.prog.follows .mixedOrders=true:=by kernel_rfl
  have hn1:1≤3-1-1:=by decide
  have v9:decV x<10^9:=Nat.lt_of_lt_of_le (decV_lt _ x rfl hdx) (Nat.pow_le_pow_right (by decide) hx9);have s9:10^x.length≤10^9:=Nat.pow_le_pow_right (by decide) hx9;have hfin:decV (pre++[x]).flatten=decV pre.flatten*10^x.length+decV x:=by
   rw [List.flatten_append,decV_append _ _ _ rfl];simp
  obtain ⟨N8,hN8⟩:∃ N:Nat,N=80000000:=⟨_,rfl⟩;obtain ⟨N9,hN9⟩:∃ N:Nat,N=90000000:=⟨_,rfl⟩;have hp:decV pre.flatten<2^N8:=by
   have h1:=decV_lt _ pre.flatten rfl (fun b hb=>hd b (by rw [hr];simp [hb]));have h2:pre.flatten.length≤20000000:=by
    have:=congrArg List.length hr
    simp only [List.flatten_append,List.length_append] at this
    omega
   have h3:10^pre.flatten.length≤(2^4)^pre.flatten.length:=Nat.pow_le_pow_left (by decide) _;rw [←Nat.pow_mul] at h3
   exact Nat.lt_of_lt_of_le h1 (Nat.le_trans h3 (Nat.pow_le_pow_right (by decide) (by omega)))
  obtain ⟨V,hVn⟩:∃ V,V=decV x:=⟨_,rfl⟩;obtain ⟨S,hSn⟩:∃ S,S=10^x.length:=⟨_,rfl⟩;obtain ⟨M,hMn⟩:∃ M,M=decV pre.flatten:=⟨_,rfl⟩;rw [←hVn,←hSn,←hMn] at hfin;rw [←hVn] at v9 ⊢;rw [←hSn] at s9 ⊢;rw [←hMn] at hp hV;have HPw:=hid hp;clear hp;have sM:Sm N9 M:=Nat.lt_of_lt_of_le HPw.o (Nat.pow_le_pow_right (by decide) (by omega));have sS:Sm N9 S:=Nat.lt_of_lt_of_le (show S<2^30 by omega) (Nat.pow_le_pow_right (by decide) (by omega));have sP:Sm N9 (M*S):=by
   have h1:M*S<2^N8*2^30:=Nat.mul_lt_mul_of_lt_of_le HPw.o (Nat.le_trans s9 (by decide)) (by decide);rw [←Nat.pow_add] at h1
   exact Nat.lt_of_lt_of_le h1 (Nat.pow_le_pow_right (by decide) (by omega))
  have sV:Sm N9 V:=Nat.lt_of_lt_of_le (show V<2^30 by omega) (Nat.pow_le_pow_right (by decide) (by omega));have CS:Hid (∀ w,Calls Tryz.prog 117 #[.int .u64 (S:Nat)] w fun r w'=>∃ a k cap,r=.returned (.slice a k cap)∧NatV w' (.slice a k cap) S∧Ext w w'):=hid fun w=>of_c S w (by omega) (by omega);have CV:Hid (∀ w,Calls Tryz.prog 117 #[.int .u64 (V:Nat)] w fun r w'=>∃ a k cap,r=.returned (.slice a k cap)∧NatV w' (.slice a k cap) V∧Ext w w'):=hid fun w=>of_c V w (by omega) (by omega);have CM:Hid (∀ (u v:Value) (w:World),NatV w u M→NatV w v S→Calls Tryz.prog 52 #[u,v] w fun e w'=>∃ a k cap,e=.returned (.slice a k cap)∧NatV w' (.slice a k cap) (M*S)∧Ext w w'):=hid fun u v w h k=>mul_c u v M S _ w h k sM sS (by omega);have CA:Hid (∀ (u v:Value) (w:World),NatV w u (M*S)→NatV w v V→Calls Tryz.prog 115 #[u,v] w fun e w'=>∃ a k cap,e=.returned (.slice a k cap)∧NatV w' (.slice a k cap) (M*S+V)∧Ext w w'):=hid fun u v w h k=>add_c u v (M*S) V _ w h k sP sV (by omega);have HFIN:=hid hfin;have v10:(V:Int)<1000000000:=by omega
  have s10:(S:Int)≤1000000000:=by omega
  have w1S:IntKind.u64.wrap (S:Int)=S:=IntWalk.u64_in _ (by omega);have w1V:IntKind.u64.wrap (V:Int)=V:=IntWalk.u64_in _ (by omega);clear HPw hN8 hN9 sM sS sP sV v9 s9 hfin hVn hSn hMn hne hx9 hr;have HO:=hid hO;have hne0:w.heap.size≠bc:=by omega
  have HC:=hid hC;have c0:W.cell? ⟨w.heap.size,0,none⟩=some (.slice a k c):=hO.cell 0;have f0:W.frozen? ⟨w.heap.size,0,none⟩=false:=hO.free 0
  gi_wp2
  gi_region_with_o (first
   | (refine ⟨trivial,?_⟩;gi_at_call 117;(with_reducible refine (CallsIn.inRound l (callsIn_wide.2 (CS.o _))).mono ?_);rintro e x1 ⟨aS,nS,cS,rfl,kS,g1⟩;have E1:Ext W x1:=Ext.undrew g1;have c1:x1.cell? ⟨w.heap.size,0,none⟩=some (.slice a k c):=(HO.o.ext E1).cell 0)
   | (refine ⟨trivial,?_⟩;gi_at_call 52;(with_reducible refine (CallsIn.inRound l (callsIn_wide.2 (CM.o _ _ _ (hV.ext E1) kS))).mono ?_);rintro e x2 ⟨aP,nP,cP,rfl,kP,g2⟩;have E2:Ext W x2:=Ext.trans E1 g2)
   | (refine ⟨trivial,?_⟩;gi_at_call 117;(with_reducible refine (CallsIn.inRound l (callsIn_wide.2 (CV.o _))).mono ?_);rintro e x3 ⟨aV,nV,cV,rfl,kV,g3⟩;have E3:Ext W x3:=Ext.trans E2 g3)
   | (refine ⟨trivial,?_⟩;gi_at_call 115;(with_reducible refine (CallsIn.inRound l (callsIn_wide.2 (CA.o _ _ _ (kP.ext g3) kV))).mono ?_);rintro e x4 ⟨aA,nA,cA,rfl,kA,g4⟩;have E4:Ext W x4:=Ext.trans E3 g4;have c4:x4.cell? ⟨w.heap.size,0,none⟩=some (.slice a k c):=(HO.o.ext E4).cell 0;have f4:x4.frozen? ⟨w.heap.size,0,none⟩=false:=(HO.o.ext E4).free 0))
  all_goals gi_wp2
  all_goals exact readEnd hne0 HFIN HO HC hE1 E4 kA trivial
 case done =>
  rintro D xs W hD hxs ⟨⟨a,k,c,h1,h2,cs,h3⟩,h4⟩ hK;have c0:W.cell? ⟨w.heap.size,0,none⟩=some (.slice a k c):=h1.cell 0
  gi_wp2
  refine ⟨by simp,.inl ⟨_,_,rfl,run_takeDeferred hK,?_⟩⟩;refine ⟨_,results_tmp rfl _ _ _,a,k,c,rfl,?_,?_⟩
  ·rw [←hxs];exact h2.kept (KeptCells.of_grown (grownBy_putObj' W D _) (fun r e=>by cases e;exact ⟨_,hK,rfl⟩))
  ·exact h4.trans (belowK_b (w:=w) (Nat.le_refl _) W D _ _ (by have:=hE0.size;omega) hK rfl rfl)
end Go.Proofs.YtoaoebimjmjpeaaGreatDoor
