/- floats: words held against each other; with. -/
import Derived.Laws.StructEq
import Derived.Test.YtopmjkkjlagfcaaGreatDoorX29
namespace Go.Proofs.YtopmjkkjlagfcaaGreatDoor
open Go.RowKit Vn
set_option maxRecDepth 100000
set_option maxHeartbeats 8000000
def WSl (w:World) (v:Value) (ws:List Nat):Prop:=∃ (a:Option Addr) (b off cap:Nat),v=.slice a ws.length cap∧ws.length≤cap∧cap≤1000∧(0<ws.length→a=some ⟨b,off,none⟩) ∧
 (∀ n∈ws,W128 n)∧∀ i,i<ws.length→w.cell? ⟨b,off+i*2,none⟩=some (.int .u64 ((ws.getD i 0/18446744073709551616:Nat):Int))∧w.cell? ⟨b,off+i*2+1,none⟩=some (.int .u64 ((ws.getD i 0%18446744073709551616:Nat):Int))
def withRes (E P m:Nat) (ws:List Nat):Value:=if ∀ n∈ws,n<2^(E+P) then .tuple #[.agg #[.int .i64 E,.int .i64 P,.int .i64 m,.int .i64 (bias E:Nat)],.int .i64 0] else .tuple #[.agg #[.int .i64 0,.int .i64 0,.int .i64 0,.int .i64 0],.int .i64 6]
theorem wcase {n k p q:Nat} (h1:p=n/2^k/18446744073709551616) (h2:q=n/2^k%18446744073709551616):(p=0∧q=0∧n<2^k)∨(((p:Int)==0)=false∧¬ n<2^k)∨(p=0∧((q:Int)==0)=false∧¬ n<2^k):=by
 by_cases h:n<2^k
 ·left
  rw [Nat.div_eq_of_lt h] at h1 h2
  exact ⟨by rw [h1],by rw [h2],h⟩
 ·right
  have hp:0<n/2^k:=Nat.div_pos (by omega) (Nat.pow_pos (by decide))
  have:=Nat.div_add_mod (n/2^k) 18446744073709551616
  rw [←h1,←h2] at this
  by_cases h3:p=0
  ·subst h3
   exact .inr ⟨rfl,by simp;omega,h⟩
  ·exact .inl ⟨by simp;omega,h⟩
theorem WSl.nil (w:World):WSl w (.slice none 0 0) []:=⟨none,0,0,0,rfl,Nat.le_refl _,by omega,fun h=>by simp at h,fun n h=>by simp at h,fun i h=>by simp at h⟩
theorem with_good (E P m:Nat) (v:Value) (ws:List Nat) (w:World) (hm:m≤4) (hF:Fmt E P) (hv:WSl w v ws) :
  Calls Tryz.prog 41 #[.agg #[.int .i64 E,.int .i64 P],.int .i64 m,v] w fun e w'=>e=.returned (withRes E P m ws)∧Ext w w':=by
 have hE:2≤E∧E≤11:=by unfold Fmt at hF;omega
 have hP:2≤P∧P≤113:=by unfold Fmt at hF;omega
 have c1:Hid (∀ w,_):=hid fun w=>check_c E P w 0 (hid (by rw [if_pos hF]));have d0:decide ((m:Int)<0)=false:=decide_eq_false (by omega);have d1:decide ((4:Int)<m)=false:=decide_eq_false (by omega);have hw5:wrap64 ((E:Int)+P)=(E:Int)+P:=w64r _ (by omega);have hw6:IntKind.i64.wrap ((E:Int)+P)=(E:Int)+P:=IntWalk.i64_in _ (by omega);have hEP:E+P≤128:=by omega
 have hp:2^(E-1)≤1024:=Nat.pow_le_pow_right (n:=2) (by decide) (show E-1≤10 by omega);have hp1:1≤2^(E-1):=Nat.pow_pos (by decide);have hw1:wrap64 ((E:Int)-1)=(E:Int)-1:=w64r _ (by omega);have hw2:IntKind.i64.wrap ((E:Int)-1)=(E:Int)-1:=IntWalk.i64_in _ (by omega);obtain ⟨a,b,off,cap,rfl,hc1,hc2,ha,hw,hc⟩:=hv;have HA:=hid ha;have HW:=hid hw;have HC:Hid (∀ i,i<ws.length→w.cell? ⟨b,off+i*2,none⟩=some (.int .u64 ((ws.getD i 0/18446744073709551616:Nat):Int))∧w.cell? ⟨b,off+i*2+1,none⟩=some (.int .u64 ((ws.getD i 0%18446744073709551616:Nat):Int))):=hid hc;have hw3:IntKind.i64.wrap ((2:Int)^(E-1))=(2:Int)^(E-1):=IntWalk.i64_in _ (by
  have e:((2^(E-1):Nat):Int)=(2:Int)^(E-1):=by rw [Int.natCast_pow];rfl
  omega)
 have hw4:IntKind.i64.wrap ((2:Int)^(E-1)-1)=((bias E:Nat):Int):=by
  have e:((2^(E-1):Nat):Int)=(2:Int)^(E-1):=by rw [Int.natCast_pow];rfl
  rw [IntWalk.i64_in _ (by omega),←e];unfold bias;omega
 clear ha hw hc hF;obtain ⟨W0,hW0,g0,hz0,B_F,B_Z⟩:=pro2s w #[.int .i64 (E:Nat),.int .i64 (P:Nat)] #[.int .i64 0,.int .i64 0,.int .i64 0,.int .i64 0] 23 81;have HE:=hid g0;have HB_F:=hid B_F;have HB_Z:=hid B_Z;clear g0 B_F B_Z 
 go_enter Tryz.func41,Tryz.ntmps41
 go_wp2_with fail;rw [←hW0];clear hW0;refine (c1.o _).mono ?_;rintro e w1 ⟨rfl,g1⟩;have hz_w1:=g1.size;replace HE:=hid (HE.o.trans g1);replace HB_F:=hid (HB_F.o.ext g1);replace HB_Z:=hid (HB_Z.o.ext g1);obtain ⟨J1,J2⟩:=HB_F.o.c2;obtain ⟨J3,J4,J5,J6⟩:=HB_Z.o.c4;go_wp2_with fail;clear J1 J2 J3 J4 J5 J6;have HS:Hid (∀ w',Ext w1 w'→w'.cell? ⟨w.heap.size,0,none⟩=some (.int .i64 (E:Nat))∧w'.cell? ⟨w.heap.size,1,none⟩=some (.int .i64 (P:Nat))):=hid fun w' h=>⟨(HB_F.o.ext h).cell 0,(HB_F.o.ext h).cell 1⟩;have hb0:Ext w1 w1.drew:=Below.drew (Below.refl _ w1)
 go_region_held3 (fun w'=>w'.cell? ⟨w.heap.size,0,none⟩=some (.int .i64 (E:Nat))∧w'.cell? ⟨w.heap.size,1,none⟩=some (.int .i64 (P:Nat)))
   (first | exact HS.o _ (by assumption) | exact HS.o _ (Ext.alloc _ _) | exact HS.o _ ((Ext.alloc _ _).trans (Below.drew (Below.refl _ _))))
  (fail)
 clear HS;obtain ⟨W2,hW2,g2,hy2,B_M⟩:=pro1d w1 #[.int .i64 (E:Nat),.int .i64 (P:Nat),.int .i64 (m:Nat),.int .i64 (bias E:Nat)] 81;rw [←hW2];clear hW2;have hz_W2:=g2.size;replace HE:=hid (HE.o.trans g2);replace HB_F:=hid (HB_F.o.ext g2);replace HB_Z:=hid (HB_Z.o.ext g2);have HB_M:=hid B_M;clear B_M;clear hw1 hw2 hw3 hw4 hp hp1;go_wp2_with fail
 go_loopw [34] (fun v wr=>∃ k:Nat,v=.int .i64 k∧k≤ws.length∧(∀ n∈ws.take k,n<2^(E+P))∧Hid (Ext W2 wr)) (fun v _=>ws.length-(intOf v).toNat)
 case atStart=>exact ⟨0,rfl,Nat.zero_le _,by simp,hid (Below.refl _ _)⟩
 case round =>
  obtain ⟨k,rfl,hk,hfit,HG⟩:=hrel;have Hfit:=hid hfit;clear hfit;have hz_wr:=HG.o.size;replace HE:=hid (HE.o.trans HG.o);have HR_F:=hid (HB_F.o.ext HG.o);have HR_Z:=hid (HB_Z.o.ext HG.o);have HR_M:=hid (HB_M.o.ext HG.o);replace HB_F:=HR_F;replace HB_Z:=HR_Z;replace HB_M:=HR_M;clear HR_F HR_Z HR_M
  by_cases hlt:k<ws.length
  ·obtain ⟨n,hn⟩:∃ n,n=ws.getD k 0:=⟨_,rfl⟩;have Hw:Hid (W128 n):=hid (by rw [hn,List.getD_eq_getElem?_getD,List.getElem?_eq_getElem hlt];exact HW.o _ (List.getElem_mem hlt));obtain ⟨e1,e2⟩:=HC.o k hlt;rw [←hn] at e1 e2;have Hn:=hid hn;clear hn;obtain rfl:=HA.o (by omega);have e0:Ext w wr:=HE.o;replace e1:=e0.cell e1;replace e2:=e0.cell e2;have c2:∀ w,_:=fun w=>shr_w n (E+P) w Hw.o hEP;unfold Word at c2;obtain ⟨h,eh⟩:∃ h:Nat,h=n/18446744073709551616:=⟨_,rfl⟩;obtain ⟨l,el⟩:∃ l:Nat,l=n%18446744073709551616:=⟨_,rfl⟩;rw [←eh] at c2 e1;rw [←el] at c2 e2;obtain ⟨p,ep⟩:∃ p:Nat,p=n/2^(E+P)/18446744073709551616:=⟨_,rfl⟩;obtain ⟨q,eq⟩:∃ q:Nat,q=n/2^(E+P)%18446744073709551616:=⟨_,rfl⟩;rw [←ep,←eq] at c2;rw [Int.natCast_add] at c2;have C2:=hid c2;have Et:Hid (p=n/2^(E+P)/18446744073709551616∧q=n/2^(E+P)%18446744073709551616):=hid ⟨ep,eq⟩;clear c2 eh el ep eq e0;have gA:=Ext.alloc wr (.cells #[.int .u64 h,.int .u64 l] 29);obtain ⟨J7,J8⟩:=(HB_F.o.ext gA).c2;obtain ⟨J9,J10,J11,J12⟩:=(HB_Z.o.ext gA).c4;obtain ⟨J13,J14,J15,J16⟩:=(HB_M.o.ext gA).c4;go_wp2_with fail;clear gA J7 J8 J9 J10 J11 J12 J13 J14 J15 J16;obtain ⟨W3,hW3,g3,hy3,B_V⟩:=pro1 wr #[.int .u64 h,.int .u64 l] 29;rw [←hW3];clear hW3;have hz_W3:=g3.size;replace HE:=hid (HE.o.trans g3);replace HB_F:=hid (HB_F.o.ext g3);replace HB_Z:=hid (HB_Z.o.ext g3);replace HB_M:=hid (HB_M.o.ext g3);have HB_V:=hid B_V;clear B_V;refine (C2.o _).mono ?_;rintro e w4 ⟨rfl,g4⟩;have hz_w4:=g4.size;replace HE:=hid (HE.o.trans g4);replace HB_F:=hid (HB_F.o.ext g4);replace HB_Z:=hid (HB_Z.o.ext g4);replace HB_M:=hid (HB_M.o.ext g4);replace HB_V:=hid (HB_V.o.ext g4);have hcase:=wcase Et.o.1 Et.o.2
   rcases hcase with ⟨rfl,rfl,hn⟩ | ⟨hb,hn⟩ | ⟨rfl,hb,hn⟩
   ·have Hg:Hid (n<2^(E+P)):=hid hn;clear hn;obtain ⟨J17,J18⟩:=HB_F.o.c2;obtain ⟨J19,J20,J21,J22⟩:=HB_Z.o.c4;obtain ⟨J23,J24,J25,J26⟩:=HB_M.o.c4;obtain ⟨J27,J28⟩:=HB_V.o.c2;go_wp2_with fail;refine ⟨⟨k+1,by go_num,by omega,?_,hid (HG.o.trans (g3.trans (g4.trans (Ext.alloc _ _))))⟩,by simp [intOf];omega⟩
    intro x hx
    rw [List.take_succ_eq_append_getElem hlt,List.mem_append,List.mem_singleton] at hx
    rcases hx with hx | rfl
    ·exact Hfit.o x hx
    ·have e:=Hg.o;rw [Hn.o,List.getD_eq_getElem?_getD,List.getElem?_eq_getElem hlt] at e
     exact e
   ·have Hg:Hid (¬ n<2^(E+P)):=hid hn;clear hn;have gA:=Ext.alloc w4 (.cells #[.int .u64 p,.int .u64 q] 29);obtain ⟨J17,J18⟩:=(HB_F.o.ext gA).c2;obtain ⟨J19,J20,J21,J22⟩:=(HB_Z.o.ext gA).c4;obtain ⟨U23,U24,U25,U26⟩:=(HB_Z.o.ext gA).f4;go_wp2_with fail;clear gA J17 J18 J19 J20 J21 J22 U23 U24 U25 U26;obtain ⟨W5,hW5,g5,hy5,B_H⟩:=pro1 w4 #[.int .u64 p,.int .u64 q] 29;rw [←hW5];clear hW5;have hz_W5:=g5.size;replace HE:=hid (HE.o.trans g5);replace HB_F:=hid (HB_F.o.ext g5);replace HB_Z:=hid (HB_Z.o.ext g5);replace HB_M:=hid (HB_M.o.ext g5);replace HB_V:=hid (HB_V.o.ext g5);have HB_H:=hid B_H;clear B_H;obtain ⟨W6,hW6,g6,q6,B6,hy6,ho6⟩:=sto4 HE.o (by omega) HB_Z.o (by decide) (.int .i64 0) (.int .i64 0) (.int .i64 0) (.int .i64 0);rw [←hW6];clear hW6;replace HE:=hid g6;replace HB_F:=hid (ho6 _ _ _ (by omega) HB_F.o);replace HB_M:=hid (ho6 _ _ _ (by omega) HB_M.o);replace HB_V:=hid (ho6 _ _ _ (by omega) HB_V.o);replace HB_H:=hid (ho6 _ _ _ (by omega) HB_H.o);replace HB_Z:=hid B6;have hno:¬ ∀ n∈ws,n<2^(E+P):=fun hall=>Hg.o (by
     rw [Hn.o,List.getD_eq_getElem?_getD,List.getElem?_eq_getElem hlt];exact hall _ (List.getElem_mem hlt))
    unfold withRes;rw [if_neg hno];obtain ⟨J27,J28,J29,J30⟩:=HB_Z.o.c4;refine bodyPost_ret (v:=.tuple #[.agg #[.int .i64 0,.int .i64 0,.int .i64 0,.int .i64 0],.int .i64 6]) (by simp [results,Tryz.results41,go_sem,J27,J28,J29,J30]) rfl ⟨rfl,HE.o⟩
   ·have Hg:Hid (¬ n<2^(E+P)):=hid hn;clear hn;have gA:=Ext.alloc w4 (.cells #[.int .u64 0,.int .u64 q] 29);obtain ⟨J17,J18⟩:=(HB_F.o.ext gA).c2;obtain ⟨J19,J20,J21,J22⟩:=(HB_Z.o.ext gA).c4;obtain ⟨U23,U24,U25,U26⟩:=(HB_Z.o.ext gA).f4;go_wp2_with fail;clear gA J17 J18 J19 J20 J21 J22 U23 U24 U25 U26;obtain ⟨W5,hW5,g5,hy5,B_H⟩:=pro1 w4 #[.int .u64 0,.int .u64 q] 29;rw [←hW5];clear hW5;have hz_W5:=g5.size;replace HE:=hid (HE.o.trans g5);replace HB_F:=hid (HB_F.o.ext g5);replace HB_Z:=hid (HB_Z.o.ext g5);replace HB_M:=hid (HB_M.o.ext g5);replace HB_V:=hid (HB_V.o.ext g5);have HB_H:=hid B_H;clear B_H;obtain ⟨W6,hW6,g6,q6,B6,hy6,ho6⟩:=sto4 HE.o (by omega) HB_Z.o (by decide) (.int .i64 0) (.int .i64 0) (.int .i64 0) (.int .i64 0);rw [←hW6];clear hW6;replace HE:=hid g6;replace HB_F:=hid (ho6 _ _ _ (by omega) HB_F.o);replace HB_M:=hid (ho6 _ _ _ (by omega) HB_M.o);replace HB_V:=hid (ho6 _ _ _ (by omega) HB_V.o);replace HB_H:=hid (ho6 _ _ _ (by omega) HB_H.o);replace HB_Z:=hid B6;have hno:¬ ∀ n∈ws,n<2^(E+P):=fun hall=>Hg.o (by
     rw [Hn.o,List.getD_eq_getElem?_getD,List.getElem?_eq_getElem hlt];exact hall _ (List.getElem_mem hlt))
    unfold withRes;rw [if_neg hno];obtain ⟨J27,J28,J29,J30⟩:=HB_Z.o.c4;refine bodyPost_ret (v:=.tuple #[.agg #[.int .i64 0,.int .i64 0,.int .i64 0,.int .i64 0],.int .i64 6]) (by simp [results,Tryz.results41,go_sem,J27,J28,J29,J30]) rfl ⟨rfl,HE.o⟩
  ·obtain rfl:k=ws.length:=by omega
   rw [List.take_length] at Hfit;obtain ⟨J51,J52⟩:=HB_F.o.c2;obtain ⟨J53,J54,J55,J56⟩:=HB_Z.o.c4;obtain ⟨J57,J58,J59,J60⟩:=HB_M.o.c4;obtain ⟨U61,U62,U63,U64⟩:=HB_Z.o.f4;go_wp2_with fail;clear J51 J52 J53 J54 J55 J56 J57 J58 J59 J60 U61 U62 U63 U64;obtain ⟨W51,hW51,g51,q51,B51,hy51,ho51⟩:=sto4 HE.o (by omega) HB_Z.o (by decide) (.int .i64 (E:Nat)) (.int .i64 (P:Nat)) (.int .i64 (m:Nat)) (.int .i64 (bias E:Nat));rw [←hW51];clear hW51;replace HE:=hid g51;replace HB_F:=hid (ho51 _ _ _ (by omega) HB_F.o);replace HB_M:=hid (ho51 _ _ _ (by omega) HB_M.o);replace HB_Z:=hid B51;unfold withRes;rw [if_pos Hfit.o];obtain ⟨J65,J66,J67,J68⟩:=HB_Z.o.c4;refine bodyPost_ret (v:=.tuple #[.agg #[.int .i64 (E:Nat),.int .i64 (P:Nat),.int .i64 (m:Nat),.int .i64 (bias E:Nat)],.int .i64 0]) (by simp [results,Tryz.results41,go_sem,J65,J66,J67,J68]) rfl ⟨rfl,HE.o⟩
def OSl (w:World) (v:Value) (ks:List Nat):Prop:=∃ (a:Option Addr) (b off cap:Nat),v=.slice a ks.length cap∧ks.length≤cap∧cap≤1000∧(0<ks.length→a=some ⟨b,off,none⟩)∧(∀ k∈ks,k≤5) ∧
 ∀ i,i<ks.length→∃ (neg ng:Bool) (a1:Option Addr) (n1 c1:Nat) (a2:Option Addr) (n2 c2:Nat),w.cell? ⟨b,off+i*5,none⟩=some (.int .i64 (ks.getD i 0:Nat))∧w.cell? ⟨b,off+i*5+1,none⟩=some (.bool neg) ∧
  w.cell? ⟨b,off+i*5+2,none⟩=some (.bool ng)∧w.cell? ⟨b,off+i*5+3,none⟩=some (.slice a1 n1 c1)∧w.cell? ⟨b,off+i*5+4,none⟩=some (.slice a2 n2 c2)
def anyNan (ks:List Nat):Bool:=ks.any (fun k=>decide (4≤k))
def anySig (ks:List Nat):Bool:=ks.any (fun k=>decide (k=5))
def SpecPost (E P:Nat) (ks:List Nat) (w:World) (e:Ending) (w':World):Prop:=e=.returned (.tuple #[Word (nanw E P),.int .i64 (if anySig ks=true then 1 else 0),.bool (anyNan ks)])∧Ext w w'
theorem any_snoc (p:Nat→Bool) (l:List Nat) (x:Nat):(l++[x]).any p=(l.any p||p x):=by simp
def flagOf (ks:List Nat):Int:=if anySig ks=true then 1 else 0
theorem special_c (E P m b:Nat) (v:Value) (ks:List Nat) (w:World) (hF:Fmt E P) (hv:OSl w v ks) :
  Calls Tryz.prog 68 #[.agg #[.int .i64 E,.int .i64 P,.int .i64 m,.int .i64 b],v] w fun e w'=>SpecPost E P ks w e w':=by
 obtain ⟨a,bb,off,cap,rfl,hc1,hc2,ha,hw,hc⟩:=hv;obtain ⟨r0,r1,er⟩:=Word.shape (nanw E P);have c1:∀ w,_:=fun w=>nan_c E P m b w hF;rw [er] at c1;have C1:=hid c1;have Er:=hid er;have HA:=hid ha;have HW:=hid hw;have HC:=hid hc;clear ha hw hc c1 er hF;obtain ⟨W0,hW0,g0,hz0,B_M,B_Z⟩:=pro2s w #[.int .i64 E,.int .i64 P,.int .i64 m,.int .i64 b] #[.int .u64 0,.int .u64 0] 81 29;have HE:=hid g0;have HB_M:=hid B_M;have HB_Z:=hid B_Z;clear g0 B_M B_Z 
 go_enter Tryz.func68,Tryz.ntmps68
 go_upto_block 0 with (fail)
 rw [←hW0];clear hW0;go_wp2_with fail
 go_loopw [7,8,13] (fun u s v wr=>∃ k:Nat,v=.int .i64 k∧k≤ks.length∧u=.int .i64 (flagOf (ks.take k))∧s=.bool (anyNan (ks.take k))∧Hid (Ext W0 wr)) (fun _ _ v _=>ks.length-(intOf v).toNat)
 case atStart=>exact ⟨0,rfl,Nat.zero_le _,rfl,rfl,hid (Below.refl _ _)⟩
 case round =>
  obtain ⟨k,rfl,hk,rfl,rfl,HG⟩:=hrel;have hz_wr:=HG.o.size;replace HE:=hid (HE.o.trans HG.o);have HR_M:=hid (HB_M.o.ext HG.o);have HR_Z:=hid (HB_Z.o.ext HG.o);replace HB_M:=HR_M;replace HB_Z:=HR_Z;clear HR_M HR_Z
  by_cases hlt:k<ks.length
  ·obtain ⟨kd,hkd⟩:∃ kd,kd=ks.getD k 0:=⟨_,rfl⟩;have hk5:kd≤5:=by rw [hkd,List.getD_eq_getElem?_getD,List.getElem?_eq_getElem hlt];exact HW.o _ (List.getElem_mem hlt)
   obtain ⟨neg,ng,a1,n1,c1,a2,n2,c2,e0,e1,e2,e3,e4⟩:=HC.o k hlt;rw [←hkd] at e0;have ht:ks.take (k+1)=ks.take k++[kd]:=by rw [List.take_succ_eq_append_getElem hlt,hkd,List.getD_eq_getElem?_getD,List.getElem?_eq_getElem hlt];rfl
   obtain rfl:=HA.o (by omega);have e5:Ext w wr:=HE.o;replace e0:=e5.cell e0;replace e1:=e5.cell e1;replace e2:=e5.cell e2;replace e3:=e5.cell e3;replace e4:=e5.cell e4;have HN:Hid (anyNan (ks.take (k+1))=(anyNan (ks.take k)||decide (4≤kd))):=hid (by rw [ht];exact any_snoc _ _ _);have HFl:Hid (flagOf (ks.take (k+1))=if kd=5 then 1 else flagOf (ks.take k)):=hid (by
    unfold flagOf;have h:anySig (ks.take (k+1))=(anySig (ks.take k)||decide (kd=5)):=by rw [ht];exact any_snoc _ _ _
    rw [h]
    by_cases h5:kd=5
    ·simp [h5]
    ·simp [h5])
   clear ht hkd e5;generalize flagOf (ks.take k)=F at *
   generalize anyNan (ks.take k)=S at *
   rcases (show kd=5∨kd=4∨kd≤3 by omega) with rfl | rfl | h3<;>cases S
   ·obtain ⟨J1,J2,J3,J4⟩:=HB_M.o.c4;obtain ⟨J5,J6⟩:=HB_Z.o.c2;go_wp2_with fail
    exact ⟨⟨k+1,by go_num,by omega,by rw [HFl.o];rfl,by rw [HN.o];rfl,hid (HG.o.trans (Ext.alloc _ _))⟩,by simp [intOf];omega⟩
   ·obtain ⟨J1,J2,J3,J4⟩:=HB_M.o.c4;obtain ⟨J5,J6⟩:=HB_Z.o.c2;go_wp2_with fail
    exact ⟨⟨k+1,by go_num,by omega,by rw [HFl.o];rfl,by rw [HN.o];rfl,hid (HG.o.trans (Ext.alloc _ _))⟩,by simp [intOf];omega⟩
   ·obtain ⟨J1,J2,J3,J4⟩:=HB_M.o.c4;obtain ⟨J5,J6⟩:=HB_Z.o.c2;go_wp2_with fail
    exact ⟨⟨k+1,by go_num,by omega,by rw [HFl.o];rfl,by rw [HN.o];rfl,hid (HG.o.trans (Ext.alloc _ _))⟩,by simp [intOf];omega⟩
   ·obtain ⟨J1,J2,J3,J4⟩:=HB_M.o.c4;obtain ⟨J5,J6⟩:=HB_Z.o.c2;go_wp2_with fail
    exact ⟨⟨k+1,by go_num,by omega,by rw [HFl.o];rfl,by rw [HN.o];rfl,hid (HG.o.trans (Ext.alloc _ _))⟩,by simp [intOf];omega⟩
   ·have g5:((kd:Int)==5)=false:=beq_eq_false_iff_ne.2 (by omega);have g4:decide ((4:Int)≤(kd:Int))=false:=decide_eq_false (by omega);have g4':decide (4≤kd)=false:=decide_eq_false (by omega);have h5:Hid (¬ kd=5):=hid (by omega);have h4:Hid (¬ 4≤kd):=hid (by omega);obtain ⟨J1,J2,J3,J4⟩:=HB_M.o.c4;obtain ⟨J5,J6⟩:=HB_Z.o.c2;go_wp2_with fail
    exact ⟨⟨k+1,by go_num,by omega,by rw [HFl.o,if_neg h5.o],by rw [HN.o,decide_eq_false h4.o];rfl,hid (HG.o.trans (Ext.alloc _ _))⟩,by simp [intOf];omega⟩
   ·have g5:((kd:Int)==5)=false:=beq_eq_false_iff_ne.2 (by omega);have g4:decide ((4:Int)≤(kd:Int))=false:=decide_eq_false (by omega);have g4':decide (4≤kd)=false:=decide_eq_false (by omega);have h5:Hid (¬ kd=5):=hid (by omega);have h4:Hid (¬ 4≤kd):=hid (by omega);obtain ⟨J1,J2,J3,J4⟩:=HB_M.o.c4;obtain ⟨J5,J6⟩:=HB_Z.o.c2;go_wp2_with fail
    exact ⟨⟨k+1,by go_num,by omega,by rw [HFl.o,if_neg h5.o],by rw [HN.o,decide_eq_false h4.o];rfl,hid (HG.o.trans (Ext.alloc _ _))⟩,by simp [intOf];omega⟩
  ·obtain rfl:k=ks.length:=by omega
   rw [List.take_length];generalize hF:flagOf ks=F at *
   generalize hN:anyNan ks=N at *
   have HF2:=hid hF;have HN2:=hid hN;clear hF hN;obtain ⟨J1,J2,J3,J4⟩:=HB_M.o.c4;obtain ⟨J5,J6⟩:=HB_Z.o.c2;go_wp2_with fail;clear J1 J2 J3 J4 J5 J6;refine (C1.o _).mono ?_;rintro e w1 ⟨rfl,g1⟩;have hz_w1:=g1.size;replace HE:=hid (HE.o.trans g1);replace HB_M:=hid (HB_M.o.ext g1);replace HB_Z:=hid (HB_Z.o.ext g1);obtain ⟨J7,J8,J9,J10⟩:=HB_M.o.c4;obtain ⟨J11,J12⟩:=HB_Z.o.c2;obtain ⟨U13,U14⟩:=HB_Z.o.f2;go_wp2_with fail;clear J7 J8 J9 J10 J11 J12 U13 U14;obtain ⟨W2,hW2,g2,q2,B2,hy2,ho2⟩:=sto2 HE.o (by omega) HB_Z.o (by decide) (.int .u64 r0) (.int .u64 r1);rw [←hW2];clear hW2;replace HE:=hid g2;replace HB_M:=hid (ho2 _ _ _ (by omega) HB_M.o);replace HB_Z:=hid B2;unfold SpecPost;obtain ⟨J15,J16⟩:=HB_Z.o.c2;refine bodyPost_ret (v:=.tuple #[.agg #[.int .u64 r0,.int .u64 r1],.int .i64 F,.bool N]) (by simp [results,Tryz.results68,go_sem,J15,J16]) rfl ⟨by rw [Er.o,HN2.o,←HF2.o];rfl,HE.o⟩
end Go.Proofs.YtopmjkkjlagfcaaGreatDoor
