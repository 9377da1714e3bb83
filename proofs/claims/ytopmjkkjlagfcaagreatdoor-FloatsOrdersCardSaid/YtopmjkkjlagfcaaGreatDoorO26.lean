/- floats: special. -/
import Derived.Test.YtopmjkkjlagfcaaGreatDoorO24
namespace Go.Proofs.YtopmjkkjlagfcaaGreatDoor
open Go.RowKit Vn
set_option maxRecDepth 100000
set_option maxHeartbeats 8000000
def OSl (w:World) (v:Value) (ks:List Nat):Prop:=∃ (a:Option Addr) (b off cap:Nat),v=.slice a ks.length cap∧ks.length≤cap∧cap≤1000∧(0<ks.length→a=some ⟨b,off,none⟩)∧(∀ k∈ks,k≤5) ∧
 ∀ i,i<ks.length→∃ (neg ng:Bool) (a1:Option Addr) (n1 c1:Nat) (a2:Option Addr) (n2 c2:Nat),w.cell? ⟨b,off+i*5,none⟩=some (.int .i64 (ks.getD i 0:Nat))∧w.cell? ⟨b,off+i*5+1,none⟩=some (.bool neg) ∧
  w.cell? ⟨b,off+i*5+2,none⟩=some (.bool ng)∧w.cell? ⟨b,off+i*5+3,none⟩=some (.slice a1 n1 c1)∧w.cell? ⟨b,off+i*5+4,none⟩=some (.slice a2 n2 c2)
def anyNan (ks:List Nat):Bool:=ks.any (fun k=>decide (4≤k))
def anySig (ks:List Nat):Bool:=ks.any (fun k=>decide (k=5))
def SpecPost (E P:Nat) (ks:List Nat) (w:World) (e:Ending) (w':World):Prop:=e=.returned (.tuple #[Word (nanw E P),.int .i64 (if anySig ks=true then 1 else 0),.bool (anyNan ks)])∧Ext w w'
theorem any_snoc (p:Nat→Bool) (l:List Nat) (x:Nat):(l++[x]).any p=(l.any p||p x):=by simp
def flagOf (ks:List Nat):Int:=if anySig ks=true then 1 else 0
theorem special_c (E P m b:Nat) (v:Value) (ks:List Nat) (w:World) (hF:Fmt E P) (hv:OSl w v ks) :
  Calls Tryz.prog 68 #[.agg #[.int .i64 E,.int .i64 P,.int .i64 m,.int .i64 b],v] w fun e w'=>SpecPost E P ks w e w':=by
 obtain ⟨a,bb,off,cap,rfl,hc1,hc2,ha,hw,hc⟩:=hv;obtain ⟨r0,r1,er⟩:=Word.shape (nanw E P);have c1:∀ w,_:=fun w=>nan_c E P m b w hF;rw [er] at c1;have C1:=hid c1;have Er:=hid er;have HA:=hid ha;have HW:=hid hw;have HC:=hid hc;clear ha hw hc c1 er hF;obtain ⟨W0,hW0,g0,hz0,B_M,B_Z⟩:=pro2s w #[.int .i64 E,.int .i64 P,.int .i64 m,.int .i64 b] #[.int .u64 0,.int .u64 0] 81 29;have HE:=hid g0;have HB_M:=hid B_M;have HB_Z:=hid B_Z;clear g0 B_M B_Z 
 go_enter Tryz.func68,Tryz.ntmps68
 go_upto_block 0 with (fail)
 rw [←hW0];clear hW0;go_wp2_with fail
 go_loopw [7,8,13] (fun u s v wr=>∃ k:Nat,v=.int .i64 k∧k≤ks.length∧u=.int .i64 (flagOf (ks.take k))∧s=.bool (anyNan (ks.take k))∧Hid (Ext W0 wr)) (fun _ _ v _=>ks.length-(intOf v).toNat)
 case atStart=>exact ⟨0,rfl,Nat.zero_le _,rfl,rfl,hid (Below.refl _ _)⟩
 case round =>
  obtain ⟨k,rfl,hk,rfl,rfl,HG⟩:=hrel;have hz_wr:=HG.o.size;replace HE:=hid (HE.o.trans HG.o);have HR_M:=hid (HB_M.o.ext HG.o);have HR_Z:=hid (HB_Z.o.ext HG.o);replace HB_M:=HR_M;replace HB_Z:=HR_Z;clear HR_M HR_Z
  by_cases hlt:k<ks.length
  ·obtain ⟨kd,hkd⟩:∃ kd,kd=ks.getD k 0:=⟨_,rfl⟩;have hk5:kd≤5:=by rw [hkd,List.getD_eq_getElem?_getD,List.getElem?_eq_getElem hlt];exact HW.o _ (List.getElem_mem hlt)
   obtain ⟨neg,ng,a1,n1,c1,a2,n2,c2,e0,e1,e2,e3,e4⟩:=HC.o k hlt;rw [←hkd] at e0;have ht:ks.take (k+1)=ks.take k++[kd]:=by rw [List.take_succ_eq_append_getElem hlt,hkd,List.getD_eq_getElem?_getD,List.getElem?_eq_getElem hlt];rfl
   obtain rfl:=HA.o (by omega);have e5:Ext w wr:=HE.o;replace e0:=e5.cell e0;replace e1:=e5.cell e1;replace e2:=e5.cell e2;replace e3:=e5.cell e3;replace e4:=e5.cell e4;have HN:Hid (anyNan (ks.take (k+1))=(anyNan (ks.take k)||decide (4≤kd))):=hid (by rw [ht];exact any_snoc _ _ _);have HFl:Hid (flagOf (ks.take (k+1))=if kd=5 then 1 else flagOf (ks.take k)):=hid (by
    unfold flagOf;have h:anySig (ks.take (k+1))=(anySig (ks.take k)||decide (kd=5)):=by rw [ht];exact any_snoc _ _ _
    rw [h]
    by_cases h5:kd=5
    ·simp [h5]
    ·simp [h5])
   clear ht hkd e5;generalize flagOf (ks.take k)=F at *
   generalize anyNan (ks.take k)=S at *
   rcases (show kd=5∨kd=4∨kd≤3 by omega) with rfl | rfl | h3<;>cases S
   ·obtain ⟨J1,J2,J3,J4⟩:=HB_M.o.c4;obtain ⟨J5,J6⟩:=HB_Z.o.c2;go_wp2_with fail
    exact ⟨⟨k+1,by go_num,by omega,by rw [HFl.o];rfl,by rw [HN.o];rfl,hid (HG.o.trans (Ext.alloc _ _))⟩,by simp [intOf];omega⟩
   ·obtain ⟨J1,J2,J3,J4⟩:=HB_M.o.c4;obtain ⟨J5,J6⟩:=HB_Z.o.c2;go_wp2_with fail
    exact ⟨⟨k+1,by go_num,by omega,by rw [HFl.o];rfl,by rw [HN.o];rfl,hid (HG.o.trans (Ext.alloc _ _))⟩,by simp [intOf];omega⟩
   ·obtain ⟨J1,J2,J3,J4⟩:=HB_M.o.c4;obtain ⟨J5,J6⟩:=HB_Z.o.c2;go_wp2_with fail
    exact ⟨⟨k+1,by go_num,by omega,by rw [HFl.o];rfl,by rw [HN.o];rfl,hid (HG.o.trans (Ext.alloc _ _))⟩,by simp [intOf];omega⟩
   ·obtain ⟨J1,J2,J3,J4⟩:=HB_M.o.c4;obtain ⟨J5,J6⟩:=HB_Z.o.c2;go_wp2_with fail
    exact ⟨⟨k+1,by go_num,by omega,by rw [HFl.o];rfl,by rw [HN.o];rfl,hid (HG.o.trans (Ext.alloc _ _))⟩,by simp [intOf];omega⟩
   ·have g5:((kd:Int)==5)=false:=beq_eq_false_iff_ne.2 (by omega);have g4:decide ((4:Int)≤(kd:Int))=false:=decide_eq_false (by omega);have g4':decide (4≤kd)=false:=decide_eq_false (by omega);have h5:Hid (¬ kd=5):=hid (by omega);have h4:Hid (¬ 4≤kd):=hid (by omega);obtain ⟨J1,J2,J3,J4⟩:=HB_M.o.c4;obtain ⟨J5,J6⟩:=HB_Z.o.c2;go_wp2_with fail
    exact ⟨⟨k+1,by go_num,by omega,by rw [HFl.o,if_neg h5.o],by rw [HN.o,decide_eq_false h4.o];rfl,hid (HG.o.trans (Ext.alloc _ _))⟩,by simp [intOf];omega⟩
   ·have g5:((kd:Int)==5)=false:=beq_eq_false_iff_ne.2 (by omega);have g4:decide ((4:Int)≤(kd:Int))=false:=decide_eq_false (by omega);have g4':decide (4≤kd)=false:=decide_eq_false (by omega);have h5:Hid (¬ kd=5):=hid (by omega);have h4:Hid (¬ 4≤kd):=hid (by omega);obtain ⟨J1,J2,J3,J4⟩:=HB_M.o.c4;obtain ⟨J5,J6⟩:=HB_Z.o.c2;go_wp2_with fail
    exact ⟨⟨k+1,by go_num,by omega,by rw [HFl.o,if_neg h5.o],by rw [HN.o,decide_eq_false h4.o];rfl,hid (HG.o.trans (Ext.alloc _ _))⟩,by simp [intOf];omega⟩
  ·obtain rfl:k=ks.length:=by omega
   rw [List.take_length];generalize hF:flagOf ks=F at *
   generalize hN:anyNan ks=N at *
   have HF2:=hid hF;have HN2:=hid hN;clear hF hN;obtain ⟨J1,J2,J3,J4⟩:=HB_M.o.c4;obtain ⟨J5,J6⟩:=HB_Z.o.c2;go_wp2_with fail;clear J1 J2 J3 J4 J5 J6;refine (C1.o _).mono ?_;rintro e w1 ⟨rfl,g1⟩;have hz_w1:=g1.size;replace HE:=hid (HE.o.trans g1);replace HB_M:=hid (HB_M.o.ext g1);replace HB_Z:=hid (HB_Z.o.ext g1);obtain ⟨J7,J8,J9,J10⟩:=HB_M.o.c4;obtain ⟨J11,J12⟩:=HB_Z.o.c2;obtain ⟨U13,U14⟩:=HB_Z.o.f2;go_wp2_with fail;clear J7 J8 J9 J10 J11 J12 U13 U14;obtain ⟨W2,hW2,g2,q2,B2,hy2,ho2⟩:=sto2 HE.o (by omega) HB_Z.o (by decide) (.int .u64 r0) (.int .u64 r1);rw [←hW2];clear hW2;replace HE:=hid g2;replace HB_M:=hid (ho2 _ _ _ (by omega) HB_M.o);replace HB_Z:=hid B2;unfold SpecPost;obtain ⟨J15,J16⟩:=HB_Z.o.c2;refine bodyPost_ret (v:=.tuple #[.agg #[.int .u64 r0,.int .u64 r1],.int .i64 F,.bool N]) (by simp [results,Tryz.results68,go_sem,J15,J16]) rfl ⟨by rw [Er.o,HN2.o,←HF2.o];rfl,HE.o⟩
end Go.Proofs.YtopmjkkjlagfcaaGreatDoor
