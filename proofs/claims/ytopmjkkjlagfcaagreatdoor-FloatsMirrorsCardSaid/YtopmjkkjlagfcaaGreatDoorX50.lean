/- exact: the text of a small number. -/
import Derived.Test.YtopmjkkjlagfcaaGreatDoorX36
import Derived.Test.YtopmjkkjlagfcaaGreatDoorX39
namespace Go.Proofs.YtopmjkkjlagfcaaGreatDoor
open Go.RowKit Vn
set_option maxRecDepth 100000
set_option maxHeartbeats 8000000
theorem decT1 {n:Nat} (h:n<10):decT n=⟨#[UInt8.ofNat (48+n)]⟩:=by
 unfold decT;rw [Lib.decDigits_one h]
theorem cat3 (a b c:UInt8):ByteArray.mk #[a]++(ByteArray.mk #[b]++ByteArray.mk #[c])=⟨#[a,b,c]⟩:=by
 apply ByteArray.ext;simp [ByteArray.data_append]
theorem numText_whole {n:Nat} (h:n<10):numText ((n:Nat):Rat)=⟨#[UInt8.ofNat (48+n)]⟩:=by
 have e1:((n:Nat):Rat).num=n:=rfl;have e2:((n:Nat):Rat).den=1:=rfl;unfold numText;rw [e1,e2,if_neg (by omega),if_pos rfl,ba_empty,Int.natAbs_natCast,decT1 h]
theorem numText_quo {q:Rat} {n d:Nat} (hq1:q.num=n) (hq2:q.den=d) (hn:n<10) (hd0:1<d) (hd:d<10):numText q=⟨#[UInt8.ofNat (48+n),47,UInt8.ofNat (48+d)]⟩:=by
 unfold numText;rw [hq1,hq2,if_neg (by omega),if_neg (by omega),Int.natAbs_natCast,decT1 hn,decT1 hd,cat3]
theorem Text_whole (v:Value) (q:Rat) (n:Nat) (w:World) (hv:NumV w v q) (hq:q=n) (hn:n<10) (hT:Tabs w) :
  Calls Tryz.prog 67 #[v] w fun e w'=>e=.returned (.string ⟨#[UInt8.ofNat (48+n)]⟩)∧Ext w w':=by
 subst hq
 have:=Text_c v _ 10 w hv (SmQ.nat (by decide) (by omega)) (by decide) hT
 rwa [numText_whole hn] at this
theorem Text_quo (v:Value) (q:Rat) (n d:Nat) (w:World) (hv:NumV w v q) (hq1:q.num=n) (hq2:q.den=d) (hn:n<10) (hd0:1<d) (hd:d<10) (hT:Tabs w) :
  Calls Tryz.prog 67 #[v] w fun e w'=>e=.returned (.string ⟨#[UInt8.ofNat (48+n),47,UInt8.ofNat (48+d)]⟩)∧Ext w w':=by
 have:=Text_c v q 10 w hv ⟨by unfold Sm;rw [hq1,Int.natAbs_natCast];omega,by unfold Sm;rw [hq2];omega⟩ (by decide) hT
 rwa [numText_quo hq1 hq2 hn hd0 hd] at this
theorem wvalK_small {E P n:Nat} (hF:Fmt E P):SmQ 5000 (wvalK E P (bias E) n):=by
 by_cases h:wkind E P n≤2
 ·exact wvalK_sm hF h
 ·have hc:=wkind_cases E P n;have hP:2≤P∧P≤113:=by unfold Fmt at hF;omega
  have hp:2^(P-1)≤2^113:=Nat.pow_le_pow_right (by decide) (by omega);have hr:wr P n<2^(P-1):=Nat.mod_lt _ (Nat.pow_pos (by decide));have hr2:wr P n%2^(P-2)<2^113:=Nat.lt_of_le_of_lt (Nat.mod_le _ _) (Nat.lt_of_lt_of_le hr hp);unfold wvalK;rw [if_neg (by omega)]
  split
  ·exact (SmQ.nat (K:=113) (by decide) hr2).mono (by decide)
  ·split
   ·exact (SmQ.nat (K:=113) (by decide) (Nat.lt_of_lt_of_le hr hp)).mono (by decide)
   ·exact SmQ.zero _ (by decide)
def decodeR (E P n:Nat):Value:=if n<2^(E+P) then .tuple #[.agg #[.int .i64 (wkind E P n),.bool (wn E P n),.string (numText (wvalK E P (bias E) n))],.int .i64 0] else .tuple #[.agg #[.int .i64 0,.bool false,.string ⟨#[]⟩],.int .i64 6]
theorem Decode_good (E P n:Nat) (w:World) (hF:Fmt E P) (hn:W128 n) (hT:Tabs w) :
  Calls Tryz.prog 37 #[.agg #[.int .i64 (E:Nat),.int .i64 (P:Nat)],Word n] w fun e w'=>e=.returned (decodeR E P n)∧Ext w w':=by
 obtain ⟨n0,hn0⟩:∃ n0:Nat,n0=n/18446744073709551616:=⟨_,rfl⟩;obtain ⟨n1,hn1⟩:∃ n1:Nat,n1=n%18446744073709551616:=⟨_,rfl⟩;have en:Word n=.agg #[.int .u64 n0,.int .u64 n1]:=by unfold Word;rw [←hn0,←hn1]
 have CL:Hid (∀ w,Calls Tryz.prog 69 #[.agg #[.int .i64 (E:Nat),.int .i64 (P:Nat),.int .i64 0,.int .i64 (bias E:Nat)],.agg #[.int .u64 n0,.int .u64 n1]] w (LookPost (wkind E P n) (wn E P n) (wvalK E P (bias E) n) w)):=hid fun w=>by
  rw [←en];exact look_c E P 0 (bias E) n w hF (by
   have:2^(E-1)≤1024:=Nat.pow_le_pow_right (n:=2) (by decide) (show E-1≤10 by unfold Fmt at hF;omega)
   unfold bias;omega) hn
 obtain ⟨S,hS⟩:∃ S,S=numText (wvalK E P (bias E) n):=⟨_,rfl⟩;have CT:Hid (∀ (v:Value) (w:World),NumV w v (wvalK E P (bias E) n)→Tabs w→Calls Tryz.prog 67 #[v] w fun e w'=>e=.returned (.string S)∧Ext w w'):=hid fun v w h hT=>by rw [hS];exact Text_c v _ 5000 w h (wvalK_small hF) (by decide) hT
 rw [en];have HF:=hid hF;have HN:=hid hn;have HN0:=hid hn0;have HN1:=hid hn1;have HS:=hid hS;have HT:=hid hT;clear hF hn hn0 hn1 en hS hT;obtain ⟨W0,hW0,g0,hz0,B_F,B_W,B_Z⟩:=pro3s w #[.int .i64 (E:Nat),.int .i64 (P:Nat)] #[.int .u64 n0,.int .u64 n1] #[.int .i64 0,.bool false,.string ⟨#[]⟩] 23 29 26;have HE:=hid g0;have HB_F:=hid B_F;have HB_W:=hid B_W;have HB_Z:=hid B_Z;clear g0 B_F B_W B_Z 
 go_enter Tryz.func37,Tryz.ntmps37
 go_upto_region 1 with (fail)
 rw [←hW0];clear hW0;obtain ⟨J1,J2⟩:=HB_F.o.c2;obtain ⟨J3,J4⟩:=HB_W.o.c2;obtain ⟨J5,J6,J7⟩:=HB_Z.o.c3;go_wp2_with fail;clear J1 J2 J3 J4 J5 J6 J7;obtain ⟨W1,hW1,g1,hy1,B_R⟩:=pro1 W0 #[.int .u64 n0,.int .u64 n1] 29;rw [←hW1];clear hW1;have hz_W1:=g1.size;replace HE:=hid (HE.o.trans g1);replace HB_F:=hid (HB_F.o.ext g1);replace HB_W:=hid (HB_W.o.ext g1);replace HB_Z:=hid (HB_Z.o.ext g1);have HB_R:=hid B_R;clear B_R;have HWS:Hid (WSl W1 (.slice (some ⟨W0.heap.size,0,none⟩) 1 1) [n]):=hid ⟨some ⟨W0.heap.size,0,none⟩,W0.heap.size,0,1,rfl,Nat.le_refl _,by decide,fun _=>rfl,fun x hx=>by
   rw [List.mem_singleton] at hx;rw [hx];exact HN.o,fun i hi=>by
   obtain rfl:i=0:=by simpa using hi
   refine ⟨?_,?_⟩
   ·have:=HB_R.o.cell 0;rw [HN0.o] at this;exact this
   ·have:=HB_R.o.cell 1;rw [HN1.o] at this;exact this⟩
 by_cases hfit:n<2^(E+P)
 ·have HW:Hid (withRes E P 0 [n]=.tuple #[.agg #[.int .i64 (E:Nat),.int .i64 (P:Nat),.int .i64 0,.int .i64 (bias E:Nat)],.int .i64 0]):=hid (by unfold withRes;rw [if_pos (fun x hx=>by rw [List.mem_singleton] at hx;rw [hx];exact hfit)];rfl);have HD:Hid (decodeR E P n=.tuple #[.agg #[.int .i64 (wkind E P n),.bool (wn E P n),.string S],.int .i64 0]):=hid (by unfold decodeR;rw [if_pos hfit,←HS.o]);clear hfit;refine (with_good E P 0 _ [n] _ (by decide) HF.o HWS.o).mono ?_;rintro e w2 ⟨rfl,g2⟩;have hz_w2:=g2.size;replace HE:=hid (HE.o.trans g2);replace HB_F:=hid (HB_F.o.ext g2);replace HB_W:=hid (HB_W.o.ext g2);replace HB_Z:=hid (HB_Z.o.ext g2);rw [HW.o];have gA:=Ext.alloc w2 (.cells #[.int .i64 (E:Nat),.int .i64 (P:Nat),.int .i64 0,.int .i64 (bias E:Nat)] 81);obtain ⟨J8,J9⟩:=(HB_F.o.ext gA).c2;obtain ⟨J10,J11⟩:=(HB_W.o.ext gA).c2;obtain ⟨J12,J13,J14⟩:=(HB_Z.o.ext gA).c3;go_wp2_with fail;clear gA J8 J9 J10 J11 J12 J13 J14;obtain ⟨W3,hW3,g3,hy3,B_M⟩:=pro1 w2 #[.int .i64 (E:Nat),.int .i64 (P:Nat),.int .i64 0,.int .i64 (bias E:Nat)] 81;rw [←hW3];clear hW3;have hz_W3:=g3.size;replace HE:=hid (HE.o.trans g3);replace HB_F:=hid (HB_F.o.ext g3);replace HB_W:=hid (HB_W.o.ext g3);replace HB_Z:=hid (HB_Z.o.ext g3);have HB_M:=hid B_M;clear B_M;refine (CL.o _).mono ?_;rintro e w4 ⟨v1,rfl,⟨ng,a,k,c,a',k',c',rfl,kv⟩,g4⟩;have hz_w4:=g4.size;replace HE:=hid (HE.o.trans g4);replace HB_F:=hid (HB_F.o.ext g4);replace HB_W:=hid (HB_W.o.ext g4);replace HB_Z:=hid (HB_Z.o.ext g4);replace HB_M:=hid (HB_M.o.ext g4);generalize wkind E P n=kd at *
  generalize wn E P n=sg at *
  generalize wvalK E P (bias E) n=qv at *
  have gA:=Ext.alloc w4 (.cells #[.int .i64 kd,.bool sg,.bool ng,.slice a k c,.slice a' k' c'] 112);obtain ⟨J15,J16⟩:=(HB_F.o.ext gA).c2;obtain ⟨J17,J18⟩:=(HB_W.o.ext gA).c2;obtain ⟨J19,J20,J21⟩:=(HB_Z.o.ext gA).c3;obtain ⟨J22,J23,J24,J25⟩:=(HB_M.o.ext gA).c4;go_wp2_with fail;clear gA J15 J16 J17 J18 J19 J20 J21 J22 J23 J24 J25;obtain ⟨W5,hW5,g5,hy5,B_X⟩:=pro1 w4 #[.int .i64 kd,.bool sg,.bool ng,.slice a k c,.slice a' k' c'] 112;rw [←hW5];clear hW5;have hz_W5:=g5.size;replace HE:=hid (HE.o.trans g5);replace HB_F:=hid (HB_F.o.ext g5);replace HB_W:=hid (HB_W.o.ext g5);replace HB_Z:=hid (HB_Z.o.ext g5);replace HB_M:=hid (HB_M.o.ext g5);replace kv:=kv.ext g5;have HB_X:=hid B_X;clear B_X;have HS:Hid (∀ w',Ext W5 w'→w'.cell? ⟨w4.heap.size,0,none⟩=some (.int .i64 kd)∧w'.cell? ⟨w4.heap.size,1,none⟩=some (.bool sg)∧w'.cell? ⟨w4.heap.size,2,none⟩=some (.bool ng)∧w'.cell? ⟨w4.heap.size,3,none⟩=some (.slice a k c)∧w'.cell? ⟨w4.heap.size,4,none⟩=some (.slice a' k' c')):=hid fun w' h=>⟨(HB_X.o.ext h).cell 0,(HB_X.o.ext h).cell 1,(HB_X.o.ext h).cell 2,(HB_X.o.ext h).cell 3,(HB_X.o.ext h).cell 4⟩;have hne_X:w4.heap.size≠w.heap.size+1+1:=by omega
  have HSZ:Hid (∀ (v0 v1 v2:Value) (w':World),Ext W5 w'→(((w'.setCell ⟨w.heap.size+1+1,0,none⟩ v0).setCell ⟨w.heap.size+1+1,1,none⟩ v1).setCell ⟨w.heap.size+1+1,2,none⟩ v2).cell? ⟨w4.heap.size,0,none⟩=some (.int .i64 kd)∧(((w'.setCell ⟨w.heap.size+1+1,0,none⟩ v0).setCell ⟨w.heap.size+1+1,1,none⟩ v1).setCell ⟨w.heap.size+1+1,2,none⟩ v2).cell? ⟨w4.heap.size,1,none⟩=some (.bool sg)∧(((w'.setCell ⟨w.heap.size+1+1,0,none⟩ v0).setCell ⟨w.heap.size+1+1,1,none⟩ v1).setCell ⟨w.heap.size+1+1,2,none⟩ v2).cell? ⟨w4.heap.size,2,none⟩=some (.bool ng)∧(((w'.setCell ⟨w.heap.size+1+1,0,none⟩ v0).setCell ⟨w.heap.size+1+1,1,none⟩ v1).setCell ⟨w.heap.size+1+1,2,none⟩ v2).cell? ⟨w4.heap.size,3,none⟩=some (.slice a k c)∧(((w'.setCell ⟨w.heap.size+1+1,0,none⟩ v0).setCell ⟨w.heap.size+1+1,1,none⟩ v1).setCell ⟨w.heap.size+1+1,2,none⟩ v2).cell? ⟨w4.heap.size,4,none⟩=some (.slice a' k' c')):=hid fun v0 v1 v2 w' h=>⟨(cell_other hne_X (cell_other hne_X (cell_other hne_X ((HB_X.o.ext h).cell 0)))),(cell_other hne_X (cell_other hne_X (cell_other hne_X ((HB_X.o.ext h).cell 1)))),(cell_other hne_X (cell_other hne_X (cell_other hne_X ((HB_X.o.ext h).cell 2)))),(cell_other hne_X (cell_other hne_X (cell_other hne_X ((HB_X.o.ext h).cell 3)))),(cell_other hne_X (cell_other hne_X (cell_other hne_X ((HB_X.o.ext h).cell 4))))⟩;clear hne_X;have hb0:Ext W5 W5.drew:=Below.drew (Below.refl _ W5)
  go_region_held3 (fun w'=>w'.cell? ⟨w4.heap.size,0,none⟩=some (.int .i64 kd)∧w'.cell? ⟨w4.heap.size,1,none⟩=some (.bool sg)∧w'.cell? ⟨w4.heap.size,2,none⟩=some (.bool ng)∧w'.cell? ⟨w4.heap.size,3,none⟩=some (.slice a k c)∧w'.cell? ⟨w4.heap.size,4,none⟩=some (.slice a' k' c'))
    (first | exact HS.o _ (by assumption) | exact HSZ.o _ _ _ _ (by assumption))
   (first
   | (go_at_call 67;(with_reducible refine (CT.o _ _ (kv.ext (Ext.undrew (Below.refl _ _))) (HT.o.ext (HE.o.trans (Ext.undrew (Below.refl _ _))))).mono ?_);rintro e x26_1 ⟨rfl,g1⟩;have hb1:Ext W5 x26_1:=hb0.trans g1;obtain ⟨zc0,zc1,zc2⟩:=(HB_Z.o.ext hb1).c3;obtain ⟨zf0,zf1,zf2⟩:=(HB_Z.o.ext hb1).f3))
  clear HS HSZ;have hz_x26_1:=hb1.size;replace HE:=hid (HE.o.trans hb1);replace HB_F:=hid (HB_F.o.ext hb1);replace HB_W:=hid (HB_W.o.ext hb1);replace HB_Z:=hid (HB_Z.o.ext hb1);replace HB_M:=hid (HB_M.o.ext hb1);replace HB_X:=hid (HB_X.o.ext hb1);replace kv:=kv.ext hb1;obtain ⟨J27,J28⟩:=HB_F.o.c2;obtain ⟨J29,J30⟩:=HB_W.o.c2;obtain ⟨J31,J32,J33⟩:=HB_Z.o.c3;obtain ⟨J34,J35,J36,J37⟩:=HB_M.o.c4;obtain ⟨J38,J39,J40,J41,J42⟩:=HB_X.o.c5;obtain ⟨U43,U44,U45⟩:=HB_Z.o.f3;go_wp2_with fail;clear J27 J28 J29 J30 J31 J32 J33 J34 J35 J36 J37 J38 J39 J40 J41 J42 U43 U44 U45;obtain ⟨W6,hW6,g6,q6,B6,hy6,ho6⟩:=sto3 HE.o (by omega) HB_Z.o (by decide) (.int .i64 kd) (.bool sg) (.string S);rw [←hW6];clear hW6;replace HE:=hid g6;replace HB_F:=hid (ho6 _ _ _ (by omega) HB_F.o);replace HB_W:=hid (ho6 _ _ _ (by omega) HB_W.o);replace HB_M:=hid (ho6 _ _ _ (by omega) HB_M.o);replace HB_X:=hid (ho6 _ _ _ (by omega) HB_X.o);replace HB_Z:=hid B6;replace kv:=kv.keep q6;rw [HD.o];obtain ⟨J46,J47,J48⟩:=HB_Z.o.c3;refine bodyPost_ret (v:=.tuple #[.agg #[.int .i64 kd,.bool sg,.string S],.int .i64 0]) (by simp [results,Tryz.results37,go_sem,J46,J47,J48]) rfl ⟨rfl,HE.o⟩
 ·have HW:Hid (withRes E P 0 [n]=.tuple #[.agg #[.int .i64 0,.int .i64 0,.int .i64 0,.int .i64 0],.int .i64 6]):=hid (by unfold withRes;rw [if_neg (fun h=>hfit (h n (by simp)))]);have HD:Hid (decodeR E P n=.tuple #[.agg #[.int .i64 0,.bool false,.string ⟨#[]⟩],.int .i64 6]):=hid (by unfold decodeR;rw [if_neg hfit]);clear hfit;refine (with_good E P 0 _ [n] _ (by decide) HF.o HWS.o).mono ?_;rintro e w2 ⟨rfl,g2⟩;have hz_w2:=g2.size;replace HE:=hid (HE.o.trans g2);replace HB_F:=hid (HB_F.o.ext g2);replace HB_W:=hid (HB_W.o.ext g2);replace HB_Z:=hid (HB_Z.o.ext g2);rw [HW.o];have gA:=Ext.alloc w2 (.cells #[.int .i64 0,.int .i64 0,.int .i64 0,.int .i64 0] 81);obtain ⟨J8,J9,J10⟩:=(HB_Z.o.ext gA).c3;obtain ⟨U11,U12,U13⟩:=(HB_Z.o.ext gA).f3;go_wp2_with fail;clear gA J8 J9 J10 U11 U12 U13;obtain ⟨W3,hW3,g3,hy3,B_M⟩:=pro1 w2 #[.int .i64 0,.int .i64 0,.int .i64 0,.int .i64 0] 81;rw [←hW3];clear hW3;have hz_W3:=g3.size;replace HE:=hid (HE.o.trans g3);replace HB_F:=hid (HB_F.o.ext g3);replace HB_W:=hid (HB_W.o.ext g3);replace HB_Z:=hid (HB_Z.o.ext g3);have HB_M:=hid B_M;clear B_M;obtain ⟨W4,hW4,g4,q4,B4,hy4,ho4⟩:=sto3 HE.o (by omega) HB_Z.o (by decide) (.int .i64 0) (.bool false) (.string ⟨#[]⟩);rw [←hW4];clear hW4;replace HE:=hid g4;replace HB_F:=hid (ho4 _ _ _ (by omega) HB_F.o);replace HB_W:=hid (ho4 _ _ _ (by omega) HB_W.o);replace HB_M:=hid (ho4 _ _ _ (by omega) HB_M.o);replace HB_Z:=hid B4;rw [HD.o];obtain ⟨J14,J15,J16⟩:=HB_Z.o.c3;refine bodyPost_ret (v:=.tuple #[.agg #[.int .i64 0,.bool false,.string ⟨#[]⟩],.int .i64 6]) (by simp [results,Tryz.results37,go_sem,J14,J15,J16]) rfl ⟨rfl,HE.o⟩
theorem kd12:wkind 3 3 12=2:=by decide
theorem wn12:wn 3 3 12=false:=by decide
theorem wv12:wvalK 3 3 3 12=1:=by decide +kernel
theorem dec12:decodeR 3 3 12=.tuple #[.agg #[.int .i64 2,.bool false,.string ⟨#[49]⟩],.int .i64 0]:=by
 unfold decodeR;rw [if_pos (by decide),kd12,wn12,show bias 3=3 from rfl,wv12,show (1:Rat)=((1:Nat):Rat) from rfl,numText_whole (by decide)]
 rfl
theorem Decode_one (w:World) (hT:Tabs w) :
  Calls Tryz.prog 37 #[.agg #[.int .i64 3,.int .i64 3],.agg #[.int .u64 0,.int .u64 12]] w fun e w'=>e=.returned (.tuple #[.agg #[.int .i64 2,.bool false,.string ⟨#[49]⟩],.int .i64 0])∧Ext w w':=by
 have:=Decode_good 3 3 12 w (by unfold Fmt;decide) (by decide) hT
 rw [dec12] at this
 exact this
end Go.Proofs.YtopmjkkjlagfcaaGreatDoor
