/- The reference's numbers: Log, Int64. -/
import Derived.Test.YtgabigepocfllaaGreatDoorQ32
namespace Go.Proofs.YtgabigepocfllaaGreatDoor
open Go.RowKit Vn
set_option maxRecDepth 100000
set_option maxHeartbeats 8000000
theorem log_cmp {q:Rat} (h:0<q.num) (k:Int) (hk:k=(bl q.num.natAbs:Int)-bl q.den):IsLog q (if cmpQ q ((2:Rat)^k)<0 then k-1 else k):=by
 have h1:=log_is h k hk;have hc:=lt_p2 h (max k 0).toNat (max (-k) 0).toNat;rw [show ((max k 0).toNat:Int)-((max (-k) 0).toNat:Int)=k by omega] at hc
 by_cases h2:q<(2:Rat)^k
 ·rw [if_pos (hc.1 h2)] at h1;rw [if_pos (cmpQ_lt.2 h2)];exact h1
 ·rw [if_neg (fun e=>h2 (hc.2 e))] at h1;rw [if_neg (fun e=>h2 (cmpQ_lt.1 e))];exact h1
theorem Sm.bl {K n:Nat} (h:Sm K n):bl n≤K:=bl_le_of_lt h
theorem p2_sm {L:Nat} {k:Int} (h:k.natAbs<L):SmQ (2+L) ((2:Rat)^k):=by
 have:=(SmQ.int (K:=2) (n:=1) (by decide) (by decide)).mul_p2 k L h
 rwa [show ((1:Int):Rat)*(2:Rat)^k=(2:Rat)^k from by rw [show ((1:Int):Rat)=1 from rfl,Rat.one_mul]] at this
theorem rlog_c (x:Value) (q:Rat) (K:Nat) (w:World) (hx:RNumV w x q) (sx:SmQ K q) (hK:K≤300000) (h0:q≠0) :
  Calls Tryz.prog 176 #[x] w fun e w'=>∃ k:Int,e=.returned (.int .i64 k)∧Hid (IsLog (absQ q) k)∧Ext w w':=by
 obtain ⟨s1,a1,n1,c1,a1',n1',c1',rfl⟩:=hx.shape;have hvx:=hx;have HK:=hid hK;have SX:=hid sx;have HN:Hid (q.num≠0):=hid (fun e=>h0 (Rat.num_eq_zero.1 e));have hs0:(s1==0)=false:=by
  rw [hx.sign];exact beq_eq_false_iff_ne.2 (fun e=>HN.o (Int.sign_eq_zero_iff_zero.1 e))
 have HZ:Hid ((if q=0 then 0 else q.den)=q.den):=hid (if_neg h0);obtain ⟨M,hM⟩:∃ M,M=bl q.num.natAbs:=⟨_,rfl⟩;obtain ⟨N,hN⟩:∃ N,N=bl q.den:=⟨_,rfl⟩;have hM1:M≤K:=by rw [hM];exact sx.1.bl
 have hN1:N≤K:=by rw [hN];exact sx.2.bl
 obtain ⟨k,hk⟩:∃ k:Int,k=(M:Int)-(N:Int):=⟨_,rfl⟩;have hk1 : -300000≤k:=by omega
 have hk2:k≤300000:=by omega
 have hwk:IntKind.i64.wrap ((M:Int)-(N:Int))=k:=by rw [hk];exact IntWalk.i64_in _ (by omega)
 have CL1:Hid (∀ w u,RefV w u q.num.natAbs→Calls Tryz.prog 228 #[u] w fun e w'=>e=.returned (.int .i64 (M:Nat))∧Ext w w'):=hid fun w u h=>by rw [hM];exact rlength_c u _ K w h SX.o.1 HK.o
 have CL2:Hid (∀ w u,RefV w u q.den→Calls Tryz.prog 228 #[u] w fun e w'=>e=.returned (.int .i64 (N:Nat))∧Ext w w'):=hid fun w u h=>by rw [hN];exact rlength_c u _ K w h SX.o.2 HK.o
 have HL:Hid (IsLog (absQ q) (if cmpQ (absQ q) ((2:Rat)^k)<0 then k-1 else k)):=hid (log_cmp (absQ_num_pos HN.o) k (by rw [(absQ_parts q).1,(absQ_parts q).2,hk,hM,hN]));obtain ⟨cc,hcc⟩:∃ c,c=cmpQ (absQ q) ((2:Rat)^k):=⟨_,rfl⟩;have CT:Hid (∀ w,Calls Tryz.prog 88 #[.int .i64 k] w fun e w'=>∃ v,e=.returned v∧RNumV w' v ((2:Rat)^k)∧Ext w w'):=hid fun w=>rtwo_c k w (by omega) (by omega);have CC:Hid (∀ w u v,RNumV w u (absQ q)→RNumV w v ((2:Rat)^k)→Calls Tryz.prog 87 #[u,v] w fun e w'=>e=.returned (.int .i64 cc)∧Ext w w'):=hid fun w u v h1 h2=>by
  rw [hcc];exact rcmpq_c u v _ _ (K+300003) w h1 h2 (SX.o.absQ.mono (by omega)) ((p2_sm (L:=300001) (by omega)).mono (by omega)) (by have:=HK.o;omega)
 rw [←hcc] at HL;have hwk1:IntKind.i64.wrap (k-1)=k-1:=IntWalk.i64_in _ (by omega);clear hx sx hM hN hk hcc h0 hK;obtain ⟨W0,hW0,g0,hz0,B_X⟩:=pro1 w #[.int .i64 s1,.slice a1 n1 c1,.slice a1' n1' c1'] 43;have HE:=hid g0;have HB_X:=hid B_X;have ac:=HB_X.o.a3;have hr0:Ext W0 W0:=Below.refl _ _;clear g0 B_X 
 go_enter Tryz.func176,Tryz.ntmps176
 go_upto_region 1 with (fail)
 rw [←hW0];clear hW0;replace hvx:=hvx.ext HE.o;have hpx:=hvx.top;have hdx:=hvx.den;rw [HZ.o] at hdx
 go_upto_region 3 with (fail)
 have g1:Ext W0 W0.drew:=Below.drew (Below.refl _ _);refine wp_region_held_drew (S:=Ext W0) (by kernel_rfl) (g1) (fun hHeld => ?_);generalize W0.drew=wD1 at *
 apply wts 0 7 rfl rfl (by kernel_rfl) (fun _ _ _ h=>h) hHeld
 ·intro w' hSw;go_simp<;>with_reducible rfl
 apply wts 1 8 rfl rfl (by kernel_rfl) (fun _ _ _ h=>h) hHeld
 ·intro w' hSw;go_simp<;>with_reducible rfl
 apply wts 3 10 rfl rfl (by kernel_rfl) (fun _ _ _ h=>h) hHeld
 ·intro w' hSw;go_simp<;>with_reducible rfl
 apply wts 4 11 rfl rfl (by kernel_rfl) (fun _ _ _ h=>h) hHeld
 ·intro w' hSw;go_simp<;>with_reducible rfl
 try simp only [Act.put,pA,pB,pC]
 refine wonc 2 9 228 #[.tmp 8] #[41] 3 (by kernel_rfl) rfl rfl (fun KK hKK => ?_);go_simp;refine (CL1.o _ _ (hpx.ext g1)).mono ?_;rintro e w2 ⟨rfl,g2⟩;have hb1:=g1.trans g2
 try dsimp only
 refine hKK.out _ _ (hb1) (fun hHeld => ?_)
 try simp only [Act.put,pA,pB,pC]
 refine wonc 5 12 228 #[.tmp 11] #[41] 3 (by kernel_rfl) rfl rfl (fun KK hKK => ?_);go_simp;refine (CL2.o _ _ (hdx.ext hb1)).mono ?_;rintro e w3 ⟨rfl,g3⟩;have hb2:=hb1.trans g3
 try dsimp only
 refine hKK.out _ _ (hb2) (fun hHeld => ?_);apply wts 6 13 rfl rfl (by kernel_rfl) (fun _ _ _ h=>h) hHeld
 ·intro w' hSw;go_simp<;>with_reducible rfl
 apply wts 7 3 rfl rfl (by kernel_rfl) (fun _ _ _ h=>h) hHeld
 ·intro w' hSw;go_simp<;>with_reducible rfl
 refine wpAnyH_done (by kernel_rfl) ?_ _;clear hwk hM1 hN1;go_wp2_with fail;refine (rabs_c _ q _ (hvx.ext hb2)).mono ?_;rintro e w4 ⟨v4,rfl,k1,g4⟩;have hb3:=hb2.trans g4;go_wp2_with fail;refine (CT.o _).mono ?_;rintro e w5 ⟨v5,rfl,k2,g5⟩;have hb4:=hb3.trans g5;go_wp2_with fail;refine (CC.o _ _ _ (k1.ext g5) k2).mono ?_;rintro e w6 ⟨rfl,g6⟩;have hb5:=hb4.trans g6
 by_cases hc:cc<0
 ·have hd:decide (cc<0)=true:=decide_eq_true hc;rw [if_pos hc] at HL;clear hc;go_wp2_with fail;go_ret
  exact ⟨k-1,rfl,HL,(HE.o.trans hb5)⟩
 ·have hd:decide (cc<0)=false:=decide_eq_false hc;rw [if_neg hc] at HL;clear hc;go_wp2_with fail;go_ret
  exact ⟨k,rfl,HL,(HE.o.trans hb5)⟩
theorem dv_drop_le (B:Nat) (hB:0<B) (l:List Nat) (k:Nat) (h:k≤l.length):dv B (l.drop k)≤dv B l:=by
 rw [dv_take_drop B l k h];have h1:1*dv B (l.drop k)≤B^k*dv B (l.drop k):=Nat.mul_le_mul_right _ (Nat.pow_pos hB)
 omega
def TopI (s:Int) (l:List Nat) (k:Nat):Int:=s*(dv 1000000000 (l.drop k):Nat)
theorem TopI.step {s:Int} {l:List Nat} {j:Nat} (h:j<l.length):1000000000*TopI s l (j+1)+s*((l.getD j 0:Nat):Int)=TopI s l j:=by
 unfold TopI;rw [dv_drop 1000000000 l j h,Int.natCast_add,Int.natCast_mul,Int.mul_add,Int.mul_left_comm]
 exact Int.add_comm _ _
theorem TopI.range {s N:Int} {l:List Nat} (hs:s=1∨s = -1) (hN:N=s*(dv 1000000000 l:Nat)) (h0 : -9223372036854775808≤N) (h1:N<9223372036854775808) {j:Nat} (h:j≤l.length) : -9223372036854775808≤TopI s l j∧TopI s l j<9223372036854775808:=by
 have h2:=dv_drop_le 1000000000 (by decide) l j h;unfold TopI
 rcases hs with rfl | rfl<;>omega
theorem TopI.mid {s N:Int} {l:List Nat} (hs:s=1∨s = -1) (hN:N=s*(dv 1000000000 l:Nat)) (h0 : -9223372036854775808≤N) (h1:N<9223372036854775808) {j:Nat} (h:j<l.length) : -9223372036854775808≤1000000000*TopI s l (j+1)∧1000000000*TopI s l (j+1)<9223372036854775808:=by
 have h2:=TopI.range hs hN h0 h1 (Nat.le_of_lt h);have h3:=TopI.step (s:=s) h;have h4:=dv_drop 1000000000 l j h;unfold TopI at *
 rcases hs with rfl | rfl<;>omega
theorem i64w {n:Int} (h : -9223372036854775808≤n∧n<9223372036854775808):IntKind.i64.wrap n=n:=IntWalk.i64_in _ (by omega)
theorem rint64_c (x:Value) (N:Int) (w:World) (hx:RNumV w x (N:Rat)) (h0 : -9223372036854775808≤N) (h1:N<9223372036854775808) :
  Calls Tryz.prog 133 #[x] w fun e w'=>e=.returned (.tuple #[.int .i64 N,.int .i64 0])∧Ext w w':=by
 obtain ⟨s1,a1,n1,c1,a1',n1',c1',rfl⟩:=hx.shape;have hvx:=hx;have H0:=hid h0;have H1:=hid h1;have SB:Hid (∀ m:Int,-9223372036854775808≤m→m<9223372036854775808→SmQ 64 (m:Rat)):=hid fun m h1 h2=>SmQ.int (by decide) (by omega);have HSX:Hid (s1=N.sign):=hid (by rw [hx.sign,Rat.num_intCast]);obtain ⟨L,hL⟩:∃ L:Int,L = -9223372036854775808:=⟨_,rfl⟩;obtain ⟨U,hU⟩:∃ U:Int,U=9223372036854775807:=⟨_,rfl⟩;obtain ⟨e1,he1⟩:∃ e,e=cmpQ (N:Rat) (L:Rat):=⟨_,rfl⟩;obtain ⟨e2,he2⟩:∃ e,e=cmpQ (N:Rat) (U:Rat):=⟨_,rfl⟩;have hb1:decide (e1<0)=false:=decide_eq_false (by
  rw [he1,cmpQ_lt];intro h;have:=Rat.intCast_lt_intCast.1 h;omega)
 have hb2:decide (0<e2)=false:=decide_eq_false (by
  rw [he2,cmpQ_gt];intro h;have:=Rat.intCast_lt_intCast.1 h;omega)
 have CI:Hid (∀ w u,RNumV w u (N:Rat)→Calls Tryz.prog 85 #[u] w fun e w'=>e=.returned (.bool true)∧Ext w w'):=hid fun w u h=>by
  have h2:=risint_c u _ 64 w h (SB.o N H0.o H1.o) (by decide)
  rwa [decide_eq_true (Rat.den_intCast N)] at h2
 have CL:Hid (∀ w,Calls Tryz.prog 132 #[.int .i64 (-9223372036854775808)] w fun e w'=>∃ v,e=.returned v∧RNumV w' v (L:Rat)∧Ext w w'):=hid fun w=>by rw [hL];exact rint_c _ w (by decide) (by decide)
 have CU:Hid (∀ w,Calls Tryz.prog 132 #[.int .i64 9223372036854775807] w fun e w'=>∃ v,e=.returned v∧RNumV w' v (U:Rat)∧Ext w w'):=hid fun w=>by rw [hU];exact rint_c _ w (by decide) (by decide)
 have C1:Hid (∀ w u v,RNumV w u (N:Rat)→RNumV w v (L:Rat)→Calls Tryz.prog 87 #[u,v] w fun e w'=>e=.returned (.int .i64 e1)∧Ext w w'):=hid fun w u v h k=>by
  rw [he1];exact rcmpq_c u v _ _ 64 w h k (SB.o N H0.o H1.o) (SB.o L (by omega) (by omega)) (by decide)
 have C2:Hid (∀ w u v,RNumV w u (N:Rat)→RNumV w v (U:Rat)→Calls Tryz.prog 87 #[u,v] w fun e w'=>e=.returned (.int .i64 e2)∧Ext w w'):=hid fun w u v h k=>by
  rw [he2];exact rcmpq_c u v _ _ 64 w h k (SB.o N H0.o H1.o) (SB.o U (by omega) (by omega)) (by decide)
 clear hx h0 h1 hL hU he1 he2;obtain ⟨W0,hW0,g0,hz0,B_X⟩:=pro1 w #[.int .i64 s1,.slice a1 n1 c1,.slice a1' n1' c1'] 43;have HE:=hid g0;have HB_X:=hid B_X;have ac:=HB_X.o.a3;have hr0:Ext W0 W0:=Below.refl _ _;clear g0 B_X 
 go_enter Tryz.func133,Tryz.ntmps133
 go_upto_region 1 with (fail)
 rw [←hW0];clear hW0;replace hvx:=hvx.ext HE.o;go_wp2_with fail;refine (CI.o _ _ hvx).mono ?_;rintro e w1 ⟨rfl,g1⟩
 go_upto_region 3 with (fail)
 have g2:Ext w1 w1.drew:=Below.drew (Below.refl _ _);have hb1:=g1.trans g2;refine wp_region_held_drew (S:=Ext W0) (by kernel_rfl) (hb1) (fun hHeld => ?_);generalize w1.drew=wD2 at *
 apply wts 0 9 rfl rfl (by kernel_rfl) (fun _ _ _ h=>h) hHeld
 ·intro w' hSw;go_simp<;>with_reducible rfl
 try simp only [Act.put,pA,pB,pC]
 refine wonc 1 10 132 #[.const (Value.int IntKind.i64 (-9223372036854775808))] #[2] 43 (by kernel_rfl) rfl rfl (fun KK hKK => ?_);go_simp;refine (CL.o _).mono ?_;rintro e w3 ⟨v3,rfl,k1,g3⟩;have hb2:=hb1.trans g3
 try dsimp only
 refine hKK.out _ _ (hb2) (fun hHeld => ?_)
 try simp only [Act.put,pA,pB,pC]
 refine wonc 2 11 87 #[.tmp 9,.tmp 10] #[43,43] 3 (by kernel_rfl) rfl rfl (fun KK hKK => ?_);go_simp;refine (C1.o _ _ _ (hvx.ext hb2) k1).mono ?_;rintro e w4 ⟨rfl,g4⟩;have hb3:=hb2.trans g4
 try dsimp only
 refine hKK.out _ _ (hb3) (fun hHeld => ?_);apply wts 3 12 rfl rfl (by kernel_rfl) (fun _ _ _ h=>h) hHeld
 ·intro w' hSw;go_simp<;>with_reducible rfl
 apply wts 4 13 rfl rfl (by kernel_rfl) (fun _ _ _ h=>h) hHeld
 ·intro w' hSw;go_simp<;>with_reducible rfl
 apply wts 5 14 rfl rfl (by kernel_rfl) (fun _ _ _ h=>h) hHeld
 ·intro w' hSw;go_simp<;>with_reducible rfl
 try simp only [Act.put,pA,pB,pC]
 refine won 6 { dst:=some 15,op:=Op.call { callee:=Callee.value (Operand.func 132),args:=#[Operand.const (Value.int IntKind.i64 9223372036854775807)],argTypes:=#[2] },type:=43,pos := "",after:=#[],guard:=some (4,false) } (by kernel_rfl) rfl rfl (fun KK hKK => ?_);go_simp;refine (CU.o _).mono ?_;rintro e w5 ⟨v5,rfl,k2,g5⟩;have hb4:=hb3.trans g5
 try dsimp only
 refine hKK.out _ _ (hb4) (fun hHeld => ?_)
 try simp only [Act.put,pA,pB,pC]
 refine won 7 { dst:=some 16,op:=Op.call { callee:=Callee.value (Operand.func 87),args:=#[Operand.tmp 14,Operand.tmp 15],argTypes:=#[43,43] },type:=3,pos := "",after:=#[],guard:=some (4,false) } (by kernel_rfl) rfl rfl (fun KK hKK => ?_);go_simp;refine (C2.o _ _ _ (hvx.ext hb4) k2).mono ?_;rintro e w6 ⟨rfl,g6⟩;have hb5:=hb4.trans g6
 try dsimp only
 refine hKK.out _ _ (hb5) (fun hHeld => ?_);apply wts 8 17 rfl rfl (by kernel_rfl) (fun _ _ _ h=>h) hHeld
 ·intro w' hSw;go_simp<;>with_reducible rfl
 apply wts 9 18 rfl rfl (by kernel_rfl) (fun _ _ _ h=>h) hHeld
 ·intro w' hSw;go_simp<;>with_reducible rfl
 refine wpAnyH_done (by kernel_rfl) ?_ _;clear k1 k2 CI CL CU C1 C2;have HE:=hid (HE.o.trans hb5);replace HB_X:=hid (HB_X.o.ext hb5);replace hvx:=(hvx.ext hb5);replace ac:=hb5.cl ac;have hr6:Ext w6 w6:=Below.refl _ _;have hpx:=hvx.top;rw [Rat.num_intCast] at hpx;obtain ⟨aa,ba,oa,na,ca,l,hal,h1a,h2a,h3a,h4a,h5a,h6a,h7a,h8a⟩:=hpx.open;obtain ⟨rfl,rfl,rfl⟩:a1=aa∧n1=na∧c1=ca:=by simpa using hal
 have HNV:Hid (N=s1*(dv 1000000000 l:Nat)):=hid (by rw [h6a.o,HSX.o,Int.sign_mul_natAbs]);have HLN:Hid (n1≤3):=hid (by
  have h9:l.length≤3:=rlen_le h5a.o (by rw [h6a.o];have:=H0.o;have:=H1.o;omega);rw [h3a.o] at h9;exact h9)
 have hn3:n1≤3:=HLN.o;have HNA:Hid (dv 1000000000 l=N.natAbs):=hid h6a.o;clear hal h2a hpx h6a h8a hb1 hb2;go_wp2_with fail
 go_loopg [4,5] n1 (fun g v i wx=>∃ z:Int,v=.int .i64 z∧i=.int .i64 ((g:Int)-1)∧g≤n1∧Hid (z=TopI s1 l g)∧Hid (Ext w6 wx))
 case atStart=>exact ⟨0,rfl,by go_num,Nat.le_refl _,hid (by unfold TopI;rw [List.drop_eq_nil_of_le (by rw [h3a.o];exact Nat.le_refl _),dv_nil];simp),hid (Below.refl _ _)⟩
 case round =>
  obtain ⟨z,rfl,rfl,hgn,HZ,HEr⟩:=hrel;have HXr:=hid (HB_X.o.ext HEr.o);have HEw:=hid (HE.o.trans HEr.o)
  rcases Nat.eq_zero_or_pos gk with hk0 | hk0
  ·subst hk0;have hd0:decide ((0:Int)≤((0:Nat):Int)-1)=false:=by decide
   have HZN:Hid (z=N):=hid (by rw [HZ.o,HNV.o];unfold TopI;rw [List.drop_zero]);go_wp2_with fail;rw [HZN.o];go_ret2
   exact ⟨rfl,HEw.o⟩
  ·obtain ⟨j,rfl⟩:∃ j,gk=j+1:=⟨gk-1,by omega⟩;have ej:(((j+1:Nat):Int)-1)=(j:Int):=by omega
   rw [ej];clear ej;obtain ⟨d,hd2⟩:∃ d,d=l.getD j 0:=⟨_,rfl⟩;have hcell:wr.cell? ⟨ba,oa+j,none⟩=some (.int .i64 d):=by rw [hd2];exact HEr.o.cell (h7a.o j (by omega))
   have hlt:d<1000000000:=by rw [hd2];exact h5a.o.dig.get (by decide) _
   obtain rfl:=h4a.o (by omega);have hjl:j<l.length:=by rw [h3a.o];omega
   have hs:s1=1∨s1 = -1:=by
    have h5:=HNV.o;have h6:0<dv 1000000000 l:=h5a.o.dv_pos (by decide) (fun e=>by rw [e] at hjl;simp at hjl);have h7:=HSX.o
    rcases Int.lt_trichotomy N 0 with h | h | h
    ·right;rw [h7];exact Int.sign_eq_neg_one_of_neg h
    ·have h8:=HNA.o;omega
    ·left;rw [h7];exact Int.sign_eq_one_of_pos h
   have r1:=TopI.range hs HNV.o H0.o H1.o (j:=j) (by omega);have r2:=TopI.mid hs HNV.o H0.o H1.o hjl;have r3:=TopI.step (s:=s1) hjl;rw [←hd2] at r3;rw [←HZ.o] at r2 r3;have r4 : -9223372036854775808≤s1*(d:Int)∧s1*(d:Int)<9223372036854775808:=by rcases hs with rfl | rfl<;>omega
   obtain ⟨z2,hz2⟩:∃ z2,z2=TopI s1 l j:=⟨_,rfl⟩;rw [←hz2] at r1 r3;have HZ2:=hid hz2;have e1:IntKind.i64.wrap (1000000000*z)=1000000000*z:=i64w r2;have e2:IntKind.i64.wrap (s1*(d:Int))=s1*(d:Int):=i64w r4;have e3:IntKind.i64.wrap (1000000000*z+s1*(d:Int))=z2:=by rw [r3];exact i64w r1
   have hd0:decide ((0:Int)≤(j:Int))=true:=decide_eq_true (by omega);have i1:(0:Int)≤(j:Int):=by omega
   have i2:(j:Int)<(n1:Int):=by omega
   clear hs r1 r2 r3 r4 hz2 hd2 hjl;obtain ⟨wq,rfl⟩:∃ x,x=wr:=⟨_,rfl⟩
   go_upto_region 9 with (fail)
   have HB_X:=HXr;have HE:=HEw;have ac:=HB_X.o.a3;have hr7:Ext wq wq:=Below.refl _ _;have mc0:∀ w',Ext wq w'→w'.cell? ⟨ba,oa+j,none⟩=some (.int .i64 (d:Nat)):=fun w' h=>h.cell hcell;have g7:Ext wq wq.drew:=Below.drew (Below.refl _ _);refine wp_region_held_drew (S:=Ext wq) (by kernel_rfl) (g7) (fun hHeld => ?_);generalize wq.drew=wD7 at *
   apply wts 0 27 rfl rfl (by kernel_rfl) (fun _ _ _ h=>h) hHeld
   ·intro w' hSw;go_simp<;>with_reducible rfl
   apply wts 1 28 rfl rfl (by kernel_rfl) (fun _ _ _ h=>h) hHeld
   ·intro w' hSw;go_simp<;>with_reducible rfl
   apply wts 2 29 rfl rfl (by kernel_rfl) (fun _ _ _ h=>h) hHeld
   ·intro w' hSw;go_simp<;>with_reducible rfl
   apply wts 3 30 rfl rfl (by kernel_rfl) (fun _ _ _ h=>h) hHeld
   ·intro w' hSw;go_simp<;>with_reducible rfl
   apply wts 4 31 rfl rfl (by kernel_rfl) (fun _ _ _ h=>h) hHeld
   ·intro w' hSw;go_simp<;>with_reducible rfl
   apply wts 5 32 rfl rfl (by kernel_rfl) (fun _ _ _ h=>h) hHeld
   ·intro w' hSw;go_simp<;>with_reducible rfl
   apply wts 6 33 rfl rfl (by kernel_rfl) (fun _ _ _ h=>h) hHeld
   ·intro w' hSw;go_simp<;>with_reducible rfl
   apply wts 7 34 rfl rfl (by kernel_rfl) (fun _ _ _ h=>h) hHeld
   ·intro w' hSw;go_simp<;>with_reducible rfl
   apply wts 8 35 rfl rfl (by kernel_rfl) (fun _ _ _ h=>h) hHeld
   ·intro w' hSw;go_simp<;>with_reducible rfl
   apply wts 9 36 rfl rfl (by kernel_rfl) (fun _ _ _ h=>h) hHeld
   ·intro w' hSw;go_simp<;>with_reducible rfl
   apply wts 10 37 rfl rfl (by kernel_rfl) (fun _ _ _ h=>h) hHeld
   ·intro w' hSw;go_simp<;>with_reducible rfl
   apply wts 11 4 rfl rfl (by kernel_rfl) (fun _ _ _ h=>h) hHeld
   ·intro w' hSw;go_simp<;>with_reducible rfl
   refine wpAnyH_done (by kernel_rfl) ?_ _;go_wp2_with fail
   go_roundg j
   case measure=>exact Nat.lt_succ_self j
   case rel=>exact ⟨z2,rfl,by go_num,by omega,HZ2,hid (HEr.o.trans g7)⟩
theorem rint_i (m:Int) (k:Nat) (w:World) (hm:m=(k:Int)) (hk:k<9223372036854775808) :
  Calls Tryz.prog 132 #[.int .i64 m] w fun e w'=>∃ v,e=.returned v∧RNumV w' v ((k:Nat):Rat)∧Ext w w':=by
 subst hm;exact rint_c (k:Int) w (by omega) (by omega)
theorem nat_sm {K n:Nat} (h:n<2^K):SmQ (K+1) ((n:Nat):Rat):=SmQ.nat (by omega) (Nat.lt_of_lt_of_le h (Nat.pow_le_pow_right (by decide) (by omega)))
theorem nat_up (n k:Nat):((n:Nat):Rat)*(2:Rat)^(k:Int)=((n*2^k:Nat):Rat):=by rw [p2_nat,Rat.natCast_mul]
theorem runsigned_c (n:Nat) (w:World) (h:n<18446744073709551616) :
  Calls Tryz.prog 239 #[.int .u64 (n:Nat)] w fun e w'=>∃ v,e=.returned v∧RNumV w' v ((n:Nat):Rat)∧Ext w w':=by
 have HN:=hid h;have HV:Hid (((n/4294967296:Nat):Rat)*(2:Rat)^(32:Int)+((n%4294967296:Nat):Rat)=((n:Nat):Rat)):=hid (by
  rw [show (32:Int)=((32:Nat):Int) from rfl,nat_up,←Rat.natCast_add]
  congr 1
  omega)
 clear h;obtain ⟨W0,hW0,g0,hz0,B_Z⟩:=pro1 w #[.int .i64 0,.slice none 0 0,.slice none 0 0] 43;have HE:=hid g0;have HB_Z:=hid B_Z;have ac:=HB_Z.o.a3;have hr0:Ext W0 W0:=Below.refl _ _;clear g0 B_Z 
 go_enter Tryz.func239,Tryz.ntmps239
 go_upto_region 1 with (fail)
 rw [←hW0];clear hW0;go_wp2_with fail;refine (rint_i _ (n/4294967296) _ (by rw [w64r _ (by have:=HN.o;omega)];omega) (by have:=HN.o;omega)).mono ?_;rintro e w1 ⟨v1,rfl,k1,g1⟩;go_wp2_with fail;refine (rshiftq_c _ _ 64 32 _ k1 (nat_sm (show n/4294967296<2^63 by have:=HN.o;omega)) (by decide) (by decide) (by decide)).mono ?_;rintro e w2 ⟨v2,rfl,k2,g2⟩;have hb1:=g1.trans g2;go_wp2_with fail;refine (rint_i _ (n%4294967296) _ (by omega) (by have:=HN.o;omega)).mono ?_;rintro e w3 ⟨v3,rfl,k3,g3⟩;have hb2:=hb1.trans g3;go_wp2_with fail;refine (raddq_c _ _ _ _ 200 _ (k2.ext g3) k3 (((nat_sm (show n/4294967296<2^63 by have:=HN.o;omega)).mul_p2 32 33 (by decide)).mono (by decide)) ((nat_sm (show n%4294967296<2^63 by omega)).mono (by decide)) (by decide)).mono ?_;rintro e w4 ⟨v,rfl,k9,g4⟩;have hb3:=hb2.trans g4;obtain ⟨s9,a9,n9,c9,a9',n9',c9',rfl⟩:=k9.shape;obtain ⟨U4,U5,U6⟩:=(HB_Z.o.ext hb3).f3;go_wp2_with fail;clear U4 U5 U6;obtain ⟨W5,hW5,g5,q5,B5,hy5,ho5⟩:=rsto3 (HE.o.trans hb3) (by omega) (HB_Z.o.ext hb3) (by decide) (.int .i64 s9) (.slice a9 n9 c9) (.slice a9' n9' c9');rw [←hW5];clear hW5;replace HB_Z:=hid B5;obtain ⟨J7,J8,J9⟩:=HB_Z.o.c3;refine bodyPost_ret (v:=.agg #[.int .i64 s9,.slice a9 n9 c9,.slice a9' n9' c9']) (by simp [results,Tryz.results239,go_sem,J7,J8,J9]) rfl ⟨_,rfl,by rw [←HV.o];exact (k9.keepR q5),g5⟩
theorem rbits_hl (h l:Nat) (w:World) (hh:h<18446744073709551616) (hl:l<18446744073709551616) :
  Calls Tryz.prog 194 #[.agg #[.int .u64 (h:Nat),.int .u64 (l:Nat)]] w fun e w'=>∃ v,e=.returned v∧RNumV w' v ((h*2^64+l:Nat):Rat)∧Ext w w':=by
 have HH:=hid hh;have HL:=hid hl;have HV:Hid (((h:Nat):Rat)*(2:Rat)^(64:Int)+((l:Nat):Rat)=((h*2^64+l:Nat):Rat)):=hid (by
  rw [show (64:Int)=((64:Nat):Int) from rfl,nat_up,←Rat.natCast_add])
 clear hh hl;obtain ⟨W0,hW0,g0,hz0,B_X,B_Z⟩:=pro2s w #[.int .u64 (h:Nat),.int .u64 (l:Nat)] #[.int .i64 0,.slice none 0 0,.slice none 0 0] 29 43;have HE:=hid g0;have HB_X:=hid B_X;have HB_Z:=hid B_Z;have ac:=cland HB_X.o.a2 (HB_Z.o.a3);have hr0:Ext W0 W0:=Below.refl _ _;clear g0 B_X B_Z 
 go_enter Tryz.func194,Tryz.ntmps194
 go_upto_region 1 with (fail)
 rw [←hW0];clear hW0;have kc:=(Box.bt (z:=w.heap.size+1) HB_X.o (by omega) Box.n2);have g1:Ext W0 W0.drew:=Below.drew (Below.refl _ _);refine wp_region_held_drew (S:=But W0 (w.heap.size+1)) (by kernel_rfl) (g1.but) (fun hHeld => ?_);generalize W0.drew=wD1 at *
 apply wts 0 3 rfl rfl (by kernel_rfl) (fun _ _ _ h=>h) hHeld
 ·intro w' hSw;go_simp<;>with_reducible rfl
 apply wts 1 4 rfl rfl (by kernel_rfl) (fun _ _ _ h=>h) hHeld
 ·intro w' hSw;go_simp<;>with_reducible rfl
 apply wts 4 7 rfl rfl (by kernel_rfl) (fun _ _ _ h=>h) hHeld
 ·intro w' hSw;go_simp<;>with_reducible rfl
 apply wts 5 8 rfl rfl (by kernel_rfl) (fun _ _ _ h=>h) hHeld
 ·intro w' hSw;go_simp<;>with_reducible rfl
 try simp only [Act.put,pA,pB,pC]
 refine wonc 2 5 239 #[.tmp 4] #[27] 43 (by kernel_rfl) rfl rfl (fun KK hKK => ?_);go_simp;refine (runsigned_c h _ HH.o).mono ?_;rintro e w2 ⟨v2,rfl,k1,g2⟩;have hb1:=g1.trans g2
 try dsimp only
 refine hKK.out _ _ (hb1.but) (fun hHeld => ?_)
 try simp only [Act.put,pA,pB,pC]
 refine wonc 3 6 141 #[.tmp 5,.const (Value.int IntKind.i64 64)] #[43,3] 43 (by kernel_rfl) rfl rfl (fun KK hKK => ?_);go_simp;refine (rshiftq_c _ _ 65 64 _ k1 (nat_sm HH.o) (by decide) (by decide) (by decide)).mono ?_;rintro e w3 ⟨v3,rfl,k2,g3⟩;have hb2:=hb1.trans g3
 try dsimp only
 refine hKK.out _ _ (hb2.but) (fun hHeld => ?_)
 try simp only [Act.put,pA,pB,pC]
 refine wonc 6 9 239 #[.tmp 8] #[27] 43 (by kernel_rfl) rfl rfl (fun KK hKK => ?_);go_simp;refine (runsigned_c l _ HL.o).mono ?_;rintro e w4 ⟨v4,rfl,k3,g4⟩;have hb3:=hb2.trans g4
 try dsimp only
 refine hKK.out _ _ (hb3.but) (fun hHeld => ?_)
 try simp only [Act.put,pA,pB,pC]
 refine wonc 7 10 89 #[.tmp 6,.tmp 9] #[43,43] 43 (by kernel_rfl) rfl rfl (fun KK hKK => ?_);go_simp;refine (raddq_c _ _ _ _ 200 _ (k2.ext g4) k3 (((nat_sm (K:=64) HH.o).mul_p2 64 65 (by decide)).mono (by decide)) ((nat_sm (K:=64) HL.o).mono (by decide)) (by decide)).mono ?_;rintro e w5 ⟨v,rfl,k9,g5⟩;have hb4:=hb3.trans g5;obtain ⟨s9,a9,n9,c9,a9',n9',c9',rfl⟩:=k9.shape
 try dsimp only
 refine hKK.out _ _ (hb4.but) (fun hHeld => ?_)
 try simp only [Act.put,pA,pB,pC]
 refine wons 8 43 2 10 (by kernel_rfl) rfl rfl (fun KK hKK => ?_);obtain ⟨U5,U6,U7⟩:=(HB_Z.o.ext hb4).f3;go_simp;clear U5 U6 U7;obtain ⟨W6,hW6,g6,q6,B6,hy6,ho6⟩:=rsto3 (HE.o.trans hb4) (by omega) (HB_Z.o.ext hb4) (by decide) (.int .i64 s9) (.slice a9 n9 c9) (.slice a9' n9' c9');rw [←hW6];clear hW6;replace HB_Z:=hid B6;have hq6:But W0 (w.heap.size+1) W6:=But.sto (hb4.but) ho6
 try dsimp only
 refine hKK.out _ _ (hq6) (fun hHeld => ?_);refine wpAnyH_done (by kernel_rfl) ?_ _;have ac:=cland (ho6 _ _ _ (by omega) (HB_X.o.ext (g1.trans (g2.trans (g3.trans (g4.trans g5)))))).a2 (HB_Z.o.a3);have hr8:Ext W6 W6:=Below.refl _ _;go_wp2_with fail;obtain ⟨J9,J10,J11⟩:=HB_Z.o.c3;refine bodyPost_ret (v:=.agg #[.int .i64 s9,.slice a9 n9 c9,.slice a9' n9' c9']) (by simp [results,Tryz.results194,go_sem,J9,J10,J11]) rfl ⟨_,rfl,by rw [←HV.o];exact (k9.keepR q6),g6⟩
theorem rbits_c (n:Nat) (w:World) (hn:n<340282366920938463463374607431768211456):Calls Tryz.prog 194 #[Word n] w fun e w'=>∃ v,e=.returned v∧RNumV w' v ((n:Nat):Rat)∧Ext w w':=by
 have h:=rbits_hl (n/18446744073709551616) (n%18446744073709551616) w (by omega) (by omega);rw [show n/18446744073709551616*2^64+n%18446744073709551616=n from by omega] at h
 exact h
theorem rpart_c (x:Value) (N fr b:Nat) (f g:Int) (w:World) (hx:RNumV w x ((N:Nat):Rat)) (hN:N<2^200) (hf:f=(fr:Int)) (hg:g=(b:Int)) (hf1:fr≤1000) (hg1:b≤1000) :
  Calls Tryz.prog 195 #[x,.int .i64 f,.int .i64 g] w fun e w'=>∃ v,e=.returned v∧RNumV w' v ((N/2^fr%2^b:Nat):Rat)∧Ext w w':=by
 obtain ⟨s1,a1,n1,c1,a1',n1',c1',rfl⟩:=hx.shape;have hvx:=hx;have f0:0≤f:=by omega
 have f1:f≤1000:=by omega
 have g0:0≤g:=by omega
 have g1':g≤1000:=by omega
 obtain ⟨M,hM⟩:∃ M,M=N/2^fr:=⟨_,rfl⟩;have SN:Hid (SmQ 201 ((N:Nat):Rat)):=hid (nat_sm hN);have SM:Hid (SmQ 201 ((M:Nat):Rat)):=hid (nat_sm (by rw [hM];exact Nat.lt_of_le_of_lt (Nat.div_le_self _ _) hN));have SD:Hid (SmQ 201 ((M/2^b:Nat):Rat)):=hid (nat_sm (by rw [hM];exact Nat.lt_of_le_of_lt (Nat.le_trans (Nat.div_le_self _ _) (Nat.div_le_self _ _)) hN));have SB:Hid (SmQ 201 ((M/2^b*2^b:Nat):Rat)):=hid (nat_sm (by rw [hM];exact Nat.lt_of_le_of_lt (Nat.le_trans (Nat.div_mul_le_self _ _) (Nat.div_le_self _ _)) hN));have V1:Hid ((((N:Nat):Rat)*(2:Rat)^(-f)).floor=((M:Nat):Int)):=hid (by rw [hf,hM,nat_floor_half]);have V2:Hid ((((M:Nat):Rat)*(2:Rat)^(-g)).floor=((M/2^b:Nat):Int)):=hid (by rw [hg,nat_floor_half]);have V3:Hid (((M/2^b:Nat):Rat)*(2:Rat)^g=((M/2^b*2^b:Nat):Rat)):=hid (by rw [hg,nat_up]);have V4:Hid (((M:Nat):Rat)-((M/2^b*2^b:Nat):Rat)=((N/2^fr%2^b:Nat):Rat)):=hid (by
  rw [←hM];have h1:M=M/2^b*2^b+M%2^b:=by have:=Nat.div_add_mod M (2^b);rw [Nat.mul_comm];omega
  have h2:((M:Nat):Rat)=((M/2^b*2^b:Nat):Rat)+((M%2^b:Nat):Rat):=by rw [←Rat.natCast_add,←h1]
  rw [h2];grind)
 have CS1:Hid (∀ w u,RNumV w u ((N:Nat):Rat)→Calls Tryz.prog 141 #[u,.int .i64 (-f)] w fun e w'=>∃ v,e=.returned v∧RNumV w' v (((N:Nat):Rat)*(2:Rat)^(-f))∧Ext w w'):=hid fun w u h=>rshiftq_c u _ 201 (-f) w h SN.o (by omega) (by omega) (by decide);have CF1:Hid (∀ w u,RNumV w u (((N:Nat):Rat)*(2:Rat)^(-f))→Calls Tryz.prog 203 #[u] w fun e w'=>∃ v,e=.returned v∧RNumV w' v ((M:Nat):Rat)∧Ext w w'):=hid fun w u h=>by
  have h2:=rfloor_c u _ 1202 w h ((SN.o.mul_p2 (-f) 1001 (by omega)).mono (by decide)) (by decide);rw [V1.o] at h2;exact h2
 have CS2:Hid (∀ w u,RNumV w u ((M:Nat):Rat)→Calls Tryz.prog 141 #[u,.int .i64 (-g)] w fun e w'=>∃ v,e=.returned v∧RNumV w' v (((M:Nat):Rat)*(2:Rat)^(-g))∧Ext w w'):=hid fun w u h=>rshiftq_c u _ 201 (-g) w h SM.o (by omega) (by omega) (by decide);have CF2:Hid (∀ w u,RNumV w u (((M:Nat):Rat)*(2:Rat)^(-g))→Calls Tryz.prog 203 #[u] w fun e w'=>∃ v,e=.returned v∧RNumV w' v ((M/2^b:Nat):Rat)∧Ext w w'):=hid fun w u h=>by
  have h2:=rfloor_c u _ 1202 w h ((SM.o.mul_p2 (-g) 1001 (by omega)).mono (by decide)) (by decide);rw [V2.o] at h2;exact h2
 have CS3:Hid (∀ w u,RNumV w u ((M/2^b:Nat):Rat)→Calls Tryz.prog 141 #[u,.int .i64 g] w fun e w'=>∃ v,e=.returned v∧RNumV w' v ((M/2^b*2^b:Nat):Rat)∧Ext w w'):=hid fun w u h=>by
  have h2:=rshiftq_c u _ 201 g w h SD.o (by omega) (by omega) (by decide);rw [V3.o] at h2;exact h2
 have CD:Hid (∀ w u v,RNumV w u ((M:Nat):Rat)→RNumV w v ((M/2^b*2^b:Nat):Rat)→Calls Tryz.prog 129 #[u,v] w fun e w'=>∃ v,e=.returned v∧RNumV w' v ((N/2^fr%2^b:Nat):Rat)∧Ext w w'):=hid fun w u v h1 h2=>by
  have h3:=rsubq_c u v _ _ 201 w h1 h2 SM.o SB.o (by decide);rw [V4.o] at h3;exact h3
 clear hx hN hf hg hM hf1 hg1;obtain ⟨W0,hW0,g0,hz0,B_X,B_Z⟩:=pro2s w #[.int .i64 s1,.slice a1 n1 c1,.slice a1' n1' c1'] #[.int .i64 0,.slice none 0 0,.slice none 0 0] 43 43;have HE:=hid g0;have HB_X:=hid B_X;have HB_Z:=hid B_Z;have ac:=cland HB_X.o.a3 (HB_Z.o.a3);have hr0:Ext W0 W0:=Below.refl _ _;clear g0 B_X B_Z 
 go_enter Tryz.func195,Tryz.ntmps195
 go_upto_region 1 with (fail)
 rw [←hW0];clear hW0;replace hvx:=hvx.ext HE.o;go_wp2_with fail;refine (CS1.o _ _ hvx).mono ?_;rintro e w1 ⟨v1,rfl,k1,g1⟩;go_wp2_with fail;refine (CF1.o _ _ k1).mono ?_;rintro e w2 ⟨v2,rfl,k2,g2⟩;have hb1:=g1.trans g2;obtain ⟨s2,a2,n2,c2,a2',n2',c2',rfl⟩:=k2.shape;have gA:=hb1.trans (Ext.alloc w2 (.cells #[.int .i64 s2,.slice a2 n2 c2,.slice a2' n2' c2'] 43))
 go_upto_region 2 with (fail)
 clear gA;have hs2:=(g1.trans g2).size;obtain ⟨W3,hW3,g3,hy3,B_Q⟩:=pro1 w2 #[.int .i64 s2,.slice a2 n2 c2,.slice a2' n2' c2'] 43;rw [←hW3];clear hW3;have hb3:=hb1.trans g3;have HB_Q:=hid B_Q;clear B_Q;have he4:=(HE.o.trans hb3);replace ac:=hb3.cl ac;have hr5:Ext W3 W3:=Below.refl _ _;replace ac:=cland ac HB_Q.o.a3;clear k1;have hwg:IntKind.i64.wrap (-g) = -g:=IntWalk.i64_in _ (by omega);have kc:=(Box.bt (z:=w.heap.size+1) HB_Q.o (by omega) Box.n3);have g4:Ext W3 W3.drew:=Below.drew (Below.refl _ _);refine wp_region_held_drew (S:=But W3 (w.heap.size+1)) (by kernel_rfl) (g4.but) (fun hHeld => ?_);generalize W3.drew=wD4 at *
 apply wts 0 13 rfl rfl (by kernel_rfl) (fun _ _ _ h=>h) hHeld
 ·intro w' hSw;go_simp<;>with_reducible rfl
 apply wts 1 14 rfl rfl (by kernel_rfl) (fun _ _ _ h=>h) hHeld
 ·intro w' hSw;go_simp<;>with_reducible rfl
 apply wts 2 15 rfl rfl (by kernel_rfl) (fun _ _ _ h=>h) hHeld
 ·intro w' hSw;go_simp<;>with_reducible rfl
 apply wts 3 16 rfl rfl (by kernel_rfl) (fun _ _ _ h=>h) hHeld
 ·intro w' hSw;go_simp<;>with_reducible rfl
 apply wts 6 19 rfl rfl (by kernel_rfl) (fun _ _ _ h=>h) hHeld
 ·intro w' hSw;go_simp<;>with_reducible rfl
 try simp only [Act.put,pA,pB,pC]
 refine wonc 4 17 141 #[.tmp 14,.tmp 16] #[43,3] 43 (by kernel_rfl) rfl rfl (fun KK hKK => ?_);go_simp;refine (CS2.o _ _ ((k2.ext g3).ext g4)).mono ?_;rintro e w5 ⟨v5,rfl,k3,g5⟩;have hb6:=g4.trans g5
 try dsimp only
 refine hKK.out _ _ (hb6.but) (fun hHeld => ?_)
 try simp only [Act.put,pA,pB,pC]
 refine wonc 5 18 203 #[.tmp 17] #[43] 43 (by kernel_rfl) rfl rfl (fun KK hKK => ?_);go_simp;refine (CF2.o _ _ k3).mono ?_;rintro e w6 ⟨v6,rfl,k4,g6⟩;have hb7:=hb6.trans g6
 try dsimp only
 refine hKK.out _ _ (hb7.but) (fun hHeld => ?_)
 try simp only [Act.put,pA,pB,pC]
 refine wonc 7 20 141 #[.tmp 18,.tmp 19] #[43,3] 43 (by kernel_rfl) rfl rfl (fun KK hKK => ?_);go_simp;refine (CS3.o _ _ k4).mono ?_;rintro e w7 ⟨v7,rfl,k5,g7⟩;have hb8:=hb7.trans g7
 try dsimp only
 refine hKK.out _ _ (hb8.but) (fun hHeld => ?_)
 try simp only [Act.put,pA,pB,pC]
 refine wonc 8 21 129 #[.tmp 13,.tmp 20] #[43,43] 43 (by kernel_rfl) rfl rfl (fun KK hKK => ?_);go_simp;refine (CD.o _ _ _ ((k2.ext g3).ext hb8) k5).mono ?_;rintro e w8 ⟨v8,rfl,k9,g8⟩;have hb9:=hb8.trans g8;obtain ⟨s9,a9,n9,c9,a9',n9',c9',rfl⟩:=k9.shape
 try dsimp only
 refine hKK.out _ _ (hb9.but) (fun hHeld => ?_)
 try simp only [Act.put,pA,pB,pC]
 refine wons 9 43 6 21 (by kernel_rfl) rfl rfl (fun KK hKK => ?_);obtain ⟨U10,U11,U12⟩:=((HB_Z.o.ext (g1.trans (g2.trans g3))).ext hb9).f3;go_simp;clear U10 U11 U12;obtain ⟨W9,hW9,g9,q9,B9,hy9,ho9⟩:=rsto3 (he4.trans hb9) (by omega) ((HB_Z.o.ext (g1.trans (g2.trans g3))).ext hb9) (by decide) (.int .i64 s9) (.slice a9 n9 c9) (.slice a9' n9' c9');rw [←hW9];clear hW9;replace HB_Z:=hid B9;have hq9:But W3 (w.heap.size+1) W9:=But.sto (hb9.but) ho9
 try dsimp only
 refine hKK.out _ _ (hq9) (fun hHeld => ?_);refine wpAnyH_done (by kernel_rfl) ?_ _;have ac:=cland (ho9 _ _ _ (by omega) (HB_X.o.ext (g1.trans (g2.trans (g3.trans (g4.trans (g5.trans (g6.trans (g7.trans g8))))))))).a3 (cland HB_Z.o.a3 ((ho9 _ _ _ (by omega) (HB_Q.o.ext (g4.trans (g5.trans (g6.trans (g7.trans g8)))))).a3));have hr13:Ext W9 W9:=Below.refl _ _;go_wp2_with fail;obtain ⟨J14,J15,J16⟩:=HB_Z.o.c3;refine bodyPost_ret (v:=.agg #[.int .i64 s9,.slice a9 n9 c9,.slice a9' n9' c9']) (by simp [results,Tryz.results195,go_sem,J14,J15,J16]) rfl ⟨_,rfl,(k9.keepR q9),g9⟩
theorem rsmall_c (x:Value) (k:Nat) (w:World) (hx:RNumV w x ((k:Nat):Rat)) (hk:k<4294967296) :
  Calls Tryz.prog 196 #[x] w fun e w'=>e=.returned (.int .u64 (k:Nat))∧Ext w w':=by
 obtain ⟨s1,a1,n1,c1,a1',n1',c1',rfl⟩:=hx.shape;have hvx:=hx;clear hx;obtain ⟨W0,hW0,g0,hz0,B_X⟩:=pro1 w #[.int .i64 s1,.slice a1 n1 c1,.slice a1' n1' c1'] 43;have HE:=hid g0;have HB_X:=hid B_X;have ac:=HB_X.o.a3;have hr0:Ext W0 W0:=Below.refl _ _;clear g0 B_X 
 go_enter Tryz.func196,Tryz.ntmps196
 go_upto_region 1 with (fail)
 rw [←hW0];clear hW0;replace hvx:=hvx.ext HE.o;go_wp2_with fail;refine (rint64_c _ (k:Int) _ hvx (by omega) (by omega)).mono ?_;rintro e w1 ⟨rfl,g1⟩;go_wp2_with fail;go_ret
 exact ⟨rfl,(HE.o.trans g1)⟩
theorem rpacked_c (x:Value) (N:Nat) (w:World) (hx:RNumV w x ((N:Nat):Rat)) (hN:N<340282366920938463463374607431768211456) :
  Calls Tryz.prog 183 #[x] w fun e w'=>e=.returned (Word N)∧Ext w w':=by
 obtain ⟨s1,a1,n1,c1,a1',n1',c1',rfl⟩:=hx.shape;have hvx:=hx;have HN:=hid hN;have HN2:Hid (N<2^200):=hid (by omega);obtain ⟨p3,hp3⟩:∃ p,p=N/2^96%2^32:=⟨_,rfl⟩;obtain ⟨p2,hp2⟩:∃ p,p=N/2^64%2^32:=⟨_,rfl⟩;obtain ⟨p1,hp1⟩:∃ p,p=N/2^32%2^32:=⟨_,rfl⟩;obtain ⟨p0,hp0⟩:∃ p,p=N/2^0%2^32:=⟨_,rfl⟩;have l3:p3<4294967296:=by rw [hp3];exact Nat.mod_lt _ (by decide)
 have l2:p2<4294967296:=by rw [hp2];exact Nat.mod_lt _ (by decide)
 have l1:p1<4294967296:=by rw [hp1];exact Nat.mod_lt _ (by decide)
 have l0:p0<4294967296:=by rw [hp0];exact Nat.mod_lt _ (by decide)
 have CP:Hid (∀ w u (f:Int) (fr:Nat),f=(fr:Int)→fr≤1000→RNumV w u ((N:Nat):Rat)→Calls Tryz.prog 195 #[u,.int .i64 f,.int .i64 32] w fun e w'=>∃ v,e=.returned v∧RNumV w' v ((N/2^fr%2^32:Nat):Rat)∧Ext w w'):=hid fun w u f fr h1 h2 h3=>rpart_c u N fr 32 f 32 w h3 HN2.o h1 rfl h2 (by decide);have C3:Hid (∀ w u,RNumV w u ((N:Nat):Rat)→Calls Tryz.prog 195 #[u,.int .i64 96,.int .i64 32] w fun e w'=>∃ v,e=.returned v∧RNumV w' v ((p3:Nat):Rat)∧Ext w w'):=hid fun w u h=>by rw [hp3];exact CP.o w u 96 96 rfl (by decide) h
 have C2:Hid (∀ w u,RNumV w u ((N:Nat):Rat)→Calls Tryz.prog 195 #[u,.int .i64 64,.int .i64 32] w fun e w'=>∃ v,e=.returned v∧RNumV w' v ((p2:Nat):Rat)∧Ext w w'):=hid fun w u h=>by rw [hp2];exact CP.o w u 64 64 rfl (by decide) h
 have C1:Hid (∀ w u,RNumV w u ((N:Nat):Rat)→Calls Tryz.prog 195 #[u,.int .i64 32,.int .i64 32] w fun e w'=>∃ v,e=.returned v∧RNumV w' v ((p1:Nat):Rat)∧Ext w w'):=hid fun w u h=>by rw [hp1];exact CP.o w u 32 32 rfl (by decide) h
 have C0:Hid (∀ w u,RNumV w u ((N:Nat):Rat)→Calls Tryz.prog 195 #[u,.int .i64 0,.int .i64 32] w fun e w'=>∃ v,e=.returned v∧RNumV w' v ((p0:Nat):Rat)∧Ext w w'):=hid fun w u h=>by rw [hp0];exact CP.o w u 0 0 rfl (by decide) h
 have HW:Hid (Word N=.agg #[.int .u64 (IntKind.u64.wrap (IntKind.u64.wrap ((p3:Int)*4294967296)+p2)),.int .u64 (IntKind.u64.wrap (IntKind.u64.wrap ((p1:Int)*4294967296)+p0))]):=hid (by
  unfold Word;rw [show IntKind.u64.wrap (IntKind.u64.wrap ((p3:Int)*4294967296)+p2)=((p3*4294967296+p2:Nat):Int) from by rw [w64,w64];omega,show IntKind.u64.wrap (IntKind.u64.wrap ((p1:Int)*4294967296)+p0)=((p1*4294967296+p0:Nat):Int) from by rw [w64,w64];omega];rw [show N/18446744073709551616=p3*4294967296+p2 from by omega,show N%18446744073709551616=p1*4294967296+p0 from by omega])
 clear hx hN hp3 hp2 hp1 hp0 CP HN HN2;obtain ⟨W0,hW0,g0,hz0,B_X,B_Z⟩:=pro2s w #[.int .i64 s1,.slice a1 n1 c1,.slice a1' n1' c1'] #[.int .u64 0,.int .u64 0] 43 29;have HE:=hid g0;have HB_X:=hid B_X;have HB_Z:=hid B_Z;have ac:=cland HB_X.o.a3 (HB_Z.o.a2);have hr0:Ext W0 W0:=Below.refl _ _;clear g0 B_X B_Z 
 go_enter Tryz.func183,Tryz.ntmps183
 go_upto_region 1 with (fail)
 rw [←hW0];clear hW0;replace hvx:=hvx.ext HE.o;have kc:=(Box.bt (z:=w.heap.size+1) HB_X.o (by omega) Box.n3);have g1:Ext W0 W0.drew:=Below.drew (Below.refl _ _);refine wp_region_held_drew (S:=But W0 (w.heap.size+1)) (by kernel_rfl) (g1.but) (fun hHeld => ?_);generalize W0.drew=wD1 at *
 apply wts 0 3 rfl rfl (by kernel_rfl) (fun _ _ _ h=>h) hHeld
 ·intro w' hSw;go_simp<;>with_reducible rfl
 apply wts 4 7 rfl rfl (by kernel_rfl) (fun _ _ _ h=>h) hHeld
 ·intro w' hSw;go_simp<;>with_reducible rfl
 apply wts 8 11 rfl rfl (by kernel_rfl) (fun _ _ _ h=>h) hHeld
 ·intro w' hSw;go_simp<;>with_reducible rfl
 apply wts 12 15 rfl rfl (by kernel_rfl) (fun _ _ _ h=>h) hHeld
 ·intro w' hSw;go_simp<;>with_reducible rfl
 try simp only [Act.put,pA,pB,pC]
 refine wonc 1 4 195 #[.tmp 3,.const (Value.int IntKind.i64 96),.const (Value.int IntKind.i64 32)] #[43,3,3] 43 (by kernel_rfl) rfl rfl (fun KK hKK => ?_);go_simp;refine (C3.o _ _ (hvx.ext g1)).mono ?_;rintro e w2 ⟨v2,rfl,k3,g2⟩;have hb1:=g1.trans g2
 try dsimp only
 refine hKK.out _ _ (hb1.but) (fun hHeld => ?_)
 try simp only [Act.put,pA,pB,pC]
 refine wonc 2 5 196 #[.tmp 4] #[43] 27 (by kernel_rfl) rfl rfl (fun KK hKK => ?_);go_simp;refine (rsmall_c _ p3 _ k3 l3).mono ?_;rintro e w3 ⟨rfl,g3⟩;have hb2:=hb1.trans g3
 try dsimp only
 refine hKK.out _ _ (hb2.but) (fun hHeld => ?_);apply wts 3 6 rfl rfl (by kernel_rfl) (fun _ _ _ h=>h) hHeld
 ·intro w' hSw;go_simp<;>with_reducible rfl
 try simp only [Act.put,pA,pB,pC]
 refine wonc 5 8 195 #[.tmp 7,.const (Value.int IntKind.i64 64),.const (Value.int IntKind.i64 32)] #[43,3,3] 43 (by kernel_rfl) rfl rfl (fun KK hKK => ?_);go_simp;refine (C2.o _ _ (hvx.ext hb2)).mono ?_;rintro e w4 ⟨v4,rfl,k2,g4⟩;have hb3:=hb2.trans g4
 try dsimp only
 refine hKK.out _ _ (hb3.but) (fun hHeld => ?_)
 try simp only [Act.put,pA,pB,pC]
 refine wonc 6 9 196 #[.tmp 8] #[43] 27 (by kernel_rfl) rfl rfl (fun KK hKK => ?_);go_simp;refine (rsmall_c _ p2 _ k2 l2).mono ?_;rintro e w5 ⟨rfl,g5⟩;have hb4:=hb3.trans g5
 try dsimp only
 refine hKK.out _ _ (hb4.but) (fun hHeld => ?_);apply wts 7 10 rfl rfl (by kernel_rfl) (fun _ _ _ h=>h) hHeld
 ·intro w' hSw;go_simp<;>with_reducible rfl
 try simp only [Act.put,pA,pB,pC]
 refine wonc 9 12 195 #[.tmp 11,.const (Value.int IntKind.i64 32),.const (Value.int IntKind.i64 32)] #[43,3,3] 43 (by kernel_rfl) rfl rfl (fun KK hKK => ?_);go_simp;refine (C1.o _ _ (hvx.ext hb4)).mono ?_;rintro e w6 ⟨v6,rfl,k1,g6⟩;have hb5:=hb4.trans g6
 try dsimp only
 refine hKK.out _ _ (hb5.but) (fun hHeld => ?_)
 try simp only [Act.put,pA,pB,pC]
 refine wonc 10 13 196 #[.tmp 12] #[43] 27 (by kernel_rfl) rfl rfl (fun KK hKK => ?_);go_simp;refine (rsmall_c _ p1 _ k1 l1).mono ?_;rintro e w7 ⟨rfl,g7⟩;have hb6:=hb5.trans g7
 try dsimp only
 refine hKK.out _ _ (hb6.but) (fun hHeld => ?_);apply wts 11 14 rfl rfl (by kernel_rfl) (fun _ _ _ h=>h) hHeld
 ·intro w' hSw;go_simp<;>with_reducible rfl
 try simp only [Act.put,pA,pB,pC]
 refine wonc 13 16 195 #[.tmp 15,.const (Value.int IntKind.i64 0),.const (Value.int IntKind.i64 32)] #[43,3,3] 43 (by kernel_rfl) rfl rfl (fun KK hKK => ?_);go_simp;refine (C0.o _ _ (hvx.ext hb6)).mono ?_;rintro e w8 ⟨v8,rfl,k0,g8⟩;have hb7:=hb6.trans g8
 try dsimp only
 refine hKK.out _ _ (hb7.but) (fun hHeld => ?_)
 try simp only [Act.put,pA,pB,pC]
 refine wonc 14 17 196 #[.tmp 16] #[43] 27 (by kernel_rfl) rfl rfl (fun KK hKK => ?_);go_simp;refine (rsmall_c _ p0 _ k0 l0).mono ?_;rintro e w9 ⟨rfl,g9⟩;have hb8:=hb7.trans g9
 try dsimp only
 refine hKK.out _ _ (hb8.but) (fun hHeld => ?_);apply wts 15 18 rfl rfl (by kernel_rfl) (fun _ _ _ h=>h) hHeld
 ·intro w' hSw;go_simp<;>with_reducible rfl
 apply wts 16 19 rfl rfl (by kernel_rfl) (fun _ _ _ h=>h) hHeld
 ·intro w' hSw;go_simp<;>with_reducible rfl
 try simp only [Act.put,pA,pB,pC]
 refine wons 17 29 2 19 (by kernel_rfl) rfl rfl (fun KK hKK => ?_);obtain ⟨U9,U10⟩:=(HB_Z.o.ext hb8).f2;go_simp;clear U9 U10;obtain ⟨W10,hW10,g10,q10,B10,hy10,ho10⟩:=rsto2 (HE.o.trans hb8) (by omega) (HB_Z.o.ext hb8) (by decide) (.int .u64 (IntKind.u64.wrap (IntKind.u64.wrap ((p3:Int)*4294967296)+p2))) (.int .u64 (IntKind.u64.wrap (IntKind.u64.wrap ((p1:Int)*4294967296)+p0)));rw [←hW10];clear hW10;replace HB_Z:=hid B10;have hq10:But W0 (w.heap.size+1) W10:=But.sto (hb8.but) ho10
 try dsimp only
 refine hKK.out _ _ (hq10) (fun hHeld => ?_);refine wpAnyH_done (by kernel_rfl) ?_ _;have ac:=cland (ho10 _ _ _ (by omega) (HB_X.o.ext (g1.trans (g2.trans (g3.trans (g4.trans (g5.trans (g6.trans (g7.trans (g8.trans g9)))))))))).a3 (HB_Z.o.a2);have hr11:Ext W10 W10:=Below.refl _ _;go_wp2_with fail;rw [HW.o];obtain ⟨J12,J13⟩:=HB_Z.o.c2;refine bodyPost_ret (v:=.agg #[.int .u64 (IntKind.u64.wrap (IntKind.u64.wrap ((p3:Int)*4294967296)+p2)),.int .u64 (IntKind.u64.wrap (IntKind.u64.wrap ((p1:Int)*4294967296)+p0))]) (by simp [results,Tryz.results183,go_sem,J12,J13]) rfl ⟨rfl,g10⟩
def flipW (E P n:Nat):Nat:=if 2^(E+P-1)≤n then n-2^(E+P-1) else n+2^(E+P-1)
theorem cmpQ_nat (m n:Nat):cmpQ ((m:Nat):Rat) ((n:Nat):Rat)=if m<n then -1 else if n<m then 1 else 0:=by
 unfold cmpQ;simp only [Rat.natCast_lt_natCast]
theorem nat_sub {m n:Nat} (h:n≤m):((m:Nat):Rat)-((n:Nat):Rat)=((m-n:Nat):Rat):=by
 have e:((m:Nat):Rat)=((m-n:Nat):Rat)+((n:Nat):Rat):=by rw [←Rat.natCast_add];congr 1;omega
 rw [e];grind
theorem nat_add (m n:Nat):((m:Nat):Rat)+((n:Nat):Rat)=((m+n:Nat):Rat):=(Rat.natCast_add m n).symm
theorem rflip_hl (E P h l:Nat) (w:World) (hF:Fmt E P) (hh:h<18446744073709551616) (hl:l<18446744073709551616) (hn:h*2^64+l<2^(E+P)) :
  Calls Tryz.prog 147 #[.agg #[.int .i64 (E:Nat),.int .i64 (P:Nat)],.agg #[.int .u64 (h:Nat),.int .u64 (l:Nat)]] w fun e w'=>e=.returned (Word (flipW E P (h*2^64+l)))∧Ext w w':=by
 obtain ⟨hE1,hE2,hP1,hP2,hEP⟩:=hF;have HH:=hid hh;have HL:=hid hl;obtain ⟨k,hk⟩:∃ k,k=E+P-1:=⟨_,rfl⟩;obtain ⟨n,hn'⟩:∃ n,n=h*2^64+l:=⟨_,rfl⟩;obtain ⟨S,hS⟩:∃ S,S=2^k:=⟨_,rfl⟩;have hk1:k≤200:=by omega
 have hki:(E:Int)+(P:Int)-1=(k:Int):=by omega
 have hE:E+P=k+1:=by omega
 have hnS:n<S+S:=by rw [hn',hS,←Nat.two_mul,←Nat.pow_succ'];rw [hE] at hn;exact hn
 have hS128:S≤2^127:=by rw [hS];exact Nat.pow_le_pow_right (by decide) (by omega)
 have HST:=hid hS128;have HNS:=hid hnS;have HFL:Hid (flipW E P (h*2^64+l)=if S≤n then n-S else n+S):=hid (by unfold flipW;rw [←hn',←hk,←hS]);have SN:Hid (SmQ 201 ((n:Nat):Rat)):=hid (nat_sm (by omega));have SS:Hid (SmQ 201 ((S:Nat):Rat)):=hid (nat_sm (by omega));have CT:Hid (∀ w,Calls Tryz.prog 88 #[.int .i64 ((E:Int)+(P:Int)-1)] w fun e w'=>∃ v,e=.returned v∧RNumV w' v ((S:Nat):Rat)∧Ext w w'):=hid fun w=>by
  have h2:=rtwo_c (k:Int) w (by omega) (by omega);rw [p2_nat,←hS,←hki] at h2;exact h2
 have CB:Hid (∀ w,Calls Tryz.prog 194 #[.agg #[.int .u64 (h:Nat),.int .u64 (l:Nat)]] w fun e w'=>∃ v,e=.returned v∧RNumV w' v ((n:Nat):Rat)∧Ext w w'):=hid fun w=>by
  rw [hn'];exact rbits_hl h l w HH.o HL.o
 have CC:Hid (∀ w u v,RNumV w u ((n:Nat):Rat)→RNumV w v ((S:Nat):Rat)→Calls Tryz.prog 87 #[u,v] w fun e w'=>e=.returned (.int .i64 (if n<S then -1 else if S<n then 1 else 0))∧Ext w w'):=hid fun w u v h1 h2=>by
  have h3:=rcmpq_c u v _ _ 201 w h1 h2 SN.o SS.o (by decide);rw [cmpQ_nat] at h3;exact h3
 clear hh hl hn hn' hS hk hki hE hnS hS128;obtain ⟨W0,hW0,g0,hz0,B_F,B_W,B_Z⟩:=pro3s w #[.int .i64 (E:Nat),.int .i64 (P:Nat)] #[.int .u64 (h:Nat),.int .u64 (l:Nat)] #[.int .u64 0,.int .u64 0] 23 29 29;have HE:=hid g0;have HB_F:=hid B_F;have HB_W:=hid B_W;have HB_Z:=hid B_Z;have ac:=cland HB_F.o.a2 (cland HB_W.o.a2 (HB_Z.o.a2));have hr0:Ext W0 W0:=Below.refl _ _;clear g0 B_F B_W B_Z 
 go_enter Tryz.func147,Tryz.ntmps147
 go_upto_region 1 with (fail)
 rw [←hW0];clear hW0;go_wp2_with fail;refine (CT.o _).mono ?_;rintro e w1 ⟨v1,rfl,k1,g1⟩;obtain ⟨s1,a1,n1,c1,a1',n1',c1',rfl⟩:=k1.shape;have gA:=g1.trans (Ext.alloc w1 (.cells #[.int .i64 s1,.slice a1 n1 c1,.slice a1' n1' c1'] 43));go_wp2_with fail;clear gA;have hs1:=g1.size;obtain ⟨W2,hW2,g2,hy2,B_S⟩:=pro1 w1 #[.int .i64 s1,.slice a1 n1 c1,.slice a1' n1' c1'] 43;rw [←hW2];clear hW2;have hb2:=g1.trans g2;have HB_S:=hid B_S;clear B_S;have he3:=(HE.o.trans hb2);replace ac:=hb2.cl ac;have hr4:Ext W2 W2:=Below.refl _ _;replace ac:=cland ac HB_S.o.a3;refine (CB.o _).mono ?_;rintro e w3 ⟨v3,rfl,k2,g3⟩;obtain ⟨s2,a2,n2,c2,a2',n2',c2',rfl⟩:=k2.shape;have gA:=g3.trans (Ext.alloc w3 (.cells #[.int .i64 s2,.slice a2 n2 c2,.slice a2' n2' c2'] 43));go_wp2_with fail;clear gA;have hs5:=g3.size;obtain ⟨W4,hW4,g4,hy4,B_N⟩:=pro1 w3 #[.int .i64 s2,.slice a2 n2 c2,.slice a2' n2' c2'] 43;rw [←hW4];clear hW4;have hb6:=g3.trans g4;have HB_N:=hid B_N;clear B_N;have he7:=(he3.trans hb6);replace ac:=hb6.cl ac;have hr8:Ext W4 W4:=Below.refl _ _;replace ac:=cland ac HB_N.o.a3;refine (CC.o _ _ _ (k2.ext g4) (k1.ext (g2.trans (g3.trans g4)))).mono ?_;rintro e w5 ⟨rfl,g5⟩
 rcases Nat.lt_or_ge n S with hlt | hge
 ·rw [if_pos hlt];have hd:decide ((0:Int) ≤ -1)=false:=by decide
  have HR:Hid (flipW E P (h*2^64+l)=n+S):=hid (by rw [HFL.o,if_neg (by omega)]);have HLT:=hid hlt;clear hlt;go_wp2_with fail;refine (raddq_c _ _ _ _ 201 _ ((k2.ext g4).ext g5) ((k1.ext (g2.trans (g3.trans g4))).ext g5) SN.o SS.o (by decide)).mono ?_;rintro e w6 ⟨v6,rfl,k3,g6⟩;have hb9:=g5.trans g6;rw [nat_add] at k3;go_wp2_with fail;refine (rpacked_c _ (n+S) _ k3 (by have:=HLT.o;have:=HST.o;omega)).mono ?_;rintro e w7 ⟨rfl,g7⟩;have hb10:=hb9.trans g7;obtain ⟨r0,r1,er⟩:=Word.shape (n+S);have ER:=hid er;clear er;rw [ER.o];obtain ⟨U11,U12⟩:=((HB_Z.o.ext (g1.trans (g2.trans (g3.trans g4)))).ext hb10).f2;go_wp2_with fail;clear U11 U12;obtain ⟨W8,hW8,g8,q8,B8,hy8,ho8⟩:=rsto2 (he7.trans hb10) (by omega) ((HB_Z.o.ext (g1.trans (g2.trans (g3.trans g4)))).ext hb10) (by decide) (.int .u64 (r0:Nat)) (.int .u64 (r1:Nat));rw [←hW8];clear hW8;replace HB_Z:=hid B8;obtain ⟨J13,J14⟩:=HB_Z.o.c2;refine bodyPost_ret (v:=.agg #[.int .u64 (r0:Nat),.int .u64 (r1:Nat)]) (by simp [results,Tryz.results147,go_sem,J13,J14]) rfl ⟨by rw [HR.o,ER.o],g8⟩
 ·obtain ⟨cc,hcc⟩:∃ c,c=(if n<S then -1 else if S<n then 1 else 0:Int):=⟨_,rfl⟩;rw [←hcc];have hd:decide ((0:Int)≤cc)=true:=decide_eq_true (by rw [hcc,if_neg (by omega)];split<;>omega);have HR:Hid (flipW E P (h*2^64+l)=n-S):=hid (by rw [HFL.o,if_pos hge]);have HGE:=hid hge;clear hge hcc;go_wp2_with fail;refine (rsubq_c _ _ _ _ 201 _ ((k2.ext g4).ext g5) ((k1.ext (g2.trans (g3.trans g4))).ext g5) SN.o SS.o (by decide)).mono ?_;rintro e w6 ⟨v6,rfl,k3,g6⟩;have hb9:=g5.trans g6;rw [nat_sub HGE.o] at k3;go_wp2_with fail;refine (rpacked_c _ (n-S) _ k3 (by have:=HNS.o;have:=HST.o;omega)).mono ?_;rintro e w7 ⟨rfl,g7⟩;have hb10:=hb9.trans g7;obtain ⟨r0,r1,er⟩:=Word.shape (n-S);have ER:=hid er;clear er;rw [ER.o];obtain ⟨U11,U12⟩:=((HB_Z.o.ext (g1.trans (g2.trans (g3.trans g4)))).ext hb10).f2;go_wp2_with fail;clear U11 U12;obtain ⟨W8,hW8,g8,q8,B8,hy8,ho8⟩:=rsto2 (he7.trans hb10) (by omega) ((HB_Z.o.ext (g1.trans (g2.trans (g3.trans g4)))).ext hb10) (by decide) (.int .u64 (r0:Nat)) (.int .u64 (r1:Nat));rw [←hW8];clear hW8;replace HB_Z:=hid B8;obtain ⟨J13,J14⟩:=HB_Z.o.c2;refine bodyPost_ret (v:=.agg #[.int .u64 (r0:Nat),.int .u64 (r1:Nat)]) (by simp [results,Tryz.results147,go_sem,J13,J14]) rfl ⟨by rw [HR.o,ER.o],g8⟩
theorem rflip_c (E P n:Nat) (w:World) (hF:Fmt E P) (hn:n<2^(E+P)):Calls Tryz.prog 147 #[.agg #[.int .i64 (E:Nat),.int .i64 (P:Nat)],Word n] w fun e w'=>e=.returned (Word (flipW E P n))∧Ext w w':=by
 have h128:n<340282366920938463463374607431768211456:=by
  refine Nat.lt_of_lt_of_le hn (Nat.le_trans (Nat.pow_le_pow_right (by decide) (show E+P≤124 from ?_)) (by decide));obtain ⟨_,_,_,_,_⟩:=hF;omega
 have e:n/18446744073709551616*2^64+n%18446744073709551616=n:=by omega
 have h:=rflip_hl E P (n/18446744073709551616) (n%18446744073709551616) w hF (by omega) (by omega) (by rw [e];exact hn);rw [e] at h
 exact h
end Go.Proofs.YtgabigepocfllaaGreatDoor
