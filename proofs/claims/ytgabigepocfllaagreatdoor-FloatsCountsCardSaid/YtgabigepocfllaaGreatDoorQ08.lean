/- Rational numbers: Sub, Quo, Cmp. -/
import Derived.Test.YtgabigepocfllaaGreatDoorQ07
namespace Go.Proofs.YtgabigepocfllaaGreatDoor
open Go.RowKit Vn
set_option maxRecDepth 100000
set_option maxHeartbeats 8000000
theorem SmQ.neg {K:Nat} {q:Rat} (h:SmQ K q):SmQ K (-q):=by
 unfold SmQ at *
 rw [Rat.neg_num,Rat.neg_den,Int.natAbs_neg];exact h
theorem sub_value (q r:Rat):q + -r=q-r:=(Rat.sub_eq_add_neg q r).symm
theorem Sub_c (x y:Value) (q r:Rat) (K:Nat) (w:World) (hx:NumV w x q) (hy:NumV w y r) (sx:SmQ K q) (sy:SmQ K r) (hK:K≤20000000) :
  Calls Tryz.prog 125 #[x,y] w fun e w'=>∃ v,e=.returned v∧NumV w' v (q-r)∧Ext w w':=by
 obtain ⟨ng,a,n,c,a',n',c',rfl⟩:=hx.shape;obtain ⟨mg,b,m,d,b',m',d',rfl⟩:=hy.shape;obtain ⟨W0,hW0,e0,hBx,hBy,hBz⟩:=pro3 w #[.bool ng,.slice a n c,.slice a' n' c'] #[.bool mg,.slice b m d,.slice b' m' d'] #[.bool false,.slice none 0 0,.slice none 0 0] 40 40 40;have e4:Ext W0 W0.drew:=Below.drew (Below.refl _ W0);have HE:Hid (Ext w W0.drew):=hid (e0.trans e4);have HBz:=hid (hBz.ext e4);have HS:Hid (∀ w',Ext W0.drew w'→Six w.heap.size (.bool ng) (.slice a n c) (.slice a' n' c') (w.heap.size+1) (.bool mg) (.slice b m d) (.slice b' m' d') w'):=hid fun w' h=>Six.of (hBx.ext (e4.trans h)) (hBy.ext (e4.trans h));have Hx:=hid hx;have Hy:=hid hy;have hrefl:Ext W0.drew W0.drew:=Below.refl _ _;have Sx:=hid sx;have Sy:=hid sy.neg;have HK:=hid hK;clear hx hy sx sy hK e0 e4 hBx hBy hBz
 go_enter Tryz.func125,Tryz.ntmps125
 go_wp2_with fail;rw [←hW0];clear hW0
 go_region_held3 (fun w'=>w'.cell? ⟨w.heap.size,0,none⟩=some (.bool ng)∧w'.cell? ⟨w.heap.size,1,none⟩=some (.slice a n c)∧w'.cell? ⟨w.heap.size,2,none⟩=some (.slice a' n' c') ∧
   w'.cell? ⟨w.heap.size+1,0,none⟩=some (.bool mg)∧w'.cell? ⟨w.heap.size+1,1,none⟩=some (.slice b m d)∧w'.cell? ⟨w.heap.size+1,2,none⟩=some (.slice b' m' d'))
  (first | exact HS.o _ (by assumption) | exact Six.store (HS.o _ (by assumption)) (by omega) (by omega) _ _ _)
  (first
   | (go_at_call 189;(with_reducible refine (neg_c _ r _ (Hy.o.ext HE.o)).mono ?_);rintro e w1 ⟨v1,rfl,k1,g1⟩;have hb1:Ext W0.drew w1:=g1)
   | (go_at_call 126;(with_reducible refine (Add_c _ _ q (-r) K _ (Hx.o.ext (HE.o.trans hb1)) k1 Sx.o Sy.o HK.o).mono ?_);rintro e w2 ⟨v,rfl,k2,g2⟩;have hb2:Ext W0.drew w2:=hb1.trans g2;obtain ⟨ng2,a2,n2,c2,a2',n2',c2',rfl⟩:=k2.shape;obtain ⟨z0,z1,z2,f0,f1,f2⟩:=(HBz.o.ext hb2).three))
 go_wp2_with fail;obtain ⟨q1,q2,q3⟩:=store3 (HE.o.trans hb2) (show w.heap.size≤w.heap.size+1+1 by omega) (HBz.o.ext hb2) (by decide) (.bool ng2) (.slice a2 n2 c2) (.slice a2' n2' c2');have r0:=q3.cell 0;have r1:=q3.cell 1;have r2:=q3.cell 2;refine bodyPost_ret (v:=.agg #[.bool ng2,.slice a2 n2 c2,.slice a2' n2' c2']) (by simp [results,Tryz.results125,go_sem,r0,r1,r2]) rfl ⟨_,rfl,?_,q1⟩;have k3:=k2.keep q2;rw [sub_value] at k3
 exact k3
def cmpQ (q r:Rat):Int:=if q<r then -1 else if r<q then 1 else 0
theorem cmp_other (x y:Value) (q r:Rat) (w:World) (hx:NumV w x q) (hy:NumV w y r) (z:Int) (hs:q.num.sign≠r.num.sign) (hz:Hid (z=if q.num.sign<r.num.sign then -1 else 1)) :
  Calls Tryz.prog 20 #[x,y] w fun e w'=>e=.returned (.int .i64 z)∧Ext w w':=by
 obtain ⟨ng,a,n,c,a',n',c',rfl⟩:=hx.shape;obtain ⟨mg,b,m,d,b',m',d',rfl⟩:=hy.shape;obtain ⟨W0,hW0,e0,hBx,hBy⟩:=pro2 w #[.bool ng,.slice a n c,.slice a' n' c'] #[.bool mg,.slice b m d,.slice b' m' d'] 40 40;have e4:Ext W0 W0.drew:=Below.drew (Below.refl _ W0);have HE:Hid (Ext w W0.drew):=hid (e0.trans e4);have HS:Hid (∀ w',Ext W0.drew w'→Six w.heap.size (.bool ng) (.slice a n c) (.slice a' n' c') (w.heap.size+1) (.bool mg) (.slice b m d) (.slice b' m' d') w'):=hid fun w' h=>Six.of (hBx.ext (e4.trans h)) (hBy.ext (e4.trans h));have Hx:=hid hx;have Hy:=hid hy;have hrefl:Ext W0.drew W0.drew:=Below.refl _ _;have hs1:(q.num.sign==r.num.sign)=false:=beq_eq_false_iff_ne.2 hs;clear hx hy e0 e4 hBx hBy
 go_enter Tryz.func20,Tryz.ntmps20
 go_wp2_with fail;rw [←hW0];clear hW0
 go_region_held3 (fun w'=>w'.cell? ⟨w.heap.size,0,none⟩=some (.bool ng)∧w'.cell? ⟨w.heap.size,1,none⟩=some (.slice a n c)∧w'.cell? ⟨w.heap.size,2,none⟩=some (.slice a' n' c') ∧
   w'.cell? ⟨w.heap.size+1,0,none⟩=some (.bool mg)∧w'.cell? ⟨w.heap.size+1,1,none⟩=some (.slice b m d)∧w'.cell? ⟨w.heap.size+1,2,none⟩=some (.slice b' m' d'))
  (exact HS.o _ (by assumption))
  (first
   | (go_at_call 25;(with_reducible refine (sign_c _ q _ (Hx.o.ext HE.o)).mono ?_);rintro e w1 ⟨rfl,g1⟩;have hb1:Ext W0.drew w1:=g1)
   | (go_at_call 25;(with_reducible refine (sign_c _ r _ (Hy.o.ext (HE.o.trans hb1))).mono ?_);rintro e w2 ⟨rfl,g2⟩;have hb2:Ext W0.drew w2:=hb1.trans g2))
 by_cases hl:q.num.sign<r.num.sign
 ·have hl1:decide (q.num.sign<r.num.sign)=true:=decide_eq_true hl;have hz1:Hid (z = -1):=hid (by rw [hz.o,if_pos hl]);go_wp2_with fail;go_ret
  exact ⟨by rw [hz1.o];rfl,HE.o.trans hb2⟩
 ·have hl1:decide (q.num.sign<r.num.sign)=false:=decide_eq_false hl;have hz1:Hid (z=1):=hid (by rw [hz.o,if_neg hl]);go_wp2_with fail;go_ret
  exact ⟨by rw [hz1.o];rfl,HE.o.trans hb2⟩
theorem cmp_same (x y:Value) (q r:Rat) (K:Nat) (w:World) (hx:NumV w x q) (hy:NumV w y r) (sx:SmQ K q) (sy:SmQ K r) (hK:K≤20000000) (z:Int) (hs:q.num.sign=r.num.sign) (hz:Hid (z=q.num.sign*cmpN (q.num.natAbs*r.den) (r.num.natAbs*q.den))) :
  Calls Tryz.prog 20 #[x,y] w fun e w'=>e=.returned (.int .i64 z)∧Ext w w':=by
 obtain ⟨ng,a,n,c,a',n',c',rfl⟩:=hx.shape;obtain ⟨mg,b,m,d,b',m',d',rfl⟩:=hy.shape;obtain ⟨W0,hW0,e0,hBx,hBy⟩:=pro2 w #[.bool ng,.slice a n c,.slice a' n' c'] #[.bool mg,.slice b m d,.slice b' m' d'] 40 40;have e4:Ext W0 W0.drew:=Below.drew (Below.refl _ W0);have HE:Hid (Ext w W0.drew):=hid (e0.trans e4);have HS:Hid (∀ w',Ext W0.drew w'→Six w.heap.size (.bool ng) (.slice a n c) (.slice a' n' c') (w.heap.size+1) (.bool mg) (.slice b m d) (.slice b' m' d') w'):=hid fun w' h=>Six.of (hBx.ext (e4.trans h)) (hBy.ext (e4.trans h));have Hx:=hid hx;have Hy:=hid hy;have hrefl:Ext W0.drew W0.drew:=Below.refl _ _;have hs1:(q.num.sign==r.num.sign)=true:=beq_iff_eq.2 hs;have Sxp:=hid sx.1;have Sxd:=hid sx.2;have Syp:=hid sy.1;have Syd:=hid sy.2;have HK2:Hid (K≤100000000):=hid (by omega);have HK4:Hid (K+K≤100000000):=hid (by omega);clear hx hy e0 e4 hBx hBy hs sx sy hK
 go_enter Tryz.func20,Tryz.ntmps20
 go_wp2_with fail;rw [←hW0];clear hW0
 go_region_held3 (fun w'=>w'.cell? ⟨w.heap.size,0,none⟩=some (.bool ng)∧w'.cell? ⟨w.heap.size,1,none⟩=some (.slice a n c)∧w'.cell? ⟨w.heap.size,2,none⟩=some (.slice a' n' c') ∧
   w'.cell? ⟨w.heap.size+1,0,none⟩=some (.bool mg)∧w'.cell? ⟨w.heap.size+1,1,none⟩=some (.slice b m d)∧w'.cell? ⟨w.heap.size+1,2,none⟩=some (.slice b' m' d'))
  (exact HS.o _ (by assumption))
  (first
   | (go_at_call 25;(with_reducible refine (sign_c _ q _ (Hx.o.ext HE.o)).mono ?_);rintro e w1 ⟨rfl,g1⟩;have hb1:Ext W0.drew w1:=g1)
   | (go_at_call 25;(with_reducible refine (sign_c _ r _ (Hy.o.ext (HE.o.trans hb1))).mono ?_);rintro e w2 ⟨rfl,g2⟩;have hb2:Ext W0.drew w2:=hb1.trans g2))
 go_wp2_with fail;have hd:Ext w2 w2.drew:=Below.drew (Below.refl _ w2);have hb9:Ext W0.drew w2.drew:=hb2.trans hd;clear hd g1 g2 hb1 hb2
 go_region_held3 (fun w'=>w'.cell? ⟨w.heap.size,0,none⟩=some (.bool ng)∧w'.cell? ⟨w.heap.size,1,none⟩=some (.slice a n c)∧w'.cell? ⟨w.heap.size,2,none⟩=some (.slice a' n' c') ∧
   w'.cell? ⟨w.heap.size+1,0,none⟩=some (.bool mg)∧w'.cell? ⟨w.heap.size+1,1,none⟩=some (.slice b m d)∧w'.cell? ⟨w.heap.size+1,2,none⟩=some (.slice b' m' d'))
  (exact HS.o _ (by assumption))
  (first
   | (go_at_call 103;(with_reducible refine (bottom_c _ r _ (Hy.o.ext (HE.o.trans hb9))).mono ?_);rintro e w3 ⟨a3,n3,c3,rfl,k3,g3⟩;have hb3:Ext W0.drew w3:=hb9.trans g3)
   | (go_at_call 102;(with_reducible refine (mul_c _ _ q.num.natAbs r.den K _ (Hx.o.p.ext (HE.o.trans hb3)) k3 Sxp.o Syd.o HK2.o).mono ?_);rintro e w4 ⟨a4,n4,c4,rfl,k4,g4⟩;have hb4:Ext W0.drew w4:=hb3.trans g4)
   | (go_at_call 103;(with_reducible refine (bottom_c _ q _ (Hx.o.ext (HE.o.trans hb4))).mono ?_);rintro e w5 ⟨a5,n5,c5,rfl,k5,g5⟩;have hb5:Ext W0.drew w5:=hb4.trans g5)
   | (go_at_call 102;(with_reducible refine (mul_c _ _ r.num.natAbs q.den K _ (Hy.o.p.ext (HE.o.trans hb5)) k5 Syp.o Sxd.o HK2.o).mono ?_);rintro e w6 ⟨a6,n6,c6,rfl,k6,g6⟩;have hb6:Ext W0.drew w6:=hb5.trans g6)
   | (go_at_call 104;(with_reducible refine (cmp_c _ _ _ _ (K+K) _ (k4.ext (g5.trans g6)) k6 (Sxp.o.mul Syd.o) (Syp.o.mul Sxd.o) HK4.o).mono ?_);rintro e w7 ⟨rfl,g7⟩;have hb7:Ext W0.drew w7:=hb6.trans g7))
 go_wp2_with fail;go_ret;refine ⟨?_,HE.o.trans hb7⟩;rw [hz.o]
 show Ending.returned (Value.int .i64 (IntKind.i64.wrap (q.num.sign*cmpN (q.num.natAbs*r.den) (r.num.natAbs*q.den))))=_
 obtain ⟨u,hv⟩:∃ u,Hid (u=cmpN (q.num.natAbs*r.den) (r.num.natAbs*q.den)):=⟨_,hid rfl⟩;rw [←hv.o];have hu:u = -1∨u=0∨u=1:=by rw [hv.o];unfold cmpN;split;exact Or.inl rfl;split;exact Or.inr (Or.inr rfl);exact Or.inr (Or.inl rfl)
 rcases Int.sign_trichotomy q.num with h | h | h<;>rcases hu with k | k | k<;>rw [h,k]<;>rfl
theorem cmpQ_sign {q r:Rat} (hs:q.num.sign=r.num.sign):cmpQ q r=q.num.sign*cmpN (q.num.natAbs*r.den) (r.num.natAbs*q.den):=by
 have hq:q.num*r.den=q.num.sign*((q.num.natAbs*r.den:Nat):Int):=by
  rw [Int.natCast_mul,←Int.mul_assoc,Int.sign_mul_natAbs]
 have hr:r.num*q.den=q.num.sign*((r.num.natAbs*q.den:Nat):Int):=by
  rw [Int.natCast_mul,←Int.mul_assoc,hs,Int.sign_mul_natAbs]
 unfold cmpQ cmpN;simp only [Rat.lt_iff,hq,hr];have hz:q.num.sign=0→q.num.natAbs*r.den=0∧r.num.natAbs*q.den=0:=fun h=>by
  have h1:=Int.sign_eq_zero_iff_zero.1 h;rw [hs] at h;have h2:=Int.sign_eq_zero_iff_zero.1 h;rw [h1,h2];simp
 generalize q.num.natAbs*r.den=A at *
 generalize r.num.natAbs*q.den=B at *
 rcases Int.sign_trichotomy q.num with h | h | h<;>rw [h]
 ·simp only [Int.one_mul,Int.ofNat_lt]
 ·have:=hz h
  simp
 ·simp only [Int.neg_mul,Int.one_mul,Int.neg_lt_neg_iff,Int.ofNat_lt]
  by_cases h1:A<B
  ·have h2:¬ B<A:=by omega
   simp [h1,h2]
  ·by_cases h2:B<A<;>simp [h1,h2]
theorem cmpQ_other {q r:Rat} (hs:q.num.sign≠r.num.sign):cmpQ q r=if q.num.sign<r.num.sign then -1 else 1:=by
 have hdq:=den_pos q;have hdr:=den_pos r;have aux:∀ {q r:Rat},0<q.den→0<r.den→q.num.sign<r.num.sign→q<r:=by
  intro q r hq hr h
  rw [Rat.lt_iff]
  rcases Int.lt_trichotomy q.num 0 with k | k | k
  ·have h1:q.num*r.den<0:=Int.mul_neg_of_neg_of_pos k (by omega)
   rcases Int.lt_trichotomy r.num 0 with k2 | k2 | k2
   ·rw [Int.sign_eq_neg_one_of_neg k,Int.sign_eq_neg_one_of_neg k2] at h;omega
   ·rw [k2];omega
   ·have:0<r.num*q.den:=Int.mul_pos k2 (by omega)
    omega
  ·rcases Int.lt_trichotomy r.num 0 with k2 | k2 | k2
   ·rw [k,Int.sign_eq_neg_one_of_neg k2] at h;simp at h
   ·rw [k,k2] at h;simp at h
   ·have:0<r.num*q.den:=Int.mul_pos k2 (by omega)
    rw [k];omega
  ·rcases Int.lt_trichotomy r.num 0 with k2 | k2 | k2
   ·rw [Int.sign_eq_one_of_pos k,Int.sign_eq_neg_one_of_neg k2] at h;omega
   ·rw [Int.sign_eq_one_of_pos k,k2] at h;simp at h
   ·rw [Int.sign_eq_one_of_pos k,Int.sign_eq_one_of_pos k2] at h;omega
 unfold cmpQ
 rcases Int.lt_trichotomy q.num.sign r.num.sign with h | h | h
 ·rw [if_pos (aux hdq hdr h),if_pos h]
 ·exact absurd h hs
 ·have h2:=aux hdr hdq h;rw [if_neg (Rat.not_lt.2 (Rat.le_of_lt h2)),if_pos h2,if_neg (by omega)]
theorem Cmp_c (x y:Value) (q r:Rat) (K:Nat) (w:World) (hx:NumV w x q) (hy:NumV w y r) (sx:SmQ K q) (sy:SmQ K r) (hK:K≤20000000) :
  Calls Tryz.prog 20 #[x,y] w fun e w'=>e=.returned (.int .i64 (cmpQ q r))∧Ext w w':=by
 by_cases hs:q.num.sign=r.num.sign
 ·exact cmp_same x y q r K w hx hy sx sy hK _ hs (hid (cmpQ_sign hs))
 ·exact cmp_other x y q r w hx hy _ hs (hid (cmpQ_other hs))
theorem quo_value (q r:Rat) (hr:r≠0):mkq (decide (q.num<0) != decide (r.num<0)) (q.num.natAbs*r.den) (q.den*r.num.natAbs)=q/r:=by
 have h1:r.num.natAbs≠0:=fun h=>hr (Rat.num_eq_zero.1 (by omega))
 have:=mkq_div (decide (q.num<0)) (decide (r.num<0)) q.num.natAbs r.num.natAbs q.den r.den h1 r.den_nz
 rw [mkq_self,mkq_self] at this
 exact this.symm
theorem NumV.nought (w:World):NumV w (.agg #[.bool false,.slice none 0 0,.slice none 0 0]) 0:=by
 have:=NumV.zero w
 exact this
theorem quo_some (x y:Value) (q r:Rat) (K:Nat) (w:World) (hx:NumV w x q) (hy:NumV w y r) (sx:SmQ K q) (sy:SmQ K r) (hK:K≤20000000) (hr:r≠0) :
  Calls Tryz.prog 184 #[x,y] w fun e w'=>∃ v,e=.returned (.tuple #[v,.int .i64 0])∧NumV w' v (q/r)∧Ext w w':=by
 obtain ⟨ng,a,n,c,a',n',c',rfl⟩:=hx.shape;obtain ⟨mg,b,m,d,b',m',d',rfl⟩:=hy.shape;obtain ⟨W0,hW0,e0,hBx,hBy,hBz⟩:=pro3 w #[.bool ng,.slice a n c,.slice a' n' c'] #[.bool mg,.slice b m d,.slice b' m' d'] #[.bool false,.slice none 0 0,.slice none 0 0] 40 40 40;have HE:Hid (Ext w W0):=hid e0;have HBz:=hid hBz;have HS:Hid (∀ w',Ext W0 w'→Six w.heap.size (.bool ng) (.slice a n c) (.slice a' n' c') (w.heap.size+1) (.bool mg) (.slice b m d) (.slice b' m' d') w'):=hid fun w' h=>Six.of (hBx.ext h) (hBy.ext h);have Hx:=hid hx;have Hy:=hid hy;have hb0:Ext W0 W0.drew:=Below.drew (Below.refl _ W0);have hs:(r.num.sign==0)=false:=by
  have:r.num≠0:=fun h=>hr (Rat.num_eq_zero.1 h)
  have:r.num.sign≠0:=fun h=>this (Int.sign_eq_zero_iff_zero.1 h)
  exact beq_eq_false_iff_ne.2 this
 have hpos:Hid (0<q.den*r.num.natAbs):=hid (Nat.mul_pos (den_pos q) (Nat.pos_of_ne_zero fun h=>hr (Rat.num_eq_zero.1 (by omega))));have Sxp:=hid sx.1;have Sxd:=hid sx.2;have Syp:=hid sy.1;have Syd:=hid sy.2;have HK2:Hid (K≤100000000):=hid (by omega);have HK3:Hid (K+K≤50000000):=hid (by omega);have HV:=hid (quo_value q r hr);have Hne:=hid hx.neg;have Hme:=hid hy.neg;have HW0:Hid (Ext w W0):=hid e0;clear hx hy e0 hBx hBy hBz hr sx sy hK
 go_enter Tryz.func184,Tryz.ntmps184
 go_wp2_with fail;rw [←hW0];clear hW0;refine (sign_c _ r _ (Hy.o.ext HE.o)).mono ?_;rintro e w1 ⟨rfl,g1⟩;have hs6:=HS.o _ g1;go_wp2_with fail;have hb1:Ext W0 w1.drew:=g1.trans (Below.drew (Below.refl _ w1));clear hs6
 go_region_held3 (fun w'=>w'.cell? ⟨w.heap.size,0,none⟩=some (.bool ng)∧w'.cell? ⟨w.heap.size,1,none⟩=some (.slice a n c)∧w'.cell? ⟨w.heap.size,2,none⟩=some (.slice a' n' c') ∧
   w'.cell? ⟨w.heap.size+1,0,none⟩=some (.bool mg)∧w'.cell? ⟨w.heap.size+1,1,none⟩=some (.slice b m d)∧w'.cell? ⟨w.heap.size+1,2,none⟩=some (.slice b' m' d'))
  (first | exact HS.o _ (by assumption) | exact Six.store (HS.o _ (by assumption)) (by omega) (by omega) _ _ _)
  (first
   | (go_at_call 103;(with_reducible refine (bottom_c _ r _ (Hy.o.ext (HE.o.trans hb1))).mono ?_);rintro e w2 ⟨a2,n2,c2,rfl,k2,g2⟩;have hb2:Ext W0 w2:=hb1.trans g2)
   | (go_at_call 102;(with_reducible refine (mul_c _ _ q.num.natAbs r.den K _ (Hx.o.p.ext (HE.o.trans hb2)) k2 Sxp.o Syd.o HK2.o).mono ?_);rintro e w3 ⟨a3,n3,c3,rfl,k3,g3⟩;have hb3:Ext W0 w3:=hb2.trans g3)
   | (go_at_call 103;(with_reducible refine (bottom_c _ q _ (Hx.o.ext (HE.o.trans hb3))).mono ?_);rintro e w4 ⟨a4,n4,c4,rfl,k4,g4⟩;have hb4:Ext W0 w4:=hb3.trans g4)
   | (go_at_call 102;(with_reducible refine (mul_c _ _ q.den r.num.natAbs K _ k4 (Hy.o.p.ext (HE.o.trans hb4)) Sxd.o Syp.o HK2.o).mono ?_);rintro e w5 ⟨a5,n5,c5,rfl,k5,g5⟩;have hb5:Ext W0 w5:=hb4.trans g5)
   | (go_at_call 162;(with_reducible refine (made_c _ _ _ _ _ (K+K) _ (k3.ext (g4.trans g5)) k5 (Sxp.o.mul Syd.o) (Sxd.o.mul Syp.o) HK3.o hpos.o).mono ?_);rintro e w6 ⟨v,rfl,k6,g6⟩;have hb6:Ext W0 w6:=hb5.trans g6;obtain ⟨ng6,a6,n6,c6,a6',n6',c6',rfl⟩:=k6.shape;obtain ⟨z0,z1,z2,f0,f1,f2⟩:=(HBz.o.ext hb6).three))
 go_wp2_with fail;obtain ⟨q1,q2,q3⟩:=store3 (HE.o.trans hb6) (show w.heap.size≤w.heap.size+1+1 by omega) (HBz.o.ext hb6) (by decide) (.bool ng6) (.slice a6 n6 c6) (.slice a6' n6' c6');have r0:=q3.cell 0;have r1:=q3.cell 1;have r2:=q3.cell 2;refine bodyPost_ret (v:=.tuple #[.agg #[.bool ng6,.slice a6 n6 c6,.slice a6' n6' c6'],.int .i64 0]) (by simp [results,Tryz.results184,go_sem,r0,r1,r2]) rfl ⟨_,rfl,?_,q1⟩;have k7:=k6.keep q2;rw [Hne.o,Hme.o] at k7;have k8:NumV _ _ (mkq (decide (q.num<0) != decide (r.num<0)) (q.num.natAbs*r.den) (q.den*r.num.natAbs)):=k7;rw [HV.o] at k8
 exact k8
theorem mkq_int (n:Int):mkq (decide (n<0)) n.natAbs 1=(n:Rat):=by
 have:=mkq_self (n:Rat)
 rw [Rat.num_intCast,Rat.den_intCast] at this
 exact this
theorem store3' {w W0 wk:World} {b:Nat} {x y z:Value} {t:TypeId} (h0:Ext w W0) (hk:Ext W0 wk) (hle:w.heap.size≤b) (hB:Box W0 b #[x,y,z] t) (ht:t≠195) (x' y' z':Value) :
  Ext w (((wk.setCell ⟨b,0,none⟩ x').setCell ⟨b,1,none⟩ y').setCell ⟨b,2,none⟩ z')∧Keep wk (((wk.setCell ⟨b,0,none⟩ x').setCell ⟨b,1,none⟩ y').setCell ⟨b,2,none⟩ z') ∧
  Box (((wk.setCell ⟨b,0,none⟩ x').setCell ⟨b,1,none⟩ y').setCell ⟨b,2,none⟩ z') b #[x',y',z'] t:=store3 (h0.trans hk) hle (hB.ext hk) ht x' y' z'
theorem Int_c (n:Int) (w:World) (h0 : -9223372036854775808≤n) (h1:n<9223372036854775808) :
  Calls Tryz.prog 127 #[.int .i64 n] w fun e w'=>∃ v,e=.returned v∧NumV w' v (n:Rat)∧Ext w w':=by
 have H0:=hid h0;have H1:=hid h1;have HN:=hid (mkq_int n);obtain ⟨W0,hW0⟩:∃ W0,W0=w.alloc (.cells #[.bool false,.slice none 0 0,.slice none 0 0] 40):=⟨_,rfl⟩;have HE:Hid (Ext w W0):=hid (by rw [hW0];exact Ext.alloc w _);have HB:Hid (Box W0 w.heap.size #[.bool false,.slice none 0 0,.slice none 0 0] 40):=hid (by rw [hW0];exact Box.new w _ _);clear h0 h1
 by_cases hn:n<0
 ·have hn1:decide (n<0)=true:=decide_eq_true hn;have Hn:=hid hn;clear hn
  go_enter Tryz.func127,Tryz.ntmps127
  go_wp2_with fail;rw [←hW0];clear hW0;refine (of_c _ _ (by rw [w64];omega) (by rw [w64];omega)).mono ?_;rintro e w1 ⟨a1,n1,c1,rfl,k1,g1⟩;go_wp2_with fail;refine (of_c _ _ (by decide) (by decide)).mono ?_;rintro e w2 ⟨a2,n2,c2,rfl,k2,g2⟩;go_wp2_with fail;refine (made_c _ _ _ n.natAbs 1 64 _ ?_ k2 (show n.natAbs<2^64 by have:=H0.o;have:=Hn.o;omega) (show 1<2^64 by decide) (by decide) (by decide)).mono ?_
  ·have e1:(IntKind.u64.wrap (-(IntKind.u64.wrap n))).toNat=n.natAbs:=by
    rw [w64,w64];have:=H0.o;have:=Hn.o;omega
   rw [←e1];exact k1.ext g2
  rintro e w3 ⟨v,rfl,k3,g3⟩;obtain ⟨ng3,a3,n3,c3,a3',n3',c3',rfl⟩:=k3.shape;have hb3:=g1.trans (g2.trans g3);obtain ⟨z0,z1,z2,f0,f1,f2⟩:=(HB.o.ext hb3).three;go_wp2_with fail;obtain ⟨q1,q2,q3⟩:=store3' HE.o hb3 (Nat.le_refl _) HB.o (by decide) (.bool ng3) (.slice a3 n3 c3) (.slice a3' n3' c3');have r0:=q3.cell 0;have r1:=q3.cell 1;have r2:=q3.cell 2;refine bodyPost_ret (v:=.agg #[.bool ng3,.slice a3 n3 c3,.slice a3' n3' c3']) (by simp [results,Tryz.results127,go_sem,r0,r1,r2]) rfl ⟨_,rfl,?_,q1⟩;have k4:=k3.keep q2;have k5:=HN.o;rw [hn1] at k5;rw [k5] at k4
  exact k4
 ·have hn1:decide (n<0)=false:=decide_eq_false hn;have Hn:=hid hn;clear hn
  go_enter Tryz.func127,Tryz.ntmps127
  go_wp2_with fail;rw [←hW0];clear hW0;refine (of_c _ _ (by rw [w64];omega) (by rw [w64];omega)).mono ?_;rintro e w1 ⟨a1,n1,c1,rfl,k1,g1⟩;go_wp2_with fail;refine (of_c _ _ (by decide) (by decide)).mono ?_;rintro e w2 ⟨a2,n2,c2,rfl,k2,g2⟩;go_wp2_with fail;refine (made_c _ _ _ n.natAbs 1 64 _ ?_ k2 (show n.natAbs<2^64 by have:=H1.o;have:=Hn.o;omega) (show 1<2^64 by decide) (by decide) (by decide)).mono ?_
  ·have e1:(IntKind.u64.wrap n).toNat=n.natAbs:=by
    rw [w64];have:=H1.o;have:=Hn.o;omega
   rw [←e1];exact k1.ext g2
  rintro e w3 ⟨v,rfl,k3,g3⟩;obtain ⟨ng3,a3,n3,c3,a3',n3',c3',rfl⟩:=k3.shape;have hb3:=g1.trans (g2.trans g3);obtain ⟨z0,z1,z2,f0,f1,f2⟩:=(HB.o.ext hb3).three;go_wp2_with fail;obtain ⟨q1,q2,q3⟩:=store3' HE.o hb3 (Nat.le_refl _) HB.o (by decide) (.bool ng3) (.slice a3 n3 c3) (.slice a3' n3' c3');have r0:=q3.cell 0;have r1:=q3.cell 1;have r2:=q3.cell 2;refine bodyPost_ret (v:=.agg #[.bool ng3,.slice a3 n3 c3,.slice a3' n3' c3']) (by simp [results,Tryz.results127,go_sem,r0,r1,r2]) rfl ⟨_,rfl,?_,q1⟩;have k4:=k3.keep q2;have k5:=HN.o;rw [hn1] at k5;rw [k5] at k4
  exact k4
theorem SmQ.int {K:Nat} {n:Int} (hK:0<K) (h:n.natAbs<2^K):SmQ K (n:Rat):=by
 unfold SmQ;rw [Rat.num_intCast,Rat.den_intCast]
 exact ⟨h,Nat.one_lt_two_pow (by omega)⟩
theorem Ratio_c (m n:Int) (w:World) (h0 : -9223372036854775808≤m) (h1:m<9223372036854775808) (k0 : -9223372036854775808≤n) (k1:n<9223372036854775808) (hn:n≠0) :
  Calls Tryz.prog 93 #[.int .i64 m,.int .i64 n] w fun e w'=>∃ v,e=.returned (.tuple #[v,.int .i64 0])∧NumV w' v ((m:Rat)/(n:Rat))∧Ext w w':=by
 have SM:Hid (SmQ 64 (m:Rat)):=hid (SmQ.int (by decide) (by omega));have SN:Hid (SmQ 64 (n:Rat)):=hid (SmQ.int (by decide) (by omega));have HN:Hid ((n:Rat)≠0):=hid (fun h=>hn (by exact_mod_cast h));obtain ⟨W0,hW0⟩:∃ W0,W0=w.alloc (.cells #[.bool false,.slice none 0 0,.slice none 0 0] 40):=⟨_,rfl⟩;have HE:Hid (Ext w W0):=hid (by rw [hW0];exact Ext.alloc w _);have HB:Hid (Box W0 w.heap.size #[.bool false,.slice none 0 0,.slice none 0 0] 40):=hid (by rw [hW0];exact Box.new w _ _);have H0:=hid h0;have H1:=hid h1;have K0:=hid k0;have K1:=hid k1;clear h0 h1 k0 k1 hn
 go_enter Tryz.func93,Tryz.ntmps93
 go_wp2_with fail;rw [←hW0];clear hW0;refine (Int_c _ _ H0.o H1.o).mono ?_;rintro e w1 ⟨v1,rfl,k1,g1⟩;go_wp2_with fail;refine (Int_c _ _ K0.o K1.o).mono ?_;rintro e w2 ⟨v2,rfl,k2,g2⟩;go_wp2_with fail;refine (quo_some _ _ _ _ 64 _ (k1.ext g2) k2 SM.o SN.o (by decide) HN.o).mono ?_;rintro e w3 ⟨v,rfl,k3,g3⟩;obtain ⟨ng3,a3,n3,c3,a3',n3',c3',rfl⟩:=k3.shape;have hb3:=g1.trans (g2.trans g3);obtain ⟨z0,z1,z2,f0,f1,f2⟩:=(HB.o.ext hb3).three;go_wp2_with fail;obtain ⟨q1,q2,q3⟩:=store3' HE.o hb3 (Nat.le_refl _) HB.o (by decide) (.bool ng3) (.slice a3 n3 c3) (.slice a3' n3' c3');have r0:=q3.cell 0;have r1:=q3.cell 1;have r2:=q3.cell 2
 exact bodyPost_ret (v:=.tuple #[.agg #[.bool ng3,.slice a3 n3 c3,.slice a3' n3' c3'],.int .i64 0]) (by simp [results,Tryz.results93,go_sem,r0,r1,r2]) rfl ⟨_,rfl,k3.keep q2,q1⟩
theorem mkq_nat (n:Nat):mkq false n 1=(n:Rat):=by
 have:=mkq_int (n:Int)
 rw [decide_eq_false (by omega),Int.natAbs_natCast] at this;rw [this];rfl
theorem shift_up (m:Bool) (P Q n:Nat):mkq m (P*2^n) Q=mkq m P Q*(2:Rat)^(n:Int):=by
 have h:=mkq_mul m false P (2^n) Q 1;rw [mkq_nat,Nat.mul_one,Bool.bne_false] at h;rw [←h,Rat.zpow_natCast];push_cast;rfl
theorem shift_down (m:Bool) (P Q n:Nat) (_hQ:Q≠0):mkq m P (Q*2^n)=mkq m P Q*(2:Rat)^(-(n:Int)):=by
 have hp:(2^n:Nat)≠0:=Nat.pos_iff_ne_zero.1 (Nat.pow_pos (by decide));have h:=mkq_div m false P (2^n) Q 1 hp (by decide);rw [mkq_nat,Nat.mul_one,Bool.bne_false] at h;rw [←h,Rat.zpow_neg,Rat.zpow_natCast,Rat.div_def];push_cast;rfl
def Tri (x:Nat) (x0 x1 x2:Value) (w:World):Prop :=
 w.cell? ⟨x,0,none⟩=some x0∧w.cell? ⟨x,1,none⟩=some x1∧w.cell? ⟨x,2,none⟩=some x2
theorem Tri.of {w:World} {x:Nat} {x0 x1 x2:Value} {t:TypeId} (h:Box w x #[x0,x1,x2] t):Tri x x0 x1 x2 w:=⟨h.cell 0,h.cell 1,h.cell 2⟩
theorem Tri.store {w:World} {x b:Nat} {x0 x1 x2:Value} (h:Tri x x0 x1 x2 w) (hx:x≠b) (u v z:Value) :
  Tri x x0 x1 x2 (((w.setCell ⟨b,0,none⟩ u).setCell ⟨b,1,none⟩ v).setCell ⟨b,2,none⟩ z):=by
 unfold Tri at *
 refine ⟨?_,?_,?_⟩
 ·rw [cell_store3 (by exact hx)];exact h.1
 ·rw [cell_store3 (by exact hx)];exact h.2.1
 ·rw [cell_store3 (by exact hx)];exact h.2.2
theorem Sm.pow {K P n:Nat} (h:Sm K P):Sm (K+n) (P*2^n):=by
 unfold Sm at *
 rw [Nat.pow_add]
 exact Nat.mul_lt_mul_of_pos_right h (Nat.pow_pos (by decide))
theorem shifted_down (x:Value) (q:Rat) (K:Nat) (k:Int) (w:World) (hx:NumV w x q) (sx:SmQ K q) (hk:k<0) (hk1 : -1000000≤k) (hK:K≤20000000) :
  Calls Tryz.prog 236 #[x,.int .i64 k] w fun e w'=>∃ v,e=.returned v∧NumV w' v (q*(2:Rat)^k)∧Ext w w':=by
 obtain ⟨ng,a,n,c,a',n',c',rfl⟩:=hx.shape;obtain ⟨W0,hW0,e0,hBx,hBz⟩:=pro2 w #[.bool ng,.slice a n c,.slice a' n' c'] #[.bool false,.slice none 0 0,.slice none 0 0] 40 40;have HE:Hid (Ext w W0):=hid e0;have HBz:=hid hBz;have HS:Hid (∀ w',Ext W0 w'→Tri w.heap.size (.bool ng) (.slice a n c) (.slice a' n' c') w'):=hid fun w' h=>Tri.of (hBx.ext h);have Hx:=hid hx;have hb0:Ext W0 W0.drew:=Below.drew (Below.refl _ W0);have hk2:decide (k<0)=true:=decide_eq_true hk;have hw:IntKind.i64.wrap (-k) = -k:=by rw [IntKind.wrap_i64];omega
 obtain ⟨u,hu⟩:∃ u:Nat,k = -(u:Int):=⟨k.natAbs,by omega⟩;have Hu:=hid hu;have Hu0:Hid (u≤1000000):=hid (by omega);have Hk0:Hid (0 ≤ -k):=hid (by omega);have Hk1:Hid (-k≤100000000):=hid (by omega);have HK:Hid (K≤100000000):=hid (by omega);have HK3:Hid (K+u≤50000000):=hid (by omega);have HQ:Hid (0<q.den*2^u):=hid (Nat.mul_pos (den_pos q) (Nat.pow_pos (by decide)));have HT:Hid ((-k).toNat=u):=hid (by omega);have Sp:=hid (sx.1.mono (show K≤K+u by omega));have Sd:=hid sx.2;have Hne:=hid hx.neg;clear sx hK hk hk1 hu;clear hx e0 hBx hBz
 go_enter Tryz.func236,Tryz.ntmps236
 go_wp2_with fail;rw [←hW0];clear hW0
 go_region_held3 (fun w'=>w'.cell? ⟨w.heap.size,0,none⟩=some (.bool ng)∧w'.cell? ⟨w.heap.size,1,none⟩=some (.slice a n c)∧w'.cell? ⟨w.heap.size,2,none⟩=some (.slice a' n' c'))
  (first | exact HS.o _ (by assumption) | exact Tri.store (HS.o _ (by assumption)) (by omega) _ _ _)
  (first
   | (go_at_call 103;(with_reducible refine (bottom_c _ q _ (Hx.o.ext (HE.o.trans hb0))).mono ?_);rintro e w1 ⟨a1,n1,c1,rfl,k1,g1⟩;have hb1:Ext W0 w1:=hb0.trans g1)
   | (go_at_call 254;(with_reducible refine (shl_c _ _ K _ _ k1 Sd.o HK.o Hk0.o Hk1.o).mono ?_);rintro e w2 ⟨a2,n2,c2,rfl,k2,g2⟩;have hb2:Ext W0 w2:=hb1.trans g2;rw [HT.o] at k2)
   | (go_at_call 162;(with_reducible refine (made_c _ _ _ q.num.natAbs _ (K+u) _ (Hx.o.p.ext (HE.o.trans hb2)) k2 Sp.o Sd.o.pow HK3.o HQ.o).mono ?_);rintro e w3 ⟨v,rfl,k3,g3⟩;have hb3:Ext W0 w3:=hb2.trans g3;obtain ⟨ng3,a3,n3,c3,a3',n3',c3',rfl⟩:=k3.shape;obtain ⟨z0,z1,z2,f0,f1,f2⟩:=(HBz.o.ext hb3).three))
 go_wp2_with fail;obtain ⟨q1,q2,q3⟩:=store3 (HE.o.trans hb3) (show w.heap.size≤w.heap.size+1 by omega) (HBz.o.ext hb3) (by decide) (.bool ng3) (.slice a3 n3 c3) (.slice a3' n3' c3');have r0:=q3.cell 0;have r1:=q3.cell 1;have r2:=q3.cell 2;refine bodyPost_ret (v:=.agg #[.bool ng3,.slice a3 n3 c3,.slice a3' n3' c3']) (by simp [results,Tryz.results236,go_sem,r0,r1,r2]) rfl ⟨_,rfl,?_,q1⟩;have kk:=k3.keep q2;rw [shift_down _ _ _ _ q.den_nz,Hne.o,mkq_self,←Hu.o] at kk
 exact kk
theorem shifted_up (x:Value) (q:Rat) (K:Nat) (k:Int) (w:World) (hx:NumV w x q) (sx:SmQ K q) (hk:0≤k) (hk1:k≤1000000) (hK:K≤20000000) :
  Calls Tryz.prog 236 #[x,.int .i64 k] w fun e w'=>∃ v,e=.returned v∧NumV w' v (q*(2:Rat)^k)∧Ext w w':=by
 obtain ⟨ng,a,n,c,a',n',c',rfl⟩:=hx.shape;obtain ⟨W0,hW0,e0,hBx,hBz⟩:=pro2 w #[.bool ng,.slice a n c,.slice a' n' c'] #[.bool false,.slice none 0 0,.slice none 0 0] 40 40;have HE:Hid (Ext w W0):=hid e0;have HBz:=hid hBz;have HS:Hid (∀ w',Ext W0 w'→Tri w.heap.size (.bool ng) (.slice a n c) (.slice a' n' c') w'):=hid fun w' h=>Tri.of (hBx.ext h);have Hx:=hid hx;have hb0:Ext W0 W0.drew:=Below.drew (Below.refl _ W0);have hk2:decide (k<0)=false:=decide_eq_false (by omega);obtain ⟨u,hu⟩:∃ u:Nat,k=(u:Int):=⟨k.natAbs,by omega⟩;have Hu:=hid hu;have Hk0:Hid (0≤k):=hid (by omega);have Hk1:Hid (k≤100000000):=hid (by omega);have HK:Hid (K≤100000000):=hid (by omega);have HK3:Hid (K+u≤50000000):=hid (by omega);have HT:Hid (k.toNat=u):=hid (by omega);have Sp:=hid sx.1;have Sd:=hid (sx.2.mono (show K≤K+u by omega));have HQ:=hid (den_pos q);have Hne:=hid hx.neg;clear sx hK hk hk1 hu;clear hx e0 hBx hBz
 go_enter Tryz.func236,Tryz.ntmps236
 go_wp2_with fail;rw [←hW0];clear hW0
 go_region_held3 (fun w'=>w'.cell? ⟨w.heap.size,0,none⟩=some (.bool ng)∧w'.cell? ⟨w.heap.size,1,none⟩=some (.slice a n c)∧w'.cell? ⟨w.heap.size,2,none⟩=some (.slice a' n' c'))
  (first | exact HS.o _ (by assumption) | exact Tri.store (HS.o _ (by assumption)) (by omega) _ _ _)
  (first
   | (go_at_call 254;(with_reducible refine (shl_c _ q.num.natAbs K _ _ (Hx.o.p.ext (HE.o.trans hb0)) Sp.o HK.o Hk0.o Hk1.o).mono ?_);rintro e w1 ⟨a1,n1,c1,rfl,k1,g1⟩;have hb1:Ext W0 w1:=hb0.trans g1;rw [HT.o] at k1)
   | (go_at_call 103;(with_reducible refine (bottom_c _ q _ (Hx.o.ext (HE.o.trans hb1))).mono ?_);rintro e w2 ⟨a2,n2,c2,rfl,k2,g2⟩;have hb2:Ext W0 w2:=hb1.trans g2)
   | (go_at_call 162;(with_reducible refine (made_c _ _ _ _ q.den (K+u) _ (k1.ext g2) k2 Sp.o.pow Sd.o HK3.o HQ.o).mono ?_);rintro e w3 ⟨v,rfl,k3,g3⟩;have hb3:Ext W0 w3:=hb2.trans g3;obtain ⟨ng3,a3,n3,c3,a3',n3',c3',rfl⟩:=k3.shape;obtain ⟨z0,z1,z2,f0,f1,f2⟩:=(HBz.o.ext hb3).three))
 go_wp2_with fail;obtain ⟨q1,q2,q3⟩:=store3 (HE.o.trans hb3) (show w.heap.size≤w.heap.size+1 by omega) (HBz.o.ext hb3) (by decide) (.bool ng3) (.slice a3 n3 c3) (.slice a3' n3' c3');have r0:=q3.cell 0;have r1:=q3.cell 1;have r2:=q3.cell 2;refine bodyPost_ret (v:=.agg #[.bool ng3,.slice a3 n3 c3,.slice a3' n3' c3']) (by simp [results,Tryz.results236,go_sem,r0,r1,r2]) rfl ⟨_,rfl,?_,q1⟩;have kk:=k3.keep q2;rw [shift_up,Hne.o,mkq_self,←Hu.o] at kk
 exact kk
theorem shifted_c (x:Value) (q:Rat) (K:Nat) (k:Int) (w:World) (hx:NumV w x q) (sx:SmQ K q) (h0 : -1000000≤k) (h1:k≤1000000) (hK:K≤20000000) :
  Calls Tryz.prog 236 #[x,.int .i64 k] w fun e w'=>∃ v,e=.returned v∧NumV w' v (q*(2:Rat)^k)∧Ext w w':=by
 by_cases hk:k<0
 ·exact shifted_down x q K k w hx sx hk h0 hK
 ·exact shifted_up x q K k w hx sx (by omega) h1 hK
theorem Sm.one (K:Nat):Sm (K+1) 1:=Nat.one_lt_two_pow (by omega)
theorem Shift_c (x:Value) (q:Rat) (K:Nat) (k:Int) (w:World) (hx:NumV w x q) (sx:SmQ K q) (h0 : -20000≤k) (h1:k≤20000) (hK:K≤20000000) :
  Calls Tryz.prog 190 #[x,.int .i64 k] w fun e w'=>∃ v,e=.returned (.tuple #[v,.int .i64 0])∧NumV w' v (q*(2:Rat)^k)∧Ext w w':=by
 obtain ⟨ng,a,n,c,a',n',c',rfl⟩:=hx.shape;obtain ⟨W0,hW0,e0,hBx,hBz⟩:=pro2 w #[.bool ng,.slice a n c,.slice a' n' c'] #[.bool false,.slice none 0 0,.slice none 0 0] 40 40;have HE:Hid (Ext w W0):=hid e0;have HBz:=hid hBz;have HS:Hid (∀ w',Ext W0 w'→Tri w.heap.size (.bool ng) (.slice a n c) (.slice a' n' c') w'):=hid fun w' h=>Tri.of (hBx.ext h);have Hx:=hid hx;have hb0:Ext W0 W0.drew:=Below.drew (Below.refl _ W0);have hk1:decide (k < -20000)=false:=decide_eq_false (by omega);have hk2:decide (20000<k)=false:=decide_eq_false (by omega);have H0:Hid (-1000000≤k):=hid (by omega);have H1:Hid (k≤1000000):=hid (by omega);have HK:=hid hK;have Sx:=hid sx;clear hx e0 hBx h0 h1 hK sx;obtain ⟨x0,x1,x2⟩:=HS.o _ (Below.refl _ W0)
 go_enter Tryz.func190,Tryz.ntmps190
 go_wp2_with fail;rw [←hW0];clear hW0;refine (shifted_c _ q K k _ (Hx.o.ext HE.o) Sx.o H0.o H1.o HK.o).mono ?_;rintro e w1 ⟨v,rfl,k1,hb1⟩;obtain ⟨ng1,a1,n1,c1,a1',n1',c1',rfl⟩:=k1.shape;obtain ⟨z0,z1,z2,f0,f1,f2⟩:=(HBz.o.ext hb1).three;go_wp2_with fail;obtain ⟨q1,q2,q3⟩:=store3 (HE.o.trans hb1) (show w.heap.size≤w.heap.size+1 by omega) (HBz.o.ext hb1) (by decide) (.bool ng1) (.slice a1 n1 c1) (.slice a1' n1' c1');have r0:=q3.cell 0;have r1:=q3.cell 1;have r2:=q3.cell 2;refine bodyPost_ret (v:=.tuple #[.agg #[.bool ng1,.slice a1 n1 c1,.slice a1' n1' c1'],.int .i64 0]) (by simp [results,Tryz.results190,go_sem,r0,r1,r2]) rfl ⟨_,rfl,?_,q1⟩
 exact k1.keep q2
theorem Two_c (k:Int) (w:World) (h0 : -20000≤k) (h1:k≤20000) :
  Calls Tryz.prog 171 #[.int .i64 k] w fun e w'=>∃ v,e=.returned (.tuple #[v,.int .i64 0])∧NumV w' v ((2:Rat)^k)∧Ext w w':=by
 obtain ⟨W0,hW0⟩:∃ W0,W0=w.alloc (.cells #[.bool false,.slice none 0 0,.slice none 0 0] 40):=⟨_,rfl⟩;have HE:Hid (Ext w W0):=hid (by rw [hW0];exact Ext.alloc w _);have HBz:Hid (Box W0 w.heap.size #[.bool false,.slice none 0 0,.slice none 0 0] 40):=hid (by rw [hW0];exact Box.new w _ _);have H0:=hid h0;have H1:=hid h1;have S1:Hid (SmQ 64 (1:Rat)):=hid (SmQ.int (n:=1) (by decide) (by decide));clear h0 h1
 go_enter Tryz.func171,Tryz.ntmps171
 go_wp2_with fail;rw [←hW0];clear hW0;refine (Int_c 1 _ (by decide) (by decide)).mono ?_;rintro e w1 ⟨v1,rfl,k1,hb1⟩;go_wp2_with fail;refine (Shift_c _ 1 64 k _ k1 S1.o H0.o H1.o (by decide)).mono ?_;rintro e w2 ⟨v,rfl,k2,g2⟩;have hb2:=hb1.trans g2;obtain ⟨ng2,a2,n2,c2,a2',n2',c2',rfl⟩:=k2.shape;obtain ⟨z0,z1,z2,f0,f1,f2⟩:=(HBz.o.ext hb2).three;go_wp2_with fail;obtain ⟨q1,q2,q3⟩:=store3 (HE.o.trans hb2) (show w.heap.size≤w.heap.size by omega) (HBz.o.ext hb2) (by decide) (.bool ng2) (.slice a2 n2 c2) (.slice a2' n2' c2');have r0:=q3.cell 0;have r1:=q3.cell 1;have r2:=q3.cell 2;refine bodyPost_ret (v:=.tuple #[.agg #[.bool ng2,.slice a2 n2 c2,.slice a2' n2' c2'],.int .i64 0]) (by simp [results,Tryz.results171,go_sem,r0,r1,r2]) rfl ⟨_,rfl,?_,q1⟩;rw [Rat.one_mul] at k2
 exact k2.keep q2
theorem whole_down (x:Value) (q:Rat) (K:Nat) (w:World) (hx:NumV w x q) (sx:SmQ K q) (hK:K≤20000000)  :
  Calls Tryz.prog 222 #[x,.bool false] w fun e w'=>∃ v,e=.returned v∧NumV w' v (mkq (decide (q.num<0)) (q.num.natAbs/q.den) 1)∧Ext w w':=by
 obtain ⟨ng,a,n,c,a',n',c',rfl⟩:=hx.shape;obtain ⟨W0,hW0,e0,hBx,hBz⟩:=pro2 w #[.bool ng,.slice a n c,.slice a' n' c'] #[.bool false,.slice none 0 0,.slice none 0 0] 40 40;have HE:Hid (Ext w W0):=hid e0;have HBz:=hid hBz;have HS:Hid (∀ w',Ext W0 w'→Tri w.heap.size (.bool ng) (.slice a n c) (.slice a' n' c') w'):=hid fun w' h=>Tri.of (hBx.ext h);have Hx:=hid hx;have hb0:Ext W0 W0.drew:=Below.drew (Below.refl _ W0);have HK:Hid (K≤50000000):=hid (by omega);have Sp:=hid sx.1;have Sd:=hid sx.2;have HQ:=hid (den_pos q);have Hne:=hid hx.neg;have HK1:Hid (K+1≤50000000):=hid (by omega);clear hx e0 hBx hBz sx hK
 go_enter Tryz.func222,Tryz.ntmps222
 go_wp2_with fail;rw [←hW0];clear hW0
 go_region_held3 (fun w'=>w'.cell? ⟨w.heap.size,0,none⟩=some (.bool ng)∧w'.cell? ⟨w.heap.size,1,none⟩=some (.slice a n c)∧w'.cell? ⟨w.heap.size,2,none⟩=some (.slice a' n' c'))
  (first | exact HS.o _ (by assumption) | exact Tri.store (HS.o _ (by assumption)) (by omega) _ _ _)
  (first
   | (go_at_call 103;(with_reducible refine (bottom_c _ q _ (Hx.o.ext (HE.o.trans hb0))).mono ?_);rintro e w1 ⟨a1,n1,c1,rfl,k1,g1⟩;have hb1:Ext W0 w1:=hb0.trans g1)
   | (go_at_call 220;(with_reducible refine (div_c _ _ q.num.natAbs q.den K _ (Hx.o.p.ext (HE.o.trans hb1)) k1 Sp.o Sd.o HK.o HQ.o).mono ?_);rintro e w2 ⟨a2,n2,c2,a3,n3,c3,rfl,k2,k3,g2⟩;have hb2:Ext W0 w2:=hb1.trans g2))
 go_wp2_with fail;have hd:Ext w2 w2.drew:=Below.drew (Below.refl _ w2);have hb4:=hb2.trans hd;have A2:=hid (k2.ext hd);have Sq:Hid (Sm K (q.num.natAbs/q.den)):=hid (Sp.o.of_le (Nat.div_le_self _ _))
 go_region_held3 (fun w'=>w'.cell? ⟨w.heap.size,0,none⟩=some (.bool ng)∧w'.cell? ⟨w.heap.size,1,none⟩=some (.slice a n c)∧w'.cell? ⟨w.heap.size,2,none⟩=some (.slice a' n' c'))
  (first | exact HS.o _ (by assumption) | exact Tri.store (HS.o _ (by assumption)) (by omega) _ _ _)
  (first
   | (go_at_call 164;(with_reducible refine (of_c 1 _ (by decide) (by decide)).mono ?_);rintro e w5 ⟨a5,n5,c5,rfl,k5,g5⟩;have hb5:Ext W0 w5:=hb4.trans g5)
   | (go_at_call 162;(with_reducible refine (made_c _ _ _ (q.num.natAbs/q.den) 1 (K+1) _ (A2.o.ext g5) k5 (Sq.o.mono (Nat.le_succ _)) (Sm.one K) HK1.o (by decide)).mono ?_);rintro e w6 ⟨v,rfl,k6,g6⟩;have hb6:Ext W0 w6:=hb5.trans g6;obtain ⟨ng6,a6,n6,c6,a6',n6',c6',rfl⟩:=k6.shape;obtain ⟨z0,z1,z2,f0,f1,f2⟩:=(HBz.o.ext hb6).three))
 go_wp2_with fail;obtain ⟨q1,q2,q3⟩:=store3 (HE.o.trans hb6) (show w.heap.size≤w.heap.size+1 by omega) (HBz.o.ext hb6) (by decide) (.bool ng6) (.slice a6 n6 c6) (.slice a6' n6' c6');have r0:=q3.cell 0;have r1:=q3.cell 1;have r2:=q3.cell 2;refine bodyPost_ret (v:=.agg #[.bool ng6,.slice a6 n6 c6,.slice a6' n6' c6']) (by simp [results,Tryz.results222,go_sem,r0,r1,r2]) rfl ⟨_,rfl,?_,q1⟩;have kk:=k6.keep q2;rw [Hne.o] at kk
 exact kk
theorem whole_int (x:Value) (q:Rat) (K:Nat) (w:World) (hx:NumV w x q) (sx:SmQ K q) (hK:K≤20000000) (hr:q.num.natAbs%q.den=0) :
  Calls Tryz.prog 222 #[x,.bool true] w fun e w'=>∃ v,e=.returned v∧NumV w' v (mkq (decide (q.num<0)) (q.num.natAbs/q.den) 1)∧Ext w w':=by
 obtain ⟨ng,a,n,c,a',n',c',rfl⟩:=hx.shape;obtain ⟨W0,hW0,e0,hBx,hBz⟩:=pro2 w #[.bool ng,.slice a n c,.slice a' n' c'] #[.bool false,.slice none 0 0,.slice none 0 0] 40 40;have HE:Hid (Ext w W0):=hid e0;have HBz:=hid hBz;have HS:Hid (∀ w',Ext W0 w'→Tri w.heap.size (.bool ng) (.slice a n c) (.slice a' n' c') w'):=hid fun w' h=>Tri.of (hBx.ext h);have Hx:=hid hx;have hb0:Ext W0 W0.drew:=Below.drew (Below.refl _ W0);have HK:Hid (K≤50000000):=hid (by omega);have Sp:=hid sx.1;have Sd:=hid sx.2;have HQ:=hid (den_pos q);have Hne:=hid hx.neg;have HK1:Hid (K+1≤50000000):=hid (by omega);clear hx e0 hBx hBz sx hK
 go_enter Tryz.func222,Tryz.ntmps222
 go_wp2_with fail;rw [←hW0];clear hW0
 go_region_held3 (fun w'=>w'.cell? ⟨w.heap.size,0,none⟩=some (.bool ng)∧w'.cell? ⟨w.heap.size,1,none⟩=some (.slice a n c)∧w'.cell? ⟨w.heap.size,2,none⟩=some (.slice a' n' c'))
  (first | exact HS.o _ (by assumption) | exact Tri.store (HS.o _ (by assumption)) (by omega) _ _ _)
  (first
   | (go_at_call 103;(with_reducible refine (bottom_c _ q _ (Hx.o.ext (HE.o.trans hb0))).mono ?_);rintro e w1 ⟨a1,n1,c1,rfl,k1,g1⟩;have hb1:Ext W0 w1:=hb0.trans g1)
   | (go_at_call 220;(with_reducible refine (div_c _ _ q.num.natAbs q.den K _ (Hx.o.p.ext (HE.o.trans hb1)) k1 Sp.o Sd.o HK.o HQ.o).mono ?_);rintro e w2 ⟨a2,n2,c2,a3,n3,c3,rfl,k2,k3,g2⟩;have hb2:Ext W0 w2:=hb1.trans g2))
 have h3:decide (0<n3)=false:=decide_eq_false (by have:=k3.len0.2 hr;omega);go_wp2_with fail;have hd:Ext w2 w2.drew:=Below.drew (Below.refl _ w2);have hb4:=hb2.trans hd;have A2:=hid (k2.ext hd);have Sq:Hid (Sm K (q.num.natAbs/q.den)):=hid (Sp.o.of_le (Nat.div_le_self _ _))
 go_region_held3 (fun w'=>w'.cell? ⟨w.heap.size,0,none⟩=some (.bool ng)∧w'.cell? ⟨w.heap.size,1,none⟩=some (.slice a n c)∧w'.cell? ⟨w.heap.size,2,none⟩=some (.slice a' n' c'))
  (first | exact HS.o _ (by assumption) | exact Tri.store (HS.o _ (by assumption)) (by omega) _ _ _)
  (first
   | (go_at_call 164;(with_reducible refine (of_c 1 _ (by decide) (by decide)).mono ?_);rintro e w5 ⟨a5,n5,c5,rfl,k5,g5⟩;have hb5:Ext W0 w5:=hb4.trans g5)
   | (go_at_call 162;(with_reducible refine (made_c _ _ _ (q.num.natAbs/q.den) 1 (K+1) _ (A2.o.ext g5) k5 (Sq.o.mono (Nat.le_succ _)) (Sm.one K) HK1.o (by decide)).mono ?_);rintro e w6 ⟨v,rfl,k6,g6⟩;have hb6:Ext W0 w6:=hb5.trans g6;obtain ⟨ng6,a6,n6,c6,a6',n6',c6',rfl⟩:=k6.shape;obtain ⟨z0,z1,z2,f0,f1,f2⟩:=(HBz.o.ext hb6).three))
 go_wp2_with fail;obtain ⟨q1,q2,q3⟩:=store3 (HE.o.trans hb6) (show w.heap.size≤w.heap.size+1 by omega) (HBz.o.ext hb6) (by decide) (.bool ng6) (.slice a6 n6 c6) (.slice a6' n6' c6');have r0:=q3.cell 0;have r1:=q3.cell 1;have r2:=q3.cell 2;refine bodyPost_ret (v:=.agg #[.bool ng6,.slice a6 n6 c6,.slice a6' n6' c6']) (by simp [results,Tryz.results222,go_sem,r0,r1,r2]) rfl ⟨_,rfl,?_,q1⟩;have kk:=k6.keep q2;rw [Hne.o] at kk
 exact kk
theorem whole_up (x:Value) (q:Rat) (K:Nat) (w:World) (hx:NumV w x q) (sx:SmQ K q) (hK:K≤20000000) (hr:q.num.natAbs%q.den≠0) :
  Calls Tryz.prog 222 #[x,.bool true] w fun e w'=>∃ v,e=.returned v∧NumV w' v (mkq (decide (q.num<0)) (q.num.natAbs/q.den+1) 1)∧Ext w w':=by
 obtain ⟨ng,a,n,c,a',n',c',rfl⟩:=hx.shape;obtain ⟨W0,hW0,e0,hBx,hBz⟩:=pro2 w #[.bool ng,.slice a n c,.slice a' n' c'] #[.bool false,.slice none 0 0,.slice none 0 0] 40 40;have HE:Hid (Ext w W0):=hid e0;have HBz:=hid hBz;have HS:Hid (∀ w',Ext W0 w'→Tri w.heap.size (.bool ng) (.slice a n c) (.slice a' n' c') w'):=hid fun w' h=>Tri.of (hBx.ext h);have Hx:=hid hx;have hb0:Ext W0 W0.drew:=Below.drew (Below.refl _ W0);have HK:Hid (K≤50000000):=hid (by omega);have Sp:=hid sx.1;have Sd:=hid sx.2;have HQ:=hid (den_pos q);have Hne:=hid hx.neg;have HK1:Hid (K+1+1≤50000000):=hid (by omega);have HK2:Hid (K+1≤100000000):=hid (by omega);clear hx e0 hBx hBz sx hK
 go_enter Tryz.func222,Tryz.ntmps222
 go_wp2_with fail;rw [←hW0];clear hW0
 go_region_held3 (fun w'=>w'.cell? ⟨w.heap.size,0,none⟩=some (.bool ng)∧w'.cell? ⟨w.heap.size,1,none⟩=some (.slice a n c)∧w'.cell? ⟨w.heap.size,2,none⟩=some (.slice a' n' c'))
  (first | exact HS.o _ (by assumption) | exact Tri.store (HS.o _ (by assumption)) (by omega) _ _ _)
  (first
   | (go_at_call 103;(with_reducible refine (bottom_c _ q _ (Hx.o.ext (HE.o.trans hb0))).mono ?_);rintro e w1 ⟨a1,n1,c1,rfl,k1,g1⟩;have hb1:Ext W0 w1:=hb0.trans g1)
   | (go_at_call 220;(with_reducible refine (div_c _ _ q.num.natAbs q.den K _ (Hx.o.p.ext (HE.o.trans hb1)) k1 Sp.o Sd.o HK.o HQ.o).mono ?_);rintro e w2 ⟨a2,n2,c2,a3,n3,c3,rfl,k2,k3,g2⟩;have hb2:Ext W0 w2:=hb1.trans g2))
 have h3:decide (0<n3)=true:=decide_eq_true (by have:=k3.len0.1;omega);go_wp2_with fail;refine (of_c 1 _ (by decide) (by decide)).mono ?_;rintro e w7 ⟨a7,n7,c7,rfl,k7,g7⟩;have hb7:=hb2.trans g7;have k2':=k2.ext g7;have Sq:Hid (Sm K (q.num.natAbs/q.den)):=hid (Sp.o.of_le (Nat.div_le_self _ _));have So:Hid (Sm (K+1) 1):=hid (Sm.one K);go_wp2_with fail;refine (add_c _ _ (q.num.natAbs/q.den) 1 (K+1) _ k2' k7 (Sq.o.mono (Nat.le_succ _)) So.o HK2.o).mono ?_;rintro e w8 ⟨a8,n8,c8,rfl,k8,g8⟩;have hb8:=hb7.trans g8;clear k1 k2 k2' k3 k7 g7 g8 hb7 hb2 hb1 h3;go_wp2_with fail;have hd:Ext w8 w8.drew:=Below.drew (Below.refl _ w8);have hb4:=hb8.trans hd;have A2:=hid (k8.ext hd)
 go_region_held3 (fun w'=>w'.cell? ⟨w.heap.size,0,none⟩=some (.bool ng)∧w'.cell? ⟨w.heap.size,1,none⟩=some (.slice a n c)∧w'.cell? ⟨w.heap.size,2,none⟩=some (.slice a' n' c'))
  (first | exact HS.o _ (by assumption) | exact Tri.store (HS.o _ (by assumption)) (by omega) _ _ _)
  (first
   | (go_at_call 164;(with_reducible refine (of_c 1 _ (by decide) (by decide)).mono ?_);rintro e w5 ⟨a5,n5,c5,rfl,k5,g5⟩;have hb5:Ext W0 w5:=hb4.trans g5)
   | (go_at_call 162;(with_reducible refine (made_c _ _ _ (q.num.natAbs/q.den+1) 1 (K+1+1) _ (A2.o.ext g5) k5 ((Sq.o.mono (Nat.le_succ _)).add So.o) (So.o.mono (Nat.le_succ _)) HK1.o (by decide)).mono ?_);rintro e w6 ⟨v,rfl,k6,g6⟩;have hb6:Ext W0 w6:=hb5.trans g6;obtain ⟨ng6,a6,n6,c6,a6',n6',c6',rfl⟩:=k6.shape;obtain ⟨z0,z1,z2,f0,f1,f2⟩:=(HBz.o.ext hb6).three))
 go_wp2_with fail;obtain ⟨q1,q2,q3⟩:=store3 (HE.o.trans hb6) (show w.heap.size≤w.heap.size+1 by omega) (HBz.o.ext hb6) (by decide) (.bool ng6) (.slice a6 n6 c6) (.slice a6' n6' c6');have r0:=q3.cell 0;have r1:=q3.cell 1;have r2:=q3.cell 2;refine bodyPost_ret (v:=.agg #[.bool ng6,.slice a6 n6 c6,.slice a6' n6' c6']) (by simp [results,Tryz.results222,go_sem,r0,r1,r2]) rfl ⟨_,rfl,?_,q1⟩;have kk:=k6.keep q2;rw [Hne.o] at kk
 exact kk
theorem floor_pos (q:Rat) (h:¬ q.num<0):mkq (decide (q.num<0)) (q.num.natAbs/q.den) 1=((q.floor:Int):Rat):=by
 have e:q.floor=((q.num.natAbs/q.den:Nat):Int):=by
  rw [Rat.floor_def,Int.natCast_ediv,Int.natAbs_of_nonneg (by omega)]
 rw [decide_eq_false h,mkq_nat,e];rfl
theorem floor_neg (q:Rat) (h:q.num<0) (k:Nat) (hk:k=q.num.natAbs/q.den+if q.num.natAbs%q.den=0 then 0 else 1):mkq (decide (q.num<0)) k 1=((q.floor:Int):Rat):=by
 have e:q.floor = -(k:Int):=by
  rw [Rat.floor_def];have hd:=den_pos q;have e1:q.num = -(q.num.natAbs:Int):=by omega
  have e2:=Nat.div_add_mod q.num.natAbs q.den;have e3:=Nat.mod_lt q.num.natAbs hd;generalize q.num.natAbs/q.den=a at *
  generalize q.num.natAbs%q.den=r at *
  have e4:(q.num.natAbs:Int)=q.den*a+r:=by rw [←e2];push_cast;rfl
  rw [e1,e4];have hd0:(q.den:Int)≠0:=by omega
  by_cases hr:r=0
  ·rw [if_pos hr] at hk;have : -((q.den:Int)*a+r)=q.den*(-(k:Int)):=by rw [hk,hr,Int.mul_neg];simp
   rw [this,Int.mul_ediv_cancel_left _ hd0]
  ·rw [if_neg hr] at hk;have : -((q.den:Int)*a+r)=((q.den:Int)-r)+q.den*(-(k:Int)):=by rw [hk,Int.mul_neg,Int.natCast_add,Int.mul_add];simp;omega
   rw [this,Int.add_mul_ediv_left _ _ hd0,Int.ediv_eq_zero_of_lt (by omega) (by omega)];omega
 have h2:=mkq_int (-(k:Int))
 by_cases hk0:k=0
 ·rw [e,hk0,mkq_zero];rfl
 ·rw [e,decide_eq_true h];rw [decide_eq_true (by omega),Int.natAbs_neg,Int.natAbs_natCast] at h2
  exact h2
def floorBody (q:Rat):Prop:=∀ (x:Value) (K:Nat) (w:World),NumV w x q→SmQ K q→K≤20000000 →
  Calls Tryz.prog 222 #[x,.bool (decide (q.num<0))] w fun e w'=>∃ v,e=.returned v∧NumV w' v ((q.floor:Int):Rat)∧Ext w w'
theorem floor_body (q:Rat):floorBody q:=by
 intro x K w hx sx hK
 by_cases h:q.num<0
 ·rw [decide_eq_true h]
  by_cases hr:q.num.natAbs%q.den=0
  ·have:=whole_int x q K w hx sx hK hr
   rw [floor_neg q h _ (by rw [if_pos hr];rfl)] at this
   exact this
  ·have:=whole_up x q K w hx sx hK hr
   rw [floor_neg q h _ (by rw [if_neg hr])] at this
   exact this
 ·rw [decide_eq_false h]
  have:=whole_down x q K w hx sx hK
  rw [floor_pos q h] at this
  exact this
theorem Floor_c (x:Value) (q:Rat) (K:Nat) (w:World) (hx:NumV w x q) (sx:SmQ K q) (hK:K≤20000000) :
  Calls Tryz.prog 168 #[x] w fun e w'=>∃ v,e=.returned v∧NumV w' v ((q.floor:Int):Rat)∧Ext w w':=by
 obtain ⟨ng,a,n,c,a',n',c',rfl⟩:=hx.shape;obtain ⟨W0,hW0,e0,hBx,hBz⟩:=pro2 w #[.bool ng,.slice a n c,.slice a' n' c'] #[.bool false,.slice none 0 0,.slice none 0 0] 40 40;have HE:Hid (Ext w W0):=hid e0;have HBz:=hid hBz;have HS:Hid (∀ w',Ext W0 w'→Tri w.heap.size (.bool ng) (.slice a n c) (.slice a' n' c') w'):=hid fun w' h=>Tri.of (hBx.ext h);have Hx:=hid hx;have hb0:Ext W0 W0.drew:=Below.drew (Below.refl _ W0);have HK:=hid hK;have Sx:=hid sx;have Hne:=hid hx.neg;clear hx e0 hBx hK sx;obtain ⟨x0,x1,x2⟩:=HS.o _ (Below.refl _ W0)
 go_enter Tryz.func168,Tryz.ntmps168
 go_wp2_with fail;rw [←hW0];clear hW0;rw [Hne.o] at Hx ⊢;refine (floor_body q _ K _ (Hx.o.ext HE.o) Sx.o HK.o).mono ?_;rintro e w1 ⟨v,rfl,k1,hb1⟩;obtain ⟨ng1,a1,n1,c1,a1',n1',c1',rfl⟩:=k1.shape;obtain ⟨z0,z1,z2,f0,f1,f2⟩:=(HBz.o.ext hb1).three;go_wp2_with fail;obtain ⟨q1,q2,q3⟩:=store3 (HE.o.trans hb1) (show w.heap.size≤w.heap.size+1 by omega) (HBz.o.ext hb1) (by decide) (.bool ng1) (.slice a1 n1 c1) (.slice a1' n1' c1');have r0:=q3.cell 0;have r1:=q3.cell 1;have r2:=q3.cell 2;refine bodyPost_ret (v:=.agg #[.bool ng1,.slice a1 n1 c1,.slice a1' n1' c1']) (by simp [results,Tryz.results168,go_sem,r0,r1,r2]) rfl ⟨_,rfl,?_,q1⟩
 exact k1.keep q2
end Go.Proofs.YtgabigepocfllaaGreatDoor
