/- Rational numbers: Add returns the sum. -/
import Derived.Test.YtgabigepocfllaaGreatDoorQ06
namespace Go.Proofs.YtgabigepocfllaaGreatDoor
open Go.RowKit Vn
set_option maxRecDepth 100000
set_option maxHeartbeats 8000000
theorem Sm.add {K m n:Nat} (h:Sm K m) (k:Sm K n):Sm (K+1) (m+n):=by
 unfold Sm at *
 rw [Nat.pow_succ];omega
theorem cmpN_neg {a b:Nat}:cmpN a b<0↔a<b:=by
 unfold cmpN
 by_cases h1:a<b
 ·simp [h1]
 ·by_cases h2:b<a<;>simp [h1,h2]
theorem add_value (q r:Rat):q+r=mkRat (sg (decide (q.num<0)) (q.num.natAbs*r.den)+sg (decide (r.num<0)) (r.num.natAbs*q.den)) (q.den*r.den):=by
 have h:=mkq_add (decide (q.num<0)) (decide (r.num<0)) q.num.natAbs r.num.natAbs q.den r.den q.den_nz r.den_nz;rw [mkq_self,mkq_self] at h
 exact h
theorem sg_same (m:Bool) (x y:Nat):sg m x+sg m y=sg m (x+y):=by unfold sg;cases m<;>simp<;>omega
theorem sg_other (m n:Bool) (h:(m==n)=false) (x y:Nat) (k:x≤y):sg m x+sg n y=sg n (y-x):=by
 unfold sg;cases m<;>cases n<;>simp at h ⊢ <;> omega
theorem add_same (x y:Value) (q r:Rat) (K:Nat) (w:World) (hx:NumV w x q) (hy:NumV w y r) (sx:SmQ K q) (sy:SmQ K r) (hK:K≤20000000)
  (hg:(decide (q.num<0)==decide (r.num<0))=true) :
  Calls Tryz.prog 126 #[x,y] w fun e w'=>∃ v,e=.returned v∧NumV w' v (q+r)∧Ext w w':=by
 obtain ⟨ng,a,n,c,a',n',c',rfl⟩:=hx.shape;obtain ⟨mg,b,m,d,b',m',d',rfl⟩:=hy.shape;obtain ⟨W0,hW0,e0,hBx,hBy,hBz⟩:=pro3 w #[.bool ng,.slice a n c,.slice a' n' c'] #[.bool mg,.slice b m d,.slice b' m' d'] #[.bool false,.slice none 0 0,.slice none 0 0] 40 40 40;have e4:Ext W0 W0.drew:=Below.drew (Below.refl _ W0);have HE:Hid (Ext w W0.drew):=hid (e0.trans e4);have HBz:=hid (hBz.ext e4);have HS:Hid (∀ w',Ext W0.drew w'→Six w.heap.size (.bool ng) (.slice a n c) (.slice a' n' c') (w.heap.size+1) (.bool mg) (.slice b m d) (.slice b' m' d') w'):=hid fun w' h=>Six.of (hBx.ext (e4.trans h)) (hBy.ext (e4.trans h));have Hx:=hid hx;have Hy:=hid hy;have hrefl:Ext W0.drew W0.drew:=Below.refl _ _;have Sxp:=hid sx.1;have Sxd:=hid sx.2;have Syp:=hid sy.1;have Syd:=hid sy.2;have HK2:Hid (K≤100000000):=hid (by omega);have HK3:Hid (K+K+1≤50000000):=hid (by omega);have HK4:Hid (K+K≤100000000):=hid (by omega);have HD:=hid (Nat.mul_pos (den_pos q) (den_pos r));have Hne:=hid hx.neg;have Hme:=hid hy.neg;rw [←Hne.o,←Hme.o] at hg;have Hg:=hid hg;have HV:Hid (mkq ng (q.num.natAbs*r.den+r.num.natAbs*q.den) (q.den*r.den)=q+r):=hid (by
  rw [add_value,←Hne.o,←Hme.o];unfold mkq;rw [show mg=ng from (eq_of_beq hg).symm,sg_same])
 clear hx hy sx sy hK e0 e4 hBx hBy hBz Hne Hme
 go_enter Tryz.func126,Tryz.ntmps126
 go_wp2_with fail;rw [←hW0];clear hW0
 go_region_held3 (fun w'=>w'.cell? ⟨w.heap.size,0,none⟩=some (.bool ng)∧w'.cell? ⟨w.heap.size,1,none⟩=some (.slice a n c)∧w'.cell? ⟨w.heap.size,2,none⟩=some (.slice a' n' c') ∧
   w'.cell? ⟨w.heap.size+1,0,none⟩=some (.bool mg)∧w'.cell? ⟨w.heap.size+1,1,none⟩=some (.slice b m d)∧w'.cell? ⟨w.heap.size+1,2,none⟩=some (.slice b' m' d'))
  (first | exact HS.o _ (by assumption) | exact Six.store (HS.o _ (by assumption)) (by omega) (by omega) _ _ _)
  (first
   | (go_at_call 103;(with_reducible refine (bottom_c _ r _ (Hy.o.ext HE.o)).mono ?_);rintro e w1 ⟨a1,n1,c1,rfl,k1,g1⟩;have hb1:Ext W0.drew w1:=g1)
   | (go_at_call 102;(with_reducible refine (mul_c _ _ q.num.natAbs r.den K _ (Hx.o.p.ext (HE.o.trans hb1)) k1 Sxp.o Syd.o HK2.o).mono ?_);rintro e w2 ⟨a2,n2,c2,rfl,k2,g2⟩;have hb2:Ext W0.drew w2:=hb1.trans g2)
   | (go_at_call 103;(with_reducible refine (bottom_c _ q _ (Hx.o.ext (HE.o.trans hb2))).mono ?_);rintro e w3 ⟨a3,n3,c3,rfl,k3,g3⟩;have hb3:Ext W0.drew w3:=hb2.trans g3)
   | (go_at_call 102;(with_reducible refine (mul_c _ _ r.num.natAbs q.den K _ (Hy.o.p.ext (HE.o.trans hb3)) k3 Syp.o Sxd.o HK2.o).mono ?_);rintro e w4 ⟨a4,n4,c4,rfl,k4,g4⟩;have hb4:Ext W0.drew w4:=hb3.trans g4)
   | (go_at_call 103;(with_reducible refine (bottom_c _ q _ (Hx.o.ext (HE.o.trans hb4))).mono ?_);rintro e w5 ⟨a5,n5,c5,rfl,k5,g5⟩;have hb5:Ext W0.drew w5:=hb4.trans g5)
   | (go_at_call 103;(with_reducible refine (bottom_c _ r _ (Hy.o.ext (HE.o.trans hb5))).mono ?_);rintro e w6 ⟨a6,n6,c6,rfl,k6,g6⟩;have hb6:Ext W0.drew w6:=hb5.trans g6)
   | (go_at_call 102;(with_reducible refine (mul_c _ _ q.den r.den K _ (k5.ext g6) k6 Sxd.o Syd.o HK2.o).mono ?_);rintro e w7 ⟨a7,n7,c7,rfl,k7,g7⟩;have hb7:Ext W0.drew w7:=hb6.trans g7))
 have k2':=k2.ext (g3.trans (g4.trans (g5.trans (g6.trans g7))));have k4':=k4.ext (g5.trans (g6.trans g7));clear k1 k2 k3 k4 k5 k6 g1 g2 g3 g4 g5 g6 g7 hb1 hb2 hb3 hb4 hb5 hb6;go_wp2_with fail;have hd:Ext w7 w7.drew:=Below.drew (Below.refl _ w7);have hb9:Ext W0.drew w7.drew:=hb7.trans hd;have A2:=hid (k2'.ext hd);have A4:=hid (k4'.ext hd);have A7:=hid (k7.ext hd);clear k2' k4' k7 hd
 go_region_held3 (fun w'=>w'.cell? ⟨w.heap.size,0,none⟩=some (.bool ng)∧w'.cell? ⟨w.heap.size,1,none⟩=some (.slice a n c)∧w'.cell? ⟨w.heap.size,2,none⟩=some (.slice a' n' c') ∧
   w'.cell? ⟨w.heap.size+1,0,none⟩=some (.bool mg)∧w'.cell? ⟨w.heap.size+1,1,none⟩=some (.slice b m d)∧w'.cell? ⟨w.heap.size+1,2,none⟩=some (.slice b' m' d'))
  (first | exact HS.o _ (by assumption) | exact Six.store (HS.o _ (by assumption)) (by omega) (by omega) _ _ _)
  (first
   | (go_at_call 209;(with_reducible refine (add_c _ _ _ _ (K+K) _ A2.o A4.o (Sxp.o.mul Syd.o) (Syp.o.mul Sxd.o) HK4.o).mono ?_);rintro e w19 ⟨a19,n19,c19,rfl,k19,g19⟩;have hb19:Ext W0.drew w19:=hb9.trans g19)
   | (go_at_call 162;(with_reducible refine (made_c _ _ _ _ _ (K+K+1) _ k19 (A7.o.ext g19) ((Sxp.o.mul Syd.o).add (Syp.o.mul Sxd.o)) ((Sxd.o.mul Syd.o).mono (Nat.le_succ _)) HK3.o HD.o).mono ?_);rintro e w10 ⟨v,rfl,k10,g10⟩;have hb10:Ext W0.drew w10:=hb19.trans g10;obtain ⟨ng10,a10,n10,c10,a10',n10',c10',rfl⟩:=k10.shape;obtain ⟨z0,z1,z2,f0,f1,f2⟩:=(HBz.o.ext hb10).three))
 go_wp2_with fail;obtain ⟨q1,q2,q3⟩:=store3 (HE.o.trans hb10) (show w.heap.size≤w.heap.size+1+1 by omega) (HBz.o.ext hb10) (by decide) (.bool ng10) (.slice a10 n10 c10) (.slice a10' n10' c10');have r0:=q3.cell 0;have r1:=q3.cell 1;have r2:=q3.cell 2;refine bodyPost_ret (v:=.agg #[.bool ng10,.slice a10 n10 c10,.slice a10' n10' c10']) (by simp [results,Tryz.results126,go_sem,r0,r1,r2]) rfl ⟨_,rfl,?_,q1⟩;have k11:=k10.keep q2;rw [HV.o] at k11
 exact k11
theorem add_less (x y:Value) (q r:Rat) (K:Nat) (w:World) (hx:NumV w x q) (hy:NumV w y r) (sx:SmQ K q) (sy:SmQ K r) (hK:K≤20000000)
  (hg:(decide (q.num<0)==decide (r.num<0))=false) (hl:q.num.natAbs*r.den<r.num.natAbs*q.den) :
  Calls Tryz.prog 126 #[x,y] w fun e w'=>∃ v,e=.returned v∧NumV w' v (q+r)∧Ext w w':=by
 obtain ⟨ng,a,n,c,a',n',c',rfl⟩:=hx.shape;obtain ⟨mg,b,m,d,b',m',d',rfl⟩:=hy.shape;obtain ⟨W0,hW0,e0,hBx,hBy,hBz⟩:=pro3 w #[.bool ng,.slice a n c,.slice a' n' c'] #[.bool mg,.slice b m d,.slice b' m' d'] #[.bool false,.slice none 0 0,.slice none 0 0] 40 40 40;have e4:Ext W0 W0.drew:=Below.drew (Below.refl _ W0);have HE:Hid (Ext w W0.drew):=hid (e0.trans e4);have HBz:=hid (hBz.ext e4);have HS:Hid (∀ w',Ext W0.drew w'→Six w.heap.size (.bool ng) (.slice a n c) (.slice a' n' c') (w.heap.size+1) (.bool mg) (.slice b m d) (.slice b' m' d') w'):=hid fun w' h=>Six.of (hBx.ext (e4.trans h)) (hBy.ext (e4.trans h));have Hx:=hid hx;have Hy:=hid hy;have hrefl:Ext W0.drew W0.drew:=Below.refl _ _;have Sxp:=hid sx.1;have Sxd:=hid sx.2;have Syp:=hid sy.1;have Syd:=hid sy.2;have HK2:Hid (K≤100000000):=hid (by omega);have HK3:Hid (K+K+1≤50000000):=hid (by omega);have HK4:Hid (K+K≤100000000):=hid (by omega);have HD:=hid (Nat.mul_pos (den_pos q) (den_pos r));have Hne:=hid hx.neg;have Hme:=hid hy.neg;rw [←Hne.o,←Hme.o] at hg;have Hg:=hid hg;have HL:=hid (Nat.le_of_lt hl);have hc:decide (cmpN (q.num.natAbs*r.den) (r.num.natAbs*q.den)<0)=true:=decide_eq_true (cmpN_neg.2 hl);have HK5:Hid (K+K≤50000000):=hid (by omega);have HV:Hid (mkq mg (r.num.natAbs*q.den-q.num.natAbs*r.den) (q.den*r.den)=q+r):=hid (by
  rw [add_value,←Hne.o,←Hme.o];unfold mkq;rw [sg_other _ _ Hg.o _ _ (Nat.le_of_lt hl)])
 clear hx hy sx sy hK e0 e4 hBx hBy hBz Hne Hme
 go_enter Tryz.func126,Tryz.ntmps126
 go_wp2_with fail;rw [←hW0];clear hW0
 go_region_held3 (fun w'=>w'.cell? ⟨w.heap.size,0,none⟩=some (.bool ng)∧w'.cell? ⟨w.heap.size,1,none⟩=some (.slice a n c)∧w'.cell? ⟨w.heap.size,2,none⟩=some (.slice a' n' c') ∧
   w'.cell? ⟨w.heap.size+1,0,none⟩=some (.bool mg)∧w'.cell? ⟨w.heap.size+1,1,none⟩=some (.slice b m d)∧w'.cell? ⟨w.heap.size+1,2,none⟩=some (.slice b' m' d'))
  (first | exact HS.o _ (by assumption) | exact Six.store (HS.o _ (by assumption)) (by omega) (by omega) _ _ _)
  (first
   | (go_at_call 103;(with_reducible refine (bottom_c _ r _ (Hy.o.ext HE.o)).mono ?_);rintro e w1 ⟨a1,n1,c1,rfl,k1,g1⟩;have hb1:Ext W0.drew w1:=g1)
   | (go_at_call 102;(with_reducible refine (mul_c _ _ q.num.natAbs r.den K _ (Hx.o.p.ext (HE.o.trans hb1)) k1 Sxp.o Syd.o HK2.o).mono ?_);rintro e w2 ⟨a2,n2,c2,rfl,k2,g2⟩;have hb2:Ext W0.drew w2:=hb1.trans g2)
   | (go_at_call 103;(with_reducible refine (bottom_c _ q _ (Hx.o.ext (HE.o.trans hb2))).mono ?_);rintro e w3 ⟨a3,n3,c3,rfl,k3,g3⟩;have hb3:Ext W0.drew w3:=hb2.trans g3)
   | (go_at_call 102;(with_reducible refine (mul_c _ _ r.num.natAbs q.den K _ (Hy.o.p.ext (HE.o.trans hb3)) k3 Syp.o Sxd.o HK2.o).mono ?_);rintro e w4 ⟨a4,n4,c4,rfl,k4,g4⟩;have hb4:Ext W0.drew w4:=hb3.trans g4)
   | (go_at_call 103;(with_reducible refine (bottom_c _ q _ (Hx.o.ext (HE.o.trans hb4))).mono ?_);rintro e w5 ⟨a5,n5,c5,rfl,k5,g5⟩;have hb5:Ext W0.drew w5:=hb4.trans g5)
   | (go_at_call 103;(with_reducible refine (bottom_c _ r _ (Hy.o.ext (HE.o.trans hb5))).mono ?_);rintro e w6 ⟨a6,n6,c6,rfl,k6,g6⟩;have hb6:Ext W0.drew w6:=hb5.trans g6)
   | (go_at_call 102;(with_reducible refine (mul_c _ _ q.den r.den K _ (k5.ext g6) k6 Sxd.o Syd.o HK2.o).mono ?_);rintro e w7 ⟨a7,n7,c7,rfl,k7,g7⟩;have hb7:Ext W0.drew w7:=hb6.trans g7))
 have k2':=k2.ext (g3.trans (g4.trans (g5.trans (g6.trans g7))));have k4':=k4.ext (g5.trans (g6.trans g7));clear k1 k2 k3 k4 k5 k6 g1 g2 g3 g4 g5 g6 g7 hb1 hb2 hb3 hb4 hb5 hb6;go_wp2_with fail;refine (cmp_c _ _ _ _ (K+K) _ k2' k4' (Sxp.o.mul Syd.o) (Syp.o.mul Sxd.o) HK4.o).mono ?_;rintro e w8 ⟨rfl,g8⟩;have hb8:Ext W0.drew w8:=hb7.trans g8;replace k2':=k2'.ext g8;replace k4':=k4'.ext g8;replace k7:=k7.ext g8;clear hb7 g8;go_wp2_with fail;have hd:Ext w8 w8.drew:=Below.drew (Below.refl _ w8);have hb9:Ext W0.drew w8.drew:=hb8.trans hd;have A2:=hid (k2'.ext hd);have A4:=hid (k4'.ext hd);have A7:=hid (k7.ext hd);clear k2' k4' k7 hd
 go_region_held3 (fun w'=>w'.cell? ⟨w.heap.size,0,none⟩=some (.bool ng)∧w'.cell? ⟨w.heap.size,1,none⟩=some (.slice a n c)∧w'.cell? ⟨w.heap.size,2,none⟩=some (.slice a' n' c') ∧
   w'.cell? ⟨w.heap.size+1,0,none⟩=some (.bool mg)∧w'.cell? ⟨w.heap.size+1,1,none⟩=some (.slice b m d)∧w'.cell? ⟨w.heap.size+1,2,none⟩=some (.slice b' m' d'))
  (first | exact HS.o _ (by assumption) | exact Six.store (HS.o _ (by assumption)) (by omega) (by omega) _ _ _)
  (first
   | (go_at_call 210;(with_reducible refine (sub_c _ _ _ _ (K+K) _ A4.o A2.o (Syp.o.mul Sxd.o) HK4.o HL.o).mono ?_);rintro e w19 ⟨a19,n19,c19,rfl,k19,g19⟩;have hb19:Ext W0.drew w19:=hb9.trans g19)
   | (go_at_call 162;(with_reducible refine (made_c _ _ _ _ _ (K+K) _ k19 (A7.o.ext g19) ((Syp.o.mul Sxd.o).of_le (Nat.sub_le _ _)) (Sxd.o.mul Syd.o) HK5.o HD.o).mono ?_);rintro e w10 ⟨v,rfl,k10,g10⟩;have hb10:Ext W0.drew w10:=hb19.trans g10;obtain ⟨ng10,a10,n10,c10,a10',n10',c10',rfl⟩:=k10.shape;obtain ⟨z0,z1,z2,f0,f1,f2⟩:=(HBz.o.ext hb10).three))
 go_wp2_with fail;obtain ⟨q1,q2,q3⟩:=store3 (HE.o.trans hb10) (show w.heap.size≤w.heap.size+1+1 by omega) (HBz.o.ext hb10) (by decide) (.bool ng10) (.slice a10 n10 c10) (.slice a10' n10' c10');have r0:=q3.cell 0;have r1:=q3.cell 1;have r2:=q3.cell 2;refine bodyPost_ret (v:=.agg #[.bool ng10,.slice a10 n10 c10,.slice a10' n10' c10']) (by simp [results,Tryz.results126,go_sem,r0,r1,r2]) rfl ⟨_,rfl,?_,q1⟩;have k11:=k10.keep q2;rw [HV.o] at k11
 exact k11
theorem add_more (x y:Value) (q r:Rat) (K:Nat) (w:World) (hx:NumV w x q) (hy:NumV w y r) (sx:SmQ K q) (sy:SmQ K r) (hK:K≤20000000)
  (hg:(decide (q.num<0)==decide (r.num<0))=false) (hl:r.num.natAbs*q.den≤q.num.natAbs*r.den) :
  Calls Tryz.prog 126 #[x,y] w fun e w'=>∃ v,e=.returned v∧NumV w' v (q+r)∧Ext w w':=by
 obtain ⟨ng,a,n,c,a',n',c',rfl⟩:=hx.shape;obtain ⟨mg,b,m,d,b',m',d',rfl⟩:=hy.shape;obtain ⟨W0,hW0,e0,hBx,hBy,hBz⟩:=pro3 w #[.bool ng,.slice a n c,.slice a' n' c'] #[.bool mg,.slice b m d,.slice b' m' d'] #[.bool false,.slice none 0 0,.slice none 0 0] 40 40 40;have e4:Ext W0 W0.drew:=Below.drew (Below.refl _ W0);have HE:Hid (Ext w W0.drew):=hid (e0.trans e4);have HBz:=hid (hBz.ext e4);have HS:Hid (∀ w',Ext W0.drew w'→Six w.heap.size (.bool ng) (.slice a n c) (.slice a' n' c') (w.heap.size+1) (.bool mg) (.slice b m d) (.slice b' m' d') w'):=hid fun w' h=>Six.of (hBx.ext (e4.trans h)) (hBy.ext (e4.trans h));have Hx:=hid hx;have Hy:=hid hy;have hrefl:Ext W0.drew W0.drew:=Below.refl _ _;have Sxp:=hid sx.1;have Sxd:=hid sx.2;have Syp:=hid sy.1;have Syd:=hid sy.2;have HK2:Hid (K≤100000000):=hid (by omega);have HK3:Hid (K+K+1≤50000000):=hid (by omega);have HK4:Hid (K+K≤100000000):=hid (by omega);have HD:=hid (Nat.mul_pos (den_pos q) (den_pos r));have Hne:=hid hx.neg;have Hme:=hid hy.neg;rw [←Hne.o,←Hme.o] at hg;have Hg:=hid hg;have HL:=hid hl;have hc:decide (cmpN (q.num.natAbs*r.den) (r.num.natAbs*q.den)<0)=false:=decide_eq_false (fun h=>absurd (cmpN_neg.1 h) (by omega));have HK5:Hid (K+K≤50000000):=hid (by omega);have HV:Hid (mkq ng (q.num.natAbs*r.den-r.num.natAbs*q.den) (q.den*r.den)=q+r):=hid (by
  rw [add_value,←Hne.o,←Hme.o];unfold mkq;rw [Int.add_comm,sg_other _ _ ((BEq.comm).trans Hg.o) _ _ hl])
 clear hx hy sx sy hK e0 e4 hBx hBy hBz Hne Hme
 go_enter Tryz.func126,Tryz.ntmps126
 go_wp2_with fail;rw [←hW0];clear hW0
 go_region_held3 (fun w'=>w'.cell? ⟨w.heap.size,0,none⟩=some (.bool ng)∧w'.cell? ⟨w.heap.size,1,none⟩=some (.slice a n c)∧w'.cell? ⟨w.heap.size,2,none⟩=some (.slice a' n' c') ∧
   w'.cell? ⟨w.heap.size+1,0,none⟩=some (.bool mg)∧w'.cell? ⟨w.heap.size+1,1,none⟩=some (.slice b m d)∧w'.cell? ⟨w.heap.size+1,2,none⟩=some (.slice b' m' d'))
  (first | exact HS.o _ (by assumption) | exact Six.store (HS.o _ (by assumption)) (by omega) (by omega) _ _ _)
  (first
   | (go_at_call 103;(with_reducible refine (bottom_c _ r _ (Hy.o.ext HE.o)).mono ?_);rintro e w1 ⟨a1,n1,c1,rfl,k1,g1⟩;have hb1:Ext W0.drew w1:=g1)
   | (go_at_call 102;(with_reducible refine (mul_c _ _ q.num.natAbs r.den K _ (Hx.o.p.ext (HE.o.trans hb1)) k1 Sxp.o Syd.o HK2.o).mono ?_);rintro e w2 ⟨a2,n2,c2,rfl,k2,g2⟩;have hb2:Ext W0.drew w2:=hb1.trans g2)
   | (go_at_call 103;(with_reducible refine (bottom_c _ q _ (Hx.o.ext (HE.o.trans hb2))).mono ?_);rintro e w3 ⟨a3,n3,c3,rfl,k3,g3⟩;have hb3:Ext W0.drew w3:=hb2.trans g3)
   | (go_at_call 102;(with_reducible refine (mul_c _ _ r.num.natAbs q.den K _ (Hy.o.p.ext (HE.o.trans hb3)) k3 Syp.o Sxd.o HK2.o).mono ?_);rintro e w4 ⟨a4,n4,c4,rfl,k4,g4⟩;have hb4:Ext W0.drew w4:=hb3.trans g4)
   | (go_at_call 103;(with_reducible refine (bottom_c _ q _ (Hx.o.ext (HE.o.trans hb4))).mono ?_);rintro e w5 ⟨a5,n5,c5,rfl,k5,g5⟩;have hb5:Ext W0.drew w5:=hb4.trans g5)
   | (go_at_call 103;(with_reducible refine (bottom_c _ r _ (Hy.o.ext (HE.o.trans hb5))).mono ?_);rintro e w6 ⟨a6,n6,c6,rfl,k6,g6⟩;have hb6:Ext W0.drew w6:=hb5.trans g6)
   | (go_at_call 102;(with_reducible refine (mul_c _ _ q.den r.den K _ (k5.ext g6) k6 Sxd.o Syd.o HK2.o).mono ?_);rintro e w7 ⟨a7,n7,c7,rfl,k7,g7⟩;have hb7:Ext W0.drew w7:=hb6.trans g7))
 have k2':=k2.ext (g3.trans (g4.trans (g5.trans (g6.trans g7))));have k4':=k4.ext (g5.trans (g6.trans g7));clear k1 k2 k3 k4 k5 k6 g1 g2 g3 g4 g5 g6 g7 hb1 hb2 hb3 hb4 hb5 hb6;go_wp2_with fail;refine (cmp_c _ _ _ _ (K+K) _ k2' k4' (Sxp.o.mul Syd.o) (Syp.o.mul Sxd.o) HK4.o).mono ?_;rintro e w8 ⟨rfl,g8⟩;have hb8:Ext W0.drew w8:=hb7.trans g8;replace k2':=k2'.ext g8;replace k4':=k4'.ext g8;replace k7:=k7.ext g8;clear hb7 g8;go_wp2_with fail;have hd:Ext w8 w8.drew:=Below.drew (Below.refl _ w8);have hb9:Ext W0.drew w8.drew:=hb8.trans hd;have A2:=hid (k2'.ext hd);have A4:=hid (k4'.ext hd);have A7:=hid (k7.ext hd);clear k2' k4' k7 hd
 go_region_held3 (fun w'=>w'.cell? ⟨w.heap.size,0,none⟩=some (.bool ng)∧w'.cell? ⟨w.heap.size,1,none⟩=some (.slice a n c)∧w'.cell? ⟨w.heap.size,2,none⟩=some (.slice a' n' c') ∧
   w'.cell? ⟨w.heap.size+1,0,none⟩=some (.bool mg)∧w'.cell? ⟨w.heap.size+1,1,none⟩=some (.slice b m d)∧w'.cell? ⟨w.heap.size+1,2,none⟩=some (.slice b' m' d'))
  (first | exact HS.o _ (by assumption) | exact Six.store (HS.o _ (by assumption)) (by omega) (by omega) _ _ _)
  (first
   | (go_at_call 210;(with_reducible refine (sub_c _ _ _ _ (K+K) _ A2.o A4.o (Sxp.o.mul Syd.o) HK4.o HL.o).mono ?_);rintro e w19 ⟨a19,n19,c19,rfl,k19,g19⟩;have hb19:Ext W0.drew w19:=hb9.trans g19)
   | (go_at_call 162;(with_reducible refine (made_c _ _ _ _ _ (K+K) _ k19 (A7.o.ext g19) ((Sxp.o.mul Syd.o).of_le (Nat.sub_le _ _)) (Sxd.o.mul Syd.o) HK5.o HD.o).mono ?_);rintro e w10 ⟨v,rfl,k10,g10⟩;have hb10:Ext W0.drew w10:=hb19.trans g10;obtain ⟨ng10,a10,n10,c10,a10',n10',c10',rfl⟩:=k10.shape;obtain ⟨z0,z1,z2,f0,f1,f2⟩:=(HBz.o.ext hb10).three))
 go_wp2_with fail;obtain ⟨q1,q2,q3⟩:=store3 (HE.o.trans hb10) (show w.heap.size≤w.heap.size+1+1 by omega) (HBz.o.ext hb10) (by decide) (.bool ng10) (.slice a10 n10 c10) (.slice a10' n10' c10');have r0:=q3.cell 0;have r1:=q3.cell 1;have r2:=q3.cell 2;refine bodyPost_ret (v:=.agg #[.bool ng10,.slice a10 n10 c10,.slice a10' n10' c10']) (by simp [results,Tryz.results126,go_sem,r0,r1,r2]) rfl ⟨_,rfl,?_,q1⟩;have k11:=k10.keep q2;rw [HV.o] at k11
 exact k11
theorem Add_c (x y:Value) (q r:Rat) (K:Nat) (w:World) (hx:NumV w x q) (hy:NumV w y r) (sx:SmQ K q) (sy:SmQ K r) (hK:K≤20000000) :
  Calls Tryz.prog 126 #[x,y] w fun e w'=>∃ v,e=.returned v∧NumV w' v (q+r)∧Ext w w':=by
 cases hg:(decide (q.num<0)==decide (r.num<0))
 ·rcases Nat.lt_or_ge (q.num.natAbs*r.den) (r.num.natAbs*q.den) with hl | hl
  ·exact add_less x y q r K w hx hy sx sy hK hg hl
  ·exact add_more x y q r K w hx hy sx sy hK hg hl
 ·exact add_same x y q r K w hx hy sx sy hK hg
end Go.Proofs.YtgabigepocfllaaGreatDoor
