/- Rational numbers: log, Log. -/
import Derived.Test.YtoaoebimjmjpeaaGreatDoorT07
namespace Go.Proofs.YtoaoebimjmjpeaaGreatDoor
open Go.RowKit Vn
set_option maxRecDepth 100000
set_option maxHeartbeats 8000000
theorem log_core (x:Value) (q:Rat) (K:Nat) (k z:Int) (w:World) (hx:NumV w x q) (sx:SmQ K q) (hK:K≤10000000) (HKq:Hid (k=(bl q.num.natAbs:Int)-bl q.den)) (hk0 : -20000000≤k) (hk1:k≤20000000)
  (Hz:Hid (z=if q.num.natAbs*2^(max (-k) 0).toNat<q.den*2^(max k 0).toNat then k-1 else k)) :
  Calls Tryz.prog 109 #[x] w fun e w'=>e=.returned (.int .i64 z)∧Ext w w':=by
 obtain ⟨ng,a,n,c,a',n',c',rfl⟩:=hx.shape;obtain ⟨W0,hW0⟩:∃ W0,W0=w.alloc (.cells #[.bool ng,.slice a n c,.slice a' n' c'] 49):=⟨_,rfl⟩;have HE:Hid (Ext w W0):=hid (by rw [hW0];exact Ext.alloc w _);have hBx:Box W0 w.heap.size #[.bool ng,.slice a n c,.slice a' n' c'] 49:=by rw [hW0];exact Box.new w _ _
 have HS:Hid (∀ w',Ext W0 w'→Tri w.heap.size (.bool ng) (.slice a n c) (.slice a' n' c') w'):=hid fun w' h=>Tri.of (hBx.ext h);have Hx:=hid hx;have hb0:Ext W0 W0.drew:=Below.drew (Below.refl _ W0);have HK:=hid hK;have Sx:=hid sx;have H0:=hid hk0;have H1:=hid hk1;clear hx hBx hK sx hk0 hk1;obtain ⟨x0,x1,x2⟩:=HS.o _ (Below.refl _ W0)
 go_enter Tryz.func109,Tryz.ntmps109
 go_wp2_with fail;rw [←hW0];clear hW0;refine (bottom_c _ q _ (Hx.o.ext HE.o)).mono ?_;rintro e w1 ⟨a1,n1,c1,rfl,k1,hb1⟩;clear x0 x1 x2;obtain ⟨x0,x1,x2⟩:=HS.o _ hb1;go_wp2_with fail;refine (bits_c _ q.num.natAbs K _ (Hx.o.p.ext (HE.o.trans hb1)) Sx.o.1 (by have:=HK.o;omega)).mono ?_;rintro e w2 ⟨rfl,g2⟩;have hb2:=hb1.trans g2;clear x0 x1 x2;obtain ⟨x0,x1,x2⟩:=HS.o _ hb2;go_wp2_with fail;refine (bits_c _ q.den K _ (k1.ext g2) Sx.o.2 (by have:=HK.o;omega)).mono ?_;rintro e w3 ⟨rfl,g3⟩;have hb3:=hb2.trans g3;clear x0 x1 x2;obtain ⟨x0,x1,x2⟩:=HS.o _ hb3;have hw:IntKind.i64.wrap ((bl q.num.natAbs:Int)-bl q.den)=k:=by rw [←HKq.o,IntKind.wrap_i64];have:=H0.o;have:=H1.o;omega
 have hw2:wrap64 (-k) = -k:=(IntWalk.i64_left (-k)).symm.trans (by rw [IntKind.wrap_i64];have:=H0.o;have:=H1.o;omega);go_wp2_with fail;refine (shl_c _ q.num.natAbs K _ _ (Hx.o.p.ext (HE.o.trans hb3)) Sx.o.1 (by have:=HK.o;omega) (by omega) (by have:=H0.o;have:=H1.o;omega)).mono ?_;rintro e w4 ⟨a4,n4,c4,rfl,k4,g4⟩;have hb4:=hb3.trans g4;clear x0 x1 x2;go_wp2_with fail;refine (shl_c _ q.den K _ _ (k1.ext (g2.trans (g3.trans g4))) Sx.o.2 (by have:=HK.o;omega) (by omega) (by have:=H0.o;have:=H1.o;omega)).mono ?_;rintro e w5 ⟨a5,n5,c5,rfl,k5,g5⟩;have hb5:=hb4.trans g5;go_wp2_with fail;have e1:Hid (Sm (K+20000000) (q.num.natAbs*2^(max (-k) 0).toNat)):=hid (Sx.o.1.pow.mono (by have:=H0.o;have:=H1.o;omega));have e2:Hid (Sm (K+20000000) (q.den*2^(max k 0).toNat)):=hid (Sx.o.2.pow.mono (by have:=H0.o;have:=H1.o;omega));refine (cmp_c _ _ _ _ (K+20000000) _ (k4.ext g5) k5 e1.o e2.o (by have:=HK.o;omega)).mono ?_;rintro e w6 ⟨rfl,g6⟩;have hb6:=hb5.trans g6
 by_cases hl:q.num.natAbs*2^(max (-k) 0).toNat<q.den*2^(max k 0).toNat
 ·have hc:decide (cmpN (q.num.natAbs*2^(max (-k) 0).toNat) (q.den*2^(max k 0).toNat)<0)=true:=decide_eq_true (cmpN_neg.2 hl);have hw3:wrap64 (k-1)=k-1:=(IntWalk.i64_left (k-1)).symm.trans (by rw [IntKind.wrap_i64];have:=H0.o;have:=H1.o;omega);have Hz1:Hid (z=k-1):=hid (by rw [Hz.o,if_pos hl]);clear hl;go_wp2_with fail;go_ret;refine ⟨?_,HE.o.trans hb6⟩;rw [Hz1.o,hw3];rfl
 ·have hc:decide (cmpN (q.num.natAbs*2^(max (-k) 0).toNat) (q.den*2^(max k 0).toNat)<0)=false:=decide_eq_false (fun h=>hl (cmpN_neg.1 h));have Hz1:Hid (z=k):=hid (by rw [Hz.o,if_neg hl]);clear hl;go_wp2_with fail;go_ret;refine ⟨?_,HE.o.trans hb6⟩;rw [Hz1.o];rfl
theorem two_c (k:Int) (w:World) (h0 : -20000≤k) (h1:k≤20000) :
  Calls Tryz.prog 107 #[.int .i64 k] w fun e w'=>∃ v,e=.returned v∧NumV w' v ((2:Rat)^k)∧Ext w w':=by
 obtain ⟨W0,hW0⟩:∃ W0,W0=w.alloc (.cells #[.bool false,.slice none 0 0,.slice none 0 0] 49):=⟨_,rfl⟩;have HE:Hid (Ext w W0):=hid (by rw [hW0];exact Ext.alloc w _);have HBz:Hid (Box W0 w.heap.size #[.bool false,.slice none 0 0,.slice none 0 0] 49):=hid (by rw [hW0];exact Box.new w _ _);have H0:=hid h0;have H1:=hid h1;clear h0 h1
 go_enter Tryz.func107,Tryz.ntmps107
 go_wp2_with fail;rw [←hW0];clear hW0;refine (Two_c k _ H0.o H1.o).mono ?_;rintro e w1 ⟨v,rfl,k1,hb1⟩;obtain ⟨ng1,a1,n1,c1,a1',n1',c1',rfl⟩:=k1.shape;have hx1:=hb1.trans (Ext.alloc w1 (.cells #[.bool ng1,.slice a1 n1 c1,.slice a1' n1' c1'] 49));obtain ⟨z0,z1,z2,f0,f1,f2⟩:=(HBz.o.ext hx1).three;go_wp2_with fail;obtain ⟨q1,q2,q3⟩:=store3 (HE.o.trans hx1) (show w.heap.size≤w.heap.size by omega) (HBz.o.ext hx1) (by decide) (.bool ng1) (.slice a1 n1 c1) (.slice a1' n1' c1');have r0:=q3.cell 0;have r1:=q3.cell 1;have r2:=q3.cell 2;refine bodyPost_ret (v:=.agg #[.bool ng1,.slice a1 n1 c1,.slice a1' n1' c1']) (by simp [results,Tryz.results107,go_sem,r0,r1,r2]) rfl ⟨_,rfl,?_,q1⟩
 exact (k1.ext (Ext.alloc w1 _)).keep q2
theorem shift_c (x:Value) (q:Rat) (K:Nat) (k:Int) (w:World) (hx:NumV w x q) (sx:SmQ K q) (h0 : -20000≤k) (h1:k≤20000) (hK:K≤20000000) :
  Calls Tryz.prog 124 #[x,.int .i64 k] w fun e w'=>∃ v,e=.returned v∧NumV w' v (q*(2:Rat)^k)∧Ext w w':=by
 obtain ⟨ng,a,n,c,a',n',c',rfl⟩:=hx.shape;obtain ⟨W0,hW0,e0,hBx,hBz⟩:=pro2 w #[.bool ng,.slice a n c,.slice a' n' c'] #[.bool false,.slice none 0 0,.slice none 0 0] 49 49;have HE:Hid (Ext w W0):=hid e0;have HBz:=hid hBz;have HS:Hid (∀ w',Ext W0 w'→Tri w.heap.size (.bool ng) (.slice a n c) (.slice a' n' c') w'):=hid fun w' h=>Tri.of (hBx.ext h);have Hx:=hid hx;have hb0:Ext W0 W0.drew:=Below.drew (Below.refl _ W0);have HK:=hid hK;have Sx:=hid sx;have H0:=hid h0;have H1:=hid h1;clear hx e0 hBx hK sx h0 h1;obtain ⟨x0,x1,x2⟩:=HS.o _ (Below.refl _ W0)
 go_enter Tryz.func124,Tryz.ntmps124
 go_wp2_with fail;rw [←hW0];clear hW0;refine (Shift_c _ q K k _ (Hx.o.ext HE.o) Sx.o H0.o H1.o HK.o).mono ?_;rintro e w1 ⟨v,rfl,k1,hb1⟩;obtain ⟨ng1,a1,n1,c1,a1',n1',c1',rfl⟩:=k1.shape;have hx1:=hb1.trans (Ext.alloc w1 (.cells #[.bool ng1,.slice a1 n1 c1,.slice a1' n1' c1'] 49));obtain ⟨z0,z1,z2,f0,f1,f2⟩:=(HBz.o.ext hx1).three;go_wp2_with fail;obtain ⟨q1,q2,q3⟩:=store3 (HE.o.trans hx1) (show w.heap.size≤w.heap.size+1 by omega) (HBz.o.ext hx1) (by decide) (.bool ng1) (.slice a1 n1 c1) (.slice a1' n1' c1');have r0:=q3.cell 0;have r1:=q3.cell 1;have r2:=q3.cell 2;refine bodyPost_ret (v:=.agg #[.bool ng1,.slice a1 n1 c1,.slice a1' n1' c1']) (by simp [results,Tryz.results124,go_sem,r0,r1,r2]) rfl ⟨_,rfl,?_,q1⟩
 exact (k1.ext (Ext.alloc w1 _)).keep q2
def Fmt (E P:Int):Prop:=2≤E∧E≤11∧2≤P∧P≤113∧5≤E+P
instance (E P:Int):Decidable (Fmt E P):=by unfold Fmt;infer_instance
theorem w64r (n:Int) (h : -9223372036854775808≤n∧n≤9223372036854775807):wrap64 n=n:=(IntWalk.i64_left n).symm.trans (IntWalk.i64_in n h)
theorem least_c (E P m b:Int) (w:World) (HP:Hid (0≤P∧P≤200)) (HB:Hid (0≤b∧b≤100000)) :
  Calls Tryz.prog 108 #[.agg #[.int .i64 E,.int .i64 P,.int .i64 m,.int .i64 b]] w fun e w'=>e=.returned (.int .i64 (2-b-P))∧Ext w w':=by
 have h1:wrap64 (2-b)=2-b:=w64r _ (by have:=HB.o;omega);have h2:wrap64 (2-b-P)=2-b-P:=w64r _ (by have:=HB.o;have:=HP.o;omega)
 go_enter Tryz.func108,Tryz.ntmps108
 go_wp2_with fail;go_ret
 exact ⟨by first | rfl | (rw [h2];rfl),Ext.alloc w _⟩
theorem normal_c (E P m b:Int) (w:World) (HB:Hid (0≤b∧b≤100000)) :
  Calls Tryz.prog 198 #[.agg #[.int .i64 E,.int .i64 P,.int .i64 m,.int .i64 b]] w fun e w'=>e=.returned (.int .i64 (1-b))∧Ext w w':=by
 have h1:wrap64 (1-b)=1-b:=w64r _ (by have:=HB.o;omega)
 go_enter Tryz.func198,Tryz.ntmps198
 go_wp2_with fail;go_ret
 exact ⟨by first | rfl | (rw [←h1];rfl) | (rw [h1];rfl),Ext.alloc w _⟩
theorem check_c (E P:Int) (w:World) (r:Int) (Hr:Hid (r=if Fmt E P then 0 else 2)) :
  Calls Tryz.prog 62 #[.agg #[.int .i64 E,.int .i64 P]] w fun e w'=>e=.returned (.int .i64 r)∧Ext w w':=by
 by_cases c0:E<2
 ·replace Hr:Hid (r=2):=hid (by rw [Hr.o,if_neg (by unfold Fmt;omega)]);have d0:decide (E<2)=true:=decide_eq_true c0;clear c0
  go_enter Tryz.func62,Tryz.ntmps62
  go_wp2_with fail;go_ret
  exact ⟨by rw [Hr.o];rfl,Ext.alloc w _⟩
 by_cases c1:11<E
 ·replace Hr:Hid (r=2):=hid (by rw [Hr.o,if_neg (by unfold Fmt;omega)]);have d0:decide (E<2)=false:=decide_eq_false c0;have d1:decide (11<E)=true:=decide_eq_true c1;clear c0 c1
  go_enter Tryz.func62,Tryz.ntmps62
  go_wp2_with fail;go_ret
  exact ⟨by rw [Hr.o];rfl,Ext.alloc w _⟩
 by_cases c2:P<2
 ·replace Hr:Hid (r=2):=hid (by rw [Hr.o,if_neg (by unfold Fmt;omega)]);have d0:decide (E<2)=false:=decide_eq_false c0;have d1:decide (11<E)=false:=decide_eq_false c1;have d2:decide (P<2)=true:=decide_eq_true c2;clear c0 c1 c2
  go_enter Tryz.func62,Tryz.ntmps62
  go_wp2_with fail;go_ret
  exact ⟨by rw [Hr.o];rfl,Ext.alloc w _⟩
 by_cases c3:113<P
 ·replace Hr:Hid (r=2):=hid (by rw [Hr.o,if_neg (by unfold Fmt;omega)]);have d0:decide (E<2)=false:=decide_eq_false c0;have d1:decide (11<E)=false:=decide_eq_false c1;have d2:decide (P<2)=false:=decide_eq_false c2;have d3:decide (113<P)=true:=decide_eq_true c3;clear c0 c1 c2 c3
  go_enter Tryz.func62,Tryz.ntmps62
  go_wp2_with fail;go_ret
  exact ⟨by rw [Hr.o];rfl,Ext.alloc w _⟩
 by_cases c4:E+P<5
 ·replace Hr:Hid (r=2):=hid (by rw [Hr.o,if_neg (by unfold Fmt;omega)]);have d0:decide (E<2)=false:=decide_eq_false c0;have d1:decide (11<E)=false:=decide_eq_false c1;have d2:decide (P<2)=false:=decide_eq_false c2;have d3:decide (113<P)=false:=decide_eq_false c3;have d4:decide (E+P<5)=true:=decide_eq_true c4;have hw:wrap64 (E+P)=E+P:=w64r _ (by omega);clear c0 c1 c2 c3 c4
  go_enter Tryz.func62,Tryz.ntmps62
  go_wp2_with fail;go_ret
  exact ⟨by rw [Hr.o];rfl,Ext.alloc w _⟩
 replace Hr:Hid (r=0):=hid (by rw [Hr.o,if_pos (by unfold Fmt;omega)]);have hw:wrap64 (E+P)=E+P:=w64r _ (by omega);have d0:decide (E<2)=false:=decide_eq_false c0;have d1:decide (11<E)=false:=decide_eq_false c1;have d2:decide (P<2)=false:=decide_eq_false c2;have d3:decide (113<P)=false:=decide_eq_false c3;have d4:decide (E+P<5)=false:=decide_eq_false c4;clear c0 c1 c2 c3 c4
 go_enter Tryz.func62,Tryz.ntmps62
 go_wp2_with fail;go_ret
 exact ⟨by rw [Hr.o];rfl,Ext.alloc w _⟩
def Word (n:Nat):Value:=.agg #[.int .u64 ((n/18446744073709551616:Nat):Int),.int .u64 ((n%18446744073709551616:Nat):Int)]
abbrev W128 (n:Nat):Prop:=n<340282366920938463463374607431768211456
def Duo (x:Nat) (x0 x1:Value) (w:World):Prop :=
 w.cell? ⟨x,0,none⟩=some x0∧w.cell? ⟨x,1,none⟩=some x1
theorem Duo.of {w:World} {x:Nat} {x0 x1:Value} {t:TypeId} (h:Box w x #[x0,x1] t):Duo x x0 x1 w:=⟨h.cell 0,h.cell 1⟩
theorem cell_store2 {w:World} {p:Addr} {b:Nat} (h:p.block≠b) (x y:Value):((w.setCell ⟨b,0,none⟩ x).setCell ⟨b,1,none⟩ y).cell? p=w.cell? p:=by
 have e:∀ (w:World) (i:Nat) (x:Value),(w.setCell ⟨b,i,none⟩ x).cell? p=w.cell? p:=fun w i x=>by
  unfold World.cell?;rw [Below.heap_setCell _ _ _ _ (show p.block≠(⟨b,i,none⟩:Addr).block from h)]
 rw [e,e]
theorem Duo.store {w:World} {x b:Nat} {x0 x1:Value} (h:Duo x x0 x1 w) (hx:x≠b) (u v:Value) :
  Duo x x0 x1 ((w.setCell ⟨b,0,none⟩ u).setCell ⟨b,1,none⟩ v):=by
 unfold Duo at *
 refine ⟨?_,?_⟩
 ·rw [cell_store2 (by exact hx)];exact h.1
 ·rw [cell_store2 (by exact hx)];exact h.2
theorem Box.two {w:World} {b:Nat} {x y:Value} {t:TypeId} (h:Box w b #[x,y] t) :
  w.cell? ⟨b,0,none⟩=some x∧w.cell? ⟨b,1,none⟩=some y∧w.frozen? ⟨b,0,none⟩=false∧w.frozen? ⟨b,1,none⟩=false :=
 ⟨h.cell 0,h.cell 1,h.free 0,h.free 1⟩
theorem store2 {w wk:World} {b:Nat} {x y:Value} {t:TypeId} (hE:Ext w wk) (hle:w.heap.size≤b) (hB:Box wk b #[x,y] t) (ht:t≠240) (x' y':Value) :
  Ext w ((wk.setCell ⟨b,0,none⟩ x').setCell ⟨b,1,none⟩ y')∧Keep wk ((wk.setCell ⟨b,0,none⟩ x').setCell ⟨b,1,none⟩ y') ∧
  Box ((wk.setCell ⟨b,0,none⟩ x').setCell ⟨b,1,none⟩ y') b #[x',y'] t:=by
 have h1:=hB.set 0 x';have h2:=h1.set 1 y'
 exact ⟨(hE.setCell (p:=⟨b,0,none⟩) hle _).setCell (p:=⟨b,1,none⟩) hle _,
  (Keep.setCell (p:=⟨b,0,none⟩) hB ht x').trans (Keep.setCell (p:=⟨b,1,none⟩) h1 ht y'),h2⟩
theorem or_add {a b L:Nat} (h:a<2^L):a ||| 2^L*b=a+2^L*b:=by
 have h1:=Nat.two_pow_add_eq_or_of_lt h b;rw [Nat.or_comm,←h1,Nat.add_comm]
theorem shr_plain (n k:Nat) (hk:k<64):(n%18446744073709551616)/2^k ||| (n/18446744073709551616*2^(64-k))%18446744073709551616=n/2^k%18446744073709551616∧n/18446744073709551616/2^k=n/2^k/18446744073709551616:=by
 have hQ:(18446744073709551616:Nat)=2^k*2^(64-k):=by rw [←Nat.pow_add,show k+(64-k)=64 by omega]
 constructor
 ·have e1:(n/18446744073709551616*2^(64-k))%18446744073709551616=2^(64-k)*(n/18446744073709551616%2^k):=by
   conv=>lhs;arg 2;rw [hQ,Nat.mul_comm (2^k)]
   rw [Nat.mul_comm (n/18446744073709551616),Nat.mul_mod_mul_left]
  have e2:n%18446744073709551616/2^k=n/2^k%2^(64-k):=by
   conv=>lhs;rw [hQ]
   rw [Nat.mod_mul_right_div_self]
  have e3:n/18446744073709551616=n/2^k/2^(64-k):=by
   conv=>lhs;rw [hQ]
   rw [Nat.div_div_eq_div_mul]
  rw [e1,or_add (by rw [e2];exact Nat.mod_lt _ (Nat.pow_pos (by decide))),e2,e3];generalize n/2^k=m
  conv=>rhs;rw [hQ,Nat.mul_comm (2^k),Nat.mod_mul]
 ·rw [Nat.div_div_eq_div_mul,Nat.div_div_eq_div_mul,Nat.mul_comm]
theorem shr_hi (n k:Nat) (w:World) (hn:W128 n) (hk:64≤k) (hk2:k≤128) :
  Calls Tryz.prog 118 #[Word n,.int .i64 k] w fun e w'=>e=.returned (Word (n/2^k))∧Ext w w':=by
 have h1:decide ((64:Int)≤k)=true:=decide_eq_true (by omega);have h2:wrap64 ((k:Int)-64)=(k:Int)-64:=w64r _ (by omega);have h3:0≤(k:Int)-64:=by omega
 have h4:(k:Int)-64≤64:=by omega
 have hr:Hid (Word (n/2^k)=.agg #[.int .u64 0,.int .u64 ((n/18446744073709551616:Nat)/2^(k-64):Int)]):=hid (by
  have e1:n/2^k=n/18446744073709551616/2^(k-64):=by
   rw [Nat.div_div_eq_div_mul,show (18446744073709551616:Nat)=2^64 from rfl,←Nat.pow_add,show 64+(k-64)=k by omega]
  have e2:n/2^k<18446744073709551616:=by
   rw [e1];refine Nat.lt_of_le_of_lt (Nat.div_le_self _ _) ?_;unfold W128 at hn;omega
  unfold Word;rw [Nat.div_eq_of_lt e2,Nat.mod_eq_of_lt e2,e1,Int.natCast_ediv (n/18446744073709551616),Int.natCast_pow];rfl)
 unfold Word at hr ⊢;generalize n/18446744073709551616=h at *
 generalize n%18446744073709551616=l at *
 go_enter Tryz.func118,Tryz.ntmps118
 go_wp2_with fail;refine bodyPost_ret (v:=.agg #[.int .u64 0,.int .u64 ((h:Int)/2^(k-64))]) (by simp [results,Tryz.results118,go_sem]) rfl ⟨?_,(Ext.alloc w _).trans (Ext.alloc _ _)⟩;rw [hr.o]
theorem shr_lo (n k:Nat) (w:World) (hn:W128 n) (hk:k<64) :
  Calls Tryz.prog 118 #[Word n,.int .i64 k] w fun e w'=>e=.returned (Word (n/2^k))∧Ext w w':=by
 have h1:decide ((64:Int)≤k)=false:=decide_eq_false (by omega);have h2:wrap64 (64-(k:Int))=64-(k:Int):=w64r _ (by omega);have h2':IntKind.i64.wrap (64-(k:Int))=64-(k:Int):=IntWalk.i64_in _ (by omega);have h3:0≤64-(k:Int):=by omega
 have h4:64-(k:Int)≤64:=by omega
 have h5:0≤(k:Int):=by omega
 have h6:(k:Int)≤64:=by omega
 have hv:=shr_plain n k hk;have Hv:=hid hv;have HH:Hid (n/18446744073709551616<18446744073709551616):=hid (by unfold W128 at hn;omega);have HL:Hid (n%18446744073709551616<18446744073709551616):=hid (Nat.mod_lt _ (by decide));clear hv;unfold Word;generalize n/18446744073709551616=h at *
 generalize n%18446744073709551616=l at *
 obtain ⟨W0,hW0,e0,hBx,hBz⟩:=pro2 w #[.int .u64 h,.int .u64 l] #[.int .u64 0,.int .u64 0] 54 54;have HE:Hid (Ext w W0):=hid e0;have HBz:=hid hBz;have HS:Hid (∀ w',Ext W0 w'→Duo w.heap.size (.int .u64 h) (.int .u64 l) w'):=hid fun w' h=>Duo.of (hBx.ext h);have hb0:Ext W0 W0.drew:=Below.drew (Below.refl _ W0);have hbr:Ext W0 W0:=Below.refl _ W0;obtain ⟨z0,z1,f0,f1⟩:=HBz.o.two;clear e0 hBx hBz
 go_enter Tryz.func118,Tryz.ntmps118
 go_wp2_with fail;rw [←hW0];clear hW0
 go_region_held3 (fun w'=>w'.cell? ⟨w.heap.size,0,none⟩=some (.int .u64 h)∧w'.cell? ⟨w.heap.size,1,none⟩=some (.int .u64 l))
  (first | exact HS.o _ (by assumption) | exact Duo.store (HS.o _ (by assumption)) (by omega) _ _)
  (fail)
 go_wp2_with fail;obtain ⟨q1,q2,q3⟩:=store2 HE.o (show w.heap.size≤w.heap.size+1 by omega) HBz.o (by decide) (.int .u64 ((h:Int)/2^k)) (.int .u64 (bits BinOp.or IntKind.u64 ((l:Int)/2^k) (IntKind.u64.wrap ((h:Int)*2^(64-k)))));have q4:=q3.ext (Below.drew (Below.refl _ _));have r0:=q3.cell 0;have r1:=q3.cell 1;refine bodyPost_ret (v:=.agg #[.int .u64 ((h:Int)/2^k),.int .u64 (bits BinOp.or IntKind.u64 ((l:Int)/2^k) (IntKind.u64.wrap ((h:Int)*2^(64-k))))]) (by simp [results,Tryz.results118,go_sem,r0,r1]) rfl ⟨?_,q1.trans (Below.drew (Below.refl _ _))⟩;rw [←Hv.o.1,←Hv.o.2];have e1:((h/2^k:Nat):Int)=(h:Int)/2^k:=by rw [Int.natCast_ediv,Int.natCast_pow];rfl
 have e2:((l/2^k:Nat):Int)=(l:Int)/2^k:=by rw [Int.natCast_ediv,Int.natCast_pow];rfl
 have e3:IntKind.u64.wrap ((h:Int)*2^(64-k))=((h*2^(64-k)%18446744073709551616:Nat):Int):=by
  rw [w64,Int.natCast_emod,Int.natCast_mul,Int.natCast_pow];rfl
 rw [e3,←e1,←e2,u64_or_nat _ _ (Nat.lt_of_le_of_lt (Nat.div_le_self _ _) HL.o) (Nat.mod_lt _ (by decide))]
theorem shr_w (n k:Nat) (w:World) (hn:W128 n) (hk:k≤128) :
  Calls Tryz.prog 118 #[Word n,.int .i64 k] w fun e w'=>e=.returned (Word (n/2^k))∧Ext w w':=by
 rcases Nat.lt_or_ge k 64 with h | h
 ·exact shr_lo n k w hn h
 ·exact shr_hi n k w hn h hk
theorem shl_plain (n k:Nat) (hk:k<64):(n/18446744073709551616*2^k)%18446744073709551616 ||| (n%18446744073709551616)/2^(64-k)=n*2^k%340282366920938463463374607431768211456/18446744073709551616∧(n%18446744073709551616)*2^k%18446744073709551616=n*2^k%340282366920938463463374607431768211456%18446744073709551616:=by
 have hQ:(18446744073709551616:Nat)=2^k*2^(64-k):=by rw [←Nat.pow_add,show k+(64-k)=64 by omega]
 have hB:(340282366920938463463374607431768211456:Nat)=18446744073709551616*18446744073709551616:=by decide
 constructor
 ·rw [hB,Nat.mod_mul_right_div_self];have e1:(n/18446744073709551616*2^k)%18446744073709551616=2^k*(n/18446744073709551616%2^(64-k)):=by
   conv=>lhs;arg 2;rw [hQ]
   rw [Nat.mul_comm (n/18446744073709551616),Nat.mul_mod_mul_left]
  have e2:n%18446744073709551616/2^(64-k)=n/2^(64-k)%2^k:=by
   conv=>lhs;rw [hQ,Nat.mul_comm (2^k)]
   rw [Nat.mod_mul_right_div_self]
  have e3:n/18446744073709551616=n/2^(64-k)/2^k:=by
   conv=>lhs;rw [hQ,Nat.mul_comm (2^k)]
   rw [Nat.div_div_eq_div_mul]
  have e4:n*2^k/18446744073709551616=n/2^(64-k):=by
   conv=>lhs;rw [hQ,Nat.mul_comm n]
   rw [Nat.mul_div_mul_left _ _ (Nat.pow_pos (by decide))]
  rw [e1,Nat.or_comm,or_add (by rw [e2];exact Nat.mod_lt _ (Nat.pow_pos (by decide))),e2,e3,e4];generalize n/2^(64-k)=m
  conv=>rhs;rw [hQ,Nat.mod_mul]
 ·rw [hB,Nat.mod_mul_right_mod,Nat.mod_mul_mod]
theorem shl_hi (n k:Nat) (w:World) (_hn:W128 n) (hk:64≤k) (hk2:k≤128) :
  Calls Tryz.prog 123 #[Word n,.int .i64 k] w fun e w'=>e=.returned (Word (n*2^k%340282366920938463463374607431768211456))∧Ext w w':=by
 have h1:decide ((64:Int)≤k)=true:=decide_eq_true (by omega);have h2:wrap64 ((k:Int)-64)=(k:Int)-64:=w64r _ (by omega);have h3:0≤(k:Int)-64:=by omega
 have h4:(k:Int)-64≤64:=by omega
 have hr:Hid (Word (n*2^k%340282366920938463463374607431768211456)=.agg #[.int .u64 (IntKind.u64.wrap (((n%18446744073709551616:Nat):Int)*2^(k-64))),.int .u64 0]):=hid (by
  have e0:(2:Nat)^k=18446744073709551616*2^(k-64):=by
   rw [show (18446744073709551616:Nat)=2^64 from rfl,←Nat.pow_add,show 64+(k-64)=k by omega]
  have hB:(340282366920938463463374607431768211456:Nat)=18446744073709551616*18446744073709551616:=by decide
  have e1:n*2^k%340282366920938463463374607431768211456=18446744073709551616*(n%18446744073709551616*2^(k-64)%18446744073709551616):=by
   rw [e0,hB,←Nat.mul_assoc,Nat.mul_comm n,Nat.mul_assoc,Nat.mul_mod_mul_left,Nat.mod_mul_mod]
  unfold Word;rw [e1,Nat.mul_div_cancel_left _ (by decide),Nat.mul_mod_right,w64,Int.natCast_emod,Int.natCast_mul,Int.natCast_pow];rfl)
 unfold Word at hr ⊢;generalize n/18446744073709551616=h at *
 generalize n%18446744073709551616=l at *
 go_enter Tryz.func123,Tryz.ntmps123
 go_wp2_with fail;refine bodyPost_ret (v:=.agg #[.int .u64 (IntKind.u64.wrap ((l:Int)*2^(k-64))),.int .u64 0]) (by simp [results,Tryz.results123,go_sem]) rfl ⟨?_,(Ext.alloc w _).trans (Ext.alloc _ _)⟩;rw [hr.o]
theorem shl_lo (n k:Nat) (w:World) (hn:W128 n) (hk:k<64) :
  Calls Tryz.prog 123 #[Word n,.int .i64 k] w fun e w'=>e=.returned (Word (n*2^k%340282366920938463463374607431768211456))∧Ext w w':=by
 have h1:decide ((64:Int)≤k)=false:=decide_eq_false (by omega);have h2:wrap64 (64-(k:Int))=64-(k:Int):=w64r _ (by omega);have h2':IntKind.i64.wrap (64-(k:Int))=64-(k:Int):=IntWalk.i64_in _ (by omega);have h3:0≤64-(k:Int):=by omega
 have h4:64-(k:Int)≤64:=by omega
 have h5:0≤(k:Int):=by omega
 have h6:(k:Int)≤64:=by omega
 have hv:=shl_plain n k hk;have Hv:=hid hv;have HH:Hid (n/18446744073709551616<18446744073709551616):=hid (by unfold W128 at hn;omega);have HL:Hid (n%18446744073709551616<18446744073709551616):=hid (Nat.mod_lt _ (by decide));clear hv;unfold Word;generalize n/18446744073709551616=h at *
 generalize n%18446744073709551616=l at *
 obtain ⟨W0,hW0,e0,hBx,hBz⟩:=pro2 w #[.int .u64 h,.int .u64 l] #[.int .u64 0,.int .u64 0] 54 54;have HE:Hid (Ext w W0):=hid e0;have HBz:=hid hBz;have HS:Hid (∀ w',Ext W0 w'→Duo w.heap.size (.int .u64 h) (.int .u64 l) w'):=hid fun w' h=>Duo.of (hBx.ext h);have hb0:Ext W0 W0.drew:=Below.drew (Below.refl _ W0);have hbr:Ext W0 W0:=Below.refl _ W0;obtain ⟨z0,z1,f0,f1⟩:=HBz.o.two;clear e0 hBx hBz
 go_enter Tryz.func123,Tryz.ntmps123
 go_wp2_with fail;rw [←hW0];clear hW0
 go_region_held3 (fun w'=>w'.cell? ⟨w.heap.size,0,none⟩=some (.int .u64 h)∧w'.cell? ⟨w.heap.size,1,none⟩=some (.int .u64 l))
  (first | exact HS.o _ (by assumption) | exact Duo.store (HS.o _ (by assumption)) (by omega) _ _)
  (fail)
 go_wp2_with fail;obtain ⟨q1,q2,q3⟩:=store2 HE.o (show w.heap.size≤w.heap.size+1 by omega) HBz.o (by decide) (.int .u64 (bits BinOp.or IntKind.u64 (IntKind.u64.wrap ((h:Int)*2^k)) ((l:Int)/2^(64-k)))) (.int .u64 (IntKind.u64.wrap ((l:Int)*2^k)));have q4:=q3.ext (Below.drew (Below.refl _ _));have r0:=q3.cell 0;have r1:=q3.cell 1;refine bodyPost_ret (v:=.agg #[.int .u64 (bits BinOp.or IntKind.u64 (IntKind.u64.wrap ((h:Int)*2^k)) ((l:Int)/2^(64-k))),.int .u64 (IntKind.u64.wrap ((l:Int)*2^k))]) (by simp [results,Tryz.results123,go_sem,r0,r1]) rfl ⟨?_,q1.trans (Below.drew (Below.refl _ _))⟩;rw [←Hv.o.1,←Hv.o.2];have e1:((l/2^(64-k):Nat):Int)=(l:Int)/2^(64-k):=by rw [Int.natCast_ediv,Int.natCast_pow];rfl
 have e2:IntKind.u64.wrap ((h:Int)*2^k)=((h*2^k%18446744073709551616:Nat):Int):=by
  rw [w64,Int.natCast_emod,Int.natCast_mul,Int.natCast_pow];rfl
 have e3:IntKind.u64.wrap ((l:Int)*2^k)=((l*2^k%18446744073709551616:Nat):Int):=by
  rw [w64,Int.natCast_emod,Int.natCast_mul,Int.natCast_pow];rfl
 rw [e2,e3,←e1,u64_or_nat _ _ (Nat.mod_lt _ (by decide)) (Nat.lt_of_le_of_lt (Nat.div_le_self _ _) HL.o)]
theorem shl_w (n k:Nat) (w:World) (hn:W128 n) (hk:k≤128) :
  Calls Tryz.prog 123 #[Word n,.int .i64 k] w fun e w'=>e=.returned (Word (n*2^k%340282366920938463463374607431768211456))∧Ext w w':=by
 rcases Nat.lt_or_ge k 64 with h | h
 ·exact shl_lo n k w hn h
 ·exact shl_hi n k w hn h hk
theorem or_div64 (n m:Nat):(n ||| m)/18446744073709551616=n/18446744073709551616 ||| m/18446744073709551616:=by
 have:(18446744073709551616:Nat)=2^64:=rfl
 rw [this,←Nat.shiftRight_eq_div_pow,←Nat.shiftRight_eq_div_pow,←Nat.shiftRight_eq_div_pow,Nat.shiftRight_or_distrib]
theorem or_mod64 (n m:Nat):(n ||| m)%18446744073709551616=n%18446744073709551616 ||| m%18446744073709551616:=by
 have:(18446744073709551616:Nat)=2^64:=rfl
 rw [this,Nat.or_mod_two_pow]
theorem both_w (n m:Nat) (w:World) (hn:W128 n) (hm:W128 m) :
  Calls Tryz.prog 122 #[Word n,Word m] w fun e w'=>e=.returned (Word (n ||| m))∧Ext w w':=by
 have hr:Hid (Word (n ||| m)=.agg #[.int .u64 (bits BinOp.or IntKind.u64 ((n/18446744073709551616:Nat):Int) ((m/18446744073709551616:Nat):Int)),.int .u64 (bits BinOp.or IntKind.u64 ((n%18446744073709551616:Nat):Int) ((m%18446744073709551616:Nat):Int))]):=hid (by
  unfold Word;unfold W128 at hn hm;rw [or_div64,or_mod64,u64_or_nat _ _ (by omega) (by omega),u64_or_nat _ _ (by omega) (by omega)])
 unfold Word at hr ⊢;generalize n/18446744073709551616=h at *
 generalize n%18446744073709551616=l at *
 generalize m/18446744073709551616=h' at *
 generalize m%18446744073709551616=l' at *
 go_enter Tryz.func122,Tryz.ntmps122
 go_wp2_with fail;refine bodyPost_ret (v:=.agg #[.int .u64 (bits BinOp.or IntKind.u64 h h'),.int .u64 (bits BinOp.or IntKind.u64 l l')]) (by simp [results,Tryz.results122,go_sem]) rfl ⟨?_,(Ext.alloc w _).trans ((Ext.alloc _ _).trans (Ext.alloc _ _))⟩;rw [hr.o]
theorem low_plain (n k:Nat) (hk:k≤128):n*2^(128-k)%340282366920938463463374607431768211456/2^(128-k)=n%2^k:=by
 have hQ:(340282366920938463463374607431768211456:Nat)=2^k*2^(128-k):=by rw [←Nat.pow_add,show k+(128-k)=128 by omega]
 rw [hQ,Nat.mul_mod_mul_right,Nat.mul_div_cancel _ (Nat.pow_pos (by decide))]
theorem Word.shape (n:Nat):∃ h l:Nat,Word n=.agg #[.int .u64 h,.int .u64 l]:=⟨_,_,rfl⟩
theorem low_w (n k:Nat) (w:World) (hn:W128 n) (hk:k≤128) :
  Calls Tryz.prog 119 #[Word n,.int .i64 k] w fun e w'=>e=.returned (Word (n%2^k))∧Ext w w':=by
 have h2:wrap64 (128-(k:Int))=128-(k:Int):=w64r _ (by omega);have h3:((128-k:Nat):Int)=128-(k:Int):=by omega
 have hl:=hid (low_plain n k hk);have hb:Hid (W128 (n*2^(128-k)%340282366920938463463374607431768211456)):=hid (Nat.mod_lt _ (by decide));have c1:∀ w,_:=fun w=>shl_w n (128-k) w hn (by omega);have c2:∀ w,_:=fun w=>shr_w _ (128-k) w hb.o (by omega);rw [hl.o,h3] at c2;rw [h3] at c1;obtain ⟨h,l,e1⟩:=Word.shape n;obtain ⟨h',l',e2⟩:=Word.shape (n*2^(128-k)%340282366920938463463374607431768211456);obtain ⟨h'',l'',e3⟩:=Word.shape (n%2^k);rw [e1,e3];rw [e1,e2] at c1;rw [e2,e3] at c2;obtain ⟨W0,hW0,e0,hBx,hBz⟩:=pro2 w #[.int .u64 h,.int .u64 l] #[.int .u64 0,.int .u64 0] 54 54;have HE:Hid (Ext w W0):=hid e0;have HBz:=hid hBz;obtain ⟨x0,x1,_⟩:=hBx.two;have C1:=hid c1;have C2:=hid c2;clear h3 e0 hBx hBz c1 c2 e1 e2 e3 hl hb
 go_enter Tryz.func119,Tryz.ntmps119
 go_wp2_with fail;rw [←hW0];clear hW0;refine (C1.o _).mono ?_;rintro e w1 ⟨rfl,hb1⟩;go_wp2_with fail;refine (C2.o _).mono ?_;rintro e w2 ⟨rfl,g2⟩;have hb2:=hb1.trans g2;obtain ⟨z0,z1,f0,f1⟩:=(HBz.o.ext hb2).two;go_wp2_with fail;obtain ⟨q1,q2,q3⟩:=store2 (HE.o.trans hb2) (show w.heap.size≤w.heap.size+1 by omega) (HBz.o.ext hb2) (by decide) (.int .u64 h'') (.int .u64 l'');have r0:=q3.cell 0;have r1:=q3.cell 1
 exact bodyPost_ret (v:=.agg #[.int .u64 h'',.int .u64 l'']) (by simp [results,Tryz.results119,go_sem,r0,r1]) rfl ⟨rfl,q1⟩
theorem sign_w (E P m b:Int) (neg:Bool) (w:World) (hF:Fmt E P) (r:Nat) (Hr:Hid (r=if neg then 2^(E+P-1).toNat else 0)) :
  Calls Tryz.prog 273 #[.agg #[.int .i64 E,.int .i64 P,.int .i64 m,.int .i64 b],.bool neg] w fun e w'=>e=.returned (Word r)∧Ext w w':=by
 cases neg
 ·have hr:Hid (Word r=.agg #[.int .u64 0,.int .u64 0]):=hid (by rw [Hr.o,if_neg (by decide)];rfl);clear hF Hr
  go_enter Tryz.func273,Tryz.ntmps273
  go_wp2_with fail;refine bodyPost_ret (v:=.agg #[.int .u64 0,.int .u64 0]) (by simp [results,Tryz.results273,go_sem]) rfl ⟨?_,(Ext.alloc w _).trans (Ext.alloc _ _)⟩;rw [hr.o]
 ·have h1:wrap64 (E+P)=E+P:=w64r _ (by unfold Fmt at hF;omega);have h2:wrap64 (E+P-1)=E+P-1:=w64r _ (by unfold Fmt at hF;omega);obtain ⟨k,hk⟩:∃ k:Nat,E+P-1=k:=⟨(E+P-1).toNat,by unfold Fmt at hF;omega⟩;have hk2:k<128:=by unfold Fmt at hF;omega
  have c1:∀ w,_:=fun w=>shl_w 1 k w (by decide) (by omega);have e1:r=1*2^k%340282366920938463463374607431768211456:=by
   rw [Hr.o,hk,if_pos rfl,Nat.one_mul,Nat.mod_eq_of_lt];rfl
   exact Nat.pow_lt_pow_right (by decide) (show k<128 from hk2)
  rw [←e1,←hk] at c1;obtain ⟨h',l',e2⟩:=Word.shape r;rw [e2] at c1 ⊢;have C1:Hid (∀ w,Calls Tryz.prog 123 #[.agg #[.int .u64 0,.int .u64 1],.int .i64 (E+P-1)] w fun e w'=>e=.returned (.agg #[.int .u64 h',.int .u64 l'])∧Ext w w'):=hid c1;obtain ⟨W0,hW0,e0,hBx,hBz⟩:=pro2 w #[.int .i64 E,.int .i64 P,.int .i64 m,.int .i64 b] #[.int .u64 0,.int .u64 0] 143 54;have HE:Hid (Ext w W0):=hid e0;have HBz:=hid hBz;clear e0 hBx hBz c1 e1 e2 hk hk2 hF Hr
  go_enter Tryz.func273,Tryz.ntmps273
  go_wp2_with fail;rw [←hW0];clear hW0;refine (C1.o _).mono ?_;rintro e w2 ⟨rfl,hb2⟩;obtain ⟨z0,z1,f0,f1⟩:=(HBz.o.ext hb2).two;go_wp2_with fail;obtain ⟨q1,q2,q3⟩:=store2 (HE.o.trans hb2) (show w.heap.size≤w.heap.size+1 by omega) (HBz.o.ext hb2) (by decide) (.int .u64 h') (.int .u64 l');have r0:=q3.cell 0;have r1:=q3.cell 1
  exact bodyPost_ret (v:=.agg #[.int .u64 h',.int .u64 l']) (by simp [results,Tryz.results273,go_sem,r0,r1]) rfl ⟨rfl,q1⟩
def Quad (x:Nat) (x0 x1 x2 x3:Value) (w:World):Prop :=
 w.cell? ⟨x,0,none⟩=some x0∧w.cell? ⟨x,1,none⟩=some x1∧w.cell? ⟨x,2,none⟩=some x2∧w.cell? ⟨x,3,none⟩=some x3
theorem Quad.of {w:World} {x:Nat} {x0 x1 x2 x3:Value} {t:TypeId} (h:Box w x #[x0,x1,x2,x3] t):Quad x x0 x1 x2 x3 w:=⟨h.cell 0,h.cell 1,h.cell 2,h.cell 3⟩
theorem Quad.store2 {w:World} {x b:Nat} {x0 x1 x2 x3:Value} (h:Quad x x0 x1 x2 x3 w) (hx:x≠b) (u v:Value) :
  Quad x x0 x1 x2 x3 ((w.setCell ⟨b,0,none⟩ u).setCell ⟨b,1,none⟩ v):=by
 unfold Quad at *
 refine ⟨?_,?_,?_,?_⟩<;>rw [cell_store2 (by exact hx)]
 ·exact h.1
 ·exact h.2.1
 ·exact h.2.2.1
 ·exact h.2.2.2
theorem Quad.store3 {w:World} {x b:Nat} {x0 x1 x2 x3:Value} (h:Quad x x0 x1 x2 x3 w) (hx:x≠b) (u v z:Value) :
  Quad x x0 x1 x2 x3 (((w.setCell ⟨b,0,none⟩ u).setCell ⟨b,1,none⟩ v).setCell ⟨b,2,none⟩ z):=by
 unfold Quad at *
 refine ⟨?_,?_,?_,?_⟩<;>rw [cell_store3 (by exact hx)]
 ·exact h.1
 ·exact h.2.1
 ·exact h.2.2.1
 ·exact h.2.2.2
def sgb (E P:Nat) (neg:Bool):Nat:=if neg then 2^(E+P-1) else 0
theorem sgb_w128 {E P:Nat} (h:E+P≤124) (neg:Bool):W128 (sgb E P neg):=by
 unfold sgb W128
 split
 ·exact Nat.pow_lt_pow_right (a:=2) (m:=E+P-1) (n:=128) (by decide) (by omega)
 ·decide
theorem sign_c' (E P m b:Nat) (neg:Bool) (w:World) (hF:Fmt E P) :
  Calls Tryz.prog 273 #[.agg #[.int .i64 E,.int .i64 P,.int .i64 m,.int .i64 b],.bool neg] w fun e w'=>e=.returned (Word (sgb E P neg))∧Ext w w':=by
 refine sign_w E P m b neg w hF _ (hid ?_);unfold sgb;rw [show ((E:Int)+P-1).toNat=E+P-1 by unfold Fmt at hF;omega]
def infw (E P:Nat) (neg:Bool):Nat:=sgb E P neg ||| ((2^E-1)*2^(P-1))
theorem infinite_c (E P m b:Nat) (neg:Bool) (w:World) (hF:Fmt E P) :
  Calls Tryz.prog 214 #[.agg #[.int .i64 E,.int .i64 P,.int .i64 m,.int .i64 b],.bool neg] w fun e w'=>e=.returned (Word (infw E P neg))∧Ext w w':=by
 have hE:2≤E∧E≤11:=by unfold Fmt at hF;omega
 have hP:2≤P∧P≤113:=by unfold Fmt at hF;omega
 have hlt:2^E≤2048:=Nat.pow_le_pow_right (n:=2) (by decide) hE.2;have hge:1≤2^E:=Nat.pow_pos (by decide);have h1:IntKind.u64.wrap (1*2^E)=((2^E:Nat):Int):=by
  rw [w64,Int.natCast_pow,Int.one_mul]
  have:((2^E:Nat):Int)<18446744073709551616:=by omega
  rw [Int.natCast_pow] at this
  exact Int.emod_eq_of_lt (Int.pow_nonneg (by decide)) this
 have h2:IntKind.u64.wrap (((2^E:Nat):Int)-1)=((2^E-1:Nat):Int):=by rw [w64];omega
 have h3:IntKind.i64.wrap ((P:Int)-1)=(P:Int)-1:=IntWalk.i64_in _ (by omega);have h4:0≤(E:Int):=by omega
 have h5:(E:Int)≤64:=by omega
 obtain ⟨s0,s1,es⟩:=Word.shape (sgb E P neg);obtain ⟨t0,t1,et⟩:=Word.shape ((2^E-1)*2^(P-1));obtain ⟨u0,u1,eu⟩:=Word.shape (infw E P neg);have hb:(2^E-1)*2^(P-1)<2^127:=by
  have e1:(2^E-1)*2^(P-1)<2^E*2^(P-1):=Nat.mul_lt_mul_of_pos_right (by omega) (Nat.pow_pos (by decide));rw [←Nat.pow_add] at e1
  exact Nat.lt_of_lt_of_le e1 (Nat.pow_le_pow_right (by decide) (by omega))
 have c1:∀ w,_:=fun w=>sign_c' E P m b neg w hF;have c2:∀ w,_:=fun w=>shl_w (2^E-1) (P-1) w (show _<_ by omega) (by omega);have c3:∀ w,_:=fun w=>both_w (sgb E P neg) ((2^E-1)*2^(P-1)) w (sgb_w128 (by omega) neg) (show _<2^128 by omega);rw [Nat.mod_eq_of_lt (show _<2^128 by omega)] at c2;have ew:Word (2^E-1)=.agg #[.int .u64 0,.int .u64 ((2^E-1:Nat):Int)]:=by
  unfold Word;rw [Nat.div_eq_of_lt (by omega),Nat.mod_eq_of_lt (by omega)];rfl
 rw [ew,et,show ((P-1:Nat):Int)=(P:Int)-1 by omega] at c2;rw [es] at c1;rw [es,et,show sgb E P neg ||| (2^E-1)*2^(P-1)=infw E P neg from rfl,eu] at c3;rw [eu];have h1':IntKind.u64.wrap (2^E)=((2^E:Nat):Int):=by rw [←h1,Int.one_mul]
 obtain ⟨W0,hW0,e0,hBx,hBz⟩:=pro2 w #[.int .i64 E,.int .i64 P,.int .i64 m,.int .i64 b] #[.int .u64 0,.int .u64 0] 143 54;have HE:Hid (Ext w W0):=hid e0;have HBz:=hid hBz;have HS:Hid (∀ w',Ext W0 w'→Quad w.heap.size (.int .i64 E) (.int .i64 P) (.int .i64 m) (.int .i64 b) w'):=hid fun w' h=>Quad.of (hBx.ext h);have hb0:Ext W0 W0.drew:=Below.drew (Below.refl _ W0);have C1:=hid c1;have C2:=hid c2;have C3:=hid c3;generalize 2^E-1=v at *
 generalize hz:2^E=z at *
 clear e0 hBx hBz c1 c2 c3 ew et es eu hb hlt hge hE hP hF hz
 go_enter Tryz.func214,Tryz.ntmps214
 go_wp2_with fail;rw [←hW0];clear hW0
 go_region_held3 (fun w'=>w'.cell? ⟨w.heap.size,0,none⟩=some (.int .i64 E)∧w'.cell? ⟨w.heap.size,1,none⟩=some (.int .i64 P)∧w'.cell? ⟨w.heap.size,2,none⟩=some (.int .i64 m)∧w'.cell? ⟨w.heap.size,3,none⟩=some (.int .i64 b))
  (first | exact HS.o _ (by assumption) | exact Quad.store2 (HS.o _ (by assumption)) (by omega) _ _)
  (first
   | (go_at_call 273;(with_reducible refine (C1.o _).mono ?_);rintro e w1 ⟨rfl,g1⟩;have hb1:Ext W0 w1:=hb0.trans g1)
   | (go_at_call 123;(with_reducible refine (C2.o _).mono ?_);rintro e w2 ⟨rfl,g2⟩;have hb2:Ext W0 w2:=hb1.trans g2)
   | (go_at_call 122;(with_reducible refine (C3.o _).mono ?_);rintro e w3 ⟨rfl,g3⟩;have hb3:Ext W0 w3:=hb2.trans g3;obtain ⟨z0,z1,f0,f1⟩:=(HBz.o.ext hb3).two))
 go_wp2_with fail;obtain ⟨q1,q2,q3⟩:=store2 (HE.o.trans hb3) (show w.heap.size≤w.heap.size+1 by omega) (HBz.o.ext hb3) (by decide) (.int .u64 u0) (.int .u64 u1);have r0:=q3.cell 0;have r1:=q3.cell 1
 exact bodyPost_ret (v:=.agg #[.int .u64 u0,.int .u64 u1]) (by simp [results,Tryz.results214,go_sem,r0,r1]) rfl ⟨rfl,q1⟩
def nanw (E P:Nat):Nat:=infw E P false ||| 2^(P-2)
theorem infw_lt {E P:Nat} (hF:Fmt E P) (neg:Bool):infw E P neg<2^127:=by
 have hE:2≤E∧E≤11:=by unfold Fmt at hF;omega
 have hP:2≤P∧P≤113:=by unfold Fmt at hF;omega
 unfold infw;refine Nat.or_lt_two_pow ?_ ?_
 ·unfold sgb
  split
  ·exact Nat.pow_lt_pow_right (by decide) (by omega)
  ·decide
 ·have e1:(2^E-1)*2^(P-1)<2^E*2^(P-1):=Nat.mul_lt_mul_of_pos_right (by have:1≤2^E:=Nat.pow_pos (by decide);omega) (Nat.pow_pos (by decide));rw [←Nat.pow_add] at e1
  exact Nat.lt_of_lt_of_le e1 (Nat.pow_le_pow_right (by decide) (by omega))
theorem nan_c (E P m b:Nat) (w:World) (hF:Fmt E P) :
  Calls Tryz.prog 216 #[.agg #[.int .i64 E,.int .i64 P,.int .i64 m,.int .i64 b]] w fun e w'=>e=.returned (Word (nanw E P))∧Ext w w':=by
 have hP:2≤P∧P≤113:=by unfold Fmt at hF;omega
 have h3:IntKind.i64.wrap ((P:Int)-2)=(P:Int)-2:=IntWalk.i64_in _ (by omega);obtain ⟨s0,s1,es⟩:=Word.shape (infw E P false);obtain ⟨t0,t1,et⟩:=Word.shape (2^(P-2));obtain ⟨u0,u1,eu⟩:=Word.shape (nanw E P);have hb:2^(P-2)<2^127:=Nat.pow_lt_pow_right (by decide) (by omega);have hi:=infw_lt hF false;have c1:∀ w,_:=fun w=>infinite_c E P m b false w hF;have c2:∀ w,_:=fun w=>shl_w 1 (P-2) w (by decide) (by omega);have c3:∀ w,_:=fun w=>both_w (infw E P false) (2^(P-2)) w (show _<2^128 by omega) (show _<2^128 by omega);rw [Nat.one_mul,Nat.mod_eq_of_lt (show _<2^128 by omega)] at c2;rw [et,show ((P-2:Nat):Int)=(P:Int)-2 by omega] at c2;have c2':∀ w,Calls Tryz.prog 123 #[.agg #[.int .u64 0,.int .u64 1],.int .i64 ((P:Int)-2)] w fun e w'=>e=.returned (.agg #[.int .u64 t0,.int .u64 t1])∧Ext w w':=c2;rw [es] at c1;rw [es,et,show infw E P false ||| 2^(P-2)=nanw E P from rfl,eu] at c3;rw [eu];obtain ⟨W0,hW0,e0,hBx,hBz⟩:=pro2 w #[.int .i64 E,.int .i64 P,.int .i64 m,.int .i64 b] #[.int .u64 0,.int .u64 0] 143 54;have HE:Hid (Ext w W0):=hid e0;have HBz:=hid hBz;have HS:Hid (∀ w',Ext W0 w'→Quad w.heap.size (.int .i64 E) (.int .i64 P) (.int .i64 m) (.int .i64 b) w'):=hid fun w' h=>Quad.of (hBx.ext h);have hb0:Ext W0 W0.drew:=Below.drew (Below.refl _ W0);have C1:=hid c1;have C2:=hid c2';have C3:=hid c3;clear e0 hBx hBz c1 c2 c2' c3 et es eu hb hi hP hF
 go_enter Tryz.func216,Tryz.ntmps216
 go_wp2_with fail;rw [←hW0];clear hW0
 go_region_held3 (fun w'=>w'.cell? ⟨w.heap.size,0,none⟩=some (.int .i64 E)∧w'.cell? ⟨w.heap.size,1,none⟩=some (.int .i64 P)∧w'.cell? ⟨w.heap.size,2,none⟩=some (.int .i64 m)∧w'.cell? ⟨w.heap.size,3,none⟩=some (.int .i64 b))
  (first | exact HS.o _ (by assumption) | exact Quad.store2 (HS.o _ (by assumption)) (by omega) _ _)
  (first
   | (go_at_call 214;(with_reducible refine (C1.o _).mono ?_);rintro e w1 ⟨rfl,g1⟩;have hb1:Ext W0 w1:=hb0.trans g1)
   | (go_at_call 123;(with_reducible refine (C2.o _).mono ?_);rintro e w2 ⟨rfl,g2⟩;have hb2:Ext W0 w2:=hb1.trans g2)
   | (go_at_call 122;(with_reducible refine (C3.o _).mono ?_);rintro e w3 ⟨rfl,g3⟩;have hb3:Ext W0 w3:=hb2.trans g3;obtain ⟨z0,z1,f0,f1⟩:=(HBz.o.ext hb3).two))
 go_wp2_with fail;obtain ⟨q1,q2,q3⟩:=store2 (HE.o.trans hb3) (show w.heap.size≤w.heap.size+1 by omega) (HBz.o.ext hb3) (by decide) (.int .u64 u0) (.int .u64 u1);have r0:=q3.cell 0;have r1:=q3.cell 1
 exact bodyPost_ret (v:=.agg #[.int .u64 u0,.int .u64 u1]) (by simp [results,Tryz.results216,go_sem,r0,r1]) rfl ⟨rfl,q1⟩
theorem zero_c (E P m b:Nat) (neg:Bool) (w:World) (hF:Fmt E P) :
  Calls Tryz.prog 196 #[.agg #[.int .i64 E,.int .i64 P,.int .i64 m,.int .i64 b],.bool neg] w fun e w'=>e=.returned (Word (sgb E P neg))∧Ext w w':=by
 have c1:∀ w,_:=fun w=>sign_c' E P m b neg w hF;obtain ⟨u0,u1,eu⟩:=Word.shape (sgb E P neg);rw [eu] at c1 ⊢;obtain ⟨W0,hW0,e0,hBx,hBz⟩:=pro2 w #[.int .i64 E,.int .i64 P,.int .i64 m,.int .i64 b] #[.int .u64 0,.int .u64 0] 143 54;have HE:Hid (Ext w W0):=hid e0;have HBz:=hid hBz;obtain ⟨x0,x1,x2,x3⟩:=Quad.of hBx;have C1:=hid c1;clear e0 hBx hBz c1 eu hF
 go_enter Tryz.func196,Tryz.ntmps196
 go_wp2_with fail;rw [←hW0];clear hW0;refine (C1.o _).mono ?_;rintro e w3 ⟨rfl,hb3⟩;obtain ⟨z0,z1,f0,f1⟩:=(HBz.o.ext hb3).two;go_wp2_with fail;obtain ⟨q1,q2,q3⟩:=store2 (HE.o.trans hb3) (show w.heap.size≤w.heap.size+1 by omega) (HBz.o.ext hb3) (by decide) (.int .u64 u0) (.int .u64 u1);have r0:=q3.cell 0;have r1:=q3.cell 1
 exact bodyPost_ret (v:=.agg #[.int .u64 u0,.int .u64 u1]) (by simp [results,Tryz.results196,go_sem,r0,r1]) rfl ⟨rfl,q1⟩
theorem invalid_c (E P m b:Nat) (w:World) (hF:Fmt E P) :
  Calls Tryz.prog 132 #[.agg #[.int .i64 E,.int .i64 P,.int .i64 m,.int .i64 b]] w fun e w'=>e=.returned (.tuple #[Word (nanw E P),.int .i64 1])∧Ext w w':=by
 have c1:∀ w,_:=fun w=>nan_c E P m b w hF;obtain ⟨u0,u1,eu⟩:=Word.shape (nanw E P);rw [eu] at c1 ⊢;obtain ⟨W0,hW0,e0,hBx,hBz⟩:=pro2 w #[.int .i64 E,.int .i64 P,.int .i64 m,.int .i64 b] #[.int .u64 0,.int .u64 0] 143 54;have HE:Hid (Ext w W0):=hid e0;have HBz:=hid hBz;obtain ⟨x0,x1,x2,x3⟩:=Quad.of hBx;have C1:=hid c1;clear e0 hBx hBz c1 eu hF
 go_enter Tryz.func132,Tryz.ntmps132
 go_wp2_with fail;rw [←hW0];clear hW0;refine (C1.o _).mono ?_;rintro e w3 ⟨rfl,hb3⟩;obtain ⟨z0,z1,f0,f1⟩:=(HBz.o.ext hb3).two;go_wp2_with fail;obtain ⟨q1,q2,q3⟩:=store2 (HE.o.trans hb3) (show w.heap.size≤w.heap.size+1 by omega) (HBz.o.ext hb3) (by decide) (.int .u64 u0) (.int .u64 u1);have r0:=q3.cell 0;have r1:=q3.cell 1
 exact bodyPost_ret (v:=.tuple #[.agg #[.int .u64 u0,.int .u64 u1],.int .i64 1]) (by simp [results,Tryz.results132,go_sem,r0,r1]) rfl ⟨rfl,q1⟩
theorem bl_word (n:Nat):bl n=if n/18446744073709551616=0 then bl (n%18446744073709551616) else 64+bl (n/18446744073709551616):=by
 split
 ·rename_i h
  rw [Nat.mod_eq_of_lt (by omega)]
 ·rename_i h
  have h1:=bl_le (Nat.pos_of_ne_zero h);have h2:=bl_lt (n/18446744073709551616);have h3:=bl_pos (Nat.pos_of_ne_zero h);obtain ⟨k,hk⟩:∃ k,bl (n/18446744073709551616)=k+1:=⟨_,(Nat.succ_pred_eq_of_pos h3).symm⟩;rw [hk] at h1 h2 ⊢;rw [Nat.add_sub_cancel] at h1;have e:(18446744073709551616:Nat)=2^64:=rfl;rw [show 64+(k+1)=(64+k)+1 by omega];refine bl_unique ?_ ?_
  ·rw [Nat.pow_add,←e]
   have:=Nat.mul_le_mul_left 18446744073709551616 h1
   omega
  ·rw [show 64+k+1=64+(k+1) by omega,Nat.pow_add,←e]
   have:=Nat.mul_le_mul_left 18446744073709551616 (show n/18446744073709551616+1≤2^(k+1) by omega)
   omega
theorem bitLen_bl {d:Nat} (h:d<18446744073709551616):Lib.bitLen d=bl d:=by
 unfold Lib.bitLen;exact bitLenAux_eq 64 d (by omega)
theorem size_core (h l:Nat) (w:World) (hh:h<18446744073709551616) (hl:l<18446744073709551616) (r:Nat) (Hr:Hid (r=if h=0 then bl l else 64+bl h)) :
  Calls Tryz.prog 120 #[.agg #[.int .u64 h,.int .u64 l]] w fun e w'=>e=.returned (.int .i64 r)∧Ext w w':=by
 by_cases h0:h=0
 ·subst h0;have hz:((0:Int)==0)=true:=rfl;replace Hr:Hid (r=bl l):=hid (by rw [Hr.o,if_pos rfl]);have L1:=hid hl;clear hh hl
  go_enter Tryz.func120,Tryz.ntmps120
  go_wp2_with fail;refine (Tryz.bits_Len64 (l:Int) _ (by omega) (by have:=L1.o;omega)).mono ?_;rintro e w1 ⟨rfl,rfl⟩;go_wp2_with fail;go_ret;refine ⟨?_,Ext.alloc w _⟩;rw [Hr.o,←bitLen_bl L1.o];rfl
 ·have hz:((h:Int)==0)=false:=by simp;omega
  have hb:bl h≤64:=bl_le_of_lt hh;have hw:wrap64 (64+(bl h:Int))=64+(bl h:Int):=w64r _ (by omega);replace Hr:Hid (r=64+bl h):=hid (by rw [Hr.o,if_neg h0]);have L1:=hid hh;clear hh hl h0
  go_enter Tryz.func120,Tryz.ntmps120
  go_wp2_with fail;refine (Tryz.bits_Len64 (h:Int) _ (by omega) (by have:=L1.o;omega)).mono ?_;rintro e w1 ⟨rfl,rfl⟩;rw [Int.toNat_natCast,bitLen_bl L1.o];go_wp2_with fail;go_ret;refine ⟨?_,Ext.alloc w _⟩;rw [Hr.o,Int.natCast_add,←hw];first | rfl | (rw [hw];rfl)
theorem size_c (n:Nat) (w:World) (hn:W128 n) :
  Calls Tryz.prog 120 #[Word n] w fun e w'=>e=.returned (.int .i64 (bl n))∧Ext w w' :=
 size_core _ _ w (by unfold W128 at hn;omega) (Nat.mod_lt _ (by decide)) _ (hid (bl_word n))
theorem part_c (n:Nat) (w:World) (hn:n<18446744073709551616) :
  Calls Tryz.prog 212 #[.int .u64 n] w fun e w'=>∃ v,e=.returned v∧NumV w' v ((n:Nat):Rat)∧Ext w w':=by
 obtain ⟨W0,hW0⟩:∃ W0,W0=w.alloc (.cells #[.bool false,.slice none 0 0,.slice none 0 0] 49):=⟨_,rfl⟩;have HE:Hid (Ext w W0):=hid (by rw [hW0];exact Ext.alloc w _);have HBz:Hid (Box W0 w.heap.size #[.bool false,.slice none 0 0,.slice none 0 0] 49):=hid (by rw [hW0];exact Box.new w _ _);have h1:wrap64 ((n:Int)/4294967296)=(n:Int)/4294967296:=w64r _ (by omega);have h2:bits BinOp.and IntKind.u64 (n:Int) 4294967295=(n:Int)%4294967296:=by
  have:=u64_and_nat n 4294967295 hn (by decide)
  rw [show (4294967295:Nat)=2^32-1 from rfl,Nat.and_two_pow_sub_one_eq_mod] at this
  exact this
 have h3:wrap64 ((n:Int)%4294967296)=(n:Int)%4294967296:=w64r _ (by omega);have HV:Hid ((((n:Int)/4294967296:Int):Rat)*(2:Rat)^(32:Int)+(((n:Int)%4294967296:Int):Rat)=((n:Nat):Rat)):=hid (by
  have e:(2:Rat)^(32:Int)=((4294967296:Int):Rat):=by decide +kernel
  rw [e,←Rat.intCast_mul,←Rat.intCast_add,show (n:Int)/4294967296*4294967296+(n:Int)%4294967296=n by omega];rfl)
 have S1:Hid (SmQ 64 ((((n:Int)/4294967296:Int):Rat))):=hid (SmQ.int (by decide) (by omega));have S2:Hid (SmQ 64 ((((n:Int)%4294967296:Int):Rat))):=hid (SmQ.int (by decide) (by omega));have S3:Hid (SmQ 128 ((((n:Int)/4294967296:Int):Rat)*(2:Rat)^(32:Int))):=hid (by
  have e:(2:Rat)^(32:Int)=((4294967296:Int):Rat):=by decide +kernel
  rw [e,←Rat.intCast_mul];exact SmQ.int (by decide) (by omega))
 have Hn:=hid hn;clear hn
 go_enter Tryz.func212,Tryz.ntmps212
 go_wp2_with fail;rw [←hW0];clear hW0;refine (Int_c _ _ (by have:=Hn.o;omega) (by have:=Hn.o;omega)).mono ?_;rintro e w1 ⟨v1,rfl,k1,hb1⟩;go_wp2_with fail;refine (shift_c _ _ 64 32 _ k1 S1.o (by decide) (by decide) (by decide)).mono ?_;rintro e w2 ⟨v2,rfl,k2,g2⟩;go_wp2_with fail;refine (Int_c _ _ (by have:=Hn.o;omega) (by have:=Hn.o;omega)).mono ?_;rintro e w3 ⟨v3,rfl,k3,g3⟩;go_wp2_with fail;refine (Add_c _ _ _ _ 128 _ (k2.ext g3) k3 S3.o (S2.o.mono (by decide)) (by decide)).mono ?_;rintro e w4 ⟨v,rfl,k4,g4⟩;have hb4:=hb1.trans (g2.trans (g3.trans g4));obtain ⟨ng4,a4,n4,c4,a4',n4',c4',rfl⟩:=k4.shape;obtain ⟨z0,z1,z2,f0,f1,f2⟩:=(HBz.o.ext hb4).three;go_wp2_with fail;obtain ⟨q1,q2,q3⟩:=store3 (HE.o.trans hb4) (Nat.le_refl _) (HBz.o.ext hb4) (by decide) (.bool ng4) (.slice a4 n4 c4) (.slice a4' n4' c4');have r0:=q3.cell 0;have r1:=q3.cell 1;have r2:=q3.cell 2;refine bodyPost_ret (v:=.agg #[.bool ng4,.slice a4 n4 c4,.slice a4' n4' c4']) (by simp [results,Tryz.results212,go_sem,r0,r1,r2]) rfl ⟨_,rfl,?_,q1⟩;have kk:=k4.keep q2;rw [HV.o] at kk
 exact kk
theorem Duo.store3 {w:World} {x b:Nat} {x0 x1:Value} (h:Duo x x0 x1 w) (hx:x≠b) (u v z:Value) :
  Duo x x0 x1 (((w.setCell ⟨b,0,none⟩ u).setCell ⟨b,1,none⟩ v).setCell ⟨b,2,none⟩ z):=by
 unfold Duo at *
 refine ⟨?_,?_⟩<;>rw [cell_store3 (by exact hx)]
 ·exact h.1
 ·exact h.2
theorem fwhole_c (n:Nat) (w:World) (hn:W128 n) :
  Calls Tryz.prog 121 #[Word n] w fun e w'=>∃ v,e=.returned v∧NumV w' v ((n:Nat):Rat)∧Ext w w':=by
 have HV:Hid (((n/18446744073709551616:Nat):Rat)*(2:Rat)^(64:Int)+((n%18446744073709551616:Nat):Rat)=((n:Nat):Rat)):=hid (by
  have e:(2:Rat)^(64:Int)=((18446744073709551616:Nat):Rat):=by decide +kernel
  rw [e,←Rat.natCast_mul,←Rat.natCast_add,Nat.div_add_mod'])
 have HH:Hid (n/18446744073709551616<18446744073709551616):=hid (by unfold W128 at hn;omega);have HL:Hid (n%18446744073709551616<18446744073709551616):=hid (Nat.mod_lt _ (by decide));unfold Word;generalize n/18446744073709551616=h at *
 generalize n%18446744073709551616=l at *
 have S1:Hid (SmQ 64 ((h:Nat):Rat)):=hid (SmQ.int (n:=(h:Int)) (by decide) (by have:=HH.o;omega));have S2:Hid (SmQ 128 ((l:Nat):Rat)):=hid ((SmQ.int (n:=(l:Int)) (K:=64) (by decide) (by have:=HL.o;omega)).mono (by decide));have S3:Hid (SmQ 128 (((h:Nat):Rat)*(2:Rat)^(64:Int))):=hid (by
  have e:(2:Rat)^(64:Int)=((18446744073709551616:Nat):Rat):=by decide +kernel
  rw [e,←Rat.natCast_mul];exact SmQ.int (n:=((h*18446744073709551616:Nat):Int)) (by decide) (by have:=HH.o;omega))
 obtain ⟨W0,hW0,e0,hBx,hBz⟩:=pro2 w #[.int .u64 h,.int .u64 l] #[.bool false,.slice none 0 0,.slice none 0 0] 54 49;have HE:Hid (Ext w W0):=hid e0;have HBz:=hid hBz;have HS:Hid (∀ w',Ext W0 w'→Duo w.heap.size (.int .u64 h) (.int .u64 l) w'):=hid fun w' h=>Duo.of (hBx.ext h);have hb0:Ext W0 W0.drew:=Below.drew (Below.refl _ W0);clear e0 hBx hBz hn
 go_enter Tryz.func121,Tryz.ntmps121
 go_wp2_with fail;rw [←hW0];clear hW0
 go_region_held3 (fun w'=>w'.cell? ⟨w.heap.size,0,none⟩=some (.int .u64 h)∧w'.cell? ⟨w.heap.size,1,none⟩=some (.int .u64 l))
  (first | exact HS.o _ (by assumption) | exact Duo.store3 (HS.o _ (by assumption)) (by omega) _ _ _)
  (first
   | (go_at_call 212;(with_reducible refine (part_c h _ HH.o).mono ?_);rintro e w1 ⟨v1,rfl,k1,g1⟩;have hb1:Ext W0 w1:=hb0.trans g1)
   | (go_at_call 124;(with_reducible refine (shift_c _ _ 64 64 _ k1 S1.o (by decide) (by decide) (by decide)).mono ?_);rintro e w2 ⟨v2,rfl,k2,g2⟩;have hb2:Ext W0 w2:=hb1.trans g2)
   | (go_at_call 212;(with_reducible refine (part_c l _ HL.o).mono ?_);rintro e w3 ⟨v3,rfl,k3,g3⟩;have hb3:Ext W0 w3:=hb2.trans g3)
   | (go_at_call 47;(with_reducible refine (Add_c _ _ _ _ 128 _ (k2.ext g3) k3 S3.o S2.o (by decide)).mono ?_);rintro e w4 ⟨v,rfl,k4,g4⟩;have hb4:Ext W0 w4:=hb3.trans g4;obtain ⟨ng4,a4,n4,c4,a4',n4',c4',rfl⟩:=k4.shape;obtain ⟨z0,z1,z2,f0,f1,f2⟩:=(HBz.o.ext hb4).three))
 go_wp2_with fail;obtain ⟨q1,q2,q3⟩:=store3 (HE.o.trans hb4) (show w.heap.size≤w.heap.size+1 by omega) (HBz.o.ext hb4) (by decide) (.bool ng4) (.slice a4 n4 c4) (.slice a4' n4' c4');have r0:=q3.cell 0;have r1:=q3.cell 1;have r2:=q3.cell 2;refine bodyPost_ret (v:=.agg #[.bool ng4,.slice a4 n4 c4,.slice a4' n4' c4']) (by simp [results,Tryz.results121,go_sem,r0,r1,r2]) rfl ⟨_,rfl,?_,q1⟩;have kk:=k4.keep q2;rw [HV.o] at kk
 exact kk
def bias (E:Nat):Nat:=2^(E-1)-1
def grQ (P b:Nat):Rat:=(((2^P-1:Nat):Rat))*(2:Rat)^((b:Int)-P+1)
theorem SmQ.p2 {K:Nat} {k:Nat} (h:k<K):SmQ K ((2:Rat)^(k:Int)):=by
 rw [p2_nat]
 exact SmQ.int (n:=((2^k:Nat):Int)) (by omega) (by rw [Int.natAbs_natCast];exact Nat.pow_lt_pow_right (by decide) h)
theorem greatest_c (E P m b:Nat) (w:World) (hP:2≤P∧P≤113) (hb:b≤1023) :
  Calls Tryz.prog 183 #[.agg #[.int .i64 E,.int .i64 P,.int .i64 m,.int .i64 b]] w fun e w'=>∃ v,e=.returned v∧NumV w' v (grQ P b)∧Ext w w':=by
 have h1:IntKind.i64.wrap ((b:Int)-P)=(b:Int)-P:=IntWalk.i64_in _ (by omega);have h2:IntKind.i64.wrap ((b:Int)-P+1)=(b:Int)-P+1:=IntWalk.i64_in _ (by omega);have hp:1≤2^P:=Nat.pow_pos (by decide);have HV:Hid ((2:Rat)^(P:Int)-((1:Int):Rat)=((2^P-1:Nat):Rat)):=hid (by
  rw [p2_nat]
  have:((2^P:Nat):Rat)=((2^P-1:Nat):Rat)+1:=by
   have e:((2^P-1+1:Nat):Rat)=((2^P-1:Nat):Rat)+((1:Nat):Rat):=Rat.natCast_add _ _;rw [Nat.sub_add_cancel hp] at e
   exact e
  rw [this];grind)
 have S1:Hid (SmQ 128 ((2:Rat)^(P:Int))):=hid (SmQ.p2 (by omega));have S2:Hid (SmQ 128 ((1:Int):Rat)):=hid (SmQ.int (by decide) (by decide));have S3:Hid (SmQ 128 ((2^P-1:Nat):Rat)):=hid (SmQ.int (n:=((2^P-1:Nat):Int)) (by decide) (by
  rw [Int.natAbs_natCast]
  have:2^P<2^128:=Nat.pow_lt_pow_right (by decide) (by omega)
  omega))
 have HP:=hid hP;have HB:=hid hb;obtain ⟨W0,hW0,e0,hBx,hBz⟩:=pro2 w #[.int .i64 E,.int .i64 P,.int .i64 m,.int .i64 b] #[.bool false,.slice none 0 0,.slice none 0 0] 143 49;have HE:Hid (Ext w W0):=hid e0;have HBz:=hid hBz;have HS:Hid (∀ w',Ext W0 w'→Quad w.heap.size (.int .i64 E) (.int .i64 P) (.int .i64 m) (.int .i64 b) w'):=hid fun w' h=>Quad.of (hBx.ext h);have hb0:Ext W0 W0.drew:=Below.drew (Below.refl _ W0);clear e0 hBx hBz hP hb hp
 go_enter Tryz.func183,Tryz.ntmps183
 go_wp2_with fail;rw [←hW0];clear hW0
 go_region_held3 (fun w'=>w'.cell? ⟨w.heap.size,0,none⟩=some (.int .i64 E)∧w'.cell? ⟨w.heap.size,1,none⟩=some (.int .i64 P)∧w'.cell? ⟨w.heap.size,2,none⟩=some (.int .i64 m)∧w'.cell? ⟨w.heap.size,3,none⟩=some (.int .i64 b))
  (first | exact HS.o _ (by assumption) | exact Quad.store3 (HS.o _ (by assumption)) (by omega) _ _ _)
  (first
   | (go_at_call 107;(with_reducible refine (two_c _ _ (by have:=HP.o;omega) (by have:=HP.o;omega)).mono ?_);rintro e w1 ⟨v1,rfl,k1,g1⟩;have hb1:Ext W0 w1:=hb0.trans g1)
   | (go_at_call 49;(with_reducible refine (Int_c 1 _ (by decide) (by decide)).mono ?_);rintro e w2 ⟨v2,rfl,k2,g2⟩;have hb2:Ext W0 w2:=hb1.trans g2)
   | (go_at_call 77;(with_reducible refine (Sub_c _ _ _ _ 128 _ (k1.ext g2) k2 S1.o S2.o (by decide)).mono ?_);rintro e w3 ⟨v3,rfl,k3,g3⟩;rw [HV.o] at k3;have hb3:Ext W0 w3:=hb2.trans g3)
   | (go_at_call 124;(with_reducible refine (shift_c _ _ 128 _ _ k3 S3.o (by have:=HP.o;have:=HB.o;omega) (by have:=HP.o;have:=HB.o;omega) (by decide)).mono ?_);rintro e w4 ⟨v,rfl,k4,g4⟩;have hb4:Ext W0 w4:=hb3.trans g4;obtain ⟨ng4,a4,n4,c4,a4',n4',c4',rfl⟩:=k4.shape;obtain ⟨z0,z1,z2,f0,f1,f2⟩:=(HBz.o.ext hb4).three))
 go_wp2_with fail;obtain ⟨q1,q2,q3⟩:=store3 (HE.o.trans hb4) (show w.heap.size≤w.heap.size+1 by omega) (HBz.o.ext hb4) (by decide) (.bool ng4) (.slice a4 n4 c4) (.slice a4' n4' c4');have r0:=q3.cell 0;have r1:=q3.cell 1;have r2:=q3.cell 2
 exact bodyPost_ret (v:=.agg #[.bool ng4,.slice a4 n4 c4,.slice a4' n4' c4']) (by simp [results,Tryz.results183,go_sem,r0,r1,r2]) rfl ⟨_,rfl,k4.keep q2,q1⟩
theorem step_c (E P m b:Nat) (l:Int) (w:World) (hP:2≤P∧P≤113) (hb:b≤1023) (hl : -100000000≤l∧l≤100000000) :
  Calls Tryz.prog 180 #[.agg #[.int .i64 E,.int .i64 P,.int .i64 m,.int .i64 b],.int .i64 l] w fun e w'=>e=.returned (.int .i64 (max l (1-(b:Int))-P+1))∧Ext w w':=by
 have h1:IntKind.i64.wrap (max l (1-(b:Int))-P)=max l (1-(b:Int))-P:=IntWalk.i64_in _ (by omega);have h2:IntKind.i64.wrap (max l (1-(b:Int))-P+1)=max l (1-(b:Int))-P+1:=IntWalk.i64_in _ (by omega);have c1:∀ w,_:=fun w=>normal_c E P m b w (hid (by omega));obtain ⟨W0,hW0⟩:∃ W0,W0=w.alloc (.cells #[.int .i64 E,.int .i64 P,.int .i64 m,.int .i64 b] 143):=⟨_,rfl⟩;have HE:Hid (Ext w W0):=hid (by rw [hW0];exact Ext.alloc w _);have hBx:Box W0 w.heap.size #[.int .i64 E,.int .i64 P,.int .i64 m,.int .i64 b] 143:=by rw [hW0];exact Box.new w _ _
 have HS:Hid (∀ w',Ext W0 w'→Quad w.heap.size (.int .i64 E) (.int .i64 P) (.int .i64 m) (.int .i64 b) w'):=hid fun w' h=>Quad.of (hBx.ext h);have hb0:Ext W0 W0.drew:=Below.drew (Below.refl _ W0);have C1:=hid c1;clear hBx c1 hP hb hl
 go_enter Tryz.func180,Tryz.ntmps180
 go_wp2_with fail;rw [←hW0];clear hW0
 go_region_held3 (fun w'=>w'.cell? ⟨w.heap.size,0,none⟩=some (.int .i64 E)∧w'.cell? ⟨w.heap.size,1,none⟩=some (.int .i64 P)∧w'.cell? ⟨w.heap.size,2,none⟩=some (.int .i64 m)∧w'.cell? ⟨w.heap.size,3,none⟩=some (.int .i64 b))
  (exact HS.o _ (by assumption))
  (first | (go_at_call 198;(with_reducible refine (C1.o _).mono ?_);rintro e w1 ⟨rfl,g1⟩;have hb1:Ext W0 w1:=hb0.trans g1))
 go_wp2_with fail;go_ret
 exact ⟨rfl,HE.o.trans hb1⟩
theorem pro1 (w:World) (c1:Array Value) (t1:TypeId):∃ W0,W0=w.alloc (.cells c1 t1)∧Ext w W0∧w.heap.size+1≤W0.heap.size∧Box W0 w.heap.size c1 t1 :=
 ⟨_,rfl,Ext.alloc w _,by simp,Box.new w _ _⟩
theorem pro2s (w:World) (c1 c2:Array Value) (t1 t2:TypeId):∃ W0,W0=(w.alloc (.cells c1 t1)).alloc (.cells c2 t2)∧Ext w W0∧w.heap.size+2≤W0.heap.size∧Box W0 w.heap.size c1 t1∧Box W0 (w.heap.size+1) c2 t2:=by
 obtain ⟨W1,h1,e1,s1,b1⟩:=pro1 w c1 t1;obtain ⟨W2,h2,e2,s2,b2⟩:=pro1 W1 c2 t2;have hs:W1.heap.size=w.heap.size+1:=by rw [h1];simp
 rw [hs] at b2
 exact ⟨W2,by rw [h2,h1],e1.trans e2,by omega,b1.ext e2,b2⟩
theorem pro3s (w:World) (c1 c2 c3:Array Value) (t1 t2 t3:TypeId):∃ W0,W0=((w.alloc (.cells c1 t1)).alloc (.cells c2 t2)).alloc (.cells c3 t3)∧Ext w W0∧w.heap.size+3≤W0.heap.size∧Box W0 w.heap.size c1 t1∧Box W0 (w.heap.size+1) c2 t2∧Box W0 (w.heap.size+1+1) c3 t3:=by
 obtain ⟨W1,h1,e1,s1,b1⟩:=pro1 w c1 t1;obtain ⟨W2,h2,e2,s2,b2,b3⟩:=pro2s W1 c2 c3 t2 t3;have hs:W1.heap.size=w.heap.size+1:=by rw [h1];simp
 rw [hs] at b2 b3
 exact ⟨W2,by rw [h2,h1],e1.trans e2,by omega,b1.ext e2,b2,b3⟩
def putCells (w:World) (b:Nat):Nat→List Value→World
 | _,[]=>w
 | i,v :: l=>putCells (w.setCell ⟨b,i,none⟩ v) b (i+1) l
def putArr (cs:Array Value):Nat→List Value→Array Value
 | _,[]=>cs
 | i,v :: l=>putArr (cs.setIfInBounds i v) (i+1) l
theorem Box.other {w:World} {b b':Nat} {cs:Array Value} {t:TypeId} (h:Box w b cs t) (hne:b≠b') (i:Nat) (x:Value):Box (w.setCell ⟨b',i,none⟩ x) b cs t:=by
 unfold Box at *
 rw [Below.heap_setCell _ _ _ _ (show b≠(⟨b',i,none⟩:Addr).block from hne)];exact h
theorem putCells_law (w:World):∀ (l:List Value) (i:Nat) (wk:World) (b:Nat) (cs:Array Value) (t:TypeId),Ext w wk→w.heap.size≤b→Box wk b cs t→t≠240 →
  Ext w (putCells wk b i l)∧Keep wk (putCells wk b i l)∧Box (putCells wk b i l) b (putArr cs i l) t∧wk.heap.size≤(putCells wk b i l).heap.size ∧
   ∀ b' cs' t',b'≠b→Box wk b' cs' t'→Box (putCells wk b i l) b' cs' t'
 | [],i,wk,b,cs,t,hE,hle,hB,ht=>⟨hE,fun _ _ h=>h,hB,Nat.le_refl _,fun _ _ _ _ h=>h⟩
 | v :: l,i,wk,b,cs,t,hE,hle,hB,ht=>by
  obtain ⟨h1,h2,h3,h4,h5⟩:=putCells_law w l (i+1) (wk.setCell ⟨b,i,none⟩ v) b _ t (hE.setCell (p:=⟨b,i,none⟩) hle v) hle (hB.set i v) ht
  exact ⟨h1,(Keep.setCell (p:=⟨b,i,none⟩) hB ht v).trans h2,h3,Nat.le_trans (by simp [World.setCell]) h4,fun b' cs' t' hne h=>h5 b' cs' t' hne (h.other hne i v)⟩
def Stored (w wk W1:World) (b:Nat) (cs:Array Value) (t:TypeId):Prop :=
 Ext w W1∧Keep wk W1∧Box W1 b cs t∧wk.heap.size≤W1.heap.size∧∀ b' cs' t',b'≠b→Box wk b' cs' t'→Box W1 b' cs' t'
theorem sto2 {w wk:World} {b:Nat} {x y:Value} {t:TypeId} (hE:Ext w wk) (hle:w.heap.size≤b) (hB:Box wk b #[x,y] t) (ht:t≠240) (x' y':Value) :
  ∃ W1,W1=(wk.setCell ⟨b,0,none⟩ x').setCell ⟨b,1,none⟩ y'∧Stored w wk W1 b #[x',y'] t:=⟨_,rfl,putCells_law w [x',y'] 0 wk b _ t hE hle hB ht⟩
theorem sto3 {w wk:World} {b:Nat} {x y z:Value} {t:TypeId} (hE:Ext w wk) (hle:w.heap.size≤b) (hB:Box wk b #[x,y,z] t) (ht:t≠240) (x' y' z':Value) :
  ∃ W1,W1=((wk.setCell ⟨b,0,none⟩ x').setCell ⟨b,1,none⟩ y').setCell ⟨b,2,none⟩ z'∧Stored w wk W1 b #[x',y',z'] t:=⟨_,rfl,putCells_law w [x',y',z'] 0 wk b _ t hE hle hB ht⟩
theorem Box.c1 {w:World} {b:Nat} {x0:Value} {t:TypeId} (h:Box w b #[x0] t):w.cell? ⟨b,0,none⟩=some x0:=h.cell 0
theorem Box.c2 {w:World} {b:Nat} {x0 x1:Value} {t:TypeId} (h:Box w b #[x0,x1] t):w.cell? ⟨b,0,none⟩=some x0∧w.cell? ⟨b,1,none⟩=some x1:=⟨h.cell 0,h.cell 1⟩
theorem Box.c3 {w:World} {b:Nat} {x0 x1 x2:Value} {t:TypeId} (h:Box w b #[x0,x1,x2] t):w.cell? ⟨b,0,none⟩=some x0∧w.cell? ⟨b,1,none⟩=some x1∧w.cell? ⟨b,2,none⟩=some x2:=⟨h.cell 0,h.cell 1,h.cell 2⟩
theorem Box.c4 {w:World} {b:Nat} {x0 x1 x2 x3:Value} {t:TypeId} (h:Box w b #[x0,x1,x2,x3] t):w.cell? ⟨b,0,none⟩=some x0∧w.cell? ⟨b,1,none⟩=some x1∧w.cell? ⟨b,2,none⟩=some x2∧w.cell? ⟨b,3,none⟩=some x3:=⟨h.cell 0,h.cell 1,h.cell 2,h.cell 3⟩
theorem Box.c5 {w:World} {b:Nat} {x0 x1 x2 x3 x4:Value} {t:TypeId} (h:Box w b #[x0,x1,x2,x3,x4] t):w.cell? ⟨b,0,none⟩=some x0∧w.cell? ⟨b,1,none⟩=some x1∧w.cell? ⟨b,2,none⟩=some x2∧w.cell? ⟨b,3,none⟩=some x3∧w.cell? ⟨b,4,none⟩=some x4:=⟨h.cell 0,h.cell 1,h.cell 2,h.cell 3,h.cell 4⟩
theorem Box.fr {w:World} {b:Nat} {cs:Array Value} {t:TypeId} (h:Box w b cs t):∀ i,w.frozen? ⟨b,i,none⟩=false:=fun i=>h.free i
theorem Box.f1 {w:World} {b:Nat} {cs:Array Value} {t:TypeId} (h:Box w b cs t):w.frozen? ⟨b,0,none⟩=false:=h.free 0
theorem Box.f2 {w:World} {b:Nat} {cs:Array Value} {t:TypeId} (h:Box w b cs t):w.frozen? ⟨b,0,none⟩=false∧w.frozen? ⟨b,1,none⟩=false:=⟨h.free 0,h.free 1⟩
theorem Box.f3 {w:World} {b:Nat} {cs:Array Value} {t:TypeId} (h:Box w b cs t):w.frozen? ⟨b,0,none⟩=false∧w.frozen? ⟨b,1,none⟩=false∧w.frozen? ⟨b,2,none⟩=false:=⟨h.free 0,h.free 1,h.free 2⟩
theorem Box.f4 {w:World} {b:Nat} {cs:Array Value} {t:TypeId} (h:Box w b cs t):w.frozen? ⟨b,0,none⟩=false∧w.frozen? ⟨b,1,none⟩=false∧w.frozen? ⟨b,2,none⟩=false∧w.frozen? ⟨b,3,none⟩=false:=⟨h.free 0,h.free 1,h.free 2,h.free 3⟩
theorem Box.f5 {w:World} {b:Nat} {cs:Array Value} {t:TypeId} (h:Box w b cs t):w.frozen? ⟨b,0,none⟩=false∧w.frozen? ⟨b,1,none⟩=false∧w.frozen? ⟨b,2,none⟩=false∧w.frozen? ⟨b,3,none⟩=false∧w.frozen? ⟨b,4,none⟩=false:=⟨h.free 0,h.free 1,h.free 2,h.free 3,h.free 4⟩
theorem cell_other {w:World} {p:Addr} {b i:Nat} {v:Value} {x:Option Value} (hne:p.block≠b) (h:w.cell? p=x):(w.setCell ⟨b,i,none⟩ v).cell? p=x:=by
 unfold World.cell? at *
 rw [Below.heap_setCell _ _ _ _ (show p.block≠(⟨b,i,none⟩:Addr).block from hne)]
 exact h
theorem Num.sh {w:World} {v:Value} {q:Rat} (h:NumV w v q):∃ x0 x1 x2,v=.agg #[x0,x1,x2]:=by
 obtain ⟨ng,a,n,c,a',n',c',rfl⟩:=h.shape;exact ⟨_,_,_,rfl⟩
def NumBox (w:World) (g:Nat) (q:Rat):Prop:=∃ (ng:Bool) (a:Option Addr) (n c:Nat) (a':Option Addr) (n' c':Nat),Box w g #[.bool ng,.slice a n c,.slice a' n' c'] 49∧NumV w (.agg #[.bool ng,.slice a n c,.slice a' n' c']) q
theorem newNum {cur wl:World} {g:Nat} (hE:Ext cur wl) (hle:cur.heap.size≤g) (hB:Box wl g #[.bool false,.slice none 0 0,.slice none 0 0] 49) {ng:Bool} {a:Option Addr} {n c:Nat} {a':Option Addr} {n' c':Nat} {q:Rat}
  (hv:NumV wl (.agg #[.bool ng,.slice a n c,.slice a' n' c']) q) :
  Hid (Ext cur (((wl.setCell ⟨g,0,none⟩ (.bool ng)).setCell ⟨g,1,none⟩ (.slice a n c)).setCell ⟨g,2,none⟩ (.slice a' n' c')))∧cur.heap.size≤g ∧
   NumBox (((wl.setCell ⟨g,0,none⟩ (.bool ng)).setCell ⟨g,1,none⟩ (.slice a n c)).setCell ⟨g,2,none⟩ (.slice a' n' c')) g q:=by
 obtain ⟨W1,hW1,g1,q1,B1,_,_⟩:=sto3 hE hle hB (by decide) (.bool ng) (.slice a n c) (.slice a' n' c');rw [←hW1]
 exact ⟨hid g1,hle,ng,a,n,c,a',n',c',B1,hv.keep q1⟩
theorem newNum0 {cur wl:World} (hE:Ext cur wl) {ng:Bool} {a:Option Addr} {n c:Nat} {a':Option Addr} {n' c':Nat} {q:Rat}
  (hv:NumV wl (.agg #[.bool ng,.slice a n c,.slice a' n' c']) q) :
  Hid (Ext cur (wl.alloc (.cells #[.bool ng,.slice a n c,.slice a' n' c'] 49)))∧cur.heap.size≤wl.heap.size ∧
   NumBox (wl.alloc (.cells #[.bool ng,.slice a n c,.slice a' n' c'] 49)) wl.heap.size q :=
 ⟨hid (hE.trans (Ext.alloc _ _)),hE.size,ng,a,n,c,a',n',c',Box.new _ _ _,hv.ext (Ext.alloc _ _)⟩
theorem Ext.undrew {a w:World} (h:Ext a.drew w):Ext a w:=Ext.trans (Below.drew (Below.refl _ a)) h
theorem newFacts:∀ (wa w':World),Ext (wa.alloc (.cells #[.bool false,.slice none 0 0,.slice none 0 0] 49)) w'→w'.cell? ⟨wa.heap.size,0,none⟩=some (.bool false)∧w'.cell? ⟨wa.heap.size,1,none⟩=some (.slice none 0 0)∧w'.cell? ⟨wa.heap.size,2,none⟩=some (.slice none 0 0) ∧
  w'.frozen? ⟨wa.heap.size,0,none⟩=false∧w'.frozen? ⟨wa.heap.size,1,none⟩=false∧w'.frozen? ⟨wa.heap.size,2,none⟩=false:=fun wa _ h=>((Box.new wa #[.bool false,.slice none 0 0,.slice none 0 0] 49).ext h).three
end Go.Proofs.YtoaoebimjmjpeaaGreatDoor
