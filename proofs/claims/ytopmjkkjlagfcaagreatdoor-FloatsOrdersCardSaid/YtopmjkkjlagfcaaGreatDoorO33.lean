/- The reference's numbers: bottom returns the denominator; Sign. -/
import Derived.Test.YtopmjkkjlagfcaaGreatDoorO30
namespace Go.Proofs.YtopmjkkjlagfcaaGreatDoor
open Go.RowKit Vn
set_option maxRecDepth 100000
set_option maxHeartbeats 8000000
theorem rbottom_zero (x y:Value) (w:World):Calls Tryz.prog 128 #[.agg #[.int .i64 0,x,y]] w fun e w'=>∃ a k c,e=.returned (.slice a k c)∧RefV w' (.slice a k c) 1∧Ext w w':=by
 go_enter Tryz.func128,Tryz.ntmps128
 go_wp2_with (go_at_call 129;refine (rone_c _).mono ?_;rintro e w1 ⟨a1,n1,c1,rfl,h1,hb1⟩)
 go_ret
 exact ⟨a1,n1,c1,rfl,h1,(Below.alloc (Below.refl _ w) (Nat.le_refl _) _).trans (hb1.mono (by simp))⟩
theorem rbottom_some (s:Int) (hs:(s==0)=false) (x:Value) (a:Option Addr) (n c:Nat) (w:World):Calls Tryz.prog 128 #[.agg #[.int .i64 s,x,.slice a n c]] w fun e w'=>e=.returned (.slice a n c)∧Ext w w':=by
 go_enter Tryz.func128,Tryz.ntmps128
 go_wp2_with fail;go_ret
 exact ⟨rfl,Below.alloc (Below.refl _ w) (Nat.le_refl _) _⟩
theorem rbottom_c (v:Value) (q:Rat) (w:World) (h:RNumV w v q):Calls Tryz.prog 128 #[v] w fun e w'=>∃ a k c,e=.returned (.slice a k c)∧RefV w' (.slice a k c) q.den∧Ext w w':=by
 obtain ⟨a,n,c,a',n',c',rfl,h2,h3⟩:=h
 by_cases h0:q=0
 ·subst h0
  exact rbottom_zero _ _ w
 ·rw [if_neg h0] at h3;have hs:(q.num.sign==0)=false:=beq_eq_false_iff_ne.2 (fun e=>h0 (Rat.num_eq_zero.1 (Int.sign_eq_zero_iff_zero.1 e)));refine (rbottom_some q.num.sign hs _ a' n' c' w).mono ?_;rintro e w' ⟨rfl,hb⟩
  exact ⟨_,_,_,rfl,h3.ext hb,hb⟩
theorem sm_pow (k:Nat):Sm (k+1) (2^k):=Nat.pow_lt_pow_right (by decide) (by omega)
theorem rpower_step (k:Nat) (w:World) (h0:0<k) (hk:k≤10000000) (IH:Hid (∀ w,Calls Tryz.prog 175 #[.int .i64 ((k/2:Nat):Int)] w fun e w'=>∃ a k' c,e=.returned (.slice a k' c)∧Hid (RefV w' (.slice a k' c) (2^(k/2)))∧Ext w w')) :
  Calls Tryz.prog 175 #[.int .i64 (k:Nat)] w fun e w'=>∃ a k' c,e=.returned (.slice a k' c)∧Hid (RefV w' (.slice a k' c) (2^k))∧Ext w w':=by
 have hz:((k:Int)==0)=false:=by simp;omega
 have CP:Hid (∀ w v,RefV w v (2^(k/2))→Calls Tryz.prog 130 #[v,v] w fun e w'=>∃ a k' c,e=.returned (.slice a k' c)∧Hid (RefV w' (.slice a k' c) (2^(k/2)*2^(k/2)))∧Ext w w'):=hid fun w v h=>rmul_c v v _ _ (k/2+1) w h h (sm_pow _) (sm_pow _) (by omega);have CS:Hid (∀ w v,RefV w v (2^(k/2)*2^(k/2))→Calls Tryz.prog 131 #[v,v] w fun e w'=>∃ a k' c,e=.returned (.slice a k' c)∧Hid (RefV w' (.slice a k' c) (2^(k/2)*2^(k/2)+2^(k/2)*2^(k/2)))∧Ext w w'):=hid fun w v h=>by
  have hs:Sm (k/2+k/2+1) (2^(k/2)*2^(k/2)):=by rw [←Nat.pow_add];exact sm_pow _
  exact rsum_c v v _ _ _ w h h hs hs (by omega)
 have HE:Hid (2^(k/2)*2^(k/2)=2^(k/2+k/2)):=hid (Nat.pow_add _ _ _).symm;obtain ⟨H,hH⟩:∃ H,H=k/2:=⟨_,rfl⟩;rw [←hH] at IH CP CS HE;have hq:((k:Int)/2)=((H:Nat):Int):=by omega
 have HH:=hid hH;clear hH
 rcases (show k%2=1∨k%2=0 by omega) with hp | hp
 ·have hm:((k:Int)%2==1)=true:=by simp;omega
  have HP:=hid hp;clear hp
  go_enter Tryz.func175,Tryz.ntmps175
  go_wp2_with (first | (go_at_call 175;refine (IH.o _).mono ?_;rintro e w1 ⟨a1,n1,c1,rfl,h1,hb1⟩;have HB1:=hid hb1;clear hb1) | (go_at_call 130;refine (CP.o _ _ h1.o).mono ?_;rintro e w2 ⟨a2,n2,c2,rfl,h2,hb2⟩;have HB2:=hid hb2;clear hb2) | (go_at_call 131;refine (CS.o _ _ h2.o).mono ?_;rintro e w3 ⟨a3,n3,c3,rfl,h3,hb3⟩;have HB3:=hid hb3;clear hb3))
  go_ret;refine ⟨_,_,_,rfl,hid ?_,HB1.o.trans (HB2.o.trans HB3.o)⟩;have e:2^k=2^H*2^H+2^H*2^H:=by
   rw [HE.o,←Nat.two_mul,←Nat.pow_succ'];congr 1;have:=HP.o;have:=HH.o;omega
  rw [e];exact h3.o
 ·have hm:((k:Int)%2==1)=false:=by simp;omega
  have HP:=hid hp;clear hp
  go_enter Tryz.func175,Tryz.ntmps175
  go_wp2_with (first | (go_at_call 175;refine (IH.o _).mono ?_;rintro e w1 ⟨a1,n1,c1,rfl,h1,hb1⟩;have HB1:=hid hb1;clear hb1) | (go_at_call 130;refine (CP.o _ _ h1.o).mono ?_;rintro e w2 ⟨a2,n2,c2,rfl,h2,hb2⟩;have HB2:=hid hb2;clear hb2))
  go_ret;refine ⟨_,_,_,rfl,hid ?_,HB1.o.trans HB2.o⟩;have e:2^k=2^H*2^H:=by
   rw [HE.o];congr 1;have:=HP.o;have:=HH.o;omega
  rw [e];exact h2.o
theorem rpower_zero (w:World):Calls Tryz.prog 175 #[.int .i64 0] w fun e w'=>∃ a k' c,e=.returned (.slice a k' c)∧Hid (RefV w' (.slice a k' c) 1)∧Ext w w':=by
 go_enter Tryz.func175,Tryz.ntmps175
 go_wp2_with (go_at_call 129;refine (rone_c _).mono ?_;rintro e w1 ⟨a1,n1,c1,rfl,h1,hb1⟩)
 go_ret
 exact ⟨a1,n1,c1,rfl,hid h1,hb1⟩
theorem rpower_c (k:Nat):∀ (w:World),k≤10000000→Calls Tryz.prog 175 #[.int .i64 (k:Nat)] w fun e w'=>∃ a k' c,e=.returned (.slice a k' c)∧Hid (RefV w' (.slice a k' c) (2^k))∧Ext w w':=by
 induction k using Nat.strongRecOn with
 | ind k ih =>
  intro w hk
  rcases Nat.eq_zero_or_pos k with h0 | h0
  ·subst h0;exact rpower_zero w
  ·exact rpower_step k w h0 hk (hid fun w=>ih (k/2) (Nat.div_lt_self h0 (by decide)) w (by omega))
theorem bl_iff {N m:Nat}:N<2^m↔bl N≤m:=by
 constructor
 ·exact bl_le_of_lt
 ·intro h;exact Nat.lt_of_lt_of_le (bl_lt N) (Nat.pow_le_pow_right (by decide) h)
theorem bl_low {l:List Nat} (h:Norm 1000000000 l):29*(l.length-1)≤bl (dv 1000000000 l):=by
 rcases Nat.eq_zero_or_pos l.length with h0 | h0
 ·omega
 ·have h1:=Trim.pos (B:=1000000000) (by decide) h.trim (by intro e;rw [e] at h0;simp at h0);have h2:2^(29*(l.length-1))≤1000000000^(l.length-1):=by rw [Nat.pow_mul];exact Nat.pow_le_pow_left (by decide) _
  rcases Nat.lt_or_ge (bl (dv 1000000000 l)) (29*(l.length-1)) with h3 | h3
  ·have:=bl_iff.2 (Nat.le_of_lt h3);omega
  ·exact h3
theorem bl_high {l:List Nat} (h:Norm 1000000000 l):bl (dv 1000000000 l)≤30*l.length:=by
 refine bl_iff.1 (Nat.lt_of_lt_of_le (dv_lt (by decide) h.dig) ?_);rw [Nat.pow_mul];exact Nat.pow_le_pow_left (by decide) _
theorem rlength_core (a:Option Addr) (n c N K:Nat) (w:World) (L:Nat) (hn:n≤300000) (HV:Hid (RefV w (.slice a n c) N)) (SN:Hid (Sm K N)) (HK:Hid (K≤10000000)) (HL:Hid (L=bl N)) (hlo:29*(n-1)≤L) (hhi:L≤30*n) :
  Calls Tryz.prog 174 #[.slice a n c] w fun e w'=>e=.returned (.int .i64 (L:Nat))∧Ext w w':=by
 obtain ⟨lo0,hlo0⟩:∃ x,x=29*(n-1):=⟨_,rfl⟩;have hmx:(max (0:Int) (29*((n:Int)-1)))=((lo0:Nat):Int):=by omega
 have CC:Hid (∀ w m v,RefV w v (2^m)→m≤10000000→RefV w (.slice a n c) N→Calls Tryz.prog 127 #[.slice a n c,v] w fun e w'=>e=.returned (.int .i64 (cmpN N (2^m)))∧Ext w w'):=hid fun w m v h1 hm h2=>rcmp_c _ v N (2^m) (K+m+1) w h2 h1 (SN.o.mono (by omega)) ((sm_pow m).mono (by omega)) (by have:=HK.o;omega);have HMX:=hid hmx;clear hmx
 go_enter Tryz.func174,Tryz.ntmps174
 go_upto_region 1 with (fail)
 go_cut [3,4] (fun x y wx=>x=.int .i64 ((lo0:Nat):Int)∧y=.int .i64 ((30*n:Nat):Int)∧Hid (Ext w wx))
 case first =>
  go_wp2_with fail
  all_goals
   go_meet
   exact ⟨vint (by have:=HMX.o;omega),vint (by omega),hid (Below.refl _ _)⟩
 case rest =>
  obtain ⟨rfl,rfl,HE0⟩:=hcut;clear HMX;go_wp2_with fail
  go_loopg [3,4] (30*n-lo0) (fun z x y wx=>∃ lo hi:Nat,x=.int .i64 (lo:Nat)∧y=.int .i64 (hi:Nat)∧lo≤L∧L≤hi∧hi≤30*n∧z=hi-lo∧Hid (Ext w wx))
  case atStart=>exact ⟨lo0,30*n,rfl,rfl,by omega,hhi,Nat.le_refl _,rfl,HE0⟩
  case round =>
   obtain ⟨lo,hi,rfl,rfl,l1,l2,l3,hz,HE⟩:=hrel
   rcases Nat.lt_or_ge lo hi with hlh | hlh
   ·have hd:decide ((lo:Int)<(hi:Int))=true:=decide_eq_true (by omega);obtain ⟨m,hm⟩:∃ m,m=(lo+hi)/2:=⟨_,rfl⟩;have hmi:((lo:Int)+(hi:Int))/2=((m:Nat):Int):=by omega
    have hm1:lo≤m:=by omega
    have hm2:m<hi:=by omega
    have hm3:m≤10000000:=by omega
    obtain ⟨cc,hcc⟩:∃ x,x=cmpN N (2^m):=⟨_,rfl⟩;have CC3:Hid (∀ w v,RefV w v (2^m)→RefV w (.slice a n c) N→Calls Tryz.prog 127 #[.slice a n c,v] w fun e w'=>e=.returned (.int .i64 cc)∧Ext w w'):=hid fun w v h1 h2=>by rw [hcc];exact CC.o w m v h1 hm3 h2
    have hcl:cc<0↔L≤m:=by
     rw [HL.o,←bl_iff,hcc];unfold cmpN
     split
     ·omega
     ·split<;>omega
    clear hcc hm
    rcases Nat.lt_or_ge m L with hml | hml
    ·have hd2:decide (cc<0)=false:=decide_eq_false (fun h=>by have:=hcl.1 h;omega);clear hcl
     go_wp2_with (first | (go_at_call 175;refine (rpower_c m _ (by omega)).mono ?_;rintro e w1 ⟨a1,n1,c1,rfl,h1,hb1⟩;have HB1:=hid hb1;clear hb1) | (go_at_call 127;refine (CC3.o _ _ h1.o (HV.o.ext (HE.o.trans HB1.o))).mono ?_;rintro e w2 ⟨rfl,hb2⟩;have HB2:=hid hb2;clear hb2))
     go_roundg (hi-(m+1))
     case measure=>omega
     case rel=>exact ⟨m+1,hi,by go_num,rfl,by omega,l2,l3,rfl,hid (HE.o.trans (HB1.o.trans HB2.o))⟩
    ·have hd2:decide (cc<0)=true:=decide_eq_true (hcl.2 hml);clear hcl
     go_wp2_with (first | (go_at_call 175;refine (rpower_c m _ (by omega)).mono ?_;rintro e w1 ⟨a1,n1,c1,rfl,h1,hb1⟩;have HB1:=hid hb1;clear hb1) | (go_at_call 127;refine (CC3.o _ _ h1.o (HV.o.ext (HE.o.trans HB1.o))).mono ?_;rintro e w2 ⟨rfl,hb2⟩;have HB2:=hid hb2;clear hb2))
     go_roundg (m-lo)
     case measure=>omega
     case rel=>exact ⟨lo,m,rfl,rfl,l1,hml,by omega,rfl,hid (HE.o.trans (HB1.o.trans HB2.o))⟩
   ·have hd:decide ((lo:Int)<(hi:Int))=false:=decide_eq_false (by omega);obtain rfl:lo=L:=by omega
    go_wp2_with fail;go_ret
    exact ⟨rfl,HE.o⟩
theorem rlength_c (x:Value) (N K:Nat) (w:World) (hx:RefV w x N) (sx:Sm K N) (hK:K≤300000) :
  Calls Tryz.prog 174 #[x] w fun e w'=>e=.returned (.int .i64 (bl N:Nat))∧Ext w w':=by
 have hx0:=hx;obtain ⟨a,b,off,n,cap,l,rfl,h1,h2,h3,h4,h5,h6,h7,h8⟩:=hx.open;have e1:=sx.rlen h5.o h6.o;have e2:=bl_low h5.o;have e3:=bl_high h5.o;rw [h6.o,h3.o] at e2 e3;rw [h3.o] at e1
 exact rlength_core a n cap N K w (bl N) (by omega) (hid hx0) (hid sx) (hid (by omega)) (hid rfl) e2 e3
end Go.Proofs.YtopmjkkjlagfcaaGreatDoor
