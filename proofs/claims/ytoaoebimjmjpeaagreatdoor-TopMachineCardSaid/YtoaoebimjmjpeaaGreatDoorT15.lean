/- exact: Int64 of a number that is not below 0. -/
import Derived.Test.YtoaoebimjmjpeaaGreatDoorT08
namespace Go.Proofs.YtoaoebimjmjpeaaGreatDoor
open Go.RowKit Vn
set_option maxRecDepth 100000
set_option maxHeartbeats 8000000
theorem natv_small {w:World} {v:Value} {n k:Nat} (h:NatV w v n) (hn:n<4294967296^k) :
  ∃ (a:Option Addr) (b off cap:Nat) (l:List Nat),v=.slice a l.length cap∧l.length≤cap∧cap≤maxLen∧(0<l.length→a=some ⟨b,off,none⟩)∧Norm 4294967296 l∧dv 4294967296 l=n∧l.length≤k ∧
  SlAt 240 .u32 w v l:=by
 obtain ⟨l,h1,h2,h3⟩:=h;obtain ⟨a,b,off,cap,rfl,k1,k2,k3,_⟩:=h3.open;refine ⟨a,b,off,cap,l,rfl,k1,k2,k3,h1,h2,?_,h3⟩
 exact h1.len_le (by decide) (by rw [h2];exact hn)
theorem SlAt.at {T:TypeId} {k:IntKind} {w:World} {a:Option Addr} {b off n cap:Nat} {l:List Nat} (h:SlAt T k w (.slice a n cap) l) (ha:0<n→a=some ⟨b,off,none⟩) (i:Nat) (hi:i<l.length) :
  w.cell? ⟨b,off+i,none⟩=some (.int k (l.getD i 0:Nat)):=by
 obtain ⟨a',b',off',cap',h1,h2,h3,h4,h5⟩:=h.open;obtain ⟨rfl,rfl,rfl⟩:a=a'∧n=l.length∧cap=cap':=by simpa using h1
 have e1:=ha (by omega);have e2:=h4 (by omega);rw [e1] at e2;obtain ⟨rfl,rfl⟩:b=b'∧off=off':=by simpa using e2
 exact h5 i hi
theorem Int64_c (x:Value) (q:Rat) (w:World) (hx:NumV w x q) (h1:q.den=1) (h0:0≤q.num) (h2:q.num<9223372036854775808) :
  Calls Tryz.prog 359 #[x] w fun e w'=>e=.returned (.tuple #[.int .i64 q.num,.int .i64 0])∧Ext w w':=by
 have hneg:=hx;obtain ⟨ng,a,n,c,a',n',c',rfl⟩:=hx.shape;obtain rfl:ng=false:=by rw [hneg.neg];exact decide_eq_false (by omega)
 clear hneg;obtain ⟨m,hm⟩:∃ m:Nat,m=q.num.natAbs:=⟨_,rfl⟩;have Hm:Hid ((m:Int)=q.num):=hid (by omega);have hlt:m<9223372036854775808:=by omega
 have hp:=hx.p;rw [←hm] at hp;have H1:=hid h1;clear hm h1 h0 h2;obtain ⟨W0,hW0,g0,hz0,B_X⟩:=pro1 w #[.bool false,.slice a n c,.slice a' n' c'] 49;have HE:=hid g0;have HB_X:=hid B_X;clear g0 B_X 
 go_enter Tryz.func359,Tryz.ntmps359
 go_wp2_with fail;rw [←hW0];clear hW0;replace hx:=hx.ext HE.o;replace hp:=hp.ext HE.o;refine (isInt_c _ q _ hx).mono ?_;rintro e w1 ⟨rfl,g1⟩;have hz_w1:=g1.size;replace HE:=hid (HE.o.trans g1);replace HB_X:=hid (HB_X.o.ext g1);replace hx:=hx.ext g1;replace hp:=hp.ext g1;have hd:decide (q.den=1)=true:=decide_eq_true H1.o;obtain ⟨J1,J2,J3⟩:=HB_X.o.c3;go_wp2_with fail;clear J1 J2 J3;have hgt:decide (0<cmpN m 9223372036854775807)=false:=decide_eq_false (by unfold cmpN;split<;>(try split)<;>omega);have HS:Hid (∀ w',Ext w1 w'→w'.cell? ⟨w.heap.size,0,none⟩=some (.bool false)∧w'.cell? ⟨w.heap.size,1,none⟩=some (.slice a n c)∧w'.cell? ⟨w.heap.size,2,none⟩=some (.slice a' n' c')):=hid fun w' h=>⟨(HB_X.o.ext h).cell 0,(HB_X.o.ext h).cell 1,(HB_X.o.ext h).cell 2⟩;have hb0:Ext w1 w1.drew:=Below.drew (Below.refl _ w1)
 go_region_held3 (fun w'=>w'.cell? ⟨w.heap.size,0,none⟩=some (.bool false)∧w'.cell? ⟨w.heap.size,1,none⟩=some (.slice a n c)∧w'.cell? ⟨w.heap.size,2,none⟩=some (.slice a' n' c'))
   (first | exact HS.o _ (by assumption))
  (first
   | (go_at_call 117;(with_reducible refine (of_c 9223372036854775807 _ (by decide) (by decide)).mono ?_);rintro e x1 ⟨a1,n1,c1,rfl,k1,g1⟩;have hb1:Ext w1 x1:=hb0.trans g1)
   | (go_at_call 54;(with_reducible refine (cmp_c _ _ m 9223372036854775807 64 _ (hp.ext hb1) k1 (show _<_ by omega) (show _<_ by decide) (by decide)).mono ?_);rintro e x2 ⟨rfl,g2⟩;have hb2:Ext w1 x2:=hb1.trans g2))
 clear HS;have hz_x2:=hb2.size;replace HE:=hid (HE.o.trans hb2);replace HB_X:=hid (HB_X.o.ext hb2);replace hx:=hx.ext hb2;replace hp:=hp.ext hb2;obtain ⟨a1',b1,off1,c1',l,e1,e2,e3,e4,e5,e6,e7,e8⟩:=natv_small hp (k:=2) (by omega);obtain ⟨rfl,rfl,rfl⟩:a=a1'∧n=l.length∧c=c1':=by simpa using e1
 have hd1:=e5.dig;clear e1 k1;have E6:=hid e6;have E5:=hid hd1;have E4:=hid e4;have E8:=hid e8;clear e4 e5 e6 e8 hd1 hd;obtain ⟨J4,J5,J6⟩:=HB_X.o.c3;go_wp2_with fail
 go_loop [5,24] (fun u v=>∃ k:Nat,v=.int .i64 k∧u=.int .u64 ((dv 4294967296 (l.take k):Nat):Int)∧k≤l.length) (fun _ v=>l.length-(intOf v).toNat)
 case atStart=>exact ⟨0,rfl,rfl,Nat.zero_le _⟩
 case round =>
  obtain ⟨k,rfl,rfl,hk⟩:=hrel
  by_cases hl:k<l.length
  ·have E:Hid (dv 4294967296 (l.take (k+1))=dv 4294967296 (l.take k)+l.getD k 0*4294967296^k):=hid (dv_take_succ 4294967296 l k hl);have hc:=E8.o.at E4.o k hl;obtain rfl:=E4.o (by omega);have hdl:=E5.o.get (by decide) k;have hdv:=dv_lt (B:=4294967296) (by decide) (E5.o.take k);generalize l.getD k 0=d at *
   generalize dv 4294967296 (l.take k)=D at *
   have hlk:(l.take k).length=k:=by simp;omega
   rw [hlk] at hdv;clear E4 hlk
   rcases (show k=0∨k=1 by omega) with rfl | rfl
   ·rw [Nat.add_zero] at hc;go_wp2_with fail;refine ⟨⟨1,rfl,?_,by omega⟩,by simp [intOf];omega⟩;have e:=u64_or_nat D d (by omega) (by omega);rw [e,show 1=0+1 from rfl,E.o,show D=0 by simpa using hdv]
    simp
   ·go_wp2_with fail;refine ⟨⟨2,rfl,?_,by omega⟩,by simp [intOf];omega⟩;have e:=u64_or_nat D (d*4294967296) (by omega) (by omega);rw [show ((d:Int)*4294967296)=((d*4294967296:Nat):Int) by omega,e,show 2=1+1 from rfl,E.o,Nat.mul_comm d,show (4294967296:Nat)=2^32 from rfl,or_add (by omega)]
  ·have hk':k=l.length:=by omega
   subst hk';have E6':Hid (dv 4294967296 (l.take l.length)=m):=hid (by rw [List.take_length];exact E6.o);generalize dv 4294967296 (l.take l.length)=D at *
   clear E6;have hw:Hid (wrap64 (D:Int)=q.num):=hid (by rw [←Hm.o,←E6'.out];exact w64r _ (by have:=E6'.out;omega));go_wp2_with fail;refine bodyPost_ret (v:=.tuple #[.int .i64 (wrap64 (D:Int)),.int .i64 0]) (by simp [results,Tryz.results359,go_sem]) rfl ⟨?_,HE.o⟩;rw [hw.o]
theorem Int64n_c (x:Value) (n:Nat) (w:World) (hx:NumV w x (n:Rat)) (h2:n<9223372036854775808) :
  Calls Tryz.prog 359 #[x] w fun e w'=>e=.returned (.tuple #[.int .i64 n,.int .i64 0])∧Ext w w':=by
 have h:=Int64_c x (n:Rat) w hx (by simp) (by simp) (by simp;omega)
 simpa using h
theorem bl_half {M:Nat} (_h:0<M):M<(2^((bl M+1)/2)+1)*(2^((bl M+1)/2)+1):=by
 have h1:=bl_lt M;have h2:2^bl M≤2^((bl M+1)/2)*2^((bl M+1)/2):=by
  rw [←Nat.pow_add];exact Nat.pow_le_pow_right (by decide) (by omega)
 generalize 2^((bl M+1)/2)=z at *
 have:(z+1)*(z+1)=z*z+2*z+1:=by grind
 omega
theorem root_c (x:Value) (M K:Nat) (w:World) (hx:NatV w x M) (sx:Sm K M) (hK:K≤40000000) (hM:0<M) :
  Calls Tryz.prog 329 #[x] w fun e w'=>∃ a k c s,e=.returned (.slice a k c)∧NatV w' (.slice a k c) s∧IsRoot M s∧Ext w w':=by
 obtain ⟨ax,nx,cx,rfl⟩:=hx.shape;have Hx:=hid hx;have Sx:=hid sx;have hbl:bl M≤K:=bl_le_of_lt sx;clear hx sx
 go_enter Tryz.func329,Tryz.ntmps329
 go_wp2_with fail;refine (of_c _ _ (by omega) (by omega)).mono ?_;rintro e w1 ⟨a1,n1,c1,rfl,h1,hb1⟩;have H1:=hid h1;have Hb1:=hid hb1;clear h1 hb1;go_wp2_with fail;refine (bits_c _ M K _ (Hx.o.ext Hb1.o) Sx.o (by omega)).mono ?_;rintro e w2 ⟨rfl,hb2⟩;have Hb2:=hid hb2;obtain ⟨z,hz⟩:∃ z,z=bl M:=⟨_,rfl⟩;rw [←hz] at hbl ⊢;have Hz:=hid hz;clear hz hb2;go_wp2_with fail;refine (shl_c _ 1 1 _ _ (H1.o.ext Hb2.o) (by show 1<2^1;decide) (by omega) (by omega) (by omega)).mono ?_;rintro e w3 ⟨a3,n3,c3,rfl,h3,hb3⟩;have e1:(((z:Int)+1)/2).toNat=(z+1)/2:=by omega
 rw [e1,Nat.one_mul] at h3;have H3:=hid h3;have Hb3:=hid hb3;clear h3 hb3 e1;have HE:=hid (Hb1.o.trans (Hb2.o.trans Hb3.o));go_wp2_with fail
 go_loopg [3] (2^((z+1)/2)) (fun k p wr=>∃ a n c,p=.slice a n c∧Hid (NatV wr p k)∧Hid (Sm (K+1) k)∧Hid (M<(k+1)*(k+1))∧Hid (Ext w wr))
 case atStart =>
  refine ⟨a3,n3,c3,rfl,H3,hid ?_,hid ?_,HE⟩
  ·exact Nat.pow_lt_pow_right (by decide) (by omega)
  ·rw [Hz.o];exact bl_half hM
 case round =>
  obtain ⟨a4,n4,c4,rfl,H4,S4,HM4,HE4⟩:=hrel;have hk0:0<gk:=by
   rcases Nat.eq_zero_or_pos gk with h | h
   ·have:=HM4.o;rw [h] at this;simp at this;omega
   ·exact h
  go_wp2_with fail;refine (div_c _ _ M gk (K+1) _ (Hx.o.ext HE4.o) H4.o (Sx.o.mono (by omega)) S4.o (by omega) hk0).mono ?_;rintro e w5 ⟨a5,n5,c5,a6,n6,c6,rfl,h5,h6,hb5⟩;have H5:=hid h5;have Hb5:=hid hb5;clear h5 h6 hb5;go_wp2_with fail;refine (add_c _ _ gk (M/gk) (K+1) _ (H4.o.ext Hb5.o) H5.o S4.o ((Sx.o.mono (by omega)).of_le (Nat.div_le_self _ _)) (by omega)).mono ?_;rintro e w7 ⟨a7,n7,c7,rfl,h7,hb7⟩;have H7:=hid h7;have Hb7:=hid hb7;clear h7 hb7;have S7:Hid (Sm (K+2) (gk+M/gk)):=by
   have a1:=S4.o;have a2:M/gk<2^(K+1):=(Sx.o.mono (by omega)).of_le (Nat.div_le_self _ _);refine hid ?_
   show _<2^(K+2)
   rw [Nat.pow_succ];unfold Sm at a1
   omega
  go_wp2_with fail;refine (shr_c _ _ (K+2) _ _ H7.o S7.o (by omega) (by omega) (by omega)).mono ?_;rintro e w8 ⟨a8,n8,c8,rfl,h8,hb8⟩;have H8:Hid (NatV w8 (.slice a8 n8 c8) ((gk+M/gk)/2)):=hid (by simpa using h8);have Hb8:=hid hb8;clear h8 hb8;have S8:Hid (Sm (K+1) ((gk+M/gk)/2)):=by
   have:=S7.o
   refine hid ?_;unfold Sm at *
   rw [Nat.pow_succ] at this
   omega
  have HE8:=hid (HE4.o.trans (Hb5.o.trans (Hb7.o.trans Hb8.o)));have H48:=hid (H4.o.ext (Hb5.o.trans (Hb7.o.trans Hb8.o)))
  rcases Nat.lt_or_ge ((gk+M/gk)/2) gk with hlt | hge
  ·have hd:decide ((0:Int)≤cmpN ((gk+M/gk)/2) gk)=false:=by rw [cmpN_lt hlt];rfl
   have Hlt:=hid hlt;clear hlt;go_wp2_with fail;refine (cmp_c _ _ _ _ (K+1) _ H8.o H48.o S8.o S4.o (by omega)).mono ?_;rintro e w9 ⟨rfl,hb9⟩;have Hb9:=hid hb9;clear hb9;go_wp2_with fail
   go_roundg ((gk+M/gk)/2)
   case measure=>exact Hlt.o
   case rel=>exact ⟨a8,n8,c8,rfl,hid (H8.o.ext Hb9.o),S8,hid (heron_ge hk0 rfl),hid (HE8.o.trans Hb9.o)⟩
  ·have hd:decide ((0:Int)≤cmpN ((gk+M/gk)/2) gk)=true:=by
    rcases Nat.eq_or_lt_of_le hge with h | h
    ·rw [cmpN_eq h.symm];rfl
    ·rw [cmpN_gt h];rfl
   have Hge:=hid hge;clear hge;go_wp2_with fail;refine (cmp_c _ _ _ _ (K+1) _ H8.o H48.o S8.o S4.o (by omega)).mono ?_;rintro e w9 ⟨rfl,hb9⟩;have Hb9:=hid hb9;clear hb9;go_wp2_with fail;go_ret
   exact ⟨a4,n4,c4,gk,rfl,H48.o.ext Hb9.o,⟨heron_done rfl Hge.o,HM4.o⟩,HE8.o.trans Hb9.o⟩
theorem mul_p2_lt (x y:Rat) (k:Int):x*(2:Rat)^(-k)<y↔x<y*(2:Rat)^k:=by
 rw [←Rat.mul_lt_mul_right (p2_pos k),Rat.mul_assoc,p2_cancel,Rat.mul_one]
theorem le_mul_p2 (x y:Rat) (k:Int):y≤x*(2:Rat)^(-k)↔y*(2:Rat)^k≤x:=by
 rw [←Rat.not_lt,mul_p2_lt,Rat.not_lt]
theorem nat_floor_half (n k:Nat):((((n:Nat):Rat)*(2:Rat)^(-(k:Int))).floor)=((n/2^k:Nat):Int):=by
 have hM:0<2^k:=Nat.pow_pos (by decide);have h1:2^k*(n/2^k)≤n:=Nat.mul_div_le _ _;have h2:n<2^k*(n/2^k+1):=by have:=Nat.div_add_mod n (2^k);have:=Nat.mod_lt n hM;rw [Nat.mul_add];omega
 have a1:((n/2^k:Nat):Int)≤(((n:Nat):Rat)*(2:Rat)^(-(k:Int))).floor:=by
  rw [Rat.le_floor_iff,le_mul_p2,p2_nat]
  show ((n/2^k:Nat):Rat)*((2^k:Nat):Rat)≤(n:Rat)
  rw [←Rat.natCast_mul,Rat.natCast_le_natCast,Nat.mul_comm];exact h1
 have a2:(((n:Nat):Rat)*(2:Rat)^(-(k:Int))).floor<((n/2^k+1:Nat):Int):=by
  rw [Rat.floor_lt_iff,mul_p2_lt,p2_nat]
  show (n:Rat)<((n/2^k+1:Nat):Rat)*((2^k:Nat):Rat)
  rw [←Rat.natCast_mul,Rat.natCast_lt_natCast,Nat.mul_comm];exact h2
 omega
theorem pk_next (N k:Nat):N/2^(32*(k+1))=N/2^(32*k)/4294967296:=by
 rw [Nat.div_div_eq_div_mul,show 32*(k+1)=32*k+32 by omega,Nat.pow_add]
theorem pk_word (N k:Nat) (hk:k<4):(N%2^(32*k)*2^(128-32*k))/2^32 ||| (N/2^(32*k)%4294967296)*2^96=N%2^(32*(k+1))*2^(128-32*(k+1)):=by
 have e1:2^(128-32*k)=2^(96-32*k)*2^32:=by rw [←Nat.pow_add];congr 1;omega
 have e2:(2:Nat)^96=2^(32*k)*2^(96-32*k):=by rw [←Nat.pow_add];congr 1;omega
 have e3:128-32*(k+1)=96-32*k:=by omega
 have e4:2^(32*(k+1))=2^(32*k)*4294967296:=by rw [show 32*(k+1)=32*k+32 by omega,Nat.pow_add]
 have hlt:N%2^(32*k)*2^(96-32*k)<2^96:=by
  rw [e2];exact Nat.mul_lt_mul_of_pos_right (Nat.mod_lt _ (Nat.pow_pos (by decide))) (Nat.pow_pos (by decide))
 rw [e1,←Nat.mul_assoc,Nat.mul_div_cancel _ (by decide),Nat.mul_comm _ (2^96),or_add hlt,e3,e4,Nat.mod_mul,e2]
 grind
theorem pk_lt (N k:Nat) (hk:k≤4):N%2^(32*k)*2^(128-32*k)<2^128:=by
 have e:(2:Nat)^128=2^(32*k)*2^(128-32*k):=by rw [←Nat.pow_add];congr 1;omega
 rw [e];exact Nat.mul_lt_mul_of_pos_right (Nat.mod_lt _ (Nat.pow_pos (by decide))) (Nat.pow_pos (by decide))
theorem SmQ.nat {K n:Nat} (hK:0<K) (h:n<2^K):SmQ K ((n:Nat):Rat):=SmQ.int (n:=(n:Int)) hK (by omega)
theorem SmQ.mul_p2 {K:Nat} {q:Rat} (k:Int) (L:Nat) (h:SmQ K q) (hk:k.natAbs<L):SmQ (K+L) (q*(2:Rat)^k):=by
 have hq:=mkq_self q;have hn:(2:Nat)^k.natAbs≤2^L:=Nat.pow_le_pow_right (by decide) (by omega);have b1:q.num.natAbs*2^k.natAbs<2^(K+L):=by
  rw [Nat.pow_add];exact Nat.mul_lt_mul_of_lt_of_le h.1 hn (Nat.pow_pos (by decide))
 have b2:q.den*2^k.natAbs<2^(K+L):=by
  rw [Nat.pow_add];exact Nat.mul_lt_mul_of_lt_of_le h.2 hn (Nat.pow_pos (by decide))
 have c1:q.num.natAbs<2^(K+L):=Nat.lt_of_lt_of_le h.1 (Nat.pow_le_pow_right (by decide) (by omega));have c2:q.den<2^(K+L):=Nat.lt_of_lt_of_le h.2 (Nat.pow_le_pow_right (by decide) (by omega));have hd:q.den≠0:=q.den_nz
 rcases Int.le_total 0 k with hk0 | hk0
 ·have e:q*(2:Rat)^k=mkq (decide (q.num<0)) (q.num.natAbs*2^k.natAbs) q.den:=by
   rw [shift_up,hq];congr 2;omega
  rw [e];unfold SmQ Sm;rw [mkq_natAbs _ _ _ hd,mkq_den _ _ _ hd]
  exact ⟨Nat.lt_of_le_of_lt (Nat.div_le_self _ _) b1,Nat.lt_of_le_of_lt (Nat.div_le_self _ _) c2⟩
 ·have e:q*(2:Rat)^k=mkq (decide (q.num<0)) q.num.natAbs (q.den*2^k.natAbs):=by
   rw [shift_down _ _ _ _ hd,hq];congr 2;omega
  have hd2:q.den*2^k.natAbs≠0:=Nat.mul_ne_zero hd (Nat.ne_of_gt (Nat.pow_pos (by decide)));rw [e];unfold SmQ Sm;rw [mkq_natAbs _ _ _ hd2,mkq_den _ _ _ hd2]
  exact ⟨Nat.lt_of_le_of_lt (Nat.div_le_self _ _) c1,Nat.lt_of_le_of_lt (Nat.div_le_self _ _) b2⟩
structure PackRel (N k:Nat) (w wr:World) (ng:Bool) (a:Option Addr) (n c:Nat) (a':Option Addr) (n' c' h l:Nat):Prop where
 hk:k≤4
 ext:Hid (Ext w wr)
 size:w.heap.size+3≤wr.heap.size
 x:Hid (Box wr w.heap.size #[.bool ng,.slice a n c,.slice a' n' c'] 49)
 z:Hid (Box wr (w.heap.size+1) #[.int .u64 0,.int .u64 0] 54)
 v:Hid (Box wr (w.heap.size+1+1) #[.int .u64 h,.int .u64 l] 54)
 num:NumV wr (.agg #[.bool ng,.slice a n c,.slice a' n' c']) ((N/2^(32*k):Nat):Rat)
 word:Hid (Word (N%2^(32*k)*2^(128-32*k))=.agg #[.int .u64 h,.int .u64 l])
theorem packed_c (x:Value) (N:Nat) (w:World) (hx:NumV w x (N:Rat)) (hN:W128 N) :
  Calls Tryz.prog 327 #[x] w fun e w'=>e=.returned (Word N)∧Ext w w':=by
 obtain ⟨ng,a,n,c,a',n',c',rfl⟩:=hx.shape;have HN:=hid hN;clear hN;obtain ⟨W0,hW0,g0,hz0,B_X,B_Z,B_V⟩:=pro3s w #[.bool ng,.slice a n c,.slice a' n' c'] #[.int .u64 0,.int .u64 0] #[.int .u64 0,.int .u64 0] 49 54 54;have HE:=hid g0;have HB_X:=hid B_X;have HB_Z:=hid B_Z;have HB_V:=hid B_V;clear g0 B_X B_Z B_V 
 go_enter Tryz.func327,Tryz.ntmps327
 go_wp2_with fail;rw [←hW0];clear hW0;replace hx:=hx.ext HE.o
 go_loopw [7] (fun v wr=>∃ (k:Nat) (ng:Bool) (a:Option Addr) (n c:Nat) (a':Option Addr) (n' c' h l:Nat),v=.int .i64 k∧PackRel N k w wr ng a n c a' n' c' h l) (fun v _=>4-(intOf v).toNat)
 case atStart=>exact ⟨0,ng,a,n,c,a',n',c',0,0,rfl,by omega,HE,hz0,HB_X,HB_Z,HB_V,by simpa using hx,hid (by simp [Word,Nat.mod_one])⟩
 case round =>
  obtain ⟨k,ng,a,n,c,a',n',c',h,l,rfl,hk,HE,hz,HB_X,HB_Z,HB_V,hx,Hw⟩:=hrel
  by_cases hlt:k<4
  ·have c0:Hid (∀ w,Calls Tryz.prog 118 #[.agg #[.int .u64 h,.int .u64 l],.int .i64 (32:Nat)] w fun e w'=>e=.returned (Word ((N%2^(32*k)*2^(128-32*k))/2^32))∧Ext w w'):=hid (by
    intro w;rw [←Hw.o];exact shr_w _ 32 w (pk_lt N k hk) (by omega))
   obtain ⟨s0,s1,es⟩:=Word.shape ((N%2^(32*k)*2^(128-32*k))/2^32);obtain ⟨u0,u1,eu⟩:=Word.shape (N%2^(32*(k+1))*2^(128-32*(k+1)));have c1:Hid (∀ w,Calls Tryz.prog 122 #[.agg #[.int .u64 s0,.int .u64 s1],.agg #[.int .u64 (((N/2^(32*k)%4294967296:Nat):Int)*4294967296),.int .u64 0]] w fun e w'=>e=.returned (.agg #[.int .u64 u0,.int .u64 u1])∧Ext w w'):=hid (by
    intro w
    have h:=both_w ((N%2^(32*k)*2^(128-32*k))/2^32) ((N/2^(32*k)%4294967296)*2^96) w (Nat.lt_of_le_of_lt (Nat.div_le_self _ _) (pk_lt N k hk)) (show _<2^128 by have:=Nat.mod_lt (N/2^(32*k)) (show 0<4294967296 by decide);omega);rw [pk_word N k hlt,es,eu] at h;have e:Word ((N/2^(32*k)%4294967296)*2^96)=.agg #[.int .u64 (((N/2^(32*k)%4294967296:Nat):Int)*4294967296),.int .u64 0]:=by
     unfold Word;have a1:(N/2^(32*k)%4294967296)*2^96/18446744073709551616=(N/2^(32*k)%4294967296)*4294967296:=by omega
     have a2:(N/2^(32*k)%4294967296)*2^96%18446744073709551616=0:=by omega
     rw [a1,a2];simp
    rw [e] at h
    exact h)
   have hm:N/2^(32*k)%4294967296<4294967296:=Nat.mod_lt _ (by decide);have HF:Hid (((((N/2^(32*k):Nat):Rat)*(2:Rat)^(-32:Int)).floor)=((N/2^(32*k)/4294967296:Nat):Int)):=hid (nat_floor_half _ 32);have HV:Hid (((N/2^(32*k):Nat):Rat)-(((N/2^(32*k)/4294967296:Nat):Int):Rat)*(2:Rat)^(32:Int)=((N/2^(32*k)%4294967296:Nat):Rat)):=hid (by
    have e:(2:Rat)^(32:Int)=((4294967296:Nat):Rat):=by decide +kernel
    have h:=Nat.div_add_mod (N/2^(32*k)) 4294967296;rw [e]
    show ((N/2^(32*k):Nat):Rat)-((N/2^(32*k)/4294967296:Nat):Rat)*_=_
    have h2:((N/2^(32*k):Nat):Rat)=((4294967296:Nat):Rat)*((N/2^(32*k)/4294967296:Nat):Rat)+((N/2^(32*k)%4294967296:Nat):Rat):=by
     rw [←Rat.natCast_mul,←Rat.natCast_add,h]
    rw [h2];grind)
   have hNk:N/2^(32*k)<2^128:=Nat.lt_of_le_of_lt (Nat.div_le_self _ _) HN.o;have hNk2:N/2^(32*k)/4294967296*4294967296<2^128:=by omega
   have S0:Hid (SmQ 128 ((N/2^(32*k):Nat):Rat)):=hid (SmQ.nat (by decide) hNk);have S1:Hid (SmQ 256 (((N/2^(32*k):Nat):Rat)*(2:Rat)^(-32:Int))):=hid ((S0.o.mul_p2 (-32) 64 (by decide)).mono (by decide));have S2:Hid (SmQ 128 (((N/2^(32*k)/4294967296:Nat):Int):Rat)):=hid (SmQ.nat (by decide) (show _<2^128 by omega));have S3:Hid (SmQ 128 ((((N/2^(32*k)/4294967296:Nat):Int):Rat)*(2:Rat)^(32:Int))):=hid (by
    have e:(2:Rat)^(32:Int)=((4294967296:Nat):Rat):=by decide +kernel
    rw [e]
    show SmQ 128 (((N/2^(32*k)/4294967296:Nat):Rat)*_)
    rw [←Rat.natCast_mul];exact SmQ.nat (by decide) hNk2)
   have HP:Hid (((N/2^(32*k)/4294967296:Nat):Rat)=((N/2^(32*(k+1)):Nat):Rat)):=hid (by rw [pk_next]);clear hNk hNk2;have Es:=hid es;have Eu:=hid eu;clear es eu;obtain ⟨J1,J2,J3⟩:=HB_X.o.c3;obtain ⟨J4,J5⟩:=HB_Z.o.c2;obtain ⟨J6,J7⟩:=HB_V.o.c2;go_wp2_with fail;clear J1 J2 J3 J4 J5 J6 J7;refine (shift_c _ _ 128 (-32) _ hx S0.o (by decide) (by decide) (by decide)).mono ?_;rintro e w1 ⟨v1,rfl,k1,g1⟩;have hz_w1:=g1.size;replace HE:=hid (HE.o.trans g1);replace HB_X:=hid (HB_X.o.ext g1);replace HB_Z:=hid (HB_Z.o.ext g1);replace HB_V:=hid (HB_V.o.ext g1);replace hx:=hx.ext g1;obtain ⟨J8,J9,J10⟩:=HB_X.o.c3;obtain ⟨J11,J12⟩:=HB_Z.o.c2;obtain ⟨J13,J14⟩:=HB_V.o.c2;go_wp2_with fail;clear J8 J9 J10 J11 J12 J13 J14;refine (Floor_c _ _ 256 _ k1 S1.o (by decide)).mono ?_;rintro e w2 ⟨v2,rfl,k2,g2⟩;have hz_w2:=g2.size;replace HE:=hid (HE.o.trans g2);replace HB_X:=hid (HB_X.o.ext g2);replace HB_Z:=hid (HB_Z.o.ext g2);replace HB_V:=hid (HB_V.o.ext g2);replace hx:=hx.ext g2;replace k1:=k1.ext g2;rw [HF.o] at k2;obtain ⟨ng2,a2,n2,c2,a2',n2',c2',rfl⟩:=k2.shape;have gA:=Ext.alloc w2 (.cells #[.bool ng2,.slice a2 n2 c2,.slice a2' n2' c2'] 49);obtain ⟨J15,J16,J17⟩:=(HB_X.o.ext gA).c3;obtain ⟨J18,J19⟩:=(HB_Z.o.ext gA).c2;obtain ⟨J20,J21⟩:=(HB_V.o.ext gA).c2;go_wp2_with fail;clear gA J15 J16 J17 J18 J19 J20 J21;obtain ⟨W3,hW3,g3,hy3,B_Q⟩:=pro1 w2 #[.bool ng2,.slice a2 n2 c2,.slice a2' n2' c2'] 49;rw [←hW3];clear hW3;have hz_W3:=g3.size;replace HE:=hid (HE.o.trans g3);replace HB_X:=hid (HB_X.o.ext g3);replace HB_Z:=hid (HB_Z.o.ext g3);replace HB_V:=hid (HB_V.o.ext g3);replace hx:=hx.ext g3;replace k1:=k1.ext g3;replace k2:=k2.ext g3;have HB_Q:=hid B_Q;clear B_Q;obtain ⟨J22,J23,J24⟩:=HB_X.o.c3;obtain ⟨J25,J26⟩:=HB_Z.o.c2;obtain ⟨J27,J28⟩:=HB_V.o.c2;obtain ⟨J29,J30,J31⟩:=HB_Q.o.c3;go_wp2_with fail;clear J22 J23 J24 J25 J26 J27 J28 J29 J30 J31;have HS:Hid (∀ w',Ext W3 w'→w'.cell? ⟨w.heap.size,0,none⟩=some (.bool ng)∧w'.cell? ⟨w.heap.size,1,none⟩=some (.slice a n c)∧w'.cell? ⟨w.heap.size,2,none⟩=some (.slice a' n' c')∧w'.cell? ⟨w2.heap.size,0,none⟩=some (.bool ng2)∧w'.cell? ⟨w2.heap.size,1,none⟩=some (.slice a2 n2 c2)∧w'.cell? ⟨w2.heap.size,2,none⟩=some (.slice a2' n2' c2')):=hid fun w' h=>⟨(HB_X.o.ext h).cell 0,(HB_X.o.ext h).cell 1,(HB_X.o.ext h).cell 2,(HB_Q.o.ext h).cell 0,(HB_Q.o.ext h).cell 1,(HB_Q.o.ext h).cell 2⟩;have hb0:Ext W3 W3.drew:=Below.drew (Below.refl _ W3)
   go_region_held3 (fun w'=>w'.cell? ⟨w.heap.size,0,none⟩=some (.bool ng)∧w'.cell? ⟨w.heap.size,1,none⟩=some (.slice a n c)∧w'.cell? ⟨w.heap.size,2,none⟩=some (.slice a' n' c')∧w'.cell? ⟨w2.heap.size,0,none⟩=some (.bool ng2)∧w'.cell? ⟨w2.heap.size,1,none⟩=some (.slice a2 n2 c2)∧w'.cell? ⟨w2.heap.size,2,none⟩=some (.slice a2' n2' c2'))
     (first | exact HS.o _ (by assumption))
    (first
   | (go_at_call 124;(with_reducible refine (shift_c _ _ 128 32 _ (k2.ext hb0) S2.o (by decide) (by decide) (by decide)).mono ?_);rintro e x1 ⟨v3,rfl,k3,g1⟩;have hb1:Ext W3 x1:=hb0.trans g1)
   | (go_at_call 77;(with_reducible refine (Sub_c _ _ _ _ 128 _ (hx.ext hb1) k3 S0.o S3.o (by decide)).mono ?_);rintro e x2 ⟨v4,rfl,k4,g2⟩;have hb2:Ext W3 x2:=hb1.trans g2;rw [HV.o] at k4)
   | (go_at_call 359;(with_reducible refine (Int64n_c _ _ _ k4 (by omega)).mono ?_);rintro e x3 ⟨rfl,g3⟩;have hb3:Ext W3 x3:=hb2.trans g3))
   clear HS;have hz_x3:=hb3.size;replace HE:=hid (HE.o.trans hb3);replace HB_X:=hid (HB_X.o.ext hb3);replace HB_Z:=hid (HB_Z.o.ext hb3);replace HB_V:=hid (HB_V.o.ext hb3);replace HB_Q:=hid (HB_Q.o.ext hb3);replace hx:=hx.ext hb3;replace k1:=k1.ext hb3;replace k2:=k2.ext hb3;obtain ⟨J32,J33,J34⟩:=HB_X.o.c3;obtain ⟨J35,J36⟩:=HB_Z.o.c2;obtain ⟨J37,J38⟩:=HB_V.o.c2;obtain ⟨J39,J40,J41⟩:=HB_Q.o.c3;go_wp2_with fail;clear J32 J33 J34 J35 J36 J37 J38 J39 J40 J41;refine (c0.o _).mono ?_;rintro e w4 ⟨rfl,g4⟩;have hz_w4:=g4.size;replace HE:=hid (HE.o.trans g4);replace HB_X:=hid (HB_X.o.ext g4);replace HB_Z:=hid (HB_Z.o.ext g4);replace HB_V:=hid (HB_V.o.ext g4);replace HB_Q:=hid (HB_Q.o.ext g4);replace hx:=hx.ext g4;replace k1:=k1.ext g4;replace k2:=k2.ext g4;rw [Es.o];obtain ⟨J42,J43,J44⟩:=HB_X.o.c3;obtain ⟨J45,J46⟩:=HB_Z.o.c2;obtain ⟨J47,J48⟩:=HB_V.o.c2;obtain ⟨J49,J50,J51⟩:=HB_Q.o.c3;go_wp2_with fail;clear J42 J43 J44 J45 J46 J47 J48 J49 J50 J51;refine (c1.o _).mono ?_;rintro e w5 ⟨rfl,g5⟩;have hz_w5:=g5.size;replace HE:=hid (HE.o.trans g5);replace HB_X:=hid (HB_X.o.ext g5);replace HB_Z:=hid (HB_Z.o.ext g5);replace HB_V:=hid (HB_V.o.ext g5);replace HB_Q:=hid (HB_Q.o.ext g5);replace hx:=hx.ext g5;replace k1:=k1.ext g5;replace k2:=k2.ext g5;obtain ⟨J52,J53,J54⟩:=HB_X.o.c3;obtain ⟨J55,J56⟩:=HB_Z.o.c2;obtain ⟨J57,J58⟩:=HB_V.o.c2;obtain ⟨J59,J60,J61⟩:=HB_Q.o.c3;obtain ⟨U62,U63⟩:=HB_V.o.f2;obtain ⟨U64,U65,U66⟩:=HB_X.o.f3;go_wp2_with fail;clear J52 J53 J54 J55 J56 J57 J58 J59 J60 J61 U62 U63 U64 U65 U66;obtain ⟨W6,hW6,g6,q6,B6,hy6,ho6⟩:=sto2 HE.o (by omega) HB_V.o (by decide) (.int .u64 u0) (.int .u64 u1);rw [←hW6];clear hW6;replace HE:=hid g6;replace HB_X:=hid (ho6 _ _ _ (by omega) HB_X.o);replace HB_Z:=hid (ho6 _ _ _ (by omega) HB_Z.o);replace HB_Q:=hid (ho6 _ _ _ (by omega) HB_Q.o);replace HB_V:=hid B6;replace hx:=hx.keep q6;replace k1:=k1.keep q6;replace k2:=k2.keep q6;obtain ⟨W7,hW7,g7,q7,B7,hy7,ho7⟩:=sto3 HE.o (by omega) HB_X.o (by decide) (.bool ng2) (.slice a2 n2 c2) (.slice a2' n2' c2');rw [←hW7];clear hW7;replace HE:=hid g7;replace HB_Z:=hid (ho7 _ _ _ (by omega) HB_Z.o);replace HB_V:=hid (ho7 _ _ _ (by omega) HB_V.o);replace HB_Q:=hid (ho7 _ _ _ (by omega) HB_Q.o);replace HB_X:=hid B7;replace hx:=hx.keep q7;replace k1:=k1.keep q7;replace k2:=k2.keep q7;rw [show ((((N/2^(32*k)/4294967296:Nat):Int):Rat))=((N/2^(32*k)/4294967296:Nat):Rat) from rfl,HP.o] at k2
   exact ⟨⟨k+1,ng2,a2,n2,c2,a2',n2',c2',u0,u1,by go_num,by omega,HE,by omega,HB_X,HB_Z,HB_V,k2,Eu⟩,by simp [intOf];omega⟩
  ·obtain rfl:k=4:=by omega
   have Hw2:Hid (.agg #[.int .u64 h,.int .u64 l]=Word N):=hid (by rw [←Hw.o];congr 1;have:=HN.o;unfold W128 at this;omega);obtain ⟨J1,J2⟩:=HB_V.o.c2;obtain ⟨J3,J4,U1,U2⟩:=HB_Z.o.two;go_wp2_with fail;obtain ⟨W1,hW1,g1,q1,B1,hy1,ho1⟩:=sto2 HE.o (by omega) HB_Z.o (by decide) (.int .u64 h) (.int .u64 l);rw [←hW1];obtain ⟨r0,r1⟩:=B1.c2;refine bodyPost_ret (v:=.agg #[.int .u64 h,.int .u64 l]) (by simp [results,Tryz.results327,go_sem,r0,r1]) rfl ⟨by rw [Hw2.o],g1⟩
def absQ (q:Rat):Rat:=mkq false q.num.natAbs q.den
theorem absQ_eq (q:Rat):absQ q=if q.num<0 then -q else q:=neg_num_abs q
theorem num_neg_iff {q:Rat}:q.num<0↔q<0:=by
 rw [←Rat.not_le,←Rat.num_nonneg];omega
theorem absQ_pos {q:Rat} (h:q.num≠0):0<absQ q:=by
 rw [absQ_eq];have hq:q≠0:=fun e=>h (by rw [e];rfl)
 split
 ·rename_i h2
  have:=num_neg_iff.1 h2
  grind
 ·rename_i h2
  have:0≤q:=Rat.num_nonneg.1 (by omega)
  grind
theorem absQ_num_pos {q:Rat} (h:q.num≠0):0<(absQ q).num:=by
 have h1:=absQ_pos h;have h2:0≤(absQ q).num:=Rat.num_nonneg.2 (Rat.le_of_lt h1)
 rcases Int.lt_or_le 0 (absQ q).num with h3 | h3
 ·exact h3
 ·have:absQ q=0:=Rat.num_eq_zero.1 (by omega)
  rw [this] at h1;exact absurd h1 (Rat.lt_irrefl)
theorem SmQ.absQ {K:Nat} {q:Rat} (h:SmQ K q):SmQ K (absQ q):=by
 rw [absQ_eq];split
 ·exact h.neg
 ·exact h
theorem IsLog.bound {K:Nat} {q:Rat} {l:Int} (h:IsLog q l) (s:SmQ K q) : -(K:Int)-1≤l∧l≤K:=by
 have hp:0<q.num:=by
  have h1:=h.pos;have h2:0≤q.num:=Rat.num_nonneg.2 (Rat.le_of_lt h1)
  rcases Int.lt_or_le 0 q.num with h3 | h3
  ·exact h3
  ·have:q=0:=Rat.num_eq_zero.1 (by omega)
   rw [this] at h1;exact absurd h1 (Rat.lt_irrefl)
 have hd:=den_pos q
 constructor
 ·have h1:(2:Rat)^(((0:Nat):Int)-(K:Nat))≤q:=(p2_le hp 0 K).2 (by
   have:=s.2;unfold Sm at this
   have e:1*2^K≤q.num.natAbs*2^K:=Nat.mul_le_mul_right _ (by omega)
   omega)
  have h2:(2:Rat)^(((0:Nat):Int)-(K:Nat))<(2:Rat)^(l+1):=by have:=h.2;grind
  rw [p2_lt_iff] at h2
  omega
 ·have h1:q<(2:Rat)^(((K:Nat):Int)-(0:Nat)):=(lt_p2 hp K 0).2 (by
   have:=s.1;unfold Sm at this
   have e:1*2^K≤q.den*2^K:=Nat.mul_le_mul_right _ (by omega)
   omega)
  have h2:(2:Rat)^l<(2:Rat)^(((K:Nat):Int)-(0:Nat)):=by have:=h.1;grind
  rw [p2_lt_iff] at h2
  omega
theorem SmQ.mk {K:Nat} (n:Int) (d:Nat) (hd:d≠0) (h1:n.natAbs<2^K) (h2:d<2^K):SmQ K (mkRat n d):=by
 have e:mkRat n d=mkq (decide (n<0)) n.natAbs d:=by
  unfold mkq sg
  by_cases h:n<0
  ·simp only [h,decide_true,if_true];congr 1;omega
  ·simp only [h,decide_false];congr 1;simp;omega
 rw [e];unfold SmQ Sm;rw [mkq_natAbs _ _ _ hd,mkq_den _ _ _ hd]
 exact ⟨Nat.lt_of_le_of_lt (Nat.div_le_self _ _) h1,Nat.lt_of_le_of_lt (Nat.div_le_self _ _) h2⟩
theorem SmQ.add {K L:Nat} {q r:Rat} (h:SmQ K q) (k:SmQ L r):SmQ (K+L+1) (q+r):=by
 rw [Rat.add_def'];have e:(2:Nat)^(K+L+1)=2^K*2^L*2:=by rw [Nat.pow_succ,Nat.pow_add]
 have a1:q.num.natAbs*r.den<2^K*2^L:=Nat.mul_lt_mul_of_lt_of_le h.1 (Nat.le_of_lt k.2) (Nat.pow_pos (by decide));have a2:r.num.natAbs*q.den<2^L*2^K:=Nat.mul_lt_mul_of_lt_of_le k.1 (Nat.le_of_lt h.2) (Nat.pow_pos (by decide));have a3:q.den*r.den<2^K*2^L:=Nat.mul_lt_mul_of_lt_of_le h.2 (Nat.le_of_lt k.2) (Nat.pow_pos (by decide));rw [Nat.mul_comm (2^L)] at a2;refine SmQ.mk _ _ (Nat.mul_ne_zero q.den_nz r.den_nz) ?_ (by rw [e];omega);have b1:(q.num*(r.den:Int)).natAbs=q.num.natAbs*r.den:=by rw [Int.natAbs_mul];simp
 have b2:(r.num*(q.den:Int)).natAbs=r.num.natAbs*q.den:=by rw [Int.natAbs_mul];simp
 have b3:=Int.natAbs_add_le (q.num*(r.den:Int)) (r.num*(q.den:Int));rw [e]
 omega
theorem SmQ.sub {K L:Nat} {q r:Rat} (h:SmQ K q) (k:SmQ L r):SmQ (K+L+1) (q-r):=by
 rw [Rat.sub_eq_add_neg];exact h.add k.neg
theorem SmQ.zero (K:Nat) (h:0<K):SmQ K 0:=SmQ.nat (n:=0) h (Nat.pow_pos (by decide))
theorem SmQ.mul {K L:Nat} {q r:Rat} (h:SmQ K q) (k:SmQ L r):SmQ (K+L) (q*r):=by
 have e1:q.num.natAbs*r.num.natAbs<2^(K+L):=by
  rw [Nat.pow_add];exact Nat.mul_lt_mul_of_lt_of_le h.1 (Nat.le_of_lt k.1) (Nat.pow_pos (by decide))
 have e2:q.den*r.den<2^(K+L):=by
  rw [Nat.pow_add];exact Nat.mul_lt_mul_of_lt_of_le h.2 (Nat.le_of_lt k.2) (Nat.pow_pos (by decide))
 rw [Rat.mul_def']
 exact SmQ.mk _ _ (Nat.mul_ne_zero q.den_nz r.den_nz) (by rw [Int.natAbs_mul];exact e1) e2
theorem SmQ.div {K L:Nat} {q r:Rat} (h:SmQ K q) (k:SmQ L r) (hr:r≠0):SmQ (K+L) (q/r):=by
 have e1:q.num.natAbs*r.den<2^(K+L):=by
  rw [Nat.pow_add];exact Nat.mul_lt_mul_of_lt_of_le h.1 (Nat.le_of_lt k.2) (Nat.pow_pos (by decide))
 have e2:q.den*r.num.natAbs<2^(K+L):=by
  rw [Nat.pow_add];exact Nat.mul_lt_mul_of_lt_of_le h.2 (Nat.le_of_lt k.1) (Nat.pow_pos (by decide))
 have h1:r.num.natAbs≠0:=fun e=>hr (Rat.num_eq_zero.1 (by omega));rw [←quo_value q r hr];unfold SmQ Sm;rw [mkq_natAbs _ _ _ (Nat.mul_ne_zero q.den_nz h1),mkq_den _ _ _ (Nat.mul_ne_zero q.den_nz h1)]
 exact ⟨Nat.lt_of_le_of_lt (Nat.div_le_self _ _) e1,Nat.lt_of_le_of_lt (Nat.div_le_self _ _) e2⟩
theorem SmQ.pos {K:Nat} {q:Rat} (h:SmQ K q):0<K:=by
 rcases Nat.eq_zero_or_pos K with e | e
 ·subst e;have h1:q.den<2^0:=h.2
  have:=q.den_pos
  omega
 ·exact e
theorem SmQ.floor {K:Nat} {q:Rat} (h:SmQ K q):SmQ K ((q.floor:Int):Rat):=by
 refine SmQ.int h.pos ?_;rw [Rat.floor_def]
 exact Nat.lt_of_le_of_lt (Int.natAbs_ediv_le_natAbs _ _) h.1
theorem cmpQ_self (q:Rat):cmpQ q q=0:=by
 have:¬ q<q:=Rat.lt_irrefl
 simp [cmpQ,this]
theorem absQ_parts (q:Rat):(absQ q).num.natAbs=q.num.natAbs∧(absQ q).den=q.den:=by
 rw [absQ_eq];split
 ·simp [Rat.neg_num,Rat.neg_den]
 ·exact ⟨rfl,rfl⟩
theorem logA_c (x:Value) (q:Rat) (K:Nat) (w:World) (hx:NumV w x q) (sx:SmQ K q) (hK:K≤10000000) (h:q.num≠0) :
  Calls Tryz.prog 109 #[x] w fun e w'=>∃ k,e=.returned (.int .i64 k)∧IsLog (absQ q) k∧Ext w w':=by
 have h1:bl q.num.natAbs≤K:=bl_le_of_lt sx.1;have h2:bl q.den≤K:=bl_le_of_lt sx.2;refine (log_core x q K _ _ w hx sx hK (hid rfl) (by omega) (by omega) (hid rfl)).mono ?_;rintro e w' ⟨rfl,g⟩;obtain ⟨e1,e2⟩:=absQ_parts q;have hl:=log_is (absQ_num_pos h) _ rfl;rw [e1,e2] at hl
 exact ⟨_,rfl,hl,g⟩
theorem LogA_c (x:Value) (q:Rat) (K:Nat) (w:World) (hx:NumV w x q) (sx:SmQ K q) (hK:K≤10000000) (h:q.num≠0) :
  Calls Tryz.prog 41 #[x] w fun e w'=>∃ k,e=.returned (.tuple #[.int .i64 k,.int .i64 0])∧IsLog (absQ q) k∧Ext w w':=by
 obtain ⟨ng,a,n,c,a',n',c',rfl⟩:=hx.shape;obtain ⟨W0,hW0⟩:∃ W0,W0=w.alloc (.cells #[.bool ng,.slice a n c,.slice a' n' c'] 49):=⟨_,rfl⟩;have HE:Hid (Ext w W0):=hid (by rw [hW0];exact Ext.alloc w _);have hBx:Box W0 w.heap.size #[.bool ng,.slice a n c,.slice a' n' c'] 49:=by rw [hW0];exact Box.new w _ _
 have HS:Hid (∀ w',Ext W0 w'→Tri w.heap.size (.bool ng) (.slice a n c) (.slice a' n' c') w'):=hid fun w' h=>Tri.of (hBx.ext h);have Hx:=hid hx;have hb0:Ext W0 W0.drew:=Below.drew (Below.refl _ W0);have HK:=hid hK;have Sx:=hid sx;have H0:=hid h;have hs:(q.num.sign==0)=false:=beq_eq_false_iff_ne.2 (fun e=>h (Int.sign_eq_zero_iff_zero.1 e));clear hx hBx hK sx h;obtain ⟨x0,x1,x2⟩:=HS.o _ (Below.refl _ W0)
 go_enter Tryz.func41,Tryz.ntmps41
 go_wp2_with fail;rw [←hW0];clear hW0;refine (sign_c _ q _ (Hx.o.ext HE.o)).mono ?_;rintro e w1 ⟨rfl,hb1⟩;clear x0 x1 x2;obtain ⟨x0,x1,x2⟩:=HS.o _ hb1;go_wp2_with fail;refine (logA_c _ q K _ (Hx.o.ext (HE.o.trans hb1)) Sx.o HK.o H0.o).mono ?_;rintro e w2 ⟨k,rfl,hl,g2⟩;have Hl:=hid hl;clear hl;go_wp2_with fail
 exact bodyPost_ret (v:=.tuple #[.int .i64 k,.int .i64 0]) (by simp [results,Tryz.results41,go_sem]) rfl ⟨k,rfl,Hl.o,HE.o.trans (hb1.trans g2)⟩
def upB (m:Nat) (odd:Bool) (c:Int):Bool:=if m=0 then (if c=0 then odd else decide (0≤c)) else if m=1 then decide (0≤c) else decide (m=3)
theorem upward_0t0 (w:World):Calls Tryz.prog 274 #[.int .i64 0,.bool true,.int .i64 (-1)] w fun e w'=>e=.returned (.bool false)∧Ext w w':=by
 go_enter Tryz.func274,Tryz.ntmps274
 go_wp2_with fail;go_ret
 exact ⟨rfl,Below.refl _ _⟩
theorem upward_0t1 (w:World):Calls Tryz.prog 274 #[.int .i64 0,.bool true,.int .i64 (0)] w fun e w'=>e=.returned (.bool true)∧Ext w w':=by
 go_enter Tryz.func274,Tryz.ntmps274
 go_wp2_with fail;go_ret
 exact ⟨rfl,Below.refl _ _⟩
theorem upward_0t2 (w:World):Calls Tryz.prog 274 #[.int .i64 0,.bool true,.int .i64 (1)] w fun e w'=>e=.returned (.bool true)∧Ext w w':=by
 go_enter Tryz.func274,Tryz.ntmps274
 go_wp2_with fail;go_ret
 exact ⟨rfl,Below.refl _ _⟩
theorem upward_0f0 (w:World):Calls Tryz.prog 274 #[.int .i64 0,.bool false,.int .i64 (-1)] w fun e w'=>e=.returned (.bool false)∧Ext w w':=by
 go_enter Tryz.func274,Tryz.ntmps274
 go_wp2_with fail;go_ret
 exact ⟨rfl,Below.refl _ _⟩
theorem upward_0f1 (w:World):Calls Tryz.prog 274 #[.int .i64 0,.bool false,.int .i64 (0)] w fun e w'=>e=.returned (.bool false)∧Ext w w':=by
 go_enter Tryz.func274,Tryz.ntmps274
 go_wp2_with fail;go_ret
 exact ⟨rfl,Below.refl _ _⟩
theorem upward_0f2 (w:World):Calls Tryz.prog 274 #[.int .i64 0,.bool false,.int .i64 (1)] w fun e w'=>e=.returned (.bool true)∧Ext w w':=by
 go_enter Tryz.func274,Tryz.ntmps274
 go_wp2_with fail;go_ret
 exact ⟨rfl,Below.refl _ _⟩
theorem upward_1t0 (w:World):Calls Tryz.prog 274 #[.int .i64 1,.bool true,.int .i64 (-1)] w fun e w'=>e=.returned (.bool false)∧Ext w w':=by
 go_enter Tryz.func274,Tryz.ntmps274
 go_wp2_with fail;go_ret
 exact ⟨rfl,Below.refl _ _⟩
theorem upward_1t1 (w:World):Calls Tryz.prog 274 #[.int .i64 1,.bool true,.int .i64 (0)] w fun e w'=>e=.returned (.bool true)∧Ext w w':=by
 go_enter Tryz.func274,Tryz.ntmps274
 go_wp2_with fail;go_ret
 exact ⟨rfl,Below.refl _ _⟩
theorem upward_1t2 (w:World):Calls Tryz.prog 274 #[.int .i64 1,.bool true,.int .i64 (1)] w fun e w'=>e=.returned (.bool true)∧Ext w w':=by
 go_enter Tryz.func274,Tryz.ntmps274
 go_wp2_with fail;go_ret
 exact ⟨rfl,Below.refl _ _⟩
theorem upward_1f0 (w:World):Calls Tryz.prog 274 #[.int .i64 1,.bool false,.int .i64 (-1)] w fun e w'=>e=.returned (.bool false)∧Ext w w':=by
 go_enter Tryz.func274,Tryz.ntmps274
 go_wp2_with fail;go_ret
 exact ⟨rfl,Below.refl _ _⟩
theorem upward_1f1 (w:World):Calls Tryz.prog 274 #[.int .i64 1,.bool false,.int .i64 (0)] w fun e w'=>e=.returned (.bool true)∧Ext w w':=by
 go_enter Tryz.func274,Tryz.ntmps274
 go_wp2_with fail;go_ret
 exact ⟨rfl,Below.refl _ _⟩
theorem upward_1f2 (w:World):Calls Tryz.prog 274 #[.int .i64 1,.bool false,.int .i64 (1)] w fun e w'=>e=.returned (.bool true)∧Ext w w':=by
 go_enter Tryz.func274,Tryz.ntmps274
 go_wp2_with fail;go_ret
 exact ⟨rfl,Below.refl _ _⟩
theorem upward_2t0 (w:World):Calls Tryz.prog 274 #[.int .i64 2,.bool true,.int .i64 (-1)] w fun e w'=>e=.returned (.bool false)∧Ext w w':=by
 go_enter Tryz.func274,Tryz.ntmps274
 go_wp2_with fail;go_ret
 exact ⟨rfl,Below.refl _ _⟩
theorem upward_2t1 (w:World):Calls Tryz.prog 274 #[.int .i64 2,.bool true,.int .i64 (0)] w fun e w'=>e=.returned (.bool false)∧Ext w w':=by
 go_enter Tryz.func274,Tryz.ntmps274
 go_wp2_with fail;go_ret
 exact ⟨rfl,Below.refl _ _⟩
theorem upward_2t2 (w:World):Calls Tryz.prog 274 #[.int .i64 2,.bool true,.int .i64 (1)] w fun e w'=>e=.returned (.bool false)∧Ext w w':=by
 go_enter Tryz.func274,Tryz.ntmps274
 go_wp2_with fail;go_ret
 exact ⟨rfl,Below.refl _ _⟩
theorem upward_2f0 (w:World):Calls Tryz.prog 274 #[.int .i64 2,.bool false,.int .i64 (-1)] w fun e w'=>e=.returned (.bool false)∧Ext w w':=by
 go_enter Tryz.func274,Tryz.ntmps274
 go_wp2_with fail;go_ret
 exact ⟨rfl,Below.refl _ _⟩
theorem upward_2f1 (w:World):Calls Tryz.prog 274 #[.int .i64 2,.bool false,.int .i64 (0)] w fun e w'=>e=.returned (.bool false)∧Ext w w':=by
 go_enter Tryz.func274,Tryz.ntmps274
 go_wp2_with fail;go_ret
 exact ⟨rfl,Below.refl _ _⟩
theorem upward_2f2 (w:World):Calls Tryz.prog 274 #[.int .i64 2,.bool false,.int .i64 (1)] w fun e w'=>e=.returned (.bool false)∧Ext w w':=by
 go_enter Tryz.func274,Tryz.ntmps274
 go_wp2_with fail;go_ret
 exact ⟨rfl,Below.refl _ _⟩
theorem upward_3t0 (w:World):Calls Tryz.prog 274 #[.int .i64 3,.bool true,.int .i64 (-1)] w fun e w'=>e=.returned (.bool true)∧Ext w w':=by
 go_enter Tryz.func274,Tryz.ntmps274
 go_wp2_with fail;go_ret
 exact ⟨rfl,Below.refl _ _⟩
theorem upward_3t1 (w:World):Calls Tryz.prog 274 #[.int .i64 3,.bool true,.int .i64 (0)] w fun e w'=>e=.returned (.bool true)∧Ext w w':=by
 go_enter Tryz.func274,Tryz.ntmps274
 go_wp2_with fail;go_ret
 exact ⟨rfl,Below.refl _ _⟩
theorem upward_3t2 (w:World):Calls Tryz.prog 274 #[.int .i64 3,.bool true,.int .i64 (1)] w fun e w'=>e=.returned (.bool true)∧Ext w w':=by
 go_enter Tryz.func274,Tryz.ntmps274
 go_wp2_with fail;go_ret
 exact ⟨rfl,Below.refl _ _⟩
theorem upward_3f0 (w:World):Calls Tryz.prog 274 #[.int .i64 3,.bool false,.int .i64 (-1)] w fun e w'=>e=.returned (.bool true)∧Ext w w':=by
 go_enter Tryz.func274,Tryz.ntmps274
 go_wp2_with fail;go_ret
 exact ⟨rfl,Below.refl _ _⟩
theorem upward_3f1 (w:World):Calls Tryz.prog 274 #[.int .i64 3,.bool false,.int .i64 (0)] w fun e w'=>e=.returned (.bool true)∧Ext w w':=by
 go_enter Tryz.func274,Tryz.ntmps274
 go_wp2_with fail;go_ret
 exact ⟨rfl,Below.refl _ _⟩
theorem upward_3f2 (w:World):Calls Tryz.prog 274 #[.int .i64 3,.bool false,.int .i64 (1)] w fun e w'=>e=.returned (.bool true)∧Ext w w':=by
 go_enter Tryz.func274,Tryz.ntmps274
 go_wp2_with fail;go_ret
 exact ⟨rfl,Below.refl _ _⟩
theorem upward_4t0 (w:World):Calls Tryz.prog 274 #[.int .i64 4,.bool true,.int .i64 (-1)] w fun e w'=>e=.returned (.bool false)∧Ext w w':=by
 go_enter Tryz.func274,Tryz.ntmps274
 go_wp2_with fail;go_ret
 exact ⟨rfl,Below.refl _ _⟩
theorem upward_4t1 (w:World):Calls Tryz.prog 274 #[.int .i64 4,.bool true,.int .i64 (0)] w fun e w'=>e=.returned (.bool false)∧Ext w w':=by
 go_enter Tryz.func274,Tryz.ntmps274
 go_wp2_with fail;go_ret
 exact ⟨rfl,Below.refl _ _⟩
theorem upward_4t2 (w:World):Calls Tryz.prog 274 #[.int .i64 4,.bool true,.int .i64 (1)] w fun e w'=>e=.returned (.bool false)∧Ext w w':=by
 go_enter Tryz.func274,Tryz.ntmps274
 go_wp2_with fail;go_ret
 exact ⟨rfl,Below.refl _ _⟩
theorem upward_4f0 (w:World):Calls Tryz.prog 274 #[.int .i64 4,.bool false,.int .i64 (-1)] w fun e w'=>e=.returned (.bool false)∧Ext w w':=by
 go_enter Tryz.func274,Tryz.ntmps274
 go_wp2_with fail;go_ret
 exact ⟨rfl,Below.refl _ _⟩
theorem upward_4f1 (w:World):Calls Tryz.prog 274 #[.int .i64 4,.bool false,.int .i64 (0)] w fun e w'=>e=.returned (.bool false)∧Ext w w':=by
 go_enter Tryz.func274,Tryz.ntmps274
 go_wp2_with fail;go_ret
 exact ⟨rfl,Below.refl _ _⟩
theorem upward_4f2 (w:World):Calls Tryz.prog 274 #[.int .i64 4,.bool false,.int .i64 (1)] w fun e w'=>e=.returned (.bool false)∧Ext w w':=by
 go_enter Tryz.func274,Tryz.ntmps274
 go_wp2_with fail;go_ret
 exact ⟨rfl,Below.refl _ _⟩
theorem upward_c (m:Nat) (odd:Bool) (c:Int) (w:World) (hm:m≤4) (hc:c = -1∨c=0∨c=1):Calls Tryz.prog 274 #[.int .i64 m,.bool odd,.int .i64 c] w fun e w'=>e=.returned (.bool (upB m odd c))∧Ext w w':=by
 rcases (show m=0∨m=1∨m=2∨m=3∨m=4 by omega) with rfl | rfl | rfl | rfl | rfl<;>cases odd<;>rcases hc with rfl | rfl | rfl
 ·exact upward_0f0 w
 ·exact upward_0f1 w
 ·exact upward_0f2 w
 ·exact upward_0t0 w
 ·exact upward_0t1 w
 ·exact upward_0t2 w
 ·exact upward_1f0 w
 ·exact upward_1f1 w
 ·exact upward_1f2 w
 ·exact upward_1t0 w
 ·exact upward_1t1 w
 ·exact upward_1t2 w
 ·exact upward_2f0 w
 ·exact upward_2f1 w
 ·exact upward_2f2 w
 ·exact upward_2t0 w
 ·exact upward_2t1 w
 ·exact upward_2t2 w
 ·exact upward_3f0 w
 ·exact upward_3f1 w
 ·exact upward_3f2 w
 ·exact upward_3t0 w
 ·exact upward_3t1 w
 ·exact upward_3t2 w
 ·exact upward_4f0 w
 ·exact upward_4f1 w
 ·exact upward_4f2 w
 ·exact upward_4t0 w
 ·exact upward_4t1 w
 ·exact upward_4t2 w
def wordN (E P:Nat) (neg:Bool) (n f:Nat):Nat:=sgb E P neg ||| (n+f*2^(P-1))
theorem word_c (E P m b:Nat) (neg:Bool) (x:Value) (n f:Nat) (k:Int) (w:World) (hF:Fmt E P) (hb:b≤1023) (hx:NumV w x (n:Rat)) (hk:k=2-(b:Int)-P+f) (hf:f<100000) (hn:n+f*2^(P-1)<2^127) :
  Calls Tryz.prog 276 #[.agg #[.int .i64 E,.int .i64 P,.int .i64 m,.int .i64 b],.bool neg,x,.int .i64 k] w fun e w'=>e=.returned (Word (wordN E P neg n f))∧Ext w w':=by
 have hE:2≤E∧E≤11:=by unfold Fmt at hF;omega
 have hP:2≤P∧P≤113:=by unfold Fmt at hF;omega
 obtain ⟨ng,a,nn,c,a',n',c',rfl⟩:=hx.shape;have c1:Hid (∀ w,_):=hid fun w=>least_c E P m b w (hid (by omega)) (hid (by omega));have h1:wrap64 (k-(2-(b:Int)-P))=(f:Int):=by rw [w64r _ (by omega)];omega
 have h2:wrap64 ((P:Int)-1)=(P:Int)-1:=w64r _ (by omega);have h2':IntKind.i64.wrap ((P:Int)-1)=(P:Int)-1:=IntWalk.i64_in _ (by omega);have S1:Hid (SmQ 64 ((f:Int):Rat)):=hid (SmQ.int (by decide) (by omega));have hp:(2:Rat)^((P:Int)-1)=((2^(P-1):Nat):Rat):=by rw [←p2_nat];congr 1;omega
 have e0:((f:Int):Rat)*(2:Rat)^((P:Int)-1)=((f*2^(P-1):Nat):Rat):=by rw [hp,Rat.natCast_mul];rfl
 have S2:Hid (SmQ 128 (n:Rat)):=hid (SmQ.nat (by decide) (by omega));have S3:Hid (SmQ 128 ((f*2^(P-1):Nat):Rat)):=hid (SmQ.nat (by decide) (by omega));have E0:=hid e0;have E1:Hid ((n:Rat)+((f*2^(P-1):Nat):Rat)=((n+f*2^(P-1):Nat):Rat)):=hid (by rw [Rat.natCast_add]);obtain ⟨s0,s1,es⟩:=Word.shape (sgb E P neg);obtain ⟨t0,t1,et⟩:=Word.shape (n+f*2^(P-1));obtain ⟨u0,u1,eu⟩:=Word.shape (wordN E P neg n f);have c2:∀ w,_:=fun w=>sign_c' E P m b neg w hF;rw [es] at c2;have c3:∀ w,_:=fun w=>both_w (sgb E P neg) (n+f*2^(P-1)) w (sgb_w128 (by omega) neg) (show _<2^128 by omega);rw [es,et,show sgb E P neg ||| (n+f*2^(P-1))=wordN E P neg n f from rfl,eu] at c3;rw [eu];have C2:=hid c2;have C3:=hid c3;have Et:=hid et;have HP:=hid hP;have Hn:Hid (W128 (n+f*2^(P-1))):=hid (show _<2^128 by omega);clear c2 c3 es et eu hn hp hF e0;obtain ⟨W0,hW0,g0,hz0,B_M,B_X,B_Z⟩:=pro3s w #[.int .i64 E,.int .i64 P,.int .i64 m,.int .i64 b] #[.bool ng,.slice a nn c,.slice a' n' c'] #[.int .u64 0,.int .u64 0] 143 49 54;have HE:=hid g0;have HB_M:=hid B_M;have HB_X:=hid B_X;have HB_Z:=hid B_Z;clear g0 B_M B_X B_Z hE hP hk hb
 go_enter Tryz.func276,Tryz.ntmps276
 go_wp2_with fail;rw [←hW0];clear hW0;replace hx:=hx.ext HE.o;refine (c1.o _).mono ?_;rintro e w1 ⟨rfl,g1⟩;have hz_w1:=g1.size;replace HE:=hid (HE.o.trans g1);replace HB_M:=hid (HB_M.o.ext g1);replace HB_X:=hid (HB_X.o.ext g1);replace HB_Z:=hid (HB_Z.o.ext g1);replace hx:=hx.ext g1;obtain ⟨J1,J2,J3,J4⟩:=HB_M.o.c4;obtain ⟨J5,J6,J7⟩:=HB_X.o.c3;obtain ⟨J8,J9⟩:=HB_Z.o.c2;go_wp2_with fail;clear J1 J2 J3 J4 J5 J6 J7 J8 J9;rw [h1];have HS:Hid (∀ w',Ext w1 w'→w'.cell? ⟨w.heap.size,0,none⟩=some (.int .i64 E)∧w'.cell? ⟨w.heap.size,1,none⟩=some (.int .i64 P)∧w'.cell? ⟨w.heap.size,2,none⟩=some (.int .i64 m)∧w'.cell? ⟨w.heap.size,3,none⟩=some (.int .i64 b)∧w'.cell? ⟨w.heap.size+1,0,none⟩=some (.bool ng)∧w'.cell? ⟨w.heap.size+1,1,none⟩=some (.slice a nn c)∧w'.cell? ⟨w.heap.size+1,2,none⟩=some (.slice a' n' c')):=hid fun w' h=>⟨(HB_M.o.ext h).cell 0,(HB_M.o.ext h).cell 1,(HB_M.o.ext h).cell 2,(HB_M.o.ext h).cell 3,(HB_X.o.ext h).cell 0,(HB_X.o.ext h).cell 1,(HB_X.o.ext h).cell 2⟩;have hlt_M:w.heap.size<w1.heap.size:=cell_lt HB_M.o;have hlt_X:w.heap.size+1<w1.heap.size:=cell_lt HB_X.o;have HSN:Hid (∀ (g:Nat) (v0 v1 v2:Value) (w':World),w1.heap.size≤g→Ext w1 w'→(((w'.setCell ⟨g,0,none⟩ v0).setCell ⟨g,1,none⟩ v1).setCell ⟨g,2,none⟩ v2).cell? ⟨w.heap.size,0,none⟩=some (.int .i64 E)∧(((w'.setCell ⟨g,0,none⟩ v0).setCell ⟨g,1,none⟩ v1).setCell ⟨g,2,none⟩ v2).cell? ⟨w.heap.size,1,none⟩=some (.int .i64 P)∧(((w'.setCell ⟨g,0,none⟩ v0).setCell ⟨g,1,none⟩ v1).setCell ⟨g,2,none⟩ v2).cell? ⟨w.heap.size,2,none⟩=some (.int .i64 m)∧(((w'.setCell ⟨g,0,none⟩ v0).setCell ⟨g,1,none⟩ v1).setCell ⟨g,2,none⟩ v2).cell? ⟨w.heap.size,3,none⟩=some (.int .i64 b)∧(((w'.setCell ⟨g,0,none⟩ v0).setCell ⟨g,1,none⟩ v1).setCell ⟨g,2,none⟩ v2).cell? ⟨w.heap.size+1,0,none⟩=some (.bool ng)∧(((w'.setCell ⟨g,0,none⟩ v0).setCell ⟨g,1,none⟩ v1).setCell ⟨g,2,none⟩ v2).cell? ⟨w.heap.size+1,1,none⟩=some (.slice a nn c)∧(((w'.setCell ⟨g,0,none⟩ v0).setCell ⟨g,1,none⟩ v1).setCell ⟨g,2,none⟩ v2).cell? ⟨w.heap.size+1,2,none⟩=some (.slice a' n' c')):=hid fun g v0 v1 v2 w' hg h=>⟨(cell_other (show w.heap.size≠g by omega) (cell_other (show w.heap.size≠g by omega) (cell_other (show w.heap.size≠g by omega) ((HB_M.o.ext h).cell 0)))),(cell_other (show w.heap.size≠g by omega) (cell_other (show w.heap.size≠g by omega) (cell_other (show w.heap.size≠g by omega) ((HB_M.o.ext h).cell 1)))),(cell_other (show w.heap.size≠g by omega) (cell_other (show w.heap.size≠g by omega) (cell_other (show w.heap.size≠g by omega) ((HB_M.o.ext h).cell 2)))),(cell_other (show w.heap.size≠g by omega) (cell_other (show w.heap.size≠g by omega) (cell_other (show w.heap.size≠g by omega) ((HB_M.o.ext h).cell 3)))),(cell_other (show w.heap.size+1≠g by omega) (cell_other (show w.heap.size+1≠g by omega) (cell_other (show w.heap.size+1≠g by omega) ((HB_X.o.ext h).cell 0)))),(cell_other (show w.heap.size+1≠g by omega) (cell_other (show w.heap.size+1≠g by omega) (cell_other (show w.heap.size+1≠g by omega) ((HB_X.o.ext h).cell 1)))),(cell_other (show w.heap.size+1≠g by omega) (cell_other (show w.heap.size+1≠g by omega) (cell_other (show w.heap.size+1≠g by omega) ((HB_X.o.ext h).cell 2))))⟩;clear hlt_M hlt_X;have hb0:Ext w1 w1.drew:=Below.drew (Below.refl _ w1);have HNEW:=hid newFacts
 go_cut [10] (fun sv wx=>∃ g:Nat,sv=.pointer (some ⟨g,0,none⟩)∧Hid (Ext w1 wx)∧w1.heap.size≤g∧NumBox wx g (((n+f*2^(P-1):Nat):Rat)))
 case first =>
  go_region_held3 (fun w'=>w'.cell? ⟨w.heap.size,0,none⟩=some (.int .i64 E)∧w'.cell? ⟨w.heap.size,1,none⟩=some (.int .i64 P)∧w'.cell? ⟨w.heap.size,2,none⟩=some (.int .i64 m)∧w'.cell? ⟨w.heap.size,3,none⟩=some (.int .i64 b)∧w'.cell? ⟨w.heap.size+1,0,none⟩=some (.bool ng)∧w'.cell? ⟨w.heap.size+1,1,none⟩=some (.slice a nn c)∧w'.cell? ⟨w.heap.size+1,2,none⟩=some (.slice a' n' c'))
    (first | exact HS.o _ (by assumption) | exact HS.o _ (Ext.trans (by assumption) (Ext.alloc _ _)) | exact HSN.o _ _ _ _ _ (by first | omega | (simp only [World.size_drew];omega)) (by assumption) | exact HSN.o _ _ _ _ _ (by first | omega | (simp only [World.size_drew];omega)) (Ext.trans (by assumption) (Ext.alloc _ _)))
   (first
     | (go_at_call 49;(with_reducible refine (Int_c _ _ (by omega) (by omega)).mono ?_);rintro e x1 ⟨v1,rfl,k1,g1⟩;have hb1:Ext w1 x1:=(by first | exact hb0.trans g1 | exact (hb0.trans (Ext.alloc _ _)).trans g1);have hs1:=hb1.size)
     | (go_at_call 124;(with_reducible refine (shift_c _ _ 64 _ _ (by first | exact k1 | exact (k1).ext (Ext.alloc _ _)) S1.o (by have:=HP.o;omega) (by have:=HP.o;omega) (by decide)).mono ?_);rintro e x2 ⟨v2,rfl,k2,g2⟩;have hb2:Ext w1 x2:=(by first | exact hb1.trans g2 | exact (hb1.trans (Ext.alloc _ _)).trans g2);have hs2:=hb2.size;rw [E0.o] at k2)
     | (go_at_call 47;(with_reducible refine (Add_c _ _ _ _ 128 _ (by first | exact hx.ext hb2 | exact (hx.ext hb2).ext (Ext.alloc _ _)) (by first | exact k2 | exact (k2).ext (Ext.alloc _ _)) S2.o S3.o (by decide)).mono ?_);rintro e x3 ⟨v3,rfl,k3,g3⟩;have hb3:Ext w1 x3:=(by first | exact hb2.trans g3 | exact (hb2.trans (Ext.alloc _ _)).trans g3);have hs3:=hb3.size;rw [E1.o] at k3;obtain ⟨ng3,a3,n3,c3,a3',n3',c3',rfl⟩:=k3.shape;(first | (have yy:=HNEW.o _ _ g3;(try simp only [World.size_drew] at yy);obtain ⟨y0,y1,y2,y3,y4,y5⟩:=yy) | (have yy:=HNEW.o _ _ (g2.trans g3);(try simp only [World.size_drew] at yy);obtain ⟨y0,y1,y2,y3,y4,y5⟩:=yy) | (have yy:=HNEW.o _ _ (((Ext.undrew g1).trans g2).trans g3);(try simp only [World.size_drew] at yy);obtain ⟨y0,y1,y2,y3,y4,y5⟩:=yy) | (obtain ⟨y0,y1,y2,y3,y4,y5⟩:=HNEW.o x3 _ (Below.refl _ _)))))
  all_goals (go_wp2_with fail;go_meet;first | exact ⟨_,rfl,newNum0 hb3 k3⟩ | exact ⟨_,rfl,newNum hb3 (by first | omega | (simp only [World.size_drew];omega)) ((Box.new _ _ _).ext g3) k3⟩ | exact ⟨_,rfl,newNum hb3 (by first | omega | (simp only [World.size_drew];omega)) (((Box.new _ _ _).ext g2).ext g3) k3⟩ | exact ⟨_,rfl,newNum hb3 (by first | omega | (simp only [World.size_drew];omega)) ((((Box.new _ _ _).ext (Ext.undrew g1)).ext g2).ext g3) k3⟩)
 case rest =>
  obtain ⟨gS,rfl,gx2,hg2,ng2,a2,n2,c2,a2',n2',c2',B2,kv2⟩:=hcut;have hz_wc:=gx2.o.size;replace HE:=hid (HE.o.trans gx2.o);replace HB_M:=hid (HB_M.o.ext gx2.o);replace HB_X:=hid (HB_X.o.ext gx2.o);replace HB_Z:=hid (HB_Z.o.ext gx2.o);replace hx:=hx.ext gx2.o;have HB_S:=hid B2;clear B2 HS HSN HNEW;obtain ⟨J10,J11,J12,J13⟩:=HB_M.o.c4;obtain ⟨J14,J15,J16⟩:=HB_X.o.c3;obtain ⟨J17,J18⟩:=HB_Z.o.c2;obtain ⟨J19,J20,J21⟩:=HB_S.o.c3;go_wp2_with fail;clear J10 J11 J12 J13 J14 J15 J16 J17 J18 J19 J20 J21;have HS:Hid (∀ w',Ext wc w'→w'.cell? ⟨w.heap.size,0,none⟩=some (.int .i64 E)∧w'.cell? ⟨w.heap.size,1,none⟩=some (.int .i64 P)∧w'.cell? ⟨w.heap.size,2,none⟩=some (.int .i64 m)∧w'.cell? ⟨w.heap.size,3,none⟩=some (.int .i64 b)∧w'.cell? ⟨gS,0,none⟩=some (.bool ng2)∧w'.cell? ⟨gS,1,none⟩=some (.slice a2 n2 c2)∧w'.cell? ⟨gS,2,none⟩=some (.slice a2' n2' c2')):=hid fun w' h=>⟨(HB_M.o.ext h).cell 0,(HB_M.o.ext h).cell 1,(HB_M.o.ext h).cell 2,(HB_M.o.ext h).cell 3,(HB_S.o.ext h).cell 0,(HB_S.o.ext h).cell 1,(HB_S.o.ext h).cell 2⟩;have hne_M:w.heap.size≠w.heap.size+1+1:=by omega
  have hne_S:gS≠w.heap.size+1+1:=by omega
  have HSZ:Hid (∀ (v0 v1:Value) (w':World),Ext wc w'→((w'.setCell ⟨w.heap.size+1+1,0,none⟩ v0).setCell ⟨w.heap.size+1+1,1,none⟩ v1).cell? ⟨w.heap.size,0,none⟩=some (.int .i64 E)∧((w'.setCell ⟨w.heap.size+1+1,0,none⟩ v0).setCell ⟨w.heap.size+1+1,1,none⟩ v1).cell? ⟨w.heap.size,1,none⟩=some (.int .i64 P)∧((w'.setCell ⟨w.heap.size+1+1,0,none⟩ v0).setCell ⟨w.heap.size+1+1,1,none⟩ v1).cell? ⟨w.heap.size,2,none⟩=some (.int .i64 m)∧((w'.setCell ⟨w.heap.size+1+1,0,none⟩ v0).setCell ⟨w.heap.size+1+1,1,none⟩ v1).cell? ⟨w.heap.size,3,none⟩=some (.int .i64 b)∧((w'.setCell ⟨w.heap.size+1+1,0,none⟩ v0).setCell ⟨w.heap.size+1+1,1,none⟩ v1).cell? ⟨gS,0,none⟩=some (.bool ng2)∧((w'.setCell ⟨w.heap.size+1+1,0,none⟩ v0).setCell ⟨w.heap.size+1+1,1,none⟩ v1).cell? ⟨gS,1,none⟩=some (.slice a2 n2 c2)∧((w'.setCell ⟨w.heap.size+1+1,0,none⟩ v0).setCell ⟨w.heap.size+1+1,1,none⟩ v1).cell? ⟨gS,2,none⟩=some (.slice a2' n2' c2')):=hid fun v0 v1 w' h=>⟨(cell_other hne_M (cell_other hne_M ((HB_M.o.ext h).cell 0))),(cell_other hne_M (cell_other hne_M ((HB_M.o.ext h).cell 1))),(cell_other hne_M (cell_other hne_M ((HB_M.o.ext h).cell 2))),(cell_other hne_M (cell_other hne_M ((HB_M.o.ext h).cell 3))),(cell_other hne_S (cell_other hne_S ((HB_S.o.ext h).cell 0))),(cell_other hne_S (cell_other hne_S ((HB_S.o.ext h).cell 1))),(cell_other hne_S (cell_other hne_S ((HB_S.o.ext h).cell 2)))⟩;clear hne_M hne_S;have hb0:Ext wc wc.drew:=Below.drew (Below.refl _ wc)
  go_region_held3 (fun w'=>w'.cell? ⟨w.heap.size,0,none⟩=some (.int .i64 E)∧w'.cell? ⟨w.heap.size,1,none⟩=some (.int .i64 P)∧w'.cell? ⟨w.heap.size,2,none⟩=some (.int .i64 m)∧w'.cell? ⟨w.heap.size,3,none⟩=some (.int .i64 b)∧w'.cell? ⟨gS,0,none⟩=some (.bool ng2)∧w'.cell? ⟨gS,1,none⟩=some (.slice a2 n2 c2)∧w'.cell? ⟨gS,2,none⟩=some (.slice a2' n2' c2'))
    (first | exact HS.o _ (by assumption) | exact HSZ.o _ _ _ (by assumption))
   (first
    | (go_at_call 273;(with_reducible refine (C2.o _).mono ?_);rintro e x1 ⟨rfl,g1⟩;have hb1:Ext wc x1:=hb0.trans g1)
    | (go_at_call 327;(with_reducible refine (packed_c _ _ _ (kv2.ext hb1) Hn.o).mono ?_);rintro e x2 ⟨rfl,g2⟩;have hb2:Ext wc x2:=hb1.trans g2;rw [Et.o])
    | (go_at_call 122;(with_reducible refine (C3.o _).mono ?_);rintro e x3 ⟨rfl,g3⟩;have hb3:Ext wc x3:=hb2.trans g3;obtain ⟨zc0,zc1⟩:=(HB_Z.o.ext hb3).c2;obtain ⟨zf0,zf1⟩:=(HB_Z.o.ext hb3).f2))
  clear HS HSZ;have hz_x3:=hb3.size;replace HE:=hid (HE.o.trans hb3);replace HB_M:=hid (HB_M.o.ext hb3);replace HB_X:=hid (HB_X.o.ext hb3);replace HB_Z:=hid (HB_Z.o.ext hb3);replace HB_S:=hid (HB_S.o.ext hb3);replace hx:=hx.ext hb3;replace kv2:=kv2.ext hb3;obtain ⟨J22,J23,J24,J25⟩:=HB_M.o.c4;obtain ⟨J26,J27,J28⟩:=HB_X.o.c3;obtain ⟨J29,J30⟩:=HB_Z.o.c2;obtain ⟨J31,J32,J33⟩:=HB_S.o.c3;obtain ⟨U34,U35⟩:=HB_Z.o.f2;go_wp2_with fail;clear J22 J23 J24 J25 J26 J27 J28 J29 J30 J31 J32 J33 U34 U35;obtain ⟨W3,hW3,g3,q3,B3,hy3,ho3⟩:=sto2 HE.o (by omega) HB_Z.o (by decide) (.int .u64 u0) (.int .u64 u1);rw [←hW3];clear hW3;replace HE:=hid g3;replace HB_M:=hid (ho3 _ _ _ (by omega) HB_M.o);replace HB_X:=hid (ho3 _ _ _ (by omega) HB_X.o);replace HB_S:=hid (ho3 _ _ _ (by omega) HB_S.o);replace HB_Z:=hid B3;replace hx:=hx.keep q3;replace kv2:=kv2.keep q3;obtain ⟨J36,J37⟩:=HB_Z.o.c2;refine bodyPost_ret (v:=.agg #[.int .u64 u0,.int .u64 u1]) (by simp [results,Tryz.results276,go_sem,J36,J37]) rfl ⟨rfl,HE.o⟩
end Go.Proofs.YtoaoebimjmjpeaaGreatDoor
