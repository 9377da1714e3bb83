/- exact: Int64 of a number that is not below 0. -/
import Derived.Test.YtgabigepocfllaaGreatDoorG10
namespace Go.Proofs.YtgabigepocfllaaGreatDoor
open Go.RowKit Vn
set_option maxRecDepth 100000
set_option maxHeartbeats 8000000
theorem natv_small {w:World} {v:Value} {n k:Nat} (h:NatV w v n) (hn:n<4294967296^k) :
  ∃ (a:Option Addr) (b off cap:Nat) (l:List Nat),v=.slice a l.length cap∧l.length≤cap∧cap≤maxLen∧(0<l.length→a=some ⟨b,off,none⟩)∧Norm 4294967296 l∧dv 4294967296 l=n∧l.length≤k ∧
  SlAt 195 .u32 w v l:=by
 obtain ⟨l,h1,h2,h3⟩:=h;obtain ⟨a,b,off,cap,rfl,k1,k2,k3,_⟩:=h3.open;refine ⟨a,b,off,cap,l,rfl,k1,k2,k3,h1,h2,?_,h3⟩
 exact h1.len_le (by decide) (by rw [h2];exact hn)
theorem SlAt.at {T:TypeId} {k:IntKind} {w:World} {a:Option Addr} {b off n cap:Nat} {l:List Nat} (h:SlAt T k w (.slice a n cap) l) (ha:0<n→a=some ⟨b,off,none⟩) (i:Nat) (hi:i<l.length) :
  w.cell? ⟨b,off+i,none⟩=some (.int k (l.getD i 0:Nat)):=by
 obtain ⟨a',b',off',cap',h1,h2,h3,h4,h5⟩:=h.open;obtain ⟨rfl,rfl,rfl⟩:a=a'∧n=l.length∧cap=cap':=by simpa using h1
 have e1:=ha (by omega);have e2:=h4 (by omega);rw [e1] at e2;obtain ⟨rfl,rfl⟩:b=b'∧off=off':=by simpa using e2
 exact h5 i hi
theorem Int64_c (x:Value) (q:Rat) (w:World) (hx:NumV w x q) (h1:q.den=1) (h0:0≤q.num) (h2:q.num<9223372036854775808) :
  Calls Tryz.prog 128 #[x] w fun e w'=>e=.returned (.tuple #[.int .i64 q.num,.int .i64 0])∧Ext w w':=by
 have hneg:=hx;obtain ⟨ng,a,n,c,a',n',c',rfl⟩:=hx.shape;obtain rfl:ng=false:=by rw [hneg.neg];exact decide_eq_false (by omega)
 clear hneg;obtain ⟨m,hm⟩:∃ m:Nat,m=q.num.natAbs:=⟨_,rfl⟩;have Hm:Hid ((m:Int)=q.num):=hid (by omega);have hlt:m<9223372036854775808:=by omega
 have hp:=hx.p;rw [←hm] at hp;have H1:=hid h1;clear hm h1 h0 h2;obtain ⟨W0,hW0,g0,hz0,B_X⟩:=pro1 w #[.bool false,.slice a n c,.slice a' n' c'] 40;have HE:=hid g0;have HB_X:=hid B_X;clear g0 B_X 
 go_enter Tryz.func128,Tryz.ntmps128
 go_wp2_with fail;rw [←hW0];clear hW0;replace hx:=hx.ext HE.o;replace hp:=hp.ext HE.o;refine (isInt_c _ q _ hx).mono ?_;rintro e w1 ⟨rfl,g1⟩;have hz_w1:=g1.size;replace HE:=hid (HE.o.trans g1);replace HB_X:=hid (HB_X.o.ext g1);replace hx:=hx.ext g1;replace hp:=hp.ext g1;have hd:decide (q.den=1)=true:=decide_eq_true H1.o;obtain ⟨J1,J2,J3⟩:=HB_X.o.c3;go_wp2_with fail;clear J1 J2 J3;have hgt:decide (0<cmpN m 9223372036854775807)=false:=decide_eq_false (by unfold cmpN;split<;>(try split)<;>omega);have HS:Hid (∀ w',Ext w1 w'→w'.cell? ⟨w.heap.size,0,none⟩=some (.bool false)∧w'.cell? ⟨w.heap.size,1,none⟩=some (.slice a n c)∧w'.cell? ⟨w.heap.size,2,none⟩=some (.slice a' n' c')):=hid fun w' h=>⟨(HB_X.o.ext h).cell 0,(HB_X.o.ext h).cell 1,(HB_X.o.ext h).cell 2⟩;have hb0:Ext w1 w1.drew:=Below.drew (Below.refl _ w1)
 go_region_held3 (fun w'=>w'.cell? ⟨w.heap.size,0,none⟩=some (.bool false)∧w'.cell? ⟨w.heap.size,1,none⟩=some (.slice a n c)∧w'.cell? ⟨w.heap.size,2,none⟩=some (.slice a' n' c'))
   (first | exact HS.o _ (by assumption))
  (first
   | (go_at_call 164;(with_reducible refine (of_c 9223372036854775807 _ (by decide) (by decide)).mono ?_);rintro e x1 ⟨a1,n1,c1,rfl,k1,g1⟩;have hb1:Ext w1 x1:=hb0.trans g1)
   | (go_at_call 104;(with_reducible refine (cmp_c _ _ m 9223372036854775807 64 _ (hp.ext hb1) k1 (show _<_ by omega) (show _<_ by decide) (by decide)).mono ?_);rintro e x2 ⟨rfl,g2⟩;have hb2:Ext w1 x2:=hb1.trans g2))
 clear HS;have hz_x2:=hb2.size;replace HE:=hid (HE.o.trans hb2);replace HB_X:=hid (HB_X.o.ext hb2);replace hx:=hx.ext hb2;replace hp:=hp.ext hb2;obtain ⟨a1',b1,off1,c1',l,e1,e2,e3,e4,e5,e6,e7,e8⟩:=natv_small hp (k:=2) (by omega);obtain ⟨rfl,rfl,rfl⟩:a=a1'∧n=l.length∧c=c1':=by simpa using e1
 have hd1:=e5.dig;clear e1 k1;have E6:=hid e6;have E5:=hid hd1;have E4:=hid e4;have E8:=hid e8;clear e4 e5 e6 e8 hd1 hd;obtain ⟨J4,J5,J6⟩:=HB_X.o.c3;go_wp2_with fail
 go_loop [5,24] (fun u v=>∃ k:Nat,v=.int .i64 k∧u=.int .u64 ((dv 4294967296 (l.take k):Nat):Int)∧k≤l.length) (fun _ v=>l.length-(intOf v).toNat)
 case atStart=>exact ⟨0,rfl,rfl,Nat.zero_le _⟩
 case round =>
  obtain ⟨k,rfl,rfl,hk⟩:=hrel
  by_cases hl:k<l.length
  ·have E:Hid (dv 4294967296 (l.take (k+1))=dv 4294967296 (l.take k)+l.getD k 0*4294967296^k):=hid (dv_take_succ 4294967296 l k hl);have hc:=E8.o.at E4.o k hl;obtain rfl:=E4.o (by omega);have hdl:=E5.o.get (by decide) k;have hdv:=dv_lt (B:=4294967296) (by decide) (E5.o.take k);generalize l.getD k 0=d at *
   generalize dv 4294967296 (l.take k)=D at *
   have hlk:(l.take k).length=k:=by simp;omega
   rw [hlk] at hdv;clear E4 hlk
   rcases (show k=0∨k=1 by omega) with rfl | rfl
   ·rw [Nat.add_zero] at hc;go_wp2_with fail;refine ⟨⟨1,rfl,?_,by omega⟩,by simp [intOf];omega⟩;have e:=u64_or_nat D d (by omega) (by omega);rw [e,show 1=0+1 from rfl,E.o,show D=0 by simpa using hdv]
    simp
   ·go_wp2_with fail;refine ⟨⟨2,rfl,?_,by omega⟩,by simp [intOf];omega⟩;have e:=u64_or_nat D (d*4294967296) (by omega) (by omega);rw [show ((d:Int)*4294967296)=((d*4294967296:Nat):Int) by omega,e,show 2=1+1 from rfl,E.o,Nat.mul_comm d,show (4294967296:Nat)=2^32 from rfl,or_add (by omega)]
  ·have hk':k=l.length:=by omega
   subst hk';have E6':Hid (dv 4294967296 (l.take l.length)=m):=hid (by rw [List.take_length];exact E6.o);generalize dv 4294967296 (l.take l.length)=D at *
   clear E6;have hw:Hid (wrap64 (D:Int)=q.num):=hid (by rw [←Hm.o,←E6'.out];exact w64r _ (by have:=E6'.out;omega));go_wp2_with fail;refine bodyPost_ret (v:=.tuple #[.int .i64 (wrap64 (D:Int)),.int .i64 0]) (by simp [results,Tryz.results128,go_sem]) rfl ⟨?_,HE.o⟩;rw [hw.o]
theorem Int64n_c (x:Value) (n:Nat) (w:World) (hx:NumV w x (n:Rat)) (h2:n<9223372036854775808) :
  Calls Tryz.prog 128 #[x] w fun e w'=>e=.returned (.tuple #[.int .i64 n,.int .i64 0])∧Ext w w':=by
 have h:=Int64_c x (n:Rat) w hx (by simp) (by simp) (by simp;omega)
 simpa using h
end Go.Proofs.YtgabigepocfllaaGreatDoor
