/- exact: Twos of an integer: is it 0? -/
import Derived.Shelf.Spec.TrailingZeros
import Derived.Lib.SmallJoins
import Derived.Lib.ItoaNum
import Derived.Test.YtoaoebimjmjpeaaGreatDoorT15
namespace Go.Proofs.YtoaoebimjmjpeaaGreatDoor
open Go.RowKit Vn
set_option maxRecDepth 100000
set_option maxHeartbeats 8000000
structure Tabs (w:World):Prop where
 tz:∀ j,j<32→w.cell? ⟨9,j,none⟩=some (.int .u8 (Lib.deBruijn32tab.getD j 0))
 mir:∀ j,j<5→w.cell? ⟨4,j,none⟩=some (.int .i64 (([0,1,2,4,3]:List Int).getD j 0))
 p10:Lib.TabIs Tryz.prog w "internal/strconv.uint64pow10" .u64 Lib.pow10Tab
theorem Tabs.ext {w w':World} (h:Tabs w) (k:Ext w w'):Tabs w':=⟨fun j hj=>k.cell (h.tz j hj),fun j hj=>k.cell (h.mir j hj),Joins.tab_stays (g:=6) (by kernel_rfl) h.p10 k (Nat.le_refl _)⟩
theorem tz32_core (x k idx:Nat) (w:World) (hx0:((x:Int)==0)=false)
  (key:bits BinOp.and IntKind.u32 (x:Int) (-(x:Int)%4294967296)*125613361%4294967296/134217728=(idx:Int))
  (hi:idx<32) (hk:k<32) (hcell:w.cell? ⟨9,idx,none⟩=some (.int .u8 k)) :
  Calls Tryz.prog 358 #[.int .u32 x] w fun e w'=>e=.returned (.int .i64 k)∧w'=w:=by
 go_enter Tryz.func358,Tryz.ntmps358
 go_wp2_with (simp only [key])
 go_ret
 exact ⟨rfl,rfl⟩
theorem tz32_c (x:Nat) (hx:x<4294967296) (h0:x≠0) (w:World) (hT:Tabs w) :
  Calls Tryz.prog 358 #[.int .u32 x] w fun e w'=>∃ k:Nat,e=.returned (.int .i64 k)∧k≤32∧(k=0↔x%2=1)∧Ext w w':=by
 obtain ⟨hlow,hk⟩:=Lib.lowest_bit 32 x h0 hx;obtain ⟨hi,htab⟩:=Lib.deBruijn32_at _ hk;have hcell:=hT.tz _ hi;rw [htab] at hcell;refine (tz32_core x _ _ w (by simp;omega) (tz32_key x _ hx h0 hlow) hi hk hcell).mono ?_;rintro e w' ⟨rfl,rfl⟩;refine ⟨_,rfl,by omega,?_,Below.refl _ _⟩;unfold Lib.ctz;rw [if_neg h0];unfold Lib.ctzFrom
 split
 ·rename_i h;simp [h]
 ·rename_i h;simp [h]
theorem dv_mod_two:∀ l:List Nat,dv 4294967296 l%2=l.getD 0 0%2
 | []=>by simp [dv]
 | d :: l=>by simp [dv];omega
def TwosPost (M:Nat) (w:World) (e:Ending) (w':World):Prop:=∃ k:Nat,e=.returned (.int .i64 k)∧k≤1000000000∧(k=0↔M%2=1)∧Ext w w'
def TwosPostQ (M:Nat) (w:World) (e:Ending) (w':World):Prop:=∃ k:Int,e=.returned (.int .i64 k)∧(k=0↔M%2=1)∧Ext w w'
theorem twos_c (x:Value) (M K:Nat) (w:World) (hx:NatV w x M) (sx:Sm K M) (hK:K≤10000000) (hM:0<M) (hT:Tabs w) :
  Calls Tryz.prog 326 #[x] w (TwosPost M w):=by
 have hlt:M<4294967296^K:=Nat.lt_of_lt_of_le sx (Nat.pow_le_pow_left (by decide) K);obtain ⟨a,b,off,cap,l,rfl,h1,h2,h3,h4,h5,h6,h7⟩:=natv_small hx hlt;have hne:l≠[]:=by intro e;rw [e] at h5;simp [dv] at h5;omega
 have hlen:0<l.length:=List.length_pos_iff.2 hne;obtain rfl:=h3 hlen;have htop:0<l.getD (l.length-1) 0:=by rcases h4.trim with h | h;exact absurd h hne;exact h
 have HC:Hid (∀ i,i<l.length→w.cell? ⟨b,off+i,none⟩=some (.int .u32 (l.getD i 0:Nat))):=hid fun i hi=>h7.at h3 i hi;have HD:=hid h4.dig;have H5:=hid h5;have HTop:=hid htop;have HT:=hid hT;have hl2:l.length≤10000000:=by omega
 clear hlt h3 h4 h5 h7 hne htop hT hx sx h6
 go_enter Tryz.func326,Tryz.ntmps326
 go_wp2
 go_loop [3] (fun v=>∃ k:Nat,v=.int .i64 k∧k<l.length∧(0<k→l.getD 0 0=0)) (fun v=>l.length-(intOf v).toNat)
 case atStart=>exact ⟨0,rfl,hlen,fun h=>absurd h (Nat.lt_irrefl 0)⟩
 case round =>
  obtain ⟨k,rfl,hk,hz⟩:=hrel;have hc:=HC.o k hk;have hd:=HD.o.get (by decide) k;obtain ⟨d,hdd⟩:∃ d,d=l.getD k 0:=⟨_,rfl⟩;rw [←hdd] at hc hd;have Hd:=hid hdd;have Hz:=hid hz;clear hdd hz
  by_cases h0:d=0
  ·subst h0;have hk2:k+1<l.length:=by
    rcases Nat.lt_or_ge (k+1) l.length with h | h
    ·exact h
    ·have e:k=l.length-1:=by omega
     have:=HTop.o
     rw [←e,←Hd.o] at this
     omega
   go_wp2
   go_round
   case rel=>exact ⟨k+1,by go_num,hk2,fun _=>by
    rcases Nat.eq_zero_or_pos k with h | h
    ·subst h;exact Hd.o.symm
    ·exact Hz.o h⟩
   case measure=>simp [intOf];omega
  ·have hb:((d:Int)==0)=false:=by simp;omega
   have hk3:k≤10000000:=by omega
   have H0:=hid h0;clear h0;go_wp2_with fail;refine (tz32_c d hd H0.o _ HT.o).mono ?_;rintro e w1 ⟨j,rfl,hj,hjj,g1⟩;have Hj:=hid hjj;clear hjj;go_wp2_with fail;go_ret;refine ⟨32*k+j,by congr 2,by omega,?_,g1⟩;have e:=dv_mod_two l;rw [H5.o] at e;rw [e]
   rcases Nat.eq_zero_or_pos k with h | h
   ·subst h;rw [←Hd.o,←Hj.o];omega
   ·rw [Hz.o h];omega
theorem Twos_c (x:Value) (q:Rat) (K:Nat) (w:World) (hx:NumV w x q) (sx:SmQ K q) (hK:K≤10000000) (hd:q.den=1) (h0:q.num≠0) (hT:Tabs w) :
  Calls Tryz.prog 275 #[x] w fun e w'=>TwosPostQ q.num.natAbs w e w':=by
 obtain ⟨ng,a,n,c,a',n',c',rfl⟩:=hx.shape;have hp:=hx.p;have HK:=hid hK;have S1:Hid (Sm K q.num.natAbs):=hid sx.1;have S2:Hid (Sm K 1):=hid (by have:=sx.2;rw [hd] at this;exact this);have Hd:=hid hd;have H0:=hid h0;have hs:(q.num.sign==0)=false:=beq_eq_false_iff_ne.2 (fun h=>h0 (Int.sign_eq_zero_iff_zero.1 h));have HT:=hid hT;clear hK sx hd h0 hT;obtain ⟨W0,hW0,g0,hz0,B_X⟩:=pro1 w #[.bool ng,.slice a n c,.slice a' n' c'] 49;have HE:=hid g0;have HB_X:=hid B_X;clear g0 B_X 
 go_enter Tryz.func275,Tryz.ntmps275
 go_wp2_with fail;rw [←hW0];clear hW0;replace hx:=hx.ext HE.o;replace hp:=hp.ext HE.o;replace HT:=hid (HT.o.ext HE.o);refine (sign_c _ q _ hx).mono ?_;rintro e w1 ⟨rfl,g1⟩;have hz_w1:=g1.size;replace HE:=hid (HE.o.trans g1);replace HB_X:=hid (HB_X.o.ext g1);replace hx:=hx.ext g1;replace hp:=hp.ext g1;replace HT:=hid (HT.o.ext g1);obtain ⟨J1,J2,J3⟩:=HB_X.o.c3;go_wp2_with fail;clear J1 J2 J3;have HS:Hid (∀ w',Ext w1 w'→w'.cell? ⟨w.heap.size,0,none⟩=some (.bool ng)∧w'.cell? ⟨w.heap.size,1,none⟩=some (.slice a n c)∧w'.cell? ⟨w.heap.size,2,none⟩=some (.slice a' n' c')):=hid fun w' h=>⟨(HB_X.o.ext h).cell 0,(HB_X.o.ext h).cell 1,(HB_X.o.ext h).cell 2⟩;have hb0:Ext w1 w1.drew:=Below.drew (Below.refl _ w1)
 go_region_held3 (fun w'=>w'.cell? ⟨w.heap.size,0,none⟩=some (.bool ng)∧w'.cell? ⟨w.heap.size,1,none⟩=some (.slice a n c)∧w'.cell? ⟨w.heap.size,2,none⟩=some (.slice a' n' c'))
   (first | exact HS.o _ (by assumption))
  (first
   | (go_at_call 326;(with_reducible refine (twos_c _ q.num.natAbs K _ (hp.ext hb0) S1.o HK.o (by have:=H0.o;omega) (HT.o.ext hb0)).mono ?_);rintro e x1 ⟨k1,rfl,hk1,hj1,g1⟩;have hb1:Ext w1 x1:=hb0.trans g1;have Hj1:=hid hj1;clear hj1)
   | (go_at_call 53;(with_reducible refine (bottom_c _ q _ (hx.ext hb1)).mono ?_);rintro e x2 ⟨a2,n2,c2,rfl,k2,g2⟩;have hb2:Ext w1 x2:=hb1.trans g2;rw [Hd.o] at k2)
   | (go_at_call 326;(with_reducible refine (twos_c _ 1 K _ k2 S2.o HK.o (by decide) (HT.o.ext hb2)).mono ?_);rintro e x3 ⟨k3,rfl,hk3,hj3,g3⟩;have hb3:Ext w1 x3:=hb2.trans g3;obtain rfl:k3=0:=hj3.2 rfl;clear hj3))
 clear HS;have hz_x3:=hb3.size;replace HE:=hid (HE.o.trans hb3);replace HB_X:=hid (HB_X.o.ext hb3);replace hx:=hx.ext hb3;replace hp:=hp.ext hb3;have hw:wrap64 (k1:Int)=(k1:Int):=w64r _ (by omega);go_wp2_with fail;go_ret;refine ⟨(k1:Int),?_,?_,HE.o⟩
 ·first | rfl | (simp;exact IntWalk.i64_in _ (by omega))
 ·rw [←Hj1.o];omega
def IsV2 (n k:Nat):Prop:=∃ m,n=2^k*(2*m+1)
theorem IsV2.unique {n j k:Nat} (h1:IsV2 n j) (h2:IsV2 n k):j=k:=by
 obtain ⟨a,ha⟩:=h1;obtain ⟨b,hb⟩:=h2;have key:∀ {i j a b:Nat},2^i*(2*a+1)=2^j*(2*b+1)→¬ i<j:=fun {i j a b} h hij=>by
  obtain ⟨d,rfl⟩:=Nat.exists_eq_add_of_lt hij;rw [Nat.add_assoc,Nat.pow_add,Nat.mul_assoc,Nat.mul_right_inj (Nat.ne_of_gt (Nat.pow_pos (by decide))),Nat.pow_succ'] at h
  have:2*2^d*(2*b+1)=2*(2^d*(2*b+1)):=Nat.mul_assoc _ _ _
  omega
 rw [ha] at hb
 rcases Nat.lt_trichotomy j k with h | h | h
 ·exact absurd h (key hb)
 ·exact h
 ·exact absurd h (key hb.symm)
noncomputable def v2 (n:Nat):Nat := @dite Nat (∃ k,IsV2 n k) (Classical.propDecidable _) (fun h=>Classical.choose h) (fun _=>0)
end Go.Proofs.YtoaoebimjmjpeaaGreatDoor
