/- The reference: root returns the square root, rounded down. -/
import Derived.Test.YtgabigepocfllaaGreatDoorQ31
import Derived.Test.YtgabigepocfllaaGreatDoorQ48
namespace Go.Proofs.YtgabigepocfllaaGreatDoor
open Go.RowKit Vn
set_option maxRecDepth 100000
set_option maxHeartbeats 8000000
theorem rroot_c (x:Value) (M K:Nat) (w:World) (hx:RefV w x M) (sx:Sm K M) (hK:K≤250000) (hM:0<M) :
  Calls Tryz.prog 272 #[x] w fun e w'=>∃ a k c s,e=.returned (.slice a k c)∧RefV w' (.slice a k c) s∧IsRoot M s∧Ext w w':=by
 have Hx:=hid hx;have Sx:=hid sx;have hbl:bl M≤K:=bl_le_of_lt sx;obtain ⟨ax,nx,cx,rfl⟩:∃ a n c,x=.slice a n c:=by obtain ⟨l,_,_,a,b,off,cap,e,_⟩:=hx;exact ⟨_,_,_,e⟩
 clear hx sx
 go_enter Tryz.func272,Tryz.ntmps272
 go_wp2_with fail;refine (rlength_c _ M K _ Hx.o Sx.o (by omega)).mono ?_;rintro e w2 ⟨rfl,hb2⟩;have Hb2:=hid hb2;obtain ⟨z,hz⟩:∃ z,z=bl M:=⟨_,rfl⟩;rw [←hz] at hbl ⊢;have Hz:=hid hz;clear hz hb2;go_wp2_with fail;rw [show ((z:Int)+1)/2=(((z+1)/2:Nat):Int) by omega];refine (rpower_c ((z+1)/2) _ (by omega)).mono ?_;rintro e w3 ⟨a3,n3,c3,rfl,H3,hb3⟩;have Hb3:=hid hb3;clear hb3;have HE:=hid (Hb2.o.trans Hb3.o);go_wp2_with fail
 go_loopg [3] (2^((z+1)/2)) (fun k p wr=>∃ a n c,p=.slice a n c∧Hid (RefV wr p k)∧Hid (Sm (K+1) k)∧Hid (M<(k+1)*(k+1))∧Hid (Ext w wr))
 case atStart =>
  refine ⟨a3,n3,c3,rfl,H3,hid ?_,hid ?_,HE⟩
  ·exact Nat.pow_lt_pow_right (by decide) (by omega)
  ·rw [Hz.o];exact bl_half hM
 case round =>
  obtain ⟨a4,n4,c4,rfl,H4,S4,HM4,HE4⟩:=hrel;have hk0:0<gk:=by
   rcases Nat.eq_zero_or_pos gk with h | h
   ·have:=HM4.o;rw [h] at this;simp at this;omega
   ·exact h
  go_wp2_with fail;refine (rdiv_c _ _ M gk (K+1) _ (Hx.o.ext HE4.o) H4.o (Sx.o.mono (by omega)) S4.o (by omega) hk0).mono ?_;rintro e w5 ⟨a5,n5,c5,a6,n6,c6,rfl,h5,h6,hb5⟩;have H5:=hid h5;have Hb5:=hid hb5;clear h5 h6 hb5;have S7:Hid (Sm (K+2) (gk+M/gk)):=by
   have a1:=S4.o;have a2:M/gk<2^(K+1):=(Sx.o.mono (by omega)).of_le (Nat.div_le_self _ _);refine hid ?_
   show _<2^(K+2)
   rw [Nat.pow_succ];unfold Sm at a1
   omega
  go_wp2_with fail;refine (rsum_c _ _ gk (M/gk) (K+1) _ (H4.o.ext Hb5.o) H5.o S4.o ((Sx.o.mono (by omega)).of_le (Nat.div_le_self _ _)) (by omega)).mono ?_;rintro e w7 ⟨a7,n7,c7,rfl,h7,hb7⟩;have H7:=hid h7;have Hb7:=hid hb7;clear h7 hb7;go_wp2_with fail;refine (rdiv_c _ _ (gk+M/gk) 2 (K+2) _ (H7.o.ext (Below.alloc (Below.refl _ _) (Nat.le_refl _) _)) (refv_oneI _ _ 2 rfl (by decide) (by decide)) S7.o (by show 2<2^(K+2);rw [Nat.pow_add];have:=Nat.pow_pos (n:=K) (show 0<2 by decide);omega) (by omega) (by decide)).mono ?_;rintro e w8 ⟨a8,n8,c8,a9,n9,c9,rfl,h8,h9,hb8⟩;have Hb8:=hid (Ext.trans (Below.alloc (Below.refl _ _) (Nat.le_refl _) _) hb8);have H8:=hid h8;clear h8 h9 hb8;have S8:Hid (Sm (K+1) ((gk+M/gk)/2)):=by
   have:=S7.o
   refine hid ?_;unfold Sm at *
   rw [Nat.pow_succ] at this
   omega
  have HE8:=hid (HE4.o.trans (Hb5.o.trans (Hb7.o.trans Hb8.o)));have H48:=hid (H4.o.ext (Hb5.o.trans (Hb7.o.trans Hb8.o)))
  rcases Nat.lt_or_ge ((gk+M/gk)/2) gk with hlt | hge
  ·have hd:decide ((0:Int)≤cmpN ((gk+M/gk)/2) gk)=false:=by rw [cmpN_lt hlt];rfl
   have Hlt:=hid hlt;clear hlt;go_wp2_with fail;refine (rcmp_c _ _ _ _ (K+1) _ H8.o H48.o S8.o S4.o (by omega)).mono ?_;rintro e wa ⟨rfl,hb9⟩;have Hb9:=hid hb9;clear hb9;go_wp2_with fail
   go_roundg ((gk+M/gk)/2)
   case measure=>exact Hlt.o
   case rel=>exact ⟨a8,n8,c8,rfl,hid (H8.o.ext Hb9.o),S8,hid (heron_ge hk0 rfl),hid (HE8.o.trans Hb9.o)⟩
  ·have hd:decide ((0:Int)≤cmpN ((gk+M/gk)/2) gk)=true:=by
    rcases Nat.eq_or_lt_of_le hge with h | h
    ·rw [cmpN_eq h.symm];rfl
    ·rw [cmpN_gt h];rfl
   have Hge:=hid hge;clear hge;go_wp2_with fail;refine (rcmp_c _ _ _ _ (K+1) _ H8.o H48.o S8.o S4.o (by omega)).mono ?_;rintro e wa ⟨rfl,hb9⟩;have Hb9:=hid hb9;clear hb9;go_wp2_with fail;go_ret
   exact ⟨a4,n4,c4,gk,rfl,H48.o.ext Hb9.o,⟨heron_done rfl Hge.o,HM4.o⟩,HE8.o.trans Hb9.o⟩
end Go.Proofs.YtgabigepocfllaaGreatDoor
