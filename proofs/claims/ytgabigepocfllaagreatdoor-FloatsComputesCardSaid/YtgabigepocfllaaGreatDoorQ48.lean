/- Natural numbers in words of 32 bits: root returns the square root, rounded down. -/
import Derived.Test.YtgabigepocfllaaGreatDoorQ06
namespace Go.Proofs.YtgabigepocfllaaGreatDoor
open Go.RowKit Vn
set_option maxRecDepth 100000
set_option maxHeartbeats 8000000
theorem bl_half {M:Nat} (_h:0<M):M<(2^((bl M+1)/2)+1)*(2^((bl M+1)/2)+1):=by
 have h1:=bl_lt M;have h2:2^bl M≤2^((bl M+1)/2)*2^((bl M+1)/2):=by
  rw [←Nat.pow_add];exact Nat.pow_le_pow_right (by decide) (by omega)
 generalize 2^((bl M+1)/2)=z at *
 have:(z+1)*(z+1)=z*z+2*z+1:=by grind
 omega
theorem root_c (x:Value) (M K:Nat) (w:World) (hx:NatV w x M) (sx:Sm K M) (hK:K≤40000000) (hM:0<M) :
  Calls Tryz.prog 269 #[x] w fun e w'=>∃ a k c s,e=.returned (.slice a k c)∧NatV w' (.slice a k c) s∧IsRoot M s∧Ext w w':=by
 obtain ⟨ax,nx,cx,rfl⟩:=hx.shape;have Hx:=hid hx;have Sx:=hid sx;have hbl:bl M≤K:=bl_le_of_lt sx;clear hx sx
 go_enter Tryz.func269,Tryz.ntmps269
 go_wp2_with fail;refine (of_c _ _ (by omega) (by omega)).mono ?_;rintro e w1 ⟨a1,n1,c1,rfl,h1,hb1⟩;have H1:=hid h1;have Hb1:=hid hb1;clear h1 hb1;go_wp2_with fail;refine (bits_c _ M K _ (Hx.o.ext Hb1.o) Sx.o (by omega)).mono ?_;rintro e w2 ⟨rfl,hb2⟩;have Hb2:=hid hb2;obtain ⟨z,hz⟩:∃ z,z=bl M:=⟨_,rfl⟩;rw [←hz] at hbl ⊢;have Hz:=hid hz;clear hz hb2;go_wp2_with fail;refine (shl_c _ 1 1 _ _ (H1.o.ext Hb2.o) (by show 1<2^1;decide) (by omega) (by omega) (by omega)).mono ?_;rintro e w3 ⟨a3,n3,c3,rfl,h3,hb3⟩;have e1:(((z:Int)+1)/2).toNat=(z+1)/2:=by omega
 rw [e1,Nat.one_mul] at h3;have H3:=hid h3;have Hb3:=hid hb3;clear h3 hb3 e1;have HE:=hid (Hb1.o.trans (Hb2.o.trans Hb3.o));go_wp2_with fail
 go_loopg [3] (2^((z+1)/2)) (fun k p wr=>∃ a n c,p=.slice a n c∧Hid (NatV wr p k)∧Hid (Sm (K+1) k)∧Hid (M<(k+1)*(k+1))∧Hid (Ext w wr))
 case atStart =>
  refine ⟨a3,n3,c3,rfl,H3,hid ?_,hid ?_,HE⟩
  ·exact Nat.pow_lt_pow_right (by decide) (by omega)
  ·rw [Hz.o];exact bl_half hM
 case round =>
  obtain ⟨a4,n4,c4,rfl,H4,S4,HM4,HE4⟩:=hrel;have hk0:0<gk:=by
   rcases Nat.eq_zero_or_pos gk with h | h
   ·have:=HM4.o;rw [h] at this;simp at this;omega
   ·exact h
  go_wp2_with fail;refine (div_c _ _ M gk (K+1) _ (Hx.o.ext HE4.o) H4.o (Sx.o.mono (by omega)) S4.o (by omega) hk0).mono ?_;rintro e w5 ⟨a5,n5,c5,a6,n6,c6,rfl,h5,h6,hb5⟩;have H5:=hid h5;have Hb5:=hid hb5;clear h5 h6 hb5;go_wp2_with fail;refine (add_c _ _ gk (M/gk) (K+1) _ (H4.o.ext Hb5.o) H5.o S4.o ((Sx.o.mono (by omega)).of_le (Nat.div_le_self _ _)) (by omega)).mono ?_;rintro e w7 ⟨a7,n7,c7,rfl,h7,hb7⟩;have H7:=hid h7;have Hb7:=hid hb7;clear h7 hb7;have S7:Hid (Sm (K+2) (gk+M/gk)):=by
   have a1:=S4.o;have a2:M/gk<2^(K+1):=(Sx.o.mono (by omega)).of_le (Nat.div_le_self _ _);refine hid ?_
   show _<2^(K+2)
   rw [Nat.pow_succ];unfold Sm at a1
   omega
  go_wp2_with fail;refine (shr_c _ _ (K+2) _ _ H7.o S7.o (by omega) (by omega) (by omega)).mono ?_;rintro e w8 ⟨a8,n8,c8,rfl,h8,hb8⟩;have H8:Hid (NatV w8 (.slice a8 n8 c8) ((gk+M/gk)/2)):=hid (by simpa using h8);have Hb8:=hid hb8;clear h8 hb8;have S8:Hid (Sm (K+1) ((gk+M/gk)/2)):=by
   have:=S7.o
   refine hid ?_;unfold Sm at *
   rw [Nat.pow_succ] at this
   omega
  have HE8:=hid (HE4.o.trans (Hb5.o.trans (Hb7.o.trans Hb8.o)));have H48:=hid (H4.o.ext (Hb5.o.trans (Hb7.o.trans Hb8.o)))
  rcases Nat.lt_or_ge ((gk+M/gk)/2) gk with hlt | hge
  ·have hd:decide ((0:Int)≤cmpN ((gk+M/gk)/2) gk)=false:=by rw [cmpN_lt hlt];rfl
   have Hlt:=hid hlt;clear hlt;go_wp2_with fail;refine (cmp_c _ _ _ _ (K+1) _ H8.o H48.o S8.o S4.o (by omega)).mono ?_;rintro e w9 ⟨rfl,hb9⟩;have Hb9:=hid hb9;clear hb9;go_wp2_with fail
   go_roundg ((gk+M/gk)/2)
   case measure=>exact Hlt.o
   case rel=>exact ⟨a8,n8,c8,rfl,hid (H8.o.ext Hb9.o),S8,hid (heron_ge hk0 rfl),hid (HE8.o.trans Hb9.o)⟩
  ·have hd:decide ((0:Int)≤cmpN ((gk+M/gk)/2) gk)=true:=by
    rcases Nat.eq_or_lt_of_le hge with h | h
    ·rw [cmpN_eq h.symm];rfl
    ·rw [cmpN_gt h];rfl
   have Hge:=hid hge;clear hge;go_wp2_with fail;refine (cmp_c _ _ _ _ (K+1) _ H8.o H48.o S8.o S4.o (by omega)).mono ?_;rintro e w9 ⟨rfl,hb9⟩;have Hb9:=hid hb9;clear hb9;go_wp2_with fail;go_ret
   exact ⟨a4,n4,c4,gk,rfl,H48.o.ext Hb9.o,⟨heron_done rfl Hge.o,HM4.o⟩,HE8.o.trans Hb9.o⟩
end Go.Proofs.YtgabigepocfllaaGreatDoor
