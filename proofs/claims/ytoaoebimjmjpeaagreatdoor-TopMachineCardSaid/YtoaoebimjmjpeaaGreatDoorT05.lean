/- What the library's functions on bits return. -/
import Derived.Lib.BitFns
import Derived.Test.YtoaoebimjmjpeaaGreatDoorT03
import Derived.Test.YtoaoebimjmjpeaaGreatDoorT04
namespace Go.Proofs.YtoaoebimjmjpeaaGreatDoor
open Go.RowKit Vn
set_option maxRecDepth 100000
set_option maxHeartbeats 8000000
theorem bitLenAux_eq:∀ (k x:Nat),x<2^k→Lib.bitLenAux k x=bl x:=by
 intro k
 induction k with
 | zero=>intro x hx;have h0:x=0:=(by simpa using hx);subst h0;rfl
 | succ k ih =>
  intro x hx
  rcases Nat.eq_zero_or_pos x with h0 | h0
  ·subst h0;simp [Lib.bitLenAux,bl_zero]
  ·have h1:=ih (x/2) (by rw [Nat.pow_succ] at hx;omega);have h2:bl x=bl (x/2)+1:=by
    rcases Nat.eq_zero_or_pos (x/2) with h3 | h3
    ·have:x=1:=by omega
     subst this;rfl
    ·have a1:=bl_lt (x/2);have a2:=bl_le h3;have a3:=bl_pos h3
     have:=bl_unique (n:=x) (k:=bl (x/2)) (by
      have:2^bl (x/2)=2^(bl (x/2)-1)*2:=by rw [←Nat.pow_succ];congr 1;omega
      omega) (by rw [Nat.pow_succ];omega)
     omega
   simp only [Lib.bitLenAux];rw [if_neg (by omega),h1,h2];omega
theorem len32_c (d:Nat) (w:World) (h1:d<4294967296) :
  Calls Tryz.prog 279 #[.int .u32 d] w fun e w'=>e=.returned (.int .i64 (bl d))∧Ext w w':=by
 refine (Tryz.bits_Len32 d w (by omega) (by omega)).mono ?_;rintro e w' ⟨rfl,rfl⟩;refine ⟨?_,Below.refl _ _⟩;rw [Int.toNat_natCast];unfold Lib.bitLen;rw [bitLenAux_eq 64 d (by omega)]
theorem lz32_c (d:Nat) (w:World) (h0:0<d) (h1:d<4294967296) :
  Calls Tryz.prog 280 #[.int .u32 d] w fun e w'=>∃ L:Nat,e=.returned (.int .i64 L)∧L<32∧2147483648≤d*2^L∧d*2^L<4294967296∧Ext w w':=by
 refine (Tryz.bits_LeadingZeros32 d w (by omega) (by omega)).mono ?_;rintro e w' ⟨rfl,rfl⟩;rw [Int.toNat_natCast];unfold Lib.bitLen;rw [bitLenAux_eq 64 d (by omega)];have a1:=bl_lt d;have a2:=bl_le h0;have a3:=bl_pos h0;have a4:bl d≤32:=bl_le_of_lt h1;refine ⟨32-bl d,?_,by omega,?_,?_,Below.refl _ _⟩
 ·have:(32-(bl d:Int))=((32-bl d:Nat):Int):=by omega
  rw [this]
 ·have:=Nat.mul_le_mul_right (2^(32-bl d)) a2
  rw [←Nat.pow_add,show bl d-1+(32-bl d)=31 by omega] at this
  exact this
 ·have:=Nat.mul_lt_mul_of_pos_right a1 (show 0<2^(32-bl d) from Nat.pow_pos (by decide))
  rw [←Nat.pow_add,show bl d+(32-bl d)=32 by omega] at this
  exact this
theorem ret_int {k:IntKind} {a b:Int} (h:a=b):Ending.returned (.int k a)=.returned (.int k b):=by rw [h]
theorem bits_core (aa:Option Addr) (ba oa ca n d:Nat) (w:World) (hn0:0<n) (hn:n≤100000000) (hd:d<4294967296) (Hax:Hid (0<n→aa=some ⟨ba,oa,none⟩)) (hcell:w.cell? ⟨ba,oa+(n-1),none⟩=some (.int .u32 d)) :
  Calls Tryz.prog 208 #[.slice aa n ca] w fun e w'=>e=.returned (.int .i64 ((32*(n-1)+bl d:Nat):Int))∧Ext w w':=by
 obtain rfl:=Hax.o (by omega);have hb:bl d≤32:=bl_le_of_lt hd;have hne:((n:Int)==0)=false:=by simp;omega
 go_enter Tryz.func208,Tryz.ntmps208
 go_wp2_with fail;refine (len32_c d _ hd).mono ?_;rintro e w1 ⟨rfl,hb1⟩;obtain ⟨z,hz⟩:∃ z,z=bl d:=⟨_,rfl⟩;rw [←hz] at hb ⊢;have Hz:=hid hz;clear hz;go_wp2_with fail;go_ret
 exact ⟨ret_int (by have:=Hz.o;omega),hb1⟩
theorem bits_nil (aa:Option Addr) (ca:Nat) (w:World):Calls Tryz.prog 208 #[.slice aa 0 ca] w fun e w'=>e=.returned (.int .i64 0)∧Ext w w':=by
 go_enter Tryz.func208,Tryz.ntmps208
 go_wp2
 go_ret
 exact ⟨rfl,Below.refl _ _⟩
theorem bits_c (x:Value) (M K:Nat) (w:World) (hx:NatV w x M) (sx:Sm K M) (hK:K≤50000000) :
  Calls Tryz.prog 208 #[x] w fun e w'=>e=.returned (.int .i64 (bl M))∧Ext w w':=by
 obtain ⟨a,b,off,n,cap,l,rfl,h1,h2,h3,h4,h5,h6,h7,h8⟩:=hx.open;have e1:=sx.len h5.o h6.o;rw [h3.o] at e1
 rcases Nat.eq_zero_or_pos n with h0 | h0
 ·subst h0;have hl:l=[]:=List.eq_nil_of_length_eq_zero h3.o;have hM:M=0:=by rw [←h6.o,hl];rfl
  subst hM
  exact bits_nil a cap w
 ·refine (bits_core a b off cap n (l.getD (n-1) 0) w h0 (by omega) (h5.o.dig.get (by decide) _) h4 (h7.o (n-1) (by omega))).mono ?_;rintro e w' ⟨rfl,hb⟩;refine ⟨?_,hb⟩;have hd:0<l.getD (n-1) 0:=by
   rcases h5.o.trim with h | h
   ·have:=h3.o;rw [h] at this;simp at this;omega
   ·rwa [h3.o] at h
  have ht:=dv_top1 4294967296 l (n-1) (by rw [h3.o];omega);rw [h6.o] at ht;have hlow:=Vn.dv_lt (B:=4294967296) (by decide) (h5.o.dig.take (n-1));rw [List.length_take,h3.o,Nat.min_eq_left (by omega)] at hlow;rw [bl_words hd hlow ht]
end Go.Proofs.YtoaoebimjmjpeaaGreatDoor
