/-
 THE SHELF AT THIS DUMP, the part on bits (the kit's printer wrote it).
-/
import Derived.Shelf.Small.Bits
import Derived.Shelf.Small.Wraps
import Derived.Lib.BitFns
import Derived.Test.YtgabigepocfllaaGreatDoorQ03
namespace Go.Proofs
open Go.Shelf
set_option maxRecDepth 100000
set_option maxHeartbeats 8000000
def Tryz.lays128_ren:Go.Shelf.Ren:=⟨fun | 128=>282 | n=>n,fun | 3=>3 | 4=>4 | 5=>5 | 9=>9 | 46=>179 | 51=>195 | n=>n,fun  | n=>n⟩
theorem Tryz.lays128:Go.Proofs.Lays.n128 Tryz.prog Tryz.lays128_ren := {
 mixed:=by kernel_rfl
 f128:=Tryz.func282.trans (congrArg some (by kernel_rfl))
 t3:=Tryz.underlying3
 a3:=Tryz.isAgg3
 z3:=Tryz.sizeOf3
 v3:=Tryz.zeroValue3
 t4:=Tryz.underlying4
 a4:=Tryz.isAgg4
 z4:=Tryz.sizeOf4
 v4:=Tryz.zeroValue4
 t5:=Tryz.underlying5
 a5:=Tryz.isAgg5
 z5:=Tryz.sizeOf5
 v5:=Tryz.zeroValue5
 t9:=Tryz.underlying9
 a9:=Tryz.isAgg9
 z9:=Tryz.sizeOf9
 v9:=Tryz.zeroValue9
 t46:=Tryz.underlying179
 a46:=Tryz.isAgg179
 z46:=Tryz.sizeOf179
 v46:=Tryz.zeroValue179
 t51:=Tryz.underlying195
 a51:=Tryz.isAgg195
 z51:=Tryz.sizeOf195
 v51:=Tryz.zeroValue195 }
theorem Tryz.bits_Len32 (x:Int) (w:World) (h0:0≤x) (h1:x≤4294967295) :
  Calls Tryz.prog 282 #[.int .u32 x] w fun e w'=>e=.returned (.int .i64 (Lib.bitLen x.toNat))∧w'=w:=Any.bits_Len32 Tryz.lays128 x w h0 h1
def Tryz.lays133_ren:Go.Shelf.Ren:=⟨fun | 128=>282 | 133=>253 | n=>n,fun | 3=>3 | 4=>4 | 5=>5 | 9=>9 | 46=>179 | 51=>195 | n=>n,fun  | n=>n⟩
theorem Tryz.lays133:Go.Proofs.Lays.n133 Tryz.prog Tryz.lays133_ren := {
 mixed:=by kernel_rfl
 f128:=Tryz.func282.trans (congrArg some (by kernel_rfl))
 f133:=Tryz.func253.trans (congrArg some (by kernel_rfl))
 t3:=Tryz.underlying3
 a3:=Tryz.isAgg3
 z3:=Tryz.sizeOf3
 v3:=Tryz.zeroValue3
 t4:=Tryz.underlying4
 a4:=Tryz.isAgg4
 z4:=Tryz.sizeOf4
 v4:=Tryz.zeroValue4
 t5:=Tryz.underlying5
 a5:=Tryz.isAgg5
 z5:=Tryz.sizeOf5
 v5:=Tryz.zeroValue5
 t9:=Tryz.underlying9
 a9:=Tryz.isAgg9
 z9:=Tryz.sizeOf9
 v9:=Tryz.zeroValue9
 t46:=Tryz.underlying179
 a46:=Tryz.isAgg179
 z46:=Tryz.sizeOf179
 v46:=Tryz.zeroValue179
 t51:=Tryz.underlying195
 a51:=Tryz.isAgg195
 z51:=Tryz.sizeOf195
 v51:=Tryz.zeroValue195 }
theorem Tryz.bits_LeadingZeros32 (x:Int) (w:World) (h0:0≤x) (h1:x≤4294967295) :
  Calls Tryz.prog 253 #[.int .u32 x] w fun e w'=>e=.returned (.int .i64 (32-(Lib.bitLen x.toNat:Int)))∧w'=w:=Any.bits_LeadingZeros32 Tryz.lays133 x w h0 h1
def Tryz.lays129_ren:Go.Shelf.Ren:=⟨fun | 129=>234 | n=>n,fun | 3=>3 | 4=>4 | 5=>5 | 9=>9 | 46=>179 | 53=>27 | n=>n,fun  | n=>n⟩
theorem Tryz.lays129:Go.Proofs.Lays.n129 Tryz.prog Tryz.lays129_ren := {
 mixed:=by kernel_rfl
 f129:=Tryz.func234.trans (congrArg some (by kernel_rfl))
 t3:=Tryz.underlying3
 a3:=Tryz.isAgg3
 z3:=Tryz.sizeOf3
 v3:=Tryz.zeroValue3
 t4:=Tryz.underlying4
 a4:=Tryz.isAgg4
 z4:=Tryz.sizeOf4
 v4:=Tryz.zeroValue4
 t5:=Tryz.underlying5
 a5:=Tryz.isAgg5
 z5:=Tryz.sizeOf5
 v5:=Tryz.zeroValue5
 t9:=Tryz.underlying9
 a9:=Tryz.isAgg9
 z9:=Tryz.sizeOf9
 v9:=Tryz.zeroValue9
 t46:=Tryz.underlying179
 a46:=Tryz.isAgg179
 z46:=Tryz.sizeOf179
 v46:=Tryz.zeroValue179
 t53:=Tryz.underlying27
 a53:=Tryz.isAgg27
 z53:=Tryz.sizeOf27
 v53:=Tryz.zeroValue27 }
theorem Tryz.bits_Len64 (x:Int) (w:World) (h0:0≤x) (h1:x≤18446744073709551615) :
  Calls Tryz.prog 234 #[.int .u64 x] w fun e w'=>e=.returned (.int .i64 (Lib.bitLen x.toNat))∧w'=w:=Any.bits_Len64 Tryz.lays129 x w h0 h1
end Go.Proofs
namespace Go.Proofs.YtgabigepocfllaaGreatDoor
open Go.RowKit Vn
set_option maxRecDepth 100000
set_option maxHeartbeats 8000000
theorem bitLenAux_eq:∀ (k x:Nat),x<2^k→Lib.bitLenAux k x=bl x:=by
 intro k
 induction k with
 | zero=>intro x hx;have h0:x=0:=(by simpa using hx);subst h0;rfl
 | succ k ih =>
  intro x hx
  rcases Nat.eq_zero_or_pos x with h0 | h0
  ·subst h0;simp [Lib.bitLenAux,bl_zero]
  ·have h1:=ih (x/2) (by rw [Nat.pow_succ] at hx;omega);have h2:bl x=bl (x/2)+1:=by
    rcases Nat.eq_zero_or_pos (x/2) with h3 | h3
    ·have:x=1:=by omega
     subst this;rfl
    ·have a1:=bl_lt (x/2);have a2:=bl_le h3;have a3:=bl_pos h3
     have:=bl_unique (n:=x) (k:=bl (x/2)) (by
      have:2^bl (x/2)=2^(bl (x/2)-1)*2:=by rw [←Nat.pow_succ];congr 1;omega
      omega) (by rw [Nat.pow_succ];omega)
     omega
   simp only [Lib.bitLenAux];rw [if_neg (by omega),h1,h2];omega
theorem len32_c (d:Nat) (w:World) (h1:d<4294967296) :
  Calls Tryz.prog 282 #[.int .u32 d] w fun e w'=>e=.returned (.int .i64 (bl d))∧Ext w w':=by
 refine (Tryz.bits_Len32 d w (by omega) (by omega)).mono ?_;rintro e w' ⟨rfl,rfl⟩;refine ⟨?_,Below.refl _ _⟩;rw [Int.toNat_natCast];unfold Lib.bitLen;rw [bitLenAux_eq 64 d (by omega)]
theorem lz32_c (d:Nat) (w:World) (h0:0<d) (h1:d<4294967296) :
  Calls Tryz.prog 253 #[.int .u32 d] w fun e w'=>∃ L:Nat,e=.returned (.int .i64 L)∧L<32∧2147483648≤d*2^L∧d*2^L<4294967296∧Ext w w':=by
 refine (Tryz.bits_LeadingZeros32 d w (by omega) (by omega)).mono ?_;rintro e w' ⟨rfl,rfl⟩;rw [Int.toNat_natCast];unfold Lib.bitLen;rw [bitLenAux_eq 64 d (by omega)];have a1:=bl_lt d;have a2:=bl_le h0;have a3:=bl_pos h0;have a4:bl d≤32:=bl_le_of_lt h1;refine ⟨32-bl d,?_,by omega,?_,?_,Below.refl _ _⟩
 ·have:(32-(bl d:Int))=((32-bl d:Nat):Int):=by omega
  rw [this]
 ·have:=Nat.mul_le_mul_right (2^(32-bl d)) a2
  rw [←Nat.pow_add,show bl d-1+(32-bl d)=31 by omega] at this
  exact this
 ·have:=Nat.mul_lt_mul_of_pos_right a1 (show 0<2^(32-bl d) from Nat.pow_pos (by decide))
  rw [←Nat.pow_add,show bl d+(32-bl d)=32 by omega] at this
  exact this
theorem ret_int {k:IntKind} {a b:Int} (h:a=b):Ending.returned (.int k a)=.returned (.int k b):=by rw [h]
theorem bits_core (aa:Option Addr) (ba oa ca n d:Nat) (w:World) (hn0:0<n) (hn:n≤100000000) (hd:d<4294967296) (Hax:Hid (0<n→aa=some ⟨ba,oa,none⟩)) (hcell:w.cell? ⟨ba,oa+(n-1),none⟩=some (.int .u32 d)) :
  Calls Tryz.prog 267 #[.slice aa n ca] w fun e w'=>e=.returned (.int .i64 ((32*(n-1)+bl d:Nat):Int))∧Ext w w':=by
 obtain rfl:=Hax.o (by omega);have hb:bl d≤32:=bl_le_of_lt hd;have hne:((n:Int)==0)=false:=by simp;omega
 go_enter Tryz.func267,Tryz.ntmps267
 go_wp2_with fail;refine (len32_c d _ hd).mono ?_;rintro e w1 ⟨rfl,hb1⟩;obtain ⟨z,hz⟩:∃ z,z=bl d:=⟨_,rfl⟩;rw [←hz] at hb ⊢;have Hz:=hid hz;clear hz;go_wp2_with fail;go_ret
 exact ⟨ret_int (by have:=Hz.o;omega),hb1⟩
theorem bits_nil (aa:Option Addr) (ca:Nat) (w:World):Calls Tryz.prog 267 #[.slice aa 0 ca] w fun e w'=>e=.returned (.int .i64 0)∧Ext w w':=by
 go_enter Tryz.func267,Tryz.ntmps267
 go_wp2
 go_ret
 exact ⟨rfl,Below.refl _ _⟩
theorem bits_c (x:Value) (M K:Nat) (w:World) (hx:NatV w x M) (sx:Sm K M) (hK:K≤50000000) :
  Calls Tryz.prog 267 #[x] w fun e w'=>e=.returned (.int .i64 (bl M))∧Ext w w':=by
 obtain ⟨a,b,off,n,cap,l,rfl,h1,h2,h3,h4,h5,h6,h7,h8⟩:=hx.open;have e1:=sx.len h5.o h6.o;rw [h3.o] at e1
 rcases Nat.eq_zero_or_pos n with h0 | h0
 ·subst h0;have hl:l=[]:=List.eq_nil_of_length_eq_zero h3.o;have hM:M=0:=by rw [←h6.o,hl];rfl
  subst hM
  exact bits_nil a cap w
 ·refine (bits_core a b off cap n (l.getD (n-1) 0) w h0 (by omega) (h5.o.dig.get (by decide) _) h4 (h7.o (n-1) (by omega))).mono ?_;rintro e w' ⟨rfl,hb⟩;refine ⟨?_,hb⟩;have hd:0<l.getD (n-1) 0:=by
   rcases h5.o.trim with h | h
   ·have:=h3.o;rw [h] at this;simp at this;omega
   ·rwa [h3.o] at h
  have ht:=dv_top1 4294967296 l (n-1) (by rw [h3.o];omega);rw [h6.o] at ht;have hlow:=Vn.dv_lt (B:=4294967296) (by decide) (h5.o.dig.take (n-1));rw [List.length_take,h3.o,Nat.min_eq_left (by omega)] at hlow;rw [bl_words hd hlow ht]
end Go.Proofs.YtgabigepocfllaaGreatDoor
