/- Natural numbers in words of 32 bits: bits returns how many binary digits there are. -/
import Derived.Test.YtopmjkkjlagfcaaGreatDoorX08
import Derived.Test.YtopmjkkjlagfcaaGreatDoorX09
namespace Go.Proofs.YtopmjkkjlagfcaaGreatDoor
open Go.RowKit Vn
set_option maxRecDepth 100000
set_option maxHeartbeats 8000000
theorem ret_int {k:IntKind} {a b:Int} (h:a=b):Ending.returned (.int k a)=.returned (.int k b):=by rw [h]
theorem bits_core (aa:Option Addr) (ba oa ca n d:Nat) (w:World) (hn0:0<n) (hn:n≤100000000) (hd:d<4294967296) (Hax:Hid (0<n→aa=some ⟨ba,oa,none⟩)) (hcell:w.cell? ⟨ba,oa+(n-1),none⟩=some (.int .u32 d)) :
  Calls Tryz.prog 215 #[.slice aa n ca] w fun e w'=>e=.returned (.int .i64 ((32*(n-1)+bl d:Nat):Int))∧Ext w w':=by
 obtain rfl:=Hax.o (by omega);have hb:bl d≤32:=bl_le_of_lt hd;have hne:((n:Int)==0)=false:=by simp;omega
 go_enter Tryz.func215,Tryz.ntmps215
 go_wp2_with fail;refine (len32_c d _ hd).mono ?_;rintro e w1 ⟨rfl,hb1⟩;obtain ⟨z,hz⟩:∃ z,z=bl d:=⟨_,rfl⟩;rw [←hz] at hb ⊢;have Hz:=hid hz;clear hz;go_wp2_with fail;go_ret
 exact ⟨ret_int (by have:=Hz.o;omega),hb1⟩
theorem bits_nil (aa:Option Addr) (ca:Nat) (w:World):Calls Tryz.prog 215 #[.slice aa 0 ca] w fun e w'=>e=.returned (.int .i64 0)∧Ext w w':=by
 go_enter Tryz.func215,Tryz.ntmps215
 go_wp2
 go_ret
 exact ⟨rfl,Below.refl _ _⟩
theorem bits_c (x:Value) (M K:Nat) (w:World) (hx:NatV w x M) (sx:Sm K M) (hK:K≤50000000) :
  Calls Tryz.prog 215 #[x] w fun e w'=>e=.returned (.int .i64 (bl M))∧Ext w w':=by
 obtain ⟨a,b,off,n,cap,l,rfl,h1,h2,h3,h4,h5,h6,h7,h8⟩:=hx.open;have e1:=sx.len h5.o h6.o;rw [h3.o] at e1
 rcases Nat.eq_zero_or_pos n with h0 | h0
 ·subst h0;have hl:l=[]:=List.eq_nil_of_length_eq_zero h3.o;have hM:M=0:=by rw [←h6.o,hl];rfl
  subst hM
  exact bits_nil a cap w
 ·refine (bits_core a b off cap n (l.getD (n-1) 0) w h0 (by omega) (h5.o.dig.get (by decide) _) h4 (h7.o (n-1) (by omega))).mono ?_;rintro e w' ⟨rfl,hb⟩;refine ⟨?_,hb⟩;have hd:0<l.getD (n-1) 0:=by
   rcases h5.o.trim with h | h
   ·have:=h3.o;rw [h] at this;simp at this;omega
   ·rwa [h3.o] at h
  have ht:=dv_top1 4294967296 l (n-1) (by rw [h3.o];omega);rw [h6.o] at ht;have hlow:=Vn.dv_lt (B:=4294967296) (by decide) (h5.o.dig.take (n-1));rw [List.length_take,h3.o,Nat.min_eq_left (by omega)] at hlow;rw [bl_words hd hlow ht]
end Go.Proofs.YtopmjkkjlagfcaaGreatDoor
