/- strconv.FormatUint, in base ten: the numeral of whatever number. -/
import Derived.Test.YtoaoebimjmjpeaaGreatDoorT16
import Derived.Test.YtoaoebimjmjpeaaGreatDoorT26
import Derived.Test.YtoaoebimjmjpeaaGreatDoorT27
namespace Go.Proofs.YtoaoebimjmjpeaaGreatDoor
open Go.RowKit Go.Sort Vn
set_option maxRecDepth 100000
set_option maxHeartbeats 8000000
theorem ifmtU_c (u:Nat) (w:World) (hu:u<18446744073709551616) (hT:Tabs w) :
  Calls Tryz.prog 256 #[.int .u64 u,.int .i64 10] w fun e w'=>e=.returned (.string ⟨(Lib.decDigits u).toArray⟩)∧Ext w w':=by
 by_cases hs:u<100
 ·exact (ifmt_c u w hs).mono fun e w' ⟨h1,h2⟩=>⟨h1,by subst h2;exact Below.refl _ _⟩
 ·have hu1:1≤u:=by omega
  have htab:=hT.p10;have hnd20:Lib.nDigits u≤20:=by have:=Lib.numDigits_eq u hu1 hu;split at this<;>omega
  have hb3:Lib.nDigits u≤24:=by omega
  have hal:Tryz.prog.arrayLen 394=24:=by kernel_rfl
  have hsl1:∀ W,(Instr.sliceAt 394 (.pointer (some ⟨w.heap.size,0,none⟩)) none (some (.int .i64 (Lib.nDigits u:Int))) none).run Tryz.prog W=.ok (.slice (some ⟨w.heap.size,0,none⟩) (Lib.nDigits u) 24) W:=fun W=>by
   rw [run_sliceAt_array_h W 394 ⟨w.heap.size,0,none⟩ (by kernel_rfl) .i64 (Lib.nDigits u:Int) (by omega) (by rw [hal];omega)];go_simp
  have hH0:=Lib.holds_zero0 w 394 (Lib.nDigits u) (by omega);have hfmt:=Any.internal_strconv_formatBase10 Tryz.lays285 w.heap.size 0 24 u (Array.replicate (Lib.nDigits u) 0) (w.alloc (.cells Lib.zeros24 394)) hH0 (by rw [Array.size_replicate];exact Lib.lt_pow_nDigits u) hu (by rw [Array.size_replicate];omega);rw [Array.size_replicate] at hfmt;have HH0:=hid hH0;have hlt:((u:Int)<100)=False:=by simp;omega
  have hnd:=Any.internal_strconv_numDigits Tryz.laysM284 u hu1 hu;have CND:Hid (∀ w,Lib.TabIs Tryz.prog w "internal/strconv.uint64pow10" .u64 Lib.pow10Tab→Calls Tryz.prog 306 #[.int .u64 u] w fun e w'=>e=.returned (.int .i64 (Lib.nDigits u))∧w'=w):=hid hnd;clear hH0 hal hnd
  go_enter Tryz.func256,Tryz.ntmps256
  go_wp2_with (first
   | (go_at_call 306;refine (CND.o _ (Lib.tabIs_alloc htab _)).mono ?_;rintro e w' ⟨rfl,rfl⟩))
  refine hfmt.mono ?_;rintro e w' ⟨rfl,k,v',dk,rfl,hF⟩;have hcv:(convert 276 9 (.slice (some ⟨w.heap.size,0,none⟩) (Lib.nDigits u) 24)).run Tryz.prog ((putRow (fun (b:UInt8)=>Value.int .u8 (b.toNat:Int)) (w.alloc (.cells Lib.zeros24 394)) w.heap.size 0 dk).drewN k)=.ok (.string ⟨(Lib.decDigits u).toArray⟩) ((putRow (fun (b:UInt8)=>Value.int .u8 (b.toNat:Int)) (w.alloc (.cells Lib.zeros24 394)) w.heap.size 0 dk).drewN k):=by
   have h:=run_convert_bytes_back (P:=Tryz.prog) ((putRow (fun (b:UInt8)=>Value.int .u8 (b.toNat:Int)) (w.alloc (.cells Lib.zeros24 394)) w.heap.size 0 dk).drewN k) 276 9 5 ⟨w.heap.size,0,none⟩ 24 (Lib.decDigits u) Tryz.underlying276 Tryz.underlying5 Tryz.underlying9 (fun j hj=>by
    rw [Lib.row_is_numeral hF j hj,Lib.add_plain,World.cell?_drewN]
    exact cell?_putRow (fun (b:UInt8)=>Value.int .u8 (b.toNat:Int)) _ w.heap.size 0 _ dk HH0.o (by rw [hF.size,Array.size_replicate]) j (by rw [hF.size];rw [Lib.decDigits_length] at hj;exact hj))
   rw [Lib.decDigits_length] at h
   exact h
  go_wp2
  obtain ⟨os,eo⟩:=Lib.fin_at w (.cells Lib.zeros24 394) dk k 0;refine bodyPost_ret (v:=.string ⟨(Lib.decDigits u).toArray⟩) (by simp [results,Tryz.results256,go_sem]) rfl ⟨rfl,?_⟩;rw [eo]
  exact Lib.below_grow _ w (Nat.le_refl _) k os
theorem fmtU_c (u:Nat) (w:World) (hu:u<18446744073709551616) (hT:Tabs w) :
  Calls Tryz.prog 166 #[.int .u64 u,.int .i64 10] w fun e w'=>e=.returned (.string ⟨(Lib.decDigits u).toArray⟩)∧Ext w w':=by
 go_enter Tryz.func166,Tryz.ntmps166
 go_wp2_with (go_at_call 256;refine (ifmtU_c u _ hu hT).mono ?_;rintro e w' ⟨rfl,g1⟩)
 refine bodyPost_ret (v:=.string ⟨(Lib.decDigits u).toArray⟩) (by simp [results,Tryz.results166,go_sem]) rfl ⟨rfl,g1⟩
end Go.Proofs.YtoaoebimjmjpeaaGreatDoor
