/- Words, values and results held against each other. -/
import Derived.Laws.StructEq
import Derived.Test.YtgabigepocfllaaGreatDoorG24
namespace Go.Proofs.YtgabigepocfllaaGreatDoor
open Go.RowKit Vn
set_option maxRecDepth 100000
set_option maxHeartbeats 8000000
theorem inWord (a b c d:Int) (n:Nat) (w:World):(Op.equalIn (n+2) 29 (.agg #[.int .u64 a,.int .u64 b]) (.agg #[.int .u64 c,.int .u64 d])).run Tryz.prog w=.ok (a==c&&(b==d&&true)) w:=by
 have u3:=Tryz.underlying27;have a3:=Tryz.isAgg27;have z3:=Tryz.sizeOf27;have hS:Tryz.prog.underlying 29=some (.struct (Tryz.prog.fieldsOf 29)):=by kernel_rfl
 have hp:Tryz.prog.stoodInHeld 29=false:=by kernel_rfl
 rw [run_equalIn_agg w (n+1) 29 _ _ hS hp];simp only [Program.fieldsOf,Tryz.underlying29];go_simp
 by_cases h1:a=c<;>by_cases h2:b=d<;>simp [h1,h2]
theorem eq_Word:EqFact Tryz.prog 29 [.v (.int .u64 0),.v (.int .u64 0)]:=by
 refine eqFact_of (by kernel_rfl) fun vs us b w h0 => ?_;obtain ⟨x0,l,y0,m,r,rfl,rfl,h1,rfl⟩:=eqV_int h0;obtain ⟨x1,l,y1,m,r,rfl,rfl,h2,rfl⟩:=eqV_int h1;obtain ⟨rfl,rfl,rfl⟩:=eqV_nil h2
 exact inWord x0 x1 y0 y1 9998 w
theorem eq_FlVal:EqFact Tryz.prog 26 [.v (.int .i64 0),.v (.bool false),.v (.string ⟨#[]⟩)]:=by
 refine eqFact_of (by kernel_rfl) fun vs us b w h0 => ?_;obtain ⟨x0,l,y0,m,r,rfl,rfl,h1,rfl⟩:=eqV_int h0;obtain ⟨x1,l,y1,m,r,rfl,rfl,h2,rfl⟩:=eqV_bool h1;obtain ⟨x2,l,y2,m,r,rfl,rfl,h3,rfl⟩:=eqV_str h2;obtain ⟨rfl,rfl,rfl⟩:=eqV_nil h3
 ·clear h0 h1 h2 h3;have u3:=Tryz.underlying3;have a3:=Tryz.isAgg3;have z3:=Tryz.sizeOf3;have u4:=Tryz.underlying4;have a4:=Tryz.isAgg4;have z4:=Tryz.sizeOf4;have u5:=Tryz.underlying24;have a5:=Tryz.isAgg24;have z5:=Tryz.sizeOf24;have hS:Tryz.prog.underlying 26=some (.struct (Tryz.prog.fieldsOf 26)):=by kernel_rfl
  have hp:Tryz.prog.stoodInHeld 26=false:=by kernel_rfl
  rw [show (10000:Nat)=9999+1 from rfl,run_equalIn_agg w 9999 26 _ _ hS hp];simp only [Program.fieldsOf,Tryz.underlying26];go_simp
  by_cases h1:x0=y0<;>by_cases h2:x1=y1<;>by_cases h3:x2.toList=y2.toList<;>simp [h1,h2,h3]
theorem eq_result:EqFact Tryz.prog 72 [.v (.int .u64 0),.v (.int .u64 0),.v (.int .i64 0),.v (.int .i64 0)]:=by
 refine eqFact_of (by kernel_rfl) fun vs us b w h0 => ?_;obtain ⟨x0,l,y0,m,r,rfl,rfl,h1,rfl⟩:=eqV_int h0;obtain ⟨x1,l,y1,m,r,rfl,rfl,h2,rfl⟩:=eqV_int h1;obtain ⟨x2,l,y2,m,r,rfl,rfl,h3,rfl⟩:=eqV_int h2;obtain ⟨x3,l,y3,m,r,rfl,rfl,h4,rfl⟩:=eqV_int h3;obtain ⟨rfl,rfl,rfl⟩:=eqV_nil h4
 ·clear h0 h1 h2 h3 h4;have hw:=inWord x0 x1 y0 y1 9997 w;have u3:=Tryz.underlying3;have a3:=Tryz.isAgg3;have z3:=Tryz.sizeOf3;have u4:=Tryz.underlying30;have a4:=Tryz.isAgg30;have z4:=Tryz.sizeOf30;have a5:=Tryz.isAgg29;have z5:=Tryz.sizeOf29;have hS:Tryz.prog.underlying 72=some (.struct (Tryz.prog.fieldsOf 72)):=by kernel_rfl
  have hp:Tryz.prog.stoodInHeld 72=false:=by kernel_rfl
  rw [show (10000:Nat)=9999+1 from rfl,run_equalIn_agg w 9999 72 _ _ hS hp];simp only [Program.fieldsOf,Tryz.underlying72];go_simp
  by_cases h1:x0=y0<;>by_cases h2:x1=y1<;>by_cases h3:x2=y2<;>by_cases h4:x3=y3<;>simp [h1,h2,h3,h4]
def TL:List (Nat×Ty):=[
 (2,⟨false,[.v (.int .i64 0)],[],none,.int .i64,false,none⟩),
 (3,⟨false,[.v (.int .i64 0)],[],none,.int .i64,false,none⟩),
 (4,⟨false,[.v (.bool false)],[],none,.bool,false,none⟩),
 (5,⟨false,[.v (.int .u8 0)],[],none,.int .u8,false,none⟩),
 (9,⟨false,[.v (.string ⟨#[]⟩)],[],none,.str,false,none⟩),
 (23,⟨true,[.v (.int .i64 0),.v (.int .i64 0)],[(0,1,false),(1,1,false)],none,.other,false,none⟩),
 (24,⟨false,[.v (.string ⟨#[]⟩)],[],none,.str,false,none⟩),
 (26,⟨true,[.v (.int .i64 0),.v (.bool false),.v (.string ⟨#[]⟩)],[(0,1,false),(1,1,false),(2,1,false)],none,.other,true,none⟩),
 (27,⟨false,[.v (.int .u64 0)],[],none,.int .u64,false,none⟩),
 (29,⟨true,[.v (.int .u64 0),.v (.int .u64 0)],[(0,1,false),(1,1,false)],none,.other,true,none⟩),
 (30,⟨false,[.v (.int .i64 0)],[],none,.int .i64,false,none⟩),
 (36,⟨true,[.v (.int .i64 0),.v (.int .i64 0),.v (.int .i64 0),.v (.string ⟨#[]⟩),.v (.string ⟨#[]⟩)],[(0,2,true),(2,1,false),(3,1,false),(4,1,false)],none,.other,false,none⟩),
 (37,⟨false,[.o 0 0],[],(some 1),.other,false,none⟩),
 (38,⟨false,[.o 0 0],[],(some 1),.other,false,none⟩),
 (40,⟨true,[.v (.bool false),.o 0 0,.o 1 1],[(0,1,false),(1,1,false),(2,1,false)],none,.other,false,none⟩),
 (41,⟨false,[.o 2 0],[],(some 1),.other,false,none⟩),
 (43,⟨true,[.v (.int .i64 0),.o 2 0,.o 2 0],[(0,1,false),(1,1,false),(2,1,false)],none,.other,false,none⟩),
 (61,⟨true,[.v (.int .i64 0),.v (.int .i64 0),.v (.int .i64 0),.v (.int .u64 0),.v (.int .u64 0),.v (.int .u64 0),.v (.int .u64 0),.v (.int .u64 0),.v (.int .u64 0)],[(0,2,true),(2,1,false),(3,2,true),(5,2,true),(7,2,true)],none,.other,false,none⟩),
 (72,⟨true,[.v (.int .u64 0),.v (.int .u64 0),.v (.int .i64 0),.v (.int .i64 0)],[(0,2,true),(2,1,false),(3,1,false)],none,.other,true,none⟩),
 (96,⟨true,[.v (.int .i64 0),.v (.int .i64 0),.v (.int .i64 0),.v (.int .i64 0)],[(0,2,true),(2,1,false),(3,1,false)],none,.other,false,none⟩),
 (124,⟨true,[.v (.int .i64 0),.v (.bool false),.v (.bool false),.o 0 0,.o 1 1],[(0,1,false),(1,1,false),(2,3,true)],none,.other,false,none⟩),
 (135,⟨false,[.sl 2 []],[],(some 2),.other,false,none⟩),
 (137,⟨true,[.v (.int .i64 0),.v (.bool false),.v (.int .i64 0),.o 2 0,.o 2 0],[(0,1,false),(1,1,false),(2,3,true)],none,.other,false,none⟩),
 (144,⟨false,[.sl 5 []],[],(some 5),.other,false,none⟩),
 (179,⟨false,[.v (.int .u64 0)],[],none,.int .u64,false,none⟩),
 (191,⟨false,[.sl 5 []],[],(some 5),.other,false,none⟩),
 (195,⟨false,[.v (.int .u32 0)],[],none,.int .u32,false,none⟩),
 (216,⟨true,[.v (.int .i64 0),.v (.int .i64 0),.v (.int .i64 0),.v (.int .i64 0),.v (.int .i64 0)],[],none,.other,false,(some 5)⟩),
 (222,⟨false,[.sl 1 []],[],(some 1),.other,false,none⟩),
 (228,⟨false,[.sl 1 []],[],(some 1),.other,false,none⟩)]
def TB:Tys:=fun t=>look TL t
theorem TK:TyOK Tryz.prog OQ TB:=tyOK (by kernel_rfl) (by
 intro x hx he
 simp only [TL,List.mem_cons,List.not_mem_nil,or_false] at hx
 rcases hx with rfl | rfl | rfl | rfl | rfl | rfl | rfl | rfl | rfl | rfl | rfl | rfl | rfl | rfl | rfl | rfl | rfl | rfl | rfl | rfl | rfl | rfl | rfl | rfl | rfl | rfl | rfl | rfl | rfl | rfl<;>first | exact absurd he Bool.false_ne_true | exact eq_Word | exact eq_FlVal | exact eq_result)
theorem MX:Tryz.prog.follows .mixedOrders=true:=by kernel_rfl
end Go.Proofs.YtgabigepocfllaaGreatDoor
