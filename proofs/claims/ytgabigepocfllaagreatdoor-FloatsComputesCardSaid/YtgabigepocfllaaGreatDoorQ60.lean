/- FloatsComputes (vernierlaw02): for every input the law returns true and its arguments read afterwards as they read before; the listed package variables hold what the program's text lays. -/
import Derived.LaidMore
import Derived.OpenShut
import Derived.Stop.Joined
import Derived.Test.YtgabigepocfllaaGreatDoorQ17
import Derived.Test.YtgabigepocfllaaGreatDoorQ59
namespace Go.Proofs.YtgabigepocfllaaGreatDoor
open Go.ChangeShapes Go.WideShapes Go.ChangeAt Go.RowKit Vn
set_option maxRecDepth 100000
set_option maxHeartbeats 8000000
theorem law_c (E P M:Int) (i0 i1 j0 j1 c0 c1:Nat) (w:World) (hi0:i0<18446744073709551616) (hi1:i1<18446744073709551616) (hj0:j0<18446744073709551616) (hj1:j1<18446744073709551616) (hc0:c0<18446744073709551616) (hc1:c1<18446744073709551616) (hw:WM w) (hTb:Tabs w) :
  Calls Tryz.prog 9 #[.agg #[.int .i64 E,.int .i64 P,.int .i64 M,.int .u64 (i0:Nat),.int .u64 (i1:Nat),.int .u64 (j0:Nat),.int .u64 (j1:Nat),.int .u64 (c0:Nat),.int .u64 (c1:Nat)]] w fun e w'=>e=.returned (.bool true)∧Ext w w' :=
 cal_lawA [.m [.int .i64 E,.int .i64 P,.int .i64 M,.int .u64 (i0:Nat),.int .u64 (i1:Nat),.int .u64 (j0:Nat),.int .u64 (j1:Nat),.int .u64 (c0:Nat),.int .u64 (c1:Nat)]] (cComputesL hi0 hi1 hj0 hj1 hc0 hc1) rfl w hw hTb
theorem law_lifted (os:Os) (started:os.Started) (H:Type) (enc:TypeId×Value→H) :
  ReturnsInHanded {} Tryz.checked os 9 .any (fun w args=>(Rows.floatsComputesSpec.pre enc Tryz.prog Tryz.f9 [] false w args∧laidMetH Tryz.prog Rows.floatsComputesRow.laid w)∧sizedMet enc Tryz.prog Tryz.f9 (OpenSpec.ofChange Rows.floatsComputesSpec) false w args)
   (Rows.floatsComputesSpec.post enc Tryz.prog Tryz.f9 false true false false):=by
 refine changeAndShaped (C:=Tryz.checked) (X:=fun w _=>laidMetH Tryz.prog Rows.floatsComputesRow.laid w) (fun _ _ _ hh h=>h.of_heap hh) ownNone started (by kernel_rfl) Tryz.func9
  (ChangeSpec.witness_shaped (enc:=enc) (C:=Tryz.checked) (os:=os) (X:=fun w _=>laidMetH Tryz.prog Rows.floatsComputesRow.laid w) false (World.laidAll Tryz.prog os Rows.floatsComputesRow.laid) #[.agg #[.int .i64 0,.int .i64 0,.int .i64 0,.int .u64 0,.int .u64 0,.int .u64 0,.int .u64 0,.int .u64 0,.int .u64 0]] 8 (World.laidAll_os _ _ _)
   (World.shaped_of_ZipB (by kernel_rfl) (by kernel_rfl)) (by kernel_rfl) (by kernel_rfl) (by kernel_rfl)
   (by rw [MakeChecks.laidMetH_plain _ _ _ (by kernel_rfl)];exact laidMet_laidAll _ (by kernel_rfl) (by kernel_rfl))) ?_
 intro W base args ds gs before hval0 hW hL hsh
 have hval:∀ (j:Nat) t v,Tryz.f9.params[j]?=some t→args[j]?=some v→Value.okWide Tryz.prog W .any base t v:=hval0;have hW':=hW;obtain ⟨p,q,hA0,hV,rfl,_,_⟩:=hW;have hA:DataW.TrodAll enc Tryz.prog W 0 (fun _=>true) true Tryz.f9.params.toList args.toList ds p:=hA0;rw [Tryz.params9] at hA hval;obtain ⟨v0,d0,rfl,rfl,h0⟩:=trodAll_one hA;obtain ⟨rfl,rfl⟩:=trodVars_none hV;obtain ⟨E,P,M,i0,i1,j0,j1,c0,c1,hi0,hi1,hj0,hj1,hc0,hc1,rfl⟩:=open_op3 (hval 0 61 v0 rfl rfl) h0;simp only [List.append_nil] at hW';have hlt:∀ x∈p,x.block<W.heap.size:=fun x hx=>by simpa using hW'.lt x hx
 rw [MakeChecks.laidMetH_plain _ _ _ (by kernel_rfl)] at hL;refine (law_c E P M i0 i1 j0 j1 c0 c1 W hi0 hi1 hj0 hj1 hc0 hc1 (wm_of hsh) (tabs_of hL)).mono fun e W' ⟨he,hb⟩ => ?_;subst he
 exact ⟨_,rfl,_,_,_,[],p,[],hW',trodAll_mk1 (shut_bool Tryz.underlying4 _),trodAll_mk1 (Below.trod laidOutAll (by kernel_rfl) (of_decide_eq_true (by kernel_rfl)) h0 hb hlt),rfl,hb.frame _,fun h=>by cases h⟩
end Go.Proofs.YtgabigepocfllaaGreatDoor
