/- FloatsCounts (vernierlaw02): for every input the law returns true and its arguments read afterwards as they read before; the listed package variables hold what the program's text lays. -/
import Derived.LaidMore
import Derived.OpenShut
import Derived.Stop.Joined
import Derived.Test.YtgabigepocfllaaGreatDoorQ17
import Derived.Test.YtgabigepocfllaaGreatDoorQ63
namespace Go.Proofs.YtgabigepocfllaaGreatDoor
open Go.ChangeShapes Go.WideShapes Go.ChangeAt Go.RowKit Vn
set_option maxRecDepth 100000
set_option maxHeartbeats 8000000
theorem law_c (E P M:Int) (S T:List UInt8) (z':Int) (w:World) (hS:S.length≤9223372036854775807) (hT:T.length≤9223372036854775807) (hz0' : -9223372036854775808≤z') (hz1':z'<9223372036854775808) (hw:WM w) (hTb:Tabs w) :
  Calls Tryz.prog 8 #[.agg #[.int .i64 E,.int .i64 P,.int .i64 M,.string (ba S),.string (ba T)],.int .i64 z'] w fun e w'=>e=.returned (.bool true)∧Ext w w' :=
 cal_lawA [.m [.int .i64 E,.int .i64 P,.int .i64 M,.string (ba S),.string (ba T)],.s (.int .i64 z')] (cCounts hS hT hz0' hz1') rfl w hw hTb
theorem law_lifted (os:Os) (started:os.Started) (H:Type) (enc:TypeId×Value→H) :
  ReturnsInHanded {} Tryz.checked os 8 .any (fun w args=>(Rows.floatsCountsSpec.pre enc Tryz.prog Tryz.f8 [] false w args∧laidMetH Tryz.prog Rows.floatsCountsRow.laid w)∧sizedMet enc Tryz.prog Tryz.f8 (OpenSpec.ofChange Rows.floatsCountsSpec) false w args)
   (Rows.floatsCountsSpec.post enc Tryz.prog Tryz.f8 false true false false):=by
 refine changeAndShaped (C:=Tryz.checked) (X:=fun w _=>laidMetH Tryz.prog Rows.floatsCountsRow.laid w) (fun _ _ _ hh h=>h.of_heap hh) ownNone started (by kernel_rfl) Tryz.func8
  (ChangeSpec.witness_shaped (enc:=enc) (C:=Tryz.checked) (os:=os) (X:=fun w _=>laidMetH Tryz.prog Rows.floatsCountsRow.laid w) false (World.laidAll Tryz.prog os Rows.floatsCountsRow.laid) #[.agg #[.int .i64 0,.int .i64 0,.int .i64 0,.string ⟨#[]⟩,.string ⟨#[]⟩],.int .i64 0] 8 (World.laidAll_os _ _ _)
   (World.shaped_of_ZipB (by kernel_rfl) (by kernel_rfl)) (by kernel_rfl) (by kernel_rfl) (by kernel_rfl)
   (by rw [MakeChecks.laidMetH_plain _ _ _ (by kernel_rfl)];exact laidMet_laidAll _ (by kernel_rfl) (by kernel_rfl))) ?_
 intro W base args ds gs before hval0 hW hL hsh
 have hval:∀ (j:Nat) t v,Tryz.f8.params[j]?=some t→args[j]?=some v→Value.okWide Tryz.prog W .any base t v:=hval0;have hW':=hW;obtain ⟨p,q,hA0,hV,rfl,_,_⟩:=hW;have hA:DataW.TrodAll enc Tryz.prog W 0 (fun _=>true) true Tryz.f8.params.toList args.toList ds p:=hA0;rw [Tryz.params8] at hA hval;obtain ⟨v0,v1,d0,d1,p0,p1,rfl,rfl,rfl,h0,h1⟩:=trodAll_two hA;obtain ⟨rfl,rfl⟩:=trodVars_none hV;obtain ⟨E,P,M,S,T,hS,hT,rfl⟩:=open_ask (hval 0 36 v0 rfl rfl) h0;obtain ⟨z',hz0',hz1',rfl⟩:=open_i64 (hval 1 2 v1 rfl rfl) h1;simp only [List.append_nil] at hW';have hlt:∀ x∈p0++p1,x.block<W.heap.size:=fun x hx=>by simpa using hW'.lt x hx
 have hlt0:∀ x∈p0,x.block<W.heap.size:=fun x hx=>hlt x (List.mem_append_left _ hx);have hlt1:∀ x∈p1,x.block<W.heap.size:=fun x hx=>hlt x (List.mem_append_right _ hx);rw [MakeChecks.laidMetH_plain _ _ _ (by kernel_rfl)] at hL;refine (law_c E P M S T z' W hS hT hz0' hz1' (wm_of hsh) (tabs_of hL)).mono fun e W' ⟨he,hb⟩ => ?_;subst he
 exact ⟨_,rfl,_,_,_,[],p0++p1,[],hW',trodAll_mk1 (shut_bool Tryz.underlying4 _),trodAll_mk2 (Below.trod laidOutAll (by kernel_rfl) (of_decide_eq_true (by kernel_rfl)) h0 hb hlt0) (Below.trod laidOutAll (by kernel_rfl) (of_decide_eq_true (by kernel_rfl)) h1 hb hlt1),rfl,hb.frame _,fun h=>by cases h⟩
end Go.Proofs.YtgabigepocfllaaGreatDoor
