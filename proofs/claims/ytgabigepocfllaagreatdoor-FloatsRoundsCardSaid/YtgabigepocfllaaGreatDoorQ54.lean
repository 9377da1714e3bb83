/- FloatsRounds (vernierlaw02): for every input the law returns true and its arguments read afterwards as they read before; the listed package variables hold what the program's text lays. -/
import Derived.LaidMore
import Derived.OpenShut
import Derived.Stop.Joined
import Derived.Test.YtgabigepocfllaaGreatDoorQ17
import Derived.Test.YtgabigepocfllaaGreatDoorQ53
namespace Go.Proofs.YtgabigepocfllaaGreatDoor
open Go.ChangeShapes Go.WideShapes Go.ChangeAt Go.RowKit Vn
set_option maxRecDepth 100000
set_option maxHeartbeats 8000000
theorem law_c (E P M:Int) (S T:List UInt8) (w:World) (hS:S.length≤9223372036854775807) (hT:T.length≤9223372036854775807) (hw:WM w) (hTb:Tabs w) :
  Calls Tryz.prog 7 #[.agg #[.int .i64 E,.int .i64 P,.int .i64 M,.string (ba S),.string (ba T)]] w fun e w'=>e=.returned (.bool true)∧Ext w w' :=
 cal_lawA [.m [.int .i64 E,.int .i64 P,.int .i64 M,.string (ba S),.string (ba T)]] (cRounds hS hT) rfl w hw hTb
theorem law_lifted (os:Os) (started:os.Started) (H:Type) (enc:TypeId×Value→H) :
  ReturnsInHanded {} Tryz.checked os 7 .any (fun w args=>(Rows.floatsRoundsSpec.pre enc Tryz.prog Tryz.f7 [] false w args∧laidMetH Tryz.prog Rows.floatsRoundsRow.laid w)∧sizedMet enc Tryz.prog Tryz.f7 (OpenSpec.ofChange Rows.floatsRoundsSpec) false w args)
   (Rows.floatsRoundsSpec.post enc Tryz.prog Tryz.f7 false true false false):=by
 refine changeAndShaped (C:=Tryz.checked) (X:=fun w _=>laidMetH Tryz.prog Rows.floatsRoundsRow.laid w) (fun _ _ _ hh h=>h.of_heap hh) ownNone started (by kernel_rfl) Tryz.func7
  (ChangeSpec.witness_shaped (enc:=enc) (C:=Tryz.checked) (os:=os) (X:=fun w _=>laidMetH Tryz.prog Rows.floatsRoundsRow.laid w) false (World.laidAll Tryz.prog os Rows.floatsRoundsRow.laid) #[.agg #[.int .i64 0,.int .i64 0,.int .i64 0,.string ⟨#[]⟩,.string ⟨#[]⟩]] 8 (World.laidAll_os _ _ _)
   (World.shaped_of_ZipB (by kernel_rfl) (by kernel_rfl)) (by kernel_rfl) (by kernel_rfl) (by kernel_rfl)
   (by rw [MakeChecks.laidMetH_plain _ _ _ (by kernel_rfl)];exact laidMet_laidAll _ (by kernel_rfl) (by kernel_rfl))) ?_
 intro W base args ds gs before hval0 hW hL hsh
 have hval:∀ (j:Nat) t v,Tryz.f7.params[j]?=some t→args[j]?=some v→Value.okWide Tryz.prog W .any base t v:=hval0;have hW':=hW;obtain ⟨p,q,hA0,hV,rfl,_,_⟩:=hW;have hA:DataW.TrodAll enc Tryz.prog W 0 (fun _=>true) true Tryz.f7.params.toList args.toList ds p:=hA0;rw [Tryz.params7] at hA hval;obtain ⟨v0,d0,rfl,rfl,h0⟩:=trodAll_one hA;obtain ⟨rfl,rfl⟩:=trodVars_none hV;obtain ⟨E,P,M,S,T,hS,hT,rfl⟩:=open_ask (hval 0 36 v0 rfl rfl) h0;simp only [List.append_nil] at hW';have hlt:∀ x∈p,x.block<W.heap.size:=fun x hx=>by simpa using hW'.lt x hx
 rw [MakeChecks.laidMetH_plain _ _ _ (by kernel_rfl)] at hL;refine (law_c E P M S T W hS hT (wm_of hsh) (tabs_of hL)).mono fun e W' ⟨he,hb⟩ => ?_;subst he
 exact ⟨_,rfl,_,_,_,[],p,[],hW',trodAll_mk1 (shut_bool Tryz.underlying4 _),trodAll_mk1 (Below.trod laidOutAll (by kernel_rfl) (of_decide_eq_true (by kernel_rfl)) h0 hb hlt),rfl,hb.frame _,fun h=>by cases h⟩
end Go.Proofs.YtgabigepocfllaaGreatDoor
