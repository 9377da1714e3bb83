/- RealsChecks (vernierlaw03): for every input the law returns true and its arguments read afterwards as they read before; the listed package variables hold what the program's text lays. -/
import Derived.LaidMore
import Derived.OpenShut
import Derived.Stop.Joined
import Derived.Test.YtajecapgmdfjcaaGreatDoorK35
import Derived.Test.YtajecapgmdfjcaaGreatDoorK50
namespace Go.Proofs.YtajecapgmdfjcaaGreatDoor
open Go.ChangeShapes Go.WideShapes Go.ChangeAt Go.RowKit Vn
theorem law_c (l : List Nd) (v : Value) (w : World) (hl : ∀ x ∈ l, x.v.length ≤ 9223372036854775807) (hr : Rep0 OQ (fun b => b < w.heap.size) w (lsC l) v) (hw : WM w) (hTb : Tabs w)
  (hs : ∀ j, j < 4 → w.cell? ⟨0, j, none⟩ = some (.int .i64 (([64, 256, 1024, 4000] : List Int).getD j 0))) :
  Calls Tryz.prog 3 #[v] w fun e w' => e = .returned (.bool true) ∧ Ext w w' :=
 ((cRealsChecks hl).run (fun b => b < w.heap.size) w [v] (fun _ h => h) ⟨hw, hTb, hs⟩ ⟨Rep0.toC (β := fun _ => none) hr, trivial⟩).mono fun _ _ ⟨_, h1, h2, h3⟩ => by
  subst h1; exact ⟨congrArg _ (show _ = Value.bool true from h3.1), h2⟩
set_option maxRecDepth 100000 in
theorem law_lifted (os : Os) (started : os.Started) (H : Type) (enc : TypeId × Value → H) :
  ReturnsInHanded {} Tryz.checked os 3 .any (fun w args => (Rows.realsChecksSpec.pre enc Tryz.prog Tryz.f3 [] false w args ∧ laidMetH Tryz.prog Rows.realsChecksRow.laid w) ∧ sizedMet enc Tryz.prog Tryz.f3 (OpenSpec.ofChange Rows.realsChecksSpec) false w args)
   (Rows.realsChecksSpec.post enc Tryz.prog Tryz.f3 false true false false) := by
 refine changeAndShaped (C := Tryz.checked) (X := fun w _ => laidMetH Tryz.prog Rows.realsChecksRow.laid w) (fun _ _ _ hh h => h.of_heap hh) ownNone started (by kernel_rfl) Tryz.func3
  (ChangeSpec.witness_shaped (enc := enc) (C := Tryz.checked) (os := os) (X := fun w _ => laidMetH Tryz.prog Rows.realsChecksRow.laid w) false (World.laidAll Tryz.prog os Rows.realsChecksRow.laid) #[.slice none 0 0] 8 (World.laidAll_os _ _ _)
   (World.shaped_of_ZipB (by kernel_rfl) (by kernel_rfl)) (by kernel_rfl) (by kernel_rfl) (by kernel_rfl)
   (by rw [MakeChecks.laidMetH_plain _ _ _ (by kernel_rfl)]; exact laidMet_laidAll _ (by kernel_rfl) (by kernel_rfl))) ?_
 intro W base args ds gs before hval0 hW hL hsh
 have hval : ∀ (j : Nat) t v, Tryz.f3.params[j]? = some t → args[j]? = some v → Value.okWide Tryz.prog W .any base t v := hval0
 have hW' := hW
 obtain ⟨p, q, hA0, hV, rfl, _, _⟩ := hW
 have hA : DataW.TrodAll enc Tryz.prog W 0 (fun _ => true) true Tryz.f3.params.toList args.toList ds p := hA0
 rw [Tryz.params3] at hA hval
 obtain ⟨v0, d0, rfl, rfl, h0⟩ := trodAll_one hA
 obtain ⟨rfl, rfl⟩ := trodVars_none hV
 obtain ⟨l, hl, hr⟩ := open_nds (hval 0 22 v0 rfl rfl) h0
 simp only [List.append_nil] at hW'
 have hlt : ∀ x ∈ p, x.block < W.heap.size := fun x hx => by simpa using hW'.lt x hx
 rw [MakeChecks.laidMetH_plain _ _ _ (by kernel_rfl)] at hL
 refine (law_c l v0 W hl hr (wm_of hsh) (tabs_of hL) (siz_of hL)).mono fun e W' ⟨he, hb⟩ => ?_
 subst he
 exact ⟨_, rfl, _, _, _, [], p, [], hW', trodAll_mk1 (shut_bool Tryz.underlying4 _), trodAll_mk1 (Below.trod laidOutAll (by kernel_rfl) (of_decide_eq_true (by kernel_rfl)) h0 hb hlt), rfl, hb.frame _, fun h => by cases h⟩
end Go.Proofs.YtajecapgmdfjcaaGreatDoor
