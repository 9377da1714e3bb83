/- RealsKnown (vernierlaw03): the law, which takes no input, returns true; the listed package variables hold what the program's text lays. -/
import Derived.LaidMore
import Derived.OpenShut
import Derived.Stop.Joined
import Derived.Test.YtajecapgmdfjcaaGreatDoorL17
import Derived.Test.YtajecapgmdfjcaaGreatDoorL50
namespace Go.Proofs.YtajecapgmdfjcaaGreatDoor
open Go.ChangeShapes Go.WideShapes Go.ChangeAt Go.RowKit Vn
theorem tabs_ofK {W : World} (h : laidMet Tryz.prog Rows.realsKnownRow.laid W) : Tabs W := by
 have r1 : Lib.VarReads Tryz.prog W "math/bits.deBruijn32tab" Rows.laid_math_bits_deBruijn32tab := Lib.laidMet.reads h (.head _)
 have r3 : Lib.VarReads Tryz.prog W "internal/strconv.uint64pow10" Rows.laid_internal_strconv_uint64pow10 := Lib.laidMet.reads h (.tail _ (.tail _ (.head _)))
 rw [ePow] at r3
 rw [e32] at r1
 have t1 := tabIs_of_reads (g := 4) (by kernel_rfl) (by kernel_rfl) Tryz.underlying241 Tryz.underlying5 (by kernel_rfl) (by kernel_rfl) r1
 have t3 := tabIs_of_reads (g := 2) (by kernel_rfl) (by kernel_rfl) Tryz.underlying215 Tryz.underlying50 (by kernel_rfl) (by kernel_rfl) r3
 refine ⟨fun j hj => ?_, t3⟩
 rw [← get32 j hj]
 exact t1.cell (by kernel_rfl) j hj
theorem siz_ofK {W : World} (h : laidMet Tryz.prog Rows.realsKnownRow.laid W) : ∀ j, j < 4 → W.cell? ⟨0, j, none⟩ = some (.int .i64 (([64, 256, 1024, 4000] : List Int).getD j 0)) := by
 have r : Lib.VarReads Tryz.prog W "vernier/reals.sizes" Rows.laid_vernier_reals_sizes := Lib.laidMet.reads h (.tail _ (.tail _ (.tail _ (.tail _ (.tail _ (.head _))))))
 rw [eSiz] at r
 have t := tabIs_of_reads (g := 0) (by kernel_rfl) (by kernel_rfl) Tryz.underlying121 Tryz.underlying3 (by kernel_rfl) (by kernel_rfl) r
 exact fun j hj => t.cell (by kernel_rfl) j hj
theorem law_c (w : World) (hw : WM w) (hTb : Tabs w) (hs : ∀ j, j < 4 → w.cell? ⟨0, j, none⟩ = some (.int .i64 (([64, 256, 1024, 4000] : List Int).getD j 0))) :
  Calls Tryz.prog 5 #[] w fun e w' => e = .returned (.bool true) ∧ Ext w w' :=
 (cRealsKnown.run (fun _ => False) w [] (fun _ h => h.elim) ⟨hw, hTb, hs⟩ trivial).mono fun _ _ ⟨_, h1, h2, h3⟩ => by
  subst h1; exact ⟨congrArg _ (show _ = Value.bool true from h3.1), h2⟩
set_option maxRecDepth 100000 in
theorem law_lifted (os : Os) (started : os.Started) (H : Type) (enc : TypeId × Value → H) :
  ReturnsInHanded {} Tryz.checked os 5 .any (fun w args => (Rows.realsKnownSpec.pre enc Tryz.prog Tryz.f5 [] false w args ∧ laidMetH Tryz.prog Rows.realsKnownRow.laid w) ∧ sizedMet enc Tryz.prog Tryz.f5 (OpenSpec.ofChange Rows.realsKnownSpec) false w args)
   (Rows.realsKnownSpec.post enc Tryz.prog Tryz.f5 false true false false) := by
 refine changeAndShaped (C := Tryz.checked) (X := fun w _ => laidMetH Tryz.prog Rows.realsKnownRow.laid w) (fun _ _ _ hh h => h.of_heap hh) ownNone started (by kernel_rfl) Tryz.func5
  (ChangeSpec.witness_shaped (enc := enc) (C := Tryz.checked) (os := os) (X := fun w _ => laidMetH Tryz.prog Rows.realsKnownRow.laid w) false (World.laidAll Tryz.prog os Rows.realsKnownRow.laid) #[] 8 (World.laidAll_os _ _ _)
   (World.shaped_of_ZipB (by kernel_rfl) (by kernel_rfl)) (by kernel_rfl) (by kernel_rfl) (by kernel_rfl)
   (by rw [MakeChecks.laidMetH_plain _ _ _ (by kernel_rfl)]; exact laidMet_laidAll _ (by kernel_rfl) (by kernel_rfl))) ?_
 intro W base args ds gs before hval0 hW hL hsh
 have hW' := hW
 obtain ⟨p, q, hA0, hV, rfl, _, _⟩ := hW
 have hA : DataW.TrodAll enc Tryz.prog W 0 (fun _ => true) true Tryz.f5.params.toList args.toList ds p := hA0
 rw [Tryz.params5] at hA
 obtain ⟨rfl, rfl, rfl⟩ := trodAll_none hA
 obtain ⟨rfl, rfl⟩ := trodVars_none hV
 simp only [List.append_nil] at hW'
 rw [MakeChecks.laidMetH_plain _ _ _ (by kernel_rfl)] at hL
 refine (law_c W (wm_of hsh) (tabs_ofK hL) (siz_ofK hL)).mono fun e W' ⟨he, hb⟩ => ?_
 subst he
 exact ⟨_, rfl, _, _, _, [], [], [], hW', trodAll_mk1 (shut_bool Tryz.underlying4 _), trodAll_mk0, rfl, hb.frame _, fun h => by cases h⟩
end Go.Proofs.YtajecapgmdfjcaaGreatDoor
