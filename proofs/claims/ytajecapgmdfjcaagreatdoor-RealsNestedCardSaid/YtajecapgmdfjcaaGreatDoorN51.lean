/- RealsNested (vernierlaw03): for every input the law returns true and its arguments read afterwards as they read before; the listed package variables hold what the program's text lays. -/
import Derived.LaidMore
import Derived.OpenShut
import Derived.Stop.Joined
import Derived.Test.YtajecapgmdfjcaaGreatDoorN42
import Derived.Test.YtajecapgmdfjcaaGreatDoorN50
namespace Go.Proofs.YtajecapgmdfjcaaGreatDoor
open Go.ChangeShapes Go.WideShapes Go.ChangeAt Go.RowKit Vn
theorem rep_u {S : Nat → Prop} {w : World} {n : Int} : RepW OQ (fun _ => none) S w (.int .u16 n) (.c (.v (.int .u16 n))) := Rep0.toC (β := fun _ => none) (show Rep0 OQ S w (.v (.int .u16 n)) (.int .u16 n) from by simp only [Rep0]; exact ⟨trivial, rfl⟩)
set_option maxRecDepth 100000 in
theorem open_u16 {H : Type} {enc : TypeId × Value → H} {W : World} {base b0 : Nat} {sp : Nat → Bool} {held : Bool} {v : Value} {d : DataW H} {p : List MemPlace} (hv : Value.okWide Tryz.prog W .any base 28 v) (h : DataW.Trod enc Tryz.prog W b0 sp held 28 v d p) : ∃ a : Nat, a < 65536 ∧ v = .int .u16 ((a : Nat) : Int) := by
 obtain ⟨n, rfl⟩ := okWide_int Tryz.underlying28 hv
 obtain ⟨fuel, hf⟩ := h
 obtain ⟨z, hz, _, wz⟩ := DataW.trod_int Tryz.underlying28 hf
 have hz' : [Value.int .u16 n] = [Value.int .u16 z] := hz
 have e : n = z := by simpa using hz'
 subst e
 have hw0 : IntKind.u16.min ≤ n ∧ n ≤ IntKind.u16.max := by simpa [Lit.wf] using wz
 have hw : 0 ≤ n ∧ n ≤ 65535 := hw0
 exact ⟨n.toNat, by omega, by rw [Int.toNat_of_nonneg hw.1]⟩
theorem law_c {a b d : Nat} (ha : a < 65536) (hb : b < 65536) (hd : d < 65536) (w : World) (hw : WM w) (hTb : Tabs w)
  (hs : ∀ j, j < 4 → w.cell? ⟨0, j, none⟩ = some (.int .i64 (([64, 256, 1024, 4000] : List Int).getD j 0))) :
  Calls Tryz.prog 4 #[.int .u16 ((a : Nat) : Int), .int .u16 ((b : Nat) : Int), .int .u16 ((d : Nat) : Int)] w fun e w' => e = .returned (.bool true) ∧ Ext w w' :=
 ((cRealsNested ha hb hd).run (fun b => b < w.heap.size) w [.int .u16 ((a : Nat) : Int), .int .u16 ((b : Nat) : Int), .int .u16 ((d : Nat) : Int)] (fun _ h => h) ⟨hw, hTb, hs⟩ ⟨rep_u, rep_u, rep_u, trivial⟩).mono fun _ _ ⟨_, h1, h2, h3⟩ => by
  subst h1; exact ⟨congrArg _ (show _ = Value.bool true from h3.1), h2⟩
set_option maxRecDepth 100000 in
theorem law_lifted (os : Os) (started : os.Started) (H : Type) (enc : TypeId × Value → H) :
  ReturnsInHanded {} Tryz.checked os 4 .any (fun w args => (Rows.realsNestedSpec.pre enc Tryz.prog Tryz.f4 [] false w args ∧ laidMetH Tryz.prog Rows.realsNestedRow.laid w) ∧ sizedMet enc Tryz.prog Tryz.f4 (OpenSpec.ofChange Rows.realsNestedSpec) false w args)
   (Rows.realsNestedSpec.post enc Tryz.prog Tryz.f4 false true false false) := by
 refine changeAndShaped (C := Tryz.checked) (X := fun w _ => laidMetH Tryz.prog Rows.realsNestedRow.laid w) (fun _ _ _ hh h => h.of_heap hh) ownNone started (by kernel_rfl) Tryz.func4
  (ChangeSpec.witness_shaped (enc := enc) (C := Tryz.checked) (os := os) (X := fun w _ => laidMetH Tryz.prog Rows.realsNestedRow.laid w) false (World.laidAll Tryz.prog os Rows.realsNestedRow.laid) #[.int .u16 0, .int .u16 0, .int .u16 0] 8 (World.laidAll_os _ _ _)
   (World.shaped_of_ZipB (by kernel_rfl) (by kernel_rfl)) (by kernel_rfl) (by kernel_rfl) (by kernel_rfl)
   (by rw [MakeChecks.laidMetH_plain _ _ _ (by kernel_rfl)]; exact laidMet_laidAll _ (by kernel_rfl) (by kernel_rfl))) ?_
 intro W base args ds gs before hval0 hW hL hsh
 have hval : ∀ (j : Nat) t v, Tryz.f4.params[j]? = some t → args[j]? = some v → Value.okWide Tryz.prog W .any base t v := hval0
 have hW' := hW
 obtain ⟨p, q, hA0, hV, rfl, _, _⟩ := hW
 have hA : DataW.TrodAll enc Tryz.prog W 0 (fun _ => true) true Tryz.f4.params.toList args.toList ds p := hA0
 rw [Tryz.params4] at hA hval
 obtain ⟨v0, v1, v2, d0, d1, d2, p0, p1, p2, rfl, rfl, rfl, h0, h1, h2⟩ := trodAll_three hA
 obtain ⟨rfl, rfl⟩ := trodVars_none hV
 obtain ⟨a0, l0, rfl⟩ := open_u16 (hval 0 28 v0 rfl rfl) h0
 obtain ⟨a1, l1, rfl⟩ := open_u16 (hval 1 28 v1 rfl rfl) h1
 obtain ⟨a2, l2, rfl⟩ := open_u16 (hval 2 28 v2 rfl rfl) h2
 simp only [List.append_nil] at hW'
 have hlt : ∀ x ∈ p0 ++ p1 ++ p2, x.block < W.heap.size := fun x hx => by simpa using hW'.lt x (by simpa using hx)
 rw [MakeChecks.laidMetH_plain _ _ _ (by kernel_rfl)] at hL
 refine (law_c l0 l1 l2 W (wm_of hsh) (tabs_of hL) (siz_of hL)).mono fun e W' ⟨he, hb⟩ => ?_
 subst he
 exact ⟨_, rfl, _, _, _, [], _, [], hW', trodAll_mk1 (shut_bool Tryz.underlying4 _), trodAll_mk3 (Below.trod laidOutAll (by kernel_rfl) (of_decide_eq_true (by kernel_rfl)) h0 hb (fun x hx => hlt x (by simp [hx]))) (Below.trod laidOutAll (by kernel_rfl) (of_decide_eq_true (by kernel_rfl)) h1 hb (fun x hx => hlt x (by simp [hx]))) (Below.trod laidOutAll (by kernel_rfl) (of_decide_eq_true (by kernel_rfl)) h2 hb (fun x hx => hlt x (by simp [hx]))), rfl, hb.frame _, fun h => by cases h⟩
end Go.Proofs.YtajecapgmdfjcaaGreatDoor
