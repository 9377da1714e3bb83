/- first, value, Sign. PRINTED by gen/em.py. -/
import Derived.Test.YtajecapgmdfjcaaGreatDoorK39
import Derived.Test.YtajecapgmdfjcaaGreatDoorK40
namespace Go.Proofs.YtajecapgmdfjcaaGreatDoor
open Go.RowKit Vn
set_option maxRecDepth 100000 in
set_option maxHeartbeats 8000000 in
theorem cF_a_10 : Cal Tryz.prog OQ 44 [lsA nst, iA 10] (.t [.c (.e [.sl 1 [[eC [(0, 2)]], [eC [(0, 3)]], [eC [(0, 5), (3, 2)]]], .mp false [0, 1, 2, 3, 4, 5, 6, 7, 8, 9, 10] [[eC [(0, 2)]], [eC [(0, 3)]], [eC [(1, 1)]], [eC [(2, 1)]], [eC [(3, 1)]], [eC [(3, 2)]], [eC [(0, 5)]], [eC [(0, 5), (3, 2)]], [eC [(4, 1)]], [eC [(1, 1), (2, 1)]], [eC [(1, -1), (2, -1), (4, 1)]]], .mp false [0, 1, 2, 3, 4, 5, 6, 7, 8, 9, 10] [bC true, bC true, bC false, bC false, bC false, bC false, bC true, bC false, bC false, bC false, bC false], .sl 1 [[.v (.int .i64 2)], [.v (.int .i64 3)], [.v (.int .i64 8)]]]), iA 0]) := by
 refine fn_callD [(18, [(6, 2000000), (8, 11), (10, 2000000)]), (23, [(0, 9)])] TK MX (H := HL Tryz.prog OQ TB FTo 3) (HL_ok TK MX FTo_ok 3) (nd := false) Tryz.func44 rfl (by kernel_rfl) (by kernel_rfl) (by kernel_rfl) rfl rfl ?_
 conv => whnf
 refine ⟨_, cW_a, ?_⟩
 conv => whnf
 refine ⟨_, cO_a_10, ?_⟩
 conv => whnf
 rfl
set_option maxRecDepth 100000 in
set_option maxHeartbeats 8000000 in
theorem cF_a_2 : Cal Tryz.prog OQ 44 [lsA nst, iA 2] (.t [.c (.e [.sl 1 [[eC [(0, 2)]]], .mp false [0, 2] [[eC [(0, 2)]], [eC [(1, 1)]]], .mp false [0, 2] [bC true, bC false], .sl 1 [[.v (.int .i64 2)]]]), iA 0]) := by
 refine fn_callD [(18, [(6, 2000000), (8, 11), (10, 2000000)]), (23, [(0, 9)])] TK MX (H := HL Tryz.prog OQ TB FTo 3) (HL_ok TK MX FTo_ok 3) (nd := false) Tryz.func44 rfl (by kernel_rfl) (by kernel_rfl) (by kernel_rfl) rfl rfl ?_
 conv => whnf
 refine ⟨_, cW_a, ?_⟩
 conv => whnf
 refine ⟨_, cO_a_2, ?_⟩
 conv => whnf
 rfl
set_option maxRecDepth 100000 in
set_option maxHeartbeats 8000000 in
theorem cF_b_11 : Cal Tryz.prog OQ 44 [lsA nstB, iA 11] (.t [.c (.e [.sl 1 [[eC [(0, 2)]], [eC [(0, 3)]]], .mp false [0, 1, 2, 3, 11] [[eC [(0, 2)]], [eC [(0, 3)]], [eC [(1, 1)]], [eC [(2, 1)]], [eC [(1, 1), (2, -1)]]], .mp false [0, 1, 2, 3, 11] [bC true, bC true, bC false, bC false, bC false], .sl 1 [[.v (.int .i64 2)], [.v (.int .i64 3)]]]), iA 0]) := by
 refine fn_callD [(18, [(6, 2000000), (8, 11), (10, 2000000)]), (23, [(0, 9)])] TK MX (H := HL Tryz.prog OQ TB FTo 3) (HL_ok TK MX FTo_ok 3) (nd := false) Tryz.func44 rfl (by kernel_rfl) (by kernel_rfl) (by kernel_rfl) rfl rfl ?_
 conv => whnf
 refine ⟨_, cW_b, ?_⟩
 conv => whnf
 refine ⟨_, cO_b_11, ?_⟩
 conv => whnf
 rfl
set_option maxRecDepth 100000 in
set_option maxHeartbeats 8000000 in
theorem cF_c_1 : Cal Tryz.prog OQ 44 [lsA nstC, iA 1] (.t [.c (.v (.pointer none)), iA 9]) := by
 refine fn_callD [(18, [(6, 2000000), (8, 11), (10, 2000000)]), (23, [(0, 9)])] TK MX (H := HL Tryz.prog OQ TB FTo 3) (HL_ok TK MX FTo_ok 3) (nd := false) Tryz.func44 rfl (by kernel_rfl) (by kernel_rfl) (by kernel_rfl) rfl rfl ?_
 conv => whnf
 refine ⟨_, cW_c, ?_⟩
 conv => whnf
 refine ⟨_, cO_c_1, ?_⟩
 conv => whnf
 refine ⟨_, cN_c_1, ?_⟩
 conv => whnf
 intro R
 conv => whnf
 refine ⟨3, ?_⟩
 conv => whnf
 repeat (first | (refine ⟨_, cUses, ?_⟩; (conv => whnf)) | (refine ⟨rfl, ?_⟩; (conv => whnf)))
 refine ⟨_, cO_c_0, ?_⟩
 conv => whnf
 repeat (first | (refine ⟨_, cUses, ?_⟩; (conv => whnf)) | (refine ⟨rfl, ?_⟩; (conv => whnf)))
 refine ⟨_, cO_c_1, ?_⟩
 conv => whnf
 repeat (first | (refine ⟨_, cUses, ?_⟩; (conv => whnf)) | (refine ⟨rfl, ?_⟩; (conv => whnf)))
 rfl
set_option maxRecDepth 100000 in
set_option maxHeartbeats 8000000 in
theorem cV_a_10 : Cal Tryz.prog OQ 28 [lsA nst, iA 10] (.t [.c (.e [.sl 1 [[eC [(0, 2)]], [eC [(0, 3)]], [eC [(0, 5), (3, 2)]]], .mp false [0, 1, 2, 3, 4, 5, 6, 7, 8, 9, 10] [[eC [(0, 2)]], [eC [(0, 3)]], [eC [(1, 1)]], [eC [(2, 1)]], [eC [(3, 1)]], [eC [(3, 2)]], [eC [(0, 5)]], [eC [(0, 5), (3, 2)]], [eC [(4, 1)]], [eC [(1, 1), (2, 1)]], [eC [(1, -1), (2, -1), (4, 1)]]], .mp false [0, 1, 2, 3, 4, 5, 6, 7, 8, 9, 10] [bC true, bC true, bC false, bC false, bC false, bC false, bC true, bC false, bC false, bC false, bC false], .sl 1 [[.v (.int .i64 2)], [.v (.int .i64 3)], [.v (.int .i64 8)]]]), eA [(1, -1), (2, -1), (4, 1)], iA 0]) := by
 refine fn_callB [(7, [(4, 2000000)])] TK MX Tryz.func28 rfl (by kernel_rfl) (by kernel_rfl) (by kernel_rfl) rfl rfl ?_
 conv => whnf
 refine ⟨_, cAsked1 (l := nst) len_a chk_a (by decide) (by decide), ?_⟩
 conv => whnf
 refine ⟨_, cF_a_10, ?_⟩
 conv => whnf
 rfl
set_option maxRecDepth 100000 in
set_option maxHeartbeats 8000000 in
theorem cV_a_2 : Cal Tryz.prog OQ 28 [lsA nst, iA 2] (.t [.c (.e [.sl 1 [[eC [(0, 2)]]], .mp false [0, 2] [[eC [(0, 2)]], [eC [(1, 1)]]], .mp false [0, 2] [bC true, bC false], .sl 1 [[.v (.int .i64 2)]]]), eA [(1, 1)], iA 0]) := by
 refine fn_callB [(7, [(4, 2000000)])] TK MX Tryz.func28 rfl (by kernel_rfl) (by kernel_rfl) (by kernel_rfl) rfl rfl ?_
 conv => whnf
 refine ⟨_, cAsked1 (l := nst) len_a chk_a (by decide) (by decide), ?_⟩
 conv => whnf
 refine ⟨_, cF_a_2, ?_⟩
 conv => whnf
 rfl
set_option maxRecDepth 100000 in
set_option maxHeartbeats 8000000 in
theorem cV_c_1 : Cal Tryz.prog OQ 28 [lsA nstC, iA 1] (.t [.c (.v (.pointer none)), .c (.v (.map none)), iA 9]) := by
 refine fn_callB [(7, [(4, 2000000)])] TK MX Tryz.func28 rfl (by kernel_rfl) (by kernel_rfl) (by kernel_rfl) rfl rfl ?_
 conv => whnf
 refine ⟨_, cAsked1 (l := nstC) len_c chk_c (by decide) (by decide), ?_⟩
 conv => whnf
 refine ⟨_, cF_c_1, ?_⟩
 conv => whnf
 rfl
set_option maxRecDepth 100000 in
set_option maxHeartbeats 8000000 in
theorem cS_a_10 : Cal Tryz.prog OQ 12 [lsA nst, iA 10] (.t [iA 0, iA 0]) := by
 refine fn_call TK MX Tryz.func12 rfl (by kernel_rfl) (by kernel_rfl) (by kernel_rfl) rfl rfl ?_
 conv => whnf
 refine ⟨_, cV_a_10, ?_⟩
 conv => whnf
 refine ⟨_, sgnT [[(0, 2)], [(0, 3)], [(0, 5), (3, 2)]] [(1, -1), (2, -1), (4, 1)] 1000 6 8 0 _ (by kernel_rfl), ?_⟩
 conv => whnf
 rfl
set_option maxRecDepth 100000 in
set_option maxHeartbeats 8000000 in
theorem cS_c_1 : Cal Tryz.prog OQ 12 [lsA nstC, iA 1] (.t [iA 0, iA 9]) := by
 refine fn_call TK MX Tryz.func12 rfl (by kernel_rfl) (by kernel_rfl) (by kernel_rfl) rfl rfl ?_
 conv => whnf
 refine ⟨_, cV_c_1, ?_⟩
 conv => whnf
 rfl
end Go.Proofs.YtajecapgmdfjcaaGreatDoor

/- awake. -/
namespace Go.Proofs.YtajecapgmdfjcaaGreatDoor
open Go.RowKit Vn
set_option maxRecDepth 100000 in
set_option maxHeartbeats 8000000 in
theorem cClone_a : CalS Tryz.prog OQ 43 [lsA nst] 11 4 39 (nst.map ndC).flatten := by
 refine fn_callS [] TK MX Tryz.func43 rfl (by kernel_rfl) (by kernel_rfl) (by kernel_rfl) (flat_nds _) (by kernel_rfl) rfl ?_
 conv => whnf
 exact ⟨rfl, rfl⟩
set_option maxRecDepth 100000 in
set_option maxHeartbeats 8000000 in
theorem cCmp_a_2_3 : Cal Tryz.prog OQ 21 [lsA nst, iA 2, iA 3] (.t [iA (-1), iA 0]) := by
 refine fn_callB [(5, [(1000000, 21)]), (8, [(6, 2000000), (10, 2000000)])] TK MX Tryz.func21 rfl (by kernel_rfl) (by kernel_rfl) (by kernel_rfl) rfl rfl ?_
 conv => whnf
 refine ⟨_, cAsked2 (l := nst) len_a chk_a (by decide) (by decide) (by decide) (by decide), ?_⟩
 conv => whnf
 refine ⟨_, _, _, _, cClone_a, ?_⟩
 conv => whnf
 refine ⟨_, cF_b_11, ?_⟩
 conv => whnf
 refine ⟨_, sgnT [[(0, 2)], [(0, 3)]] [(1, 1), (2, -1)] 1000 6 8 (-1) _ (by kernel_rfl), ?_⟩
 conv => whnf
 rfl
set_option maxRecDepth 100000 in
set_option maxHeartbeats 8000000 in
theorem cFloor_a_2_3 : Cal Tryz.prog OQ 18 [lsA nst, iA 2, iA 3] (.t [nA ((11 : Int) : Rat), iA 0]) := by
 refine fn_callB [(6, [(5, 2000000), (6, 2000000), (7, 6)])] TK MX Tryz.func18 rfl (by kernel_rfl) (by kernel_rfl) (by kernel_rfl) rfl rfl ?_
 conv => whnf
 refine ⟨_, cV_a_2, ?_⟩
 conv => whnf
 refine .inl ⟨_, shfT [(1, 1)] 3 [(1, 8)] 1000 (by kernel_rfl), ?_⟩
 conv => whnf
 refine ⟨_, flrT [[(0, 2)]] [(1, 8)] 1000 11 _ (by kernel_rfl), ?_⟩
 conv => whnf
 rfl
set_option maxRecDepth 100000 in
set_option maxHeartbeats 8000000 in
theorem cAwake : Cal Tryz.prog OQ 8 [] (bA true) := by
 refine fn_call TK MX Tryz.func8 rfl (by kernel_rfl) (by kernel_rfl) (by kernel_rfl) rfl rfl ?_
 conv => whnf
 refine ⟨_, cNested (x := [50]) (y := [51]), ?_⟩
 conv => whnf
 refine ⟨_, cS_a_10, ?_⟩
 conv => whnf
 refine ⟨_, cCmp_a_2_3, ?_⟩
 conv => whnf
 refine ⟨_, cFloor_a_2_3, ?_⟩
 conv => whnf
 refine ⟨_, cNum, ?_⟩
 conv => whnf
 refine ⟨_, cOne, ?_⟩
 conv => whnf
 refine ⟨_, cS_c_1, ?_⟩
 conv => whnf
 refine ⟨_, txtT ((11 : Int) : Rat) [49, 49] 100 (by kernel_rfl), ?_⟩
 conv => whnf
 rw [show ((ba [49, 49]).toList == (⟨#[49, 49]⟩ : ByteArray).toList) = true by rw [ba_toList, show (⟨#[49, 49]⟩ : ByteArray) = ba [49, 49] from rfl, ba_toList]; rfl]
 conv => whnf
 rfl
end Go.Proofs.YtajecapgmdfjcaaGreatDoor

/- From the walks' laws of calls to those of reckoning. -/
namespace Go.Proofs.YtajecapgmdfjcaaGreatDoor
open Go.RowKit Vn
inductive Arg where
 | s (v : Value)
 | m (vs : List Value)
 | n (q : Rat)
 | r (q : Rat)
 | op (k : Int) (neg : Bool) (q : Rat)
def opC (k : Int) (neg : Bool) (q : Rat) : List AC := .v (.int .i64 k) :: .v (.bool neg) :: numA q
abbrev oA (k : Int) (neg : Bool) (q : Rat) : AV := .g (opC k neg q)
def Arg.av : Arg → AV
 | .s v => .c (.v v)
 | .m vs => .g (vs.map AC.v)
 | .n q => nA q
 | .r q => rA q
 | .op k neg q => oA k neg q
abbrev Arg.w (n : Nat) : Arg := .m [.int .u64 ((n / 18446744073709551616 : Nat) : Int), .int .u64 ((n % 18446744073709551616 : Nat) : Int)]
def RepA (w : World) (x : Value) : Arg → Prop
 | .s v => x = v
 | .m vs => x = .agg vs.toArray
 | .n q => NumV w x q
 | .r q => RNumV w x q
 | .op k neg q => ∃ (ng : Bool) (a : Option Addr) (n c : Nat) (a' : Option Addr) (n' c' : Nat), x = .agg #[.int .i64 k, .bool neg, .bool ng, .slice a n c, .slice a' n' c'] ∧ NumV w (.agg #[.bool ng, .slice a n c, .slice a' n' c']) q
def Arg.ok : Arg → Bool
 | .s v => v.oneCell'
 | .m vs => vs.all (·.oneCell')
 | _ => true
section
variable {S : Nat → Prop} {w : World}
theorem scs_of : ∀ {vs zs : List Value}, RepCs OQ (fun _ => none) S w vs (zs.map AC.v) → vs = zs
 | [], [], _ => rfl
 | [], _ :: _, h => h.elim
 | _ :: _, [], h => h.elim
 | v :: vs, z :: zs, h => by
  have h1 := h.1
  have h1 : v = z := h1.1
  rw [h1, scs_of (zs := zs) h.2]
theorem of_scs : ∀ {zs : List Value}, (zs.all (·.oneCell')) = true → RepCs OQ (fun _ => none) S w zs (zs.map AC.v)
 | [], _ => trivial
 | z :: zs, h => by
  simp only [List.all_cons, Bool.and_eq_true] at h
  exact ⟨Rep0.toC (Rep0.v' rfl h.1), of_scs h.2⟩
theorem repA_of {x : Value} {a : Arg} (h : RepW OQ (fun _ => none) S w x a.av) : RepA w x a := by
 cases a with
 | s v => exact h.1
 | m vs => obtain ⟨us, rfl, h⟩ := h; rw [scs_of h]; rfl
 | n q => exact num_of h
 | r q => exact rnum_of h
 | op k neg q =>
  obtain ⟨us, rfl, h⟩ := h
  match us, h with
  | v1 :: v2 :: us, h =>
   obtain ⟨h1, h2, h3⟩ := h
   simp only [RepC, Rep0] at h1 h2
   have hn : NumV w (.agg us.toArray) q := num_of (β := fun _ => none) (S := S) ⟨us, rfl, h3⟩
   have hn' := hn
   obtain ⟨a, n, c, a', n', c', e, _⟩ := hn'
   have e : us = _ := congrArg Array.toList (Value.agg.inj e)
   subst e
   rw [h1.1, h2.1]
   exact ⟨_, a, n, c, a', n', c', rfl, hn⟩
theorem of_repA {x : Value} {a : Arg} (hk : a.ok = true) (h : RepA w x a) : RepW OQ (fun _ => none) S w x a.av := by
 cases a with
 | s v => exact ⟨h, hk⟩
 | m vs => exact ⟨vs, h, of_scs hk⟩
 | n q => exact numA_of h
 | r q => exact rnumA_of h
 | op k neg q =>
  obtain ⟨ng, a, n, c, a', n', c', rfl, h⟩ := h
  obtain ⟨us, e, h⟩ := numA_of (β := fun _ => none) (S := S) h
  have e : _ = us := congrArg Array.toList (Value.agg.inj e)
  subst e
  exact ⟨_, rfl, Rep0.toC (Rep0.v' rfl rfl), Rep0.toC (Rep0.v' rfl rfl), h⟩
end
theorem av_noT (a : Arg) : (∀ l, a.av ≠ .t l) ∧ noPV a.av = true := by
 cases a with
 | m vs => exact ⟨by intro l h; simp [Arg.av] at h, (noPs_iff _).2 (fun c hc => by
  obtain ⟨v, _, rfl⟩ := List.mem_map.1 hc; rfl)⟩
 | _ => exact ⟨by intro l h; simp [Arg.av] at h, rfl⟩
def Ret (r : Arg) (w : World) (e : Ending) (w' : World) : Prop := ∃ v, e = .returned v ∧ RepA w' v r ∧ Ext w w'
theorem all2_args {S : Nat → Prop} {w : World} : ∀ {vs : List Value} {args : List Arg}, All2 (RepW OQ (fun _ => none) S w) vs (args.map Arg.av) → All2 (RepA w) vs args
 | [], [], _ => trivial
 | _ :: _, [], h => h.elim
 | [], _ :: _, h => h.elim
 | _ :: _, _ :: _, h => ⟨repA_of h.1, all2_args h.2⟩
theorem calA {P : Program} {k : FuncId} (args : List Arg) {r : Arg} (hb : bodyB P k = true) (hr : r.ok = true) (h : ∀ w vs, OQ.inv w → All2 (RepA w) vs args → Calls P k vs.toArray w (Ret r w)) : Cal P OQ k (args.map Arg.av) r.av :=
 cal_of hb (av_noT r).2 fun _ w vs hi hv => (h w vs hi (all2_args hv)).mono fun _ _ ⟨v, h1, h2, h3⟩ => ⟨v, h1, h3, fun _ => (of_repA hr h2).toV (av_noT r).1⟩
theorem one_arg {w : World} {vs : List Value} {a : Arg} (h : All2 (RepA w) vs [a]) : ∃ x, vs = [x] ∧ RepA w x a := by
 match vs, h with
 | [x], h => exact ⟨x, rfl, h.1⟩
end Go.Proofs.YtajecapgmdfjcaaGreatDoor
