/- first, value, Sign. PRINTED by gen/em.py. -/
import Derived.Test.YtajecapgmdfjcaaGreatDoorL48
import Derived.Test.YtajecapgmdfjcaaGreatDoorL49
import Derived.Test.YtajecapgmdfjcaaGreatDoorL47
namespace Go.Proofs.YtajecapgmdfjcaaGreatDoor
open Go.RowKit Vn
set_option maxRecDepth 100000 in
set_option maxHeartbeats 8000000 in
theorem cF_a_10 : Cal Tryz.prog OQ 44 [lsA nst, iA 10] (.t [.c (.e [.sl 1 [[eC [(0, 2)]], [eC [(0, 3)]], [eC [(0, 5), (3, 2)]]], .mp false [0, 1, 2, 3, 4, 5, 6, 7, 8, 9, 10] [[eC [(0, 2)]], [eC [(0, 3)]], [eC [(1, 1)]], [eC [(2, 1)]], [eC [(3, 1)]], [eC [(3, 2)]], [eC [(0, 5)]], [eC [(0, 5), (3, 2)]], [eC [(4, 1)]], [eC [(1, 1), (2, 1)]], [eC [(1, -1), (2, -1), (4, 1)]]], .mp false [0, 1, 2, 3, 4, 5, 6, 7, 8, 9, 10] [bC true, bC true, bC false, bC false, bC false, bC false, bC true, bC false, bC false, bC false, bC false], .sl 1 [[.v (.int .i64 2)], [.v (.int .i64 3)], [.v (.int .i64 8)]]]), iA 0]) := by
 refine fn_callD [(18, [(6, 2000000), (8, 11), (10, 2000000)]), (23, [(0, 9)])] TK MX (H := HL Tryz.prog OQ TB FTo 3) (HL_ok TK MX FTo_ok 3) (nd := false) Tryz.func44 rfl (by kernel_rfl) (by kernel_rfl) (by kernel_rfl) rfl rfl ?_
 conv => whnf
 refine ⟨_, cW_a, ?_⟩
 conv => whnf
 refine ⟨_, cO_a_10, ?_⟩
 conv => whnf
 rfl
set_option maxRecDepth 100000 in
set_option maxHeartbeats 8000000 in
theorem cF_a_2 : Cal Tryz.prog OQ 44 [lsA nst, iA 2] (.t [.c (.e [.sl 1 [[eC [(0, 2)]]], .mp false [0, 2] [[eC [(0, 2)]], [eC [(1, 1)]]], .mp false [0, 2] [bC true, bC false], .sl 1 [[.v (.int .i64 2)]]]), iA 0]) := by
 refine fn_callD [(18, [(6, 2000000), (8, 11), (10, 2000000)]), (23, [(0, 9)])] TK MX (H := HL Tryz.prog OQ TB FTo 3) (HL_ok TK MX FTo_ok 3) (nd := false) Tryz.func44 rfl (by kernel_rfl) (by kernel_rfl) (by kernel_rfl) rfl rfl ?_
 conv => whnf
 refine ⟨_, cW_a, ?_⟩
 conv => whnf
 refine ⟨_, cO_a_2, ?_⟩
 conv => whnf
 rfl
set_option maxRecDepth 100000 in
set_option maxHeartbeats 8000000 in
theorem cF_b_11 : Cal Tryz.prog OQ 44 [lsA nstB, iA 11] (.t [.c (.e [.sl 1 [[eC [(0, 2)]], [eC [(0, 3)]]], .mp false [0, 1, 2, 3, 11] [[eC [(0, 2)]], [eC [(0, 3)]], [eC [(1, 1)]], [eC [(2, 1)]], [eC [(1, 1), (2, -1)]]], .mp false [0, 1, 2, 3, 11] [bC true, bC true, bC false, bC false, bC false], .sl 1 [[.v (.int .i64 2)], [.v (.int .i64 3)]]]), iA 0]) := by
 refine fn_callD [(18, [(6, 2000000), (8, 11), (10, 2000000)]), (23, [(0, 9)])] TK MX (H := HL Tryz.prog OQ TB FTo 3) (HL_ok TK MX FTo_ok 3) (nd := false) Tryz.func44 rfl (by kernel_rfl) (by kernel_rfl) (by kernel_rfl) rfl rfl ?_
 conv => whnf
 refine ⟨_, cW_b, ?_⟩
 conv => whnf
 refine ⟨_, cO_b_11, ?_⟩
 conv => whnf
 rfl
set_option maxRecDepth 100000 in
set_option maxHeartbeats 8000000 in
theorem cF_c_1 : Cal Tryz.prog OQ 44 [lsA nstC, iA 1] (.t [.c (.v (.pointer none)), iA 9]) := by
 refine fn_callD [(18, [(6, 2000000), (8, 11), (10, 2000000)]), (23, [(0, 9)])] TK MX (H := HL Tryz.prog OQ TB FTo 3) (HL_ok TK MX FTo_ok 3) (nd := false) Tryz.func44 rfl (by kernel_rfl) (by kernel_rfl) (by kernel_rfl) rfl rfl ?_
 conv => whnf
 refine ⟨_, cW_c, ?_⟩
 conv => whnf
 refine ⟨_, cO_c_1, ?_⟩
 conv => whnf
 refine ⟨_, cN_c_1, ?_⟩
 conv => whnf
 intro R
 conv => whnf
 refine ⟨3, ?_⟩
 conv => whnf
 repeat (first | (refine ⟨_, cUses, ?_⟩; (conv => whnf)) | (refine ⟨rfl, ?_⟩; (conv => whnf)))
 refine ⟨_, cO_c_0, ?_⟩
 conv => whnf
 repeat (first | (refine ⟨_, cUses, ?_⟩; (conv => whnf)) | (refine ⟨rfl, ?_⟩; (conv => whnf)))
 refine ⟨_, cO_c_1, ?_⟩
 conv => whnf
 repeat (first | (refine ⟨_, cUses, ?_⟩; (conv => whnf)) | (refine ⟨rfl, ?_⟩; (conv => whnf)))
 rfl
set_option maxRecDepth 100000 in
set_option maxHeartbeats 8000000 in
theorem cV_a_10 : Cal Tryz.prog OQ 28 [lsA nst, iA 10] (.t [.c (.e [.sl 1 [[eC [(0, 2)]], [eC [(0, 3)]], [eC [(0, 5), (3, 2)]]], .mp false [0, 1, 2, 3, 4, 5, 6, 7, 8, 9, 10] [[eC [(0, 2)]], [eC [(0, 3)]], [eC [(1, 1)]], [eC [(2, 1)]], [eC [(3, 1)]], [eC [(3, 2)]], [eC [(0, 5)]], [eC [(0, 5), (3, 2)]], [eC [(4, 1)]], [eC [(1, 1), (2, 1)]], [eC [(1, -1), (2, -1), (4, 1)]]], .mp false [0, 1, 2, 3, 4, 5, 6, 7, 8, 9, 10] [bC true, bC true, bC false, bC false, bC false, bC false, bC true, bC false, bC false, bC false, bC false], .sl 1 [[.v (.int .i64 2)], [.v (.int .i64 3)], [.v (.int .i64 8)]]]), eA [(1, -1), (2, -1), (4, 1)], iA 0]) := by
 refine fn_callB [(7, [(4, 2000000)])] TK MX Tryz.func28 rfl (by kernel_rfl) (by kernel_rfl) (by kernel_rfl) rfl rfl ?_
 conv => whnf
 refine ⟨_, cAsked1 (l := nst) len_a chk_a (by decide) (by decide), ?_⟩
 conv => whnf
 refine ⟨_, cF_a_10, ?_⟩
 conv => whnf
 rfl
set_option maxRecDepth 100000 in
set_option maxHeartbeats 8000000 in
theorem cV_a_2 : Cal Tryz.prog OQ 28 [lsA nst, iA 2] (.t [.c (.e [.sl 1 [[eC [(0, 2)]]], .mp false [0, 2] [[eC [(0, 2)]], [eC [(1, 1)]]], .mp false [0, 2] [bC true, bC false], .sl 1 [[.v (.int .i64 2)]]]), eA [(1, 1)], iA 0]) := by
 refine fn_callB [(7, [(4, 2000000)])] TK MX Tryz.func28 rfl (by kernel_rfl) (by kernel_rfl) (by kernel_rfl) rfl rfl ?_
 conv => whnf
 refine ⟨_, cAsked1 (l := nst) len_a chk_a (by decide) (by decide), ?_⟩
 conv => whnf
 refine ⟨_, cF_a_2, ?_⟩
 conv => whnf
 rfl
set_option maxRecDepth 100000 in
set_option maxHeartbeats 8000000 in
theorem cV_c_1 : Cal Tryz.prog OQ 28 [lsA nstC, iA 1] (.t [.c (.v (.pointer none)), .c (.v (.map none)), iA 9]) := by
 refine fn_callB [(7, [(4, 2000000)])] TK MX Tryz.func28 rfl (by kernel_rfl) (by kernel_rfl) (by kernel_rfl) rfl rfl ?_
 conv => whnf
 refine ⟨_, cAsked1 (l := nstC) len_c chk_c (by decide) (by decide), ?_⟩
 conv => whnf
 refine ⟨_, cF_c_1, ?_⟩
 conv => whnf
 rfl
set_option maxRecDepth 100000 in
set_option maxHeartbeats 8000000 in
theorem cS_a_10 : Cal Tryz.prog OQ 12 [lsA nst, iA 10] (.t [iA 0, iA 0]) := by
 refine fn_call TK MX Tryz.func12 rfl (by kernel_rfl) (by kernel_rfl) (by kernel_rfl) rfl rfl ?_
 conv => whnf
 refine ⟨_, cV_a_10, ?_⟩
 conv => whnf
 refine ⟨_, sgnT [[(0, 2)], [(0, 3)], [(0, 5), (3, 2)]] [(1, -1), (2, -1), (4, 1)] 1000 6 8 0 _ (by kernel_rfl), ?_⟩
 conv => whnf
 rfl
set_option maxRecDepth 100000 in
set_option maxHeartbeats 8000000 in
theorem cS_c_1 : Cal Tryz.prog OQ 12 [lsA nstC, iA 1] (.t [iA 0, iA 9]) := by
 refine fn_call TK MX Tryz.func12 rfl (by kernel_rfl) (by kernel_rfl) (by kernel_rfl) rfl rfl ?_
 conv => whnf
 refine ⟨_, cV_c_1, ?_⟩
 conv => whnf
 rfl
end Go.Proofs.YtajecapgmdfjcaaGreatDoor

/- awake. -/
namespace Go.Proofs.YtajecapgmdfjcaaGreatDoor
open Go.RowKit Vn
set_option maxRecDepth 100000 in
set_option maxHeartbeats 8000000 in
theorem cClone_a : CalS Tryz.prog OQ 43 [lsA nst] 11 4 39 (nst.map ndC).flatten := by
 refine fn_callS [] TK MX Tryz.func43 rfl (by kernel_rfl) (by kernel_rfl) (by kernel_rfl) (flat_nds _) (by kernel_rfl) rfl ?_
 conv => whnf
 exact ⟨rfl, rfl⟩
set_option maxRecDepth 100000 in
set_option maxHeartbeats 8000000 in
theorem cCmp_a_2_3 : Cal Tryz.prog OQ 21 [lsA nst, iA 2, iA 3] (.t [iA (-1), iA 0]) := by
 refine fn_callB [(5, [(1000000, 21)]), (8, [(6, 2000000), (10, 2000000)])] TK MX Tryz.func21 rfl (by kernel_rfl) (by kernel_rfl) (by kernel_rfl) rfl rfl ?_
 conv => whnf
 refine ⟨_, cAsked2 (l := nst) len_a chk_a (by decide) (by decide) (by decide) (by decide), ?_⟩
 conv => whnf
 refine ⟨_, _, _, _, cClone_a, ?_⟩
 conv => whnf
 refine ⟨_, cF_b_11, ?_⟩
 conv => whnf
 refine ⟨_, sgnT [[(0, 2)], [(0, 3)]] [(1, 1), (2, -1)] 1000 6 8 (-1) _ (by kernel_rfl), ?_⟩
 conv => whnf
 rfl
set_option maxRecDepth 100000 in
set_option maxHeartbeats 8000000 in
theorem cFloor_a_2_3 : Cal Tryz.prog OQ 18 [lsA nst, iA 2, iA 3] (.t [nA ((11 : Int) : Rat), iA 0]) := by
 refine fn_callB [(6, [(5, 2000000), (6, 2000000), (7, 6)])] TK MX Tryz.func18 rfl (by kernel_rfl) (by kernel_rfl) (by kernel_rfl) rfl rfl ?_
 conv => whnf
 refine ⟨_, cV_a_2, ?_⟩
 conv => whnf
 refine .inl ⟨_, shfT [(1, 1)] 3 [(1, 8)] 1000 (by kernel_rfl), ?_⟩
 conv => whnf
 refine ⟨_, flrT [[(0, 2)]] [(1, 8)] 1000 11 _ (by kernel_rfl), ?_⟩
 conv => whnf
 rfl
set_option maxRecDepth 100000 in
set_option maxHeartbeats 8000000 in
theorem cAwake : Cal Tryz.prog OQ 8 [] (bA true) := by
 refine fn_call TK MX Tryz.func8 rfl (by kernel_rfl) (by kernel_rfl) (by kernel_rfl) rfl rfl ?_
 conv => whnf
 refine ⟨_, cNested (x := [50]) (y := [51]), ?_⟩
 conv => whnf
 refine ⟨_, cS_a_10, ?_⟩
 conv => whnf
 refine ⟨_, cCmp_a_2_3, ?_⟩
 conv => whnf
 refine ⟨_, cFloor_a_2_3, ?_⟩
 conv => whnf
 refine ⟨_, cNum, ?_⟩
 conv => whnf
 refine ⟨_, cOne, ?_⟩
 conv => whnf
 refine ⟨_, cS_c_1, ?_⟩
 conv => whnf
 refine ⟨_, txtT ((11 : Int) : Rat) [49, 49] 100 (by kernel_rfl), ?_⟩
 conv => whnf
 rw [show ((ba [49, 49]).toList == (⟨#[49, 49]⟩ : ByteArray).toList) = true by rw [ba_toList, show (⟨#[49, 49]⟩ : ByteArray) = ba [49, 49] from rfl, ba_toList]; rfl]
 conv => whnf
 rfl
end Go.Proofs.YtajecapgmdfjcaaGreatDoor

/- RealsKnown. PRINTED by gen/em2.py. -/
namespace Go.Proofs.YtajecapgmdfjcaaGreatDoor
open Go.RowKit Vn
theorem txtV (q : Rat) (l : List UInt8) (K : Nat) (h : txtB K q l = true) : ∃ s : ByteArray, Cal Tryz.prog OQ 10 [nA q] (sA s) ∧ ∀ t : ByteArray, t = ba l → (s.toList == t.toList) = true := ⟨ba l, txtT q l K h, fun t ht => by rw [ht]; simp⟩
set_option maxRecDepth 100000 in
set_option maxHeartbeats 8000000 in
theorem cRealsKnown : Cal Tryz.prog OQ 5 [] (bA true) := by
 refine fn_call TK MX Tryz.func5 rfl (by kernel_rfl) (by kernel_rfl) (by kernel_rfl) rfl rfl ?_
 obtain ⟨s0, ct0, cv0⟩ := txtV (3 / 2) [51, 47, 50] 100 (by kernel_rfl)
 have cw0 := cv0 ⟨#[51, 47, 50]⟩ rfl
 obtain ⟨s1, ct1, cv1⟩ := txtV (-2) [45, 50] 100 (by kernel_rfl)
 have cw1 := cv1 ⟨#[45, 50]⟩ rfl
 obtain ⟨s2, ct2, cv2⟩ := txtV (-3 / 2) [45, 51, 47, 50] 100 (by kernel_rfl)
 have cw2 := cv2 ⟨#[45, 51, 47, 50]⟩ rfl
 obtain ⟨s3, ct3, cv3⟩ := txtV (-11 / 8) [45, 49, 49, 47, 56] 100 (by kernel_rfl)
 have cw3 := cv3 ⟨#[45, 49, 49, 47, 56]⟩ rfl
 conv => whnf
 refine ⟨_, cNum, ?_⟩
 conv => whnf
 refine ⟨_, cOne, ?_⟩
 conv => whnf
 refine ⟨_, cTwoN, ?_⟩
 conv => whnf
 refine ⟨_, cTwoN, ?_⟩
 conv => whnf
 refine ⟨_, cOne, ?_⟩
 conv => whnf
 refine ⟨_, cNum, ?_⟩
 conv => whnf
 refine ⟨_, cOne, ?_⟩
 conv => whnf
 refine ⟨_, cS_d_3, ?_⟩
 conv => whnf
 refine ⟨_, cR_d_2, ?_⟩
 conv => whnf
 refine ⟨_, cR_d_6, ?_⟩
 conv => whnf
 refine ⟨_, cWt_d_3, ?_⟩
 conv => whnf
 refine ⟨_, ct0, ?_⟩
 conv => whnf
 rw [cw0]
 conv => whnf
 refine ⟨_, cFl_d_4, ?_⟩
 conv => whnf
 refine ⟨_, cEn_d_4, ?_⟩
 conv => whnf
 refine ⟨_, cRd_d_1, ?_⟩
 conv => whnf
 refine ⟨_, ct1, ?_⟩
 conv => whnf
 rw [cw1]
 conv => whnf
 refine ⟨_, ct2, ?_⟩
 conv => whnf
 rw [cw2]
 conv => whnf
 refine ⟨_, ct3, ?_⟩
 conv => whnf
 rw [cw3]
 conv => whnf
 refine ⟨_, cNum, ?_⟩
 conv => whnf
 refine ⟨_, cNum, ?_⟩
 conv => whnf
 refine ⟨_, cNum, ?_⟩
 conv => whnf
 refine ⟨_, cNum, ?_⟩
 conv => whnf
 refine ⟨_, cOne, ?_⟩
 conv => whnf
 refine ⟨_, cOne, ?_⟩
 conv => whnf
 refine ⟨_, cOne, ?_⟩
 conv => whnf
 refine ⟨_, cOne, ?_⟩
 conv => whnf
 refine ⟨_, cTwoN, ?_⟩
 conv => whnf
 refine ⟨_, cTwoN, ?_⟩
 conv => whnf
 refine ⟨_, cTwoN, ?_⟩
 conv => whnf
 refine ⟨_, cS_m_9, ?_⟩
 conv => whnf
 refine ⟨_, cS_m_10, ?_⟩
 conv => whnf
 refine ⟨_, cCmp_m_9_7, ?_⟩
 conv => whnf
 refine ⟨_, cRefChk, ?_⟩
 conv => whnf
 refine ⟨_, cAwake, ?_⟩
 conv => whnf
 rfl
end Go.Proofs.YtajecapgmdfjcaaGreatDoor
