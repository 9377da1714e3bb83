/- the second list. PRINTED by gen/em2.py. -/
import Derived.Test.YtajecapgmdfjcaaGreatDoorL42
import Derived.Test.YtajecapgmdfjcaaGreatDoorL43
import Derived.Test.YtajecapgmdfjcaaGreatDoorL45
import Derived.Test.YtajecapgmdfjcaaGreatDoorL46
namespace Go.Proofs.YtajecapgmdfjcaaGreatDoor
open Go.RowKit Vn
set_option maxRecDepth 100000 in
set_option maxHeartbeats 8000000 in
theorem cF_m_9 : Cal Tryz.prog OQ 44 [lsA nstM, iA 9] (.t [.c (.e [.sl 1 [[eC [(0, 2)]], [eC [(0, 3)]], [eC [(0, 5)]]], .mp false [0, 1, 2, 4, 5, 6, 8, 9] [[eC [(0, 2)]], [eC [(0, 3)]], [eC [(0, 5)]], [eC [(1, 1)]], [eC [(2, 1)]], [eC [(4, 1)]], [eC [(1, 1), (2, 1)]], [eC [(1, 1), (2, 1), (4, 1)]]], .mp false [0, 1, 2, 4, 5, 6, 8, 9] [bC true, bC true, bC true, bC false, bC false, bC false, bC false, bC false], .sl 1 [[.v (.int .i64 4)], [.v (.int .i64 5)], [.v (.int .i64 6)]]]), iA 0]) := by
 refine fn_callD [(18, [(6, 2000000), (8, 11), (10, 2000000)]), (23, [(0, 9)])] TK MX (H := HL Tryz.prog OQ TB FTo 3) (HL_ok TK MX FTo_ok 3) (nd := false) Tryz.func44 rfl (by kernel_rfl) (by kernel_rfl) (by kernel_rfl) rfl rfl ?_
 conv => whnf
 refine ⟨_, cW_m, ?_⟩
 conv => whnf
 refine ⟨_, cO_m_9, ?_⟩
 conv => whnf
 rfl
set_option maxRecDepth 100000 in
set_option maxHeartbeats 8000000 in
theorem cF_m_10 : Cal Tryz.prog OQ 44 [lsA nstM, iA 10] (.t [.c (.v (.pointer none)), iA 3]) := by
 refine fn_callD [(18, [(6, 2000000), (8, 11), (10, 2000000)]), (23, [(0, 9)])] TK MX (H := HL Tryz.prog OQ TB FTo 3) (HL_ok TK MX FTo_ok 3) (nd := false) Tryz.func44 rfl (by kernel_rfl) (by kernel_rfl) (by kernel_rfl) rfl rfl ?_
 conv => whnf
 refine ⟨_, cW_m, ?_⟩
 conv => whnf
 refine ⟨_, cO_m_10, ?_⟩
 conv => whnf
 refine ⟨_, cN_m_10, ?_⟩
 conv => whnf
 intro R
 conv => whnf
 refine ⟨12, ?_⟩
 conv => whnf
 repeat (first | (refine ⟨_, cUses, ?_⟩; (conv => whnf)) | (refine ⟨rfl, ?_⟩; (conv => whnf)))
 refine ⟨_, cO_m_0, ?_⟩
 conv => whnf
 repeat (first | (refine ⟨_, cUses, ?_⟩; (conv => whnf)) | (refine ⟨rfl, ?_⟩; (conv => whnf)))
 refine ⟨_, cO_m_1, ?_⟩
 conv => whnf
 repeat (first | (refine ⟨_, cUses, ?_⟩; (conv => whnf)) | (refine ⟨rfl, ?_⟩; (conv => whnf)))
 refine ⟨_, cO_m_2, ?_⟩
 conv => whnf
 repeat (first | (refine ⟨_, cUses, ?_⟩; (conv => whnf)) | (refine ⟨rfl, ?_⟩; (conv => whnf)))
 refine ⟨_, cO_m_3, ?_⟩
 conv => whnf
 repeat (first | (refine ⟨_, cUses, ?_⟩; (conv => whnf)) | (refine ⟨rfl, ?_⟩; (conv => whnf)))
 refine ⟨_, cO_m_4, ?_⟩
 conv => whnf
 repeat (first | (refine ⟨_, cUses, ?_⟩; (conv => whnf)) | (refine ⟨rfl, ?_⟩; (conv => whnf)))
 refine ⟨_, cO_m_5, ?_⟩
 conv => whnf
 repeat (first | (refine ⟨_, cUses, ?_⟩; (conv => whnf)) | (refine ⟨rfl, ?_⟩; (conv => whnf)))
 refine ⟨_, cO_m_6, ?_⟩
 conv => whnf
 repeat (first | (refine ⟨_, cUses, ?_⟩; (conv => whnf)) | (refine ⟨rfl, ?_⟩; (conv => whnf)))
 refine ⟨_, cO_m_7, ?_⟩
 conv => whnf
 repeat (first | (refine ⟨_, cUses, ?_⟩; (conv => whnf)) | (refine ⟨rfl, ?_⟩; (conv => whnf)))
 refine ⟨_, cO_m_8, ?_⟩
 conv => whnf
 repeat (first | (refine ⟨_, cUses, ?_⟩; (conv => whnf)) | (refine ⟨rfl, ?_⟩; (conv => whnf)))
 refine ⟨_, cO_m_9, ?_⟩
 conv => whnf
 repeat (first | (refine ⟨_, cUses, ?_⟩; (conv => whnf)) | (refine ⟨rfl, ?_⟩; (conv => whnf)))
 refine ⟨_, cO_m_10, ?_⟩
 conv => whnf
 repeat (first | (refine ⟨_, cUses, ?_⟩; (conv => whnf)) | (refine ⟨rfl, ?_⟩; (conv => whnf)))
 rfl
set_option maxRecDepth 100000 in
set_option maxHeartbeats 8000000 in
theorem cV_m_9 : Cal Tryz.prog OQ 28 [lsA nstM, iA 9] (.t [.c (.e [.sl 1 [[eC [(0, 2)]], [eC [(0, 3)]], [eC [(0, 5)]]], .mp false [0, 1, 2, 4, 5, 6, 8, 9] [[eC [(0, 2)]], [eC [(0, 3)]], [eC [(0, 5)]], [eC [(1, 1)]], [eC [(2, 1)]], [eC [(4, 1)]], [eC [(1, 1), (2, 1)]], [eC [(1, 1), (2, 1), (4, 1)]]], .mp false [0, 1, 2, 4, 5, 6, 8, 9] [bC true, bC true, bC true, bC false, bC false, bC false, bC false, bC false], .sl 1 [[.v (.int .i64 4)], [.v (.int .i64 5)], [.v (.int .i64 6)]]]), eA [(1, 1), (2, 1), (4, 1)], iA 0]) := by
 refine fn_callB [(7, [(4, 2000000)])] TK MX Tryz.func28 rfl (by kernel_rfl) (by kernel_rfl) (by kernel_rfl) rfl rfl ?_
 conv => whnf
 refine ⟨_, cAsked1 (l := nstM) len_m chk_m (by decide) (by decide), ?_⟩
 conv => whnf
 refine ⟨_, cF_m_9, ?_⟩
 conv => whnf
 rfl
set_option maxRecDepth 100000 in
set_option maxHeartbeats 8000000 in
theorem cV_m_10 : Cal Tryz.prog OQ 28 [lsA nstM, iA 10] (.t [.c (.v (.pointer none)), .c (.v (.map none)), iA 3]) := by
 refine fn_callB [(7, [(4, 2000000)])] TK MX Tryz.func28 rfl (by kernel_rfl) (by kernel_rfl) (by kernel_rfl) rfl rfl ?_
 conv => whnf
 refine ⟨_, cAsked1 (l := nstM) len_m chk_m (by decide) (by decide), ?_⟩
 conv => whnf
 refine ⟨_, cF_m_10, ?_⟩
 conv => whnf
 rfl
set_option maxRecDepth 100000 in
set_option maxHeartbeats 8000000 in
theorem cS_m_9 : Cal Tryz.prog OQ 12 [lsA nstM, iA 9] (.t [iA 1, iA 0]) := by
 refine fn_call TK MX Tryz.func12 rfl (by kernel_rfl) (by kernel_rfl) (by kernel_rfl) rfl rfl ?_
 conv => whnf
 refine ⟨_, cV_m_9, ?_⟩
 conv => whnf
 refine ⟨_, sgnT [[(0, 2)], [(0, 3)], [(0, 5)]] [(1, 1), (2, 1), (4, 1)] 1000 6 8 1 _ (by kernel_rfl), ?_⟩
 conv => whnf
 rfl
set_option maxRecDepth 100000 in
set_option maxHeartbeats 8000000 in
theorem cS_m_10 : Cal Tryz.prog OQ 12 [lsA nstM, iA 10] (.t [iA 0, iA 3]) := by
 refine fn_call TK MX Tryz.func12 rfl (by kernel_rfl) (by kernel_rfl) (by kernel_rfl) rfl rfl ?_
 conv => whnf
 refine ⟨_, cV_m_10, ?_⟩
 conv => whnf
 rfl
set_option maxRecDepth 100000 in
set_option maxHeartbeats 8000000 in
theorem cF_n_11 : Cal Tryz.prog OQ 44 [lsA nstN, iA 11] (.t [.c (.v (.pointer none)), iA 3]) := by
 refine fn_callD [(18, [(6, 2000000), (8, 11), (10, 2000000)]), (23, [(0, 9)])] TK MX (H := HL Tryz.prog OQ TB FTo 3) (HL_ok TK MX FTo_ok 3) (nd := false) Tryz.func44 rfl (by kernel_rfl) (by kernel_rfl) (by kernel_rfl) rfl rfl ?_
 conv => whnf
 refine ⟨_, cW_n, ?_⟩
 conv => whnf
 refine ⟨_, cO_n_11, ?_⟩
 conv => whnf
 refine ⟨_, cN_n_11, ?_⟩
 conv => whnf
 intro R
 conv => whnf
 refine ⟨13, ?_⟩
 conv => whnf
 repeat (first | (refine ⟨_, cUses, ?_⟩; (conv => whnf)) | (refine ⟨rfl, ?_⟩; (conv => whnf)))
 refine ⟨_, cO_n_0, ?_⟩
 conv => whnf
 repeat (first | (refine ⟨_, cUses, ?_⟩; (conv => whnf)) | (refine ⟨rfl, ?_⟩; (conv => whnf)))
 refine ⟨_, cO_n_1, ?_⟩
 conv => whnf
 repeat (first | (refine ⟨_, cUses, ?_⟩; (conv => whnf)) | (refine ⟨rfl, ?_⟩; (conv => whnf)))
 refine ⟨_, cO_n_2, ?_⟩
 conv => whnf
 repeat (first | (refine ⟨_, cUses, ?_⟩; (conv => whnf)) | (refine ⟨rfl, ?_⟩; (conv => whnf)))
 refine ⟨_, cO_n_3, ?_⟩
 conv => whnf
 repeat (first | (refine ⟨_, cUses, ?_⟩; (conv => whnf)) | (refine ⟨rfl, ?_⟩; (conv => whnf)))
 refine ⟨_, cO_n_4, ?_⟩
 conv => whnf
 repeat (first | (refine ⟨_, cUses, ?_⟩; (conv => whnf)) | (refine ⟨rfl, ?_⟩; (conv => whnf)))
 refine ⟨_, cO_n_5, ?_⟩
 conv => whnf
 repeat (first | (refine ⟨_, cUses, ?_⟩; (conv => whnf)) | (refine ⟨rfl, ?_⟩; (conv => whnf)))
 refine ⟨_, cO_n_6, ?_⟩
 conv => whnf
 repeat (first | (refine ⟨_, cUses, ?_⟩; (conv => whnf)) | (refine ⟨rfl, ?_⟩; (conv => whnf)))
 refine ⟨_, cO_n_7, ?_⟩
 conv => whnf
 repeat (first | (refine ⟨_, cUses, ?_⟩; (conv => whnf)) | (refine ⟨rfl, ?_⟩; (conv => whnf)))
 refine ⟨_, cO_n_8, ?_⟩
 conv => whnf
 repeat (first | (refine ⟨_, cUses, ?_⟩; (conv => whnf)) | (refine ⟨rfl, ?_⟩; (conv => whnf)))
 refine ⟨_, cO_n_9, ?_⟩
 conv => whnf
 repeat (first | (refine ⟨_, cUses, ?_⟩; (conv => whnf)) | (refine ⟨rfl, ?_⟩; (conv => whnf)))
 refine ⟨_, cO_n_11, ?_⟩
 conv => whnf
 repeat (first | (refine ⟨_, cUses, ?_⟩; (conv => whnf)) | (refine ⟨rfl, ?_⟩; (conv => whnf)))
 rfl
set_option maxRecDepth 100000 in
set_option maxHeartbeats 8000000 in
theorem cClone_m : CalS Tryz.prog OQ 43 [lsA nstM] 11 4 39 (nstM.map ndC).flatten := by
 refine fn_callS [] TK MX Tryz.func43 rfl (by kernel_rfl) (by kernel_rfl) (by kernel_rfl) (flat_nds _) (by kernel_rfl) rfl ?_
 conv => whnf
 exact ⟨rfl, rfl⟩
set_option maxRecDepth 100000 in
set_option maxHeartbeats 8000000 in
theorem cCmp_m_9_7 : Cal Tryz.prog OQ 21 [lsA nstM, iA 9, iA 7] (.t [iA 0, iA 3]) := by
 refine fn_callB [(5, [(1000000, 21)]), (8, [(6, 2000000), (10, 2000000)])] TK MX Tryz.func21 rfl (by kernel_rfl) (by kernel_rfl) (by kernel_rfl) rfl rfl ?_
 conv => whnf
 refine ⟨_, cAsked2 (l := nstM) len_m chk_m (by decide) (by decide) (by decide) (by decide), ?_⟩
 conv => whnf
 refine ⟨_, _, _, _, cClone_m, ?_⟩
 conv => whnf
 refine ⟨_, cF_n_11, ?_⟩
 conv => whnf
 rfl
end Go.Proofs.YtajecapgmdfjcaaGreatDoor
