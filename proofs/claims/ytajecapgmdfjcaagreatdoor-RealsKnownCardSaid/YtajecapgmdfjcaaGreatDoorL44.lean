/- which nodes are needed. PRINTED by gen/em2.py. -/
import Derived.Test.YtajecapgmdfjcaaGreatDoorL41
namespace Go.Proofs.YtajecapgmdfjcaaGreatDoor
open Go.RowKit Vn
set_option maxRecDepth 100000 in
set_option maxHeartbeats 8000000 in
theorem cN_n_0 : Cal Tryz.prog OQ 86 [lsA nstN, iA 0] (.c (.cl 129 [.e [.sl 1 [bC true]]])) := by
 refine fn_callD [(9, [(0, 5), (2, 7), (3, 5), (5, 7), (7, 11), (13, 11)])] TK MX (H := HL Tryz.prog OQ TB FTn 1) (HL_ok TK MX FTn_ok 1) (nd := false) Tryz.func86 rfl (by kernel_rfl) (by kernel_rfl) (by kernel_rfl) rfl rfl ?_
 conv => whnf
 refine ⟨_, cBackward (l := (nstN).take 1), ?_⟩
 conv => whnf
 intro R
 conv => whnf
 refine ⟨2, ?_⟩
 conv => whnf
 repeat (first | (refine ⟨_, cUses, ?_⟩; (conv => whnf)) | (refine ⟨rfl, ?_⟩; (conv => whnf)))
 rfl
set_option maxRecDepth 100000 in
set_option maxHeartbeats 8000000 in
theorem cN_n_1 : Cal Tryz.prog OQ 86 [lsA nstN, iA 1] (.c (.cl 129 [.e [.sl 1 [bC false, bC true]]])) := by
 refine fn_callD [(9, [(0, 5), (2, 7), (3, 5), (5, 7), (7, 11), (13, 11)])] TK MX (H := HL Tryz.prog OQ TB FTn 1) (HL_ok TK MX FTn_ok 1) (nd := false) Tryz.func86 rfl (by kernel_rfl) (by kernel_rfl) (by kernel_rfl) rfl rfl ?_
 conv => whnf
 refine ⟨_, cBackward (l := (nstN).take 2), ?_⟩
 conv => whnf
 intro R
 conv => whnf
 refine ⟨3, ?_⟩
 conv => whnf
 repeat (first | (refine ⟨_, cUses, ?_⟩; (conv => whnf)) | (refine ⟨rfl, ?_⟩; (conv => whnf)))
 rfl
set_option maxRecDepth 100000 in
set_option maxHeartbeats 8000000 in
theorem cN_n_2 : Cal Tryz.prog OQ 86 [lsA nstN, iA 2] (.c (.cl 129 [.e [.sl 1 [bC false, bC false, bC true]]])) := by
 refine fn_callD [(9, [(0, 5), (2, 7), (3, 5), (5, 7), (7, 11), (13, 11)])] TK MX (H := HL Tryz.prog OQ TB FTn 1) (HL_ok TK MX FTn_ok 1) (nd := false) Tryz.func86 rfl (by kernel_rfl) (by kernel_rfl) (by kernel_rfl) rfl rfl ?_
 conv => whnf
 refine ⟨_, cBackward (l := (nstN).take 3), ?_⟩
 conv => whnf
 intro R
 conv => whnf
 refine ⟨4, ?_⟩
 conv => whnf
 repeat (first | (refine ⟨_, cUses, ?_⟩; (conv => whnf)) | (refine ⟨rfl, ?_⟩; (conv => whnf)))
 rfl
set_option maxRecDepth 100000 in
set_option maxHeartbeats 8000000 in
theorem cN_n_3 : Cal Tryz.prog OQ 86 [lsA nstN, iA 3] (.c (.cl 129 [.e [.sl 1 [bC false, bC false, bC false, bC true]]])) := by
 refine fn_callD [(9, [(0, 5), (2, 7), (3, 5), (5, 7), (7, 11), (13, 11)])] TK MX (H := HL Tryz.prog OQ TB FTn 1) (HL_ok TK MX FTn_ok 1) (nd := false) Tryz.func86 rfl (by kernel_rfl) (by kernel_rfl) (by kernel_rfl) rfl rfl ?_
 conv => whnf
 refine ⟨_, cBackward (l := (nstN).take 4), ?_⟩
 conv => whnf
 intro R
 conv => whnf
 refine ⟨5, ?_⟩
 conv => whnf
 repeat (first | (refine ⟨_, cUses, ?_⟩; (conv => whnf)) | (refine ⟨rfl, ?_⟩; (conv => whnf)))
 rfl
set_option maxRecDepth 100000 in
set_option maxHeartbeats 8000000 in
theorem cN_n_4 : Cal Tryz.prog OQ 86 [lsA nstN, iA 4] (.c (.cl 129 [.e [.sl 1 [bC true, bC false, bC false, bC false, bC true]]])) := by
 refine fn_callD [(9, [(0, 5), (2, 7), (3, 5), (5, 7), (7, 11), (13, 11)])] TK MX (H := HL Tryz.prog OQ TB FTn 1) (HL_ok TK MX FTn_ok 1) (nd := false) Tryz.func86 rfl (by kernel_rfl) (by kernel_rfl) (by kernel_rfl) rfl rfl ?_
 conv => whnf
 refine ⟨_, cBackward (l := (nstN).take 5), ?_⟩
 conv => whnf
 intro R
 conv => whnf
 refine ⟨6, ?_⟩
 conv => whnf
 repeat (first | (refine ⟨_, cUses, ?_⟩; (conv => whnf)) | (refine ⟨rfl, ?_⟩; (conv => whnf)))
 rfl
set_option maxRecDepth 100000 in
set_option maxHeartbeats 8000000 in
theorem cN_n_5 : Cal Tryz.prog OQ 86 [lsA nstN, iA 5] (.c (.cl 129 [.e [.sl 1 [bC false, bC true, bC false, bC false, bC false, bC true]]])) := by
 refine fn_callD [(9, [(0, 5), (2, 7), (3, 5), (5, 7), (7, 11), (13, 11)])] TK MX (H := HL Tryz.prog OQ TB FTn 1) (HL_ok TK MX FTn_ok 1) (nd := false) Tryz.func86 rfl (by kernel_rfl) (by kernel_rfl) (by kernel_rfl) rfl rfl ?_
 conv => whnf
 refine ⟨_, cBackward (l := (nstN).take 6), ?_⟩
 conv => whnf
 intro R
 conv => whnf
 refine ⟨7, ?_⟩
 conv => whnf
 repeat (first | (refine ⟨_, cUses, ?_⟩; (conv => whnf)) | (refine ⟨rfl, ?_⟩; (conv => whnf)))
 rfl
set_option maxRecDepth 100000 in
set_option maxHeartbeats 8000000 in
theorem cN_n_6 : Cal Tryz.prog OQ 86 [lsA nstN, iA 6] (.c (.cl 129 [.e [.sl 1 [bC false, bC false, bC true, bC false, bC false, bC false, bC true]]])) := by
 refine fn_callD [(9, [(0, 5), (2, 7), (3, 5), (5, 7), (7, 11), (13, 11)])] TK MX (H := HL Tryz.prog OQ TB FTn 1) (HL_ok TK MX FTn_ok 1) (nd := false) Tryz.func86 rfl (by kernel_rfl) (by kernel_rfl) (by kernel_rfl) rfl rfl ?_
 conv => whnf
 refine ⟨_, cBackward (l := (nstN).take 7), ?_⟩
 conv => whnf
 intro R
 conv => whnf
 refine ⟨8, ?_⟩
 conv => whnf
 repeat (first | (refine ⟨_, cUses, ?_⟩; (conv => whnf)) | (refine ⟨rfl, ?_⟩; (conv => whnf)))
 rfl
set_option maxRecDepth 100000 in
set_option maxHeartbeats 8000000 in
theorem cN_n_7 : Cal Tryz.prog OQ 86 [lsA nstN, iA 7] (.c (.cl 129 [.e [.sl 1 [bC false, bC false, bC false, bC true, bC false, bC false, bC false, bC true]]])) := by
 refine fn_callD [(9, [(0, 5), (2, 7), (3, 5), (5, 7), (7, 11), (13, 11)])] TK MX (H := HL Tryz.prog OQ TB FTn 1) (HL_ok TK MX FTn_ok 1) (nd := false) Tryz.func86 rfl (by kernel_rfl) (by kernel_rfl) (by kernel_rfl) rfl rfl ?_
 conv => whnf
 refine ⟨_, cBackward (l := (nstN).take 8), ?_⟩
 conv => whnf
 intro R
 conv => whnf
 refine ⟨9, ?_⟩
 conv => whnf
 repeat (first | (refine ⟨_, cUses, ?_⟩; (conv => whnf)) | (refine ⟨rfl, ?_⟩; (conv => whnf)))
 rfl
set_option maxRecDepth 100000 in
set_option maxHeartbeats 8000000 in
theorem cN_n_8 : Cal Tryz.prog OQ 86 [lsA nstN, iA 8] (.c (.cl 129 [.e [.sl 1 [bC true, bC true, bC false, bC false, bC true, bC true, bC false, bC false, bC true]]])) := by
 refine fn_callD [(9, [(0, 5), (2, 7), (3, 5), (5, 7), (7, 11), (13, 11)])] TK MX (H := HL Tryz.prog OQ TB FTn 1) (HL_ok TK MX FTn_ok 1) (nd := false) Tryz.func86 rfl (by kernel_rfl) (by kernel_rfl) (by kernel_rfl) rfl rfl ?_
 conv => whnf
 refine ⟨_, cBackward (l := (nstN).take 9), ?_⟩
 conv => whnf
 intro R
 conv => whnf
 refine ⟨10, ?_⟩
 conv => whnf
 repeat (first | (refine ⟨_, cUses, ?_⟩; (conv => whnf)) | (refine ⟨rfl, ?_⟩; (conv => whnf)))
 rfl
set_option maxRecDepth 100000 in
set_option maxHeartbeats 8000000 in
theorem cN_n_9 : Cal Tryz.prog OQ 86 [lsA nstN, iA 9] (.c (.cl 129 [.e [.sl 1 [bC true, bC true, bC true, bC false, bC true, bC true, bC true, bC false, bC true, bC true]]])) := by
 refine fn_callD [(9, [(0, 5), (2, 7), (3, 5), (5, 7), (7, 11), (13, 11)])] TK MX (H := HL Tryz.prog OQ TB FTn 1) (HL_ok TK MX FTn_ok 1) (nd := false) Tryz.func86 rfl (by kernel_rfl) (by kernel_rfl) (by kernel_rfl) rfl rfl ?_
 conv => whnf
 refine ⟨_, cBackward (l := (nstN).take 10), ?_⟩
 conv => whnf
 intro R
 conv => whnf
 refine ⟨11, ?_⟩
 conv => whnf
 repeat (first | (refine ⟨_, cUses, ?_⟩; (conv => whnf)) | (refine ⟨rfl, ?_⟩; (conv => whnf)))
 rfl
set_option maxRecDepth 100000 in
set_option maxHeartbeats 8000000 in
theorem cN_n_11 : Cal Tryz.prog OQ 86 [lsA nstN, iA 11] (.c (.cl 129 [.e [.sl 1 [bC true, bC true, bC true, bC true, bC true, bC true, bC true, bC true, bC true, bC true, bC false, bC true]]])) := by
 refine fn_callD [(9, [(0, 5), (2, 7), (3, 5), (5, 7), (7, 11), (13, 11)])] TK MX (H := HL Tryz.prog OQ TB FTn 1) (HL_ok TK MX FTn_ok 1) (nd := false) Tryz.func86 rfl (by kernel_rfl) (by kernel_rfl) (by kernel_rfl) rfl rfl ?_
 conv => whnf
 refine ⟨_, cBackward (l := (nstN).take 12), ?_⟩
 conv => whnf
 intro R
 conv => whnf
 refine ⟨13, ?_⟩
 conv => whnf
 repeat (first | (refine ⟨_, cUses, ?_⟩; (conv => whnf)) | (refine ⟨rfl, ?_⟩; (conv => whnf)))
 rfl
end Go.Proofs.YtajecapgmdfjcaaGreatDoor
