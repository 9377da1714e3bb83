/- RealsKnown's lists. PRINTED by gen/em2.py. -/
import Derived.Test.YtajecapgmdfjcaaGreatDoorL40
namespace Go.Proofs.YtajecapgmdfjcaaGreatDoor
open Go.RowKit Vn
def nstD : List Nd := [⟨1, 0, 0, [50]⟩, ⟨4, 0, 0, []⟩, ⟨7, 1, 1, []⟩, ⟨6, 2, 0, []⟩, ⟨2, 1, 0, []⟩, ⟨1, 0, 0, [57, 47, 52]⟩, ⟨4, 5, 0, []⟩]
def nstM : List Nd := [⟨1, 0, 0, [50]⟩, ⟨1, 0, 0, [51]⟩, ⟨1, 0, 0, [53]⟩, ⟨1, 0, 0, [55]⟩, ⟨4, 0, 0, []⟩, ⟨4, 1, 0, []⟩, ⟨4, 2, 0, []⟩, ⟨4, 3, 0, []⟩, ⟨5, 4, 5, []⟩, ⟨5, 8, 6, []⟩, ⟨5, 9, 7, []⟩]
def nstN : List Nd := [⟨1, 0, 0, [50]⟩, ⟨1, 0, 0, [51]⟩, ⟨1, 0, 0, [53]⟩, ⟨1, 0, 0, [55]⟩, ⟨4, 0, 0, []⟩, ⟨4, 1, 0, []⟩, ⟨4, 2, 0, []⟩, ⟨4, 3, 0, []⟩, ⟨5, 4, 5, []⟩, ⟨5, 8, 6, []⟩, ⟨5, 9, 7, []⟩, ⟨6, 9, 7, []⟩]
theorem len_d : ∀ x ∈ nstD, x.v.length ≤ 9223372036854775807 := vlen_ok (by kernel_rfl)
theorem chk_d : checkE nstD = (0, 0) := by kernel_rfl
set_option maxRecDepth 100000 in
set_option maxHeartbeats 8000000 in
theorem cW_d : Cal Tryz.prog OQ 32 [lsA nstD] (.c (wC [1, 1, 2, 3, 1, 1, 1])) := by
 refine fn_callB [(6, [(4, 5), (6, 10), (9, 5), (11, 10), (15, 10)])] TK MX Tryz.func32 rfl (by kernel_rfl) (by kernel_rfl) (by kernel_rfl) rfl rfl ?_
 conv => whnf
 refine ⟨8, ?_⟩
 conv => whnf
 refine ⟨_, cUses, ?_⟩
 conv => whnf
 refine ⟨_, parsT [50] 2 (by kernel_rfl), ?_⟩
 conv => whnf
 refine ⟨_, digT 2 1 1000 (by kernel_rfl), ?_⟩
 conv => whnf
 refine ⟨_, cUses, ?_⟩
 conv => whnf
 refine ⟨_, cUses, ?_⟩
 conv => whnf
 refine ⟨_, cUses, ?_⟩
 conv => whnf
 refine ⟨_, cUses, ?_⟩
 conv => whnf
 refine ⟨_, cUses, ?_⟩
 conv => whnf
 refine ⟨_, parsT [57, 47, 52] (9/4) (by kernel_rfl), ?_⟩
 conv => whnf
 refine ⟨_, digT (9/4) 1 1000 (by kernel_rfl), ?_⟩
 conv => whnf
 refine ⟨_, cUses, ?_⟩
 conv => whnf
 rfl
theorem len_m : ∀ x ∈ nstM, x.v.length ≤ 9223372036854775807 := vlen_ok (by kernel_rfl)
theorem chk_m : checkE nstM = (0, 0) := by kernel_rfl
set_option maxRecDepth 100000 in
set_option maxHeartbeats 8000000 in
theorem cW_m : Cal Tryz.prog OQ 32 [lsA nstM] (.c (wC [1, 1, 1, 1, 1, 1, 1, 1, 2, 3, 4])) := by
 refine fn_callB [(6, [(4, 5), (6, 10), (9, 5), (11, 10), (15, 10)])] TK MX Tryz.func32 rfl (by kernel_rfl) (by kernel_rfl) (by kernel_rfl) rfl rfl ?_
 conv => whnf
 refine ⟨12, ?_⟩
 conv => whnf
 refine ⟨_, cUses, ?_⟩
 conv => whnf
 refine ⟨_, parsT [50] 2 (by kernel_rfl), ?_⟩
 conv => whnf
 refine ⟨_, digT 2 1 1000 (by kernel_rfl), ?_⟩
 conv => whnf
 refine ⟨_, cUses, ?_⟩
 conv => whnf
 refine ⟨_, parsT [51] 3 (by kernel_rfl), ?_⟩
 conv => whnf
 refine ⟨_, digT 3 1 1000 (by kernel_rfl), ?_⟩
 conv => whnf
 refine ⟨_, cUses, ?_⟩
 conv => whnf
 refine ⟨_, parsT [53] 5 (by kernel_rfl), ?_⟩
 conv => whnf
 refine ⟨_, digT 5 1 1000 (by kernel_rfl), ?_⟩
 conv => whnf
 refine ⟨_, cUses, ?_⟩
 conv => whnf
 refine ⟨_, parsT [55] 7 (by kernel_rfl), ?_⟩
 conv => whnf
 refine ⟨_, digT 7 1 1000 (by kernel_rfl), ?_⟩
 conv => whnf
 refine ⟨_, cUses, ?_⟩
 conv => whnf
 refine ⟨_, cUses, ?_⟩
 conv => whnf
 refine ⟨_, cUses, ?_⟩
 conv => whnf
 refine ⟨_, cUses, ?_⟩
 conv => whnf
 refine ⟨_, cUses, ?_⟩
 conv => whnf
 refine ⟨_, cUses, ?_⟩
 conv => whnf
 refine ⟨_, cUses, ?_⟩
 conv => whnf
 rfl
set_option maxRecDepth 100000 in
set_option maxHeartbeats 8000000 in
theorem cW_n : Cal Tryz.prog OQ 32 [lsA nstN] (.c (wC [1, 1, 1, 1, 1, 1, 1, 1, 2, 3, 4, 4])) := by
 refine fn_callB [(6, [(4, 5), (6, 10), (9, 5), (11, 10), (15, 10)])] TK MX Tryz.func32 rfl (by kernel_rfl) (by kernel_rfl) (by kernel_rfl) rfl rfl ?_
 conv => whnf
 refine ⟨13, ?_⟩
 conv => whnf
 refine ⟨_, cUses, ?_⟩
 conv => whnf
 refine ⟨_, parsT [50] 2 (by kernel_rfl), ?_⟩
 conv => whnf
 refine ⟨_, digT 2 1 1000 (by kernel_rfl), ?_⟩
 conv => whnf
 refine ⟨_, cUses, ?_⟩
 conv => whnf
 refine ⟨_, parsT [51] 3 (by kernel_rfl), ?_⟩
 conv => whnf
 refine ⟨_, digT 3 1 1000 (by kernel_rfl), ?_⟩
 conv => whnf
 refine ⟨_, cUses, ?_⟩
 conv => whnf
 refine ⟨_, parsT [53] 5 (by kernel_rfl), ?_⟩
 conv => whnf
 refine ⟨_, digT 5 1 1000 (by kernel_rfl), ?_⟩
 conv => whnf
 refine ⟨_, cUses, ?_⟩
 conv => whnf
 refine ⟨_, parsT [55] 7 (by kernel_rfl), ?_⟩
 conv => whnf
 refine ⟨_, digT 7 1 1000 (by kernel_rfl), ?_⟩
 conv => whnf
 refine ⟨_, cUses, ?_⟩
 conv => whnf
 refine ⟨_, cUses, ?_⟩
 conv => whnf
 refine ⟨_, cUses, ?_⟩
 conv => whnf
 refine ⟨_, cUses, ?_⟩
 conv => whnf
 refine ⟨_, cUses, ?_⟩
 conv => whnf
 refine ⟨_, cUses, ?_⟩
 conv => whnf
 refine ⟨_, cUses, ?_⟩
 conv => whnf
 refine ⟨_, cUses, ?_⟩
 conv => whnf
 rfl
set_option maxRecDepth 100000 in
set_option maxHeartbeats 8000000 in
theorem cN_d_1 : Cal Tryz.prog OQ 86 [lsA nstD, iA 1] (.c (.cl 129 [.e [.sl 1 [bC true, bC true]]])) := by
 refine fn_callD [(9, [(0, 5), (2, 7), (3, 5), (5, 7), (7, 11), (13, 11)])] TK MX (H := HL Tryz.prog OQ TB FTn 1) (HL_ok TK MX FTn_ok 1) (nd := false) Tryz.func86 rfl (by kernel_rfl) (by kernel_rfl) (by kernel_rfl) rfl rfl ?_
 conv => whnf
 refine ⟨_, cBackward (l := (nstD).take 2), ?_⟩
 conv => whnf
 intro R
 conv => whnf
 refine ⟨3, ?_⟩
 conv => whnf
 repeat (first | (refine ⟨_, cUses, ?_⟩; (conv => whnf)) | (refine ⟨rfl, ?_⟩; (conv => whnf)))
 rfl
set_option maxRecDepth 100000 in
set_option maxHeartbeats 8000000 in
theorem cN_d_2 : Cal Tryz.prog OQ 86 [lsA nstD, iA 2] (.c (.cl 129 [.e [.sl 1 [bC true, bC true, bC true]]])) := by
 refine fn_callD [(9, [(0, 5), (2, 7), (3, 5), (5, 7), (7, 11), (13, 11)])] TK MX (H := HL Tryz.prog OQ TB FTn 1) (HL_ok TK MX FTn_ok 1) (nd := false) Tryz.func86 rfl (by kernel_rfl) (by kernel_rfl) (by kernel_rfl) rfl rfl ?_
 conv => whnf
 refine ⟨_, cBackward (l := (nstD).take 3), ?_⟩
 conv => whnf
 intro R
 conv => whnf
 refine ⟨4, ?_⟩
 conv => whnf
 repeat (first | (refine ⟨_, cUses, ?_⟩; (conv => whnf)) | (refine ⟨rfl, ?_⟩; (conv => whnf)))
 rfl
set_option maxRecDepth 100000 in
set_option maxHeartbeats 8000000 in
theorem cN_d_3 : Cal Tryz.prog OQ 86 [lsA nstD, iA 3] (.c (.cl 129 [.e [.sl 1 [bC true, bC true, bC true, bC true]]])) := by
 refine fn_callD [(9, [(0, 5), (2, 7), (3, 5), (5, 7), (7, 11), (13, 11)])] TK MX (H := HL Tryz.prog OQ TB FTn 1) (HL_ok TK MX FTn_ok 1) (nd := false) Tryz.func86 rfl (by kernel_rfl) (by kernel_rfl) (by kernel_rfl) rfl rfl ?_
 conv => whnf
 refine ⟨_, cBackward (l := (nstD).take 4), ?_⟩
 conv => whnf
 intro R
 conv => whnf
 refine ⟨5, ?_⟩
 conv => whnf
 repeat (first | (refine ⟨_, cUses, ?_⟩; (conv => whnf)) | (refine ⟨rfl, ?_⟩; (conv => whnf)))
 rfl
set_option maxRecDepth 100000 in
set_option maxHeartbeats 8000000 in
theorem cN_d_4 : Cal Tryz.prog OQ 86 [lsA nstD, iA 4] (.c (.cl 129 [.e [.sl 1 [bC true, bC true, bC false, bC false, bC true]]])) := by
 refine fn_callD [(9, [(0, 5), (2, 7), (3, 5), (5, 7), (7, 11), (13, 11)])] TK MX (H := HL Tryz.prog OQ TB FTn 1) (HL_ok TK MX FTn_ok 1) (nd := false) Tryz.func86 rfl (by kernel_rfl) (by kernel_rfl) (by kernel_rfl) rfl rfl ?_
 conv => whnf
 refine ⟨_, cBackward (l := (nstD).take 5), ?_⟩
 conv => whnf
 intro R
 conv => whnf
 refine ⟨6, ?_⟩
 conv => whnf
 repeat (first | (refine ⟨_, cUses, ?_⟩; (conv => whnf)) | (refine ⟨rfl, ?_⟩; (conv => whnf)))
 rfl
set_option maxRecDepth 100000 in
set_option maxHeartbeats 8000000 in
theorem cN_d_6 : Cal Tryz.prog OQ 86 [lsA nstD, iA 6] (.c (.cl 129 [.e [.sl 1 [bC false, bC false, bC false, bC false, bC false, bC true, bC true]]])) := by
 refine fn_callD [(9, [(0, 5), (2, 7), (3, 5), (5, 7), (7, 11), (13, 11)])] TK MX (H := HL Tryz.prog OQ TB FTn 1) (HL_ok TK MX FTn_ok 1) (nd := false) Tryz.func86 rfl (by kernel_rfl) (by kernel_rfl) (by kernel_rfl) rfl rfl ?_
 conv => whnf
 refine ⟨_, cBackward (l := (nstD).take 7), ?_⟩
 conv => whnf
 intro R
 conv => whnf
 refine ⟨8, ?_⟩
 conv => whnf
 repeat (first | (refine ⟨_, cUses, ?_⟩; (conv => whnf)) | (refine ⟨rfl, ?_⟩; (conv => whnf)))
 rfl
end Go.Proofs.YtajecapgmdfjcaaGreatDoor

/- open. PRINTED by gen/em2.py. -/
namespace Go.Proofs.YtajecapgmdfjcaaGreatDoor
open Go.RowKit Vn
set_option maxRecDepth 100000 in
set_option maxHeartbeats 8000000 in
theorem cO_d_1 : Cal Tryz.prog OQ 85 [lsA nstD, .c (wC [1, 1, 2, 3, 1, 1, 1]), iA 1] (.t [.c (.e [.sl 1 [[eC [(0, 2)]]], .mp false [0, 1] [[eC [(0, 2)]], [eC [(1, 1)]]], .mp false [0, 1] [bC true, bC false], .sl 1 [[.v (.int .i64 1)]]]), iA 0]) := by
 refine fn_callD [(7, [(0, 8), (1, 3), (4, 2000000)])] TK MX (H := HL Tryz.prog OQ TB FTo 3) (HL_ok TK MX FTo_ok 3) (nd := false) Tryz.func85 rfl (by kernel_rfl) (by kernel_rfl) (by kernel_rfl) rfl rfl ?_
 conv => whnf
 refine ⟨_, cN_d_1, ?_⟩
 conv => whnf
 intro R
 conv => whnf
 refine ⟨3, ?_⟩
 conv => whnf
 repeat (first | (refine ⟨_, cUses, ?_⟩; (conv => whnf)) | (refine ⟨rfl, ?_⟩; (conv => whnf)))
 refine ⟨_, parsT [50] 2 (by kernel_rfl), ?_⟩
 conv => whnf
 refine .inl ⟨_, whlT 2 [(0, 2)] 1000 (by kernel_rfl), ?_⟩
 conv => whnf
 repeat (first | (refine ⟨_, cUses, ?_⟩; (conv => whnf)) | (refine ⟨rfl, ?_⟩; (conv => whnf)))
 refine ⟨_, sgnT [] [(0, 2)] 1000 6 8 1 [] (by kernel_rfl), rfl, ?_⟩
 conv => whnf
 refine ⟨_, ratT [(0, 2)] 2 (by kernel_rfl), ?_⟩
 conv => whnf
 refine ⟨_, rotT 2 0 false 1000 (by kernel_rfl), ?_⟩
 conv => whnf
 refine ⟨_, cInt (n := 1) (by omega) (by omega), ?_⟩
 conv => whnf
 refine ⟨_, _, witT [] 1 1 [(1, 1)] 1000 (by kernel_rfl), ?_⟩
 conv => whnf
 repeat (first | (refine ⟨_, cUses, ?_⟩; (conv => whnf)) | (refine ⟨rfl, ?_⟩; (conv => whnf)))
 rfl
set_option maxRecDepth 100000 in
set_option maxHeartbeats 8000000 in
theorem cO_d_2 : Cal Tryz.prog OQ 85 [lsA nstD, .c (wC [1, 1, 2, 3, 1, 1, 1]), iA 2] (.t [.c (.e [.sl 1 [[eC [(0, 2)]]], .mp false [0, 1, 2] [[eC [(0, 2)]], [eC [(1, 1)]], [eC [(0, 2)]]], .mp false [0, 1, 2] [bC true, bC false, bC false], .sl 1 [[.v (.int .i64 1)]]]), iA 0]) := by
 refine fn_callD [(7, [(0, 8), (1, 3), (4, 2000000)])] TK MX (H := HL Tryz.prog OQ TB FTo 3) (HL_ok TK MX FTo_ok 3) (nd := false) Tryz.func85 rfl (by kernel_rfl) (by kernel_rfl) (by kernel_rfl) rfl rfl ?_
 conv => whnf
 refine ⟨_, cN_d_2, ?_⟩
 conv => whnf
 intro R
 conv => whnf
 refine ⟨4, ?_⟩
 conv => whnf
 repeat (first | (refine ⟨_, cUses, ?_⟩; (conv => whnf)) | (refine ⟨rfl, ?_⟩; (conv => whnf)))
 refine ⟨_, parsT [50] 2 (by kernel_rfl), ?_⟩
 conv => whnf
 refine .inl ⟨_, whlT 2 [(0, 2)] 1000 (by kernel_rfl), ?_⟩
 conv => whnf
 repeat (first | (refine ⟨_, cUses, ?_⟩; (conv => whnf)) | (refine ⟨rfl, ?_⟩; (conv => whnf)))
 refine ⟨_, sgnT [] [(0, 2)] 1000 6 8 1 [] (by kernel_rfl), rfl, ?_⟩
 conv => whnf
 refine ⟨_, ratT [(0, 2)] 2 (by kernel_rfl), ?_⟩
 conv => whnf
 refine ⟨_, rotT 2 0 false 1000 (by kernel_rfl), ?_⟩
 conv => whnf
 refine ⟨_, cInt (n := 1) (by omega) (by omega), ?_⟩
 conv => whnf
 refine ⟨_, _, witT [] 1 1 [(1, 1)] 1000 (by kernel_rfl), ?_⟩
 conv => whnf
 repeat (first | (refine ⟨_, cUses, ?_⟩; (conv => whnf)) | (refine ⟨rfl, ?_⟩; (conv => whnf)))
 refine ⟨_, mulT [[(0, 2)]] [(1, 1)] [(1, 1)] [(0, 2)] 1000 6 [] (by kernel_rfl), flat_E _, ?_⟩
 conv => whnf
 repeat (first | (refine ⟨_, cUses, ?_⟩; (conv => whnf)) | (refine ⟨rfl, ?_⟩; (conv => whnf)))
 rfl
set_option maxRecDepth 100000 in
set_option maxHeartbeats 8000000 in
theorem cO_d_3 : Cal Tryz.prog OQ 85 [lsA nstD, .c (wC [1, 1, 2, 3, 1, 1, 1]), iA 3] (.t [.c (.e [.sl 1 [[eC [(0, 2)]]], .mp false [0, 1, 2, 3] [[eC [(0, 2)]], [eC [(1, 1)]], [eC [(0, 2)]], [eC []]], .mp false [0, 1, 2, 3] [bC true, bC false, bC false, bC false], .sl 1 [[.v (.int .i64 1)]]]), iA 0]) := by
 refine fn_callD [(7, [(0, 8), (1, 3), (4, 2000000)])] TK MX (H := HL Tryz.prog OQ TB FTo 3) (HL_ok TK MX FTo_ok 3) (nd := false) Tryz.func85 rfl (by kernel_rfl) (by kernel_rfl) (by kernel_rfl) rfl rfl ?_
 conv => whnf
 refine ⟨_, cN_d_3, ?_⟩
 conv => whnf
 intro R
 conv => whnf
 refine ⟨5, ?_⟩
 conv => whnf
 repeat (first | (refine ⟨_, cUses, ?_⟩; (conv => whnf)) | (refine ⟨rfl, ?_⟩; (conv => whnf)))
 refine ⟨_, parsT [50] 2 (by kernel_rfl), ?_⟩
 conv => whnf
 refine .inl ⟨_, whlT 2 [(0, 2)] 1000 (by kernel_rfl), ?_⟩
 conv => whnf
 repeat (first | (refine ⟨_, cUses, ?_⟩; (conv => whnf)) | (refine ⟨rfl, ?_⟩; (conv => whnf)))
 refine ⟨_, sgnT [] [(0, 2)] 1000 6 8 1 [] (by kernel_rfl), rfl, ?_⟩
 conv => whnf
 refine ⟨_, ratT [(0, 2)] 2 (by kernel_rfl), ?_⟩
 conv => whnf
 refine ⟨_, rotT 2 0 false 1000 (by kernel_rfl), ?_⟩
 conv => whnf
 refine ⟨_, cInt (n := 1) (by omega) (by omega), ?_⟩
 conv => whnf
 refine ⟨_, _, witT [] 1 1 [(1, 1)] 1000 (by kernel_rfl), ?_⟩
 conv => whnf
 repeat (first | (refine ⟨_, cUses, ?_⟩; (conv => whnf)) | (refine ⟨rfl, ?_⟩; (conv => whnf)))
 refine ⟨_, mulT [[(0, 2)]] [(1, 1)] [(1, 1)] [(0, 2)] 1000 6 [] (by kernel_rfl), flat_E _, ?_⟩
 conv => whnf
 repeat (first | (refine ⟨_, cUses, ?_⟩; (conv => whnf)) | (refine ⟨rfl, ?_⟩; (conv => whnf)))
 refine .inl ⟨_, subT [(0, 2)] [(0, 2)] [] 1000 (by kernel_rfl), ?_⟩
 conv => whnf
 repeat (first | (refine ⟨_, cUses, ?_⟩; (conv => whnf)) | (refine ⟨rfl, ?_⟩; (conv => whnf)))
 rfl
set_option maxRecDepth 100000 in
set_option maxHeartbeats 8000000 in
theorem cO_d_4 : Cal Tryz.prog OQ 85 [lsA nstD, .c (wC [1, 1, 2, 3, 1, 1, 1]), iA 4] (.t [.c (.e [.sl 1 [[eC [(0, 2)]]], .mp false [0, 1, 4] [[eC [(0, 2)]], [eC [(1, 1)]], [eC [(1, -1)]]], .mp false [0, 1, 4] [bC true, bC false, bC false], .sl 1 [[.v (.int .i64 1)]]]), iA 0]) := by
 refine fn_callD [(7, [(0, 8), (1, 3), (4, 2000000)])] TK MX (H := HL Tryz.prog OQ TB FTo 3) (HL_ok TK MX FTo_ok 3) (nd := false) Tryz.func85 rfl (by kernel_rfl) (by kernel_rfl) (by kernel_rfl) rfl rfl ?_
 conv => whnf
 refine ⟨_, cN_d_4, ?_⟩
 conv => whnf
 intro R
 conv => whnf
 refine ⟨6, ?_⟩
 conv => whnf
 repeat (first | (refine ⟨_, cUses, ?_⟩; (conv => whnf)) | (refine ⟨rfl, ?_⟩; (conv => whnf)))
 refine ⟨_, parsT [50] 2 (by kernel_rfl), ?_⟩
 conv => whnf
 refine .inl ⟨_, whlT 2 [(0, 2)] 1000 (by kernel_rfl), ?_⟩
 conv => whnf
 repeat (first | (refine ⟨_, cUses, ?_⟩; (conv => whnf)) | (refine ⟨rfl, ?_⟩; (conv => whnf)))
 refine ⟨_, sgnT [] [(0, 2)] 1000 6 8 1 [] (by kernel_rfl), rfl, ?_⟩
 conv => whnf
 refine ⟨_, ratT [(0, 2)] 2 (by kernel_rfl), ?_⟩
 conv => whnf
 refine ⟨_, rotT 2 0 false 1000 (by kernel_rfl), ?_⟩
 conv => whnf
 refine ⟨_, cInt (n := 1) (by omega) (by omega), ?_⟩
 conv => whnf
 refine ⟨_, _, witT [] 1 1 [(1, 1)] 1000 (by kernel_rfl), ?_⟩
 conv => whnf
 repeat (first | (refine ⟨_, cUses, ?_⟩; (conv => whnf)) | (refine ⟨rfl, ?_⟩; (conv => whnf)))
 refine ⟨_, cInt (n := -1) (by omega) (by omega), ?_⟩
 conv => whnf
 refine .inl ⟨_, sclT [(1, 1)] (-1) [(1, -1)] 1000 (by kernel_rfl), ?_⟩
 conv => whnf
 repeat (first | (refine ⟨_, cUses, ?_⟩; (conv => whnf)) | (refine ⟨rfl, ?_⟩; (conv => whnf)))
 rfl
set_option maxRecDepth 100000 in
set_option maxHeartbeats 8000000 in
theorem cO_d_6 : Cal Tryz.prog OQ 85 [lsA nstD, .c (wC [1, 1, 2, 3, 1, 1, 1]), iA 6] (.t [.c (.e [.v (.slice none 0 0), .mp false [5, 6] [[eC [(0, 9/4)]], [eC [(0, 3/2)]]], .mp false [5, 6] [bC true, bC true], .v (.slice none 0 0)]), iA 0]) := by
 refine fn_callD [(7, [(0, 8), (1, 3), (4, 2000000)])] TK MX (H := HL Tryz.prog OQ TB FTo 3) (HL_ok TK MX FTo_ok 3) (nd := false) Tryz.func85 rfl (by kernel_rfl) (by kernel_rfl) (by kernel_rfl) rfl rfl ?_
 conv => whnf
 refine ⟨_, cN_d_6, ?_⟩
 conv => whnf
 intro R
 conv => whnf
 refine ⟨8, ?_⟩
 conv => whnf
 repeat (first | (refine ⟨_, cUses, ?_⟩; (conv => whnf)) | (refine ⟨rfl, ?_⟩; (conv => whnf)))
 refine ⟨_, parsT [57, 47, 52] (9/4) (by kernel_rfl), ?_⟩
 conv => whnf
 refine .inl ⟨_, whlT (9/4) [(0, 9/4)] 1000 (by kernel_rfl), ?_⟩
 conv => whnf
 repeat (first | (refine ⟨_, cUses, ?_⟩; (conv => whnf)) | (refine ⟨rfl, ?_⟩; (conv => whnf)))
 refine ⟨_, sgnT [] [(0, 9/4)] 1000 6 8 1 [] (by kernel_rfl), rfl, ?_⟩
 conv => whnf
 refine ⟨_, ratT [(0, 9/4)] (9/4) (by kernel_rfl), ?_⟩
 conv => whnf
 refine ⟨_, rotT (9/4) (3/2) true 1000 (by kernel_rfl), ?_⟩
 conv => whnf
 refine .inl ⟨_, whlT (3/2) [(0, 3/2)] 1000 (by kernel_rfl), ?_⟩
 conv => whnf
 repeat (first | (refine ⟨_, cUses, ?_⟩; (conv => whnf)) | (refine ⟨rfl, ?_⟩; (conv => whnf)))
 rfl
end Go.Proofs.YtajecapgmdfjcaaGreatDoor

/- log of the reals. -/
namespace Go.Proofs.YtajecapgmdfjcaaGreatDoor
open Go.RowKit Vn
def lgrB (K : Nat) (t : List El) (m f : Nat) (x y : El) (s l : Int) : Bool :=
 towB K t && (canB x && (smB K x && (signB K t m f x && (decide (signE t m f x = s) && (decide (cond (decide (s < 0)) (scaleE x ((-1 : Int) : Rat)) x = y) && (canB y && (smB K y &&
  (encB K 64 (rootsE 64 t []) y && (smqB K (encE 64 (rootsE 64 t []) y).1 && (smqB K (encE 64 (rootsE 64 t []) y).2 && (decide (0 < (encE 64 (rootsE 64 t []) y).1.num ∧ 0 < (encE 64 (rootsE 64 t []) y).2.num) &&
   (decide (lgQ (encE 64 (rootsE 64 t []) y).1 = l) && (decide (lgQ (encE 64 (rootsE 64 t []) y).2 = l) && (decide (-1000 ≤ l ∧ l ≤ 1000) && (smqB K (((1 : Int) : Rat) * (2 : Rat) ^ l) &&
    (signB K t m f (subE y (wholeE (((1 : Int) : Rat) * (2 : Rat) ^ l))) && decide (0 ≤ signE t m f (subE y (wholeE (((1 : Int) : Rat) * (2 : Rat) ^ l))))))))))))))))))))
set_option maxHeartbeats 4000000 in
theorem lgrT (t : List El) (x y : El) (K m f : Nat) (s l : Int) (rest : List AC) (h : lgrB K t m f x y s l = true) : Cal Tryz.prog OQ 35 [tA t rest, eA x] (iA l) := by
 simp only [lgrB, towB, Bool.and_eq_true, decide_eq_true_eq, List.all_eq_true] at h
 obtain ⟨⟨⟨a1, a2, a3⟩, a4, a5⟩, b1, b2, b3, b4, b5, c1, c2, c3, c4, c5, c6, d1, d2, d3, d4, d5, d6⟩ := h
 have ht : ∀ c ∈ t, CanE c := fun c hc => canB_ok (a4 c hc)
 have hx := canB_ok b1
 have hy := canB_ok c1
 have sx := smB_ok b2
 have sy := smB_ok c2
 have cs := cSignT a1 a2 ht a3 a5 f x rest hx b3
 rw [b4] at cs
 have q1 := smqB_ok c4
 have q2 := smqB_ok c5
 have g1 := cLog (q := (encE 64 (rootsE 64 t []) y).1) q1 (by omega) (by omega) (lg_is (fun e => by rw [e] at c6; exact absurd c6.1 (by decide)))
 have g2 := cLog (q := (encE 64 (rootsE 64 t []) y).2) q2 (by omega) (by omega) (lg_is (fun e => by rw [e] at c6; exact absurd c6.2 (by decide)))
 rw [d1] at g1
 rw [d2] at g2
 have p1 : (encE 64 (rootsE 64 t []) y).1.num.sign = 1 := Int.sign_eq_one_of_pos c6.1
 have cl := cLess a1 a2 ht a3 a5 rest hy sy (smqB_ok d4) d5
 rw [dF (show ¬ signE t m f (subE y (wholeE (((1 : Int) : Rat) * (2 : Rat) ^ l))) < 0 by omega)] at cl
 refine fn_call TK MX Tryz.func35 rfl (by kernel_rfl) (by kernel_rfl) (by kernel_rfl) rfl rfl ?_
 conv => whnf
 refine ⟨_, cs, ?_⟩
 conv => whnf
 have one : SmQ 1 ((1 : Int) : Rat) := SmQ.int (by omega) (by decide)
 cases hs : decide (s < 0)
 ·rw [hs] at b5
  simp only [cond_false] at b5
  subst b5
  conv => whnf
  refine ⟨1, ?_⟩
  conv => whnf
  refine ⟨_, cSpans (bits := 64) rest a3 a1 a2 a5, ?_⟩
  conv => whnf
  refine ⟨_, cEncC (rs := rootsE 64 t []) (by rw [rootsE_len]; simp; omega) c3, flat_sp _, ?_⟩
  conv => whnf
  refine ⟨_, g2, ?_⟩
  conv => whnf
  refine ⟨_, cSign, ?_⟩
  rw [p1]
  conv => whnf
  refine ⟨_, g1, ?_⟩
  conv => whnf
  refine ⟨1, ?_⟩
  conv => whnf
  rw [dF (show ¬ l > l by omega)]
  conv => whnf
  refine ⟨_, cInt (n := 1) (by omega) (by omega), ?_⟩
  conv => whnf
  refine ⟨_, cShiftR one (by omega) (by omega) (by omega), ?_⟩
  conv => whnf
  refine ⟨_, cl, ?_⟩
  conv => whnf
  refine ⟨1, ?_⟩
  conv => whnf
  rw [show (l != l) = false by simp]
  conv => whnf
  rfl
 ·rw [hs] at b5
  simp only [cond_true] at b5
  conv => whnf
  refine ⟨_, cInt (n := -1) (by omega) (by omega), ?_⟩
  conv => whnf
  refine .inl ⟨_, nScale (n := ((-1 : Int) : Rat)) hx sx sm_one (by omega), ?_⟩
  rw [b5]
  conv => whnf
  refine ⟨1, ?_⟩
  conv => whnf
  refine ⟨_, cSpans (bits := 64) rest a3 a1 a2 a5, ?_⟩
  conv => whnf
  refine ⟨_, cEncC (rs := rootsE 64 t []) (by rw [rootsE_len]; simp; omega) c3, flat_sp _, ?_⟩
  conv => whnf
  refine ⟨_, g2, ?_⟩
  conv => whnf
  refine ⟨_, cSign, ?_⟩
  rw [p1]
  conv => whnf
  refine ⟨_, g1, ?_⟩
  conv => whnf
  refine ⟨1, ?_⟩
  conv => whnf
  rw [dF (show ¬ l > l by omega)]
  conv => whnf
  refine ⟨_, cInt (n := 1) (by omega) (by omega), ?_⟩
  conv => whnf
  refine ⟨_, cShiftR one (by omega) (by omega) (by omega), ?_⟩
  conv => whnf
  refine ⟨_, cl, ?_⟩
  conv => whnf
  refine ⟨1, ?_⟩
  conv => whnf
  rw [show (l != l) = false by simp]
  conv => whnf
  rfl
end Go.Proofs.YtajecapgmdfjcaaGreatDoor

/- Numbers' contracts whose premises are one check; floats at one format. -/
namespace Go.Proofs.YtajecapgmdfjcaaGreatDoor
open Go.RowKit Vn
theorem shiftT (q : Rat) (k : Int) (r : Rat) (K : Nat) (h : (decide (K ≤ 20000000 ∧ -20000 ≤ k ∧ k ≤ 20000) && (smqB K q && decide (q * (2 : Rat) ^ k = r))) = true) : Cal Tryz.prog OQ 79 [nA q, iA k] (.t [nA r, iA 0]) := by
 simp only [Bool.and_eq_true, decide_eq_true_eq] at h
 rw [← h.2.2]; exact cShift (smqB_ok h.2.1) h.1.2.1 h.1.2.2 h.1.1
theorem shiftRT (q : Rat) (k : Int) (r : Rat) (K : Nat) (h : (decide (K ≤ 20000000 ∧ -20000 ≤ k ∧ k ≤ 20000) && (smqB K q && decide (q * (2 : Rat) ^ k = r))) = true) : Cal Tryz.prog OQ 39 [nA q, iA k] (nA r) := by
 simp only [Bool.and_eq_true, decide_eq_true_eq] at h
 rw [← h.2.2]; exact cShiftR (smqB_ok h.2.1) h.1.2.1 h.1.2.2 h.1.1
theorem floorT (q r : Rat) (K : Nat) (h : (decide (K ≤ 20000000) && (smqB K q && decide (((q.floor : Int) : Rat) = r))) = true) : Cal Tryz.prog OQ 66 [nA q] (nA r) := by
 simp only [Bool.and_eq_true, decide_eq_true_eq] at h
 rw [← h.2.2]; exact cFloor (smqB_ok h.2.1) h.1
theorem numAddT (q s r : Rat) (K : Nat) (h : (decide (K ≤ 20000000) && (smqB K q && (smqB K s && decide (q + s = r)))) = true) : Cal Tryz.prog OQ 38 [nA q, nA s] (nA r) := by
 simp only [Bool.and_eq_true, decide_eq_true_eq] at h
 rw [← h.2.2.2]; exact cAdd (smqB_ok h.2.1) (smqB_ok h.2.2.1) h.1
theorem numSubT (q s r : Rat) (K : Nat) (h : (decide (K ≤ 20000000) && (smqB K q && (smqB K s && decide (q - s = r)))) = true) : Cal Tryz.prog OQ 67 [nA q, nA s] (nA r) := by
 simp only [Bool.and_eq_true, decide_eq_true_eq] at h
 rw [← h.2.2.2]; exact cSub (smqB_ok h.2.1) (smqB_ok h.2.2.1) h.1
theorem numCmpT (q s : Rat) (c : Int) (K : Nat) (h : (decide (K ≤ 20000000) && (smqB K q && (smqB K s && decide (cmpQ q s = c)))) = true) : Cal Tryz.prog OQ 68 [nA q, nA s] (iA c) := by
 simp only [Bool.and_eq_true, decide_eq_true_eq] at h
 rw [← h.2.2.2]; exact cCmp (smqB_ok h.2.1) (smqB_ok h.2.2.1) h.1
theorem logT (q : Rat) (l : Int) (K : Nat) (h : (decide (K ≤ 10000000 ∧ q ≠ 0) && (smqB K q && decide (lgQ q = l))) = true) : Cal Tryz.prog OQ 42 [nA q] (.t [iA l, iA 0]) := by
 simp only [Bool.and_eq_true, decide_eq_true_eq] at h
 rw [← h.2.2]; exact cLog (smqB_ok h.2.1) h.1.1 (fun e => h.1.2 (Rat.num_eq_zero.1 e)) (lg_is h.1.2)
theorem intT (n : Int) (r : Rat) (h : (decide (-9223372036854775808 ≤ n ∧ n < 9223372036854775808) && decide ((n : Rat) = r)) = true) : Cal Tryz.prog OQ 9 [iA n] (nA r) := by
 simp only [Bool.and_eq_true, decide_eq_true_eq] at h
 rw [← h.2]; exact cInt h.1.1 h.1.2
theorem twoT (k : Int) (r : Rat) (h : (decide (-20000 ≤ k ∧ k ≤ 20000) && decide ((2 : Rat) ^ k = r)) = true) : Cal Tryz.prog OQ 125 [iA k] (.t [nA r, iA 0]) := by
 simp only [Bool.and_eq_true, decide_eq_true_eq] at h
 rw [← h.2]; exact cTwo h.1.1 h.1.2
theorem signT (q : Rat) (s : Int) (h : q.num.sign = s) : Cal Tryz.prog OQ 60 [nA q] (iA s) := by rw [← h]; exact cSign
theorem absT (q r : Rat) (h : absQ q = r) : Cal Tryz.prog OQ 101 [nA q] (nA r) := by rw [← h]; exact cAbs
theorem isIntT (q : Rat) (b : Bool) (h : decide (q.den = 1) = b) : Cal Tryz.prog OQ 123 [nA q] (bA b) := by rw [← h]; exact cIsInt
theorem int64T (q : Rat) (n : Nat) (h : (decide (n < 9223372036854775808) && decide (((n : Nat) : Rat) = q)) = true) : Cal Tryz.prog OQ 207 [nA q] (.t [iA (n : Int), iA 0]) := by
 simp only [Bool.and_eq_true, decide_eq_true_eq] at h
 rw [← h.2]; exact cInt64 h.1
theorem twosOdd (q : Rat) (K : Nat) (h : (decide (K ≤ 10000000 ∧ q.den = 1 ∧ q.num ≠ 0 ∧ q.num.natAbs % 2 = 1) && smqB K q) = true) : Cal Tryz.prog OQ 152 [nA q] (iA 0) := by
 simp only [Bool.and_eq_true, decide_eq_true_eq] at h
 obtain ⟨⟨h1, h2, h3, h4⟩, h5⟩ := h
 exact cal_of (by kernel_rfl) rfl fun _ w vs hi hv => match vs, hv with
  | [x], hv => (Twos_c x q K w (num_of hv.1) (smqB_ok h5) h1 h2 h3 hi.2).mono fun _ _ ⟨k, e1, e2, e3⟩ => ⟨_, e1, e3, fun _ => by rw [e2.2 h4]; exact ⟨rfl, rfl⟩⟩
abbrev iV (n : Int) : AC := .v (.int .i64 n)
abbrev uV (n : Int) : AC := .v (.int .u64 n)
abbrev f33 : AV := .g [iV 3, iV 3]
abbrev m33 : AV := .g [iV 3, iV 3, iV 0, iV 3]
abbrev wdA (a b : Int) : AV := .g [uV a, uV b]
theorem cFChk : Cal Tryz.prog OQ 116 [f33] (iA 0) := by
 refine fn_call TK MX Tryz.func116 rfl (by kernel_rfl) (by kernel_rfl) (by kernel_rfl) rfl rfl ?_
 conv => whnf
 rfl
theorem cRefChk : Cal Tryz.prog OQ 22 [f33] (iA 0) := by
 refine fn_call TK MX Tryz.func22 rfl (by kernel_rfl) (by kernel_rfl) (by kernel_rfl) rfl rfl ?_
 conv => whnf
 rfl
theorem cWith33 : Cal Tryz.prog OQ 80 [f33, iA 0, .c (.v (.slice none 0 0))] (.t [m33, iA 0]) := by
 refine fn_callB [(3, [(0, 3), (3, 3), (9, 8)])] TK MX Tryz.func80 rfl (by kernel_rfl) (by kernel_rfl) (by kernel_rfl) rfl rfl ?_
 conv => whnf
 refine ⟨_, cFChk, ?_⟩
 conv => whnf
 refine ⟨1, ?_⟩
 conv => whnf
 rfl
theorem cNormal33 : Cal Tryz.prog OQ 124 [m33] (iA (-2)) := by
 refine fn_call TK MX Tryz.func124 rfl (by kernel_rfl) (by kernel_rfl) (by kernel_rfl) rfl rfl ?_
 conv => whnf
 rfl
theorem cLeast33 : Cal Tryz.prog OQ 83 [m33] (iA (-4)) := by
 refine fn_call TK MX Tryz.func83 rfl (by kernel_rfl) (by kernel_rfl) (by kernel_rfl) rfl rfl ?_
 conv => whnf
 rfl
theorem cStep33 : Cal Tryz.prog OQ 120 [m33, iA 0] (iA (-2)) := by
 refine fn_callB [(1, [(1, 2), (2, 2000000), (6, 2)])] TK MX Tryz.func120 rfl (by kernel_rfl) (by kernel_rfl) (by kernel_rfl) rfl rfl ?_
 conv => whnf
 refine ⟨_, cNormal33, ?_⟩
 conv => whnf
 rfl
theorem ftwoT (k : Int) (r : Rat) (h : (decide (-20000 ≤ k ∧ k ≤ 20000) && decide ((2 : Rat) ^ k = r)) = true) : Cal Tryz.prog OQ 82 [iA k] (nA r) := by
 refine fn_call TK MX Tryz.func82 rfl (by kernel_rfl) (by kernel_rfl) (by kernel_rfl) rfl rfl ?_
 conv => whnf
 refine ⟨_, twoT k r h, ?_⟩
 conv => whnf
 rfl
theorem fshiftT (q : Rat) (k : Int) (r : Rat) (K : Nat) (h : (decide (K ≤ 20000000 ∧ -20000 ≤ k ∧ k ≤ 20000) && (smqB K q && decide (q * (2 : Rat) ^ k = r))) = true) : Cal Tryz.prog OQ 121 [nA q, iA k] (nA r) := by
 refine fn_call TK MX Tryz.func121 rfl (by kernel_rfl) (by kernel_rfl) (by kernel_rfl) rfl rfl ?_
 conv => whnf
 refine ⟨_, shiftT q k r K h, ?_⟩
 conv => whnf
 rfl
theorem flogT (q : Rat) (l : Int) (K : Nat) (h : (decide (K ≤ 10000000 ∧ q ≠ 0) && (smqB K q && decide (lgQ q = l))) = true) : Cal Tryz.prog OQ 119 [nA q] (iA l) := by
 refine fn_call TK MX Tryz.func119 rfl (by kernel_rfl) (by kernel_rfl) (by kernel_rfl) rfl rfl ?_
 conv => whnf
 refine ⟨_, logT q l K h, ?_⟩
 conv => whnf
 rfl
theorem cGreat33 : Cal Tryz.prog OQ 153 [m33] (nA 14) := by
 refine fn_callB [(1, [(2, 1), (3, 2000000), (4, 2000000), (5, 2000000), (7, 1), (10, 1), (13, 2000000), (14, 2)])] TK MX Tryz.func153 rfl (by kernel_rfl) (by kernel_rfl) (by kernel_rfl) rfl rfl ?_
 conv => whnf
 refine ⟨_, ftwoT 3 8 (by kernel_rfl), ?_⟩
 conv => whnf
 refine ⟨_, intT 1 1 (by kernel_rfl), ?_⟩
 conv => whnf
 refine ⟨_, numSubT 8 1 7 100 (by kernel_rfl), ?_⟩
 conv => whnf
 refine ⟨_, fshiftT 7 1 14 100 (by kernel_rfl), ?_⟩
 conv => whnf
 rfl
theorem cSgn33 : Cal Tryz.prog OQ 150 [m33, bA false] (wdA 0 0) := by
 refine fn_call TK MX Tryz.func150 rfl (by kernel_rfl) (by kernel_rfl) (by kernel_rfl) rfl rfl ?_
 conv => whnf
 rfl
theorem cZero33 : Cal Tryz.prog OQ 118 [m33, bA false] (wdA 0 0) := by
 refine fn_call TK MX Tryz.func118 rfl (by kernel_rfl) (by kernel_rfl) (by kernel_rfl) rfl rfl ?_
 conv => whnf
 refine ⟨_, cSgn33, ?_⟩
 conv => whnf
 rfl
theorem cUpw : Cal Tryz.prog OQ 151 [iA 0, bA true, iA 1] (bA true) := by
 refine fn_call TK MX Tryz.func151 rfl (by kernel_rfl) (by kernel_rfl) (by kernel_rfl) rfl rfl ?_
 conv => whnf
 rfl
def shrV (a b k : Int) : Int × Int := (a.fdiv (2 ^ (min k.toNat 64)), IntKind.u64.wrap (BitVec.ofInt 64 (b.fdiv (2 ^ (min k.toNat 64))) ||| BitVec.ofInt 64 (IntKind.u64.wrap (a * 2 ^ (min (IntKind.i64.wrap (64 - k)).toNat 64)))).toNat)
theorem shrT (a b k c d : Int) (hk : (decide (k ≥ 64) || !decide (0 ≤ k) || !decide (0 ≤ IntKind.i64.wrap (64 - k))) = false) (h : shrV a b k = (c, d)) : Cal Tryz.prog OQ 117 [wdA a b, iA k] (wdA c d) := by
 simp only [Bool.or_eq_false_iff, Bool.not_eq_false'] at hk
 have h1 : (shrV a b k).1 = c := by rw [h]
 have h2 : (shrV a b k).2 = d := by rw [h]
 rw [← h1, ← h2]
 refine fn_callB [(3, [(1, 2), (5, 2), (9, 2), (15, 4)])] TK MX Tryz.func117 rfl (by kernel_rfl) (by kernel_rfl) (by kernel_rfl) rfl rfl ?_
 conv => whnf
 rw [hk.1.1]
 conv => whnf
 rw [hk.1.2]
 conv => whnf
 rw [hk.1.2]
 conv => whnf
 rw [hk.2]
 conv => whnf
 rfl
def bothV (a b c d : Int) : Int × Int := (IntKind.u64.wrap (BitVec.ofInt 64 a ||| BitVec.ofInt 64 c).toNat, IntKind.u64.wrap (BitVec.ofInt 64 b ||| BitVec.ofInt 64 d).toNat)
theorem bothT (a b c d x y : Int) (h : bothV a b c d = (x, y)) : Cal Tryz.prog OQ 187 [wdA a b, wdA c d] (wdA x y) := by
 have h1 : (bothV a b c d).1 = x := by rw [h]
 have h2 : (bothV a b c d).2 = y := by rw [h]
 rw [← h1, ← h2]
 refine fn_call TK MX Tryz.func187 rfl (by kernel_rfl) (by kernel_rfl) (by kernel_rfl) rfl rfl ?_
 conv => whnf
 rfl
end Go.Proofs.YtajecapgmdfjcaaGreatDoor

/- floats.Round at one format. -/
namespace Go.Proofs.YtajecapgmdfjcaaGreatDoor
open Go.RowKit Vn
set_option maxRecDepth 100000 in
set_option maxHeartbeats 4000000 in
theorem cPacked14 : Cal Tryz.prog OQ 188 [nA 14] (wdA 0 14) := by
 refine fn_callB [(5, [(0, 1), (1, 4), (2, 2000000), (3, 2000000), (4, 2000000)])] TK MX Tryz.func188 rfl (by kernel_rfl) (by kernel_rfl) (by kernel_rfl) rfl rfl ?_
 conv => whnf
 refine ⟨5, ?_⟩
 conv => whnf
 refine ⟨_, fshiftT 14 (-32) (14 / 4294967296) 100 (by kernel_rfl), ?_⟩
 conv => whnf
 refine ⟨_, floorT (14 / 4294967296) 0 100 (by kernel_rfl), ?_⟩
 conv => whnf
 refine ⟨_, fshiftT 0 32 0 100 (by kernel_rfl), ?_⟩
 conv => whnf
 refine ⟨_, numSubT 14 0 14 100 (by kernel_rfl), ?_⟩
 conv => whnf
 refine ⟨_, int64T 14 14 (by kernel_rfl), ?_⟩
 conv => whnf
 refine ⟨_, shrT 0 0 32 0 0 (by kernel_rfl) (by kernel_rfl), ?_⟩
 conv => whnf
 refine ⟨_, bothT 0 0 60129542144 0 60129542144 0 (by kernel_rfl), ?_⟩
 conv => whnf
 refine ⟨_, fshiftT 0 (-32) 0 100 (by kernel_rfl), ?_⟩
 conv => whnf
 refine ⟨_, floorT 0 0 100 (by kernel_rfl), ?_⟩
 conv => whnf
 refine ⟨_, fshiftT 0 32 0 100 (by kernel_rfl), ?_⟩
 conv => whnf
 refine ⟨_, numSubT 0 0 0 100 (by kernel_rfl), ?_⟩
 conv => whnf
 refine ⟨_, int64T 0 0 (by kernel_rfl), ?_⟩
 conv => whnf
 refine ⟨_, shrT 60129542144 0 32 14 0 (by kernel_rfl) (by kernel_rfl), ?_⟩
 conv => whnf
 refine ⟨_, bothT 14 0 0 0 14 0 (by kernel_rfl), ?_⟩
 conv => whnf
 refine ⟨_, fshiftT 0 (-32) 0 100 (by kernel_rfl), ?_⟩
 conv => whnf
 refine ⟨_, floorT 0 0 100 (by kernel_rfl), ?_⟩
 conv => whnf
 refine ⟨_, fshiftT 0 32 0 100 (by kernel_rfl), ?_⟩
 conv => whnf
 refine ⟨_, numSubT 0 0 0 100 (by kernel_rfl), ?_⟩
 conv => whnf
 refine ⟨_, int64T 0 0 (by kernel_rfl), ?_⟩
 conv => whnf
 refine ⟨_, shrT 14 0 32 0 60129542144 (by kernel_rfl) (by kernel_rfl), ?_⟩
 conv => whnf
 refine ⟨_, bothT 0 60129542144 0 0 0 60129542144 (by kernel_rfl), ?_⟩
 conv => whnf
 refine ⟨_, fshiftT 0 (-32) 0 100 (by kernel_rfl), ?_⟩
 conv => whnf
 refine ⟨_, floorT 0 0 100 (by kernel_rfl), ?_⟩
 conv => whnf
 refine ⟨_, fshiftT 0 32 0 100 (by kernel_rfl), ?_⟩
 conv => whnf
 refine ⟨_, numSubT 0 0 0 100 (by kernel_rfl), ?_⟩
 conv => whnf
 refine ⟨_, int64T 0 0 (by kernel_rfl), ?_⟩
 conv => whnf
 refine ⟨_, shrT 0 60129542144 32 0 14 (by kernel_rfl) (by kernel_rfl), ?_⟩
 conv => whnf
 refine ⟨_, bothT 0 14 0 0 0 14 (by kernel_rfl), ?_⟩
 conv => whnf
 rfl
theorem cWord33 : Cal Tryz.prog OQ 154 [m33, bA false, nA 6, iA (-2)] (wdA 0 14) := by
 refine fn_callB [(2, [(0, 6), (2, 2000000), (5, 4), (7, 2000000), (8, 2000000), (10, 10)]), (3, [(0, 4), (2, 2000000), (3, 10), (4, 2000000), (5, 2000000), (6, 8)])] TK MX Tryz.func154 rfl (by kernel_rfl) (by kernel_rfl) (by kernel_rfl) rfl rfl ?_
 conv => whnf
 refine ⟨_, cLeast33, ?_⟩
 conv => whnf
 refine ⟨_, intT 2 2 (by kernel_rfl), ?_⟩
 conv => whnf
 refine ⟨_, fshiftT 2 2 8 100 (by kernel_rfl), ?_⟩
 conv => whnf
 refine ⟨_, numAddT 6 8 14 100 (by kernel_rfl), ?_⟩
 conv => whnf
 refine ⟨_, cSgn33, ?_⟩
 conv => whnf
 refine ⟨_, cPacked14, ?_⟩
 conv => whnf
 refine ⟨_, bothT 0 0 0 14 0 14 (by kernel_rfl), ?_⟩
 conv => whnf
 rfl
set_option maxHeartbeats 1000000 in
theorem cEnd33 : Cal Tryz.prog OQ 122 [m33, bA false, nA 5, iA (-2), bA false, iA 1, bA false] (.t [wdA 0 14, iA 16]) := by
 refine fn_callB [(10, [(0, 9), (1, 2000000), (2, 2000000), (3, 9)]), (11, [(0, 9), (2, 2000000), (3, 7), (4, 2000000), (5, 2000000)]), (14, [(0, 7), (4, 7), (5, 2000000), (6, 2000000), (7, 2000000), (9, 7), (12, 7), (15, 2000000), (16, 14)])] TK MX Tryz.func122 rfl (by kernel_rfl) (by kernel_rfl) (by kernel_rfl) rfl rfl ?_
 conv => whnf
 refine ⟨_, signT 5 1 (by kernel_rfl), ?_⟩
 conv => whnf
 refine ⟨_, twosOdd 5 100 (by kernel_rfl), ?_⟩
 conv => whnf
 refine ⟨_, cUpw, ?_⟩
 conv => whnf
 refine ⟨_, intT 1 1 (by kernel_rfl), ?_⟩
 conv => whnf
 refine ⟨_, numAddT 5 1 6 100 (by kernel_rfl), ?_⟩
 conv => whnf
 refine ⟨_, fshiftT 6 (-2) (3 / 2) 100 (by kernel_rfl), ?_⟩
 conv => whnf
 refine ⟨_, cGreat33, ?_⟩
 conv => whnf
 refine ⟨_, numCmpT (3 / 2) 14 (-1) 100 (by kernel_rfl), ?_⟩
 conv => whnf
 refine ⟨_, cWord33, ?_⟩
 conv => whnf
 rfl
theorem cMRound0 : Cal Tryz.prog OQ 81 [m33, nA 0] (.t [wdA 0 0, iA 0]) := by
 refine fn_callB [(8, [(0, 2), (1, 3), (2, 2000000), (4, 10), (6, 9), (7, 2000000), (8, 9), (9, 10), (10, 2000000), (11, 2000000), (12, 2000000), (13, 2000000), (15, 2), (16, 2000000), (18, 2000000), (21, 4)])] TK MX Tryz.func81 rfl (by kernel_rfl) (by kernel_rfl) (by kernel_rfl) rfl rfl ?_
 conv => whnf
 refine ⟨_, signT 0 0 (by kernel_rfl), ?_⟩
 conv => whnf
 refine ⟨_, cZero33, ?_⟩
 conv => whnf
 rfl
set_option maxHeartbeats 1000000 in
theorem cMRound : Cal Tryz.prog OQ 81 [m33, nA (23 / 16)] (.t [wdA 0 14, iA 16]) := by
 refine fn_callB [(8, [(0, 2), (1, 3), (2, 2000000), (4, 10), (6, 9), (7, 2000000), (8, 9), (9, 10), (10, 2000000), (11, 2000000), (12, 2000000), (13, 2000000), (15, 2), (16, 2000000), (18, 2000000), (21, 4)])] TK MX Tryz.func81 rfl (by kernel_rfl) (by kernel_rfl) (by kernel_rfl) rfl rfl ?_
 conv => whnf
 refine ⟨_, signT (23 / 16) 1 (by kernel_rfl), ?_⟩
 conv => whnf
 refine ⟨_, absT (23 / 16) (23 / 16) (by kernel_rfl), ?_⟩
 conv => whnf
 refine ⟨_, flogT (23 / 16) 0 100 (by kernel_rfl), ?_⟩
 conv => whnf
 refine ⟨_, cStep33, ?_⟩
 conv => whnf
 refine ⟨_, fshiftT (23 / 16) 2 (23 / 4) 100 (by kernel_rfl), ?_⟩
 conv => whnf
 refine ⟨_, floorT (23 / 4) 5 100 (by kernel_rfl), ?_⟩
 conv => whnf
 refine ⟨_, signT (23 / 16) 1 (by kernel_rfl), ?_⟩
 conv => whnf
 refine ⟨_, isIntT (23 / 4) false (by kernel_rfl), ?_⟩
 conv => whnf
 refine ⟨_, numSubT (23 / 4) 5 (3 / 4) 100 (by kernel_rfl), ?_⟩
 conv => whnf
 refine ⟨_, fshiftT (3 / 4) 1 (3 / 2) 100 (by kernel_rfl), ?_⟩
 conv => whnf
 refine ⟨_, intT 1 1 (by kernel_rfl), ?_⟩
 conv => whnf
 refine ⟨_, numCmpT (3 / 2) 1 1 100 (by kernel_rfl), ?_⟩
 conv => whnf
 refine ⟨_, cNormal33, ?_⟩
 conv => whnf
 refine ⟨_, cEnd33, ?_⟩
 conv => whnf
 rfl
theorem cFRound0 : Cal Tryz.prog OQ 40 [f33, iA 0, nA 0] (.t [wdA 0 0, iA 0, iA 0]) := by
 refine fn_call TK MX Tryz.func40 rfl (by kernel_rfl) (by kernel_rfl) (by kernel_rfl) rfl rfl ?_
 conv => whnf
 refine ⟨_, cWith33, ?_⟩
 conv => whnf
 refine ⟨_, cMRound0, ?_⟩
 conv => whnf
 rfl
theorem cFRound : Cal Tryz.prog OQ 40 [f33, iA 0, nA (23 / 16)] (.t [wdA 0 14, iA 16, iA 0]) := by
 refine fn_call TK MX Tryz.func40 rfl (by kernel_rfl) (by kernel_rfl) (by kernel_rfl) rfl rfl ?_
 conv => whnf
 refine ⟨_, cWith33, ?_⟩
 conv => whnf
 refine ⟨_, cMRound, ?_⟩
 conv => whnf
 rfl
theorem cFLeast : Cal Tryz.prog OQ 41 [f33] (.t [nA (1 / 16), iA 0]) := by
 refine fn_call TK MX Tryz.func41 rfl (by kernel_rfl) (by kernel_rfl) (by kernel_rfl) rfl rfl ?_
 conv => whnf
 refine ⟨_, cWith33, ?_⟩
 conv => whnf
 refine ⟨_, cLeast33, ?_⟩
 conv => whnf
 refine ⟨_, ftwoT (-4) (1 / 16) (by kernel_rfl), ?_⟩
 conv => whnf
 rfl
end Go.Proofs.YtajecapgmdfjcaaGreatDoor

/- the first list. PRINTED by gen/em2.py. -/
namespace Go.Proofs.YtajecapgmdfjcaaGreatDoor
open Go.RowKit Vn
set_option maxRecDepth 100000 in
set_option maxHeartbeats 8000000 in
theorem cF_d_1 : Cal Tryz.prog OQ 44 [lsA nstD, iA 1] (.t [.c (.e [.sl 1 [[eC [(0, 2)]]], .mp false [0, 1] [[eC [(0, 2)]], [eC [(1, 1)]]], .mp false [0, 1] [bC true, bC false], .sl 1 [[.v (.int .i64 1)]]]), iA 0]) := by
 refine fn_callD [(18, [(6, 2000000), (8, 11), (10, 2000000)]), (23, [(0, 9)])] TK MX (H := HL Tryz.prog OQ TB FTo 3) (HL_ok TK MX FTo_ok 3) (nd := false) Tryz.func44 rfl (by kernel_rfl) (by kernel_rfl) (by kernel_rfl) rfl rfl ?_
 conv => whnf
 refine ⟨_, cW_d, ?_⟩
 conv => whnf
 refine ⟨_, cO_d_1, ?_⟩
 conv => whnf
 rfl
set_option maxRecDepth 100000 in
set_option maxHeartbeats 8000000 in
theorem cV_d_1 : Cal Tryz.prog OQ 28 [lsA nstD, iA 1] (.t [.c (.e [.sl 1 [[eC [(0, 2)]]], .mp false [0, 1] [[eC [(0, 2)]], [eC [(1, 1)]]], .mp false [0, 1] [bC true, bC false], .sl 1 [[.v (.int .i64 1)]]]), eA [(1, 1)], iA 0]) := by
 refine fn_callB [(7, [(4, 2000000)])] TK MX Tryz.func28 rfl (by kernel_rfl) (by kernel_rfl) (by kernel_rfl) rfl rfl ?_
 conv => whnf
 refine ⟨_, cAsked1 (l := nstD) len_d chk_d (by decide) (by decide), ?_⟩
 conv => whnf
 refine ⟨_, cF_d_1, ?_⟩
 conv => whnf
 rfl
set_option maxRecDepth 100000 in
set_option maxHeartbeats 8000000 in
theorem cF_d_2 : Cal Tryz.prog OQ 44 [lsA nstD, iA 2] (.t [.c (.e [.sl 1 [[eC [(0, 2)]]], .mp false [0, 1, 2] [[eC [(0, 2)]], [eC [(1, 1)]], [eC [(0, 2)]]], .mp false [0, 1, 2] [bC true, bC false, bC false], .sl 1 [[.v (.int .i64 1)]]]), iA 0]) := by
 refine fn_callD [(18, [(6, 2000000), (8, 11), (10, 2000000)]), (23, [(0, 9)])] TK MX (H := HL Tryz.prog OQ TB FTo 3) (HL_ok TK MX FTo_ok 3) (nd := false) Tryz.func44 rfl (by kernel_rfl) (by kernel_rfl) (by kernel_rfl) rfl rfl ?_
 conv => whnf
 refine ⟨_, cW_d, ?_⟩
 conv => whnf
 refine ⟨_, cO_d_2, ?_⟩
 conv => whnf
 rfl
set_option maxRecDepth 100000 in
set_option maxHeartbeats 8000000 in
theorem cV_d_2 : Cal Tryz.prog OQ 28 [lsA nstD, iA 2] (.t [.c (.e [.sl 1 [[eC [(0, 2)]]], .mp false [0, 1, 2] [[eC [(0, 2)]], [eC [(1, 1)]], [eC [(0, 2)]]], .mp false [0, 1, 2] [bC true, bC false, bC false], .sl 1 [[.v (.int .i64 1)]]]), eA [(0, 2)], iA 0]) := by
 refine fn_callB [(7, [(4, 2000000)])] TK MX Tryz.func28 rfl (by kernel_rfl) (by kernel_rfl) (by kernel_rfl) rfl rfl ?_
 conv => whnf
 refine ⟨_, cAsked1 (l := nstD) len_d chk_d (by decide) (by decide), ?_⟩
 conv => whnf
 refine ⟨_, cF_d_2, ?_⟩
 conv => whnf
 rfl
set_option maxRecDepth 100000 in
set_option maxHeartbeats 8000000 in
theorem cF_d_3 : Cal Tryz.prog OQ 44 [lsA nstD, iA 3] (.t [.c (.e [.sl 1 [[eC [(0, 2)]]], .mp false [0, 1, 2, 3] [[eC [(0, 2)]], [eC [(1, 1)]], [eC [(0, 2)]], [eC []]], .mp false [0, 1, 2, 3] [bC true, bC false, bC false, bC false], .sl 1 [[.v (.int .i64 1)]]]), iA 0]) := by
 refine fn_callD [(18, [(6, 2000000), (8, 11), (10, 2000000)]), (23, [(0, 9)])] TK MX (H := HL Tryz.prog OQ TB FTo 3) (HL_ok TK MX FTo_ok 3) (nd := false) Tryz.func44 rfl (by kernel_rfl) (by kernel_rfl) (by kernel_rfl) rfl rfl ?_
 conv => whnf
 refine ⟨_, cW_d, ?_⟩
 conv => whnf
 refine ⟨_, cO_d_3, ?_⟩
 conv => whnf
 rfl
set_option maxRecDepth 100000 in
set_option maxHeartbeats 8000000 in
theorem cV_d_3 : Cal Tryz.prog OQ 28 [lsA nstD, iA 3] (.t [.c (.e [.sl 1 [[eC [(0, 2)]]], .mp false [0, 1, 2, 3] [[eC [(0, 2)]], [eC [(1, 1)]], [eC [(0, 2)]], [eC []]], .mp false [0, 1, 2, 3] [bC true, bC false, bC false, bC false], .sl 1 [[.v (.int .i64 1)]]]), eA [], iA 0]) := by
 refine fn_callB [(7, [(4, 2000000)])] TK MX Tryz.func28 rfl (by kernel_rfl) (by kernel_rfl) (by kernel_rfl) rfl rfl ?_
 conv => whnf
 refine ⟨_, cAsked1 (l := nstD) len_d chk_d (by decide) (by decide), ?_⟩
 conv => whnf
 refine ⟨_, cF_d_3, ?_⟩
 conv => whnf
 rfl
set_option maxRecDepth 100000 in
set_option maxHeartbeats 8000000 in
theorem cF_d_4 : Cal Tryz.prog OQ 44 [lsA nstD, iA 4] (.t [.c (.e [.sl 1 [[eC [(0, 2)]]], .mp false [0, 1, 4] [[eC [(0, 2)]], [eC [(1, 1)]], [eC [(1, -1)]]], .mp false [0, 1, 4] [bC true, bC false, bC false], .sl 1 [[.v (.int .i64 1)]]]), iA 0]) := by
 refine fn_callD [(18, [(6, 2000000), (8, 11), (10, 2000000)]), (23, [(0, 9)])] TK MX (H := HL Tryz.prog OQ TB FTo 3) (HL_ok TK MX FTo_ok 3) (nd := false) Tryz.func44 rfl (by kernel_rfl) (by kernel_rfl) (by kernel_rfl) rfl rfl ?_
 conv => whnf
 refine ⟨_, cW_d, ?_⟩
 conv => whnf
 refine ⟨_, cO_d_4, ?_⟩
 conv => whnf
 rfl
set_option maxRecDepth 100000 in
set_option maxHeartbeats 8000000 in
theorem cV_d_4 : Cal Tryz.prog OQ 28 [lsA nstD, iA 4] (.t [.c (.e [.sl 1 [[eC [(0, 2)]]], .mp false [0, 1, 4] [[eC [(0, 2)]], [eC [(1, 1)]], [eC [(1, -1)]]], .mp false [0, 1, 4] [bC true, bC false, bC false], .sl 1 [[.v (.int .i64 1)]]]), eA [(1, -1)], iA 0]) := by
 refine fn_callB [(7, [(4, 2000000)])] TK MX Tryz.func28 rfl (by kernel_rfl) (by kernel_rfl) (by kernel_rfl) rfl rfl ?_
 conv => whnf
 refine ⟨_, cAsked1 (l := nstD) len_d chk_d (by decide) (by decide), ?_⟩
 conv => whnf
 refine ⟨_, cF_d_4, ?_⟩
 conv => whnf
 rfl
set_option maxRecDepth 100000 in
set_option maxHeartbeats 8000000 in
theorem cF_d_6 : Cal Tryz.prog OQ 44 [lsA nstD, iA 6] (.t [.c (.e [.v (.slice none 0 0), .mp false [5, 6] [[eC [(0, 9/4)]], [eC [(0, 3/2)]]], .mp false [5, 6] [bC true, bC true], .v (.slice none 0 0)]), iA 0]) := by
 refine fn_callD [(18, [(6, 2000000), (8, 11), (10, 2000000)]), (23, [(0, 9)])] TK MX (H := HL Tryz.prog OQ TB FTo 3) (HL_ok TK MX FTo_ok 3) (nd := false) Tryz.func44 rfl (by kernel_rfl) (by kernel_rfl) (by kernel_rfl) rfl rfl ?_
 conv => whnf
 refine ⟨_, cW_d, ?_⟩
 conv => whnf
 refine ⟨_, cO_d_6, ?_⟩
 conv => whnf
 rfl
set_option maxRecDepth 100000 in
set_option maxHeartbeats 8000000 in
theorem cV_d_6 : Cal Tryz.prog OQ 28 [lsA nstD, iA 6] (.t [.c (.e [.v (.slice none 0 0), .mp false [5, 6] [[eC [(0, 9/4)]], [eC [(0, 3/2)]]], .mp false [5, 6] [bC true, bC true], .v (.slice none 0 0)]), eA [(0, 3/2)], iA 0]) := by
 refine fn_callB [(7, [(4, 2000000)])] TK MX Tryz.func28 rfl (by kernel_rfl) (by kernel_rfl) (by kernel_rfl) rfl rfl ?_
 conv => whnf
 refine ⟨_, cAsked1 (l := nstD) len_d chk_d (by decide) (by decide), ?_⟩
 conv => whnf
 refine ⟨_, cF_d_6, ?_⟩
 conv => whnf
 rfl
set_option maxRecDepth 100000 in
set_option maxHeartbeats 8000000 in
theorem cS_d_3 : Cal Tryz.prog OQ 12 [lsA nstD, iA 3] (.t [iA 0, iA 0]) := by
 refine fn_call TK MX Tryz.func12 rfl (by kernel_rfl) (by kernel_rfl) (by kernel_rfl) rfl rfl ?_
 conv => whnf
 refine ⟨_, cV_d_3, ?_⟩
 conv => whnf
 refine ⟨_, sgnT [[(0, 2)]] [] 1000 6 8 0 _ (by kernel_rfl), ?_⟩
 conv => whnf
 rfl
set_option maxRecDepth 100000 in
set_option maxHeartbeats 8000000 in
theorem cR_d_2 : Cal Tryz.prog OQ 16 [lsA nstD, iA 2] (.t [nA 0, bA false, iA 0]) := by
 refine fn_callB [] TK MX Tryz.func16 rfl (by kernel_rfl) (by kernel_rfl) (by kernel_rfl) rfl rfl ?_
 conv => whnf
 refine ⟨_, cV_d_2, ?_⟩
 conv => whnf
 rfl
set_option maxRecDepth 100000 in
set_option maxHeartbeats 8000000 in
theorem cR_d_6 : Cal Tryz.prog OQ 16 [lsA nstD, iA 6] (.t [nA (3/2), bA true, iA 0]) := by
 refine fn_callB [] TK MX Tryz.func16 rfl (by kernel_rfl) (by kernel_rfl) (by kernel_rfl) rfl rfl ?_
 conv => whnf
 refine ⟨_, cV_d_6, ?_⟩
 conv => whnf
 refine ⟨_, ratT [(0, 3/2)] (3/2) (by kernel_rfl), ?_⟩
 conv => whnf
 rfl
set_option maxRecDepth 100000 in
set_option maxHeartbeats 8000000 in
theorem cWt_d_3 : Cal Tryz.prog OQ 17 [lsA nstD, iA 3] (.t [iA 3, iA 0]) := by
 refine fn_call TK MX Tryz.func17 rfl (by kernel_rfl) (by kernel_rfl) (by kernel_rfl) rfl rfl ?_
 conv => whnf
 refine ⟨_, cAsked1 (l := nstD) len_d chk_d (by decide) (by decide), ?_⟩
 conv => whnf
 refine ⟨_, cW_d, ?_⟩
 conv => whnf
 rfl
set_option maxRecDepth 100000 in
set_option maxHeartbeats 8000000 in
theorem cFl_d_4 : Cal Tryz.prog OQ 18 [lsA nstD, iA 4, iA 0] (.t [nA (-2), iA 0]) := by
 refine fn_callB [(6, [(5, 2000000), (6, 2000000), (7, 6)])] TK MX Tryz.func18 rfl (by kernel_rfl) (by kernel_rfl) (by kernel_rfl) rfl rfl ?_
 conv => whnf
 refine ⟨_, cV_d_4, ?_⟩
 conv => whnf
 refine .inl ⟨_, shfT [(1, -1)] 0 [(1, -1)] 1000 (by kernel_rfl), ?_⟩
 conv => whnf
 refine ⟨_, flrT [[(0, 2)]] [(1, -1)] 1000 (-2) _ (by kernel_rfl), ?_⟩
 conv => whnf
 rfl
set_option maxRecDepth 100000 in
set_option maxHeartbeats 8000000 in
theorem cEn_d_4 : Cal Tryz.prog OQ 19 [lsA nstD, iA 4, iA 4] (.t [nA (-3 / 2), nA (-11 / 8), iA 0]) := by
 refine fn_callB [(5, [(6, 2000000), (7, 2000000), (9, 12)]), (7, [(6, 2000000), (7, 12), (8, 2000000), (9, 2000000), (10, 2000000)]), (8, [(0, 12), (1, 2000000), (2, 2000000), (3, 13)]), (9, [(0, 12), (2, 2000000), (3, 13), (5, 2000000), (6, 6), (7, 7)])] TK MX Tryz.func19 rfl (by kernel_rfl) (by kernel_rfl) (by kernel_rfl) rfl rfl ?_
 conv => whnf
 refine ⟨_, cV_d_4, ?_⟩
 conv => whnf
 refine ⟨_, sgnT [[(0, 2)]] [(1, -1)] 1000 6 8 (-1) _ (by kernel_rfl), ?_⟩
 conv => whnf
 refine ⟨_, lgrT [[(0, 2)]] [(1, -1)] [(1, 1)] 1000 6 8 (-1) 0 _ (by kernel_rfl), ?_⟩
 conv => whnf
 refine .inl ⟨_, shfT [(1, -1)] 3 [(1, -8)] 1000 (by kernel_rfl), ?_⟩
 conv => whnf
 refine ⟨_, flrT [[(0, 2)]] [(1, -8)] 1000 (-12) _ (by kernel_rfl), ?_⟩
 conv => whnf
 refine .inl ⟨_, shfT [(1, -1)] 3 [(1, -8)] 1000 (by kernel_rfl), ?_⟩
 conv => whnf
 refine .inl ⟨_, whlT ((-12 : Int) : Rat) [(0, -12)] 1000 (by kernel_rfl), ?_⟩
 conv => whnf
 refine .inl ⟨_, subT [(1, -8)] [(0, -12)] [(0, 12), (1, -8)] 1000 (by kernel_rfl), ?_⟩
 conv => whnf
 refine ⟨_, sgnT [[(0, 2)]] [(0, 12), (1, -8)] 1000 6 8 1 _ (by kernel_rfl), ?_⟩
 conv => whnf
 refine ⟨_, intT 1 1 (by kernel_rfl), ?_⟩
 conv => whnf
 refine ⟨_, numAddT ((-12 : Int) : Rat) 1 (-11) 100 (by kernel_rfl), ?_⟩
 conv => whnf
 refine ⟨_, shiftRT ((-12 : Int) : Rat) (-3) (-3 / 2) 100 (by kernel_rfl), ?_⟩
 conv => whnf
 refine ⟨_, shiftRT (-11) (-3) (-11 / 8) 100 (by kernel_rfl), ?_⟩
 conv => whnf
 rfl
set_option maxRecDepth 100000 in
set_option maxHeartbeats 8000000 in
theorem cRd_d_1 : Cal Tryz.prog OQ 20 [lsA nstD, iA 1, f33, iA 0] (.t [wdA 0 14, iA 16, iA 0]) := by
 refine fn_callB [(8, [(5, 2000000), (7, 6)]), (9, [(6, 2000000), (7, 2000000), (9, 18)]), (10, [(6, 2000000), (7, 18), (8, 2000000), (9, 2000000), (10, 2000000)]), (11, [(0, 18), (1, 2000000), (2, 2000000), (3, 2000000), (4, 18)]), (12, [(0, 6), (2, 18), (4, 2000000), (5, 2000000), (9, 8)])] TK MX Tryz.func20 rfl (by kernel_rfl) (by kernel_rfl) (by kernel_rfl) rfl rfl ?_
 conv => whnf
 refine ⟨_, cV_d_1, ?_⟩
 conv => whnf
 refine ⟨_, cFRound0, ?_⟩
 conv => whnf
 refine ⟨_, sgnT [[(0, 2)]] [(1, 1)] 1000 6 8 1 _ (by kernel_rfl), ?_⟩
 conv => whnf
 refine ⟨_, cFLeast, ?_⟩
 conv => whnf
 refine ⟨_, logT (1 / 16) (-4) 100 (by kernel_rfl), ?_⟩
 conv => whnf
 refine ⟨_, lgrT [[(0, 2)]] [(1, 1)] [(1, 1)] 1000 6 8 1 0 _ (by kernel_rfl), ?_⟩
 conv => whnf
 refine .inl ⟨_, shfT [(1, 1)] 3 [(1, 8)] 1000 (by kernel_rfl), ?_⟩
 conv => whnf
 refine ⟨_, flrT [[(0, 2)]] [(1, 8)] 1000 11 _ (by kernel_rfl), ?_⟩
 conv => whnf
 refine .inl ⟨_, shfT [(1, 1)] 3 [(1, 8)] 1000 (by kernel_rfl), ?_⟩
 conv => whnf
 refine .inl ⟨_, whlT ((11 : Int) : Rat) [(0, 11)] 1000 (by kernel_rfl), ?_⟩
 conv => whnf
 refine .inl ⟨_, subT [(1, 8)] [(0, 11)] [(0, -11), (1, 8)] 1000 (by kernel_rfl), ?_⟩
 conv => whnf
 refine ⟨_, sgnT [[(0, 2)]] [(0, -11), (1, 8)] 1000 6 8 1 _ (by kernel_rfl), ?_⟩
 conv => whnf
 refine ⟨_, intT 1 1 (by kernel_rfl), ?_⟩
 conv => whnf
 refine ⟨_, shiftRT 1 (-1) (1 / 2) 100 (by kernel_rfl), ?_⟩
 conv => whnf
 refine ⟨_, numAddT ((11 : Int) : Rat) (1 / 2) (23 / 2) 100 (by kernel_rfl), ?_⟩
 conv => whnf
 refine ⟨_, shiftRT (23 / 2) (-3) (23 / 16) 100 (by kernel_rfl), ?_⟩
 conv => whnf
 refine ⟨_, cFRound, ?_⟩
 conv => whnf
 rfl
end Go.Proofs.YtajecapgmdfjcaaGreatDoor

/- which nodes are needed. PRINTED by gen/em2.py. -/
namespace Go.Proofs.YtajecapgmdfjcaaGreatDoor
open Go.RowKit Vn
set_option maxRecDepth 100000 in
set_option maxHeartbeats 8000000 in
theorem cN_m_0 : Cal Tryz.prog OQ 86 [lsA nstM, iA 0] (.c (.cl 129 [.e [.sl 1 [bC true]]])) := by
 refine fn_callD [(9, [(0, 5), (2, 7), (3, 5), (5, 7), (7, 11), (13, 11)])] TK MX (H := HL Tryz.prog OQ TB FTn 1) (HL_ok TK MX FTn_ok 1) (nd := false) Tryz.func86 rfl (by kernel_rfl) (by kernel_rfl) (by kernel_rfl) rfl rfl ?_
 conv => whnf
 refine ⟨_, cBackward (l := (nstM).take 1), ?_⟩
 conv => whnf
 intro R
 conv => whnf
 refine ⟨2, ?_⟩
 conv => whnf
 repeat (first | (refine ⟨_, cUses, ?_⟩; (conv => whnf)) | (refine ⟨rfl, ?_⟩; (conv => whnf)))
 rfl
set_option maxRecDepth 100000 in
set_option maxHeartbeats 8000000 in
theorem cN_m_1 : Cal Tryz.prog OQ 86 [lsA nstM, iA 1] (.c (.cl 129 [.e [.sl 1 [bC false, bC true]]])) := by
 refine fn_callD [(9, [(0, 5), (2, 7), (3, 5), (5, 7), (7, 11), (13, 11)])] TK MX (H := HL Tryz.prog OQ TB FTn 1) (HL_ok TK MX FTn_ok 1) (nd := false) Tryz.func86 rfl (by kernel_rfl) (by kernel_rfl) (by kernel_rfl) rfl rfl ?_
 conv => whnf
 refine ⟨_, cBackward (l := (nstM).take 2), ?_⟩
 conv => whnf
 intro R
 conv => whnf
 refine ⟨3, ?_⟩
 conv => whnf
 repeat (first | (refine ⟨_, cUses, ?_⟩; (conv => whnf)) | (refine ⟨rfl, ?_⟩; (conv => whnf)))
 rfl
set_option maxRecDepth 100000 in
set_option maxHeartbeats 8000000 in
theorem cN_m_2 : Cal Tryz.prog OQ 86 [lsA nstM, iA 2] (.c (.cl 129 [.e [.sl 1 [bC false, bC false, bC true]]])) := by
 refine fn_callD [(9, [(0, 5), (2, 7), (3, 5), (5, 7), (7, 11), (13, 11)])] TK MX (H := HL Tryz.prog OQ TB FTn 1) (HL_ok TK MX FTn_ok 1) (nd := false) Tryz.func86 rfl (by kernel_rfl) (by kernel_rfl) (by kernel_rfl) rfl rfl ?_
 conv => whnf
 refine ⟨_, cBackward (l := (nstM).take 3), ?_⟩
 conv => whnf
 intro R
 conv => whnf
 refine ⟨4, ?_⟩
 conv => whnf
 repeat (first | (refine ⟨_, cUses, ?_⟩; (conv => whnf)) | (refine ⟨rfl, ?_⟩; (conv => whnf)))
 rfl
set_option maxRecDepth 100000 in
set_option maxHeartbeats 8000000 in
theorem cN_m_3 : Cal Tryz.prog OQ 86 [lsA nstM, iA 3] (.c (.cl 129 [.e [.sl 1 [bC false, bC false, bC false, bC true]]])) := by
 refine fn_callD [(9, [(0, 5), (2, 7), (3, 5), (5, 7), (7, 11), (13, 11)])] TK MX (H := HL Tryz.prog OQ TB FTn 1) (HL_ok TK MX FTn_ok 1) (nd := false) Tryz.func86 rfl (by kernel_rfl) (by kernel_rfl) (by kernel_rfl) rfl rfl ?_
 conv => whnf
 refine ⟨_, cBackward (l := (nstM).take 4), ?_⟩
 conv => whnf
 intro R
 conv => whnf
 refine ⟨5, ?_⟩
 conv => whnf
 repeat (first | (refine ⟨_, cUses, ?_⟩; (conv => whnf)) | (refine ⟨rfl, ?_⟩; (conv => whnf)))
 rfl
set_option maxRecDepth 100000 in
set_option maxHeartbeats 8000000 in
theorem cN_m_4 : Cal Tryz.prog OQ 86 [lsA nstM, iA 4] (.c (.cl 129 [.e [.sl 1 [bC true, bC false, bC false, bC false, bC true]]])) := by
 refine fn_callD [(9, [(0, 5), (2, 7), (3, 5), (5, 7), (7, 11), (13, 11)])] TK MX (H := HL Tryz.prog OQ TB FTn 1) (HL_ok TK MX FTn_ok 1) (nd := false) Tryz.func86 rfl (by kernel_rfl) (by kernel_rfl) (by kernel_rfl) rfl rfl ?_
 conv => whnf
 refine ⟨_, cBackward (l := (nstM).take 5), ?_⟩
 conv => whnf
 intro R
 conv => whnf
 refine ⟨6, ?_⟩
 conv => whnf
 repeat (first | (refine ⟨_, cUses, ?_⟩; (conv => whnf)) | (refine ⟨rfl, ?_⟩; (conv => whnf)))
 rfl
set_option maxRecDepth 100000 in
set_option maxHeartbeats 8000000 in
theorem cN_m_5 : Cal Tryz.prog OQ 86 [lsA nstM, iA 5] (.c (.cl 129 [.e [.sl 1 [bC false, bC true, bC false, bC false, bC false, bC true]]])) := by
 refine fn_callD [(9, [(0, 5), (2, 7), (3, 5), (5, 7), (7, 11), (13, 11)])] TK MX (H := HL Tryz.prog OQ TB FTn 1) (HL_ok TK MX FTn_ok 1) (nd := false) Tryz.func86 rfl (by kernel_rfl) (by kernel_rfl) (by kernel_rfl) rfl rfl ?_
 conv => whnf
 refine ⟨_, cBackward (l := (nstM).take 6), ?_⟩
 conv => whnf
 intro R
 conv => whnf
 refine ⟨7, ?_⟩
 conv => whnf
 repeat (first | (refine ⟨_, cUses, ?_⟩; (conv => whnf)) | (refine ⟨rfl, ?_⟩; (conv => whnf)))
 rfl
set_option maxRecDepth 100000 in
set_option maxHeartbeats 8000000 in
theorem cN_m_6 : Cal Tryz.prog OQ 86 [lsA nstM, iA 6] (.c (.cl 129 [.e [.sl 1 [bC false, bC false, bC true, bC false, bC false, bC false, bC true]]])) := by
 refine fn_callD [(9, [(0, 5), (2, 7), (3, 5), (5, 7), (7, 11), (13, 11)])] TK MX (H := HL Tryz.prog OQ TB FTn 1) (HL_ok TK MX FTn_ok 1) (nd := false) Tryz.func86 rfl (by kernel_rfl) (by kernel_rfl) (by kernel_rfl) rfl rfl ?_
 conv => whnf
 refine ⟨_, cBackward (l := (nstM).take 7), ?_⟩
 conv => whnf
 intro R
 conv => whnf
 refine ⟨8, ?_⟩
 conv => whnf
 repeat (first | (refine ⟨_, cUses, ?_⟩; (conv => whnf)) | (refine ⟨rfl, ?_⟩; (conv => whnf)))
 rfl
set_option maxRecDepth 100000 in
set_option maxHeartbeats 8000000 in
theorem cN_m_7 : Cal Tryz.prog OQ 86 [lsA nstM, iA 7] (.c (.cl 129 [.e [.sl 1 [bC false, bC false, bC false, bC true, bC false, bC false, bC false, bC true]]])) := by
 refine fn_callD [(9, [(0, 5), (2, 7), (3, 5), (5, 7), (7, 11), (13, 11)])] TK MX (H := HL Tryz.prog OQ TB FTn 1) (HL_ok TK MX FTn_ok 1) (nd := false) Tryz.func86 rfl (by kernel_rfl) (by kernel_rfl) (by kernel_rfl) rfl rfl ?_
 conv => whnf
 refine ⟨_, cBackward (l := (nstM).take 8), ?_⟩
 conv => whnf
 intro R
 conv => whnf
 refine ⟨9, ?_⟩
 conv => whnf
 repeat (first | (refine ⟨_, cUses, ?_⟩; (conv => whnf)) | (refine ⟨rfl, ?_⟩; (conv => whnf)))
 rfl
set_option maxRecDepth 100000 in
set_option maxHeartbeats 8000000 in
theorem cN_m_8 : Cal Tryz.prog OQ 86 [lsA nstM, iA 8] (.c (.cl 129 [.e [.sl 1 [bC true, bC true, bC false, bC false, bC true, bC true, bC false, bC false, bC true]]])) := by
 refine fn_callD [(9, [(0, 5), (2, 7), (3, 5), (5, 7), (7, 11), (13, 11)])] TK MX (H := HL Tryz.prog OQ TB FTn 1) (HL_ok TK MX FTn_ok 1) (nd := false) Tryz.func86 rfl (by kernel_rfl) (by kernel_rfl) (by kernel_rfl) rfl rfl ?_
 conv => whnf
 refine ⟨_, cBackward (l := (nstM).take 9), ?_⟩
 conv => whnf
 intro R
 conv => whnf
 refine ⟨10, ?_⟩
 conv => whnf
 repeat (first | (refine ⟨_, cUses, ?_⟩; (conv => whnf)) | (refine ⟨rfl, ?_⟩; (conv => whnf)))
 rfl
set_option maxRecDepth 100000 in
set_option maxHeartbeats 8000000 in
theorem cN_m_9 : Cal Tryz.prog OQ 86 [lsA nstM, iA 9] (.c (.cl 129 [.e [.sl 1 [bC true, bC true, bC true, bC false, bC true, bC true, bC true, bC false, bC true, bC true]]])) := by
 refine fn_callD [(9, [(0, 5), (2, 7), (3, 5), (5, 7), (7, 11), (13, 11)])] TK MX (H := HL Tryz.prog OQ TB FTn 1) (HL_ok TK MX FTn_ok 1) (nd := false) Tryz.func86 rfl (by kernel_rfl) (by kernel_rfl) (by kernel_rfl) rfl rfl ?_
 conv => whnf
 refine ⟨_, cBackward (l := (nstM).take 10), ?_⟩
 conv => whnf
 intro R
 conv => whnf
 refine ⟨11, ?_⟩
 conv => whnf
 repeat (first | (refine ⟨_, cUses, ?_⟩; (conv => whnf)) | (refine ⟨rfl, ?_⟩; (conv => whnf)))
 rfl
set_option maxRecDepth 100000 in
set_option maxHeartbeats 8000000 in
theorem cN_m_10 : Cal Tryz.prog OQ 86 [lsA nstM, iA 10] (.c (.cl 129 [.e [.sl 1 [bC true, bC true, bC true, bC true, bC true, bC true, bC true, bC true, bC true, bC true, bC true]]])) := by
 refine fn_callD [(9, [(0, 5), (2, 7), (3, 5), (5, 7), (7, 11), (13, 11)])] TK MX (H := HL Tryz.prog OQ TB FTn 1) (HL_ok TK MX FTn_ok 1) (nd := false) Tryz.func86 rfl (by kernel_rfl) (by kernel_rfl) (by kernel_rfl) rfl rfl ?_
 conv => whnf
 refine ⟨_, cBackward (l := (nstM).take 11), ?_⟩
 conv => whnf
 intro R
 conv => whnf
 refine ⟨12, ?_⟩
 conv => whnf
 repeat (first | (refine ⟨_, cUses, ?_⟩; (conv => whnf)) | (refine ⟨rfl, ?_⟩; (conv => whnf)))
 rfl
end Go.Proofs.YtajecapgmdfjcaaGreatDoor
