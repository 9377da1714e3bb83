/- open: others. PRINTED by gen/em.py. -/
import Derived.Test.YtajecapgmdfjcaaGreatDoorL40
namespace Go.Proofs.YtajecapgmdfjcaaGreatDoor
open Go.RowKit Vn
set_option maxRecDepth 100000 in
set_option maxHeartbeats 8000000 in
theorem cO_a_2 : Cal Tryz.prog OQ 85 [lsA nst, .c (wC [1, 1, 1, 1, 2, 4, 2, 6, 6, 2, 8]), iA 2] (.t [.c (.e [.sl 1 [[eC [(0, 2)]]], .mp false [0, 2] [[eC [(0, 2)]], [eC [(1, 1)]]], .mp false [0, 2] [bC true, bC false], .sl 1 [[.v (.int .i64 2)]]]), iA 0]) := by
 refine fn_callD [(7, [(0, 8), (1, 3), (4, 2000000)])] TK MX (H := HL Tryz.prog OQ TB FTo 3) (HL_ok TK MX FTo_ok 3) (nd := false) Tryz.func85 rfl (by kernel_rfl) (by kernel_rfl) (by kernel_rfl) rfl rfl ?_
 conv => whnf
 refine ⟨_, cN_a_2, ?_⟩
 conv => whnf
 intro R
 conv => whnf
 refine ⟨4, ?_⟩
 conv => whnf
 repeat (first | (refine ⟨_, cUses, ?_⟩; (conv => whnf)) | (refine ⟨rfl, ?_⟩; (conv => whnf)))
 refine ⟨_, parsT [50] 2 (by kernel_rfl), ?_⟩
 conv => whnf
 refine .inl ⟨_, whlT 2 [(0, 2)] 1000 (by kernel_rfl), ?_⟩
 conv => whnf
 repeat (first | (refine ⟨_, cUses, ?_⟩; (conv => whnf)) | (refine ⟨rfl, ?_⟩; (conv => whnf)))
 refine ⟨_, sgnT [] [(0, 2)] 1000 6 8 1 [] (by kernel_rfl), rfl, ?_⟩
 conv => whnf
 refine ⟨_, ratT [(0, 2)] 2 (by kernel_rfl), ?_⟩
 conv => whnf
 refine ⟨_, rotT 2 0 false 1000 (by kernel_rfl), ?_⟩
 conv => whnf
 refine ⟨_, cInt (n := 1) (by omega) (by omega), ?_⟩
 conv => whnf
 refine ⟨_, _, witT [] 1 1 [(1, 1)] 1000 (by kernel_rfl), ?_⟩
 conv => whnf
 repeat (first | (refine ⟨_, cUses, ?_⟩; (conv => whnf)) | (refine ⟨rfl, ?_⟩; (conv => whnf)))
 rfl
set_option maxRecDepth 100000 in
set_option maxHeartbeats 8000000 in
theorem cO_b_11 : Cal Tryz.prog OQ 85 [lsA nstB, .c (wC [1, 1, 1, 1, 2, 4, 2, 6, 6, 2, 8, 2]), iA 11] (.t [.c (.e [.sl 1 [[eC [(0, 2)]], [eC [(0, 3)]]], .mp false [0, 1, 2, 3, 11] [[eC [(0, 2)]], [eC [(0, 3)]], [eC [(1, 1)]], [eC [(2, 1)]], [eC [(1, 1), (2, -1)]]], .mp false [0, 1, 2, 3, 11] [bC true, bC true, bC false, bC false, bC false], .sl 1 [[.v (.int .i64 2)], [.v (.int .i64 3)]]]), iA 0]) := by
 refine fn_callD [(7, [(0, 8), (1, 3), (4, 2000000)])] TK MX (H := HL Tryz.prog OQ TB FTo 3) (HL_ok TK MX FTo_ok 3) (nd := false) Tryz.func85 rfl (by kernel_rfl) (by kernel_rfl) (by kernel_rfl) rfl rfl ?_
 conv => whnf
 refine ⟨_, cN_b_11, ?_⟩
 conv => whnf
 intro R
 conv => whnf
 refine ⟨13, ?_⟩
 conv => whnf
 repeat (first | (refine ⟨_, cUses, ?_⟩; (conv => whnf)) | (refine ⟨rfl, ?_⟩; (conv => whnf)))
 refine ⟨_, parsT [50] 2 (by kernel_rfl), ?_⟩
 conv => whnf
 refine .inl ⟨_, whlT 2 [(0, 2)] 1000 (by kernel_rfl), ?_⟩
 conv => whnf
 repeat (first | (refine ⟨_, cUses, ?_⟩; (conv => whnf)) | (refine ⟨rfl, ?_⟩; (conv => whnf)))
 refine ⟨_, parsT [51] 3 (by kernel_rfl), ?_⟩
 conv => whnf
 refine .inl ⟨_, whlT 3 [(0, 3)] 1000 (by kernel_rfl), ?_⟩
 conv => whnf
 repeat (first | (refine ⟨_, cUses, ?_⟩; (conv => whnf)) | (refine ⟨rfl, ?_⟩; (conv => whnf)))
 refine ⟨_, sgnT [] [(0, 2)] 1000 6 8 1 [] (by kernel_rfl), rfl, ?_⟩
 conv => whnf
 refine ⟨_, ratT [(0, 2)] 2 (by kernel_rfl), ?_⟩
 conv => whnf
 refine ⟨_, rotT 2 0 false 1000 (by kernel_rfl), ?_⟩
 conv => whnf
 refine ⟨_, cInt (n := 1) (by omega) (by omega), ?_⟩
 conv => whnf
 refine ⟨_, _, witT [] 1 1 [(1, 1)] 1000 (by kernel_rfl), ?_⟩
 conv => whnf
 repeat (first | (refine ⟨_, cUses, ?_⟩; (conv => whnf)) | (refine ⟨rfl, ?_⟩; (conv => whnf)))
 refine ⟨_, sgnT [[(0, 2)]] [(0, 3)] 1000 6 8 1 [] (by kernel_rfl), rfl, ?_⟩
 conv => whnf
 refine ⟨_, ratT [(0, 3)] 3 (by kernel_rfl), ?_⟩
 conv => whnf
 refine ⟨_, rotT 3 0 false 1000 (by kernel_rfl), ?_⟩
 conv => whnf
 refine ⟨_, cInt (n := 1) (by omega) (by omega), ?_⟩
 conv => whnf
 refine ⟨_, _, witT [] 2 1 [(2, 1)] 1000 (by kernel_rfl), ?_⟩
 conv => whnf
 repeat (first | (refine ⟨_, cUses, ?_⟩; (conv => whnf)) | (refine ⟨rfl, ?_⟩; (conv => whnf)))
 refine .inl ⟨_, subT [(1, 1)] [(2, 1)] [(1, 1), (2, -1)] 1000 (by kernel_rfl), ?_⟩
 conv => whnf
 repeat (first | (refine ⟨_, cUses, ?_⟩; (conv => whnf)) | (refine ⟨rfl, ?_⟩; (conv => whnf)))
 rfl
set_option maxRecDepth 100000 in
set_option maxHeartbeats 8000000 in
theorem cO_c_0 : Cal Tryz.prog OQ 85 [lsA nstC, .c (wC [1, 1]), iA 0] (.t [.c (.e [.v (.slice none 0 0), .mp false [0] [[eC [(0, -1)]]], .mp false [0] [bC true], .v (.slice none 0 0)]), iA 0]) := by
 refine fn_callD [(7, [(0, 8), (1, 3), (4, 2000000)])] TK MX (H := HL Tryz.prog OQ TB FTo 3) (HL_ok TK MX FTo_ok 3) (nd := false) Tryz.func85 rfl (by kernel_rfl) (by kernel_rfl) (by kernel_rfl) rfl rfl ?_
 conv => whnf
 refine ⟨_, cN_c_0, ?_⟩
 conv => whnf
 intro R
 conv => whnf
 refine ⟨2, ?_⟩
 conv => whnf
 repeat (first | (refine ⟨_, cUses, ?_⟩; (conv => whnf)) | (refine ⟨rfl, ?_⟩; (conv => whnf)))
 refine ⟨_, parsT [45, 49] (-1) (by kernel_rfl), ?_⟩
 conv => whnf
 refine .inl ⟨_, whlT (-1) [(0, -1)] 1000 (by kernel_rfl), ?_⟩
 conv => whnf
 repeat (first | (refine ⟨_, cUses, ?_⟩; (conv => whnf)) | (refine ⟨rfl, ?_⟩; (conv => whnf)))
 rfl
set_option maxRecDepth 100000 in
set_option maxHeartbeats 8000000 in
theorem cO_c_1 : Cal Tryz.prog OQ 85 [lsA nstC, .c (wC [1, 1]), iA 1] (.t [.c (.v (.pointer none)), iA 9]) := by
 refine fn_callD [(7, [(0, 8), (1, 3), (4, 2000000)])] TK MX (H := HL Tryz.prog OQ TB FTo 3) (HL_ok TK MX FTo_ok 3) (nd := false) Tryz.func85 rfl (by kernel_rfl) (by kernel_rfl) (by kernel_rfl) rfl rfl ?_
 conv => whnf
 refine ⟨_, cN_c_1, ?_⟩
 conv => whnf
 intro R
 conv => whnf
 refine ⟨3, ?_⟩
 conv => whnf
 repeat (first | (refine ⟨_, cUses, ?_⟩; (conv => whnf)) | (refine ⟨rfl, ?_⟩; (conv => whnf)))
 refine ⟨_, parsT [45, 49] (-1) (by kernel_rfl), ?_⟩
 conv => whnf
 refine .inl ⟨_, whlT (-1) [(0, -1)] 1000 (by kernel_rfl), ?_⟩
 conv => whnf
 repeat (first | (refine ⟨_, cUses, ?_⟩; (conv => whnf)) | (refine ⟨rfl, ?_⟩; (conv => whnf)))
 refine ⟨_, sgnT [] [(0, -1)] 1000 6 8 (-1) [] (by kernel_rfl), rfl, ?_⟩
 conv => whnf
 repeat (first | (refine ⟨_, cUses, ?_⟩; (conv => whnf)) | (refine ⟨rfl, ?_⟩; (conv => whnf)))
 rfl
end Go.Proofs.YtajecapgmdfjcaaGreatDoor
