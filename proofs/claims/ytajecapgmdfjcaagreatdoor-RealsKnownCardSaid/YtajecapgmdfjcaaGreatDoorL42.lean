/- open. PRINTED by gen/em2.py. -/
import Derived.Test.YtajecapgmdfjcaaGreatDoorL41
namespace Go.Proofs.YtajecapgmdfjcaaGreatDoor
open Go.RowKit Vn
set_option maxRecDepth 100000 in
set_option maxHeartbeats 8000000 in
theorem cO_m_0 : Cal Tryz.prog OQ 85 [lsA nstM, .c (wC [1, 1, 1, 1, 1, 1, 1, 1, 2, 3, 4]), iA 0] (.t [.c (.e [.v (.slice none 0 0), .mp false [0] [[eC [(0, 2)]]], .mp false [0] [bC true], .v (.slice none 0 0)]), iA 0]) := by
 refine fn_callD [(7, [(0, 8), (1, 3), (4, 2000000)])] TK MX (H := HL Tryz.prog OQ TB FTo 3) (HL_ok TK MX FTo_ok 3) (nd := false) Tryz.func85 rfl (by kernel_rfl) (by kernel_rfl) (by kernel_rfl) rfl rfl ?_
 conv => whnf
 refine ⟨_, cN_m_0, ?_⟩
 conv => whnf
 intro R
 conv => whnf
 refine ⟨2, ?_⟩
 conv => whnf
 repeat (first | (refine ⟨_, cUses, ?_⟩; (conv => whnf)) | (refine ⟨rfl, ?_⟩; (conv => whnf)))
 refine ⟨_, parsT [50] 2 (by kernel_rfl), ?_⟩
 conv => whnf
 refine .inl ⟨_, whlT 2 [(0, 2)] 1000 (by kernel_rfl), ?_⟩
 conv => whnf
 repeat (first | (refine ⟨_, cUses, ?_⟩; (conv => whnf)) | (refine ⟨rfl, ?_⟩; (conv => whnf)))
 rfl
set_option maxRecDepth 100000 in
set_option maxHeartbeats 8000000 in
theorem cO_m_1 : Cal Tryz.prog OQ 85 [lsA nstM, .c (wC [1, 1, 1, 1, 1, 1, 1, 1, 2, 3, 4]), iA 1] (.t [.c (.e [.v (.slice none 0 0), .mp false [1] [[eC [(0, 3)]]], .mp false [1] [bC true], .v (.slice none 0 0)]), iA 0]) := by
 refine fn_callD [(7, [(0, 8), (1, 3), (4, 2000000)])] TK MX (H := HL Tryz.prog OQ TB FTo 3) (HL_ok TK MX FTo_ok 3) (nd := false) Tryz.func85 rfl (by kernel_rfl) (by kernel_rfl) (by kernel_rfl) rfl rfl ?_
 conv => whnf
 refine ⟨_, cN_m_1, ?_⟩
 conv => whnf
 intro R
 conv => whnf
 refine ⟨3, ?_⟩
 conv => whnf
 repeat (first | (refine ⟨_, cUses, ?_⟩; (conv => whnf)) | (refine ⟨rfl, ?_⟩; (conv => whnf)))
 refine ⟨_, parsT [51] 3 (by kernel_rfl), ?_⟩
 conv => whnf
 refine .inl ⟨_, whlT 3 [(0, 3)] 1000 (by kernel_rfl), ?_⟩
 conv => whnf
 repeat (first | (refine ⟨_, cUses, ?_⟩; (conv => whnf)) | (refine ⟨rfl, ?_⟩; (conv => whnf)))
 rfl
set_option maxRecDepth 100000 in
set_option maxHeartbeats 8000000 in
theorem cO_m_2 : Cal Tryz.prog OQ 85 [lsA nstM, .c (wC [1, 1, 1, 1, 1, 1, 1, 1, 2, 3, 4]), iA 2] (.t [.c (.e [.v (.slice none 0 0), .mp false [2] [[eC [(0, 5)]]], .mp false [2] [bC true], .v (.slice none 0 0)]), iA 0]) := by
 refine fn_callD [(7, [(0, 8), (1, 3), (4, 2000000)])] TK MX (H := HL Tryz.prog OQ TB FTo 3) (HL_ok TK MX FTo_ok 3) (nd := false) Tryz.func85 rfl (by kernel_rfl) (by kernel_rfl) (by kernel_rfl) rfl rfl ?_
 conv => whnf
 refine ⟨_, cN_m_2, ?_⟩
 conv => whnf
 intro R
 conv => whnf
 refine ⟨4, ?_⟩
 conv => whnf
 repeat (first | (refine ⟨_, cUses, ?_⟩; (conv => whnf)) | (refine ⟨rfl, ?_⟩; (conv => whnf)))
 refine ⟨_, parsT [53] 5 (by kernel_rfl), ?_⟩
 conv => whnf
 refine .inl ⟨_, whlT 5 [(0, 5)] 1000 (by kernel_rfl), ?_⟩
 conv => whnf
 repeat (first | (refine ⟨_, cUses, ?_⟩; (conv => whnf)) | (refine ⟨rfl, ?_⟩; (conv => whnf)))
 rfl
set_option maxRecDepth 100000 in
set_option maxHeartbeats 8000000 in
theorem cO_m_3 : Cal Tryz.prog OQ 85 [lsA nstM, .c (wC [1, 1, 1, 1, 1, 1, 1, 1, 2, 3, 4]), iA 3] (.t [.c (.e [.v (.slice none 0 0), .mp false [3] [[eC [(0, 7)]]], .mp false [3] [bC true], .v (.slice none 0 0)]), iA 0]) := by
 refine fn_callD [(7, [(0, 8), (1, 3), (4, 2000000)])] TK MX (H := HL Tryz.prog OQ TB FTo 3) (HL_ok TK MX FTo_ok 3) (nd := false) Tryz.func85 rfl (by kernel_rfl) (by kernel_rfl) (by kernel_rfl) rfl rfl ?_
 conv => whnf
 refine ⟨_, cN_m_3, ?_⟩
 conv => whnf
 intro R
 conv => whnf
 refine ⟨5, ?_⟩
 conv => whnf
 repeat (first | (refine ⟨_, cUses, ?_⟩; (conv => whnf)) | (refine ⟨rfl, ?_⟩; (conv => whnf)))
 refine ⟨_, parsT [55] 7 (by kernel_rfl), ?_⟩
 conv => whnf
 refine .inl ⟨_, whlT 7 [(0, 7)] 1000 (by kernel_rfl), ?_⟩
 conv => whnf
 repeat (first | (refine ⟨_, cUses, ?_⟩; (conv => whnf)) | (refine ⟨rfl, ?_⟩; (conv => whnf)))
 rfl
set_option maxRecDepth 100000 in
set_option maxHeartbeats 8000000 in
theorem cO_m_4 : Cal Tryz.prog OQ 85 [lsA nstM, .c (wC [1, 1, 1, 1, 1, 1, 1, 1, 2, 3, 4]), iA 4] (.t [.c (.e [.sl 1 [[eC [(0, 2)]]], .mp false [0, 4] [[eC [(0, 2)]], [eC [(1, 1)]]], .mp false [0, 4] [bC true, bC false], .sl 1 [[.v (.int .i64 4)]]]), iA 0]) := by
 refine fn_callD [(7, [(0, 8), (1, 3), (4, 2000000)])] TK MX (H := HL Tryz.prog OQ TB FTo 3) (HL_ok TK MX FTo_ok 3) (nd := false) Tryz.func85 rfl (by kernel_rfl) (by kernel_rfl) (by kernel_rfl) rfl rfl ?_
 conv => whnf
 refine ⟨_, cN_m_4, ?_⟩
 conv => whnf
 intro R
 conv => whnf
 refine ⟨6, ?_⟩
 conv => whnf
 repeat (first | (refine ⟨_, cUses, ?_⟩; (conv => whnf)) | (refine ⟨rfl, ?_⟩; (conv => whnf)))
 refine ⟨_, parsT [50] 2 (by kernel_rfl), ?_⟩
 conv => whnf
 refine .inl ⟨_, whlT 2 [(0, 2)] 1000 (by kernel_rfl), ?_⟩
 conv => whnf
 repeat (first | (refine ⟨_, cUses, ?_⟩; (conv => whnf)) | (refine ⟨rfl, ?_⟩; (conv => whnf)))
 refine ⟨_, sgnT [] [(0, 2)] 1000 6 8 1 [] (by kernel_rfl), rfl, ?_⟩
 conv => whnf
 refine ⟨_, ratT [(0, 2)] 2 (by kernel_rfl), ?_⟩
 conv => whnf
 refine ⟨_, rotT 2 0 false 1000 (by kernel_rfl), ?_⟩
 conv => whnf
 refine ⟨_, cInt (n := 1) (by omega) (by omega), ?_⟩
 conv => whnf
 refine ⟨_, _, witT [] 1 1 [(1, 1)] 1000 (by kernel_rfl), ?_⟩
 conv => whnf
 repeat (first | (refine ⟨_, cUses, ?_⟩; (conv => whnf)) | (refine ⟨rfl, ?_⟩; (conv => whnf)))
 rfl
set_option maxRecDepth 100000 in
set_option maxHeartbeats 8000000 in
theorem cO_m_5 : Cal Tryz.prog OQ 85 [lsA nstM, .c (wC [1, 1, 1, 1, 1, 1, 1, 1, 2, 3, 4]), iA 5] (.t [.c (.e [.sl 1 [[eC [(0, 3)]]], .mp false [1, 5] [[eC [(0, 3)]], [eC [(1, 1)]]], .mp false [1, 5] [bC true, bC false], .sl 1 [[.v (.int .i64 5)]]]), iA 0]) := by
 refine fn_callD [(7, [(0, 8), (1, 3), (4, 2000000)])] TK MX (H := HL Tryz.prog OQ TB FTo 3) (HL_ok TK MX FTo_ok 3) (nd := false) Tryz.func85 rfl (by kernel_rfl) (by kernel_rfl) (by kernel_rfl) rfl rfl ?_
 conv => whnf
 refine ⟨_, cN_m_5, ?_⟩
 conv => whnf
 intro R
 conv => whnf
 refine ⟨7, ?_⟩
 conv => whnf
 repeat (first | (refine ⟨_, cUses, ?_⟩; (conv => whnf)) | (refine ⟨rfl, ?_⟩; (conv => whnf)))
 refine ⟨_, parsT [51] 3 (by kernel_rfl), ?_⟩
 conv => whnf
 refine .inl ⟨_, whlT 3 [(0, 3)] 1000 (by kernel_rfl), ?_⟩
 conv => whnf
 repeat (first | (refine ⟨_, cUses, ?_⟩; (conv => whnf)) | (refine ⟨rfl, ?_⟩; (conv => whnf)))
 refine ⟨_, sgnT [] [(0, 3)] 1000 6 8 1 [] (by kernel_rfl), rfl, ?_⟩
 conv => whnf
 refine ⟨_, ratT [(0, 3)] 3 (by kernel_rfl), ?_⟩
 conv => whnf
 refine ⟨_, rotT 3 0 false 1000 (by kernel_rfl), ?_⟩
 conv => whnf
 refine ⟨_, cInt (n := 1) (by omega) (by omega), ?_⟩
 conv => whnf
 refine ⟨_, _, witT [] 1 1 [(1, 1)] 1000 (by kernel_rfl), ?_⟩
 conv => whnf
 repeat (first | (refine ⟨_, cUses, ?_⟩; (conv => whnf)) | (refine ⟨rfl, ?_⟩; (conv => whnf)))
 rfl
set_option maxRecDepth 100000 in
set_option maxHeartbeats 8000000 in
theorem cO_m_6 : Cal Tryz.prog OQ 85 [lsA nstM, .c (wC [1, 1, 1, 1, 1, 1, 1, 1, 2, 3, 4]), iA 6] (.t [.c (.e [.sl 1 [[eC [(0, 5)]]], .mp false [2, 6] [[eC [(0, 5)]], [eC [(1, 1)]]], .mp false [2, 6] [bC true, bC false], .sl 1 [[.v (.int .i64 6)]]]), iA 0]) := by
 refine fn_callD [(7, [(0, 8), (1, 3), (4, 2000000)])] TK MX (H := HL Tryz.prog OQ TB FTo 3) (HL_ok TK MX FTo_ok 3) (nd := false) Tryz.func85 rfl (by kernel_rfl) (by kernel_rfl) (by kernel_rfl) rfl rfl ?_
 conv => whnf
 refine ⟨_, cN_m_6, ?_⟩
 conv => whnf
 intro R
 conv => whnf
 refine ⟨8, ?_⟩
 conv => whnf
 repeat (first | (refine ⟨_, cUses, ?_⟩; (conv => whnf)) | (refine ⟨rfl, ?_⟩; (conv => whnf)))
 refine ⟨_, parsT [53] 5 (by kernel_rfl), ?_⟩
 conv => whnf
 refine .inl ⟨_, whlT 5 [(0, 5)] 1000 (by kernel_rfl), ?_⟩
 conv => whnf
 repeat (first | (refine ⟨_, cUses, ?_⟩; (conv => whnf)) | (refine ⟨rfl, ?_⟩; (conv => whnf)))
 refine ⟨_, sgnT [] [(0, 5)] 1000 6 8 1 [] (by kernel_rfl), rfl, ?_⟩
 conv => whnf
 refine ⟨_, ratT [(0, 5)] 5 (by kernel_rfl), ?_⟩
 conv => whnf
 refine ⟨_, rotT 5 0 false 1000 (by kernel_rfl), ?_⟩
 conv => whnf
 refine ⟨_, cInt (n := 1) (by omega) (by omega), ?_⟩
 conv => whnf
 refine ⟨_, _, witT [] 1 1 [(1, 1)] 1000 (by kernel_rfl), ?_⟩
 conv => whnf
 repeat (first | (refine ⟨_, cUses, ?_⟩; (conv => whnf)) | (refine ⟨rfl, ?_⟩; (conv => whnf)))
 rfl
set_option maxRecDepth 100000 in
set_option maxHeartbeats 8000000 in
theorem cO_m_7 : Cal Tryz.prog OQ 85 [lsA nstM, .c (wC [1, 1, 1, 1, 1, 1, 1, 1, 2, 3, 4]), iA 7] (.t [.c (.e [.sl 1 [[eC [(0, 7)]]], .mp false [3, 7] [[eC [(0, 7)]], [eC [(1, 1)]]], .mp false [3, 7] [bC true, bC false], .sl 1 [[.v (.int .i64 7)]]]), iA 0]) := by
 refine fn_callD [(7, [(0, 8), (1, 3), (4, 2000000)])] TK MX (H := HL Tryz.prog OQ TB FTo 3) (HL_ok TK MX FTo_ok 3) (nd := false) Tryz.func85 rfl (by kernel_rfl) (by kernel_rfl) (by kernel_rfl) rfl rfl ?_
 conv => whnf
 refine ⟨_, cN_m_7, ?_⟩
 conv => whnf
 intro R
 conv => whnf
 refine ⟨9, ?_⟩
 conv => whnf
 repeat (first | (refine ⟨_, cUses, ?_⟩; (conv => whnf)) | (refine ⟨rfl, ?_⟩; (conv => whnf)))
 refine ⟨_, parsT [55] 7 (by kernel_rfl), ?_⟩
 conv => whnf
 refine .inl ⟨_, whlT 7 [(0, 7)] 1000 (by kernel_rfl), ?_⟩
 conv => whnf
 repeat (first | (refine ⟨_, cUses, ?_⟩; (conv => whnf)) | (refine ⟨rfl, ?_⟩; (conv => whnf)))
 refine ⟨_, sgnT [] [(0, 7)] 1000 6 8 1 [] (by kernel_rfl), rfl, ?_⟩
 conv => whnf
 refine ⟨_, ratT [(0, 7)] 7 (by kernel_rfl), ?_⟩
 conv => whnf
 refine ⟨_, rotT 7 0 false 1000 (by kernel_rfl), ?_⟩
 conv => whnf
 refine ⟨_, cInt (n := 1) (by omega) (by omega), ?_⟩
 conv => whnf
 refine ⟨_, _, witT [] 1 1 [(1, 1)] 1000 (by kernel_rfl), ?_⟩
 conv => whnf
 repeat (first | (refine ⟨_, cUses, ?_⟩; (conv => whnf)) | (refine ⟨rfl, ?_⟩; (conv => whnf)))
 rfl
end Go.Proofs.YtajecapgmdfjcaaGreatDoor
