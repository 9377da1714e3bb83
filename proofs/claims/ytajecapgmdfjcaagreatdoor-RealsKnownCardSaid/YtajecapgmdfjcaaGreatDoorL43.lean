/- open. PRINTED by gen/em2.py. -/
import Derived.Test.YtajecapgmdfjcaaGreatDoorL41
namespace Go.Proofs.YtajecapgmdfjcaaGreatDoor
open Go.RowKit Vn
set_option maxRecDepth 100000 in
set_option maxHeartbeats 8000000 in
theorem cO_m_8 : Cal Tryz.prog OQ 85 [lsA nstM, .c (wC [1, 1, 1, 1, 1, 1, 1, 1, 2, 3, 4]), iA 8] (.t [.c (.e [.sl 1 [[eC [(0, 2)]], [eC [(0, 3)]]], .mp false [0, 1, 4, 5, 8] [[eC [(0, 2)]], [eC [(0, 3)]], [eC [(1, 1)]], [eC [(2, 1)]], [eC [(1, 1), (2, 1)]]], .mp false [0, 1, 4, 5, 8] [bC true, bC true, bC false, bC false, bC false], .sl 1 [[.v (.int .i64 4)], [.v (.int .i64 5)]]]), iA 0]) := by
 refine fn_callD [(7, [(0, 8), (1, 3), (4, 2000000)])] TK MX (H := HL Tryz.prog OQ TB FTo 3) (HL_ok TK MX FTo_ok 3) (nd := false) Tryz.func85 rfl (by kernel_rfl) (by kernel_rfl) (by kernel_rfl) rfl rfl ?_
 conv => whnf
 refine ⟨_, cN_m_8, ?_⟩
 conv => whnf
 intro R
 conv => whnf
 refine ⟨10, ?_⟩
 conv => whnf
 repeat (first | (refine ⟨_, cUses, ?_⟩; (conv => whnf)) | (refine ⟨rfl, ?_⟩; (conv => whnf)))
 refine ⟨_, parsT [50] 2 (by kernel_rfl), ?_⟩
 conv => whnf
 refine .inl ⟨_, whlT 2 [(0, 2)] 1000 (by kernel_rfl), ?_⟩
 conv => whnf
 repeat (first | (refine ⟨_, cUses, ?_⟩; (conv => whnf)) | (refine ⟨rfl, ?_⟩; (conv => whnf)))
 refine ⟨_, parsT [51] 3 (by kernel_rfl), ?_⟩
 conv => whnf
 refine .inl ⟨_, whlT 3 [(0, 3)] 1000 (by kernel_rfl), ?_⟩
 conv => whnf
 repeat (first | (refine ⟨_, cUses, ?_⟩; (conv => whnf)) | (refine ⟨rfl, ?_⟩; (conv => whnf)))
 refine ⟨_, sgnT [] [(0, 2)] 1000 6 8 1 [] (by kernel_rfl), rfl, ?_⟩
 conv => whnf
 refine ⟨_, ratT [(0, 2)] 2 (by kernel_rfl), ?_⟩
 conv => whnf
 refine ⟨_, rotT 2 0 false 1000 (by kernel_rfl), ?_⟩
 conv => whnf
 refine ⟨_, cInt (n := 1) (by omega) (by omega), ?_⟩
 conv => whnf
 refine ⟨_, _, witT [] 1 1 [(1, 1)] 1000 (by kernel_rfl), ?_⟩
 conv => whnf
 repeat (first | (refine ⟨_, cUses, ?_⟩; (conv => whnf)) | (refine ⟨rfl, ?_⟩; (conv => whnf)))
 refine ⟨_, sgnT [[(0, 2)]] [(0, 3)] 1000 6 8 1 [] (by kernel_rfl), rfl, ?_⟩
 conv => whnf
 refine ⟨_, ratT [(0, 3)] 3 (by kernel_rfl), ?_⟩
 conv => whnf
 refine ⟨_, rotT 3 0 false 1000 (by kernel_rfl), ?_⟩
 conv => whnf
 refine ⟨_, cInt (n := 1) (by omega) (by omega), ?_⟩
 conv => whnf
 refine ⟨_, _, witT [] 2 1 [(2, 1)] 1000 (by kernel_rfl), ?_⟩
 conv => whnf
 repeat (first | (refine ⟨_, cUses, ?_⟩; (conv => whnf)) | (refine ⟨rfl, ?_⟩; (conv => whnf)))
 refine .inl ⟨_, addT [(1, 1)] [(2, 1)] [(1, 1), (2, 1)] 1000 (by kernel_rfl), ?_⟩
 conv => whnf
 repeat (first | (refine ⟨_, cUses, ?_⟩; (conv => whnf)) | (refine ⟨rfl, ?_⟩; (conv => whnf)))
 rfl
set_option maxRecDepth 100000 in
set_option maxHeartbeats 8000000 in
theorem cO_m_9 : Cal Tryz.prog OQ 85 [lsA nstM, .c (wC [1, 1, 1, 1, 1, 1, 1, 1, 2, 3, 4]), iA 9] (.t [.c (.e [.sl 1 [[eC [(0, 2)]], [eC [(0, 3)]], [eC [(0, 5)]]], .mp false [0, 1, 2, 4, 5, 6, 8, 9] [[eC [(0, 2)]], [eC [(0, 3)]], [eC [(0, 5)]], [eC [(1, 1)]], [eC [(2, 1)]], [eC [(4, 1)]], [eC [(1, 1), (2, 1)]], [eC [(1, 1), (2, 1), (4, 1)]]], .mp false [0, 1, 2, 4, 5, 6, 8, 9] [bC true, bC true, bC true, bC false, bC false, bC false, bC false, bC false], .sl 1 [[.v (.int .i64 4)], [.v (.int .i64 5)], [.v (.int .i64 6)]]]), iA 0]) := by
 refine fn_callD [(7, [(0, 8), (1, 3), (4, 2000000)])] TK MX (H := HL Tryz.prog OQ TB FTo 3) (HL_ok TK MX FTo_ok 3) (nd := false) Tryz.func85 rfl (by kernel_rfl) (by kernel_rfl) (by kernel_rfl) rfl rfl ?_
 conv => whnf
 refine ⟨_, cN_m_9, ?_⟩
 conv => whnf
 intro R
 conv => whnf
 refine ⟨11, ?_⟩
 conv => whnf
 repeat (first | (refine ⟨_, cUses, ?_⟩; (conv => whnf)) | (refine ⟨rfl, ?_⟩; (conv => whnf)))
 refine ⟨_, parsT [50] 2 (by kernel_rfl), ?_⟩
 conv => whnf
 refine .inl ⟨_, whlT 2 [(0, 2)] 1000 (by kernel_rfl), ?_⟩
 conv => whnf
 repeat (first | (refine ⟨_, cUses, ?_⟩; (conv => whnf)) | (refine ⟨rfl, ?_⟩; (conv => whnf)))
 refine ⟨_, parsT [51] 3 (by kernel_rfl), ?_⟩
 conv => whnf
 refine .inl ⟨_, whlT 3 [(0, 3)] 1000 (by kernel_rfl), ?_⟩
 conv => whnf
 repeat (first | (refine ⟨_, cUses, ?_⟩; (conv => whnf)) | (refine ⟨rfl, ?_⟩; (conv => whnf)))
 refine ⟨_, parsT [53] 5 (by kernel_rfl), ?_⟩
 conv => whnf
 refine .inl ⟨_, whlT 5 [(0, 5)] 1000 (by kernel_rfl), ?_⟩
 conv => whnf
 repeat (first | (refine ⟨_, cUses, ?_⟩; (conv => whnf)) | (refine ⟨rfl, ?_⟩; (conv => whnf)))
 refine ⟨_, sgnT [] [(0, 2)] 1000 6 8 1 [] (by kernel_rfl), rfl, ?_⟩
 conv => whnf
 refine ⟨_, ratT [(0, 2)] 2 (by kernel_rfl), ?_⟩
 conv => whnf
 refine ⟨_, rotT 2 0 false 1000 (by kernel_rfl), ?_⟩
 conv => whnf
 refine ⟨_, cInt (n := 1) (by omega) (by omega), ?_⟩
 conv => whnf
 refine ⟨_, _, witT [] 1 1 [(1, 1)] 1000 (by kernel_rfl), ?_⟩
 conv => whnf
 repeat (first | (refine ⟨_, cUses, ?_⟩; (conv => whnf)) | (refine ⟨rfl, ?_⟩; (conv => whnf)))
 refine ⟨_, sgnT [[(0, 2)]] [(0, 3)] 1000 6 8 1 [] (by kernel_rfl), rfl, ?_⟩
 conv => whnf
 refine ⟨_, ratT [(0, 3)] 3 (by kernel_rfl), ?_⟩
 conv => whnf
 refine ⟨_, rotT 3 0 false 1000 (by kernel_rfl), ?_⟩
 conv => whnf
 refine ⟨_, cInt (n := 1) (by omega) (by omega), ?_⟩
 conv => whnf
 refine ⟨_, _, witT [] 2 1 [(2, 1)] 1000 (by kernel_rfl), ?_⟩
 conv => whnf
 repeat (first | (refine ⟨_, cUses, ?_⟩; (conv => whnf)) | (refine ⟨rfl, ?_⟩; (conv => whnf)))
 refine ⟨_, sgnT [[(0, 2)], [(0, 3)]] [(0, 5)] 1000 6 8 1 [] (by kernel_rfl), rfl, ?_⟩
 conv => whnf
 refine ⟨_, ratT [(0, 5)] 5 (by kernel_rfl), ?_⟩
 conv => whnf
 refine ⟨_, rotT 5 0 false 1000 (by kernel_rfl), ?_⟩
 conv => whnf
 refine ⟨_, cInt (n := 1) (by omega) (by omega), ?_⟩
 conv => whnf
 refine ⟨_, _, witT [] 4 1 [(4, 1)] 1000 (by kernel_rfl), ?_⟩
 conv => whnf
 repeat (first | (refine ⟨_, cUses, ?_⟩; (conv => whnf)) | (refine ⟨rfl, ?_⟩; (conv => whnf)))
 refine .inl ⟨_, addT [(1, 1)] [(2, 1)] [(1, 1), (2, 1)] 1000 (by kernel_rfl), ?_⟩
 conv => whnf
 repeat (first | (refine ⟨_, cUses, ?_⟩; (conv => whnf)) | (refine ⟨rfl, ?_⟩; (conv => whnf)))
 refine .inl ⟨_, addT [(1, 1), (2, 1)] [(4, 1)] [(1, 1), (2, 1), (4, 1)] 1000 (by kernel_rfl), ?_⟩
 conv => whnf
 repeat (first | (refine ⟨_, cUses, ?_⟩; (conv => whnf)) | (refine ⟨rfl, ?_⟩; (conv => whnf)))
 rfl
set_option maxRecDepth 100000 in
set_option maxHeartbeats 8000000 in
theorem cO_m_10 : Cal Tryz.prog OQ 85 [lsA nstM, .c (wC [1, 1, 1, 1, 1, 1, 1, 1, 2, 3, 4]), iA 10] (.t [.c (.v (.pointer none)), iA 3]) := by
 refine fn_callD [(7, [(0, 8), (1, 3), (4, 2000000)])] TK MX (H := HL Tryz.prog OQ TB FTo 3) (HL_ok TK MX FTo_ok 3) (nd := false) Tryz.func85 rfl (by kernel_rfl) (by kernel_rfl) (by kernel_rfl) rfl rfl ?_
 conv => whnf
 refine ⟨_, cN_m_10, ?_⟩
 conv => whnf
 intro R
 conv => whnf
 refine ⟨12, ?_⟩
 conv => whnf
 repeat (first | (refine ⟨_, cUses, ?_⟩; (conv => whnf)) | (refine ⟨rfl, ?_⟩; (conv => whnf)))
 refine ⟨_, parsT [50] 2 (by kernel_rfl), ?_⟩
 conv => whnf
 refine .inl ⟨_, whlT 2 [(0, 2)] 1000 (by kernel_rfl), ?_⟩
 conv => whnf
 repeat (first | (refine ⟨_, cUses, ?_⟩; (conv => whnf)) | (refine ⟨rfl, ?_⟩; (conv => whnf)))
 refine ⟨_, parsT [51] 3 (by kernel_rfl), ?_⟩
 conv => whnf
 refine .inl ⟨_, whlT 3 [(0, 3)] 1000 (by kernel_rfl), ?_⟩
 conv => whnf
 repeat (first | (refine ⟨_, cUses, ?_⟩; (conv => whnf)) | (refine ⟨rfl, ?_⟩; (conv => whnf)))
 refine ⟨_, parsT [53] 5 (by kernel_rfl), ?_⟩
 conv => whnf
 refine .inl ⟨_, whlT 5 [(0, 5)] 1000 (by kernel_rfl), ?_⟩
 conv => whnf
 repeat (first | (refine ⟨_, cUses, ?_⟩; (conv => whnf)) | (refine ⟨rfl, ?_⟩; (conv => whnf)))
 refine ⟨_, parsT [55] 7 (by kernel_rfl), ?_⟩
 conv => whnf
 refine .inl ⟨_, whlT 7 [(0, 7)] 1000 (by kernel_rfl), ?_⟩
 conv => whnf
 repeat (first | (refine ⟨_, cUses, ?_⟩; (conv => whnf)) | (refine ⟨rfl, ?_⟩; (conv => whnf)))
 refine ⟨_, sgnT [] [(0, 2)] 1000 6 8 1 [] (by kernel_rfl), rfl, ?_⟩
 conv => whnf
 refine ⟨_, ratT [(0, 2)] 2 (by kernel_rfl), ?_⟩
 conv => whnf
 refine ⟨_, rotT 2 0 false 1000 (by kernel_rfl), ?_⟩
 conv => whnf
 refine ⟨_, cInt (n := 1) (by omega) (by omega), ?_⟩
 conv => whnf
 refine ⟨_, _, witT [] 1 1 [(1, 1)] 1000 (by kernel_rfl), ?_⟩
 conv => whnf
 repeat (first | (refine ⟨_, cUses, ?_⟩; (conv => whnf)) | (refine ⟨rfl, ?_⟩; (conv => whnf)))
 refine ⟨_, sgnT [[(0, 2)]] [(0, 3)] 1000 6 8 1 [] (by kernel_rfl), rfl, ?_⟩
 conv => whnf
 refine ⟨_, ratT [(0, 3)] 3 (by kernel_rfl), ?_⟩
 conv => whnf
 refine ⟨_, rotT 3 0 false 1000 (by kernel_rfl), ?_⟩
 conv => whnf
 refine ⟨_, cInt (n := 1) (by omega) (by omega), ?_⟩
 conv => whnf
 refine ⟨_, _, witT [] 2 1 [(2, 1)] 1000 (by kernel_rfl), ?_⟩
 conv => whnf
 repeat (first | (refine ⟨_, cUses, ?_⟩; (conv => whnf)) | (refine ⟨rfl, ?_⟩; (conv => whnf)))
 refine ⟨_, sgnT [[(0, 2)], [(0, 3)]] [(0, 5)] 1000 6 8 1 [] (by kernel_rfl), rfl, ?_⟩
 conv => whnf
 refine ⟨_, ratT [(0, 5)] 5 (by kernel_rfl), ?_⟩
 conv => whnf
 refine ⟨_, rotT 5 0 false 1000 (by kernel_rfl), ?_⟩
 conv => whnf
 refine ⟨_, cInt (n := 1) (by omega) (by omega), ?_⟩
 conv => whnf
 refine ⟨_, _, witT [] 4 1 [(4, 1)] 1000 (by kernel_rfl), ?_⟩
 conv => whnf
 repeat (first | (refine ⟨_, cUses, ?_⟩; (conv => whnf)) | (refine ⟨rfl, ?_⟩; (conv => whnf)))
 refine ⟨_, sgnT [[(0, 2)], [(0, 3)], [(0, 5)]] [(0, 7)] 1000 6 8 1 [] (by kernel_rfl), rfl, ?_⟩
 conv => whnf
 refine ⟨_, ratT [(0, 7)] 7 (by kernel_rfl), ?_⟩
 conv => whnf
 refine ⟨_, rotT 7 0 false 1000 (by kernel_rfl), ?_⟩
 conv => whnf
 repeat (first | (refine ⟨_, cUses, ?_⟩; (conv => whnf)) | (refine ⟨rfl, ?_⟩; (conv => whnf)))
 rfl
end Go.Proofs.YtajecapgmdfjcaaGreatDoor
