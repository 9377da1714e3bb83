/- open, the second list. PRINTED by gen/sn.py. -/
import Derived.Test.YtajecapgmdfjcaaGreatDoorN44
namespace Go.Proofs.YtajecapgmdfjcaaGreatDoor
open Go.RowKit Vn
set_option maxRecDepth 100000 in
set_option maxHeartbeats 8000000 in
theorem cO_B_SNN {x0 x1 x2 : List UInt8} {q0 q1 q2 q3 r3 q4 r4 : Rat} {w0 w1 w2 w3 w4 w5 w6 w7 w8 w9 w10 w11 s3 : Int} {v0 v1 v2 v3 v5 v6 v7 v8 v10 v11 : El} {K : Nat}
  (g0 : decide (w0 > 2000) = false) (hp0 : parsB x0 q0 = true) (h0 : whlB K q0 v0 = true) (g1 : decide (w1 > 2000) = false) (hp1 : parsB x1 q1 = true) (h1 : whlB K q1 v1 = true) (g2 : decide (w2 > 2000) = false) (hp2 : parsB x2 q2 = true) (h2 : whlB K q2 v2 = true) (g3 : decide (w3 > 2000) = false) (e3 : sgnB K [] 6 8 v0 s3 = true) (f3 : decide (s3 < 0) = false) (a3 : getE v0 0 = q3) (o3 : rotB K q3 r3 true = true) (h3 : whlB K r3 v3 = true) (g4 : decide (w4 > 2000) = false) (e4 : sgnB K [] 6 8 v1 1 = true) (a4 : getE v1 0 = q4) (o4 : rotB K q4 r4 false = true) (g5 : decide (w5 > 2000) = false) (h5 : mulTB K [v1] 6 v3 [(1, 1)] v5 = true) (g6 : decide (w6 > 2000) = false) (h6 : addB K v5 v5 v6 = true) (g7 : decide (w7 > 2000) = false) (h7 : addB K v0 v2 v7 = true) (g8 : decide (w8 > 2000) = false) (h8 : addB K v7 v6 v8 = true) (g9 : decide (w9 > 2000) = false) (e9 : sgnB K [v1] 6 8 v8 1 = true) (g10 : decide (w10 > 2000) = false) (h10 : addB K v3 [(1, 1)] v10 = true) (g11 : decide (w11 > 2000) = false) (h11 : subB K [(2, 1)] v10 v11 = true) :
  Cal Tryz.prog OQ 85 [lsA (moreL x0 x1 x2), .c (wC [w0, w1, w2, w3, w4, w5, w6, w7, w8, w9, w10, w11]), iA 11] (.t [.c (.e [.sl 1 [[eC v1], [eC v8]], .mp false [0, 1, 2, 3, 4, 5, 6, 7, 8, 9, 10, 11] [[eC v0], [eC v1], [eC v2], [eC v3], [eC [(1, 1)]], [eC v5], [eC v6], [eC v7], [eC v8], [eC [(2, 1)]], [eC v10], [eC v11]], .mp false [0, 1, 2, 3, 4, 5, 6, 7, 8, 9, 10, 11] [bC true, bC true, bC true, bC true, bC false, bC false, bC false, bC true, bC false, bC false, bC false, bC false], .sl 1 [[.v (.int .i64 4)], [.v (.int .i64 9)]]]), iA 0]) := by
 refine fn_callD [(7, [(0, 8), (1, 3), (4, 2000000)])] TK MX (H := HL Tryz.prog OQ TB FTo 3) (HL_ok TK MX FTo_ok 3) (nd := false) Tryz.func85 rfl (by kernel_rfl) (by kernel_rfl) (by kernel_rfl) rfl rfl ?_
 conv => whnf
 refine ⟨_, cN_B, ?_⟩
 conv => whnf
 intro R
 conv => whnf
 refine ⟨13, ?_⟩
 conv => whnf
 repeat (first | (refine ⟨_, cUses, ?_⟩; (conv => whnf)) | (refine ⟨rfl, ?_⟩; (conv => whnf)))
 rw [g0]
 conv => whnf
 repeat (first | (refine ⟨_, cUses, ?_⟩; (conv => whnf)) | (refine ⟨rfl, ?_⟩; (conv => whnf)))
 refine ⟨_, parsT x0 q0 hp0, ?_⟩
 conv => whnf
 refine .inl ⟨_, whlT q0 v0 K h0, ?_⟩
 conv => whnf
 repeat (first | (refine ⟨_, cUses, ?_⟩; (conv => whnf)) | (refine ⟨rfl, ?_⟩; (conv => whnf)))
 rw [g1]
 conv => whnf
 repeat (first | (refine ⟨_, cUses, ?_⟩; (conv => whnf)) | (refine ⟨rfl, ?_⟩; (conv => whnf)))
 refine ⟨_, parsT x1 q1 hp1, ?_⟩
 conv => whnf
 refine .inl ⟨_, whlT q1 v1 K h1, ?_⟩
 conv => whnf
 repeat (first | (refine ⟨_, cUses, ?_⟩; (conv => whnf)) | (refine ⟨rfl, ?_⟩; (conv => whnf)))
 rw [g2]
 conv => whnf
 repeat (first | (refine ⟨_, cUses, ?_⟩; (conv => whnf)) | (refine ⟨rfl, ?_⟩; (conv => whnf)))
 refine ⟨_, parsT x2 q2 hp2, ?_⟩
 conv => whnf
 refine .inl ⟨_, whlT q2 v2 K h2, ?_⟩
 conv => whnf
 repeat (first | (refine ⟨_, cUses, ?_⟩; (conv => whnf)) | (refine ⟨rfl, ?_⟩; (conv => whnf)))
 rw [g3]
 conv => whnf
 repeat (first | (refine ⟨_, cUses, ?_⟩; (conv => whnf)) | (refine ⟨rfl, ?_⟩; (conv => whnf)))
 refine ⟨_, sgnT [] v0 K 6 8 s3 [] e3, rfl, ?_⟩
 conv => whnf
 rw [f3]
 conv => whnf
 refine ⟨_, ratT v0 q3 a3, ?_⟩
 conv => whnf
 refine ⟨_, rotT q3 r3 true K o3, ?_⟩
 conv => whnf
 refine .inl ⟨_, whlT r3 v3 K h3, ?_⟩
 conv => whnf
 repeat (first | (refine ⟨_, cUses, ?_⟩; (conv => whnf)) | (refine ⟨rfl, ?_⟩; (conv => whnf)))
 rw [g4]
 conv => whnf
 repeat (first | (refine ⟨_, cUses, ?_⟩; (conv => whnf)) | (refine ⟨rfl, ?_⟩; (conv => whnf)))
 refine ⟨_, sgnT [] v1 K 6 8 1 [] e4, rfl, ?_⟩
 conv => whnf
 refine ⟨_, ratT v1 q4 a4, ?_⟩
 conv => whnf
 refine ⟨_, rotT q4 r4 false K o4, ?_⟩
 conv => whnf
 refine ⟨_, cInt (n := 1) (by omega) (by omega), ?_⟩
 conv => whnf
 refine ⟨_, _, witT [] 1 1 [(1, 1)] 1000 (by kernel_rfl), ?_⟩
 conv => whnf
 repeat (first | (refine ⟨_, cUses, ?_⟩; (conv => whnf)) | (refine ⟨rfl, ?_⟩; (conv => whnf)))
 rw [g5]
 conv => whnf
 repeat (first | (refine ⟨_, cUses, ?_⟩; (conv => whnf)) | (refine ⟨rfl, ?_⟩; (conv => whnf)))
 refine ⟨_, mulT [v1] v3 [(1, 1)] v5 K 6 [] h5, flat_E _, ?_⟩
 conv => whnf
 repeat (first | (refine ⟨_, cUses, ?_⟩; (conv => whnf)) | (refine ⟨rfl, ?_⟩; (conv => whnf)))
 rw [g6]
 conv => whnf
 repeat (first | (refine ⟨_, cUses, ?_⟩; (conv => whnf)) | (refine ⟨rfl, ?_⟩; (conv => whnf)))
 refine .inl ⟨_, addT v5 v5 v6 K h6, ?_⟩
 conv => whnf
 repeat (first | (refine ⟨_, cUses, ?_⟩; (conv => whnf)) | (refine ⟨rfl, ?_⟩; (conv => whnf)))
 rw [g7]
 conv => whnf
 repeat (first | (refine ⟨_, cUses, ?_⟩; (conv => whnf)) | (refine ⟨rfl, ?_⟩; (conv => whnf)))
 refine .inl ⟨_, addT v0 v2 v7 K h7, ?_⟩
 conv => whnf
 repeat (first | (refine ⟨_, cUses, ?_⟩; (conv => whnf)) | (refine ⟨rfl, ?_⟩; (conv => whnf)))
 rw [g8]
 conv => whnf
 repeat (first | (refine ⟨_, cUses, ?_⟩; (conv => whnf)) | (refine ⟨rfl, ?_⟩; (conv => whnf)))
 refine .inl ⟨_, addT v7 v6 v8 K h8, ?_⟩
 conv => whnf
 repeat (first | (refine ⟨_, cUses, ?_⟩; (conv => whnf)) | (refine ⟨rfl, ?_⟩; (conv => whnf)))
 rw [g9]
 conv => whnf
 repeat (first | (refine ⟨_, cUses, ?_⟩; (conv => whnf)) | (refine ⟨rfl, ?_⟩; (conv => whnf)))
 refine ⟨_, sgnT [v1] v8 K 6 8 1 [] e9, rfl, ?_⟩
 conv => whnf
 refine ⟨_, cInt (n := 1) (by omega) (by omega), ?_⟩
 conv => whnf
 refine ⟨_, _, witT [] 2 1 [(2, 1)] 1000 (by kernel_rfl), ?_⟩
 conv => whnf
 repeat (first | (refine ⟨_, cUses, ?_⟩; (conv => whnf)) | (refine ⟨rfl, ?_⟩; (conv => whnf)))
 rw [g10]
 conv => whnf
 repeat (first | (refine ⟨_, cUses, ?_⟩; (conv => whnf)) | (refine ⟨rfl, ?_⟩; (conv => whnf)))
 refine .inl ⟨_, addT v3 [(1, 1)] v10 K h10, ?_⟩
 conv => whnf
 repeat (first | (refine ⟨_, cUses, ?_⟩; (conv => whnf)) | (refine ⟨rfl, ?_⟩; (conv => whnf)))
 rw [g11]
 conv => whnf
 repeat (first | (refine ⟨_, cUses, ?_⟩; (conv => whnf)) | (refine ⟨rfl, ?_⟩; (conv => whnf)))
 refine .inl ⟨_, subT [(2, 1)] v10 v11 K h11, ?_⟩
 conv => whnf
 repeat (first | (refine ⟨_, cUses, ?_⟩; (conv => whnf)) | (refine ⟨rfl, ?_⟩; (conv => whnf)))
 rfl
set_option maxRecDepth 100000 in
set_option maxHeartbeats 8000000 in
theorem cO_B_NSN {x0 x1 x2 : List UInt8} {q0 q1 q2 q3 r3 q4 r4 : Rat} {w0 w1 w2 w3 w4 w5 w6 w7 w8 w9 w10 w11 s4 : Int} {v0 v1 v2 v4 v5 v6 v7 v8 v10 v11 : El} {K : Nat}
  (g0 : decide (w0 > 2000) = false) (hp0 : parsB x0 q0 = true) (h0 : whlB K q0 v0 = true) (g1 : decide (w1 > 2000) = false) (hp1 : parsB x1 q1 = true) (h1 : whlB K q1 v1 = true) (g2 : decide (w2 > 2000) = false) (hp2 : parsB x2 q2 = true) (h2 : whlB K q2 v2 = true) (g3 : decide (w3 > 2000) = false) (e3 : sgnB K [] 6 8 v0 1 = true) (a3 : getE v0 0 = q3) (o3 : rotB K q3 r3 false = true) (g4 : decide (w4 > 2000) = false) (e4 : sgnB K [v0] 6 8 v1 s4 = true) (f4 : decide (s4 < 0) = false) (a4 : getE v1 0 = q4) (o4 : rotB K q4 r4 true = true) (h4 : whlB K r4 v4 = true) (g5 : decide (w5 > 2000) = false) (h5 : mulTB K [v0] 6 [(1, 1)] v4 v5 = true) (g6 : decide (w6 > 2000) = false) (h6 : addB K v5 v5 v6 = true) (g7 : decide (w7 > 2000) = false) (h7 : addB K v0 v2 v7 = true) (g8 : decide (w8 > 2000) = false) (h8 : addB K v7 v6 v8 = true) (g9 : decide (w9 > 2000) = false) (e9 : sgnB K [v0] 6 8 v8 1 = true) (g10 : decide (w10 > 2000) = false) (h10 : addB K [(1, 1)] v4 v10 = true) (g11 : decide (w11 > 2000) = false) (h11 : subB K [(2, 1)] v10 v11 = true) :
  Cal Tryz.prog OQ 85 [lsA (moreL x0 x1 x2), .c (wC [w0, w1, w2, w3, w4, w5, w6, w7, w8, w9, w10, w11]), iA 11] (.t [.c (.e [.sl 1 [[eC v0], [eC v8]], .mp false [0, 1, 2, 3, 4, 5, 6, 7, 8, 9, 10, 11] [[eC v0], [eC v1], [eC v2], [eC [(1, 1)]], [eC v4], [eC v5], [eC v6], [eC v7], [eC v8], [eC [(2, 1)]], [eC v10], [eC v11]], .mp false [0, 1, 2, 3, 4, 5, 6, 7, 8, 9, 10, 11] [bC true, bC true, bC true, bC false, bC true, bC false, bC false, bC true, bC false, bC false, bC false, bC false], .sl 1 [[.v (.int .i64 3)], [.v (.int .i64 9)]]]), iA 0]) := by
 refine fn_callD [(7, [(0, 8), (1, 3), (4, 2000000)])] TK MX (H := HL Tryz.prog OQ TB FTo 3) (HL_ok TK MX FTo_ok 3) (nd := false) Tryz.func85 rfl (by kernel_rfl) (by kernel_rfl) (by kernel_rfl) rfl rfl ?_
 conv => whnf
 refine ⟨_, cN_B, ?_⟩
 conv => whnf
 intro R
 conv => whnf
 refine ⟨13, ?_⟩
 conv => whnf
 repeat (first | (refine ⟨_, cUses, ?_⟩; (conv => whnf)) | (refine ⟨rfl, ?_⟩; (conv => whnf)))
 rw [g0]
 conv => whnf
 repeat (first | (refine ⟨_, cUses, ?_⟩; (conv => whnf)) | (refine ⟨rfl, ?_⟩; (conv => whnf)))
 refine ⟨_, parsT x0 q0 hp0, ?_⟩
 conv => whnf
 refine .inl ⟨_, whlT q0 v0 K h0, ?_⟩
 conv => whnf
 repeat (first | (refine ⟨_, cUses, ?_⟩; (conv => whnf)) | (refine ⟨rfl, ?_⟩; (conv => whnf)))
 rw [g1]
 conv => whnf
 repeat (first | (refine ⟨_, cUses, ?_⟩; (conv => whnf)) | (refine ⟨rfl, ?_⟩; (conv => whnf)))
 refine ⟨_, parsT x1 q1 hp1, ?_⟩
 conv => whnf
 refine .inl ⟨_, whlT q1 v1 K h1, ?_⟩
 conv => whnf
 repeat (first | (refine ⟨_, cUses, ?_⟩; (conv => whnf)) | (refine ⟨rfl, ?_⟩; (conv => whnf)))
 rw [g2]
 conv => whnf
 repeat (first | (refine ⟨_, cUses, ?_⟩; (conv => whnf)) | (refine ⟨rfl, ?_⟩; (conv => whnf)))
 refine ⟨_, parsT x2 q2 hp2, ?_⟩
 conv => whnf
 refine .inl ⟨_, whlT q2 v2 K h2, ?_⟩
 conv => whnf
 repeat (first | (refine ⟨_, cUses, ?_⟩; (conv => whnf)) | (refine ⟨rfl, ?_⟩; (conv => whnf)))
 rw [g3]
 conv => whnf
 repeat (first | (refine ⟨_, cUses, ?_⟩; (conv => whnf)) | (refine ⟨rfl, ?_⟩; (conv => whnf)))
 refine ⟨_, sgnT [] v0 K 6 8 1 [] e3, rfl, ?_⟩
 conv => whnf
 refine ⟨_, ratT v0 q3 a3, ?_⟩
 conv => whnf
 refine ⟨_, rotT q3 r3 false K o3, ?_⟩
 conv => whnf
 refine ⟨_, cInt (n := 1) (by omega) (by omega), ?_⟩
 conv => whnf
 refine ⟨_, _, witT [] 1 1 [(1, 1)] 1000 (by kernel_rfl), ?_⟩
 conv => whnf
 repeat (first | (refine ⟨_, cUses, ?_⟩; (conv => whnf)) | (refine ⟨rfl, ?_⟩; (conv => whnf)))
 rw [g4]
 conv => whnf
 repeat (first | (refine ⟨_, cUses, ?_⟩; (conv => whnf)) | (refine ⟨rfl, ?_⟩; (conv => whnf)))
 refine ⟨_, sgnT [v0] v1 K 6 8 s4 [] e4, rfl, ?_⟩
 conv => whnf
 rw [f4]
 conv => whnf
 refine ⟨_, ratT v1 q4 a4, ?_⟩
 conv => whnf
 refine ⟨_, rotT q4 r4 true K o4, ?_⟩
 conv => whnf
 refine .inl ⟨_, whlT r4 v4 K h4, ?_⟩
 conv => whnf
 repeat (first | (refine ⟨_, cUses, ?_⟩; (conv => whnf)) | (refine ⟨rfl, ?_⟩; (conv => whnf)))
 rw [g5]
 conv => whnf
 repeat (first | (refine ⟨_, cUses, ?_⟩; (conv => whnf)) | (refine ⟨rfl, ?_⟩; (conv => whnf)))
 refine ⟨_, mulT [v0] [(1, 1)] v4 v5 K 6 [] h5, flat_E _, ?_⟩
 conv => whnf
 repeat (first | (refine ⟨_, cUses, ?_⟩; (conv => whnf)) | (refine ⟨rfl, ?_⟩; (conv => whnf)))
 rw [g6]
 conv => whnf
 repeat (first | (refine ⟨_, cUses, ?_⟩; (conv => whnf)) | (refine ⟨rfl, ?_⟩; (conv => whnf)))
 refine .inl ⟨_, addT v5 v5 v6 K h6, ?_⟩
 conv => whnf
 repeat (first | (refine ⟨_, cUses, ?_⟩; (conv => whnf)) | (refine ⟨rfl, ?_⟩; (conv => whnf)))
 rw [g7]
 conv => whnf
 repeat (first | (refine ⟨_, cUses, ?_⟩; (conv => whnf)) | (refine ⟨rfl, ?_⟩; (conv => whnf)))
 refine .inl ⟨_, addT v0 v2 v7 K h7, ?_⟩
 conv => whnf
 repeat (first | (refine ⟨_, cUses, ?_⟩; (conv => whnf)) | (refine ⟨rfl, ?_⟩; (conv => whnf)))
 rw [g8]
 conv => whnf
 repeat (first | (refine ⟨_, cUses, ?_⟩; (conv => whnf)) | (refine ⟨rfl, ?_⟩; (conv => whnf)))
 refine .inl ⟨_, addT v7 v6 v8 K h8, ?_⟩
 conv => whnf
 repeat (first | (refine ⟨_, cUses, ?_⟩; (conv => whnf)) | (refine ⟨rfl, ?_⟩; (conv => whnf)))
 rw [g9]
 conv => whnf
 repeat (first | (refine ⟨_, cUses, ?_⟩; (conv => whnf)) | (refine ⟨rfl, ?_⟩; (conv => whnf)))
 refine ⟨_, sgnT [v0] v8 K 6 8 1 [] e9, rfl, ?_⟩
 conv => whnf
 refine ⟨_, cInt (n := 1) (by omega) (by omega), ?_⟩
 conv => whnf
 refine ⟨_, _, witT [] 2 1 [(2, 1)] 1000 (by kernel_rfl), ?_⟩
 conv => whnf
 repeat (first | (refine ⟨_, cUses, ?_⟩; (conv => whnf)) | (refine ⟨rfl, ?_⟩; (conv => whnf)))
 rw [g10]
 conv => whnf
 repeat (first | (refine ⟨_, cUses, ?_⟩; (conv => whnf)) | (refine ⟨rfl, ?_⟩; (conv => whnf)))
 refine .inl ⟨_, addT [(1, 1)] v4 v10 K h10, ?_⟩
 conv => whnf
 repeat (first | (refine ⟨_, cUses, ?_⟩; (conv => whnf)) | (refine ⟨rfl, ?_⟩; (conv => whnf)))
 rw [g11]
 conv => whnf
 repeat (first | (refine ⟨_, cUses, ?_⟩; (conv => whnf)) | (refine ⟨rfl, ?_⟩; (conv => whnf)))
 refine .inl ⟨_, subT [(2, 1)] v10 v11 K h11, ?_⟩
 conv => whnf
 repeat (first | (refine ⟨_, cUses, ?_⟩; (conv => whnf)) | (refine ⟨rfl, ?_⟩; (conv => whnf)))
 rfl
set_option maxRecDepth 100000 in
set_option maxHeartbeats 8000000 in
theorem cO_B_NNN {x0 x1 x2 : List UInt8} {q0 q1 q2 q3 r3 q4 r4 : Rat} {w0 w1 w2 w3 w4 w5 w6 w7 w8 w9 w10 w11 : Int} {v0 v1 v2 v5 v6 v7 v8 v10 v11 : El} {K : Nat}
  (g0 : decide (w0 > 2000) = false) (hp0 : parsB x0 q0 = true) (h0 : whlB K q0 v0 = true) (g1 : decide (w1 > 2000) = false) (hp1 : parsB x1 q1 = true) (h1 : whlB K q1 v1 = true) (g2 : decide (w2 > 2000) = false) (hp2 : parsB x2 q2 = true) (h2 : whlB K q2 v2 = true) (g3 : decide (w3 > 2000) = false) (e3 : sgnB K [] 6 8 v0 1 = true) (a3 : getE v0 0 = q3) (o3 : rotB K q3 r3 false = true) (g4 : decide (w4 > 2000) = false) (e4 : sgnB K [v0] 6 8 v1 1 = true) (a4 : getE v1 0 = q4) (o4 : rotB K q4 r4 false = true) (g5 : decide (w5 > 2000) = false) (h5 : mulTB K [v0, v1] 6 [(1, 1)] [(2, 1)] v5 = true) (g6 : decide (w6 > 2000) = false) (h6 : addB K v5 v5 v6 = true) (g7 : decide (w7 > 2000) = false) (h7 : addB K v0 v2 v7 = true) (g8 : decide (w8 > 2000) = false) (h8 : addB K v7 v6 v8 = true) (g9 : decide (w9 > 2000) = false) (e9 : sgnB K [v0, v1] 6 8 v8 1 = true) (g10 : decide (w10 > 2000) = false) (h10 : addB K [(1, 1)] [(2, 1)] v10 = true) (g11 : decide (w11 > 2000) = false) (h11 : subB K [(4, 1)] v10 v11 = true) :
  Cal Tryz.prog OQ 85 [lsA (moreL x0 x1 x2), .c (wC [w0, w1, w2, w3, w4, w5, w6, w7, w8, w9, w10, w11]), iA 11] (.t [.c (.e [.sl 1 [[eC v0], [eC v1], [eC v8]], .mp false [0, 1, 2, 3, 4, 5, 6, 7, 8, 9, 10, 11] [[eC v0], [eC v1], [eC v2], [eC [(1, 1)]], [eC [(2, 1)]], [eC v5], [eC v6], [eC v7], [eC v8], [eC [(4, 1)]], [eC v10], [eC v11]], .mp false [0, 1, 2, 3, 4, 5, 6, 7, 8, 9, 10, 11] [bC true, bC true, bC true, bC false, bC false, bC false, bC false, bC true, bC false, bC false, bC false, bC false], .sl 1 [[.v (.int .i64 3)], [.v (.int .i64 4)], [.v (.int .i64 9)]]]), iA 0]) := by
 refine fn_callD [(7, [(0, 8), (1, 3), (4, 2000000)])] TK MX (H := HL Tryz.prog OQ TB FTo 3) (HL_ok TK MX FTo_ok 3) (nd := false) Tryz.func85 rfl (by kernel_rfl) (by kernel_rfl) (by kernel_rfl) rfl rfl ?_
 conv => whnf
 refine ⟨_, cN_B, ?_⟩
 conv => whnf
 intro R
 conv => whnf
 refine ⟨13, ?_⟩
 conv => whnf
 repeat (first | (refine ⟨_, cUses, ?_⟩; (conv => whnf)) | (refine ⟨rfl, ?_⟩; (conv => whnf)))
 rw [g0]
 conv => whnf
 repeat (first | (refine ⟨_, cUses, ?_⟩; (conv => whnf)) | (refine ⟨rfl, ?_⟩; (conv => whnf)))
 refine ⟨_, parsT x0 q0 hp0, ?_⟩
 conv => whnf
 refine .inl ⟨_, whlT q0 v0 K h0, ?_⟩
 conv => whnf
 repeat (first | (refine ⟨_, cUses, ?_⟩; (conv => whnf)) | (refine ⟨rfl, ?_⟩; (conv => whnf)))
 rw [g1]
 conv => whnf
 repeat (first | (refine ⟨_, cUses, ?_⟩; (conv => whnf)) | (refine ⟨rfl, ?_⟩; (conv => whnf)))
 refine ⟨_, parsT x1 q1 hp1, ?_⟩
 conv => whnf
 refine .inl ⟨_, whlT q1 v1 K h1, ?_⟩
 conv => whnf
 repeat (first | (refine ⟨_, cUses, ?_⟩; (conv => whnf)) | (refine ⟨rfl, ?_⟩; (conv => whnf)))
 rw [g2]
 conv => whnf
 repeat (first | (refine ⟨_, cUses, ?_⟩; (conv => whnf)) | (refine ⟨rfl, ?_⟩; (conv => whnf)))
 refine ⟨_, parsT x2 q2 hp2, ?_⟩
 conv => whnf
 refine .inl ⟨_, whlT q2 v2 K h2, ?_⟩
 conv => whnf
 repeat (first | (refine ⟨_, cUses, ?_⟩; (conv => whnf)) | (refine ⟨rfl, ?_⟩; (conv => whnf)))
 rw [g3]
 conv => whnf
 repeat (first | (refine ⟨_, cUses, ?_⟩; (conv => whnf)) | (refine ⟨rfl, ?_⟩; (conv => whnf)))
 refine ⟨_, sgnT [] v0 K 6 8 1 [] e3, rfl, ?_⟩
 conv => whnf
 refine ⟨_, ratT v0 q3 a3, ?_⟩
 conv => whnf
 refine ⟨_, rotT q3 r3 false K o3, ?_⟩
 conv => whnf
 refine ⟨_, cInt (n := 1) (by omega) (by omega), ?_⟩
 conv => whnf
 refine ⟨_, _, witT [] 1 1 [(1, 1)] 1000 (by kernel_rfl), ?_⟩
 conv => whnf
 repeat (first | (refine ⟨_, cUses, ?_⟩; (conv => whnf)) | (refine ⟨rfl, ?_⟩; (conv => whnf)))
 rw [g4]
 conv => whnf
 repeat (first | (refine ⟨_, cUses, ?_⟩; (conv => whnf)) | (refine ⟨rfl, ?_⟩; (conv => whnf)))
 refine ⟨_, sgnT [v0] v1 K 6 8 1 [] e4, rfl, ?_⟩
 conv => whnf
 refine ⟨_, ratT v1 q4 a4, ?_⟩
 conv => whnf
 refine ⟨_, rotT q4 r4 false K o4, ?_⟩
 conv => whnf
 refine ⟨_, cInt (n := 1) (by omega) (by omega), ?_⟩
 conv => whnf
 refine ⟨_, _, witT [] 2 1 [(2, 1)] 1000 (by kernel_rfl), ?_⟩
 conv => whnf
 repeat (first | (refine ⟨_, cUses, ?_⟩; (conv => whnf)) | (refine ⟨rfl, ?_⟩; (conv => whnf)))
 rw [g5]
 conv => whnf
 repeat (first | (refine ⟨_, cUses, ?_⟩; (conv => whnf)) | (refine ⟨rfl, ?_⟩; (conv => whnf)))
 refine ⟨_, mulT [v0, v1] [(1, 1)] [(2, 1)] v5 K 6 [] h5, flat_E _, ?_⟩
 conv => whnf
 repeat (first | (refine ⟨_, cUses, ?_⟩; (conv => whnf)) | (refine ⟨rfl, ?_⟩; (conv => whnf)))
 rw [g6]
 conv => whnf
 repeat (first | (refine ⟨_, cUses, ?_⟩; (conv => whnf)) | (refine ⟨rfl, ?_⟩; (conv => whnf)))
 refine .inl ⟨_, addT v5 v5 v6 K h6, ?_⟩
 conv => whnf
 repeat (first | (refine ⟨_, cUses, ?_⟩; (conv => whnf)) | (refine ⟨rfl, ?_⟩; (conv => whnf)))
 rw [g7]
 conv => whnf
 repeat (first | (refine ⟨_, cUses, ?_⟩; (conv => whnf)) | (refine ⟨rfl, ?_⟩; (conv => whnf)))
 refine .inl ⟨_, addT v0 v2 v7 K h7, ?_⟩
 conv => whnf
 repeat (first | (refine ⟨_, cUses, ?_⟩; (conv => whnf)) | (refine ⟨rfl, ?_⟩; (conv => whnf)))
 rw [g8]
 conv => whnf
 repeat (first | (refine ⟨_, cUses, ?_⟩; (conv => whnf)) | (refine ⟨rfl, ?_⟩; (conv => whnf)))
 refine .inl ⟨_, addT v7 v6 v8 K h8, ?_⟩
 conv => whnf
 repeat (first | (refine ⟨_, cUses, ?_⟩; (conv => whnf)) | (refine ⟨rfl, ?_⟩; (conv => whnf)))
 rw [g9]
 conv => whnf
 repeat (first | (refine ⟨_, cUses, ?_⟩; (conv => whnf)) | (refine ⟨rfl, ?_⟩; (conv => whnf)))
 refine ⟨_, sgnT [v0, v1] v8 K 6 8 1 [] e9, rfl, ?_⟩
 conv => whnf
 refine ⟨_, cInt (n := 1) (by omega) (by omega), ?_⟩
 conv => whnf
 refine ⟨_, _, witT [] 4 1 [(4, 1)] 1000 (by kernel_rfl), ?_⟩
 conv => whnf
 repeat (first | (refine ⟨_, cUses, ?_⟩; (conv => whnf)) | (refine ⟨rfl, ?_⟩; (conv => whnf)))
 rw [g10]
 conv => whnf
 repeat (first | (refine ⟨_, cUses, ?_⟩; (conv => whnf)) | (refine ⟨rfl, ?_⟩; (conv => whnf)))
 refine .inl ⟨_, addT [(1, 1)] [(2, 1)] v10 K h10, ?_⟩
 conv => whnf
 repeat (first | (refine ⟨_, cUses, ?_⟩; (conv => whnf)) | (refine ⟨rfl, ?_⟩; (conv => whnf)))
 rw [g11]
 conv => whnf
 repeat (first | (refine ⟨_, cUses, ?_⟩; (conv => whnf)) | (refine ⟨rfl, ?_⟩; (conv => whnf)))
 refine .inl ⟨_, subT [(4, 1)] v10 v11 K h11, ?_⟩
 conv => whnf
 repeat (first | (refine ⟨_, cUses, ?_⟩; (conv => whnf)) | (refine ⟨rfl, ?_⟩; (conv => whnf)))
 rfl
end Go.Proofs.YtajecapgmdfjcaaGreatDoor
