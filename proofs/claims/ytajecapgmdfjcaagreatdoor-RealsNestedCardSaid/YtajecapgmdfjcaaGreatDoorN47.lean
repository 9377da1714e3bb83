/- Sign, over the first list. PRINTED by gen/sn.py. -/
import Derived.Test.YtajecapgmdfjcaaGreatDoorN45
import Derived.Test.YtajecapgmdfjcaaGreatDoorN46
namespace Go.Proofs.YtajecapgmdfjcaaGreatDoor
open Go.RowKit Vn
set_option maxRecDepth 100000 in
set_option maxHeartbeats 8000000 in
theorem cF_A_SSS {x0 x1 : List UInt8} {w0 w1 w2 w3 w4 w5 w6 w7 w8 w9 w10 : Int} {v0 v1 v2 v3 v4 v5 v6 v7 v8 v9 v10 : El} (hW : Cal Tryz.prog OQ 32 [lsA (nestL x0 x1)] (.c (wC [w0, w1, w2, w3, w4, w5, w6, w7, w8, w9, w10]))) (hO : Cal Tryz.prog OQ 85 [lsA (nestL x0 x1), .c (wC [w0, w1, w2, w3, w4, w5, w6, w7, w8, w9, w10]), iA 10] (.t [.c (.e [.v (.slice none 0 0), .mp false [0, 1, 2, 3, 4, 5, 6, 7, 8, 9, 10] [[eC v0], [eC v1], [eC v2], [eC v3], [eC v4], [eC v5], [eC v6], [eC v7], [eC v8], [eC v9], [eC v10]], .mp false [0, 1, 2, 3, 4, 5, 6, 7, 8, 9, 10] [bC true, bC true, bC true, bC true, bC true, bC true, bC true, bC true, bC true, bC true, bC true], .v (.slice none 0 0)]), iA 0])) : Cal Tryz.prog OQ 44 [lsA (nestL x0 x1), iA 10] (.t [.c (.e [.v (.slice none 0 0), .mp false [0, 1, 2, 3, 4, 5, 6, 7, 8, 9, 10] [[eC v0], [eC v1], [eC v2], [eC v3], [eC v4], [eC v5], [eC v6], [eC v7], [eC v8], [eC v9], [eC v10]], .mp false [0, 1, 2, 3, 4, 5, 6, 7, 8, 9, 10] [bC true, bC true, bC true, bC true, bC true, bC true, bC true, bC true, bC true, bC true, bC true], .v (.slice none 0 0)]), iA 0]) := by
 refine fn_callD [(18, [(6, 2000000), (8, 11), (10, 2000000)]), (23, [(0, 9)])] TK MX (H := HL Tryz.prog OQ TB FTo 3) (HL_ok TK MX FTo_ok 3) (nd := false) Tryz.func44 rfl (by kernel_rfl) (by kernel_rfl) (by kernel_rfl) rfl rfl ?_
 conv => whnf
 refine ⟨_, hW, ?_⟩
 conv => whnf
 refine ⟨_, hO, ?_⟩
 conv => whnf
 rfl
set_option maxRecDepth 100000 in
set_option maxHeartbeats 8000000 in
theorem cV_A_SSS {x0 x1 : List UInt8} {w0 w1 w2 w3 w4 w5 w6 w7 w8 w9 w10 : Int} {v0 v1 v2 v3 v4 v5 v6 v7 v8 v9 v10 : El} (hW : Cal Tryz.prog OQ 32 [lsA (nestL x0 x1)] (.c (wC [w0, w1, w2, w3, w4, w5, w6, w7, w8, w9, w10]))) (hO : Cal Tryz.prog OQ 85 [lsA (nestL x0 x1), .c (wC [w0, w1, w2, w3, w4, w5, w6, w7, w8, w9, w10]), iA 10] (.t [.c (.e [.v (.slice none 0 0), .mp false [0, 1, 2, 3, 4, 5, 6, 7, 8, 9, 10] [[eC v0], [eC v1], [eC v2], [eC v3], [eC v4], [eC v5], [eC v6], [eC v7], [eC v8], [eC v9], [eC v10]], .mp false [0, 1, 2, 3, 4, 5, 6, 7, 8, 9, 10] [bC true, bC true, bC true, bC true, bC true, bC true, bC true, bC true, bC true, bC true, bC true], .v (.slice none 0 0)]), iA 0])) (hl : ∀ x ∈ (nestL x0 x1), x.v.length ≤ 9223372036854775807) (hc : checkE (nestL x0 x1) = (0, 0)) : Cal Tryz.prog OQ 28 [lsA (nestL x0 x1), iA 10] (.t [.c (.e [.v (.slice none 0 0), .mp false [0, 1, 2, 3, 4, 5, 6, 7, 8, 9, 10] [[eC v0], [eC v1], [eC v2], [eC v3], [eC v4], [eC v5], [eC v6], [eC v7], [eC v8], [eC v9], [eC v10]], .mp false [0, 1, 2, 3, 4, 5, 6, 7, 8, 9, 10] [bC true, bC true, bC true, bC true, bC true, bC true, bC true, bC true, bC true, bC true, bC true], .v (.slice none 0 0)]), eA v10, iA 0]) := by
 refine fn_callB [(7, [(4, 2000000)])] TK MX Tryz.func28 rfl (by kernel_rfl) (by kernel_rfl) (by kernel_rfl) rfl rfl ?_
 conv => whnf
 refine ⟨_, cAsked1 (l := (nestL x0 x1)) hl hc (by decide) (by show _ < ((11 : Nat) : Int); decide), ?_⟩
 conv => whnf
 refine ⟨_, cF_A_SSS hW hO, ?_⟩
 conv => whnf
 rfl
set_option maxRecDepth 100000 in
set_option maxHeartbeats 8000000 in
theorem cS_A_SSS {x0 x1 : List UInt8} {w0 w1 w2 w3 w4 w5 w6 w7 w8 w9 w10 : Int} {v0 v1 v2 v3 v4 v5 v6 v7 v8 v9 v10 : El} (hW : Cal Tryz.prog OQ 32 [lsA (nestL x0 x1)] (.c (wC [w0, w1, w2, w3, w4, w5, w6, w7, w8, w9, w10]))) (hO : Cal Tryz.prog OQ 85 [lsA (nestL x0 x1), .c (wC [w0, w1, w2, w3, w4, w5, w6, w7, w8, w9, w10]), iA 10] (.t [.c (.e [.v (.slice none 0 0), .mp false [0, 1, 2, 3, 4, 5, 6, 7, 8, 9, 10] [[eC v0], [eC v1], [eC v2], [eC v3], [eC v4], [eC v5], [eC v6], [eC v7], [eC v8], [eC v9], [eC v10]], .mp false [0, 1, 2, 3, 4, 5, 6, 7, 8, 9, 10] [bC true, bC true, bC true, bC true, bC true, bC true, bC true, bC true, bC true, bC true, bC true], .v (.slice none 0 0)]), iA 0])) (hl : ∀ x ∈ (nestL x0 x1), x.v.length ≤ 9223372036854775807) (hc : checkE (nestL x0 x1) = (0, 0)) {K : Nat} {s : Int} (hs : sgnB K [] 6 8 v10 s = true) : Cal Tryz.prog OQ 12 [lsA (nestL x0 x1), iA 10] (.t [iA s, iA 0]) := by
 refine fn_call TK MX Tryz.func12 rfl (by kernel_rfl) (by kernel_rfl) (by kernel_rfl) rfl rfl ?_
 conv => whnf
 refine ⟨_, cV_A_SSS hW hO hl hc, ?_⟩
 conv => whnf
 refine ⟨_, sgnT [] v10 K 6 8 s _ hs, ?_⟩
 conv => whnf
 rfl
set_option maxRecDepth 100000 in
set_option maxHeartbeats 8000000 in
theorem cF_A_SNN {x0 x1 : List UInt8} {w0 w1 w2 w3 w4 w5 w6 w7 w8 w9 w10 : Int} {v0 v1 v2 v4 v5 v6 v7 v9 v10 : El} (hW : Cal Tryz.prog OQ 32 [lsA (nestL x0 x1)] (.c (wC [w0, w1, w2, w3, w4, w5, w6, w7, w8, w9, w10]))) (hO : Cal Tryz.prog OQ 85 [lsA (nestL x0 x1), .c (wC [w0, w1, w2, w3, w4, w5, w6, w7, w8, w9, w10]), iA 10] (.t [.c (.e [.sl 1 [[eC v1], [eC v7]], .mp false [0, 1, 2, 3, 4, 5, 6, 7, 8, 9, 10] [[eC v0], [eC v1], [eC v2], [eC [(1, 1)]], [eC v4], [eC v5], [eC v6], [eC v7], [eC [(2, 1)]], [eC v9], [eC v10]], .mp false [0, 1, 2, 3, 4, 5, 6, 7, 8, 9, 10] [bC true, bC true, bC true, bC false, bC false, bC false, bC true, bC false, bC false, bC false, bC false], .sl 1 [[.v (.int .i64 3)], [.v (.int .i64 8)]]]), iA 0])) : Cal Tryz.prog OQ 44 [lsA (nestL x0 x1), iA 10] (.t [.c (.e [.sl 1 [[eC v1], [eC v7]], .mp false [0, 1, 2, 3, 4, 5, 6, 7, 8, 9, 10] [[eC v0], [eC v1], [eC v2], [eC [(1, 1)]], [eC v4], [eC v5], [eC v6], [eC v7], [eC [(2, 1)]], [eC v9], [eC v10]], .mp false [0, 1, 2, 3, 4, 5, 6, 7, 8, 9, 10] [bC true, bC true, bC true, bC false, bC false, bC false, bC true, bC false, bC false, bC false, bC false], .sl 1 [[.v (.int .i64 3)], [.v (.int .i64 8)]]]), iA 0]) := by
 refine fn_callD [(18, [(6, 2000000), (8, 11), (10, 2000000)]), (23, [(0, 9)])] TK MX (H := HL Tryz.prog OQ TB FTo 3) (HL_ok TK MX FTo_ok 3) (nd := false) Tryz.func44 rfl (by kernel_rfl) (by kernel_rfl) (by kernel_rfl) rfl rfl ?_
 conv => whnf
 refine ⟨_, hW, ?_⟩
 conv => whnf
 refine ⟨_, hO, ?_⟩
 conv => whnf
 rfl
set_option maxRecDepth 100000 in
set_option maxHeartbeats 8000000 in
theorem cV_A_SNN {x0 x1 : List UInt8} {w0 w1 w2 w3 w4 w5 w6 w7 w8 w9 w10 : Int} {v0 v1 v2 v4 v5 v6 v7 v9 v10 : El} (hW : Cal Tryz.prog OQ 32 [lsA (nestL x0 x1)] (.c (wC [w0, w1, w2, w3, w4, w5, w6, w7, w8, w9, w10]))) (hO : Cal Tryz.prog OQ 85 [lsA (nestL x0 x1), .c (wC [w0, w1, w2, w3, w4, w5, w6, w7, w8, w9, w10]), iA 10] (.t [.c (.e [.sl 1 [[eC v1], [eC v7]], .mp false [0, 1, 2, 3, 4, 5, 6, 7, 8, 9, 10] [[eC v0], [eC v1], [eC v2], [eC [(1, 1)]], [eC v4], [eC v5], [eC v6], [eC v7], [eC [(2, 1)]], [eC v9], [eC v10]], .mp false [0, 1, 2, 3, 4, 5, 6, 7, 8, 9, 10] [bC true, bC true, bC true, bC false, bC false, bC false, bC true, bC false, bC false, bC false, bC false], .sl 1 [[.v (.int .i64 3)], [.v (.int .i64 8)]]]), iA 0])) (hl : ∀ x ∈ (nestL x0 x1), x.v.length ≤ 9223372036854775807) (hc : checkE (nestL x0 x1) = (0, 0)) : Cal Tryz.prog OQ 28 [lsA (nestL x0 x1), iA 10] (.t [.c (.e [.sl 1 [[eC v1], [eC v7]], .mp false [0, 1, 2, 3, 4, 5, 6, 7, 8, 9, 10] [[eC v0], [eC v1], [eC v2], [eC [(1, 1)]], [eC v4], [eC v5], [eC v6], [eC v7], [eC [(2, 1)]], [eC v9], [eC v10]], .mp false [0, 1, 2, 3, 4, 5, 6, 7, 8, 9, 10] [bC true, bC true, bC true, bC false, bC false, bC false, bC true, bC false, bC false, bC false, bC false], .sl 1 [[.v (.int .i64 3)], [.v (.int .i64 8)]]]), eA v10, iA 0]) := by
 refine fn_callB [(7, [(4, 2000000)])] TK MX Tryz.func28 rfl (by kernel_rfl) (by kernel_rfl) (by kernel_rfl) rfl rfl ?_
 conv => whnf
 refine ⟨_, cAsked1 (l := (nestL x0 x1)) hl hc (by decide) (by show _ < ((11 : Nat) : Int); decide), ?_⟩
 conv => whnf
 refine ⟨_, cF_A_SNN hW hO, ?_⟩
 conv => whnf
 rfl
set_option maxRecDepth 100000 in
set_option maxHeartbeats 8000000 in
theorem cS_A_SNN {x0 x1 : List UInt8} {w0 w1 w2 w3 w4 w5 w6 w7 w8 w9 w10 : Int} {v0 v1 v2 v4 v5 v6 v7 v9 v10 : El} (hW : Cal Tryz.prog OQ 32 [lsA (nestL x0 x1)] (.c (wC [w0, w1, w2, w3, w4, w5, w6, w7, w8, w9, w10]))) (hO : Cal Tryz.prog OQ 85 [lsA (nestL x0 x1), .c (wC [w0, w1, w2, w3, w4, w5, w6, w7, w8, w9, w10]), iA 10] (.t [.c (.e [.sl 1 [[eC v1], [eC v7]], .mp false [0, 1, 2, 3, 4, 5, 6, 7, 8, 9, 10] [[eC v0], [eC v1], [eC v2], [eC [(1, 1)]], [eC v4], [eC v5], [eC v6], [eC v7], [eC [(2, 1)]], [eC v9], [eC v10]], .mp false [0, 1, 2, 3, 4, 5, 6, 7, 8, 9, 10] [bC true, bC true, bC true, bC false, bC false, bC false, bC true, bC false, bC false, bC false, bC false], .sl 1 [[.v (.int .i64 3)], [.v (.int .i64 8)]]]), iA 0])) (hl : ∀ x ∈ (nestL x0 x1), x.v.length ≤ 9223372036854775807) (hc : checkE (nestL x0 x1) = (0, 0)) {K : Nat} {s : Int} (hs : sgnB K [v1, v7] 6 8 v10 s = true) : Cal Tryz.prog OQ 12 [lsA (nestL x0 x1), iA 10] (.t [iA s, iA 0]) := by
 refine fn_call TK MX Tryz.func12 rfl (by kernel_rfl) (by kernel_rfl) (by kernel_rfl) rfl rfl ?_
 conv => whnf
 refine ⟨_, cV_A_SNN hW hO hl hc, ?_⟩
 conv => whnf
 refine ⟨_, sgnT [v1, v7] v10 K 6 8 s _ hs, ?_⟩
 conv => whnf
 rfl
set_option maxRecDepth 100000 in
set_option maxHeartbeats 8000000 in
theorem cF_A_NSN {x0 x1 : List UInt8} {w0 w1 w2 w3 w4 w5 w6 w7 w8 w9 w10 : Int} {v0 v1 v3 v4 v5 v6 v7 v9 v10 : El} (hW : Cal Tryz.prog OQ 32 [lsA (nestL x0 x1)] (.c (wC [w0, w1, w2, w3, w4, w5, w6, w7, w8, w9, w10]))) (hO : Cal Tryz.prog OQ 85 [lsA (nestL x0 x1), .c (wC [w0, w1, w2, w3, w4, w5, w6, w7, w8, w9, w10]), iA 10] (.t [.c (.e [.sl 1 [[eC v0], [eC v7]], .mp false [0, 1, 2, 3, 4, 5, 6, 7, 8, 9, 10] [[eC v0], [eC v1], [eC [(1, 1)]], [eC v3], [eC v4], [eC v5], [eC v6], [eC v7], [eC [(2, 1)]], [eC v9], [eC v10]], .mp false [0, 1, 2, 3, 4, 5, 6, 7, 8, 9, 10] [bC true, bC true, bC false, bC true, bC false, bC false, bC true, bC false, bC false, bC false, bC false], .sl 1 [[.v (.int .i64 2)], [.v (.int .i64 8)]]]), iA 0])) : Cal Tryz.prog OQ 44 [lsA (nestL x0 x1), iA 10] (.t [.c (.e [.sl 1 [[eC v0], [eC v7]], .mp false [0, 1, 2, 3, 4, 5, 6, 7, 8, 9, 10] [[eC v0], [eC v1], [eC [(1, 1)]], [eC v3], [eC v4], [eC v5], [eC v6], [eC v7], [eC [(2, 1)]], [eC v9], [eC v10]], .mp false [0, 1, 2, 3, 4, 5, 6, 7, 8, 9, 10] [bC true, bC true, bC false, bC true, bC false, bC false, bC true, bC false, bC false, bC false, bC false], .sl 1 [[.v (.int .i64 2)], [.v (.int .i64 8)]]]), iA 0]) := by
 refine fn_callD [(18, [(6, 2000000), (8, 11), (10, 2000000)]), (23, [(0, 9)])] TK MX (H := HL Tryz.prog OQ TB FTo 3) (HL_ok TK MX FTo_ok 3) (nd := false) Tryz.func44 rfl (by kernel_rfl) (by kernel_rfl) (by kernel_rfl) rfl rfl ?_
 conv => whnf
 refine ⟨_, hW, ?_⟩
 conv => whnf
 refine ⟨_, hO, ?_⟩
 conv => whnf
 rfl
set_option maxRecDepth 100000 in
set_option maxHeartbeats 8000000 in
theorem cV_A_NSN {x0 x1 : List UInt8} {w0 w1 w2 w3 w4 w5 w6 w7 w8 w9 w10 : Int} {v0 v1 v3 v4 v5 v6 v7 v9 v10 : El} (hW : Cal Tryz.prog OQ 32 [lsA (nestL x0 x1)] (.c (wC [w0, w1, w2, w3, w4, w5, w6, w7, w8, w9, w10]))) (hO : Cal Tryz.prog OQ 85 [lsA (nestL x0 x1), .c (wC [w0, w1, w2, w3, w4, w5, w6, w7, w8, w9, w10]), iA 10] (.t [.c (.e [.sl 1 [[eC v0], [eC v7]], .mp false [0, 1, 2, 3, 4, 5, 6, 7, 8, 9, 10] [[eC v0], [eC v1], [eC [(1, 1)]], [eC v3], [eC v4], [eC v5], [eC v6], [eC v7], [eC [(2, 1)]], [eC v9], [eC v10]], .mp false [0, 1, 2, 3, 4, 5, 6, 7, 8, 9, 10] [bC true, bC true, bC false, bC true, bC false, bC false, bC true, bC false, bC false, bC false, bC false], .sl 1 [[.v (.int .i64 2)], [.v (.int .i64 8)]]]), iA 0])) (hl : ∀ x ∈ (nestL x0 x1), x.v.length ≤ 9223372036854775807) (hc : checkE (nestL x0 x1) = (0, 0)) : Cal Tryz.prog OQ 28 [lsA (nestL x0 x1), iA 10] (.t [.c (.e [.sl 1 [[eC v0], [eC v7]], .mp false [0, 1, 2, 3, 4, 5, 6, 7, 8, 9, 10] [[eC v0], [eC v1], [eC [(1, 1)]], [eC v3], [eC v4], [eC v5], [eC v6], [eC v7], [eC [(2, 1)]], [eC v9], [eC v10]], .mp false [0, 1, 2, 3, 4, 5, 6, 7, 8, 9, 10] [bC true, bC true, bC false, bC true, bC false, bC false, bC true, bC false, bC false, bC false, bC false], .sl 1 [[.v (.int .i64 2)], [.v (.int .i64 8)]]]), eA v10, iA 0]) := by
 refine fn_callB [(7, [(4, 2000000)])] TK MX Tryz.func28 rfl (by kernel_rfl) (by kernel_rfl) (by kernel_rfl) rfl rfl ?_
 conv => whnf
 refine ⟨_, cAsked1 (l := (nestL x0 x1)) hl hc (by decide) (by show _ < ((11 : Nat) : Int); decide), ?_⟩
 conv => whnf
 refine ⟨_, cF_A_NSN hW hO, ?_⟩
 conv => whnf
 rfl
set_option maxRecDepth 100000 in
set_option maxHeartbeats 8000000 in
theorem cS_A_NSN {x0 x1 : List UInt8} {w0 w1 w2 w3 w4 w5 w6 w7 w8 w9 w10 : Int} {v0 v1 v3 v4 v5 v6 v7 v9 v10 : El} (hW : Cal Tryz.prog OQ 32 [lsA (nestL x0 x1)] (.c (wC [w0, w1, w2, w3, w4, w5, w6, w7, w8, w9, w10]))) (hO : Cal Tryz.prog OQ 85 [lsA (nestL x0 x1), .c (wC [w0, w1, w2, w3, w4, w5, w6, w7, w8, w9, w10]), iA 10] (.t [.c (.e [.sl 1 [[eC v0], [eC v7]], .mp false [0, 1, 2, 3, 4, 5, 6, 7, 8, 9, 10] [[eC v0], [eC v1], [eC [(1, 1)]], [eC v3], [eC v4], [eC v5], [eC v6], [eC v7], [eC [(2, 1)]], [eC v9], [eC v10]], .mp false [0, 1, 2, 3, 4, 5, 6, 7, 8, 9, 10] [bC true, bC true, bC false, bC true, bC false, bC false, bC true, bC false, bC false, bC false, bC false], .sl 1 [[.v (.int .i64 2)], [.v (.int .i64 8)]]]), iA 0])) (hl : ∀ x ∈ (nestL x0 x1), x.v.length ≤ 9223372036854775807) (hc : checkE (nestL x0 x1) = (0, 0)) {K : Nat} {s : Int} (hs : sgnB K [v0, v7] 6 8 v10 s = true) : Cal Tryz.prog OQ 12 [lsA (nestL x0 x1), iA 10] (.t [iA s, iA 0]) := by
 refine fn_call TK MX Tryz.func12 rfl (by kernel_rfl) (by kernel_rfl) (by kernel_rfl) rfl rfl ?_
 conv => whnf
 refine ⟨_, cV_A_NSN hW hO hl hc, ?_⟩
 conv => whnf
 refine ⟨_, sgnT [v0, v7] v10 K 6 8 s _ hs, ?_⟩
 conv => whnf
 rfl
set_option maxRecDepth 100000 in
set_option maxHeartbeats 8000000 in
theorem cF_A_NNN {x0 x1 : List UInt8} {w0 w1 w2 w3 w4 w5 w6 w7 w8 w9 w10 : Int} {v0 v1 v4 v5 v6 v7 v9 v10 : El} (hW : Cal Tryz.prog OQ 32 [lsA (nestL x0 x1)] (.c (wC [w0, w1, w2, w3, w4, w5, w6, w7, w8, w9, w10]))) (hO : Cal Tryz.prog OQ 85 [lsA (nestL x0 x1), .c (wC [w0, w1, w2, w3, w4, w5, w6, w7, w8, w9, w10]), iA 10] (.t [.c (.e [.sl 1 [[eC v0], [eC v1], [eC v7]], .mp false [0, 1, 2, 3, 4, 5, 6, 7, 8, 9, 10] [[eC v0], [eC v1], [eC [(1, 1)]], [eC [(2, 1)]], [eC v4], [eC v5], [eC v6], [eC v7], [eC [(4, 1)]], [eC v9], [eC v10]], .mp false [0, 1, 2, 3, 4, 5, 6, 7, 8, 9, 10] [bC true, bC true, bC false, bC false, bC false, bC false, bC true, bC false, bC false, bC false, bC false], .sl 1 [[.v (.int .i64 2)], [.v (.int .i64 3)], [.v (.int .i64 8)]]]), iA 0])) : Cal Tryz.prog OQ 44 [lsA (nestL x0 x1), iA 10] (.t [.c (.e [.sl 1 [[eC v0], [eC v1], [eC v7]], .mp false [0, 1, 2, 3, 4, 5, 6, 7, 8, 9, 10] [[eC v0], [eC v1], [eC [(1, 1)]], [eC [(2, 1)]], [eC v4], [eC v5], [eC v6], [eC v7], [eC [(4, 1)]], [eC v9], [eC v10]], .mp false [0, 1, 2, 3, 4, 5, 6, 7, 8, 9, 10] [bC true, bC true, bC false, bC false, bC false, bC false, bC true, bC false, bC false, bC false, bC false], .sl 1 [[.v (.int .i64 2)], [.v (.int .i64 3)], [.v (.int .i64 8)]]]), iA 0]) := by
 refine fn_callD [(18, [(6, 2000000), (8, 11), (10, 2000000)]), (23, [(0, 9)])] TK MX (H := HL Tryz.prog OQ TB FTo 3) (HL_ok TK MX FTo_ok 3) (nd := false) Tryz.func44 rfl (by kernel_rfl) (by kernel_rfl) (by kernel_rfl) rfl rfl ?_
 conv => whnf
 refine ⟨_, hW, ?_⟩
 conv => whnf
 refine ⟨_, hO, ?_⟩
 conv => whnf
 rfl
set_option maxRecDepth 100000 in
set_option maxHeartbeats 8000000 in
theorem cV_A_NNN {x0 x1 : List UInt8} {w0 w1 w2 w3 w4 w5 w6 w7 w8 w9 w10 : Int} {v0 v1 v4 v5 v6 v7 v9 v10 : El} (hW : Cal Tryz.prog OQ 32 [lsA (nestL x0 x1)] (.c (wC [w0, w1, w2, w3, w4, w5, w6, w7, w8, w9, w10]))) (hO : Cal Tryz.prog OQ 85 [lsA (nestL x0 x1), .c (wC [w0, w1, w2, w3, w4, w5, w6, w7, w8, w9, w10]), iA 10] (.t [.c (.e [.sl 1 [[eC v0], [eC v1], [eC v7]], .mp false [0, 1, 2, 3, 4, 5, 6, 7, 8, 9, 10] [[eC v0], [eC v1], [eC [(1, 1)]], [eC [(2, 1)]], [eC v4], [eC v5], [eC v6], [eC v7], [eC [(4, 1)]], [eC v9], [eC v10]], .mp false [0, 1, 2, 3, 4, 5, 6, 7, 8, 9, 10] [bC true, bC true, bC false, bC false, bC false, bC false, bC true, bC false, bC false, bC false, bC false], .sl 1 [[.v (.int .i64 2)], [.v (.int .i64 3)], [.v (.int .i64 8)]]]), iA 0])) (hl : ∀ x ∈ (nestL x0 x1), x.v.length ≤ 9223372036854775807) (hc : checkE (nestL x0 x1) = (0, 0)) : Cal Tryz.prog OQ 28 [lsA (nestL x0 x1), iA 10] (.t [.c (.e [.sl 1 [[eC v0], [eC v1], [eC v7]], .mp false [0, 1, 2, 3, 4, 5, 6, 7, 8, 9, 10] [[eC v0], [eC v1], [eC [(1, 1)]], [eC [(2, 1)]], [eC v4], [eC v5], [eC v6], [eC v7], [eC [(4, 1)]], [eC v9], [eC v10]], .mp false [0, 1, 2, 3, 4, 5, 6, 7, 8, 9, 10] [bC true, bC true, bC false, bC false, bC false, bC false, bC true, bC false, bC false, bC false, bC false], .sl 1 [[.v (.int .i64 2)], [.v (.int .i64 3)], [.v (.int .i64 8)]]]), eA v10, iA 0]) := by
 refine fn_callB [(7, [(4, 2000000)])] TK MX Tryz.func28 rfl (by kernel_rfl) (by kernel_rfl) (by kernel_rfl) rfl rfl ?_
 conv => whnf
 refine ⟨_, cAsked1 (l := (nestL x0 x1)) hl hc (by decide) (by show _ < ((11 : Nat) : Int); decide), ?_⟩
 conv => whnf
 refine ⟨_, cF_A_NNN hW hO, ?_⟩
 conv => whnf
 rfl
set_option maxRecDepth 100000 in
set_option maxHeartbeats 8000000 in
theorem cS_A_NNN {x0 x1 : List UInt8} {w0 w1 w2 w3 w4 w5 w6 w7 w8 w9 w10 : Int} {v0 v1 v4 v5 v6 v7 v9 v10 : El} (hW : Cal Tryz.prog OQ 32 [lsA (nestL x0 x1)] (.c (wC [w0, w1, w2, w3, w4, w5, w6, w7, w8, w9, w10]))) (hO : Cal Tryz.prog OQ 85 [lsA (nestL x0 x1), .c (wC [w0, w1, w2, w3, w4, w5, w6, w7, w8, w9, w10]), iA 10] (.t [.c (.e [.sl 1 [[eC v0], [eC v1], [eC v7]], .mp false [0, 1, 2, 3, 4, 5, 6, 7, 8, 9, 10] [[eC v0], [eC v1], [eC [(1, 1)]], [eC [(2, 1)]], [eC v4], [eC v5], [eC v6], [eC v7], [eC [(4, 1)]], [eC v9], [eC v10]], .mp false [0, 1, 2, 3, 4, 5, 6, 7, 8, 9, 10] [bC true, bC true, bC false, bC false, bC false, bC false, bC true, bC false, bC false, bC false, bC false], .sl 1 [[.v (.int .i64 2)], [.v (.int .i64 3)], [.v (.int .i64 8)]]]), iA 0])) (hl : ∀ x ∈ (nestL x0 x1), x.v.length ≤ 9223372036854775807) (hc : checkE (nestL x0 x1) = (0, 0)) {K : Nat} {s : Int} (hs : sgnB K [v0, v1, v7] 6 8 v10 s = true) : Cal Tryz.prog OQ 12 [lsA (nestL x0 x1), iA 10] (.t [iA s, iA 0]) := by
 refine fn_call TK MX Tryz.func12 rfl (by kernel_rfl) (by kernel_rfl) (by kernel_rfl) rfl rfl ?_
 conv => whnf
 refine ⟨_, cV_A_NNN hW hO hl hc, ?_⟩
 conv => whnf
 refine ⟨_, sgnT [v0, v1, v7] v10 K 6 8 s _ hs, ?_⟩
 conv => whnf
 rfl
end Go.Proofs.YtajecapgmdfjcaaGreatDoor

/- Sign of the first list. PRINTED by gen/sn2.py. -/
namespace Go.Proofs.YtajecapgmdfjcaaGreatDoor
open Go.RowKit Vn
set_option maxRecDepth 100000 in
set_option maxHeartbeats 8000000 in
theorem sS_A_NNN {x0 x1 : List UInt8} {q0 q1 : Rat} {d0 d1 : Int} (hp0 : parsB x0 q0 = true) (hd0 : digB 1000 q0 d0 = true) (b0 : 0 ≤ d0 ∧ d0 ≤ 10) (hp1 : parsB x1 q1 = true) (hd1 : digB 1000 q1 d1 = true) (b1 : 0 ≤ d1 ∧ d1 ≤ 10) (hl : ∀ x ∈ (nestL x0 x1), x.v.length ≤ 9223372036854775807) (hk : checkE (nestL x0 x1) = (0, 0)) (o0 : rotB 1000 q0 0 false = true) (pq0 : Rg 20 q0) (m0 : SmQ 25 q0) (o1 : rotB 1000 q1 0 false = true) (pq1 : Rg 20 q1) (m1 : SmQ 25 q1) (ps : Rg 22 (q0 + q1)) (ms : SmQ 25 (q0 + q1)) : Cal Tryz.prog OQ 12 [lsA (nestL x0 x1), iA 10] (.t [iA 0, iA 0]) := by
 have zq0 : ¬ q0 = 0 := by have := pq0.pos; grind
 have k0 := smq m0 (show 25 ≤ 1000 by decide)
 have zq1 : ¬ q1 = 0 := by have := pq1.pos; grind
 have k1 := smq m1 (show 25 ≤ 1000 by decide)
 have zs : ¬ (q0 + q1) = 0 := by have := ps.pos; grind
 have ks := smq ms (show 25 ≤ 1000 by decide)
 obtain ⟨hs, -, -, h8⟩ := sign_A (d := 0) pq0 pq1 ps m0 m1 ms (by grind) Rat.le_refl
 rw [if_pos rfl] at hs
 have hW := cW_A hp0 hd0 b0 hp1 hd1 b1
 exact cS_A_NNN hW (cO_A_NNN (K := 1000) (hp0 := hp0) (hp1 := hp1) (g0 := (decide_eq_false (by omega))) (g1 := (decide_eq_false (by omega))) (g2 := (decide_eq_false (by omega))) (g3 := (decide_eq_false (by omega))) (g4 := (decide_eq_false (by omega))) (g5 := (decide_eq_false (by omega))) (g6 := (decide_eq_false (by omega))) (g7 := (decide_eq_false (by omega))) (g8 := (decide_eq_false (by omega))) (g9 := (decide_eq_false (by omega))) (g10 := (decide_eq_false (by omega))) (h0 := (v_w q0 zq0 k0)) (a2 := rfl) (o2 := o0) (h1 := (v_w q1 zq1 k1)) (a3 := rfl) (o3 := o1) (e2 := (sgn_num tow_0 pq0.pos)) (e3 := (sgn_num (tow_1 pq0 m0).1 pq1.pos)) (h4 := (v_mab q0 q1 zq0 zq1)) (h5 := v_33) (h6 := (v_pq q0 q1 zq0 zq1 zs k0 k1)) (h7 := (v_p3 _ zs ks)) (e8 := h8) (h9 := v_12) (h10 := v_s4)) hl hk hs
set_option maxRecDepth 100000 in
set_option maxHeartbeats 8000000 in
theorem sS_A_SNN {x0 x1 : List UInt8} {q0 q1 r : Rat} {d0 d1 : Int} (hp0 : parsB x0 q0 = true) (hd0 : digB 1000 q0 d0 = true) (b0 : 0 ≤ d0 ∧ d0 ≤ 10) (hp1 : parsB x1 q1 = true) (hd1 : digB 1000 q1 d1 = true) (b1 : 0 ≤ d1 ∧ d1 ≤ 10) (hl : ∀ x ∈ (nestL x0 x1), x.v.length ≤ 9223372036854775807) (hk : checkE (nestL x0 x1) = (0, 0)) (o0 : rotB 1000 q0 r true = true) (e0 : q0 = r * r) (pr : Rg 10 r) (mr : SmQ 25 r) (m0 : SmQ 25 q0) (o1 : rotB 1000 q1 0 false = true) (pq1 : Rg 20 q1) (m1 : SmQ 25 q1) (ps : Rg 22 (q0 + q1)) (ms : SmQ 25 (q0 + q1)) : Cal Tryz.prog OQ 12 [lsA (nestL x0 x1), iA 10] (.t [iA 0, iA 0]) := by
 have zr : ¬ r = 0 := by have := pr.pos; grind
 have zrr : 0 < r * r := Rat.mul_pos pr.pos pr.pos
 have zr2 : ¬ r + r = 0 := by have := pr.pos; grind
 have znr : ¬ -r = 0 := by have := pr.pos; grind
 have zq0 : ¬ q0 = 0 := by grind
 have kr := smq mr (show 25 ≤ 1000 by decide)
 have kr2 := smq (mr.add mr) (show 25 + 25 + 1 ≤ 1000 by decide)
 have k0 := smq m0 (show 25 ≤ 1000 by decide)
 have zq1 : ¬ q1 = 0 := by have := pq1.pos; grind
 have k1 := smq m1 (show 25 ≤ 1000 by decide)
 have zs : ¬ (q0 + q1) = 0 := by have := ps.pos; grind
 have ks := smq ms (show 25 ≤ 1000 by decide)
 obtain ⟨hs, h8⟩ := sign_B (d := 0) pq1 pr ps m1 mr ms (by grind) Rat.le_refl
 rw [if_pos rfl] at hs
 have hW := cW_A hp0 hd0 b0 hp1 hd1 b1
 exact cS_A_SNN hW (cO_A_SNN (K := 1000) (hp0 := hp0) (hp1 := hp1) (g0 := (decide_eq_false (by omega))) (g1 := (decide_eq_false (by omega))) (g2 := (decide_eq_false (by omega))) (g3 := (decide_eq_false (by omega))) (g4 := (decide_eq_false (by omega))) (g5 := (decide_eq_false (by omega))) (g6 := (decide_eq_false (by omega))) (g7 := (decide_eq_false (by omega))) (g8 := (decide_eq_false (by omega))) (g9 := (decide_eq_false (by omega))) (g10 := (decide_eq_false (by omega))) (h0 := (v_w q0 zq0 k0)) (a2 := rfl) (o2 := o0) (f2 := (by decide)) (h2 := (v_w r zr kr)) (h1 := (v_w q1 zq1 k1)) (a3 := rfl) (o3 := o1) (e3 := (sgn_num tow_0 pq1.pos)) (e2 := (sgn_num tow_0 (by grind))) (h4 := (v_mra q1 r zq1 zr kr)) (h5 := (v_rr r zr zr2 kr)) (h6 := (v_pq q0 q1 zq0 zq1 zs k0 k1)) (h7 := (v_p1 _ _ zs zr2 ks kr2)) (e8 := h8) (h9 := (v_r1 r zr kr)) (h10 := (v_s2 r zr znr kr))) hl hk hs
set_option maxRecDepth 100000 in
set_option maxHeartbeats 8000000 in
theorem sS_A_SNNz {x0 x1 : List UInt8} {q0 q1 : Rat} {d0 d1 : Int} (hp0 : parsB x0 q0 = true) (hd0 : digB 1000 q0 d0 = true) (b0 : 0 ≤ d0 ∧ d0 ≤ 10) (hp1 : parsB x1 q1 = true) (hd1 : digB 1000 q1 d1 = true) (b1 : 0 ≤ d1 ∧ d1 ≤ 10) (hl : ∀ x ∈ (nestL x0 x1), x.v.length ≤ 9223372036854775807) (hk : checkE (nestL x0 x1) = (0, 0)) (e0 : q0 = 0) (o1 : rotB 1000 q1 0 false = true) (pq1 : Rg 20 q1) (m1 : SmQ 25 q1) : Cal Tryz.prog OQ 12 [lsA (nestL x0 x1), iA 10] (.t [iA 0, iA 0]) := by
 subst e0
 have zq1 : ¬ q1 = 0 := by have := pq1.pos; grind
 have k1 := smq m1 (show 25 ≤ 1000 by decide)
 have zs : ¬ q1 = 0 := by have := pq1.pos; grind
 have ks := smq m1 (show 25 ≤ 1000 by decide)
 have hs := sign_Z (d := 0) pq1 pq1 m1 m1 (by grind) Rat.le_refl
 rw [if_pos rfl] at hs
 have hW := cW_A hp0 hd0 b0 hp1 hd1 b1
 exact cS_A_SNN hW (cO_A_SNN (K := 1000) (hp0 := hp0) (hp1 := hp1) (g0 := (decide_eq_false (by omega))) (g1 := (decide_eq_false (by omega))) (g2 := (decide_eq_false (by omega))) (g3 := (decide_eq_false (by omega))) (g4 := (decide_eq_false (by omega))) (g5 := (decide_eq_false (by omega))) (g6 := (decide_eq_false (by omega))) (g7 := (decide_eq_false (by omega))) (g8 := (decide_eq_false (by omega))) (g9 := (decide_eq_false (by omega))) (g10 := (decide_eq_false (by omega))) (h0 := v_w0) (a2 := rfl) (o2 := (rot_S (r := 0) (by decide))) (f2 := (by decide)) (h2 := v_w0) (h1 := (v_w q1 zq1 k1)) (a3 := rfl) (o3 := o1) (e3 := (sgn_num tow_0 pq1.pos)) (e2 := (sgn_nil tow_0)) (h4 := (v_mza q1 zq1)) (h5 := v_00) (h6 := (v_zq q1 zq1 k1)) (h7 := (v_pz _ zs ks)) (e8 := (sgn_num (tow_1 pq1 m1).1 pq1.pos)) (h9 := v_z1) (h10 := v_s1)) hl hk hs
set_option maxRecDepth 100000 in
set_option maxHeartbeats 8000000 in
theorem sS_A_NSN {x0 x1 : List UInt8} {q0 q1 r : Rat} {d0 d1 : Int} (hp0 : parsB x0 q0 = true) (hd0 : digB 1000 q0 d0 = true) (b0 : 0 ≤ d0 ∧ d0 ≤ 10) (hp1 : parsB x1 q1 = true) (hd1 : digB 1000 q1 d1 = true) (b1 : 0 ≤ d1 ∧ d1 ≤ 10) (hl : ∀ x ∈ (nestL x0 x1), x.v.length ≤ 9223372036854775807) (hk : checkE (nestL x0 x1) = (0, 0)) (o0 : rotB 1000 q0 0 false = true) (pq0 : Rg 20 q0) (m0 : SmQ 25 q0) (o1 : rotB 1000 q1 r true = true) (e1 : q1 = r * r) (pr : Rg 10 r) (mr : SmQ 25 r) (m1 : SmQ 25 q1) (ps : Rg 22 (q0 + q1)) (ms : SmQ 25 (q0 + q1)) : Cal Tryz.prog OQ 12 [lsA (nestL x0 x1), iA 10] (.t [iA 0, iA 0]) := by
 have zq0 : ¬ q0 = 0 := by have := pq0.pos; grind
 have k0 := smq m0 (show 25 ≤ 1000 by decide)
 have zr : ¬ r = 0 := by have := pr.pos; grind
 have zrr : 0 < r * r := Rat.mul_pos pr.pos pr.pos
 have zr2 : ¬ r + r = 0 := by have := pr.pos; grind
 have znr : ¬ -r = 0 := by have := pr.pos; grind
 have zq1 : ¬ q1 = 0 := by grind
 have kr := smq mr (show 25 ≤ 1000 by decide)
 have kr2 := smq (mr.add mr) (show 25 + 25 + 1 ≤ 1000 by decide)
 have k1 := smq m1 (show 25 ≤ 1000 by decide)
 have zs : ¬ (q0 + q1) = 0 := by have := ps.pos; grind
 have ks := smq ms (show 25 ≤ 1000 by decide)
 obtain ⟨hs, h8⟩ := sign_B (d := 0) pq0 pr ps m0 mr ms (by grind) Rat.le_refl
 rw [if_pos rfl] at hs
 have hW := cW_A hp0 hd0 b0 hp1 hd1 b1
 exact cS_A_NSN hW (cO_A_NSN (K := 1000) (hp0 := hp0) (hp1 := hp1) (g0 := (decide_eq_false (by omega))) (g1 := (decide_eq_false (by omega))) (g2 := (decide_eq_false (by omega))) (g3 := (decide_eq_false (by omega))) (g4 := (decide_eq_false (by omega))) (g5 := (decide_eq_false (by omega))) (g6 := (decide_eq_false (by omega))) (g7 := (decide_eq_false (by omega))) (g8 := (decide_eq_false (by omega))) (g9 := (decide_eq_false (by omega))) (g10 := (decide_eq_false (by omega))) (h0 := (v_w q0 zq0 k0)) (a2 := rfl) (o2 := o0) (h1 := (v_w q1 zq1 k1)) (a3 := rfl) (o3 := o1) (f3 := (by decide)) (h3 := (v_w r zr kr)) (e2 := (sgn_num tow_0 pq0.pos)) (e3 := (sgn_num (tow_1 pq0 m0).1 (by grind))) (h4 := (v_mar q0 r zq0 zr kr)) (h5 := (v_rr r zr zr2 kr)) (h6 := (v_pq q0 q1 zq0 zq1 zs k0 k1)) (h7 := (v_p1 _ _ zs zr2 ks kr2)) (e8 := h8) (h9 := (v_1r r zr kr)) (h10 := (v_s2 r zr znr kr))) hl hk hs
set_option maxRecDepth 100000 in
set_option maxHeartbeats 8000000 in
theorem sS_A_NSNz {x0 x1 : List UInt8} {q0 q1 : Rat} {d0 d1 : Int} (hp0 : parsB x0 q0 = true) (hd0 : digB 1000 q0 d0 = true) (b0 : 0 ≤ d0 ∧ d0 ≤ 10) (hp1 : parsB x1 q1 = true) (hd1 : digB 1000 q1 d1 = true) (b1 : 0 ≤ d1 ∧ d1 ≤ 10) (hl : ∀ x ∈ (nestL x0 x1), x.v.length ≤ 9223372036854775807) (hk : checkE (nestL x0 x1) = (0, 0)) (o0 : rotB 1000 q0 0 false = true) (pq0 : Rg 20 q0) (m0 : SmQ 25 q0) (e1 : q1 = 0) : Cal Tryz.prog OQ 12 [lsA (nestL x0 x1), iA 10] (.t [iA 0, iA 0]) := by
 have zq0 : ¬ q0 = 0 := by have := pq0.pos; grind
 have k0 := smq m0 (show 25 ≤ 1000 by decide)
 subst e1
 have zs : ¬ q0 = 0 := by have := pq0.pos; grind
 have ks := smq m0 (show 25 ≤ 1000 by decide)
 have hs := sign_Z (d := 0) pq0 pq0 m0 m0 (by grind) Rat.le_refl
 rw [if_pos rfl] at hs
 have hW := cW_A hp0 hd0 b0 hp1 hd1 b1
 exact cS_A_NSN hW (cO_A_NSN (K := 1000) (hp0 := hp0) (hp1 := hp1) (g0 := (decide_eq_false (by omega))) (g1 := (decide_eq_false (by omega))) (g2 := (decide_eq_false (by omega))) (g3 := (decide_eq_false (by omega))) (g4 := (decide_eq_false (by omega))) (g5 := (decide_eq_false (by omega))) (g6 := (decide_eq_false (by omega))) (g7 := (decide_eq_false (by omega))) (g8 := (decide_eq_false (by omega))) (g9 := (decide_eq_false (by omega))) (g10 := (decide_eq_false (by omega))) (h0 := (v_w q0 zq0 k0)) (a2 := rfl) (o2 := o0) (h1 := v_w0) (a3 := rfl) (o3 := (rot_S (r := 0) (by decide))) (f3 := (by decide)) (h3 := v_w0) (e2 := (sgn_num tow_0 pq0.pos)) (e3 := (sgn_nil (tow_1 pq0 m0).1)) (h4 := (v_maz q0 zq0)) (h5 := v_00) (h6 := (v_pz q0 zq0 k0)) (h7 := (v_pz _ zs ks)) (e8 := (sgn_num (tow_1 pq0 m0).1 pq0.pos)) (h9 := v_1z) (h10 := v_s1)) hl hk hs
set_option maxRecDepth 100000 in
set_option maxHeartbeats 8000000 in
theorem sS_A_SSS {x0 x1 : List UInt8} {q0 q1 r t  : Rat} {d0 d1 : Int} (hp0 : parsB x0 q0 = true) (hd0 : digB 1000 q0 d0 = true) (b0 : 0 ≤ d0 ∧ d0 ≤ 10) (hp1 : parsB x1 q1 = true) (hd1 : digB 1000 q1 d1 = true) (b1 : 0 ≤ d1 ∧ d1 ≤ 10) (hl : ∀ x ∈ (nestL x0 x1), x.v.length ≤ 9223372036854775807) (hk : checkE (nestL x0 x1) = (0, 0)) (m0 : SmQ 25 q0) (n0 : 0 ≤ q0) (m1 : SmQ 25 q1) (n1 : 0 ≤ q1) (mr : SmQ 25 r) (mt : SmQ 25 t) (nr : 0 ≤ r) (nt : 0 ≤ t) (o0 : rotB 1000 q0 r true = true) (o1 : rotB 1000 q1 t true = true) (o9 : rotB 1000 (q0 + q1 + (r * t + r * t)) (r + t) true = true) : Cal Tryz.prog OQ 12 [lsA (nestL x0 x1), iA 10] (.t [iA 0, iA 0]) := by
 have kr := smq mr (show 25 ≤ 1000 by decide)
 have kt := smq mt (show 25 ≤ 1000 by decide)
 have krt := smq (mr.mul mt) (show 25 + 25 ≤ 1000 by decide)
 have kdb := smq ((mr.mul mt).add (mr.mul mt)) (show 25 + 25 + (25 + 25) + 1 ≤ 1000 by decide)
 have ksm := smq (m0.add m1) (show 25 + 25 + 1 ≤ 1000 by decide)
 have nrt : 0 ≤ r * t := Rat.mul_nonneg nr nt
 obtain ⟨s0, e0, f0, -, -⟩ := W_sgn tow_0 n0
 obtain ⟨s1, e1, f1, -, -⟩ := W_sgn tow_0 n1
 have krt2 := smq (mr.add mt) (show 25 + 25 + 1 ≤ 1000 by decide)
 obtain ⟨s9, e9, f9, -, -⟩ := W_sgn tow_0 (show 0 ≤ (q0 + q1 + (r * t + r * t)) by grind)
 have hW := cW_A hp0 hd0 b0 hp1 hd1 b1
 exact cS_A_SSS hW (cO_A_SSS (K := 1000) (g0 := (decide_eq_false (by omega))) (g1 := (decide_eq_false (by omega))) (g2 := (decide_eq_false (by omega))) (g3 := (decide_eq_false (by omega))) (g4 := (decide_eq_false (by omega))) (g5 := (decide_eq_false (by omega))) (g6 := (decide_eq_false (by omega))) (g7 := (decide_eq_false (by omega))) (g8 := (decide_eq_false (by omega))) (g9 := (decide_eq_false (by omega))) (g10 := (decide_eq_false (by omega))) (hp0 := hp0) (h0 := (W_whl (smq m0 (by decide)))) (hp1 := hp1) (h1 := (W_whl (smq m1 (by decide)))) (e2 := e0) (f2 := f0) (a2 := (W_get _)) (o2 := o0) (h2 := (W_whl kr)) (e3 := e1) (f3 := f1) (a3 := (W_get _)) (o3 := o1) (h3 := (W_whl kt)) (h4 := (W_mul kr kt krt)) (h5 := (W_add krt krt)) (h6 := (W_add (smq m0 (by decide)) (smq m1 (by decide)))) (h7 := (W_add ksm kdb)) (e8 := e9) (f8 := f9) (a8 := (W_get _)) (o8 := o9) (h8 := (W_whl krt2)) (h9 := (W_add kr kt)) (h10 := (W_subz krt2))) hl hk (sgn_nil tow_0)
end Go.Proofs.YtajecapgmdfjcaaGreatDoor
