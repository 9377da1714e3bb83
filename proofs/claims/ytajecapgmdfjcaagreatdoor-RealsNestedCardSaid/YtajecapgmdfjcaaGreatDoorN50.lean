/- Sign, over the second list. PRINTED by gen/sn.py. -/
import Derived.Test.YtajecapgmdfjcaaGreatDoorN48
import Derived.Test.YtajecapgmdfjcaaGreatDoorN49
import Derived.Test.YtajecapgmdfjcaaGreatDoorN47
namespace Go.Proofs.YtajecapgmdfjcaaGreatDoor
open Go.RowKit Vn
set_option maxRecDepth 100000 in
set_option maxHeartbeats 8000000 in
theorem cF_B_SSS {x0 x1 x2 : List UInt8} {w0 w1 w2 w3 w4 w5 w6 w7 w8 w9 w10 w11 : Int} {v0 v1 v2 v3 v4 v5 v6 v7 v8 v9 v10 v11 : El} (hW : Cal Tryz.prog OQ 32 [lsA (moreL x0 x1 x2)] (.c (wC [w0, w1, w2, w3, w4, w5, w6, w7, w8, w9, w10, w11]))) (hO : Cal Tryz.prog OQ 85 [lsA (moreL x0 x1 x2), .c (wC [w0, w1, w2, w3, w4, w5, w6, w7, w8, w9, w10, w11]), iA 11] (.t [.c (.e [.v (.slice none 0 0), .mp false [0, 1, 2, 3, 4, 5, 6, 7, 8, 9, 10, 11] [[eC v0], [eC v1], [eC v2], [eC v3], [eC v4], [eC v5], [eC v6], [eC v7], [eC v8], [eC v9], [eC v10], [eC v11]], .mp false [0, 1, 2, 3, 4, 5, 6, 7, 8, 9, 10, 11] [bC true, bC true, bC true, bC true, bC true, bC true, bC true, bC true, bC true, bC true, bC true, bC true], .v (.slice none 0 0)]), iA 0])) : Cal Tryz.prog OQ 44 [lsA (moreL x0 x1 x2), iA 11] (.t [.c (.e [.v (.slice none 0 0), .mp false [0, 1, 2, 3, 4, 5, 6, 7, 8, 9, 10, 11] [[eC v0], [eC v1], [eC v2], [eC v3], [eC v4], [eC v5], [eC v6], [eC v7], [eC v8], [eC v9], [eC v10], [eC v11]], .mp false [0, 1, 2, 3, 4, 5, 6, 7, 8, 9, 10, 11] [bC true, bC true, bC true, bC true, bC true, bC true, bC true, bC true, bC true, bC true, bC true, bC true], .v (.slice none 0 0)]), iA 0]) := by
 refine fn_callD [(18, [(6, 2000000), (8, 11), (10, 2000000)]), (23, [(0, 9)])] TK MX (H := HL Tryz.prog OQ TB FTo 3) (HL_ok TK MX FTo_ok 3) (nd := false) Tryz.func44 rfl (by kernel_rfl) (by kernel_rfl) (by kernel_rfl) rfl rfl ?_
 conv => whnf
 refine ⟨_, hW, ?_⟩
 conv => whnf
 refine ⟨_, hO, ?_⟩
 conv => whnf
 rfl
set_option maxRecDepth 100000 in
set_option maxHeartbeats 8000000 in
theorem cV_B_SSS {x0 x1 x2 : List UInt8} {w0 w1 w2 w3 w4 w5 w6 w7 w8 w9 w10 w11 : Int} {v0 v1 v2 v3 v4 v5 v6 v7 v8 v9 v10 v11 : El} (hW : Cal Tryz.prog OQ 32 [lsA (moreL x0 x1 x2)] (.c (wC [w0, w1, w2, w3, w4, w5, w6, w7, w8, w9, w10, w11]))) (hO : Cal Tryz.prog OQ 85 [lsA (moreL x0 x1 x2), .c (wC [w0, w1, w2, w3, w4, w5, w6, w7, w8, w9, w10, w11]), iA 11] (.t [.c (.e [.v (.slice none 0 0), .mp false [0, 1, 2, 3, 4, 5, 6, 7, 8, 9, 10, 11] [[eC v0], [eC v1], [eC v2], [eC v3], [eC v4], [eC v5], [eC v6], [eC v7], [eC v8], [eC v9], [eC v10], [eC v11]], .mp false [0, 1, 2, 3, 4, 5, 6, 7, 8, 9, 10, 11] [bC true, bC true, bC true, bC true, bC true, bC true, bC true, bC true, bC true, bC true, bC true, bC true], .v (.slice none 0 0)]), iA 0])) (hl : ∀ x ∈ (moreL x0 x1 x2), x.v.length ≤ 9223372036854775807) (hc : checkE (moreL x0 x1 x2) = (0, 0)) : Cal Tryz.prog OQ 28 [lsA (moreL x0 x1 x2), iA 11] (.t [.c (.e [.v (.slice none 0 0), .mp false [0, 1, 2, 3, 4, 5, 6, 7, 8, 9, 10, 11] [[eC v0], [eC v1], [eC v2], [eC v3], [eC v4], [eC v5], [eC v6], [eC v7], [eC v8], [eC v9], [eC v10], [eC v11]], .mp false [0, 1, 2, 3, 4, 5, 6, 7, 8, 9, 10, 11] [bC true, bC true, bC true, bC true, bC true, bC true, bC true, bC true, bC true, bC true, bC true, bC true], .v (.slice none 0 0)]), eA v11, iA 0]) := by
 refine fn_callB [(7, [(4, 2000000)])] TK MX Tryz.func28 rfl (by kernel_rfl) (by kernel_rfl) (by kernel_rfl) rfl rfl ?_
 conv => whnf
 refine ⟨_, cAsked1 (l := (moreL x0 x1 x2)) hl hc (by decide) (by show _ < ((12 : Nat) : Int); decide), ?_⟩
 conv => whnf
 refine ⟨_, cF_B_SSS hW hO, ?_⟩
 conv => whnf
 rfl
set_option maxRecDepth 100000 in
set_option maxHeartbeats 8000000 in
theorem cS_B_SSS {x0 x1 x2 : List UInt8} {w0 w1 w2 w3 w4 w5 w6 w7 w8 w9 w10 w11 : Int} {v0 v1 v2 v3 v4 v5 v6 v7 v8 v9 v10 v11 : El} (hW : Cal Tryz.prog OQ 32 [lsA (moreL x0 x1 x2)] (.c (wC [w0, w1, w2, w3, w4, w5, w6, w7, w8, w9, w10, w11]))) (hO : Cal Tryz.prog OQ 85 [lsA (moreL x0 x1 x2), .c (wC [w0, w1, w2, w3, w4, w5, w6, w7, w8, w9, w10, w11]), iA 11] (.t [.c (.e [.v (.slice none 0 0), .mp false [0, 1, 2, 3, 4, 5, 6, 7, 8, 9, 10, 11] [[eC v0], [eC v1], [eC v2], [eC v3], [eC v4], [eC v5], [eC v6], [eC v7], [eC v8], [eC v9], [eC v10], [eC v11]], .mp false [0, 1, 2, 3, 4, 5, 6, 7, 8, 9, 10, 11] [bC true, bC true, bC true, bC true, bC true, bC true, bC true, bC true, bC true, bC true, bC true, bC true], .v (.slice none 0 0)]), iA 0])) (hl : ∀ x ∈ (moreL x0 x1 x2), x.v.length ≤ 9223372036854775807) (hc : checkE (moreL x0 x1 x2) = (0, 0)) {K : Nat} {s : Int} (hs : sgnB K [] 6 8 v11 s = true) : Cal Tryz.prog OQ 12 [lsA (moreL x0 x1 x2), iA 11] (.t [iA s, iA 0]) := by
 refine fn_call TK MX Tryz.func12 rfl (by kernel_rfl) (by kernel_rfl) (by kernel_rfl) rfl rfl ?_
 conv => whnf
 refine ⟨_, cV_B_SSS hW hO hl hc, ?_⟩
 conv => whnf
 refine ⟨_, sgnT [] v11 K 6 8 s _ hs, ?_⟩
 conv => whnf
 rfl
set_option maxRecDepth 100000 in
set_option maxHeartbeats 8000000 in
theorem cF_B_SSN {x0 x1 x2 : List UInt8} {w0 w1 w2 w3 w4 w5 w6 w7 w8 w9 w10 w11 : Int} {v0 v1 v2 v3 v4 v5 v6 v7 v8 v10 v11 : El} (hW : Cal Tryz.prog OQ 32 [lsA (moreL x0 x1 x2)] (.c (wC [w0, w1, w2, w3, w4, w5, w6, w7, w8, w9, w10, w11]))) (hO : Cal Tryz.prog OQ 85 [lsA (moreL x0 x1 x2), .c (wC [w0, w1, w2, w3, w4, w5, w6, w7, w8, w9, w10, w11]), iA 11] (.t [.c (.e [.sl 1 [[eC v8]], .mp false [0, 1, 2, 3, 4, 5, 6, 7, 8, 9, 10, 11] [[eC v0], [eC v1], [eC v2], [eC v3], [eC v4], [eC v5], [eC v6], [eC v7], [eC v8], [eC [(1, 1)]], [eC v10], [eC v11]], .mp false [0, 1, 2, 3, 4, 5, 6, 7, 8, 9, 10, 11] [bC true, bC true, bC true, bC true, bC true, bC true, bC true, bC true, bC true, bC false, bC true, bC false], .sl 1 [[.v (.int .i64 9)]]]), iA 0])) : Cal Tryz.prog OQ 44 [lsA (moreL x0 x1 x2), iA 11] (.t [.c (.e [.sl 1 [[eC v8]], .mp false [0, 1, 2, 3, 4, 5, 6, 7, 8, 9, 10, 11] [[eC v0], [eC v1], [eC v2], [eC v3], [eC v4], [eC v5], [eC v6], [eC v7], [eC v8], [eC [(1, 1)]], [eC v10], [eC v11]], .mp false [0, 1, 2, 3, 4, 5, 6, 7, 8, 9, 10, 11] [bC true, bC true, bC true, bC true, bC true, bC true, bC true, bC true, bC true, bC false, bC true, bC false], .sl 1 [[.v (.int .i64 9)]]]), iA 0]) := by
 refine fn_callD [(18, [(6, 2000000), (8, 11), (10, 2000000)]), (23, [(0, 9)])] TK MX (H := HL Tryz.prog OQ TB FTo 3) (HL_ok TK MX FTo_ok 3) (nd := false) Tryz.func44 rfl (by kernel_rfl) (by kernel_rfl) (by kernel_rfl) rfl rfl ?_
 conv => whnf
 refine ⟨_, hW, ?_⟩
 conv => whnf
 refine ⟨_, hO, ?_⟩
 conv => whnf
 rfl
set_option maxRecDepth 100000 in
set_option maxHeartbeats 8000000 in
theorem cV_B_SSN {x0 x1 x2 : List UInt8} {w0 w1 w2 w3 w4 w5 w6 w7 w8 w9 w10 w11 : Int} {v0 v1 v2 v3 v4 v5 v6 v7 v8 v10 v11 : El} (hW : Cal Tryz.prog OQ 32 [lsA (moreL x0 x1 x2)] (.c (wC [w0, w1, w2, w3, w4, w5, w6, w7, w8, w9, w10, w11]))) (hO : Cal Tryz.prog OQ 85 [lsA (moreL x0 x1 x2), .c (wC [w0, w1, w2, w3, w4, w5, w6, w7, w8, w9, w10, w11]), iA 11] (.t [.c (.e [.sl 1 [[eC v8]], .mp false [0, 1, 2, 3, 4, 5, 6, 7, 8, 9, 10, 11] [[eC v0], [eC v1], [eC v2], [eC v3], [eC v4], [eC v5], [eC v6], [eC v7], [eC v8], [eC [(1, 1)]], [eC v10], [eC v11]], .mp false [0, 1, 2, 3, 4, 5, 6, 7, 8, 9, 10, 11] [bC true, bC true, bC true, bC true, bC true, bC true, bC true, bC true, bC true, bC false, bC true, bC false], .sl 1 [[.v (.int .i64 9)]]]), iA 0])) (hl : ∀ x ∈ (moreL x0 x1 x2), x.v.length ≤ 9223372036854775807) (hc : checkE (moreL x0 x1 x2) = (0, 0)) : Cal Tryz.prog OQ 28 [lsA (moreL x0 x1 x2), iA 11] (.t [.c (.e [.sl 1 [[eC v8]], .mp false [0, 1, 2, 3, 4, 5, 6, 7, 8, 9, 10, 11] [[eC v0], [eC v1], [eC v2], [eC v3], [eC v4], [eC v5], [eC v6], [eC v7], [eC v8], [eC [(1, 1)]], [eC v10], [eC v11]], .mp false [0, 1, 2, 3, 4, 5, 6, 7, 8, 9, 10, 11] [bC true, bC true, bC true, bC true, bC true, bC true, bC true, bC true, bC true, bC false, bC true, bC false], .sl 1 [[.v (.int .i64 9)]]]), eA v11, iA 0]) := by
 refine fn_callB [(7, [(4, 2000000)])] TK MX Tryz.func28 rfl (by kernel_rfl) (by kernel_rfl) (by kernel_rfl) rfl rfl ?_
 conv => whnf
 refine ⟨_, cAsked1 (l := (moreL x0 x1 x2)) hl hc (by decide) (by show _ < ((12 : Nat) : Int); decide), ?_⟩
 conv => whnf
 refine ⟨_, cF_B_SSN hW hO, ?_⟩
 conv => whnf
 rfl
set_option maxRecDepth 100000 in
set_option maxHeartbeats 8000000 in
theorem cS_B_SSN {x0 x1 x2 : List UInt8} {w0 w1 w2 w3 w4 w5 w6 w7 w8 w9 w10 w11 : Int} {v0 v1 v2 v3 v4 v5 v6 v7 v8 v10 v11 : El} (hW : Cal Tryz.prog OQ 32 [lsA (moreL x0 x1 x2)] (.c (wC [w0, w1, w2, w3, w4, w5, w6, w7, w8, w9, w10, w11]))) (hO : Cal Tryz.prog OQ 85 [lsA (moreL x0 x1 x2), .c (wC [w0, w1, w2, w3, w4, w5, w6, w7, w8, w9, w10, w11]), iA 11] (.t [.c (.e [.sl 1 [[eC v8]], .mp false [0, 1, 2, 3, 4, 5, 6, 7, 8, 9, 10, 11] [[eC v0], [eC v1], [eC v2], [eC v3], [eC v4], [eC v5], [eC v6], [eC v7], [eC v8], [eC [(1, 1)]], [eC v10], [eC v11]], .mp false [0, 1, 2, 3, 4, 5, 6, 7, 8, 9, 10, 11] [bC true, bC true, bC true, bC true, bC true, bC true, bC true, bC true, bC true, bC false, bC true, bC false], .sl 1 [[.v (.int .i64 9)]]]), iA 0])) (hl : ∀ x ∈ (moreL x0 x1 x2), x.v.length ≤ 9223372036854775807) (hc : checkE (moreL x0 x1 x2) = (0, 0)) {K : Nat} {s : Int} (hs : sgnB K [v8] 6 8 v11 s = true) : Cal Tryz.prog OQ 12 [lsA (moreL x0 x1 x2), iA 11] (.t [iA s, iA 0]) := by
 refine fn_call TK MX Tryz.func12 rfl (by kernel_rfl) (by kernel_rfl) (by kernel_rfl) rfl rfl ?_
 conv => whnf
 refine ⟨_, cV_B_SSN hW hO hl hc, ?_⟩
 conv => whnf
 refine ⟨_, sgnT [v8] v11 K 6 8 s _ hs, ?_⟩
 conv => whnf
 rfl
set_option maxRecDepth 100000 in
set_option maxHeartbeats 8000000 in
theorem cF_B_SNN {x0 x1 x2 : List UInt8} {w0 w1 w2 w3 w4 w5 w6 w7 w8 w9 w10 w11 : Int} {v0 v1 v2 v3 v5 v6 v7 v8 v10 v11 : El} (hW : Cal Tryz.prog OQ 32 [lsA (moreL x0 x1 x2)] (.c (wC [w0, w1, w2, w3, w4, w5, w6, w7, w8, w9, w10, w11]))) (hO : Cal Tryz.prog OQ 85 [lsA (moreL x0 x1 x2), .c (wC [w0, w1, w2, w3, w4, w5, w6, w7, w8, w9, w10, w11]), iA 11] (.t [.c (.e [.sl 1 [[eC v1], [eC v8]], .mp false [0, 1, 2, 3, 4, 5, 6, 7, 8, 9, 10, 11] [[eC v0], [eC v1], [eC v2], [eC v3], [eC [(1, 1)]], [eC v5], [eC v6], [eC v7], [eC v8], [eC [(2, 1)]], [eC v10], [eC v11]], .mp false [0, 1, 2, 3, 4, 5, 6, 7, 8, 9, 10, 11] [bC true, bC true, bC true, bC true, bC false, bC false, bC false, bC true, bC false, bC false, bC false, bC false], .sl 1 [[.v (.int .i64 4)], [.v (.int .i64 9)]]]), iA 0])) : Cal Tryz.prog OQ 44 [lsA (moreL x0 x1 x2), iA 11] (.t [.c (.e [.sl 1 [[eC v1], [eC v8]], .mp false [0, 1, 2, 3, 4, 5, 6, 7, 8, 9, 10, 11] [[eC v0], [eC v1], [eC v2], [eC v3], [eC [(1, 1)]], [eC v5], [eC v6], [eC v7], [eC v8], [eC [(2, 1)]], [eC v10], [eC v11]], .mp false [0, 1, 2, 3, 4, 5, 6, 7, 8, 9, 10, 11] [bC true, bC true, bC true, bC true, bC false, bC false, bC false, bC true, bC false, bC false, bC false, bC false], .sl 1 [[.v (.int .i64 4)], [.v (.int .i64 9)]]]), iA 0]) := by
 refine fn_callD [(18, [(6, 2000000), (8, 11), (10, 2000000)]), (23, [(0, 9)])] TK MX (H := HL Tryz.prog OQ TB FTo 3) (HL_ok TK MX FTo_ok 3) (nd := false) Tryz.func44 rfl (by kernel_rfl) (by kernel_rfl) (by kernel_rfl) rfl rfl ?_
 conv => whnf
 refine ⟨_, hW, ?_⟩
 conv => whnf
 refine ⟨_, hO, ?_⟩
 conv => whnf
 rfl
set_option maxRecDepth 100000 in
set_option maxHeartbeats 8000000 in
theorem cV_B_SNN {x0 x1 x2 : List UInt8} {w0 w1 w2 w3 w4 w5 w6 w7 w8 w9 w10 w11 : Int} {v0 v1 v2 v3 v5 v6 v7 v8 v10 v11 : El} (hW : Cal Tryz.prog OQ 32 [lsA (moreL x0 x1 x2)] (.c (wC [w0, w1, w2, w3, w4, w5, w6, w7, w8, w9, w10, w11]))) (hO : Cal Tryz.prog OQ 85 [lsA (moreL x0 x1 x2), .c (wC [w0, w1, w2, w3, w4, w5, w6, w7, w8, w9, w10, w11]), iA 11] (.t [.c (.e [.sl 1 [[eC v1], [eC v8]], .mp false [0, 1, 2, 3, 4, 5, 6, 7, 8, 9, 10, 11] [[eC v0], [eC v1], [eC v2], [eC v3], [eC [(1, 1)]], [eC v5], [eC v6], [eC v7], [eC v8], [eC [(2, 1)]], [eC v10], [eC v11]], .mp false [0, 1, 2, 3, 4, 5, 6, 7, 8, 9, 10, 11] [bC true, bC true, bC true, bC true, bC false, bC false, bC false, bC true, bC false, bC false, bC false, bC false], .sl 1 [[.v (.int .i64 4)], [.v (.int .i64 9)]]]), iA 0])) (hl : ∀ x ∈ (moreL x0 x1 x2), x.v.length ≤ 9223372036854775807) (hc : checkE (moreL x0 x1 x2) = (0, 0)) : Cal Tryz.prog OQ 28 [lsA (moreL x0 x1 x2), iA 11] (.t [.c (.e [.sl 1 [[eC v1], [eC v8]], .mp false [0, 1, 2, 3, 4, 5, 6, 7, 8, 9, 10, 11] [[eC v0], [eC v1], [eC v2], [eC v3], [eC [(1, 1)]], [eC v5], [eC v6], [eC v7], [eC v8], [eC [(2, 1)]], [eC v10], [eC v11]], .mp false [0, 1, 2, 3, 4, 5, 6, 7, 8, 9, 10, 11] [bC true, bC true, bC true, bC true, bC false, bC false, bC false, bC true, bC false, bC false, bC false, bC false], .sl 1 [[.v (.int .i64 4)], [.v (.int .i64 9)]]]), eA v11, iA 0]) := by
 refine fn_callB [(7, [(4, 2000000)])] TK MX Tryz.func28 rfl (by kernel_rfl) (by kernel_rfl) (by kernel_rfl) rfl rfl ?_
 conv => whnf
 refine ⟨_, cAsked1 (l := (moreL x0 x1 x2)) hl hc (by decide) (by show _ < ((12 : Nat) : Int); decide), ?_⟩
 conv => whnf
 refine ⟨_, cF_B_SNN hW hO, ?_⟩
 conv => whnf
 rfl
set_option maxRecDepth 100000 in
set_option maxHeartbeats 8000000 in
theorem cS_B_SNN {x0 x1 x2 : List UInt8} {w0 w1 w2 w3 w4 w5 w6 w7 w8 w9 w10 w11 : Int} {v0 v1 v2 v3 v5 v6 v7 v8 v10 v11 : El} (hW : Cal Tryz.prog OQ 32 [lsA (moreL x0 x1 x2)] (.c (wC [w0, w1, w2, w3, w4, w5, w6, w7, w8, w9, w10, w11]))) (hO : Cal Tryz.prog OQ 85 [lsA (moreL x0 x1 x2), .c (wC [w0, w1, w2, w3, w4, w5, w6, w7, w8, w9, w10, w11]), iA 11] (.t [.c (.e [.sl 1 [[eC v1], [eC v8]], .mp false [0, 1, 2, 3, 4, 5, 6, 7, 8, 9, 10, 11] [[eC v0], [eC v1], [eC v2], [eC v3], [eC [(1, 1)]], [eC v5], [eC v6], [eC v7], [eC v8], [eC [(2, 1)]], [eC v10], [eC v11]], .mp false [0, 1, 2, 3, 4, 5, 6, 7, 8, 9, 10, 11] [bC true, bC true, bC true, bC true, bC false, bC false, bC false, bC true, bC false, bC false, bC false, bC false], .sl 1 [[.v (.int .i64 4)], [.v (.int .i64 9)]]]), iA 0])) (hl : ∀ x ∈ (moreL x0 x1 x2), x.v.length ≤ 9223372036854775807) (hc : checkE (moreL x0 x1 x2) = (0, 0)) {K : Nat} {s : Int} (hs : sgnB K [v1, v8] 6 8 v11 s = true) : Cal Tryz.prog OQ 12 [lsA (moreL x0 x1 x2), iA 11] (.t [iA s, iA 0]) := by
 refine fn_call TK MX Tryz.func12 rfl (by kernel_rfl) (by kernel_rfl) (by kernel_rfl) rfl rfl ?_
 conv => whnf
 refine ⟨_, cV_B_SNN hW hO hl hc, ?_⟩
 conv => whnf
 refine ⟨_, sgnT [v1, v8] v11 K 6 8 s _ hs, ?_⟩
 conv => whnf
 rfl
set_option maxRecDepth 100000 in
set_option maxHeartbeats 8000000 in
theorem cF_B_NSN {x0 x1 x2 : List UInt8} {w0 w1 w2 w3 w4 w5 w6 w7 w8 w9 w10 w11 : Int} {v0 v1 v2 v4 v5 v6 v7 v8 v10 v11 : El} (hW : Cal Tryz.prog OQ 32 [lsA (moreL x0 x1 x2)] (.c (wC [w0, w1, w2, w3, w4, w5, w6, w7, w8, w9, w10, w11]))) (hO : Cal Tryz.prog OQ 85 [lsA (moreL x0 x1 x2), .c (wC [w0, w1, w2, w3, w4, w5, w6, w7, w8, w9, w10, w11]), iA 11] (.t [.c (.e [.sl 1 [[eC v0], [eC v8]], .mp false [0, 1, 2, 3, 4, 5, 6, 7, 8, 9, 10, 11] [[eC v0], [eC v1], [eC v2], [eC [(1, 1)]], [eC v4], [eC v5], [eC v6], [eC v7], [eC v8], [eC [(2, 1)]], [eC v10], [eC v11]], .mp false [0, 1, 2, 3, 4, 5, 6, 7, 8, 9, 10, 11] [bC true, bC true, bC true, bC false, bC true, bC false, bC false, bC true, bC false, bC false, bC false, bC false], .sl 1 [[.v (.int .i64 3)], [.v (.int .i64 9)]]]), iA 0])) : Cal Tryz.prog OQ 44 [lsA (moreL x0 x1 x2), iA 11] (.t [.c (.e [.sl 1 [[eC v0], [eC v8]], .mp false [0, 1, 2, 3, 4, 5, 6, 7, 8, 9, 10, 11] [[eC v0], [eC v1], [eC v2], [eC [(1, 1)]], [eC v4], [eC v5], [eC v6], [eC v7], [eC v8], [eC [(2, 1)]], [eC v10], [eC v11]], .mp false [0, 1, 2, 3, 4, 5, 6, 7, 8, 9, 10, 11] [bC true, bC true, bC true, bC false, bC true, bC false, bC false, bC true, bC false, bC false, bC false, bC false], .sl 1 [[.v (.int .i64 3)], [.v (.int .i64 9)]]]), iA 0]) := by
 refine fn_callD [(18, [(6, 2000000), (8, 11), (10, 2000000)]), (23, [(0, 9)])] TK MX (H := HL Tryz.prog OQ TB FTo 3) (HL_ok TK MX FTo_ok 3) (nd := false) Tryz.func44 rfl (by kernel_rfl) (by kernel_rfl) (by kernel_rfl) rfl rfl ?_
 conv => whnf
 refine ⟨_, hW, ?_⟩
 conv => whnf
 refine ⟨_, hO, ?_⟩
 conv => whnf
 rfl
set_option maxRecDepth 100000 in
set_option maxHeartbeats 8000000 in
theorem cV_B_NSN {x0 x1 x2 : List UInt8} {w0 w1 w2 w3 w4 w5 w6 w7 w8 w9 w10 w11 : Int} {v0 v1 v2 v4 v5 v6 v7 v8 v10 v11 : El} (hW : Cal Tryz.prog OQ 32 [lsA (moreL x0 x1 x2)] (.c (wC [w0, w1, w2, w3, w4, w5, w6, w7, w8, w9, w10, w11]))) (hO : Cal Tryz.prog OQ 85 [lsA (moreL x0 x1 x2), .c (wC [w0, w1, w2, w3, w4, w5, w6, w7, w8, w9, w10, w11]), iA 11] (.t [.c (.e [.sl 1 [[eC v0], [eC v8]], .mp false [0, 1, 2, 3, 4, 5, 6, 7, 8, 9, 10, 11] [[eC v0], [eC v1], [eC v2], [eC [(1, 1)]], [eC v4], [eC v5], [eC v6], [eC v7], [eC v8], [eC [(2, 1)]], [eC v10], [eC v11]], .mp false [0, 1, 2, 3, 4, 5, 6, 7, 8, 9, 10, 11] [bC true, bC true, bC true, bC false, bC true, bC false, bC false, bC true, bC false, bC false, bC false, bC false], .sl 1 [[.v (.int .i64 3)], [.v (.int .i64 9)]]]), iA 0])) (hl : ∀ x ∈ (moreL x0 x1 x2), x.v.length ≤ 9223372036854775807) (hc : checkE (moreL x0 x1 x2) = (0, 0)) : Cal Tryz.prog OQ 28 [lsA (moreL x0 x1 x2), iA 11] (.t [.c (.e [.sl 1 [[eC v0], [eC v8]], .mp false [0, 1, 2, 3, 4, 5, 6, 7, 8, 9, 10, 11] [[eC v0], [eC v1], [eC v2], [eC [(1, 1)]], [eC v4], [eC v5], [eC v6], [eC v7], [eC v8], [eC [(2, 1)]], [eC v10], [eC v11]], .mp false [0, 1, 2, 3, 4, 5, 6, 7, 8, 9, 10, 11] [bC true, bC true, bC true, bC false, bC true, bC false, bC false, bC true, bC false, bC false, bC false, bC false], .sl 1 [[.v (.int .i64 3)], [.v (.int .i64 9)]]]), eA v11, iA 0]) := by
 refine fn_callB [(7, [(4, 2000000)])] TK MX Tryz.func28 rfl (by kernel_rfl) (by kernel_rfl) (by kernel_rfl) rfl rfl ?_
 conv => whnf
 refine ⟨_, cAsked1 (l := (moreL x0 x1 x2)) hl hc (by decide) (by show _ < ((12 : Nat) : Int); decide), ?_⟩
 conv => whnf
 refine ⟨_, cF_B_NSN hW hO, ?_⟩
 conv => whnf
 rfl
set_option maxRecDepth 100000 in
set_option maxHeartbeats 8000000 in
theorem cS_B_NSN {x0 x1 x2 : List UInt8} {w0 w1 w2 w3 w4 w5 w6 w7 w8 w9 w10 w11 : Int} {v0 v1 v2 v4 v5 v6 v7 v8 v10 v11 : El} (hW : Cal Tryz.prog OQ 32 [lsA (moreL x0 x1 x2)] (.c (wC [w0, w1, w2, w3, w4, w5, w6, w7, w8, w9, w10, w11]))) (hO : Cal Tryz.prog OQ 85 [lsA (moreL x0 x1 x2), .c (wC [w0, w1, w2, w3, w4, w5, w6, w7, w8, w9, w10, w11]), iA 11] (.t [.c (.e [.sl 1 [[eC v0], [eC v8]], .mp false [0, 1, 2, 3, 4, 5, 6, 7, 8, 9, 10, 11] [[eC v0], [eC v1], [eC v2], [eC [(1, 1)]], [eC v4], [eC v5], [eC v6], [eC v7], [eC v8], [eC [(2, 1)]], [eC v10], [eC v11]], .mp false [0, 1, 2, 3, 4, 5, 6, 7, 8, 9, 10, 11] [bC true, bC true, bC true, bC false, bC true, bC false, bC false, bC true, bC false, bC false, bC false, bC false], .sl 1 [[.v (.int .i64 3)], [.v (.int .i64 9)]]]), iA 0])) (hl : ∀ x ∈ (moreL x0 x1 x2), x.v.length ≤ 9223372036854775807) (hc : checkE (moreL x0 x1 x2) = (0, 0)) {K : Nat} {s : Int} (hs : sgnB K [v0, v8] 6 8 v11 s = true) : Cal Tryz.prog OQ 12 [lsA (moreL x0 x1 x2), iA 11] (.t [iA s, iA 0]) := by
 refine fn_call TK MX Tryz.func12 rfl (by kernel_rfl) (by kernel_rfl) (by kernel_rfl) rfl rfl ?_
 conv => whnf
 refine ⟨_, cV_B_NSN hW hO hl hc, ?_⟩
 conv => whnf
 refine ⟨_, sgnT [v0, v8] v11 K 6 8 s _ hs, ?_⟩
 conv => whnf
 rfl
set_option maxRecDepth 100000 in
set_option maxHeartbeats 8000000 in
theorem cF_B_NNN {x0 x1 x2 : List UInt8} {w0 w1 w2 w3 w4 w5 w6 w7 w8 w9 w10 w11 : Int} {v0 v1 v2 v5 v6 v7 v8 v10 v11 : El} (hW : Cal Tryz.prog OQ 32 [lsA (moreL x0 x1 x2)] (.c (wC [w0, w1, w2, w3, w4, w5, w6, w7, w8, w9, w10, w11]))) (hO : Cal Tryz.prog OQ 85 [lsA (moreL x0 x1 x2), .c (wC [w0, w1, w2, w3, w4, w5, w6, w7, w8, w9, w10, w11]), iA 11] (.t [.c (.e [.sl 1 [[eC v0], [eC v1], [eC v8]], .mp false [0, 1, 2, 3, 4, 5, 6, 7, 8, 9, 10, 11] [[eC v0], [eC v1], [eC v2], [eC [(1, 1)]], [eC [(2, 1)]], [eC v5], [eC v6], [eC v7], [eC v8], [eC [(4, 1)]], [eC v10], [eC v11]], .mp false [0, 1, 2, 3, 4, 5, 6, 7, 8, 9, 10, 11] [bC true, bC true, bC true, bC false, bC false, bC false, bC false, bC true, bC false, bC false, bC false, bC false], .sl 1 [[.v (.int .i64 3)], [.v (.int .i64 4)], [.v (.int .i64 9)]]]), iA 0])) : Cal Tryz.prog OQ 44 [lsA (moreL x0 x1 x2), iA 11] (.t [.c (.e [.sl 1 [[eC v0], [eC v1], [eC v8]], .mp false [0, 1, 2, 3, 4, 5, 6, 7, 8, 9, 10, 11] [[eC v0], [eC v1], [eC v2], [eC [(1, 1)]], [eC [(2, 1)]], [eC v5], [eC v6], [eC v7], [eC v8], [eC [(4, 1)]], [eC v10], [eC v11]], .mp false [0, 1, 2, 3, 4, 5, 6, 7, 8, 9, 10, 11] [bC true, bC true, bC true, bC false, bC false, bC false, bC false, bC true, bC false, bC false, bC false, bC false], .sl 1 [[.v (.int .i64 3)], [.v (.int .i64 4)], [.v (.int .i64 9)]]]), iA 0]) := by
 refine fn_callD [(18, [(6, 2000000), (8, 11), (10, 2000000)]), (23, [(0, 9)])] TK MX (H := HL Tryz.prog OQ TB FTo 3) (HL_ok TK MX FTo_ok 3) (nd := false) Tryz.func44 rfl (by kernel_rfl) (by kernel_rfl) (by kernel_rfl) rfl rfl ?_
 conv => whnf
 refine ⟨_, hW, ?_⟩
 conv => whnf
 refine ⟨_, hO, ?_⟩
 conv => whnf
 rfl
set_option maxRecDepth 100000 in
set_option maxHeartbeats 8000000 in
theorem cV_B_NNN {x0 x1 x2 : List UInt8} {w0 w1 w2 w3 w4 w5 w6 w7 w8 w9 w10 w11 : Int} {v0 v1 v2 v5 v6 v7 v8 v10 v11 : El} (hW : Cal Tryz.prog OQ 32 [lsA (moreL x0 x1 x2)] (.c (wC [w0, w1, w2, w3, w4, w5, w6, w7, w8, w9, w10, w11]))) (hO : Cal Tryz.prog OQ 85 [lsA (moreL x0 x1 x2), .c (wC [w0, w1, w2, w3, w4, w5, w6, w7, w8, w9, w10, w11]), iA 11] (.t [.c (.e [.sl 1 [[eC v0], [eC v1], [eC v8]], .mp false [0, 1, 2, 3, 4, 5, 6, 7, 8, 9, 10, 11] [[eC v0], [eC v1], [eC v2], [eC [(1, 1)]], [eC [(2, 1)]], [eC v5], [eC v6], [eC v7], [eC v8], [eC [(4, 1)]], [eC v10], [eC v11]], .mp false [0, 1, 2, 3, 4, 5, 6, 7, 8, 9, 10, 11] [bC true, bC true, bC true, bC false, bC false, bC false, bC false, bC true, bC false, bC false, bC false, bC false], .sl 1 [[.v (.int .i64 3)], [.v (.int .i64 4)], [.v (.int .i64 9)]]]), iA 0])) (hl : ∀ x ∈ (moreL x0 x1 x2), x.v.length ≤ 9223372036854775807) (hc : checkE (moreL x0 x1 x2) = (0, 0)) : Cal Tryz.prog OQ 28 [lsA (moreL x0 x1 x2), iA 11] (.t [.c (.e [.sl 1 [[eC v0], [eC v1], [eC v8]], .mp false [0, 1, 2, 3, 4, 5, 6, 7, 8, 9, 10, 11] [[eC v0], [eC v1], [eC v2], [eC [(1, 1)]], [eC [(2, 1)]], [eC v5], [eC v6], [eC v7], [eC v8], [eC [(4, 1)]], [eC v10], [eC v11]], .mp false [0, 1, 2, 3, 4, 5, 6, 7, 8, 9, 10, 11] [bC true, bC true, bC true, bC false, bC false, bC false, bC false, bC true, bC false, bC false, bC false, bC false], .sl 1 [[.v (.int .i64 3)], [.v (.int .i64 4)], [.v (.int .i64 9)]]]), eA v11, iA 0]) := by
 refine fn_callB [(7, [(4, 2000000)])] TK MX Tryz.func28 rfl (by kernel_rfl) (by kernel_rfl) (by kernel_rfl) rfl rfl ?_
 conv => whnf
 refine ⟨_, cAsked1 (l := (moreL x0 x1 x2)) hl hc (by decide) (by show _ < ((12 : Nat) : Int); decide), ?_⟩
 conv => whnf
 refine ⟨_, cF_B_NNN hW hO, ?_⟩
 conv => whnf
 rfl
set_option maxRecDepth 100000 in
set_option maxHeartbeats 8000000 in
theorem cS_B_NNN {x0 x1 x2 : List UInt8} {w0 w1 w2 w3 w4 w5 w6 w7 w8 w9 w10 w11 : Int} {v0 v1 v2 v5 v6 v7 v8 v10 v11 : El} (hW : Cal Tryz.prog OQ 32 [lsA (moreL x0 x1 x2)] (.c (wC [w0, w1, w2, w3, w4, w5, w6, w7, w8, w9, w10, w11]))) (hO : Cal Tryz.prog OQ 85 [lsA (moreL x0 x1 x2), .c (wC [w0, w1, w2, w3, w4, w5, w6, w7, w8, w9, w10, w11]), iA 11] (.t [.c (.e [.sl 1 [[eC v0], [eC v1], [eC v8]], .mp false [0, 1, 2, 3, 4, 5, 6, 7, 8, 9, 10, 11] [[eC v0], [eC v1], [eC v2], [eC [(1, 1)]], [eC [(2, 1)]], [eC v5], [eC v6], [eC v7], [eC v8], [eC [(4, 1)]], [eC v10], [eC v11]], .mp false [0, 1, 2, 3, 4, 5, 6, 7, 8, 9, 10, 11] [bC true, bC true, bC true, bC false, bC false, bC false, bC false, bC true, bC false, bC false, bC false, bC false], .sl 1 [[.v (.int .i64 3)], [.v (.int .i64 4)], [.v (.int .i64 9)]]]), iA 0])) (hl : ∀ x ∈ (moreL x0 x1 x2), x.v.length ≤ 9223372036854775807) (hc : checkE (moreL x0 x1 x2) = (0, 0)) {K : Nat} {s : Int} (hs : sgnB K [v0, v1, v8] 6 8 v11 s = true) : Cal Tryz.prog OQ 12 [lsA (moreL x0 x1 x2), iA 11] (.t [iA s, iA 0]) := by
 refine fn_call TK MX Tryz.func12 rfl (by kernel_rfl) (by kernel_rfl) (by kernel_rfl) rfl rfl ?_
 conv => whnf
 refine ⟨_, cV_B_NNN hW hO hl hc, ?_⟩
 conv => whnf
 refine ⟨_, sgnT [v0, v1, v8] v11 K 6 8 s _ hs, ?_⟩
 conv => whnf
 rfl
end Go.Proofs.YtajecapgmdfjcaaGreatDoor

/- Sign of the second list. PRINTED by gen/sn2.py. -/
namespace Go.Proofs.YtajecapgmdfjcaaGreatDoor
open Go.RowKit Vn
set_option maxRecDepth 100000 in
set_option maxHeartbeats 8000000 in
theorem sS_B_NNN {x0 x1 x2 : List UInt8} {q0 q1 q2 d : Rat} {d0 d1 d2 : Int} (hp0 : parsB x0 q0 = true) (hd0 : digB 1000 q0 d0 = true) (b0 : 0 ≤ d0 ∧ d0 ≤ 10) (hp1 : parsB x1 q1 = true) (hd1 : digB 1000 q1 d1 = true) (b1 : 0 ≤ d1 ∧ d1 ≤ 10) (hp2 : parsB x2 q2 = true) (hd2 : digB 1000 q2 d2 = true) (b2 : 0 ≤ d2 ∧ d2 ≤ 10) (hl : ∀ x ∈ (moreL x0 x1 x2), x.v.length ≤ 9223372036854775807) (hk : checkE (moreL x0 x1 x2) = (0, 0)) (hc : q2 = q1 + d) (hd : 0 ≤ d) (m2 : SmQ 25 q2) (o0 : rotB 1000 q0 0 false = true) (pq0 : Rg 20 q0) (m0 : SmQ 25 q0) (o1 : rotB 1000 q1 0 false = true) (pq1 : Rg 20 q1) (m1 : SmQ 25 q1) (ps : Rg 22 (q0 + q2)) (ms : SmQ 25 (q0 + q2)) : Cal Tryz.prog OQ 12 [lsA (moreL x0 x1 x2), iA 11] (.t [iA (if d = 0 then 0 else 1), iA 0]) := by
 have zq0 : ¬ q0 = 0 := by have := pq0.pos; grind
 have k0 := smq m0 (show 25 ≤ 1000 by decide)
 have zq1 : ¬ q1 = 0 := by have := pq1.pos; grind
 have k1 := smq m1 (show 25 ≤ 1000 by decide)
 have zs : ¬ (q0 + q2) = 0 := by have := ps.pos; grind
 have ks := smq ms (show 25 ≤ 1000 by decide)
 obtain ⟨hs, -, -, h8⟩ := sign_A (d := d) pq0 pq1 ps m0 m1 ms (by grind) hd
 have hW := cW_B hp0 hd0 b0 hp1 hd1 b1 hp2 hd2 b2
 exact cS_B_NNN hW (cO_B_NNN (K := 1000) (hp2 := hp2) (h2 := (W_whl (smq m2 (by decide)))) (hp0 := hp0) (hp1 := hp1) (g0 := (decide_eq_false (by omega))) (g1 := (decide_eq_false (by omega))) (g2 := (decide_eq_false (by omega))) (g3 := (decide_eq_false (by omega))) (g4 := (decide_eq_false (by omega))) (g5 := (decide_eq_false (by omega))) (g6 := (decide_eq_false (by omega))) (g7 := (decide_eq_false (by omega))) (g8 := (decide_eq_false (by omega))) (g9 := (decide_eq_false (by omega))) (g10 := (decide_eq_false (by omega))) (g11 := (decide_eq_false (by omega))) (h0 := (v_w q0 zq0 k0)) (a3 := rfl) (o3 := o0) (h1 := (v_w q1 zq1 k1)) (a4 := rfl) (o4 := o1) (e3 := (sgn_num tow_0 pq0.pos)) (e4 := (sgn_num (tow_1 pq0 m0).1 pq1.pos)) (h5 := (v_mab q0 q1 zq0 zq1)) (h6 := v_33) (h7 := (v_pW q0 q2 zq0 zs k0 (smq m2 (by decide)))) (h8 := (v_p3 _ zs ks)) (e9 := h8) (h10 := v_12) (h11 := v_s4)) hl hk hs
set_option maxRecDepth 100000 in
set_option maxHeartbeats 8000000 in
theorem sS_B_SNN {x0 x1 x2 : List UInt8} {q0 q1 q2 d r : Rat} {d0 d1 d2 : Int} (hp0 : parsB x0 q0 = true) (hd0 : digB 1000 q0 d0 = true) (b0 : 0 ≤ d0 ∧ d0 ≤ 10) (hp1 : parsB x1 q1 = true) (hd1 : digB 1000 q1 d1 = true) (b1 : 0 ≤ d1 ∧ d1 ≤ 10) (hp2 : parsB x2 q2 = true) (hd2 : digB 1000 q2 d2 = true) (b2 : 0 ≤ d2 ∧ d2 ≤ 10) (hl : ∀ x ∈ (moreL x0 x1 x2), x.v.length ≤ 9223372036854775807) (hk : checkE (moreL x0 x1 x2) = (0, 0)) (hc : q2 = q1 + d) (hd : 0 ≤ d) (m2 : SmQ 25 q2) (o0 : rotB 1000 q0 r true = true) (e0 : q0 = r * r) (pr : Rg 10 r) (mr : SmQ 25 r) (m0 : SmQ 25 q0) (o1 : rotB 1000 q1 0 false = true) (pq1 : Rg 20 q1) (m1 : SmQ 25 q1) (ps : Rg 22 (q0 + q2)) (ms : SmQ 25 (q0 + q2)) : Cal Tryz.prog OQ 12 [lsA (moreL x0 x1 x2), iA 11] (.t [iA (if d = 0 then 0 else 1), iA 0]) := by
 have zr : ¬ r = 0 := by have := pr.pos; grind
 have zrr : 0 < r * r := Rat.mul_pos pr.pos pr.pos
 have zr2 : ¬ r + r = 0 := by have := pr.pos; grind
 have znr : ¬ -r = 0 := by have := pr.pos; grind
 have zq0 : ¬ q0 = 0 := by grind
 have kr := smq mr (show 25 ≤ 1000 by decide)
 have kr2 := smq (mr.add mr) (show 25 + 25 + 1 ≤ 1000 by decide)
 have k0 := smq m0 (show 25 ≤ 1000 by decide)
 have zq1 : ¬ q1 = 0 := by have := pq1.pos; grind
 have k1 := smq m1 (show 25 ≤ 1000 by decide)
 have zs : ¬ (q0 + q2) = 0 := by have := ps.pos; grind
 have ks := smq ms (show 25 ≤ 1000 by decide)
 obtain ⟨hs, h8⟩ := sign_B (d := d) pq1 pr ps m1 mr ms (by grind) hd
 have hW := cW_B hp0 hd0 b0 hp1 hd1 b1 hp2 hd2 b2
 exact cS_B_SNN hW (cO_B_SNN (K := 1000) (hp2 := hp2) (h2 := (W_whl (smq m2 (by decide)))) (hp0 := hp0) (hp1 := hp1) (g0 := (decide_eq_false (by omega))) (g1 := (decide_eq_false (by omega))) (g2 := (decide_eq_false (by omega))) (g3 := (decide_eq_false (by omega))) (g4 := (decide_eq_false (by omega))) (g5 := (decide_eq_false (by omega))) (g6 := (decide_eq_false (by omega))) (g7 := (decide_eq_false (by omega))) (g8 := (decide_eq_false (by omega))) (g9 := (decide_eq_false (by omega))) (g10 := (decide_eq_false (by omega))) (g11 := (decide_eq_false (by omega))) (h0 := (v_w q0 zq0 k0)) (a3 := rfl) (o3 := o0) (f3 := (by decide)) (h3 := (v_w r zr kr)) (h1 := (v_w q1 zq1 k1)) (a4 := rfl) (o4 := o1) (e4 := (sgn_num tow_0 pq1.pos)) (e3 := (sgn_num tow_0 (by grind))) (h5 := (v_mra q1 r zq1 zr kr)) (h6 := (v_rr r zr zr2 kr)) (h7 := (v_pW q0 q2 zq0 zs k0 (smq m2 (by decide)))) (h8 := (v_p1 _ _ zs zr2 ks kr2)) (e9 := h8) (h10 := (v_r1 r zr kr)) (h11 := (v_s2 r zr znr kr))) hl hk hs
set_option maxRecDepth 100000 in
set_option maxHeartbeats 8000000 in
theorem sS_B_SNNz {x0 x1 x2 : List UInt8} {q0 q1 q2 d : Rat} {d0 d1 d2 : Int} (hp0 : parsB x0 q0 = true) (hd0 : digB 1000 q0 d0 = true) (b0 : 0 ≤ d0 ∧ d0 ≤ 10) (hp1 : parsB x1 q1 = true) (hd1 : digB 1000 q1 d1 = true) (b1 : 0 ≤ d1 ∧ d1 ≤ 10) (hp2 : parsB x2 q2 = true) (hd2 : digB 1000 q2 d2 = true) (b2 : 0 ≤ d2 ∧ d2 ≤ 10) (hl : ∀ x ∈ (moreL x0 x1 x2), x.v.length ≤ 9223372036854775807) (hk : checkE (moreL x0 x1 x2) = (0, 0)) (hc : q2 = q1 + d) (hd : 0 ≤ d) (m2 : SmQ 25 q2) (e0 : q0 = 0) (o1 : rotB 1000 q1 0 false = true) (pq1 : Rg 20 q1) (m1 : SmQ 25 q1) (ps : Rg 20 q2) (ms : SmQ 25 q2) : Cal Tryz.prog OQ 12 [lsA (moreL x0 x1 x2), iA 11] (.t [iA (if d = 0 then 0 else 1), iA 0]) := by
 subst e0
 have zq1 : ¬ q1 = 0 := by have := pq1.pos; grind
 have k1 := smq m1 (show 25 ≤ 1000 by decide)
 have zs : ¬ q2 = 0 := by have := ps.pos; grind
 have ks := smq ms (show 25 ≤ 1000 by decide)
 have hs := sign_Z (d := d) pq1 ps m1 ms (by grind) hd
 have hW := cW_B hp0 hd0 b0 hp1 hd1 b1 hp2 hd2 b2
 exact cS_B_SNN hW (cO_B_SNN (K := 1000) (hp2 := hp2) (h2 := (W_whl (smq m2 (by decide)))) (hp0 := hp0) (hp1 := hp1) (g0 := (decide_eq_false (by omega))) (g1 := (decide_eq_false (by omega))) (g2 := (decide_eq_false (by omega))) (g3 := (decide_eq_false (by omega))) (g4 := (decide_eq_false (by omega))) (g5 := (decide_eq_false (by omega))) (g6 := (decide_eq_false (by omega))) (g7 := (decide_eq_false (by omega))) (g8 := (decide_eq_false (by omega))) (g9 := (decide_eq_false (by omega))) (g10 := (decide_eq_false (by omega))) (g11 := (decide_eq_false (by omega))) (h0 := v_w0) (a3 := rfl) (o3 := (rot_S (r := 0) (by decide))) (f3 := (by decide)) (h3 := v_w0) (h1 := (v_w q1 zq1 k1)) (a4 := rfl) (o4 := o1) (e4 := (sgn_num tow_0 pq1.pos)) (e3 := (sgn_nil tow_0)) (h5 := (v_mza q1 zq1)) (h6 := v_00) (h7 := (v_zW q2 zs ks)) (h8 := (v_pz _ zs ks)) (e9 := (sgn_num (tow_1 pq1 m1).1 ps.pos)) (h10 := v_z1) (h11 := v_s1)) hl hk hs
set_option maxRecDepth 100000 in
set_option maxHeartbeats 8000000 in
theorem sS_B_NSN {x0 x1 x2 : List UInt8} {q0 q1 q2 d r : Rat} {d0 d1 d2 : Int} (hp0 : parsB x0 q0 = true) (hd0 : digB 1000 q0 d0 = true) (b0 : 0 ≤ d0 ∧ d0 ≤ 10) (hp1 : parsB x1 q1 = true) (hd1 : digB 1000 q1 d1 = true) (b1 : 0 ≤ d1 ∧ d1 ≤ 10) (hp2 : parsB x2 q2 = true) (hd2 : digB 1000 q2 d2 = true) (b2 : 0 ≤ d2 ∧ d2 ≤ 10) (hl : ∀ x ∈ (moreL x0 x1 x2), x.v.length ≤ 9223372036854775807) (hk : checkE (moreL x0 x1 x2) = (0, 0)) (hc : q2 = q1 + d) (hd : 0 ≤ d) (m2 : SmQ 25 q2) (o0 : rotB 1000 q0 0 false = true) (pq0 : Rg 20 q0) (m0 : SmQ 25 q0) (o1 : rotB 1000 q1 r true = true) (e1 : q1 = r * r) (pr : Rg 10 r) (mr : SmQ 25 r) (m1 : SmQ 25 q1) (ps : Rg 22 (q0 + q2)) (ms : SmQ 25 (q0 + q2)) : Cal Tryz.prog OQ 12 [lsA (moreL x0 x1 x2), iA 11] (.t [iA (if d = 0 then 0 else 1), iA 0]) := by
 have zq0 : ¬ q0 = 0 := by have := pq0.pos; grind
 have k0 := smq m0 (show 25 ≤ 1000 by decide)
 have zr : ¬ r = 0 := by have := pr.pos; grind
 have zrr : 0 < r * r := Rat.mul_pos pr.pos pr.pos
 have zr2 : ¬ r + r = 0 := by have := pr.pos; grind
 have znr : ¬ -r = 0 := by have := pr.pos; grind
 have zq1 : ¬ q1 = 0 := by grind
 have kr := smq mr (show 25 ≤ 1000 by decide)
 have kr2 := smq (mr.add mr) (show 25 + 25 + 1 ≤ 1000 by decide)
 have k1 := smq m1 (show 25 ≤ 1000 by decide)
 have zs : ¬ (q0 + q2) = 0 := by have := ps.pos; grind
 have ks := smq ms (show 25 ≤ 1000 by decide)
 obtain ⟨hs, h8⟩ := sign_B (d := d) pq0 pr ps m0 mr ms (by grind) hd
 have hW := cW_B hp0 hd0 b0 hp1 hd1 b1 hp2 hd2 b2
 exact cS_B_NSN hW (cO_B_NSN (K := 1000) (hp2 := hp2) (h2 := (W_whl (smq m2 (by decide)))) (hp0 := hp0) (hp1 := hp1) (g0 := (decide_eq_false (by omega))) (g1 := (decide_eq_false (by omega))) (g2 := (decide_eq_false (by omega))) (g3 := (decide_eq_false (by omega))) (g4 := (decide_eq_false (by omega))) (g5 := (decide_eq_false (by omega))) (g6 := (decide_eq_false (by omega))) (g7 := (decide_eq_false (by omega))) (g8 := (decide_eq_false (by omega))) (g9 := (decide_eq_false (by omega))) (g10 := (decide_eq_false (by omega))) (g11 := (decide_eq_false (by omega))) (h0 := (v_w q0 zq0 k0)) (a3 := rfl) (o3 := o0) (h1 := (v_w q1 zq1 k1)) (a4 := rfl) (o4 := o1) (f4 := (by decide)) (h4 := (v_w r zr kr)) (e3 := (sgn_num tow_0 pq0.pos)) (e4 := (sgn_num (tow_1 pq0 m0).1 (by grind))) (h5 := (v_mar q0 r zq0 zr kr)) (h6 := (v_rr r zr zr2 kr)) (h7 := (v_pW q0 q2 zq0 zs k0 (smq m2 (by decide)))) (h8 := (v_p1 _ _ zs zr2 ks kr2)) (e9 := h8) (h10 := (v_1r r zr kr)) (h11 := (v_s2 r zr znr kr))) hl hk hs
set_option maxRecDepth 100000 in
set_option maxHeartbeats 8000000 in
theorem sS_B_NSNz {x0 x1 x2 : List UInt8} {q0 q1 q2 d : Rat} {d0 d1 d2 : Int} (hp0 : parsB x0 q0 = true) (hd0 : digB 1000 q0 d0 = true) (b0 : 0 ≤ d0 ∧ d0 ≤ 10) (hp1 : parsB x1 q1 = true) (hd1 : digB 1000 q1 d1 = true) (b1 : 0 ≤ d1 ∧ d1 ≤ 10) (hp2 : parsB x2 q2 = true) (hd2 : digB 1000 q2 d2 = true) (b2 : 0 ≤ d2 ∧ d2 ≤ 10) (hl : ∀ x ∈ (moreL x0 x1 x2), x.v.length ≤ 9223372036854775807) (hk : checkE (moreL x0 x1 x2) = (0, 0)) (hc : q2 = q1 + d) (hd : 0 ≤ d) (m2 : SmQ 25 q2) (o0 : rotB 1000 q0 0 false = true) (pq0 : Rg 20 q0) (m0 : SmQ 25 q0) (e1 : q1 = 0) (ps : Rg 20 (q0 + q2)) (ms : SmQ 25 (q0 + q2)) : Cal Tryz.prog OQ 12 [lsA (moreL x0 x1 x2), iA 11] (.t [iA (if d = 0 then 0 else 1), iA 0]) := by
 have zq0 : ¬ q0 = 0 := by have := pq0.pos; grind
 have k0 := smq m0 (show 25 ≤ 1000 by decide)
 subst e1
 have zs : ¬ (q0 + q2) = 0 := by have := ps.pos; grind
 have ks := smq ms (show 25 ≤ 1000 by decide)
 have hs := sign_Z (d := d) pq0 ps m0 ms (by grind) hd
 have hW := cW_B hp0 hd0 b0 hp1 hd1 b1 hp2 hd2 b2
 exact cS_B_NSN hW (cO_B_NSN (K := 1000) (hp2 := hp2) (h2 := (W_whl (smq m2 (by decide)))) (hp0 := hp0) (hp1 := hp1) (g0 := (decide_eq_false (by omega))) (g1 := (decide_eq_false (by omega))) (g2 := (decide_eq_false (by omega))) (g3 := (decide_eq_false (by omega))) (g4 := (decide_eq_false (by omega))) (g5 := (decide_eq_false (by omega))) (g6 := (decide_eq_false (by omega))) (g7 := (decide_eq_false (by omega))) (g8 := (decide_eq_false (by omega))) (g9 := (decide_eq_false (by omega))) (g10 := (decide_eq_false (by omega))) (g11 := (decide_eq_false (by omega))) (h0 := (v_w q0 zq0 k0)) (a3 := rfl) (o3 := o0) (h1 := v_w0) (a4 := rfl) (o4 := (rot_S (r := 0) (by decide))) (f4 := (by decide)) (h4 := v_w0) (e3 := (sgn_num tow_0 pq0.pos)) (e4 := (sgn_nil (tow_1 pq0 m0).1)) (h5 := (v_maz q0 zq0)) (h6 := v_00) (h7 := (v_pW q0 q2 zq0 zs k0 (smq m2 (by decide)))) (h8 := (v_pz _ zs ks)) (e9 := (sgn_num (tow_1 pq0 m0).1 ps.pos)) (h10 := v_1z) (h11 := v_s1)) hl hk hs
set_option maxRecDepth 100000 in
set_option maxHeartbeats 8000000 in
theorem sS_B_SSS {x0 x1 x2 : List UInt8} {q0 q1 q2 r t m : Rat} {d0 d1 d2 : Int} (hp0 : parsB x0 q0 = true) (hd0 : digB 1000 q0 d0 = true) (b0 : 0 ≤ d0 ∧ d0 ≤ 10) (hp1 : parsB x1 q1 = true) (hd1 : digB 1000 q1 d1 = true) (b1 : 0 ≤ d1 ∧ d1 ≤ 10) (hp2 : parsB x2 q2 = true) (hd2 : digB 1000 q2 d2 = true) (b2 : 0 ≤ d2 ∧ d2 ≤ 10) (hl : ∀ x ∈ (moreL x0 x1 x2), x.v.length ≤ 9223372036854775807) (hk : checkE (moreL x0 x1 x2) = (0, 0)) (m0 : SmQ 25 q0) (n0 : 0 ≤ q0) (m1 : SmQ 25 q1) (n1 : 0 ≤ q1) (m2 : SmQ 25 q2) (n2 : 0 ≤ q2) (mr : SmQ 25 r) (mt : SmQ 25 t) (nr : 0 ≤ r) (nt : 0 ≤ t) (o0 : rotB 1000 q0 r true = true) (o1 : rotB 1000 q1 t true = true) (mm : SmQ 25 m) (nn : 0 ≤ m - (r + t)) (o9 : rotB 1000 (q0 + q2 + (r * t + r * t)) m true = true) : Cal Tryz.prog OQ 12 [lsA (moreL x0 x1 x2), iA 11] (.t [iA (if m - (r + t) = 0 then 0 else 1), iA 0]) := by
 have kr := smq mr (show 25 ≤ 1000 by decide)
 have kt := smq mt (show 25 ≤ 1000 by decide)
 have krt := smq (mr.mul mt) (show 25 + 25 ≤ 1000 by decide)
 have kdb := smq ((mr.mul mt).add (mr.mul mt)) (show 25 + 25 + (25 + 25) + 1 ≤ 1000 by decide)
 have ksm := smq (m0.add m2) (show 25 + 25 + 1 ≤ 1000 by decide)
 have nrt : 0 ≤ r * t := Rat.mul_nonneg nr nt
 obtain ⟨s0, e0, f0, -, -⟩ := W_sgn tow_0 n0
 obtain ⟨s1, e1, f1, -, -⟩ := W_sgn tow_0 n1
 have krt2 := smq (mr.add mt) (show 25 + 25 + 1 ≤ 1000 by decide)
 have km := smq mm (show 25 ≤ 1000 by decide)
 obtain ⟨s9, e9, f9, -, -⟩ := W_sgn tow_0 (show 0 ≤ (q0 + q2 + (r * t + r * t)) by grind)
 obtain ⟨s, hs, -, u1, u2⟩ := W_sgn tow_0 nn
 have hv : s = if m - (r + t) = 0 then 0 else 1 := by
  by_cases h : m - (r + t) = 0
  ·rw [if_pos h]; exact u1 h
  ·rw [if_neg h]; exact u2 h
 rw [hv] at hs
 have hW := cW_B hp0 hd0 b0 hp1 hd1 b1 hp2 hd2 b2
 exact cS_B_SSS hW (cO_B_SSS (K := 1000) (g0 := (decide_eq_false (by omega))) (g1 := (decide_eq_false (by omega))) (g2 := (decide_eq_false (by omega))) (g3 := (decide_eq_false (by omega))) (g4 := (decide_eq_false (by omega))) (g5 := (decide_eq_false (by omega))) (g6 := (decide_eq_false (by omega))) (g7 := (decide_eq_false (by omega))) (g8 := (decide_eq_false (by omega))) (g9 := (decide_eq_false (by omega))) (g10 := (decide_eq_false (by omega))) (g11 := (decide_eq_false (by omega))) (hp0 := hp0) (h0 := (W_whl (smq m0 (by decide)))) (hp1 := hp1) (h1 := (W_whl (smq m1 (by decide)))) (hp2 := hp2) (h2 := (W_whl (smq m2 (by decide)))) (e3 := e0) (f3 := f0) (a3 := (W_get _)) (o3 := o0) (h3 := (W_whl kr)) (e4 := e1) (f4 := f1) (a4 := (W_get _)) (o4 := o1) (h4 := (W_whl kt)) (h5 := (W_mul kr kt krt)) (h6 := (W_add krt krt)) (h7 := (W_add (smq m0 (by decide)) (smq m2 (by decide)))) (h8 := (W_add ksm kdb)) (e9 := e9) (f9 := f9) (a9 := (W_get _)) (o9 := o9) (h9 := (W_whl km)) (h10 := (W_add kr kt)) (h11 := (W_sub km krt2))) hl hk hs
set_option maxRecDepth 100000 in
set_option maxHeartbeats 8000000 in
theorem sS_B_SSN {x0 x1 x2 : List UInt8} {q0 q1 q2 r t d : Rat} {d0 d1 d2 : Int} (hp0 : parsB x0 q0 = true) (hd0 : digB 1000 q0 d0 = true) (b0 : 0 ≤ d0 ∧ d0 ≤ 10) (hp1 : parsB x1 q1 = true) (hd1 : digB 1000 q1 d1 = true) (b1 : 0 ≤ d1 ∧ d1 ≤ 10) (hp2 : parsB x2 q2 = true) (hd2 : digB 1000 q2 d2 = true) (b2 : 0 ≤ d2 ∧ d2 ≤ 10) (hl : ∀ x ∈ (moreL x0 x1 x2), x.v.length ≤ 9223372036854775807) (hk : checkE (moreL x0 x1 x2) = (0, 0)) (m0 : SmQ 25 q0) (n0 : 0 ≤ q0) (m1 : SmQ 25 q1) (n1 : 0 ≤ q1) (m2 : SmQ 25 q2) (mr : SmQ 25 r) (mt : SmQ 25 t) (nr : 0 ≤ r) (nt : 0 ≤ t) (o0 : rotB 1000 q0 r true = true) (o1 : rotB 1000 q1 t true = true) (pN : Rg 20 (q0 + q2 + (r * t + r * t))) (mN : SmQ 25 (q0 + q2 + (r * t + r * t))) (o9 : rotB 1000 (q0 + q2 + (r * t + r * t)) 0 false = true) (pp : 0 < r + t) (ml : SmQ 25 (r + t)) (hd : (q0 + q2 + (r * t + r * t)) = (r + t) * (r + t) + d) (pd : 0 < d) : Cal Tryz.prog OQ 12 [lsA (moreL x0 x1 x2), iA 11] (.t [iA 1, iA 0]) := by
 have kr := smq mr (show 25 ≤ 1000 by decide)
 have kt := smq mt (show 25 ≤ 1000 by decide)
 have krt := smq (mr.mul mt) (show 25 + 25 ≤ 1000 by decide)
 have kdb := smq ((mr.mul mt).add (mr.mul mt)) (show 25 + 25 + (25 + 25) + 1 ≤ 1000 by decide)
 have ksm := smq (m0.add m2) (show 25 + 25 + 1 ≤ 1000 by decide)
 have nrt : 0 ≤ r * t := Rat.mul_nonneg nr nt
 obtain ⟨s0, e0, f0, -, -⟩ := W_sgn tow_0 n0
 obtain ⟨s1, e1, f1, -, -⟩ := W_sgn tow_0 n1
 have krt2 := smq (mr.add mt) (show 25 + 25 + 1 ≤ 1000 by decide)
 have zN : ¬ (q0 + q2 + (r * t + r * t)) = 0 := by have := pN.pos; grind
 have zr : ¬ r + t = 0 := by grind
 have hs := sign_C pN pp mN ml hd pd
 rw [← We1 zN] at hs
 have hW := cW_B hp0 hd0 b0 hp1 hd1 b1 hp2 hd2 b2
 exact cS_B_SSN hW (cO_B_SSN (K := 1000) (g0 := (decide_eq_false (by omega))) (g1 := (decide_eq_false (by omega))) (g2 := (decide_eq_false (by omega))) (g3 := (decide_eq_false (by omega))) (g4 := (decide_eq_false (by omega))) (g5 := (decide_eq_false (by omega))) (g6 := (decide_eq_false (by omega))) (g7 := (decide_eq_false (by omega))) (g8 := (decide_eq_false (by omega))) (g9 := (decide_eq_false (by omega))) (g10 := (decide_eq_false (by omega))) (g11 := (decide_eq_false (by omega))) (hp0 := hp0) (h0 := (W_whl (smq m0 (by decide)))) (hp1 := hp1) (h1 := (W_whl (smq m1 (by decide)))) (hp2 := hp2) (h2 := (W_whl (smq m2 (by decide)))) (e3 := e0) (f3 := f0) (a3 := (W_get _)) (o3 := o0) (h3 := (W_whl kr)) (e4 := e1) (f4 := f1) (a4 := (W_get _)) (o4 := o1) (h4 := (W_whl kt)) (h5 := (W_mul kr kt krt)) (h6 := (W_add krt krt)) (h7 := (W_add (smq m0 (by decide)) (smq m2 (by decide)))) (h8 := (W_add ksm kdb)) (e9 := (We1 zN ▸ sgn_num tow_0 pN.pos)) (a9 := (W_get _)) (o9 := o9) (h10 := (W_add kr kt)) (h11 := (We1 zr ▸ v_s0 (r + t) zr (by grind) krt2))) hl hk hs
set_option maxRecDepth 100000 in
set_option maxHeartbeats 8000000 in
theorem sS_B_SSNz {x0 x1 x2 : List UInt8} {q0 q1 q2 r t  : Rat} {d0 d1 d2 : Int} (hp0 : parsB x0 q0 = true) (hd0 : digB 1000 q0 d0 = true) (b0 : 0 ≤ d0 ∧ d0 ≤ 10) (hp1 : parsB x1 q1 = true) (hd1 : digB 1000 q1 d1 = true) (b1 : 0 ≤ d1 ∧ d1 ≤ 10) (hp2 : parsB x2 q2 = true) (hd2 : digB 1000 q2 d2 = true) (b2 : 0 ≤ d2 ∧ d2 ≤ 10) (hl : ∀ x ∈ (moreL x0 x1 x2), x.v.length ≤ 9223372036854775807) (hk : checkE (moreL x0 x1 x2) = (0, 0)) (m0 : SmQ 25 q0) (n0 : 0 ≤ q0) (m1 : SmQ 25 q1) (n1 : 0 ≤ q1) (m2 : SmQ 25 q2) (mr : SmQ 25 r) (mt : SmQ 25 t) (nr : 0 ≤ r) (nt : 0 ≤ t) (o0 : rotB 1000 q0 r true = true) (o1 : rotB 1000 q1 t true = true) (pN : Rg 20 (q0 + q2 + (r * t + r * t))) (mN : SmQ 25 (q0 + q2 + (r * t + r * t))) (o9 : rotB 1000 (q0 + q2 + (r * t + r * t)) 0 false = true) (pp : r + t = 0) : Cal Tryz.prog OQ 12 [lsA (moreL x0 x1 x2), iA 11] (.t [iA 1, iA 0]) := by
 have kr := smq mr (show 25 ≤ 1000 by decide)
 have kt := smq mt (show 25 ≤ 1000 by decide)
 have krt := smq (mr.mul mt) (show 25 + 25 ≤ 1000 by decide)
 have kdb := smq ((mr.mul mt).add (mr.mul mt)) (show 25 + 25 + (25 + 25) + 1 ≤ 1000 by decide)
 have ksm := smq (m0.add m2) (show 25 + 25 + 1 ≤ 1000 by decide)
 have nrt : 0 ≤ r * t := Rat.mul_nonneg nr nt
 obtain ⟨s0, e0, f0, -, -⟩ := W_sgn tow_0 n0
 obtain ⟨s1, e1, f1, -, -⟩ := W_sgn tow_0 n1
 have krt2 := smq (mr.add mt) (show 25 + 25 + 1 ≤ 1000 by decide)
 have zN : ¬ (q0 + q2 + (r * t + r * t)) = 0 := by have := pN.pos; grind
 have hs := sign_C0 pN mN
 rw [← We1 zN] at hs
 have hW := cW_B hp0 hd0 b0 hp1 hd1 b1 hp2 hd2 b2
 exact cS_B_SSN hW (cO_B_SSN (K := 1000) (g0 := (decide_eq_false (by omega))) (g1 := (decide_eq_false (by omega))) (g2 := (decide_eq_false (by omega))) (g3 := (decide_eq_false (by omega))) (g4 := (decide_eq_false (by omega))) (g5 := (decide_eq_false (by omega))) (g6 := (decide_eq_false (by omega))) (g7 := (decide_eq_false (by omega))) (g8 := (decide_eq_false (by omega))) (g9 := (decide_eq_false (by omega))) (g10 := (decide_eq_false (by omega))) (g11 := (decide_eq_false (by omega))) (hp0 := hp0) (h0 := (W_whl (smq m0 (by decide)))) (hp1 := hp1) (h1 := (W_whl (smq m1 (by decide)))) (hp2 := hp2) (h2 := (W_whl (smq m2 (by decide)))) (e3 := e0) (f3 := f0) (a3 := (W_get _)) (o3 := o0) (h3 := (W_whl kr)) (e4 := e1) (f4 := f1) (a4 := (W_get _)) (o4 := o1) (h4 := (W_whl kt)) (h5 := (W_mul kr kt krt)) (h6 := (W_add krt krt)) (h7 := (W_add (smq m0 (by decide)) (smq m2 (by decide)))) (h8 := (W_add ksm kdb)) (e9 := (We1 zN ▸ sgn_num tow_0 pN.pos)) (a9 := (W_get _)) (o9 := o9) (h10 := (W_add kr kt)) (h11 := (We0 pp ▸ v_sz))) hl hk hs
end Go.Proofs.YtajecapgmdfjcaaGreatDoor

/- RealsNested: Sign of both lists, for all numbers. -/
namespace Go.Proofs.YtajecapgmdfjcaaGreatDoor
open Go.RowKit Vn
theorem lt6 {a : Nat} (h : a < 262144) : a < 1000000 := by omega
theorem n_rg {a : Nat} (h0 : 0 < a) (h : a < 1048576) : Rg 20 ((a : Nat) : Rat) := Rg.nat h0 (by omega)
theorem n_sm {a : Nat} (h : a < 1048576) : SmQ 25 ((a : Nat) : Rat) := (sm_qn h).mono (by decide)
theorem n_nn (a : Nat) : (0 : Rat) ≤ ((a : Nat) : Rat) := by exact_mod_cast Nat.zero_le a
theorem sq_lt {r a : Nat} (h : r * r = a) (ha : a < 1048576) : r < 1024 := by
 rcases Nat.lt_or_ge r 1024 with k | k
 ·exact k
 ·have := Nat.mul_le_mul k k
  omega
theorem sq_c {r a : Nat} (h : r * r = a) : ((a : Nat) : Rat) = ((r : Nat) : Rat) * ((r : Nat) : Rat) := by rw [← h, Rat.natCast_mul]
theorem r_o {r a : Nat} (h : r * r = a) (ha : a < 1048576) : rotB 1000 ((a : Nat) : Rat) ((r : Nat) : Rat) true = true := h ▸ rot_S (sq_lt h ha)
theorem r_rg {r a : Nat} (h : r * r = a) (ha : a < 1048576) (h0 : 0 < r) : Rg 10 ((r : Nat) : Rat) := Rg.nat h0 (by have := sq_lt h ha; omega)
theorem r_sm {r a : Nat} (h : r * r = a) (ha : a < 1048576) : SmQ 25 ((r : Nat) : Rat) := n_sm (by have := sq_lt h ha; omega)
theorem pos_N {a : Nat} (h : sqB a = false) : 0 < a := by
 rcases Nat.eq_zero_or_pos a with e | e
 ·subst e; revert h; decide
 ·exact e
theorem s_rg {a b : Nat} (h0 : 0 < a + b) (h : a + b < 1048576) : Rg 22 (((a : Nat) : Rat) + ((b : Nat) : Rat)) := by
 rw [← Rat.natCast_add]; exact (n_rg h0 h).mono (by decide)
theorem s_rg20 {a b : Nat} (h0 : 0 < a + b) (h : a + b < 1048576) : Rg 20 (((a : Nat) : Rat) + ((b : Nat) : Rat)) := by
 rw [← Rat.natCast_add]; exact n_rg h0 h
theorem s_sm {a b : Nat} (h : a + b < 1048576) : SmQ 25 (((a : Nat) : Rat) + ((b : Nat) : Rat)) := by
 rw [← Rat.natCast_add]; exact n_sm h
theorem tlen {a : Nat} (h : a < 262144) : (tx a).length ≤ 9223372036854775807 := by have := tx_len (lt6 h); omega
theorem nestA {a b : Nat} (ha : a < 65536) (hb : b < 65536) : Cal Tryz.prog OQ 12 [lsA (nestL (tx a) (tx b)), iA 10] (.t [iA 0, iA 0]) := by
 have A1 := pars_tx (a := a) (by omega)
 have A2 := dig_tx (a := a) (by omega)
 have B1 := pars_tx (a := b) (by omega)
 have B2 := dig_tx (a := b) (by omega)
 have hl := len_A (tlen (a := a) (by omega)) (tlen (a := b) (by omega))
 have hk := chk_A (pars_v (a := a) (by omega)) (pars_v (a := b) (by omega))
 cases sa : sqB a with
 | false =>
  have pa := pos_N sa
  cases sb : sqB b with
  | false => exact sS_A_NNN A1 A2.1 A2.2 B1 B2.1 B2.2 hl hk (rot_N (by omega) sa) (n_rg pa (by omega)) (n_sm (by omega)) (rot_N (by omega) sb) (n_rg (pos_N sb) (by omega)) (n_sm (by omega)) (s_rg (by omega) (by omega)) (s_sm (by omega))
  | true =>
   have hr := sqB_true sb
   generalize isqC b = r at hr
   rcases Nat.eq_zero_or_pos r with h0 | h0
   ·have hb0 : b = 0 := by rw [← hr, h0]
    exact sS_A_NSNz A1 A2.1 A2.2 B1 B2.1 B2.2 hl hk (rot_N (by omega) sa) (n_rg pa (by omega)) (n_sm (by omega)) (by rw [hb0]; rfl)
   ·exact sS_A_NSN A1 A2.1 A2.2 B1 B2.1 B2.2 hl hk (rot_N (by omega) sa) (n_rg pa (by omega)) (n_sm (by omega)) (r_o hr (by omega)) (sq_c hr) (r_rg hr (by omega) h0) (r_sm hr (by omega)) (n_sm (by omega)) (s_rg (by omega) (by omega)) (s_sm (by omega))
 | true =>
  have hr := sqB_true sa
  generalize isqC a = r at hr
  cases sb : sqB b with
  | false =>
   have pb := pos_N sb
   rcases Nat.eq_zero_or_pos r with h0 | h0
   ·have ha0 : a = 0 := by rw [← hr, h0]
    exact sS_A_SNNz A1 A2.1 A2.2 B1 B2.1 B2.2 hl hk (by rw [ha0]; rfl) (rot_N (by omega) sb) (n_rg pb (by omega)) (n_sm (by omega))
   ·exact sS_A_SNN A1 A2.1 A2.2 B1 B2.1 B2.2 hl hk (r_o hr (by omega)) (sq_c hr) (r_rg hr (by omega) h0) (r_sm hr (by omega)) (n_sm (by omega)) (rot_N (by omega) sb) (n_rg pb (by omega)) (n_sm (by omega)) (s_rg (by omega) (by omega)) (s_sm (by omega))
  | true =>
   have ht := sqB_true sb
   generalize isqC b = t at ht
   have h1 := sq_lt hr (by omega)
   have h2 := sq_lt ht (by omega)
   have e : ((a : Nat) : Rat) + ((b : Nat) : Rat) + (((r : Nat) : Rat) * ((t : Nat) : Rat) + ((r : Nat) : Rat) * ((t : Nat) : Rat)) = (((r + t) * (r + t) : Nat) : Rat) := by
    rw [Rat.natCast_mul, Rat.natCast_add, sq_c hr, sq_c ht]; grind
   have hN : (r + t) * (r + t) < 1048576 := by
    have h3 : r + t ≤ 512 := by
     rcases Nat.lt_or_ge r 256 with k | k
     ·rcases Nat.lt_or_ge t 256 with k2 | k2
      ·omega
      ·have := Nat.mul_le_mul k2 k2; omega
     ·have := Nat.mul_le_mul k k; omega
    have := Nat.mul_le_mul h3 h3
    omega
   exact sS_A_SSS A1 A2.1 A2.2 B1 B2.1 B2.2 hl hk (n_sm (by omega)) (n_nn a) (n_sm (by omega)) (n_nn b) (n_sm (by omega)) (n_sm (by omega)) (n_nn r) (n_nn t) (r_o hr (by omega)) (r_o ht (by omega))
    (by rw [e, ← Rat.natCast_add]; exact r_o (r := r + t) rfl hN)
theorem moreB {a b d : Nat} (ha : a < 65536) (hb : b < 65536) (hd : d < 65536) : Cal Tryz.prog OQ 12 [lsA (moreL (tx a) (tx b) (tx (b + d))), iA 11] (.t [iA (if d = 0 then 0 else 1), iA 0]) := by
 have A1 := pars_tx (a := a) (by omega)
 have A2 := dig_tx (a := a) (by omega)
 have B1 := pars_tx (a := b) (by omega)
 have B2 := dig_tx (a := b) (by omega)
 have C1 := pars_tx (a := b + d) (by omega)
 have C2 := dig_tx (a := b + d) (by omega)
 have hl := len_B (tlen (a := a) (by omega)) (tlen (a := b) (by omega)) (tlen (a := b + d) (by omega))
 have hk := chk_B (pars_v (a := a) (by omega)) (pars_v (a := b) (by omega)) (pars_v (a := b + d) (by omega))
 have hc : ((b + d : Nat) : Rat) = ((b : Nat) : Rat) + ((d : Nat) : Rat) := Rat.natCast_add b d
 have nd := n_nn d
 have m2 := n_sm (a := b + d) (by omega)
 have hres : (if d = 0 then (0 : Int) else 1) = if ((d : Nat) : Rat) = 0 then 0 else 1 := by
  by_cases h : d = 0
  ·subst h; rfl
  ·have : ¬ ((d : Nat) : Rat) = 0 := by exact_mod_cast h
   rw [if_neg h, if_neg this]
 cases sa : sqB a with
 | false =>
  have pa := pos_N sa
  rw [hres]
  cases sb : sqB b with
  | false => exact sS_B_NNN A1 A2.1 A2.2 B1 B2.1 B2.2 C1 C2.1 C2.2 hl hk hc nd m2 (rot_N (by omega) sa) (n_rg pa (by omega)) (n_sm (by omega)) (rot_N (by omega) sb) (n_rg (pos_N sb) (by omega)) (n_sm (by omega)) (s_rg (by omega) (by omega)) (s_sm (by omega))
  | true =>
   have hr := sqB_true sb
   generalize isqC b = r at hr
   rcases Nat.eq_zero_or_pos r with h0 | h0
   ·have hb0 : b = 0 := by rw [← hr, h0]
    exact sS_B_NSNz A1 A2.1 A2.2 B1 B2.1 B2.2 C1 C2.1 C2.2 hl hk hc nd m2 (rot_N (by omega) sa) (n_rg pa (by omega)) (n_sm (by omega)) (by rw [hb0]; rfl) (s_rg20 (by omega) (by omega)) (s_sm (by omega))
   ·exact sS_B_NSN A1 A2.1 A2.2 B1 B2.1 B2.2 C1 C2.1 C2.2 hl hk hc nd m2 (rot_N (by omega) sa) (n_rg pa (by omega)) (n_sm (by omega)) (r_o hr (by omega)) (sq_c hr) (r_rg hr (by omega) h0) (r_sm hr (by omega)) (n_sm (by omega)) (s_rg (by omega) (by omega)) (s_sm (by omega))
 | true =>
  have hr := sqB_true sa
  generalize isqC a = r at hr
  cases sb : sqB b with
  | false =>
   have pb := pos_N sb
   rw [hres]
   rcases Nat.eq_zero_or_pos r with h0 | h0
   ·have ha0 : a = 0 := by rw [← hr, h0]
    exact sS_B_SNNz A1 A2.1 A2.2 B1 B2.1 B2.2 C1 C2.1 C2.2 hl hk hc nd m2 (by rw [ha0]; rfl) (rot_N (by omega) sb) (n_rg pb (by omega)) (n_sm (by omega)) (n_rg (by omega) (by omega)) m2
   ·exact sS_B_SNN A1 A2.1 A2.2 B1 B2.1 B2.2 C1 C2.1 C2.2 hl hk hc nd m2 (r_o hr (by omega)) (sq_c hr) (r_rg hr (by omega) h0) (r_sm hr (by omega)) (n_sm (by omega)) (rot_N (by omega) sb) (n_rg pb (by omega)) (n_sm (by omega)) (s_rg (by omega) (by omega)) (s_sm (by omega))
  | true =>
   have ht := sqB_true sb
   generalize isqC b = t at ht
   have h1 := sq_lt hr (by omega)
   have h2 := sq_lt ht (by omega)
   have h3 : r < 256 ∧ t < 256 := by
    refine ⟨?_, ?_⟩
    ·rcases Nat.lt_or_ge r 256 with k | k
     ·exact k
     ·have := Nat.mul_le_mul k k; omega
    ·rcases Nat.lt_or_ge t 256 with k | k
     ·exact k
     ·have := Nat.mul_le_mul k k; omega
   obtain ⟨N, hN⟩ : ∃ N, N = a + (b + d) + (r * t + r * t) := ⟨_, rfl⟩
   have hrt : r * t ≤ 255 * 255 := Nat.mul_le_mul (by omega) (by omega)
   have hN2 : N < 1048576 := by omega
   have e2 : N = (r + t) * (r + t) + d := by
    have : (r + t) * (r + t) = r * r + t * t + (r * t + r * t) := by grind
    omega
   have e : ((a : Nat) : Rat) + ((b + d : Nat) : Rat) + (((r : Nat) : Rat) * ((t : Nat) : Rat) + ((r : Nat) : Rat) * ((t : Nat) : Rat)) = ((N : Nat) : Rat) := by
    simp only [hN, Rat.natCast_add, Rat.natCast_mul]
   cases sN : sqB N with
   | true =>
    have hm := sqB_true sN
    generalize isqC N = m at hm
    have m1024 := sq_lt hm hN2
    have hge : r + t ≤ m := by
     rcases Nat.lt_or_ge m (r + t) with k | k
     ·have := Nat.mul_le_mul (show m + 1 ≤ r + t by omega) (show m + 1 ≤ r + t by omega)
      have e3 : (m + 1) * (m + 1) = m * m + m + m + 1 := by grind
      omega
     ·exact k
    obtain ⟨u, rfl⟩ : ∃ u, m = r + t + u := ⟨m - (r + t), by omega⟩
    have eu : ((r + t + u : Nat) : Rat) - (((r : Nat) : Rat) + ((t : Nat) : Rat)) = ((u : Nat) : Rat) := by
     rw [Rat.natCast_add, Rat.natCast_add]; grind
    have hres2 : (if d = 0 then (0 : Int) else 1) = if ((r + t + u : Nat) : Rat) - (((r : Nat) : Rat) + ((t : Nat) : Rat)) = 0 then 0 else 1 := by
     rw [eu]
     by_cases h : u = 0
     ·have hd0 : d = 0 := by subst h; simp only [Nat.add_zero] at hm; omega
      subst h; rw [if_pos hd0]; rfl
     ·have hd0 : ¬ d = 0 := fun h' => by
       have e4 : (r + t + u) * (r + t + u) = (r + t) * (r + t) + (r + t + u) * u + (r + t) * u := by grind
       have : 0 < (r + t + u) * u := Nat.mul_pos (by omega) (by omega)
       omega
      have : ¬ ((u : Nat) : Rat) = 0 := by exact_mod_cast h
      rw [if_neg hd0, if_neg this]
    rw [hres2]
    exact sS_B_SSS A1 A2.1 A2.2 B1 B2.1 B2.2 C1 C2.1 C2.2 hl hk (n_sm (by omega)) (n_nn a) (n_sm (by omega)) (n_nn b) m2 (n_nn _) (n_sm (by omega)) (n_sm (by omega)) (n_nn r) (n_nn t) (r_o hr (by omega)) (r_o ht (by omega))
     (n_sm (by omega)) (by rw [eu]; exact n_nn u) (by rw [e]; exact r_o hm hN2)
   | false =>
    have pN := pos_N sN
    have hd0 : ¬ d = 0 := fun h' => by
     rw [e2, h', Nat.add_zero, sqB_sq] at sN
     cases sN
    rw [if_neg hd0]
    have hdp : (0 : Rat) < ((d : Nat) : Rat) := by
     have : 0 < d := by omega
     exact_mod_cast this
    rcases Nat.eq_zero_or_pos (r + t) with h0 | h0
    ·exact sS_B_SSNz A1 A2.1 A2.2 B1 B2.1 B2.2 C1 C2.1 C2.2 hl hk (n_sm (by omega)) (n_nn a) (n_sm (by omega)) (n_nn b) m2 (n_sm (by omega)) (n_sm (by omega)) (n_nn r) (n_nn t) (r_o hr (by omega)) (r_o ht (by omega))
      (by rw [e]; exact n_rg pN hN2) (by rw [e]; exact n_sm hN2) (by rw [e]; exact rot_N hN2 sN) (by rw [← Rat.natCast_add, h0]; rfl)
    ·exact sS_B_SSN (d := ((d : Nat) : Rat)) A1 A2.1 A2.2 B1 B2.1 B2.2 C1 C2.1 C2.2 hl hk (n_sm (by omega)) (n_nn a) (n_sm (by omega)) (n_nn b) m2 (n_sm (by omega)) (n_sm (by omega)) (n_nn r) (n_nn t) (r_o hr (by omega)) (r_o ht (by omega))
      (by rw [e]; exact n_rg pN hN2) (by rw [e]; exact n_sm hN2) (by rw [e]; exact rot_N hN2 sN) (by rw [← Rat.natCast_add]; exact_mod_cast h0) (by rw [← Rat.natCast_add]; exact n_sm (by omega))
      (by rw [e, e2, Rat.natCast_add, Rat.natCast_mul, Rat.natCast_add]) hdp
end Go.Proofs.YtajecapgmdfjcaaGreatDoor

/- open: node 10 of the first list. PRINTED by gen/em.py. -/
namespace Go.Proofs.YtajecapgmdfjcaaGreatDoor
open Go.RowKit Vn
set_option maxRecDepth 100000 in
set_option maxHeartbeats 8000000 in
theorem cO_a_10 : Cal Tryz.prog OQ 85 [lsA nst, .c (wC [1, 1, 1, 1, 2, 4, 2, 6, 6, 2, 8]), iA 10] (.t [.c (.e [.sl 1 [[eC [(0, 2)]], [eC [(0, 3)]], [eC [(0, 5), (3, 2)]]], .mp false [0, 1, 2, 3, 4, 5, 6, 7, 8, 9, 10] [[eC [(0, 2)]], [eC [(0, 3)]], [eC [(1, 1)]], [eC [(2, 1)]], [eC [(3, 1)]], [eC [(3, 2)]], [eC [(0, 5)]], [eC [(0, 5), (3, 2)]], [eC [(4, 1)]], [eC [(1, 1), (2, 1)]], [eC [(1, -1), (2, -1), (4, 1)]]], .mp false [0, 1, 2, 3, 4, 5, 6, 7, 8, 9, 10] [bC true, bC true, bC false, bC false, bC false, bC false, bC true, bC false, bC false, bC false, bC false], .sl 1 [[.v (.int .i64 2)], [.v (.int .i64 3)], [.v (.int .i64 8)]]]), iA 0]) := by
 refine fn_callD [(7, [(0, 8), (1, 3), (4, 2000000)])] TK MX (H := HL Tryz.prog OQ TB FTo 3) (HL_ok TK MX FTo_ok 3) (nd := false) Tryz.func85 rfl (by kernel_rfl) (by kernel_rfl) (by kernel_rfl) rfl rfl ?_
 conv => whnf
 refine ⟨_, cN_a_10, ?_⟩
 conv => whnf
 intro R
 conv => whnf
 refine ⟨12, ?_⟩
 conv => whnf
 repeat (first | (refine ⟨_, cUses, ?_⟩; (conv => whnf)) | (refine ⟨rfl, ?_⟩; (conv => whnf)))
 refine ⟨_, parsT [50] 2 (by kernel_rfl), ?_⟩
 conv => whnf
 refine .inl ⟨_, whlT 2 [(0, 2)] 1000 (by kernel_rfl), ?_⟩
 conv => whnf
 repeat (first | (refine ⟨_, cUses, ?_⟩; (conv => whnf)) | (refine ⟨rfl, ?_⟩; (conv => whnf)))
 refine ⟨_, parsT [51] 3 (by kernel_rfl), ?_⟩
 conv => whnf
 refine .inl ⟨_, whlT 3 [(0, 3)] 1000 (by kernel_rfl), ?_⟩
 conv => whnf
 repeat (first | (refine ⟨_, cUses, ?_⟩; (conv => whnf)) | (refine ⟨rfl, ?_⟩; (conv => whnf)))
 refine ⟨_, sgnT [] [(0, 2)] 1000 6 8 1 [] (by kernel_rfl), rfl, ?_⟩
 conv => whnf
 refine ⟨_, ratT [(0, 2)] 2 (by kernel_rfl), ?_⟩
 conv => whnf
 refine ⟨_, rotT 2 0 false 1000 (by kernel_rfl), ?_⟩
 conv => whnf
 refine ⟨_, cInt (n := 1) (by omega) (by omega), ?_⟩
 conv => whnf
 refine ⟨_, _, witT [] 1 1 [(1, 1)] 1000 (by kernel_rfl), ?_⟩
 conv => whnf
 repeat (first | (refine ⟨_, cUses, ?_⟩; (conv => whnf)) | (refine ⟨rfl, ?_⟩; (conv => whnf)))
 refine ⟨_, sgnT [[(0, 2)]] [(0, 3)] 1000 6 8 1 [] (by kernel_rfl), rfl, ?_⟩
 conv => whnf
 refine ⟨_, ratT [(0, 3)] 3 (by kernel_rfl), ?_⟩
 conv => whnf
 refine ⟨_, rotT 3 0 false 1000 (by kernel_rfl), ?_⟩
 conv => whnf
 refine ⟨_, cInt (n := 1) (by omega) (by omega), ?_⟩
 conv => whnf
 refine ⟨_, _, witT [] 2 1 [(2, 1)] 1000 (by kernel_rfl), ?_⟩
 conv => whnf
 repeat (first | (refine ⟨_, cUses, ?_⟩; (conv => whnf)) | (refine ⟨rfl, ?_⟩; (conv => whnf)))
 refine ⟨_, mulT [[(0, 2)], [(0, 3)]] [(1, 1)] [(2, 1)] [(3, 1)] 1000 6 [] (by kernel_rfl), flat_E _, ?_⟩
 conv => whnf
 repeat (first | (refine ⟨_, cUses, ?_⟩; (conv => whnf)) | (refine ⟨rfl, ?_⟩; (conv => whnf)))
 refine .inl ⟨_, addT [(3, 1)] [(3, 1)] [(3, 2)] 1000 (by kernel_rfl), ?_⟩
 conv => whnf
 repeat (first | (refine ⟨_, cUses, ?_⟩; (conv => whnf)) | (refine ⟨rfl, ?_⟩; (conv => whnf)))
 refine .inl ⟨_, addT [(0, 2)] [(0, 3)] [(0, 5)] 1000 (by kernel_rfl), ?_⟩
 conv => whnf
 repeat (first | (refine ⟨_, cUses, ?_⟩; (conv => whnf)) | (refine ⟨rfl, ?_⟩; (conv => whnf)))
 refine .inl ⟨_, addT [(0, 5)] [(3, 2)] [(0, 5), (3, 2)] 1000 (by kernel_rfl), ?_⟩
 conv => whnf
 repeat (first | (refine ⟨_, cUses, ?_⟩; (conv => whnf)) | (refine ⟨rfl, ?_⟩; (conv => whnf)))
 refine ⟨_, sgnT [[(0, 2)], [(0, 3)]] [(0, 5), (3, 2)] 1000 6 8 1 [] (by kernel_rfl), rfl, ?_⟩
 conv => whnf
 refine ⟨_, cInt (n := 1) (by omega) (by omega), ?_⟩
 conv => whnf
 refine ⟨_, _, witT [] 4 1 [(4, 1)] 1000 (by kernel_rfl), ?_⟩
 conv => whnf
 repeat (first | (refine ⟨_, cUses, ?_⟩; (conv => whnf)) | (refine ⟨rfl, ?_⟩; (conv => whnf)))
 refine .inl ⟨_, addT [(1, 1)] [(2, 1)] [(1, 1), (2, 1)] 1000 (by kernel_rfl), ?_⟩
 conv => whnf
 repeat (first | (refine ⟨_, cUses, ?_⟩; (conv => whnf)) | (refine ⟨rfl, ?_⟩; (conv => whnf)))
 refine .inl ⟨_, subT [(4, 1)] [(1, 1), (2, 1)] [(1, -1), (2, -1), (4, 1)] 1000 (by kernel_rfl), ?_⟩
 conv => whnf
 repeat (first | (refine ⟨_, cUses, ?_⟩; (conv => whnf)) | (refine ⟨rfl, ?_⟩; (conv => whnf)))
 rfl
end Go.Proofs.YtajecapgmdfjcaaGreatDoor

/- open: others. PRINTED by gen/em.py. -/
namespace Go.Proofs.YtajecapgmdfjcaaGreatDoor
open Go.RowKit Vn
set_option maxRecDepth 100000 in
set_option maxHeartbeats 8000000 in
theorem cO_a_2 : Cal Tryz.prog OQ 85 [lsA nst, .c (wC [1, 1, 1, 1, 2, 4, 2, 6, 6, 2, 8]), iA 2] (.t [.c (.e [.sl 1 [[eC [(0, 2)]]], .mp false [0, 2] [[eC [(0, 2)]], [eC [(1, 1)]]], .mp false [0, 2] [bC true, bC false], .sl 1 [[.v (.int .i64 2)]]]), iA 0]) := by
 refine fn_callD [(7, [(0, 8), (1, 3), (4, 2000000)])] TK MX (H := HL Tryz.prog OQ TB FTo 3) (HL_ok TK MX FTo_ok 3) (nd := false) Tryz.func85 rfl (by kernel_rfl) (by kernel_rfl) (by kernel_rfl) rfl rfl ?_
 conv => whnf
 refine ⟨_, cN_a_2, ?_⟩
 conv => whnf
 intro R
 conv => whnf
 refine ⟨4, ?_⟩
 conv => whnf
 repeat (first | (refine ⟨_, cUses, ?_⟩; (conv => whnf)) | (refine ⟨rfl, ?_⟩; (conv => whnf)))
 refine ⟨_, parsT [50] 2 (by kernel_rfl), ?_⟩
 conv => whnf
 refine .inl ⟨_, whlT 2 [(0, 2)] 1000 (by kernel_rfl), ?_⟩
 conv => whnf
 repeat (first | (refine ⟨_, cUses, ?_⟩; (conv => whnf)) | (refine ⟨rfl, ?_⟩; (conv => whnf)))
 refine ⟨_, sgnT [] [(0, 2)] 1000 6 8 1 [] (by kernel_rfl), rfl, ?_⟩
 conv => whnf
 refine ⟨_, ratT [(0, 2)] 2 (by kernel_rfl), ?_⟩
 conv => whnf
 refine ⟨_, rotT 2 0 false 1000 (by kernel_rfl), ?_⟩
 conv => whnf
 refine ⟨_, cInt (n := 1) (by omega) (by omega), ?_⟩
 conv => whnf
 refine ⟨_, _, witT [] 1 1 [(1, 1)] 1000 (by kernel_rfl), ?_⟩
 conv => whnf
 repeat (first | (refine ⟨_, cUses, ?_⟩; (conv => whnf)) | (refine ⟨rfl, ?_⟩; (conv => whnf)))
 rfl
set_option maxRecDepth 100000 in
set_option maxHeartbeats 8000000 in
theorem cO_b_11 : Cal Tryz.prog OQ 85 [lsA nstB, .c (wC [1, 1, 1, 1, 2, 4, 2, 6, 6, 2, 8, 2]), iA 11] (.t [.c (.e [.sl 1 [[eC [(0, 2)]], [eC [(0, 3)]]], .mp false [0, 1, 2, 3, 11] [[eC [(0, 2)]], [eC [(0, 3)]], [eC [(1, 1)]], [eC [(2, 1)]], [eC [(1, 1), (2, -1)]]], .mp false [0, 1, 2, 3, 11] [bC true, bC true, bC false, bC false, bC false], .sl 1 [[.v (.int .i64 2)], [.v (.int .i64 3)]]]), iA 0]) := by
 refine fn_callD [(7, [(0, 8), (1, 3), (4, 2000000)])] TK MX (H := HL Tryz.prog OQ TB FTo 3) (HL_ok TK MX FTo_ok 3) (nd := false) Tryz.func85 rfl (by kernel_rfl) (by kernel_rfl) (by kernel_rfl) rfl rfl ?_
 conv => whnf
 refine ⟨_, cN_b_11, ?_⟩
 conv => whnf
 intro R
 conv => whnf
 refine ⟨13, ?_⟩
 conv => whnf
 repeat (first | (refine ⟨_, cUses, ?_⟩; (conv => whnf)) | (refine ⟨rfl, ?_⟩; (conv => whnf)))
 refine ⟨_, parsT [50] 2 (by kernel_rfl), ?_⟩
 conv => whnf
 refine .inl ⟨_, whlT 2 [(0, 2)] 1000 (by kernel_rfl), ?_⟩
 conv => whnf
 repeat (first | (refine ⟨_, cUses, ?_⟩; (conv => whnf)) | (refine ⟨rfl, ?_⟩; (conv => whnf)))
 refine ⟨_, parsT [51] 3 (by kernel_rfl), ?_⟩
 conv => whnf
 refine .inl ⟨_, whlT 3 [(0, 3)] 1000 (by kernel_rfl), ?_⟩
 conv => whnf
 repeat (first | (refine ⟨_, cUses, ?_⟩; (conv => whnf)) | (refine ⟨rfl, ?_⟩; (conv => whnf)))
 refine ⟨_, sgnT [] [(0, 2)] 1000 6 8 1 [] (by kernel_rfl), rfl, ?_⟩
 conv => whnf
 refine ⟨_, ratT [(0, 2)] 2 (by kernel_rfl), ?_⟩
 conv => whnf
 refine ⟨_, rotT 2 0 false 1000 (by kernel_rfl), ?_⟩
 conv => whnf
 refine ⟨_, cInt (n := 1) (by omega) (by omega), ?_⟩
 conv => whnf
 refine ⟨_, _, witT [] 1 1 [(1, 1)] 1000 (by kernel_rfl), ?_⟩
 conv => whnf
 repeat (first | (refine ⟨_, cUses, ?_⟩; (conv => whnf)) | (refine ⟨rfl, ?_⟩; (conv => whnf)))
 refine ⟨_, sgnT [[(0, 2)]] [(0, 3)] 1000 6 8 1 [] (by kernel_rfl), rfl, ?_⟩
 conv => whnf
 refine ⟨_, ratT [(0, 3)] 3 (by kernel_rfl), ?_⟩
 conv => whnf
 refine ⟨_, rotT 3 0 false 1000 (by kernel_rfl), ?_⟩
 conv => whnf
 refine ⟨_, cInt (n := 1) (by omega) (by omega), ?_⟩
 conv => whnf
 refine ⟨_, _, witT [] 2 1 [(2, 1)] 1000 (by kernel_rfl), ?_⟩
 conv => whnf
 repeat (first | (refine ⟨_, cUses, ?_⟩; (conv => whnf)) | (refine ⟨rfl, ?_⟩; (conv => whnf)))
 refine .inl ⟨_, subT [(1, 1)] [(2, 1)] [(1, 1), (2, -1)] 1000 (by kernel_rfl), ?_⟩
 conv => whnf
 repeat (first | (refine ⟨_, cUses, ?_⟩; (conv => whnf)) | (refine ⟨rfl, ?_⟩; (conv => whnf)))
 rfl
set_option maxRecDepth 100000 in
set_option maxHeartbeats 8000000 in
theorem cO_c_0 : Cal Tryz.prog OQ 85 [lsA nstC, .c (wC [1, 1]), iA 0] (.t [.c (.e [.v (.slice none 0 0), .mp false [0] [[eC [(0, -1)]]], .mp false [0] [bC true], .v (.slice none 0 0)]), iA 0]) := by
 refine fn_callD [(7, [(0, 8), (1, 3), (4, 2000000)])] TK MX (H := HL Tryz.prog OQ TB FTo 3) (HL_ok TK MX FTo_ok 3) (nd := false) Tryz.func85 rfl (by kernel_rfl) (by kernel_rfl) (by kernel_rfl) rfl rfl ?_
 conv => whnf
 refine ⟨_, cN_c_0, ?_⟩
 conv => whnf
 intro R
 conv => whnf
 refine ⟨2, ?_⟩
 conv => whnf
 repeat (first | (refine ⟨_, cUses, ?_⟩; (conv => whnf)) | (refine ⟨rfl, ?_⟩; (conv => whnf)))
 refine ⟨_, parsT [45, 49] (-1) (by kernel_rfl), ?_⟩
 conv => whnf
 refine .inl ⟨_, whlT (-1) [(0, -1)] 1000 (by kernel_rfl), ?_⟩
 conv => whnf
 repeat (first | (refine ⟨_, cUses, ?_⟩; (conv => whnf)) | (refine ⟨rfl, ?_⟩; (conv => whnf)))
 rfl
set_option maxRecDepth 100000 in
set_option maxHeartbeats 8000000 in
theorem cO_c_1 : Cal Tryz.prog OQ 85 [lsA nstC, .c (wC [1, 1]), iA 1] (.t [.c (.v (.pointer none)), iA 9]) := by
 refine fn_callD [(7, [(0, 8), (1, 3), (4, 2000000)])] TK MX (H := HL Tryz.prog OQ TB FTo 3) (HL_ok TK MX FTo_ok 3) (nd := false) Tryz.func85 rfl (by kernel_rfl) (by kernel_rfl) (by kernel_rfl) rfl rfl ?_
 conv => whnf
 refine ⟨_, cN_c_1, ?_⟩
 conv => whnf
 intro R
 conv => whnf
 refine ⟨3, ?_⟩
 conv => whnf
 repeat (first | (refine ⟨_, cUses, ?_⟩; (conv => whnf)) | (refine ⟨rfl, ?_⟩; (conv => whnf)))
 refine ⟨_, parsT [45, 49] (-1) (by kernel_rfl), ?_⟩
 conv => whnf
 refine .inl ⟨_, whlT (-1) [(0, -1)] 1000 (by kernel_rfl), ?_⟩
 conv => whnf
 repeat (first | (refine ⟨_, cUses, ?_⟩; (conv => whnf)) | (refine ⟨rfl, ?_⟩; (conv => whnf)))
 refine ⟨_, sgnT [] [(0, -1)] 1000 6 8 (-1) [] (by kernel_rfl), rfl, ?_⟩
 conv => whnf
 repeat (first | (refine ⟨_, cUses, ?_⟩; (conv => whnf)) | (refine ⟨rfl, ?_⟩; (conv => whnf)))
 rfl
end Go.Proofs.YtajecapgmdfjcaaGreatDoor

/- first, value, Sign. PRINTED by gen/em.py. -/
namespace Go.Proofs.YtajecapgmdfjcaaGreatDoor
open Go.RowKit Vn
set_option maxRecDepth 100000 in
set_option maxHeartbeats 8000000 in
theorem cF_a_10 : Cal Tryz.prog OQ 44 [lsA nst, iA 10] (.t [.c (.e [.sl 1 [[eC [(0, 2)]], [eC [(0, 3)]], [eC [(0, 5), (3, 2)]]], .mp false [0, 1, 2, 3, 4, 5, 6, 7, 8, 9, 10] [[eC [(0, 2)]], [eC [(0, 3)]], [eC [(1, 1)]], [eC [(2, 1)]], [eC [(3, 1)]], [eC [(3, 2)]], [eC [(0, 5)]], [eC [(0, 5), (3, 2)]], [eC [(4, 1)]], [eC [(1, 1), (2, 1)]], [eC [(1, -1), (2, -1), (4, 1)]]], .mp false [0, 1, 2, 3, 4, 5, 6, 7, 8, 9, 10] [bC true, bC true, bC false, bC false, bC false, bC false, bC true, bC false, bC false, bC false, bC false], .sl 1 [[.v (.int .i64 2)], [.v (.int .i64 3)], [.v (.int .i64 8)]]]), iA 0]) := by
 refine fn_callD [(18, [(6, 2000000), (8, 11), (10, 2000000)]), (23, [(0, 9)])] TK MX (H := HL Tryz.prog OQ TB FTo 3) (HL_ok TK MX FTo_ok 3) (nd := false) Tryz.func44 rfl (by kernel_rfl) (by kernel_rfl) (by kernel_rfl) rfl rfl ?_
 conv => whnf
 refine ⟨_, cW_a, ?_⟩
 conv => whnf
 refine ⟨_, cO_a_10, ?_⟩
 conv => whnf
 rfl
set_option maxRecDepth 100000 in
set_option maxHeartbeats 8000000 in
theorem cF_a_2 : Cal Tryz.prog OQ 44 [lsA nst, iA 2] (.t [.c (.e [.sl 1 [[eC [(0, 2)]]], .mp false [0, 2] [[eC [(0, 2)]], [eC [(1, 1)]]], .mp false [0, 2] [bC true, bC false], .sl 1 [[.v (.int .i64 2)]]]), iA 0]) := by
 refine fn_callD [(18, [(6, 2000000), (8, 11), (10, 2000000)]), (23, [(0, 9)])] TK MX (H := HL Tryz.prog OQ TB FTo 3) (HL_ok TK MX FTo_ok 3) (nd := false) Tryz.func44 rfl (by kernel_rfl) (by kernel_rfl) (by kernel_rfl) rfl rfl ?_
 conv => whnf
 refine ⟨_, cW_a, ?_⟩
 conv => whnf
 refine ⟨_, cO_a_2, ?_⟩
 conv => whnf
 rfl
set_option maxRecDepth 100000 in
set_option maxHeartbeats 8000000 in
theorem cF_b_11 : Cal Tryz.prog OQ 44 [lsA nstB, iA 11] (.t [.c (.e [.sl 1 [[eC [(0, 2)]], [eC [(0, 3)]]], .mp false [0, 1, 2, 3, 11] [[eC [(0, 2)]], [eC [(0, 3)]], [eC [(1, 1)]], [eC [(2, 1)]], [eC [(1, 1), (2, -1)]]], .mp false [0, 1, 2, 3, 11] [bC true, bC true, bC false, bC false, bC false], .sl 1 [[.v (.int .i64 2)], [.v (.int .i64 3)]]]), iA 0]) := by
 refine fn_callD [(18, [(6, 2000000), (8, 11), (10, 2000000)]), (23, [(0, 9)])] TK MX (H := HL Tryz.prog OQ TB FTo 3) (HL_ok TK MX FTo_ok 3) (nd := false) Tryz.func44 rfl (by kernel_rfl) (by kernel_rfl) (by kernel_rfl) rfl rfl ?_
 conv => whnf
 refine ⟨_, cW_b, ?_⟩
 conv => whnf
 refine ⟨_, cO_b_11, ?_⟩
 conv => whnf
 rfl
set_option maxRecDepth 100000 in
set_option maxHeartbeats 8000000 in
theorem cF_c_1 : Cal Tryz.prog OQ 44 [lsA nstC, iA 1] (.t [.c (.v (.pointer none)), iA 9]) := by
 refine fn_callD [(18, [(6, 2000000), (8, 11), (10, 2000000)]), (23, [(0, 9)])] TK MX (H := HL Tryz.prog OQ TB FTo 3) (HL_ok TK MX FTo_ok 3) (nd := false) Tryz.func44 rfl (by kernel_rfl) (by kernel_rfl) (by kernel_rfl) rfl rfl ?_
 conv => whnf
 refine ⟨_, cW_c, ?_⟩
 conv => whnf
 refine ⟨_, cO_c_1, ?_⟩
 conv => whnf
 refine ⟨_, cN_c_1, ?_⟩
 conv => whnf
 intro R
 conv => whnf
 refine ⟨3, ?_⟩
 conv => whnf
 repeat (first | (refine ⟨_, cUses, ?_⟩; (conv => whnf)) | (refine ⟨rfl, ?_⟩; (conv => whnf)))
 refine ⟨_, cO_c_0, ?_⟩
 conv => whnf
 repeat (first | (refine ⟨_, cUses, ?_⟩; (conv => whnf)) | (refine ⟨rfl, ?_⟩; (conv => whnf)))
 refine ⟨_, cO_c_1, ?_⟩
 conv => whnf
 repeat (first | (refine ⟨_, cUses, ?_⟩; (conv => whnf)) | (refine ⟨rfl, ?_⟩; (conv => whnf)))
 rfl
set_option maxRecDepth 100000 in
set_option maxHeartbeats 8000000 in
theorem cV_a_10 : Cal Tryz.prog OQ 28 [lsA nst, iA 10] (.t [.c (.e [.sl 1 [[eC [(0, 2)]], [eC [(0, 3)]], [eC [(0, 5), (3, 2)]]], .mp false [0, 1, 2, 3, 4, 5, 6, 7, 8, 9, 10] [[eC [(0, 2)]], [eC [(0, 3)]], [eC [(1, 1)]], [eC [(2, 1)]], [eC [(3, 1)]], [eC [(3, 2)]], [eC [(0, 5)]], [eC [(0, 5), (3, 2)]], [eC [(4, 1)]], [eC [(1, 1), (2, 1)]], [eC [(1, -1), (2, -1), (4, 1)]]], .mp false [0, 1, 2, 3, 4, 5, 6, 7, 8, 9, 10] [bC true, bC true, bC false, bC false, bC false, bC false, bC true, bC false, bC false, bC false, bC false], .sl 1 [[.v (.int .i64 2)], [.v (.int .i64 3)], [.v (.int .i64 8)]]]), eA [(1, -1), (2, -1), (4, 1)], iA 0]) := by
 refine fn_callB [(7, [(4, 2000000)])] TK MX Tryz.func28 rfl (by kernel_rfl) (by kernel_rfl) (by kernel_rfl) rfl rfl ?_
 conv => whnf
 refine ⟨_, cAsked1 (l := nst) len_a chk_a (by decide) (by decide), ?_⟩
 conv => whnf
 refine ⟨_, cF_a_10, ?_⟩
 conv => whnf
 rfl
set_option maxRecDepth 100000 in
set_option maxHeartbeats 8000000 in
theorem cV_a_2 : Cal Tryz.prog OQ 28 [lsA nst, iA 2] (.t [.c (.e [.sl 1 [[eC [(0, 2)]]], .mp false [0, 2] [[eC [(0, 2)]], [eC [(1, 1)]]], .mp false [0, 2] [bC true, bC false], .sl 1 [[.v (.int .i64 2)]]]), eA [(1, 1)], iA 0]) := by
 refine fn_callB [(7, [(4, 2000000)])] TK MX Tryz.func28 rfl (by kernel_rfl) (by kernel_rfl) (by kernel_rfl) rfl rfl ?_
 conv => whnf
 refine ⟨_, cAsked1 (l := nst) len_a chk_a (by decide) (by decide), ?_⟩
 conv => whnf
 refine ⟨_, cF_a_2, ?_⟩
 conv => whnf
 rfl
set_option maxRecDepth 100000 in
set_option maxHeartbeats 8000000 in
theorem cV_c_1 : Cal Tryz.prog OQ 28 [lsA nstC, iA 1] (.t [.c (.v (.pointer none)), .c (.v (.map none)), iA 9]) := by
 refine fn_callB [(7, [(4, 2000000)])] TK MX Tryz.func28 rfl (by kernel_rfl) (by kernel_rfl) (by kernel_rfl) rfl rfl ?_
 conv => whnf
 refine ⟨_, cAsked1 (l := nstC) len_c chk_c (by decide) (by decide), ?_⟩
 conv => whnf
 refine ⟨_, cF_c_1, ?_⟩
 conv => whnf
 rfl
set_option maxRecDepth 100000 in
set_option maxHeartbeats 8000000 in
theorem cS_a_10 : Cal Tryz.prog OQ 12 [lsA nst, iA 10] (.t [iA 0, iA 0]) := by
 refine fn_call TK MX Tryz.func12 rfl (by kernel_rfl) (by kernel_rfl) (by kernel_rfl) rfl rfl ?_
 conv => whnf
 refine ⟨_, cV_a_10, ?_⟩
 conv => whnf
 refine ⟨_, sgnT [[(0, 2)], [(0, 3)], [(0, 5), (3, 2)]] [(1, -1), (2, -1), (4, 1)] 1000 6 8 0 _ (by kernel_rfl), ?_⟩
 conv => whnf
 rfl
set_option maxRecDepth 100000 in
set_option maxHeartbeats 8000000 in
theorem cS_c_1 : Cal Tryz.prog OQ 12 [lsA nstC, iA 1] (.t [iA 0, iA 9]) := by
 refine fn_call TK MX Tryz.func12 rfl (by kernel_rfl) (by kernel_rfl) (by kernel_rfl) rfl rfl ?_
 conv => whnf
 refine ⟨_, cV_c_1, ?_⟩
 conv => whnf
 rfl
end Go.Proofs.YtajecapgmdfjcaaGreatDoor

/- awake. -/
namespace Go.Proofs.YtajecapgmdfjcaaGreatDoor
open Go.RowKit Vn
set_option maxRecDepth 100000 in
set_option maxHeartbeats 8000000 in
theorem cClone_a : CalS Tryz.prog OQ 43 [lsA nst] 11 4 39 (nst.map ndC).flatten := by
 refine fn_callS [] TK MX Tryz.func43 rfl (by kernel_rfl) (by kernel_rfl) (by kernel_rfl) (flat_nds _) (by kernel_rfl) rfl ?_
 conv => whnf
 exact ⟨rfl, rfl⟩
set_option maxRecDepth 100000 in
set_option maxHeartbeats 8000000 in
theorem cCmp_a_2_3 : Cal Tryz.prog OQ 21 [lsA nst, iA 2, iA 3] (.t [iA (-1), iA 0]) := by
 refine fn_callB [(5, [(1000000, 21)]), (8, [(6, 2000000), (10, 2000000)])] TK MX Tryz.func21 rfl (by kernel_rfl) (by kernel_rfl) (by kernel_rfl) rfl rfl ?_
 conv => whnf
 refine ⟨_, cAsked2 (l := nst) len_a chk_a (by decide) (by decide) (by decide) (by decide), ?_⟩
 conv => whnf
 refine ⟨_, _, _, _, cClone_a, ?_⟩
 conv => whnf
 refine ⟨_, cF_b_11, ?_⟩
 conv => whnf
 refine ⟨_, sgnT [[(0, 2)], [(0, 3)]] [(1, 1), (2, -1)] 1000 6 8 (-1) _ (by kernel_rfl), ?_⟩
 conv => whnf
 rfl
set_option maxRecDepth 100000 in
set_option maxHeartbeats 8000000 in
theorem cFloor_a_2_3 : Cal Tryz.prog OQ 18 [lsA nst, iA 2, iA 3] (.t [nA ((11 : Int) : Rat), iA 0]) := by
 refine fn_callB [(6, [(5, 2000000), (6, 2000000), (7, 6)])] TK MX Tryz.func18 rfl (by kernel_rfl) (by kernel_rfl) (by kernel_rfl) rfl rfl ?_
 conv => whnf
 refine ⟨_, cV_a_2, ?_⟩
 conv => whnf
 refine .inl ⟨_, shfT [(1, 1)] 3 [(1, 8)] 1000 (by kernel_rfl), ?_⟩
 conv => whnf
 refine ⟨_, flrT [[(0, 2)]] [(1, 8)] 1000 11 _ (by kernel_rfl), ?_⟩
 conv => whnf
 rfl
set_option maxRecDepth 100000 in
set_option maxHeartbeats 8000000 in
theorem cAwake : Cal Tryz.prog OQ 8 [] (bA true) := by
 refine fn_call TK MX Tryz.func8 rfl (by kernel_rfl) (by kernel_rfl) (by kernel_rfl) rfl rfl ?_
 conv => whnf
 refine ⟨_, cNested (x := [50]) (y := [51]), ?_⟩
 conv => whnf
 refine ⟨_, cS_a_10, ?_⟩
 conv => whnf
 refine ⟨_, cCmp_a_2_3, ?_⟩
 conv => whnf
 refine ⟨_, cFloor_a_2_3, ?_⟩
 conv => whnf
 refine ⟨_, cNum, ?_⟩
 conv => whnf
 refine ⟨_, cOne, ?_⟩
 conv => whnf
 refine ⟨_, cS_c_1, ?_⟩
 conv => whnf
 refine ⟨_, txtT ((11 : Int) : Rat) [49, 49] 100 (by kernel_rfl), ?_⟩
 conv => whnf
 rw [show ((ba [49, 49]).toList == (⟨#[49, 49]⟩ : ByteArray).toList) = true by rw [ba_toList, show (⟨#[49, 49]⟩ : ByteArray) = ba [49, 49] from rfl, ba_toList]; rfl]
 conv => whnf
 rfl
end Go.Proofs.YtajecapgmdfjcaaGreatDoor

/- The law RealsNested, over Sign of both lists. -/
namespace Go.Proofs.YtajecapgmdfjcaaGreatDoor
open Go.RowKit Vn
theorem cTx {a : Nat} (h : a < 262144) : Cal Tryz.prog OQ 10 [nA (((a : Nat) : Int) : Rat)] (sA (ba (tx a))) := by
 have sm : SmQ 25 (((a : Nat) : Int) : Rat) := (sm_qn (a := a) (by omega)).mono (by decide)
 exact cText sm (by decide)
theorem cIntN {a : Nat} (h : a < 262144) : Cal Tryz.prog OQ 9 [iA ((a : Nat) : Int)] (nA (((a : Nat) : Int) : Rat)) := cInt (by omega) (by omega)
theorem cIntW {a : Nat} (h : a < 262144) : Cal Tryz.prog OQ 9 [.c (.v (.int .i64 (IntKind.i64.wrap ((a : Nat) : Int))))] (nA (((a : Nat) : Int) : Rat)) := by
 rw [IntWalk.i64_in _ (by omega)]; exact cIntN h
theorem cIntS {b d : Nat} (hb : b < 65536) (hd : d < 65536) : Cal Tryz.prog OQ 9 [.c (.v (.int .i64 (IntKind.i64.wrap (IntKind.i64.wrap ((b : Nat) : Int) + IntKind.i64.wrap ((d : Nat) : Int)))))] (nA (((b + d : Nat) : Int) : Rat)) := by
 rw [IntWalk.i64_in ((b : Nat) : Int) (by omega), IntWalk.i64_in ((d : Nat) : Int) (by omega), IntWalk.i64_in _ (by omega)]
 exact cIntN (a := b + d) (by omega)
theorem flat_if {d : Nat} : FlatR (.t [iA (if d = 0 then 0 else 1), iA 0]) := by
 intro x hx
 simp only [List.mem_cons, List.not_mem_nil, or_false] at hx
 rcases hx with h | h <;> subst h <;> (simp only [FlatA, FlatM]; rfl)
abbrev uA (a : Nat) : AV := .c (.v (.int .u16 ((a : Nat) : Int)))
theorem cRN {a b d : Nat} (ha : a < 65536) (hb : b < 65536) (hd : d < 65536) (hA : Cal Tryz.prog OQ 12 [lsA (nestL (tx a) (tx b)), iA 10] (.t [iA 0, iA 0]))
  (hB : Cal Tryz.prog OQ 12 [lsA (moreL (tx a) (tx b) (tx (b + d))), iA 11] (.t [iA (if d = 0 then 0 else 1), iA 0])) : Cal Tryz.prog OQ 4 [uA a, uA b, uA d] (bA true) := by
 refine fn_call TK MX Tryz.func4 rfl (by kernel_rfl) (by kernel_rfl) (by kernel_rfl) rfl rfl ?_
 conv => whnf
 refine ⟨_, cIntW (a := a) (by omega), ?_⟩
 conv => whnf
 refine ⟨_, cTx (a := a) (by omega), ?_⟩
 conv => whnf
 refine ⟨_, cIntW (a := b) (by omega), ?_⟩
 conv => whnf
 refine ⟨_, cTx (a := b) (by omega), ?_⟩
 conv => whnf
 refine ⟨_, cNested, ?_⟩
 conv => whnf
 refine ⟨_, hA, ?_⟩
 conv => whnf
 refine ⟨_, cNum, ?_⟩
 conv => whnf
 refine ⟨_, cNum, ?_⟩
 conv => whnf
 refine ⟨_, cIntS hb hd, ?_⟩
 conv => whnf
 refine ⟨_, cTx (a := b + d) (by omega), ?_⟩
 conv => whnf
 refine ⟨_, cNum, ?_⟩
 conv => whnf
 refine ⟨_, cOne, ?_⟩
 conv => whnf
 refine ⟨_, cOne, ?_⟩
 conv => whnf
 refine ⟨_, cTwoN, ?_⟩
 conv => whnf
 refine ⟨_, cTwoN, ?_⟩
 conv => whnf
 refine ⟨_, cTwoN, ?_⟩
 conv => whnf
 refine ⟨_, cTwoN, ?_⟩
 conv => whnf
 refine ⟨_, cOne, ?_⟩
 conv => whnf
 refine ⟨_, cTwoN, ?_⟩
 conv => whnf
 refine ⟨_, cTwoN, ?_⟩
 conv => whnf
 refine ⟨_, hB, flat_if, ?_⟩
 conv => whnf
 by_cases h0 : d = 0
 ·subst h0
  conv => whnf
  refine ⟨_, cAwake, ?_⟩
  conv => whnf
  rfl
 ·have e : (((d : Nat) : Int) == 0) = false := by simp; omega
  rw [e, if_neg h0]
  conv => whnf
  refine ⟨_, cAwake, ?_⟩
  conv => whnf
  rfl
end Go.Proofs.YtajecapgmdfjcaaGreatDoor

/- The law RealsNested. -/
namespace Go.Proofs.YtajecapgmdfjcaaGreatDoor
open Go.RowKit Vn
theorem cRealsNested {a b d : Nat} (ha : a < 65536) (hb : b < 65536) (hd : d < 65536) : Cal Tryz.prog OQ 4 [uA a, uA b, uA d] (bA true) := cRN ha hb hd (nestA ha hb) (moreB ha hb hd)
end Go.Proofs.YtajecapgmdfjcaaGreatDoor
