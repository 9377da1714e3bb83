/- awake's lists. PRINTED by gen/em.py. -/
import Derived.Test.YtajecapgmdfjcaaGreatDoorL39
namespace Go.Proofs.YtajecapgmdfjcaaGreatDoor
open Go.RowKit Vn
def nst : List Nd := nestL [50] [51]
def nstB : List Nd := [⟨1, 0, 0, [50]⟩, ⟨1, 0, 0, [51]⟩, ⟨4, 0, 0, []⟩, ⟨4, 1, 0, []⟩, ⟨7, 2, 3, []⟩, ⟨5, 4, 4, []⟩, ⟨5, 0, 1, []⟩, ⟨5, 6, 5, []⟩, ⟨4, 7, 0, []⟩, ⟨5, 2, 3, []⟩, ⟨6, 8, 9, []⟩, ⟨6, 2, 3, []⟩]
def nstC : List Nd := [⟨1, 0, 0, [45, 49]⟩, ⟨4, 0, 0, []⟩]
theorem vlen_ok {l : List Nd} (h : (l.all fun x => decide (x.v.length ≤ 9223372036854775807)) = true) : ∀ x ∈ l, x.v.length ≤ 9223372036854775807 := fun x hx => of_decide_eq_true (List.all_eq_true.1 h x hx)
theorem len_a : ∀ x ∈ nst, x.v.length ≤ 9223372036854775807 := vlen_ok (by kernel_rfl)
theorem chk_a : checkE nst = (0, 0) := by kernel_rfl
set_option maxRecDepth 100000 in
set_option maxHeartbeats 8000000 in
theorem cW_a : Cal Tryz.prog OQ 32 [lsA nst] (.c (wC [1, 1, 1, 1, 2, 4, 2, 6, 6, 2, 8])) := by
 refine fn_callB [(6, [(4, 5), (6, 10), (9, 5), (11, 10), (15, 10)])] TK MX Tryz.func32 rfl (by kernel_rfl) (by kernel_rfl) (by kernel_rfl) rfl rfl ?_
 conv => whnf
 refine ⟨12, ?_⟩
 conv => whnf
 refine ⟨_, cUses, ?_⟩
 conv => whnf
 refine ⟨_, parsT [50] 2 (by kernel_rfl), ?_⟩
 conv => whnf
 refine ⟨_, digT 2 1 1000 (by kernel_rfl), ?_⟩
 conv => whnf
 refine ⟨_, cUses, ?_⟩
 conv => whnf
 refine ⟨_, parsT [51] 3 (by kernel_rfl), ?_⟩
 conv => whnf
 refine ⟨_, digT 3 1 1000 (by kernel_rfl), ?_⟩
 conv => whnf
 refine ⟨_, cUses, ?_⟩
 conv => whnf
 refine ⟨_, cUses, ?_⟩
 conv => whnf
 refine ⟨_, cUses, ?_⟩
 conv => whnf
 refine ⟨_, cUses, ?_⟩
 conv => whnf
 refine ⟨_, cUses, ?_⟩
 conv => whnf
 refine ⟨_, cUses, ?_⟩
 conv => whnf
 refine ⟨_, cUses, ?_⟩
 conv => whnf
 refine ⟨_, cUses, ?_⟩
 conv => whnf
 refine ⟨_, cUses, ?_⟩
 conv => whnf
 rfl
set_option maxRecDepth 100000 in
set_option maxHeartbeats 8000000 in
theorem cW_b : Cal Tryz.prog OQ 32 [lsA nstB] (.c (wC [1, 1, 1, 1, 2, 4, 2, 6, 6, 2, 8, 2])) := by
 refine fn_callB [(6, [(4, 5), (6, 10), (9, 5), (11, 10), (15, 10)])] TK MX Tryz.func32 rfl (by kernel_rfl) (by kernel_rfl) (by kernel_rfl) rfl rfl ?_
 conv => whnf
 refine ⟨13, ?_⟩
 conv => whnf
 refine ⟨_, cUses, ?_⟩
 conv => whnf
 refine ⟨_, parsT [50] 2 (by kernel_rfl), ?_⟩
 conv => whnf
 refine ⟨_, digT 2 1 1000 (by kernel_rfl), ?_⟩
 conv => whnf
 refine ⟨_, cUses, ?_⟩
 conv => whnf
 refine ⟨_, parsT [51] 3 (by kernel_rfl), ?_⟩
 conv => whnf
 refine ⟨_, digT 3 1 1000 (by kernel_rfl), ?_⟩
 conv => whnf
 refine ⟨_, cUses, ?_⟩
 conv => whnf
 refine ⟨_, cUses, ?_⟩
 conv => whnf
 refine ⟨_, cUses, ?_⟩
 conv => whnf
 refine ⟨_, cUses, ?_⟩
 conv => whnf
 refine ⟨_, cUses, ?_⟩
 conv => whnf
 refine ⟨_, cUses, ?_⟩
 conv => whnf
 refine ⟨_, cUses, ?_⟩
 conv => whnf
 refine ⟨_, cUses, ?_⟩
 conv => whnf
 refine ⟨_, cUses, ?_⟩
 conv => whnf
 refine ⟨_, cUses, ?_⟩
 conv => whnf
 rfl
theorem len_c : ∀ x ∈ nstC, x.v.length ≤ 9223372036854775807 := vlen_ok (by kernel_rfl)
theorem chk_c : checkE nstC = (0, 0) := by kernel_rfl
set_option maxRecDepth 100000 in
set_option maxHeartbeats 8000000 in
theorem cW_c : Cal Tryz.prog OQ 32 [lsA nstC] (.c (wC [1, 1])) := by
 refine fn_callB [(6, [(4, 5), (6, 10), (9, 5), (11, 10), (15, 10)])] TK MX Tryz.func32 rfl (by kernel_rfl) (by kernel_rfl) (by kernel_rfl) rfl rfl ?_
 conv => whnf
 refine ⟨3, ?_⟩
 conv => whnf
 refine ⟨_, cUses, ?_⟩
 conv => whnf
 refine ⟨_, parsT [45, 49] (-1) (by kernel_rfl), ?_⟩
 conv => whnf
 refine ⟨_, digT (-1) 1 1000 (by kernel_rfl), ?_⟩
 conv => whnf
 refine ⟨_, cUses, ?_⟩
 conv => whnf
 rfl
set_option maxRecDepth 100000 in
set_option maxHeartbeats 8000000 in
theorem cN_a_2 : Cal Tryz.prog OQ 86 [lsA nst, iA 2] (.c (.cl 129 [.e [.sl 1 [bC true, bC false, bC true]]])) := by
 refine fn_callD [(9, [(0, 5), (2, 7), (3, 5), (5, 7), (7, 11), (13, 11)])] TK MX (H := HL Tryz.prog OQ TB FTn 1) (HL_ok TK MX FTn_ok 1) (nd := false) Tryz.func86 rfl (by kernel_rfl) (by kernel_rfl) (by kernel_rfl) rfl rfl ?_
 conv => whnf
 refine ⟨_, cBackward (l := (nst).take 3), ?_⟩
 conv => whnf
 intro R
 conv => whnf
 refine ⟨4, ?_⟩
 conv => whnf
 repeat (first | (refine ⟨_, cUses, ?_⟩; (conv => whnf)) | (refine ⟨rfl, ?_⟩; (conv => whnf)))
 rfl
set_option maxRecDepth 100000 in
set_option maxHeartbeats 8000000 in
theorem cN_a_10 : Cal Tryz.prog OQ 86 [lsA nst, iA 10] (.c (.cl 129 [.e [.sl 1 [bC true, bC true, bC true, bC true, bC true, bC true, bC true, bC true, bC true, bC true, bC true]]])) := by
 refine fn_callD [(9, [(0, 5), (2, 7), (3, 5), (5, 7), (7, 11), (13, 11)])] TK MX (H := HL Tryz.prog OQ TB FTn 1) (HL_ok TK MX FTn_ok 1) (nd := false) Tryz.func86 rfl (by kernel_rfl) (by kernel_rfl) (by kernel_rfl) rfl rfl ?_
 conv => whnf
 refine ⟨_, cBackward (l := (nst).take 11), ?_⟩
 conv => whnf
 intro R
 conv => whnf
 refine ⟨12, ?_⟩
 conv => whnf
 repeat (first | (refine ⟨_, cUses, ?_⟩; (conv => whnf)) | (refine ⟨rfl, ?_⟩; (conv => whnf)))
 rfl
set_option maxRecDepth 100000 in
set_option maxHeartbeats 8000000 in
theorem cN_b_11 : Cal Tryz.prog OQ 86 [lsA nstB, iA 11] (.c (.cl 129 [.e [.sl 1 [bC true, bC true, bC true, bC true, bC false, bC false, bC false, bC false, bC false, bC false, bC false, bC true]]])) := by
 refine fn_callD [(9, [(0, 5), (2, 7), (3, 5), (5, 7), (7, 11), (13, 11)])] TK MX (H := HL Tryz.prog OQ TB FTn 1) (HL_ok TK MX FTn_ok 1) (nd := false) Tryz.func86 rfl (by kernel_rfl) (by kernel_rfl) (by kernel_rfl) rfl rfl ?_
 conv => whnf
 refine ⟨_, cBackward (l := (nstB).take 12), ?_⟩
 conv => whnf
 intro R
 conv => whnf
 refine ⟨13, ?_⟩
 conv => whnf
 repeat (first | (refine ⟨_, cUses, ?_⟩; (conv => whnf)) | (refine ⟨rfl, ?_⟩; (conv => whnf)))
 rfl
set_option maxRecDepth 100000 in
set_option maxHeartbeats 8000000 in
theorem cN_c_1 : Cal Tryz.prog OQ 86 [lsA nstC, iA 1] (.c (.cl 129 [.e [.sl 1 [bC true, bC true]]])) := by
 refine fn_callD [(9, [(0, 5), (2, 7), (3, 5), (5, 7), (7, 11), (13, 11)])] TK MX (H := HL Tryz.prog OQ TB FTn 1) (HL_ok TK MX FTn_ok 1) (nd := false) Tryz.func86 rfl (by kernel_rfl) (by kernel_rfl) (by kernel_rfl) rfl rfl ?_
 conv => whnf
 refine ⟨_, cBackward (l := (nstC).take 2), ?_⟩
 conv => whnf
 intro R
 conv => whnf
 refine ⟨3, ?_⟩
 conv => whnf
 repeat (first | (refine ⟨_, cUses, ?_⟩; (conv => whnf)) | (refine ⟨rfl, ?_⟩; (conv => whnf)))
 rfl
set_option maxRecDepth 100000 in
set_option maxHeartbeats 8000000 in
theorem cN_c_0 : Cal Tryz.prog OQ 86 [lsA nstC, iA 0] (.c (.cl 129 [.e [.sl 1 [bC true]]])) := by
 refine fn_callD [(9, [(0, 5), (2, 7), (3, 5), (5, 7), (7, 11), (13, 11)])] TK MX (H := HL Tryz.prog OQ TB FTn 1) (HL_ok TK MX FTn_ok 1) (nd := false) Tryz.func86 rfl (by kernel_rfl) (by kernel_rfl) (by kernel_rfl) rfl rfl ?_
 conv => whnf
 refine ⟨_, cBackward (l := (nstC).take 1), ?_⟩
 conv => whnf
 intro R
 conv => whnf
 refine ⟨2, ?_⟩
 conv => whnf
 repeat (first | (refine ⟨_, cUses, ?_⟩; (conv => whnf)) | (refine ⟨rfl, ?_⟩; (conv => whnf)))
 rfl
end Go.Proofs.YtajecapgmdfjcaaGreatDoor
