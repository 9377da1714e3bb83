/- A list of nodes, opened. -/
import Derived.Test.YtajecapgmdfjcaaGreatDoorK15
import Derived.Test.YtajecapgmdfjcaaGreatDoorK34
namespace Go.Proofs.YtajecapgmdfjcaaGreatDoor
open Go.ChangeShapes Go.WideShapes Go.ChangeAt Go.RowKit Vn
section
variable {H : Type} {enc : TypeId × Value → H} {W : World} {base b0 : Nat} {sp : Nat → Bool} {held : Bool}
set_option maxRecDepth 100000 in
theorem open_node {n : Nat} {cs : List Value} {y : DataW H × List MemPlace} (hlen : cs.length = 4) (h : DataW.trod enc Tryz.prog W b0 sp held n 39 cs = some y) :
  ∃ x : Nd, x.v.length ≤ 9223372036854775807 ∧ cs = [.int .i64 x.k, .int .i64 x.a, .int .i64 x.b, .string (ba x.v)] := by
 have c3 : Tryz.prog.cellsOf 3 = 1 := by kernel_rfl
 have c9 : Tryz.prog.cellsOf 29 = 1 := by kernel_rfl
 obtain ⟨xs, n, _, _, _, hl, hg⟩ := DataW.trod_struct Tryz.underlying39 h
 have hx : ∀ i, i < 4 → ∃ y, xs[i]? = some y := fun i hi => ⟨xs[i]'(by rw [hl]; exact hi), List.getElem?_eq_getElem _⟩
 obtain ⟨y0, hy0⟩ := hx 0 (by decide)
 obtain ⟨y1, hy1⟩ := hx 1 (by decide)
 obtain ⟨y2, hy2⟩ := hx 2 (by decide)
 obtain ⟨y3, hy3⟩ := hx 3 (by decide)
 match cs, hlen with
 | [x0, x1, x2, x3], _ =>
  have g0 : DataW.trod enc Tryz.prog W b0 sp held n 3 (([x0, x1, x2, x3].drop 0).take (Tryz.prog.cellsOf 3)) = some y0 := (hg 0 _ rfl).trans hy0
  rw [c3] at g0
  have g1 : DataW.trod enc Tryz.prog W b0 sp held n 3 (([x0, x1, x2, x3].drop 1).take (Tryz.prog.cellsOf 3)) = some y1 := (hg 1 _ rfl).trans hy1
  rw [c3] at g1
  have g2 : DataW.trod enc Tryz.prog W b0 sp held n 3 (([x0, x1, x2, x3].drop 2).take (Tryz.prog.cellsOf 3)) = some y2 := (hg 2 _ rfl).trans hy2
  rw [c3] at g2
  have g3 : DataW.trod enc Tryz.prog W b0 sp held n 29 (([x0, x1, x2, x3].drop 3).take (Tryz.prog.cellsOf 29)) = some y3 := (hg 3 _ rfl).trans hy3
  rw [c9] at g3
  obtain ⟨k, hk, _, _⟩ := DataW.trod_int Tryz.underlying3 g0
  obtain rfl : x0 = .int .i64 k := by simpa using hk
  obtain ⟨a, ha, _, _⟩ := DataW.trod_int Tryz.underlying3 g1
  obtain rfl : x1 = .int .i64 a := by simpa using ha
  obtain ⟨b, hb, _, _⟩ := DataW.trod_int Tryz.underlying3 g2
  obtain rfl : x2 = .int .i64 b := by simpa using hb
  obtain ⟨T, hT, _, zT⟩ := DataW.trod_string Tryz.underlying29 g3
  obtain rfl : x3 = .string T := by simpa using hT
  exact ⟨⟨k, a, b, T.data.toList⟩, zT, rfl⟩
theorem cell_plain {w : World} {a : Addr} {v : Value} (h : w.cell? a = some v) : a.spot = none ∧ a.block < w.heap.size := by
 obtain ⟨b, o, s⟩ := a
 unfold World.cell? at h
 split at h
 ·rename_i e
  cases s with
  | none => exact ⟨rfl, cell_lt e⟩
  | some s => simp at h
 ·cases h
theorem nodes_at {a : Addr} {n : Nat} : ∀ (len : Nat), (∀ i, i < len → ∃ cs y, W.cells? b0 (a.add (i * 4)) 4 = some cs ∧ DataW.trod enc Tryz.prog W b0 sp held n 39 cs = some y) →
  ∃ l : List Nd, l.length = len ∧ (∀ x ∈ l, x.v.length ≤ 9223372036854775807) ∧ ∀ (i : Nat) (x : Nd), l[i]? = some x → W.cells? b0 (a.add (i * 4)) 4 = some [.int .i64 x.k, .int .i64 x.a, .int .i64 x.b, .string (ba x.v)]
 | 0, _ => ⟨[], rfl, fun _ h => (by cases h), fun i x h => (by simp at h)⟩
 | len + 1, h => by
  obtain ⟨l, h1, h2, h3⟩ := nodes_at len fun i hi => h i (by omega)
  obtain ⟨cs, y, q1, q2⟩ := h len (by omega)
  have hl : cs.length = 4 := by
   unfold World.cells? at q1
   split at q1
   ·have := mapM_some_length q1
    simpa using this
   ·cases q1
  obtain ⟨x, hx, rfl⟩ := open_node hl q2
  refine ⟨l ++ [x], by simp [h1], fun z hz => ?_, fun i z hz => ?_⟩
  ·rcases List.mem_append.1 hz with hz | hz
   ·exact h2 z hz
   ·simp at hz; subst hz; exact hx
  ·rcases Nat.lt_or_ge i l.length with hi | hi
   ·rw [List.getElem?_append_left hi] at hz; exact h3 i z hz
   ·rw [List.getElem?_append_right hi] at hz
    have hi' : i = len := by
     have := (List.getElem?_eq_some_iff.1 hz).1
     simp at this; omega
    subst hi'
    rw [h1, Nat.sub_self] at hz
    simp at hz; subst hz
    exact q1
theorem rows_of {S : Nat → Prop} {w : World} {b : Nat} : ∀ {l : List Nd} {off : Nat}, (∀ (i : Nat) (x : Nd), l[i]? = some x → ∀ j, j < 4 → w.cell? ⟨b, off + i * 4 + j, none⟩ = some (([.int .i64 x.k, .int .i64 x.a, .int .i64 x.b, .string (ba x.v)] : List Value).getD j undef)) → RepRows OQ S w 4 (l.map ndC) b off
 | [], _, _ => by simp only [List.map_nil, RepRows]
 | x :: l, off, h => by
  have h0 := h 0 x rfl
  simp only [List.map_cons, RepRows]
  refine ⟨rfl, ?_, rows_of fun i z hz j hj => ?_⟩
  ·simp only [ndC, RepRow, Rep0]
   have c0 := h0 0 (by decide)
   have c1 := h0 1 (by decide)
   have c2 := h0 2 (by decide)
   have c3 := h0 3 (by decide)
   simp only [Nat.zero_mul, Nat.add_zero] at c0 c1 c2 c3
   exact ⟨⟨_, c0, rfl, rfl⟩, ⟨_, c1, rfl, rfl⟩, ⟨_, c2, rfl, rfl⟩, ⟨_, c3, rfl, rfl⟩, trivial⟩
  ·have := h (i + 1) z (by simpa using hz) j hj
   rw [← this]
   congr 2
   omega
set_option maxRecDepth 100000 in
theorem open_nds {v : Value} {d : DataW H} {p : List MemPlace} (hv : Value.okWide Tryz.prog W .any base 22 v) (h : DataW.Trod enc Tryz.prog W b0 sp held 22 v d p) :
  ∃ l : List Nd, (∀ x ∈ l, x.v.length ≤ 9223372036854775807) ∧ Rep0 OQ (fun b => b < W.heap.size) W (lsC l) v := by
 have ce : Tryz.prog.cellsOf 39 = 4 := by kernel_rfl
 obtain ⟨a, len, cap, rfl⟩ := okWide_slice Tryz.underlying22 hv
 obtain ⟨fuel, hf⟩ := h
 have hf : DataW.trod enc Tryz.prog W b0 sp held fuel 22 [.slice a len cap] = some (d, p) := hf
 rcases DataW.trod_slice Tryz.underlying22 hf with ⟨e, _⟩ | ⟨a', len', cap', elems, rest, n, _, e, _, _, hlc, hcm, hel, hcells, _⟩
 ·simp only [List.cons.injEq, Value.slice.injEq, and_true] at e
  obtain ⟨rfl, rfl, rfl⟩ := e
  refine ⟨[], fun _ h => (by cases h), ?_⟩
  simp only [List.map_nil, Rep0, RepRows]
  exact ⟨none, 0, 0, 0, rfl, fun h => absurd h (by simp), trivial⟩
 ·simp only [List.cons.injEq, Value.slice.injEq, and_true] at e
  obtain ⟨rfl, rfl, rfl⟩ := e
  obtain ⟨l, h1, h2, h3⟩ := nodes_at (a := a') (n := n) len fun i hi => by
   have hc := hcells i hi
   rw [ce] at hc
   obtain ⟨y, hy⟩ : ∃ y, elems[i]? = some y := ⟨_, List.getElem?_eq_getElem (by omega)⟩
   rw [hy, Option.bind_eq_some_iff] at hc
   obtain ⟨cs, q1, q2⟩ := hc
   exact ⟨cs, y, q1, q2⟩
  refine ⟨l, h2, ?_⟩
  simp only [Rep0]
  have cell : ∀ (i : Nat) (x : Nd), l[i]? = some x → ∀ j, j < 4 → W.cell? (a'.add (i * 4) |>.add j) = some (([.int .i64 x.k, .int .i64 x.a, .int .i64 x.b, .string (ba x.v)] : List Value).getD j undef) := fun i x hx j hj => by
   have := h3 i x hx
   unfold World.cells? at this
   split at this
   ·have hg := mapM_some_get this j j (by simp [hj])
    rw [hg]
    match j, hj with
    | 0, _ => rfl
    | 1, _ => rfl
    | 2, _ => rfl
    | 3, _ => rfl
   ·cases this
  have hsp : 0 < l.length → a'.spot = none ∧ a'.block < W.heap.size := fun hl => by
   obtain ⟨x, hx⟩ : ∃ x, l[0]? = some x := ⟨_, List.getElem?_eq_getElem hl⟩
   have hc := cell 0 x hx 0 (by decide)
   have e : (a'.add (0 * 4) |>.add 0) = a' := by simp [Addr.add]
   rw [e] at hc
   exact cell_plain hc
  refine ⟨some a', a'.block, a'.off, cap, by rw [List.length_map, h1], fun hl => ?_, rows_of fun i x hx j hj => ?_⟩
  ·rw [List.length_map] at hl
   obtain ⟨hs, hb⟩ := hsp hl
   refine ⟨?_, hb, by rw [List.length_map, h1]; exact hlc⟩
   obtain ⟨b, o, s⟩ := a'
   simp only at hs
   subst hs; rfl
  ·have hc := cell i x hx j hj
   obtain ⟨hs, _⟩ := hsp (by have := (List.getElem?_eq_some_iff.1 hx).1; omega)
   rw [← hc]
   obtain ⟨b, o, s⟩ := a'
   simp only at hs
   subst hs
   rw [Addr.add_mid, Addr.add_mid]
end
end Go.Proofs.YtajecapgmdfjcaaGreatDoor
