/- How slices of words read as lists of numbers in memory, and that they go on reading so when new memory is made. -/
import Derived.OneCell
import Derived.OwnWalk
import Derived.Test.YtoaoebimjmjpeaaGreatDoorT01
namespace Go.Proofs.YtoaoebimjmjpeaaGreatDoor
open Go.RowKit Vn
set_option maxRecDepth 100000
set_option maxHeartbeats 8000000
theorem hid {p:Prop} (h:p):Hid p:=h
def rowOf (k:IntKind) (l:List Nat):Array Value:=(l.map fun n=>Value.int k (n:Nat)).toArray
theorem rowOf_size (k:IntKind) (l:List Nat):(rowOf k l).size=l.length:=by simp [rowOf]
theorem rowOf_get (k:IntKind) (l:List Nat) (i:Nat) (h:i<l.length):(rowOf k l)[i]?=some (.int k (l.getD i 0:Nat)):=by
 simp [rowOf,List.getElem?_eq_getElem h]
theorem rowOf_set (k:IntKind) (l:List Nat) (i x:Nat):(rowOf k l).setIfInBounds i (.int k (x:Nat))=rowOf k (l.set i x):=by
 simp [rowOf]
def SlAt (T:TypeId) (k:IntKind) (w:World) (v:Value) (l:List Nat):Prop :=
 ∃ (a:Option Addr) (b off cap:Nat),v=.slice a l.length cap∧l.length≤cap∧cap≤maxLen∧(0<l.length→a=some ⟨b,off,none⟩) ∧
  ∃ cur fr,(0<l.length→w.heap[b]?=some (.cells cur T fr))∧∀ i,i<l.length→cur[off+i]?=some (.int k (l.getD i 0:Nat))
abbrev Ext (w w':World):Prop:=Below w.heap.size w w'
theorem Ext.trans {a b c:World} (h:Ext a b) (k:Ext b c):Ext a c:=Below.trans h (Below.mono k h.size)
theorem cell_lt {w:World} {b:Nat} {o:Obj} (h:w.heap[b]?=some o):b<w.heap.size:=lt_of_block h
theorem Ext.cell {w w':World} (hb:Ext w w') {a:Addr} {v:Value} (h:w.cell? a=some v):w'.cell? a=some v :=
 (Below.cell hb (World.block_lt_of_cell? w _ h)).trans h
theorem Ext.heap {w w':World} (hb:Ext w w') {b:Nat} {o:Obj} (h:w.heap[b]?=some o):w'.heap[b]?=some o :=
 (hb.block b (cell_lt h)).trans h
theorem SlAt.ext {T:TypeId} {k:IntKind} {w w':World} {v:Value} {l:List Nat} (h:SlAt T k w v l) (hb:Ext w w'):SlAt T k w' v l:=by
 obtain ⟨a,b,off,cap,h1,h2,h3,h4,cur,fr,h5,h6⟩:=h
 exact ⟨a,b,off,cap,h1,h2,h3,h4,cur,fr,fun h=>hb.heap (h5 h),h6⟩
theorem SlAt.setCell {T:TypeId} {k:IntKind} {w:World} {v:Value} {l:List Nat} (h:SlAt T k w v l) {p:Addr} {c:Array Value} {U:TypeId} {fr:Nat×Nat}
  (hp:w.heap[p.block]?=some (.cells c U fr)) (hU:U≠T) (x:Value):SlAt T k (w.setCell p x) v l:=by
 obtain ⟨a,b,off,cap,h1,h2,h3,h4,cur,fr',h5,h6⟩:=h;refine ⟨a,b,off,cap,h1,h2,h3,h4,cur,fr',fun h => ?_,h6⟩;rw [Below.heap_setCell w p x b ?_]
 ·exact h5 h
 ·intro e
  have:=h5 h
  rw [e,hp] at this
  simp at this
  exact hU this.2.1
theorem SlAt.open {T:TypeId} {k:IntKind} {w:World} {v:Value} {l:List Nat} (h:SlAt T k w v l) :
  ∃ (a:Option Addr) (b off cap:Nat),v=.slice a l.length cap∧l.length≤cap∧cap≤maxLen∧(0<l.length→a=some ⟨b,off,none⟩) ∧
   ∀ i,i<l.length→w.cell? ⟨b,off+i,none⟩=some (.int k (l.getD i 0:Nat)):=by
 obtain ⟨a,b,off,cap,h1,h2,h3,h4,cur,fr,h5,h6⟩:=h;refine ⟨a,b,off,cap,h1,h2,h3,h4,fun i hi => ?_⟩
 have:=h5 (Nat.lt_of_le_of_lt (Nat.zero_le _) hi)
 simp [World.cell?,this,h6 i hi]
theorem SlAt.nil (T:TypeId) (k:IntKind) (w:World):SlAt T k w (.slice none 0 0) [] :=
 ⟨none,0,0,0,rfl,Nat.le_refl _,by simp [maxLen],fun h=>by simp at h,#[],(0,0),fun h=>by simp at h,fun i h=>by simp at h⟩
theorem SlAt.empty (T:TypeId) (k:IntKind) (w:World) (a:Option Addr) (cap:Nat) (hc:cap≤maxLen):SlAt T k w (.slice a 0 cap) [] :=
 ⟨a,0,0,cap,rfl,Nat.zero_le _,hc,fun h=>by simp at h,#[],(0,0),fun h=>by simp at h,fun i h=>by simp at h⟩
theorem SlAt.row {T:TypeId} {k:IntKind} {w:World} {b:Nat} {l:List Nat} {fr:Nat×Nat} (h:w.heap[b]?=some (.cells (rowOf k l) T fr)) (n cap:Nat) (hn:n≤l.length)
  (hc:n≤cap) (hm:cap≤maxLen):SlAt T k w (.slice (some ⟨b,0,none⟩) n cap) (l.take n):=by
 have hl:(l.take n).length=n:=by simp [Nat.min_eq_left hn]
 refine ⟨some ⟨b,0,none⟩,b,0,cap,by rw [hl],by rw [hl];exact hc,hm,fun _=>rfl,rowOf k l,fr,fun _=>h,fun i hi => ?_⟩;rw [hl] at hi;rw [Nat.zero_add,rowOf_get k l i (by omega)]
 simp [hi]
theorem SlAt.short {T:TypeId} {k:IntKind} {w:World} {a:Option Addr} {n cap:Nat} {l:List Nat} (h:SlAt T k w (.slice a n cap) l) (m:Nat) (hm:m≤n) :
  SlAt T k w (.slice a m cap) (l.take m):=by
 obtain ⟨a',b,off,cap',h1,h2,h3,h4,cur,fr,h5,h6⟩:=h;obtain ⟨rfl,rfl,rfl⟩:a=a'∧n=l.length∧cap=cap':=by simpa using h1
 have hl:(l.take m).length=m:=by simp [Nat.min_eq_left hm]
 refine ⟨a,b,off,cap,by rw [hl],by omega,h3,fun h=>h4 (by omega),cur,fr,fun h=>h5 (by omega),fun i hi => ?_⟩;rw [hl] at hi;rw [h6 i (by omega)]
 simp [hi]
/-! ### a row of the call's own -/
theorem row_cell {w:World} {b:Nat} {k:IntKind} {l:List Nat} {T:TypeId} {fr:Nat×Nat} (h:w.heap[b]?=some (.cells (rowOf k l) T fr)) (i:Nat) (hi:i<l.length) :
  w.cell? ⟨b,i,none⟩=some (.int k (l.getD i 0:Nat)):=by
 simp [World.cell?,h,rowOf_get k l i hi]
theorem row_free {w:World} {b:Nat} {k:IntKind} {l:List Nat} {T:TypeId} (h:w.heap[b]?=some (.cells (rowOf k l) T (0,0))) (i:Nat):w.frozen? ⟨b,i,none⟩=false:=by
 simp [World.frozen?,h]
theorem row_set {w:World} {b:Nat} {k:IntKind} {l:List Nat} {T:TypeId} (h:w.heap[b]?=some (.cells (rowOf k l) T (0,0))) (i x:Nat) :
  (w.setCell ⟨b,i,none⟩ (.int k (x:Nat))).heap[b]?=some (.cells (rowOf k (l.set i x)) T (0,0)):=by
 have hlt:=cell_lt h;have h':w.heap[b]=.cells (rowOf k l) T (0,0):=by simpa [Array.getElem?_eq_getElem hlt] using h
 show (w.heap.modify b _)[b]?=_
 rw [Array.getElem?_eq_getElem (by simpa using hlt),Array.getElem_modify_self,h',←rowOf_set]
 rfl
theorem make_row {P:Program} (t e:TypeId) (i:TypeInfo) (q:IntKind) (ht:P.underlying t=some (.slice e)) (hi:P.info? e=some i) (hz:i.zero=some (.int q 0)) (h1:i.size=1)
  (n:Nat) (x:Int) (hx:x=(n:Int)) (hn:n*i.bytes≤281474976710656) (hn':n≤maxLen) (w:World) :
  (Instr.makeSlice t (.int .i64 x) (.int .i64 x)).run P w=.ok (.slice (some ⟨w.heap.size,0,none⟩) n n) (w.alloc (.cells (rowOf q (List.replicate n 0)) e)):=by
 subst hx;have hn2:(n:Int)≤9223372036854775807:=by
  have h:=hn'
  simp [maxLen] at h
  omega
 rw [run_make w t e i (.int q 0) ht hi hz .i64 .i64 n n (by omega) (Int.le_refl _) (by rw [←Int.natCast_mul,Nat.mul_comm];exact Int.ofNat_le.2 hn) hn2];have e1:madeCells (Value.int q 0).cells (n*i.size)=rowOf q (List.replicate n 0):=by
  apply Array.ext_getElem?
  intro j
  simp only [rowOf,madeCells,Value.cells,h1,Nat.mul_one]
  by_cases hj:j<n
  ·simp [hj,Nat.mod_one]
  ·simp [hj]
 rw [Int.toNat_natCast,e1]
end Go.Proofs.YtoaoebimjmjpeaaGreatDoor
