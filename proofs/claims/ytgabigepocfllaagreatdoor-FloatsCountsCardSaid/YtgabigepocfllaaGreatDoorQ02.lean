/- How slices of words read as lists of numbers in memory, and that they go on reading so when new memory is made. -/
import Derived.OneCell
import Derived.OwnWalk
import Derived.Test.YtgabigepocfllaaGreatDoorQ01
namespace Go.Proofs.YtgabigepocfllaaGreatDoor
open Go.RowKit Vn
set_option maxRecDepth 100000
set_option maxHeartbeats 8000000
theorem hid {p:Prop} (h:p):Hid p:=h
def rowOf (k:IntKind) (l:List Nat):Array Value:=(l.map fun n=>Value.int k (n:Nat)).toArray
theorem rowOf_size (k:IntKind) (l:List Nat):(rowOf k l).size=l.length:=by simp [rowOf]
theorem rowOf_get (k:IntKind) (l:List Nat) (i:Nat) (h:i<l.length):(rowOf k l)[i]?=some (.int k (l.getD i 0:Nat)):=by
 simp [rowOf,List.getElem?_eq_getElem h]
theorem rowOf_set (k:IntKind) (l:List Nat) (i x:Nat):(rowOf k l).setIfInBounds i (.int k (x:Nat))=rowOf k (l.set i x):=by
 simp [rowOf]
def SlAt (T:TypeId) (k:IntKind) (w:World) (v:Value) (l:List Nat):Prop :=
 ∃ (a:Option Addr) (b off cap:Nat),v=.slice a l.length cap∧l.length≤cap∧cap≤maxLen∧(0<l.length→a=some ⟨b,off,none⟩) ∧
  ∃ cur fr,(0<l.length→w.heap[b]?=some (.cells cur T fr))∧∀ i,i<l.length→cur[off+i]?=some (.int k (l.getD i 0:Nat))
abbrev Ext (w w':World):Prop:=Below w.heap.size w w'
theorem Ext.trans {a b c:World} (h:Ext a b) (k:Ext b c):Ext a c:=Below.trans h (Below.mono k h.size)
theorem cell_lt {w:World} {b:Nat} {o:Obj} (h:w.heap[b]?=some o):b<w.heap.size:=lt_of_block h
theorem Ext.cell {w w':World} (hb:Ext w w') {a:Addr} {v:Value} (h:w.cell? a=some v):w'.cell? a=some v :=
 (Below.cell hb (World.block_lt_of_cell? w _ h)).trans h
theorem Ext.heap {w w':World} (hb:Ext w w') {b:Nat} {o:Obj} (h:w.heap[b]?=some o):w'.heap[b]?=some o :=
 (hb.block b (cell_lt h)).trans h
theorem SlAt.ext {T:TypeId} {k:IntKind} {w w':World} {v:Value} {l:List Nat} (h:SlAt T k w v l) (hb:Ext w w'):SlAt T k w' v l:=by
 obtain ⟨a,b,off,cap,h1,h2,h3,h4,cur,fr,h5,h6⟩:=h
 exact ⟨a,b,off,cap,h1,h2,h3,h4,cur,fr,fun h=>hb.heap (h5 h),h6⟩
theorem SlAt.setCell {T:TypeId} {k:IntKind} {w:World} {v:Value} {l:List Nat} (h:SlAt T k w v l) {p:Addr} {c:Array Value} {U:TypeId} {fr:Nat×Nat}
  (hp:w.heap[p.block]?=some (.cells c U fr)) (hU:U≠T) (x:Value):SlAt T k (w.setCell p x) v l:=by
 obtain ⟨a,b,off,cap,h1,h2,h3,h4,cur,fr',h5,h6⟩:=h;refine ⟨a,b,off,cap,h1,h2,h3,h4,cur,fr',fun h => ?_,h6⟩;rw [Below.heap_setCell w p x b ?_]
 ·exact h5 h
 ·intro e
  have:=h5 h
  rw [e,hp] at this
  simp at this
  exact hU this.2.1
theorem SlAt.open {T:TypeId} {k:IntKind} {w:World} {v:Value} {l:List Nat} (h:SlAt T k w v l) :
  ∃ (a:Option Addr) (b off cap:Nat),v=.slice a l.length cap∧l.length≤cap∧cap≤maxLen∧(0<l.length→a=some ⟨b,off,none⟩) ∧
   ∀ i,i<l.length→w.cell? ⟨b,off+i,none⟩=some (.int k (l.getD i 0:Nat)):=by
 obtain ⟨a,b,off,cap,h1,h2,h3,h4,cur,fr,h5,h6⟩:=h;refine ⟨a,b,off,cap,h1,h2,h3,h4,fun i hi => ?_⟩
 have:=h5 (Nat.lt_of_le_of_lt (Nat.zero_le _) hi)
 simp [World.cell?,this,h6 i hi]
theorem SlAt.nil (T:TypeId) (k:IntKind) (w:World):SlAt T k w (.slice none 0 0) [] :=
 ⟨none,0,0,0,rfl,Nat.le_refl _,by simp [maxLen],fun h=>by simp at h,#[],(0,0),fun h=>by simp at h,fun i h=>by simp at h⟩
theorem SlAt.empty (T:TypeId) (k:IntKind) (w:World) (a:Option Addr) (cap:Nat) (hc:cap≤maxLen):SlAt T k w (.slice a 0 cap) [] :=
 ⟨a,0,0,cap,rfl,Nat.zero_le _,hc,fun h=>by simp at h,#[],(0,0),fun h=>by simp at h,fun i h=>by simp at h⟩
theorem SlAt.row {T:TypeId} {k:IntKind} {w:World} {b:Nat} {l:List Nat} {fr:Nat×Nat} (h:w.heap[b]?=some (.cells (rowOf k l) T fr)) (n cap:Nat) (hn:n≤l.length)
  (hc:n≤cap) (hm:cap≤maxLen):SlAt T k w (.slice (some ⟨b,0,none⟩) n cap) (l.take n):=by
 have hl:(l.take n).length=n:=by simp [Nat.min_eq_left hn]
 refine ⟨some ⟨b,0,none⟩,b,0,cap,by rw [hl],by rw [hl];exact hc,hm,fun _=>rfl,rowOf k l,fr,fun _=>h,fun i hi => ?_⟩;rw [hl] at hi;rw [Nat.zero_add,rowOf_get k l i (by omega)]
 simp [hi]
theorem SlAt.short {T:TypeId} {k:IntKind} {w:World} {a:Option Addr} {n cap:Nat} {l:List Nat} (h:SlAt T k w (.slice a n cap) l) (m:Nat) (hm:m≤n) :
  SlAt T k w (.slice a m cap) (l.take m):=by
 obtain ⟨a',b,off,cap',h1,h2,h3,h4,cur,fr,h5,h6⟩:=h;obtain ⟨rfl,rfl,rfl⟩:a=a'∧n=l.length∧cap=cap':=by simpa using h1
 have hl:(l.take m).length=m:=by simp [Nat.min_eq_left hm]
 refine ⟨a,b,off,cap,by rw [hl],by omega,h3,fun h=>h4 (by omega),cur,fr,fun h=>h5 (by omega),fun i hi => ?_⟩;rw [hl] at hi;rw [h6 i (by omega)]
 simp [hi]
/-! ### a row of the call's own -/
theorem row_cell {w:World} {b:Nat} {k:IntKind} {l:List Nat} {T:TypeId} {fr:Nat×Nat} (h:w.heap[b]?=some (.cells (rowOf k l) T fr)) (i:Nat) (hi:i<l.length) :
  w.cell? ⟨b,i,none⟩=some (.int k (l.getD i 0:Nat)):=by
 simp [World.cell?,h,rowOf_get k l i hi]
theorem row_free {w:World} {b:Nat} {k:IntKind} {l:List Nat} {T:TypeId} (h:w.heap[b]?=some (.cells (rowOf k l) T (0,0))) (i:Nat):w.frozen? ⟨b,i,none⟩=false:=by
 simp [World.frozen?,h]
theorem row_set {w:World} {b:Nat} {k:IntKind} {l:List Nat} {T:TypeId} (h:w.heap[b]?=some (.cells (rowOf k l) T (0,0))) (i x:Nat) :
  (w.setCell ⟨b,i,none⟩ (.int k (x:Nat))).heap[b]?=some (.cells (rowOf k (l.set i x)) T (0,0)):=by
 have hlt:=cell_lt h;have h':w.heap[b]=.cells (rowOf k l) T (0,0):=by simpa [Array.getElem?_eq_getElem hlt] using h
 show (w.heap.modify b _)[b]?=_
 rw [Array.getElem?_eq_getElem (by simpa using hlt),Array.getElem_modify_self,h',←rowOf_set]
 rfl
theorem make_row {P:Program} (t e:TypeId) (i:TypeInfo) (q:IntKind) (ht:P.underlying t=some (.slice e)) (hi:P.info? e=some i) (hz:i.zero=some (.int q 0)) (h1:i.size=1)
  (n:Nat) (x:Int) (hx:x=(n:Int)) (hn:n*i.bytes≤281474976710656) (hn':n≤maxLen) (w:World) :
  (Instr.makeSlice t (.int .i64 x) (.int .i64 x)).run P w=.ok (.slice (some ⟨w.heap.size,0,none⟩) n n) (w.alloc (.cells (rowOf q (List.replicate n 0)) e)):=by
 subst hx;have hn2:(n:Int)≤9223372036854775807:=by
  have h:=hn'
  simp [maxLen] at h
  omega
 rw [run_make w t e i (.int q 0) ht hi hz .i64 .i64 n n (by omega) (Int.le_refl _) (by rw [←Int.natCast_mul,Nat.mul_comm];exact Int.ofNat_le.2 hn) hn2];have e1:madeCells (Value.int q 0).cells (n*i.size)=rowOf q (List.replicate n 0):=by
  apply Array.ext_getElem?
  intro j
  simp only [rowOf,madeCells,Value.cells,h1,Nat.mul_one]
  by_cases hj:j<n
  ·simp [hj,Nat.mod_one]
  ·simp [hj]
 rw [Int.toNat_natCast,e1]
inductive AC where
 | v (x:Value)
 | o (k n:Nat)
 | p (h off:Nat)
 | e (cs:List AC)
 | sl (wd:Nat) (xs:List (List AC))
inductive AV where
 | c (x:AC)
 | g (xs:List AC)
 | t (xs:List AV)
 | j
structure Opq where
 R:Nat→Nat→World→Value→Prop
 box:TypeId→Bool
 ext:∀ {k n w w' x},R k n w x→Ext w w'→R k n w' x
 set:∀ {k n w x b c U fr i},R k n w x→w.heap[b]?=some (.cells c U fr)→box U=true→∀ y,R k n (w.setCell ⟨b,i,none⟩ y) x
 one:∀ {k n w x},R k n w x→x.oneCell'=true
 inv:World→Prop
 invE:∀ {w w'},inv w→Ext w w'→inv w'
 tab:Nat→Nat→Option Value
 tabR:∀ {w},inv w→∀ g i x,tab g i=some x→w.cell? ⟨g,i,none⟩=some x∧x.oneCell'=true
def All2 {α β:Type} (R:α→β→Prop):List α→List β→Prop
 | [],[]=>True
 | a :: l,b :: m=>R a b∧All2 R l m
 | _,_=>False
theorem All2.len {α β:Type} {R:α→β→Prop}:∀ {l:List α} {m:List β},All2 R l m→l.length=m.length
 | [],[],_=>rfl
 | _ :: _,_ :: _,h=>by simp [All2.len h.2]
theorem All2.mono {α β:Type} {R R':α→β→Prop} (hr:∀ a b,R a b→R' a b):∀ {l:List α} {m:List β},All2 R l m→All2 R' l m
 | [],[],_=>trivial
 | _ :: _,_ :: _,h=>⟨hr _ _ h.1,h.2.mono hr⟩
theorem All2.app {α β:Type} {R:α→β→Prop}:∀ {l:List α} {m:List β} {l':List α} {m':List β},All2 R l m→All2 R l' m'→All2 R (l++l') (m++m')
 | [],[],_,_,_,h'=>h'
 | _ :: _,_ :: _,_,_,h,h'=>⟨h.1,h.2.app h'⟩
theorem All2.take {α β:Type} {R:α→β→Prop}:∀ (n:Nat) {l:List α} {m:List β},All2 R l m→All2 R (l.take n) (m.take n)
 | 0,_,_,_=>by simp [All2]
 | _+1,[],[],_=>trivial
 | n+1,_ :: _,_ :: _,h=>⟨h.1,All2.take n h.2⟩
theorem All2.drop {α β:Type} {R:α→β→Prop}:∀ (n:Nat) {l:List α} {m:List β},All2 R l m→All2 R (l.drop n) (m.drop n)
 | 0,_,_,h=>h
 | _+1,[],[],_=>trivial
 | n+1,_ :: _,_ :: _,h=>All2.drop n h.2
theorem All2.get {α β:Type} {R:α→β→Prop}:∀ {l:List α} {m:List β} (_:All2 R l m) (i:Nat) (b:β),m[i]?=some b→∃ a,l[i]?=some a∧R a b
 | [],[],_,i,b,h=>by simp at h
 | a :: _,_ :: _,h,0,b,e=>⟨a,rfl,by simp at e;rw [←e];exact h.1⟩
 | _ :: _,_ :: _,h,i+1,b,e=>by simpa using h.2.get i b (by simpa using e)
mutual
def Rep0 (O:Opq) (S:Nat→Prop) (w:World):AC→Value→Prop
 | .v y,x=>x=y∧y.oneCell'=true
 | .o k n,x=>O.R k n w x
 | .p _ _,_=>False
 | .e cs,x=>∃ b off,S b∧x=.pointer (some ⟨b,off,none⟩)∧RepRow O S w cs b off
 | .sl wd xs,x=>∃ (a:Option Addr) (b off cap:Nat),x=.slice a xs.length cap∧(0<xs.length→a=some ⟨b,off,none⟩∧S b)∧RepRows O S w wd xs b off
def RepRow (O:Opq) (S:Nat→Prop) (w:World):List AC→Nat→Nat→Prop
 | [],_,_=>True
 | c :: cs,b,off=>(∃ x,w.cell? ⟨b,off,none⟩=some x∧Rep0 O S w c x)∧RepRow O S w cs b (off+1)
def RepRows (O:Opq) (S:Nat→Prop) (w:World) (wd:Nat):List (List AC)→Nat→Nat→Prop
 | [],_,_=>True
 | r :: rs,b,off=>r.length=wd∧RepRow O S w r b off∧RepRows O S w wd rs b (off+wd)
end
structure Evo (O:Opq) (S:Nat→Prop) (w w':World):Prop where
 heap:∀ b,S b→w'.heap[b]?=w.heap[b]?
 opq:∀ {k n x},O.R k n w x→O.R k n w' x
theorem cell_of_heap {w w':World} {b:Nat} (h:w'.heap[b]?=w.heap[b]?) (off:Nat):w'.cell? ⟨b,off,none⟩=w.cell? ⟨b,off,none⟩:=by
 simp only [World.cell?,h]
mutual
theorem Rep0.evo {O:Opq} {S S':Nat→Prop} {w w':World} (h:Evo O S w w') (hs:∀ b,S b→S' b):∀ (c:AC) (x:Value),Rep0 O S w c x→Rep0 O S' w' c x
 | .v y,x,r=>by simpa only [Rep0] using r
 | .o k n,x,r=>by simp only [Rep0] at r ⊢;exact h.opq r
 | .p _ _,x,r=>by simp only [Rep0] at r
 | .e cs,x,r=>by
  simp only [Rep0] at r ⊢;obtain ⟨b,off,hb,e,r⟩:=r
  exact ⟨b,off,hs b hb,e,RepRow.evo h hs cs b off (fun _=>hb) r⟩
 | .sl wd xs,x,r=>by
  simp only [Rep0] at r ⊢;obtain ⟨a,b,off,cap,e,ha,r⟩:=r;refine ⟨a,b,off,cap,e,fun hl=>⟨(ha hl).1,hs b (ha hl).2⟩,?_⟩
  exact RepRows.evo h hs wd xs b off (fun hl=>(ha hl).2) r
theorem RepRow.evo {O:Opq} {S S':Nat→Prop} {w w':World} (h:Evo O S w w') (hs:∀ b,S b→S' b):∀ (cs:List AC) (b off:Nat),(cs≠[]→S b)→RepRow O S w cs b off→RepRow O S' w' cs b off
 | [],_,_,_,_=>by simp only [RepRow]
 | c :: cs,b,off,hb,r=>by
  simp only [RepRow] at r ⊢;obtain ⟨⟨x,hx,r0⟩,r⟩:=r
  exact ⟨⟨x,by rw [cell_of_heap (h.heap b (hb (by simp)))];exact hx,Rep0.evo h hs c x r0⟩,RepRow.evo h hs cs b (off+1) (fun _=>hb (by simp)) r⟩
theorem RepRows.evo {O:Opq} {S S':Nat→Prop} {w w':World} (h:Evo O S w w') (hs:∀ b,S b→S' b) (wd:Nat):∀ (xs:List (List AC)) (b off:Nat),(0<xs.length→S b)→RepRows O S w wd xs b off→RepRows O S' w' wd xs b off
 | [],_,_,_,_=>by simp only [RepRows]
 | r :: rs,b,off,hb,q=>by
  simp only [RepRows] at q ⊢
  exact ⟨q.1,RepRow.evo h hs r b off (fun _=>hb (by simp)) q.2.1,RepRows.evo h hs wd rs b (off+wd) (fun _=>hb (by simp)) q.2.2⟩
end
def RepC (O:Opq) (β:Nat→Option Nat) (S:Nat→Prop) (w:World) (x:Value):AC→Prop
 | .p h off=>∃ b,β h=some b∧x=.pointer (some ⟨b,off,none⟩)
 | c=>Rep0 O S w c x
def isP:AC→Bool
 | .p _ _=>true
 | _=>false
def RepCs (O:Opq) (S:Nat→Prop) (w:World) (vs:List Value) (cs:List AC):Prop:=All2 (fun x c=>Rep0 O S w c x) vs cs
def RepW (O:Opq) (β:Nat→Option Nat) (S:Nat→Prop) (w:World) (x:Value):AV→Prop
 | .c a=>RepC O β S w x a
 | .g cs=>∃ vs:List Value,x=.agg vs.toArray∧RepCs O S w vs cs
 | .t _=>False
 | .j=>True
def RepV (O:Opq) (β:Nat→Option Nat) (S:Nat→Prop) (w:World) (x:Value):AV→Prop
 | .t xs=>∃ vs:List Value,x=.tuple vs.toArray∧All2 (RepW O (fun _=>none) S w) vs xs
 | a=>RepW O β S w x a
theorem Rep0.v' {O:Opq} {S:Nat→Prop} {w:World} {x y:Value} (e:x=y) (h:y.oneCell'=true):Rep0 O S w (.v y) x:=by rw [Rep0];exact ⟨e,h⟩
theorem Rep0.o' {O:Opq} {S:Nat→Prop} {w:World} {x:Value} {k n:Nat} (h:O.R k n w x):Rep0 O S w (.o k n) x:=by rw [Rep0];exact h
theorem Rep0.one {O:Opq} {S:Nat→Prop} {w:World} {c:AC} {x:Value} (h:Rep0 O S w c x):x.oneCell'=true:=by
 cases c with
 | v y=>simp only [Rep0] at h;rw [h.1];exact h.2
 | o k n=>simp only [Rep0] at h;exact O.one h
 | p _ _=>simp only [Rep0] at h
 | e cs=>simp only [Rep0] at h;obtain ⟨b,off,_,e,_⟩:=h;rw [e];rfl
 | sl wd xs=>simp only [Rep0] at h;obtain ⟨a,b,off,cap,e,_⟩:=h;rw [e];rfl
theorem RepC.one {O:Opq} {β:Nat→Option Nat} {S:Nat→Prop} {w:World} {c:AC} {x:Value} (h:RepC O β S w x c):x.oneCell'=true:=by
 cases c with
 | p _ _=>obtain ⟨b,_,e⟩:=h;rw [e];rfl
 | _=>exact Rep0.one h
theorem RepC.evo {O:Opq} {β β':Nat→Option Nat} {S S':Nat→Prop} {w w':World} (h:Evo O S w w') (hs:∀ b,S b→S' b) (hβ:∀ k b,β k=some b→β' k=some b) {x:Value} {c:AC} (r:RepC O β S w x c):RepC O β' S' w' x c:=by
 cases c with
 | p _ _=>obtain ⟨b,hb,e⟩:=r;exact ⟨b,hβ _ _ hb,e⟩
 | _=>exact Rep0.evo h hs _ _ r
theorem RepCs.evo {O:Opq} {S S':Nat→Prop} {w w':World} (h:Evo O S w w') (hs:∀ b,S b→S' b) {vs:List Value} {cs:List AC} (r:RepCs O S w vs cs):RepCs O S' w' vs cs :=
 All2.mono (fun _ _ r=>Rep0.evo h hs _ _ r) r
theorem RepW.evo {O:Opq} {β β':Nat→Option Nat} {S S':Nat→Prop} {w w':World} (h:Evo O S w w') (hs:∀ b,S b→S' b) (hβ:∀ k b,β k=some b→β' k=some b) {x:Value} {c:AV} (r:RepW O β S w x c):RepW O β' S' w' x c:=by
 cases c with
 | c a=>exact RepC.evo h hs hβ r
 | g cs=>obtain ⟨vs,e,r⟩:=r;exact ⟨vs,e,r.evo h hs⟩
 | t _=>exact r.elim
 | j=>trivial
theorem RepV.evo {O:Opq} {β β':Nat→Option Nat} {S S':Nat→Prop} {w w':World} (h:Evo O S w w') (hs:∀ b,S b→S' b) (hβ:∀ k b,β k=some b→β' k=some b) {x:Value} {c:AV} (r:RepV O β S w x c):RepV O β' S' w' x c:=by
 cases c with
 | t xs=>obtain ⟨vs,e,r⟩:=r;exact ⟨vs,e,All2.mono (fun _ _ r=>RepW.evo h hs (fun _ _ h=>h) r) r⟩
 | c a=>exact RepC.evo h hs hβ r
 | g cs=>exact RepW.evo (c:=.g cs) h hs hβ r
 | j=>trivial
theorem Evo.refl (O:Opq) (S:Nat→Prop) (w:World):Evo O S w w:=⟨fun _ _=>rfl,fun h=>h⟩
theorem Evo.of_ext {O:Opq} {S:Nat→Prop} {w w':World} (h:Ext w w') (hs:∀ b,S b→b<w.heap.size):Evo O S w w':=⟨fun b hb=>h.block b (hs b hb),fun r=>O.ext r h⟩
theorem Rep0.toC {O:Opq} {β:Nat→Option Nat} {S:Nat→Prop} {w:World} {c:AC} {x:Value} (h:Rep0 O S w c x):RepC O β S w x c:=by
 cases c with
 | p _ _=>simp only [Rep0] at h
 | _=>exact h
end Go.Proofs.YtgabigepocfllaaGreatDoor
