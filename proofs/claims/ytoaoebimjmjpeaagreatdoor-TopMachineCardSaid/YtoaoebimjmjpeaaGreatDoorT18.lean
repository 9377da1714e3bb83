/- A memory of parts: values of the walk as parts that say what they read as, the frame's own boxes by the number of the slot that holds them. -/
import Derived.Maps.RangeRun
import Derived.Deep.MidRow
import Derived.Great.BuildSlice
import Derived.Test.YtoaoebimjmjpeaaGreatDoorT02
namespace Go.Proofs.YtoaoebimjmjpeaaGreatDoor
open Go.RowKit Vn
open Go.ChangeMaps (setBlock)
set_option maxRecDepth 100000
set_option maxHeartbeats 8000000
inductive AC where
 | v (x:Value)
 | o (k n:Nat)
 | p (h off:Nat)
 | e (cs:List AC)
 | sl (wd:Nat) (xs:List (List AC))
 | mp (ag:Bool) (ks:List Int) (vs:List (List AC))
 | pm (h:Nat)
 | os (h n wd:Nat)
 | cl (k:Nat) (cs:List AC)
 | clp (k h:Nat) (cs:List AC)
 | u
inductive AV where
 | c (x:AC)
 | g (xs:List AC)
 | t (xs:List AV)
 | j
def isMapO:Obj→Bool
 | .map _ _=>true
 | .mapIter _ _ _ _=>true
 | .loop _=>true
 | .deferred _=>true
 | _=>false
structure Opq where
 R:Nat→Nat→World→Value→Prop
 box:TypeId→Bool
 ext:∀ {k n w w' x},R k n w x→Ext w w'→R k n w' x
 set:∀ {k n w x b c U fr i},R k n w x→w.heap[b]?=some (.cells c U fr)→box U=true→∀ y,R k n (w.setCell ⟨b,i,none⟩ y) x
 one:∀ {k n w x},R k n w x→x.oneCell'=true
 setM:∀ {k n w x b o},R k n w x→w.heap[b]?=some o→isMapO o=true→∀ o',R k n (setBlock w b o') x
 row:∀ {k n w w' x b c U},R k n w x→w.heap[b]?=some (.cells c U (0,0))→box U=true→(∀ j,j<w.heap.size→j≠b→w'.heap[j]?=w.heap[j]?)→R k n w' x
 inv:World→Prop
 invM:∀ {w b o},inv w→w.heap[b]?=some o→isMapO o=true→∀ o',inv (setBlock w b o')
 invE:∀ {w w'},inv w→Ext w w'→inv w'
 tab:Nat→Nat→Option Value
 tabR:∀ {w},inv w→∀ g i x,tab g i=some x→w.cell? ⟨g,i,none⟩=some x∧x.oneCell'=true
def clV (k b:Nat) (us:List Value):Value:=cond (Nat.beq k 1000000) (.func (.yield b) #[] #[]) (.func (.func k) #[] (Value.pointer (some ⟨b,0,none⟩) :: us).toArray)
theorem clV_one (k b:Nat) (us:List Value):(clV k b us).oneCell'=true:=by
 unfold clV
 cases Nat.beq k 1000000<;>rfl
theorem clV_ne {k:Nat} (h:Nat.beq k 1000000=false) (b:Nat) (us:List Value):clV k b us=.func (.func k) #[] (Value.pointer (some ⟨b,0,none⟩) :: us).toArray:=by simp [clV,h]
def All2 {α β:Type} (R:α→β→Prop):List α→List β→Prop
 | [],[]=>True
 | a :: l,b :: m=>R a b∧All2 R l m
 | _,_=>False
theorem All2.len {α β:Type} {R:α→β→Prop}:∀ {l:List α} {m:List β},All2 R l m→l.length=m.length
 | [],[],_=>rfl
 | _ :: _,_ :: _,h=>by simp [All2.len h.2]
theorem All2.mono {α β:Type} {R R':α→β→Prop} (hr:∀ a b,R a b→R' a b):∀ {l:List α} {m:List β},All2 R l m→All2 R' l m
 | [],[],_=>trivial
 | _ :: _,_ :: _,h=>⟨hr _ _ h.1,h.2.mono hr⟩
theorem All2.app {α β:Type} {R:α→β→Prop}:∀ {l:List α} {m:List β} {l':List α} {m':List β},All2 R l m→All2 R l' m'→All2 R (l++l') (m++m')
 | [],[],_,_,_,h'=>h'
 | _ :: _,_ :: _,_,_,h,h'=>⟨h.1,h.2.app h'⟩
theorem All2.take {α β:Type} {R:α→β→Prop}:∀ (n:Nat) {l:List α} {m:List β},All2 R l m→All2 R (l.take n) (m.take n)
 | 0,_,_,_=>by simp [All2]
 | _+1,[],[],_=>trivial
 | n+1,_ :: _,_ :: _,h=>⟨h.1,All2.take n h.2⟩
theorem All2.drop {α β:Type} {R:α→β→Prop}:∀ (n:Nat) {l:List α} {m:List β},All2 R l m→All2 R (l.drop n) (m.drop n)
 | 0,_,_,h=>h
 | _+1,[],[],_=>trivial
 | n+1,_ :: _,_ :: _,h=>All2.drop n h.2
theorem All2.get {α β:Type} {R:α→β→Prop}:∀ {l:List α} {m:List β} (_:All2 R l m) (i:Nat) (b:β),m[i]?=some b→∃ a,l[i]?=some a∧R a b
 | [],[],_,i,b,h=>by simp at h
 | a :: _,_ :: _,h,0,b,e=>⟨a,rfl,by simp at e;rw [←e];exact h.1⟩
 | _ :: _,_ :: _,h,i+1,b,e=>by simpa using h.2.get i b (by simpa using e)
structure MapOK (E:Array MapEntry) (ck:Nat):Prop where
 lt:∀ x∈E.toList,x.born<ck
 bn:(E.toList.map (·.born)).Nodup
 kn:(E.toList.map (·.key)).Nodup
def pack (ag:Bool) (us:List Value):Value:=match ag with
 | true=>.agg us.toArray
 | false=>us.headD undef
mutual
def Rep0 (O:Opq) (S:Nat→Prop) (w:World):AC→Value→Prop
 | .v y,x=>x=y∧y.oneCell'=true
 | .o k n,x=>O.R k n w x
 | .p _ _,_=>False
 | .e cs,x=>∃ b off,S b∧x=.pointer (some ⟨b,off,none⟩)∧RepRow O S w cs b off
 | .sl wd xs,x=>∃ (a:Option Addr) (b off cap:Nat),x=.slice a xs.length cap∧(0<xs.length→a=some ⟨b,off,none⟩∧S b∧xs.length≤cap)∧RepRows O S w wd xs b off
 | .mp ag ks vs,x=>∃ (b:Nat) (E:Array MapEntry) (ck:Nat) (L:List MapEntry),S b∧x=.map (some b)∧w.heap[b]?=some (.map E ck)∧MapOK E ck∧L.Perm E.toList∧RepEnts O S w ag vs ks L
 | .pm _,_=>False
 | .os _ _ _,_=>False
 | .cl k cs,x=>∃ us:List Value,x=.func (.func k) #[] us.toArray∧RepL O S w cs us
 | .clp _ _ _,_=>False
 | .u,_=>False
def RepEnts (O:Opq) (S:Nat→Prop) (w:World) (ag:Bool):List (List AC)→List Int→List MapEntry→Prop
 | [],[],[]=>True
 | v :: vs,k :: ks,e :: L=>e.key=.int .i64 k∧(∃ us,e.val=pack ag us∧(ag=false→us.length=1)∧RepL O S w v us)∧RepEnts O S w ag vs ks L
 | _,_,_=>False
def RepL (O:Opq) (S:Nat→Prop) (w:World):List AC→List Value→Prop
 | [],[]=>True
 | c :: cs,u :: us=>Rep0 O S w c u∧RepL O S w cs us
 | _,_=>False
def RepRow (O:Opq) (S:Nat→Prop) (w:World):List AC→Nat→Nat→Prop
 | [],_,_=>True
 | c :: cs,b,off=>(∃ x,w.cell? ⟨b,off,none⟩=some x∧Rep0 O S w c x)∧RepRow O S w cs b (off+1)
def RepRows (O:Opq) (S:Nat→Prop) (w:World) (wd:Nat):List (List AC)→Nat→Nat→Prop
 | [],_,_=>True
 | r :: rs,b,off=>r.length=wd∧RepRow O S w r b off∧RepRows O S w wd rs b (off+wd)
end
structure Evo (O:Opq) (S:Nat→Prop) (w w':World):Prop where
 heap:∀ b,S b→w'.heap[b]?=w.heap[b]?
 opq:∀ {k n x},O.R k n w x→O.R k n w' x
 csz:∀ {b:Nat} {c:Array Value} {T:TypeId},w.heap[b]?=some (.cells c T (0,0))→∃ c':Array Value,w'.heap[b]?=some (.cells c' T (0,0))∧c'.size=c.size
theorem cell_of_heap {w w':World} {b:Nat} (h:w'.heap[b]?=w.heap[b]?) (off:Nat):w'.cell? ⟨b,off,none⟩=w.cell? ⟨b,off,none⟩:=by
 simp only [World.cell?,h]
mutual
theorem Rep0.evo {O:Opq} {S S':Nat→Prop} {w w':World} (h:Evo O S w w') (hs:∀ b,S b→S' b):∀ (c:AC) (x:Value),Rep0 O S w c x→Rep0 O S' w' c x
 | .v y,x,r=>by simpa only [Rep0] using r
 | .o k n,x,r=>by simp only [Rep0] at r ⊢;exact h.opq r
 | .p _ _,x,r=>by simp only [Rep0] at r
 | .e cs,x,r=>by
  simp only [Rep0] at r ⊢;obtain ⟨b,off,hb,e,r⟩:=r
  exact ⟨b,off,hs b hb,e,RepRow.evo h hs cs b off (fun _=>hb) r⟩
 | .sl wd xs,x,r=>by
  simp only [Rep0] at r ⊢;obtain ⟨a,b,off,cap,e,ha,r⟩:=r;refine ⟨a,b,off,cap,e,fun hl=>⟨(ha hl).1,hs b (ha hl).2.1,(ha hl).2.2⟩,?_⟩
  exact RepRows.evo h hs wd xs b off (fun hl=>(ha hl).2.1) r
 | .mp ag ks vs,x,r=>by
  simp only [Rep0] at r ⊢;obtain ⟨b,E,ck,L,hb,e,hh,ok,hp,r⟩:=r
  exact ⟨b,E,ck,L,hs b hb,e,by rw [h.heap b hb];exact hh,ok,hp,RepEnts.evo h hs ag vs ks L r⟩
 | .pm _,x,r=>by simp only [Rep0] at r
 | .os _ _ _,x,r=>by simp only [Rep0] at r
 | .cl k cs,x,r=>by
  simp only [Rep0] at r ⊢;obtain ⟨us,e,r⟩:=r
  exact ⟨us,e,RepL.evo h hs cs us r⟩
 | .clp _ _ _,x,r=>by simp only [Rep0] at r
 | .u,x,r=>by simp only [Rep0] at r
theorem RepEnts.evo {O:Opq} {S S':Nat→Prop} {w w':World} (h:Evo O S w w') (hs:∀ b,S b→S' b) (ag:Bool):∀ (vs:List (List AC)) (ks:List Int) (L:List MapEntry),RepEnts O S w ag vs ks L→RepEnts O S' w' ag vs ks L
 | [],[],[],_=>by simp only [RepEnts]
 | v :: vs,k :: ks,e :: L,r=>by
  simp only [RepEnts] at r ⊢;obtain ⟨h1,⟨us,h2,h3,h4⟩,r⟩:=r
  exact ⟨h1,⟨us,h2,h3,RepL.evo h hs v us h4⟩,RepEnts.evo h hs ag vs ks L r⟩
 | [],[],_ :: _,r=>by simp only [RepEnts] at r
 | [],_ :: _,_,r=>by simp only [RepEnts] at r
 | _ :: _,[],_,r=>by simp only [RepEnts] at r
 | _ :: _,_ :: _,[],r=>by simp only [RepEnts] at r
theorem RepL.evo {O:Opq} {S S':Nat→Prop} {w w':World} (h:Evo O S w w') (hs:∀ b,S b→S' b):∀ (cs:List AC) (us:List Value),RepL O S w cs us→RepL O S' w' cs us
 | [],[],_=>by simp only [RepL]
 | c :: cs,u :: us,r=>by
  simp only [RepL] at r ⊢
  exact ⟨Rep0.evo h hs c u r.1,RepL.evo h hs cs us r.2⟩
 | [],_ :: _,r=>by simp only [RepL] at r
 | _ :: _,[],r=>by simp only [RepL] at r
theorem RepRow.evo {O:Opq} {S S':Nat→Prop} {w w':World} (h:Evo O S w w') (hs:∀ b,S b→S' b):∀ (cs:List AC) (b off:Nat),(cs≠[]→S b)→RepRow O S w cs b off→RepRow O S' w' cs b off
 | [],_,_,_,_=>by simp only [RepRow]
 | c :: cs,b,off,hb,r=>by
  simp only [RepRow] at r ⊢;obtain ⟨⟨x,hx,r0⟩,r⟩:=r
  exact ⟨⟨x,by rw [cell_of_heap (h.heap b (hb (by simp)))];exact hx,Rep0.evo h hs c x r0⟩,RepRow.evo h hs cs b (off+1) (fun _=>hb (by simp)) r⟩
theorem RepRows.evo {O:Opq} {S S':Nat→Prop} {w w':World} (h:Evo O S w w') (hs:∀ b,S b→S' b) (wd:Nat):∀ (xs:List (List AC)) (b off:Nat),(0<xs.length→S b)→RepRows O S w wd xs b off→RepRows O S' w' wd xs b off
 | [],_,_,_,_=>by simp only [RepRows]
 | r :: rs,b,off,hb,q=>by
  simp only [RepRows] at q ⊢
  exact ⟨q.1,RepRow.evo h hs r b off (fun _=>hb (by simp)) q.2.1,RepRows.evo h hs wd rs b (off+wd) (fun _=>hb (by simp)) q.2.2⟩
end
def RepC (O:Opq) (β:Nat→Option Nat) (S:Nat→Prop) (w:World) (x:Value):AC→Prop
 | .p h off=>∃ b,β h=some b∧x=.pointer (some ⟨b,off,none⟩)
 | .pm h=>∃ b,β h=some b∧x=.map (some b)
 | .os h n wd=>∃ (b cap:Nat) (c:Array Value) (T:TypeId),β h=some b∧x=.slice (some ⟨b,0,none⟩) n cap∧w.heap[b]?=some (.cells c T (0,0))∧c.size=cap*wd∧cap≤maxLen∧n≤cap
 | .clp k h cs=>∃ (b:Nat) (us:List Value),β h=some b∧x=clV k b us∧RepL O S w cs us
 | .u=>x.oneCell'=true
 | c=>Rep0 O S w c x
def isP:AC→Bool
 | .p _ _=>true
 | .pm _=>true
 | .os _ _ _=>true
 | .clp _ _ _=>true
 | .u=>true
 | _=>false
def refC:AC→Option Nat
 | .p h _=>some h
 | .pm h=>some h
 | .os h _ _=>some h
 | .clp _ h _=>some h
 | _=>none
def RepCs (O:Opq) (β:Nat→Option Nat) (S:Nat→Prop) (w:World) (vs:List Value) (cs:List AC):Prop:=All2 (fun x c=>RepC O β S w x c) vs cs
def RepW (O:Opq) (β:Nat→Option Nat) (S:Nat→Prop) (w:World) (x:Value):AV→Prop
 | .c a=>RepC O β S w x a
 | .g cs=>∃ vs:List Value,x=.agg vs.toArray∧RepCs O β S w vs cs
 | .t _=>False
 | .j=>True
def RepV (O:Opq) (β:Nat→Option Nat) (S:Nat→Prop) (w:World) (x:Value):AV→Prop
 | .t xs=>∃ vs:List Value,x=.tuple vs.toArray∧All2 (RepW O (fun _=>none) S w) vs xs
 | a=>RepW O β S w x a
theorem Rep0.v' {O:Opq} {S:Nat→Prop} {w:World} {x y:Value} (e:x=y) (h:y.oneCell'=true):Rep0 O S w (.v y) x:=by rw [Rep0];exact ⟨e,h⟩
theorem Rep0.o' {O:Opq} {S:Nat→Prop} {w:World} {x:Value} {k n:Nat} (h:O.R k n w x):Rep0 O S w (.o k n) x:=by rw [Rep0];exact h
theorem Rep0.one {O:Opq} {S:Nat→Prop} {w:World} {c:AC} {x:Value} (h:Rep0 O S w c x):x.oneCell'=true:=by
 cases c with
 | v y=>simp only [Rep0] at h;rw [h.1];exact h.2
 | o k n=>simp only [Rep0] at h;exact O.one h
 | p _ _=>simp only [Rep0] at h
 | e cs=>simp only [Rep0] at h;obtain ⟨b,off,_,e,_⟩:=h;rw [e];rfl
 | sl wd xs=>simp only [Rep0] at h;obtain ⟨a,b,off,cap,e,_⟩:=h;rw [e];rfl
 | mp ag ks vs=>simp only [Rep0] at h;obtain ⟨b,_,_,_,_,e,_⟩:=h;rw [e];rfl
 | pm _=>simp only [Rep0] at h
 | os _ _ _=>simp only [Rep0] at h
 | cl k cs=>simp only [Rep0] at h;obtain ⟨us,e,_⟩:=h;rw [e];rfl
 | clp _ _ _=>simp only [Rep0] at h
 | u=>simp only [Rep0] at h
theorem RepC.one {O:Opq} {β:Nat→Option Nat} {S:Nat→Prop} {w:World} {c:AC} {x:Value} (h:RepC O β S w x c):x.oneCell'=true:=by
 cases c with
 | p _ _=>obtain ⟨b,_,e⟩:=h;rw [e];rfl
 | pm _=>obtain ⟨b,_,e⟩:=h;rw [e];rfl
 | os _ _ _=>obtain ⟨b,_,_,_,_,e,_⟩:=h;rw [e];rfl
 | clp _ _ _=>obtain ⟨b,us,_,e,_⟩:=h;rw [e];exact clV_one _ _ _
 | u=>exact h
 | _=>exact Rep0.one h
theorem RepC.evo {O:Opq} {β β':Nat→Option Nat} {S S':Nat→Prop} {w w':World} (h:Evo O S w w') (hs:∀ b,S b→S' b) (hβ:∀ k b,β k=some b→β' k=some b) {x:Value} {c:AC} (r:RepC O β S w x c):RepC O β' S' w' x c:=by
 cases c with
 | p _ _=>obtain ⟨b,hb,e⟩:=r;exact ⟨b,hβ _ _ hb,e⟩
 | pm _=>obtain ⟨b,hb,e⟩:=r;exact ⟨b,hβ _ _ hb,e⟩
 | os _ _ _=>obtain ⟨b,cap,c,T,hb,e,g,hc⟩:=r;obtain ⟨c',g',e'⟩:=h.csz g;exact ⟨b,cap,c',T,hβ _ _ hb,e,g',by rw [e'];exact hc⟩
 | clp _ _ _=>obtain ⟨b,us,hb,e,r⟩:=r;exact ⟨b,us,hβ _ _ hb,e,RepL.evo h hs _ _ r⟩
 | u=>exact r
 | _=>exact Rep0.evo h hs _ _ r
theorem RepCs.evo {O:Opq} {β β':Nat→Option Nat} {S S':Nat→Prop} {w w':World} (h:Evo O S w w') (hs:∀ b,S b→S' b) (hβ:∀ k b,β k=some b→β' k=some b) {vs:List Value} {cs:List AC} (r:RepCs O β S w vs cs):RepCs O β' S' w' vs cs :=
 All2.mono (fun _ _ r=>RepC.evo h hs hβ r) r
theorem RepW.evo {O:Opq} {β β':Nat→Option Nat} {S S':Nat→Prop} {w w':World} (h:Evo O S w w') (hs:∀ b,S b→S' b) (hβ:∀ k b,β k=some b→β' k=some b) {x:Value} {c:AV} (r:RepW O β S w x c):RepW O β' S' w' x c:=by
 cases c with
 | c a=>exact RepC.evo h hs hβ r
 | g cs=>obtain ⟨vs,e,r⟩:=r;exact ⟨vs,e,r.evo h hs hβ⟩
 | t _=>exact r.elim
 | j=>trivial
theorem RepV.evo {O:Opq} {β β':Nat→Option Nat} {S S':Nat→Prop} {w w':World} (h:Evo O S w w') (hs:∀ b,S b→S' b) (hβ:∀ k b,β k=some b→β' k=some b) {x:Value} {c:AV} (r:RepV O β S w x c):RepV O β' S' w' x c:=by
 cases c with
 | t xs=>obtain ⟨vs,e,r⟩:=r;exact ⟨vs,e,All2.mono (fun _ _ r=>RepW.evo h hs (fun _ _ h=>h) r) r⟩
 | c a=>exact RepC.evo h hs hβ r
 | g cs=>exact RepW.evo (c:=.g cs) h hs hβ r
 | j=>trivial
theorem Evo.refl (O:Opq) (S:Nat→Prop) (w:World):Evo O S w w:=⟨fun _ _=>rfl,fun h=>h,fun h=>⟨_,h,rfl⟩⟩
theorem Evo.of_ext {O:Opq} {S:Nat→Prop} {w w':World} (h:Ext w w') (hs:∀ b,S b→b<w.heap.size):Evo O S w w':=⟨fun b hb=>h.block b (hs b hb),fun r=>O.ext r h,fun g=>⟨_,h.heap g,rfl⟩⟩
theorem Rep0.toC {O:Opq} {β:Nat→Option Nat} {S:Nat→Prop} {w:World} {c:AC} {x:Value} (h:Rep0 O S w c x):RepC O β S w x c:=by
 cases c with
 | p _ _=>simp only [Rep0] at h
 | pm _=>simp only [Rep0] at h
 | os _ _ _=>simp only [Rep0] at h
 | clp _ _ _=>simp only [Rep0] at h
 | u=>simp only [Rep0] at h
 | _=>exact h
theorem RepC.to0 {O:Opq} {β:Nat→Option Nat} {S:Nat→Prop} {w:World} {c:AC} {x:Value} (h:RepC O β S w x c) (hp:isP c=false):Rep0 O S w c x:=by
 cases c with
 | p _ _=>simp [isP] at hp
 | pm _=>simp [isP] at hp
 | os _ _ _=>simp [isP] at hp
 | clp _ _ _=>simp [isP] at hp
 | u=>simp [isP] at hp
 | _=>exact h
inductive Kd where
 | int (k:IntKind)
 | str
 | bool
 | other
structure Ty where
 agg:Bool
 zero:List AC
 flds:List (Nat×Nat×Bool)
 elem:Option Nat
 kd:Kd
 eq:Bool
 arr:Option Nat:=none
 /-- of a map with keys int: is an element a struct?,its zero value. -/
 mp:Option (Bool×List AC):=none
 /-- of a slice: the type of an element,where the walk appends. -/
 et:Nat:=0
def lenZ {α:Type}:List α→Nat→(Int→Prop)→Prop
 | [],n,k=>k ((n:Nat):Int)
 | _ :: l,n,k=>lenZ l (n+1) k
theorem lenZ_n {α:Type} (k:Int→Prop):∀ (l:List α) (n:Nat),lenZ l n k=k ((n+l.length:Nat):Int)
 | [],_=>rfl
 | x :: l,n=>by
  show lenZ l (n+1) k=_
  rw [lenZ_n k l,List.length_cons,Nat.add_assoc,Nat.add_comm 1]
theorem lenZ_eq {α:Type} (l:List α) (k:Int→Prop):lenZ l 0 k=k ((l.length:Nat):Int):=by rw [lenZ_n,Nat.zero_add]
def lenK {α:Type} (wd:Nat) (xs:List α) (k:Int→Prop):Prop:=cond (Nat.beq wd 4) (lenZ xs 0 k) (k ((xs.length:Nat):Int))
theorem lenK_eq {α:Type} (wd:Nat) (xs:List α) (k:Int→Prop):lenK wd xs k=k ((xs.length:Nat):Int):=by
 unfold lenK
 cases Nat.beq wd 4
 ·rfl
 ·exact lenZ_eq xs k
inductive Bx where
 | b (T:Nat) (cs:List AC)
 | r (T wd:Nat) (cs:List AC)
 | m (ag:Bool) (ks:List Int) (vs:List (List AC))
 | it (ag:Bool) (ks:List Int) (vs:List (List AC)) (cur:Option (Int×List AC))
 | z (o:Obj)
def Bx.cells:Bx→Option (Nat×List AC)
 | .b T cs=>some (T,cs)
 | .r T _ cs=>some (T,cs)
 | _=>none
def Bx.setCells:Bx→List AC→Bx
 | .b T _,cs=>.b T cs
 | .r T wd _,cs=>.r T wd cs
 | X,_=>X
inductive Eff where
 | val (v:AV)
 | new (X:Bx)
 | sto (h:Nat) (X:Bx) (v:AV)
structure View where
 tv:Nat→AV
 bv:Nat→Option Bx
 /-- the slots of frames that wait. -/
 sv:List (Nat→AV):=[]
 /-- the marks that loops over functions have left. -/
 df:List AC:=[]
def Bx.ref (X:Bx) (t:Nat):AC:=match X with
 | .m _ _ _=>.pm t
 | _=>.p t 0
def upd {α:Type} (f:Nat→α) (k:Nat) (x:α):Nat→α:=fun i=>cond (Nat.beq i k) x (f i)
def View.put (V:View) (d:Option Nat) (x:AV):View :=
 match d with
 | some t=>⟨upd V.tv t x,V.bv,V.sv,V.df⟩
 | none=>V
def View.app (V:View) (e:Eff) (d:Option Nat):View :=
 match e with
 | .val x=>V.put d x
 | .new X=>match d with
  | some t=>⟨upd V.tv t (.c (X.ref t)),upd V.bv t (some X),V.sv,V.df⟩
  | none=>V
 | .sto h X v=>(⟨V.tv,upd V.bv h (some X),V.sv,V.df⟩:View).put d v
def View.ev (V:View):Operand→AV
 | .tmp t=>V.tv t
 | .const (.tuple _)=>.j
 | .const (.agg _)=>.j
 | .const x=>.c (.v x)
 | .global g=>.c (.v (.pointer (some ⟨g,0,none⟩)))
 | .func f=>.c (.v (.func (.func f) #[] #[]))
theorem cond_ff {b:Bool} {p:Prop} (h:cond b p False):b=true∧p:=by
 cases b with
 | false=>exact h.elim
 | true=>exact ⟨rfl,h⟩
/-! ### the parts of a value, brought out one by one -/
def takeK:Nat→List AC→(List AC→Prop)→Prop
 | 0,_,k=>k []
 | n+1,c :: cs,k=>takeK n cs fun l=>k (c :: l)
 | _+1,[],_=>False
theorem takeK_iff:∀ (n:Nat) (cs:List AC) (k:List AC→Prop),takeK n cs k↔n≤cs.length∧k (cs.take n)
 | 0,cs,k=>by simp [takeK]
 | n+1,[],k=>by simp [takeK]
 | n+1,c :: cs,k=>by simp [takeK,takeK_iff n cs]
def allK:List AC→(List AC→Prop)→Prop
 | [],k=>k []
 | c :: cs,k=>allK cs fun l=>k (c :: l)
theorem allK_iff:∀ (cs:List AC) (k:List AC→Prop),allK cs k↔k cs
 | [],k=>by simp [allK]
 | c :: cs,k=>by simp [allK,allK_iff cs]
def noPs:List AC→Bool
 | []=>true
 | c :: cs=>match isP c with
  | true=>false
  | false=>noPs cs
theorem noPs_iff:∀ cs:List AC,noPs cs=true↔∀ c∈cs,isP c=false
 | []=>by simp [noPs]
 | c :: cs=>by
  simp only [noPs]
  cases h:isP c<;>simp [h,noPs_iff cs]
def lookK:List Int→List (List AC)→Int→List AC→List AC
 | k :: ks,v :: vs,i,z=>cond (decide (k=i)) v (lookK ks vs i z)
 | _,_,_,z=>z
def memK:List Int→Int→Bool
 | [],_=>false
 | k :: ks,i=>cond (decide (k=i)) true (memK ks i)
def repV:List Int→List (List AC)→Int→List AC→List (List AC)
 | k :: ks,v :: vs,i,x=>cond (decide (k=i)) (x :: vs) (v :: repV ks vs i x)
 | _,_,_,_=>[]
def insV:List Int→List (List AC)→Int→List AC→List (List AC)
 | k :: ks,v :: vs,i,x=>cond (decide (i<k)) (x :: v :: vs) (v :: insV ks vs i x)
 | _,_,_,x=>[x]
def insKs:List Int→Int→List Int
 | k :: ks,i=>cond (decide (i<k)) (i :: k :: ks) (k :: insKs ks i)
 | [],i=>[i]
def putV (ks:List Int) (vs:List (List AC)) (i:Int) (x:List AC):List (List AC):=cond (memK ks i) (repV ks vs i x) (insV ks vs i x)
def putKs (ks:List Int) (i:Int):List Int:=cond (memK ks i) ks (insKs ks i)
def delV:List Int→List (List AC)→Int→List (List AC)
 | k :: ks,v :: vs,i=>cond (decide (k=i)) vs (v :: delV ks vs i)
 | _,_,_=>[]
def delKs:List Int→Int→List Int
 | k :: ks,i=>cond (decide (k=i)) ks (k :: delKs ks i)
 | [],_=>[]
def cellsK:AV→(List AC→Prop)→Prop
 | .c x,k=>k [x]
 | .g cs,k=>allK cs k
 | _,_=>False
def fwdK:AV→(AV→Prop)→Prop
 | .c x,k=>k (.c x)
 | .g cs,k=>allK cs fun l=>k (.g l)
 | .t l,k=>k (.t l)
 | .j,_=>False
theorem fwdK_iff (x:AV) (k:AV→Prop):fwdK x k↔x≠.j∧k x:=by
 cases x<;>simp [fwdK,allK_iff]
def partK (agg:Bool) (n:Nat) (cs:List AC) (k:AV→Prop):Prop :=
 match agg with
 | true=>takeK n cs fun l=>k (.g l)
 | false=>match cs with
  | c :: _=>k (.c c)
  | []=>False
def packK (ag:Bool) (cs:List AC) (k:AV→Prop):Prop:=match ag with
 | true=>allK cs fun l=>k (.g l)
 | false=>match cs with
  | [c]=>k (.c c)
  | _=>False
def shapeK:Bool→AV→(List AC→Prop)→Prop
 | true,.g cs,k=>allK cs k
 | false,.c x,k=>k [x]
 | _,_,_=>False
def flatC:AC→Bool
 | .v _=>true
 | .o _ _=>true
 | _=>false
def FlatVs (vs:List (List AC)):Prop:=∀ v∈vs,∀ c∈v,flatC c=true
def fillK (fl:List (Nat×Nat×Bool)) (ρ:Operand→AV):List (Nat×Operand)→List AC→(List AC→Prop)→Prop
 | [],cs,k=>k cs
 | (i,x) :: r,cs,k=>match fl[i]? with
  | some (off,n,_)=>cellsK (ρ x) fun xs=>cond (Nat.beq xs.length n&&Nat.ble (off+n) cs.length) (fillK fl ρ r (cs.take off++xs++cs.drop (off+n)) k) False
  | none=>False
def rowsK (wd:Nat) (ρ:Operand→AV):Nat→List (Nat×Operand)→(List (List AC)→Prop)→Prop
 | _,[],k=>k []
 | i,(j,x) :: r,k=>cond (Nat.beq j i) (cellsK (ρ x) fun xs=>cond (Nat.beq xs.length wd&&noPs xs) (rowsK wd ρ (i+1) r fun l=>k (xs :: l)) False) False
def eqK:List AC→List AC→List AC→(Bool→Prop)→Prop
 | [],[],[],k=>k true
 | .v (.int c _) :: z,.v (.int a x) :: l,.v (.int b y) :: m,k=>cond (decide (a=c)&&decide (b=c)) (eqK z l m fun r=>k (x==y&&r)) False
 | .v (.bool _) :: z,.v (.bool x) :: l,.v (.bool y) :: m,k=>eqK z l m fun r=>k (x==y&&r)
 | .v (.string _) :: z,.v (.string x) :: l,.v (.string y) :: m,k=>eqK z l m fun r=>k (x.toList==y.toList&&r)
 | _,_,_,_=>False
noncomputable def fitsB (x y:ByteArray):Bool := @decide (((x.size+y.size:Nat):Int)≤IntKind.i64.max) (Classical.propDecidable _)
theorem of_fits {x y:ByteArray} (h:fitsB x y=true):((x.size+y.size:Nat):Int)≤IntKind.i64.max := @of_decide_eq_true _ (Classical.propDecidable _) h
def binK (op:BinOp) (a b:Value) (k:Value→Prop):Prop :=
 match op,a,b with
 | .shl,.int p x,.int _ y=>cond (decide (0≤y)) (k (.int p (p.wrap (x*2^(min y.toNat p.bits))))) False
 | .shr,.int p x,.int _ y=>cond (decide (0≤y)) (k (.int p (x.fdiv (2^(min y.toNat p.bits))))) False
 | .add,.int p x,.int q y=>cond (decide (p=q)) (k (.int p (p.wrap (x+y)))) False
 | .sub,.int p x,.int q y=>cond (decide (p=q)) (k (.int p (p.wrap (x-y)))) False
 | .mul,.int p x,.int q y=>cond (decide (p=q)) (k (.int p (p.wrap (x*y)))) False
 | .quo,.int p x,.int q y=>cond (decide (p=q)&&decide (y≠0)) (k (.int p (p.wrap (x.tdiv y)))) False
 | .rem,.int p x,.int q y=>cond (decide (p=q)&&decide (y≠0)) (k (.int p (x.tmod y))) False
 | .and,.int p x,.int q y=>cond (decide (p=q)) (k (.int p (p.wrap (BitVec.ofInt p.bits x &&& BitVec.ofInt p.bits y).toNat))) False
 | .or,.int p x,.int q y=>cond (decide (p=q)) (k (.int p (p.wrap (BitVec.ofInt p.bits x ||| BitVec.ofInt p.bits y).toNat))) False
 | .xor,.int p x,.int q y=>cond (decide (p=q)) (k (.int p (p.wrap (BitVec.ofInt p.bits x ^^^ BitVec.ofInt p.bits y).toNat))) False
 | .eql,.int p x,.int q y=>cond (decide (p=q)) (k (.bool (x==y))) False
 | .neq,.int p x,.int q y=>cond (decide (p=q)) (k (.bool (x != y))) False
 | .lss,.int p x,.int q y=>cond (decide (p=q)) (k (.bool (decide (x<y)))) False
 | .leq,.int p x,.int q y=>cond (decide (p=q)) (k (.bool (decide (x≤y)))) False
 | .gtr,.int p x,.int q y=>cond (decide (p=q)) (k (.bool (decide (x>y)))) False
 | .geq,.int p x,.int q y=>cond (decide (p=q)) (k (.bool (decide (x≥y)))) False
 | .eql,.string x,.string y=>k (.bool (x.toList==y.toList))
 | .neq,.string x,.string y=>k (.bool (!(x.toList==y.toList)))
 | .add,.string x,.string y=>cond (fitsB x y) (k (.string (x++y))) False
 | _,_,_=>False
def unK (op:UnOp) (a:Value) (k:Value→Prop):Prop :=
 match op,a with
 | .not,.bool b=>k (.bool (!b))
 | .neg,.int p x=>k (.int p (p.wrap (0-x)))
 | _,_=>False
/-! ### what an own box holds, as it stands -/
def mapK {α:Type} (F:α→(α→Prop)→Prop):List α→(List α→Prop)→Prop
 | [],k=>k []
 | c :: cs,k=>F c fun d=>mapK F cs fun l=>k (d :: l)
def chunk (wd:Nat):Nat→List AC→List (List AC)
 | 0,_=>[]
 | n+1,l=>l.take wd :: chunk wd n (l.drop wd)
def upM:List AC→List AC
 | []=>[]
 | c :: cs=>match c with
  | .pm _=>[]
  | c=>c :: upM cs
def cutM (fl:Bool) (cs:List AC):List AC:=cond fl cs (upM cs)
def frzK (fl:Bool) (bv:Nat→Option Bx):Nat→AC→(AC→Prop)→Prop
 | 0,_,_=>False
 | f+1,c,k=>match c with
  | .p h off=>match bv h with
   | some (.b _ cs)=>mapK (frzK fl bv f) (cutM fl cs) fun l=>k (.e (l.drop off))
   | some (.r _ _ cs)=>mapK (frzK fl bv f) cs fun l=>k (.e (l.drop off))
   | _=>False
  | .pm h=>match bv h with
   | some (.m ag ks vs)=>cond fl (k (.mp ag ks vs)) False
   | _=>False
  | .os h n _=>match bv h with
   | some (.r _ wd cs)=>cond (Nat.ble (n*wd) cs.length) (mapK (frzK fl bv f) cs fun l=>k (.sl wd (chunk wd n l))) False
   | _=>False
  | .clp c h cs=>match bv h with
   | some (.b _ ds)=>cond (Nat.beq c 1000000) False (mapK (frzK fl bv f) ds fun l=>k (.cl c (.e l :: cs)))
   | _=>False
  | .u=>False
  | c=>k c
def argsK (fl:Bool) (ρ:Operand→AV) (bv:Nat→Option Bx):List Operand→(List AV→Prop)→Prop
 | [],k=>k []
 | x :: r,k=>match ρ x with
  | .c c=>cond (isP c) (frzK fl bv 4 c fun d=>argsK fl ρ bv r fun l=>k (.c d :: l)) (argsK fl ρ bv r fun l=>k (.c c :: l))
  | .g cs=>allK cs fun m=>cond (noPs m) (argsK fl ρ bv r fun l=>k (.g m :: l)) False
  | _=>False
def lends (ρ:Operand→AV):List Operand→Bool
 | []=>false
 | x :: r=>match ρ x with
  | .c c=>cond (isP c) true (lends ρ r)
  | _=>lends ρ r
def noPV:AV→Bool
 | .c x => !isP x
 | .g l=>noPs l
 | .t l=>l.all fun | .c x => !isP x | .g l=>noPs l | _=>false
 | .j=>false
structure Cal (P:Program) (O:Opq) (k:FuncId) (args:List AV) (r:AV):Prop where
 body:∃ fn,P.funcs[k]?=some fn∧(fn.name == "runtime.NumGoroutine")=false∧fn.body.isNone=false
 nop:noPV r=true
 run:∀ (S:Nat→Prop) (w:World) (vs:List Value),(∀ b,S b→b<w.heap.size)→O.inv w→All2 (RepW O (fun _=>none) S w) vs args →
  Calls P k vs.toArray w fun e w'=>∃ v,e=.returned v∧Ext w w'∧RepV O (fun _=>none) (fun b=>S b∨(w.heap.size≤b∧b<w'.heap.size)) w' v r
def FlatM:AC→Prop
 | .mp _ _ vs=>FlatVs vs
 | c=>flatC c=true
def FlatA:AV→Prop
 | .c c=>FlatM c
 | .g l=>∀ c∈l,flatC c=true
 | _=>False
def FlatR:AV→Prop
 | .t l=>∀ x∈l,FlatA x
 | x=>FlatA x
structure CalN (P:Program) (O:Opq) (k:FuncId) (args:List AV) (r:AV):Prop where
 body:∃ fn,P.funcs[k]?=some fn∧(fn.name == "runtime.NumGoroutine")=false∧fn.body.isNone=false
 nop:noPV r=true
 run:∀ (S:Nat→Prop) (w:World) (vs:List Value),(∀ b,S b→b<w.heap.size)→O.inv w→All2 (RepW O (fun _=>none) S w) vs args →
  Calls P k vs.toArray w fun e w'=>∃ v,e=.returned v∧Ext w w'∧RepV O (fun _=>none) (fun b=>w.heap.size≤b∧b<w'.heap.size) w' v r
structure CalS (P:Program) (O:Opq) (k:FuncId) (args:List AV) (n wd:Nat) (U:TypeId) (cs:List AC):Prop where
 body:∃ fn,P.funcs[k]?=some fn∧(fn.name == "runtime.NumGoroutine")=false∧fn.body.isNone=false
 box:O.box U=true
 flat:∀ c∈cs,flatC c=true
 run:∀ (S:Nat→Prop) (w:World) (vs:List Value),(∀ b,S b→b<w.heap.size)→O.inv w→All2 (RepW O (fun _=>none) S w) vs args →
  Calls P k vs.toArray w fun e w'=>∃ (b cap:Nat) (us ts:List Value),e=.returned (.slice (some ⟨b,0,none⟩) n cap)∧Ext w w'∧w.heap.size≤b∧w'.heap[b]?=some (.cells (us++ts).toArray U (0,0)) ∧
   All2 (fun x c=>Rep0 O (fun _=>False) w' c x) us cs∧us.length+ts.length=cap*wd∧cap≤maxLen∧n≤cap
def MapAt (O:Opq) (S:Nat→Prop) (w:World) (b:Nat) (ag:Bool) (ks:List Int) (vs:List (List AC)):Prop :=
 ∃ (E:Array MapEntry) (ck:Nat) (L:List MapEntry),w.heap[b]?=some (.map E ck)∧MapOK E ck∧L.Perm E.toList∧RepEnts O S w ag vs ks L
def Ext1 (b:Nat) (w w':World):Prop:=∃ E ck E' ck',w.heap[b]?=some (.map E ck)∧Ext (setBlock w b (.map E' ck')) w'
structure CalH (P:Program) (O:Opq) (k:FuncId) (ag:Bool) (ks:List Int) (vs:List (List AC)) (args:List AV) (ks':List Int) (vs':List (List AC)):Prop where
 body:∃ fn,P.funcs[k]?=some fn∧(fn.name == "runtime.NumGoroutine")=false∧fn.body.isNone=false
 run:∀ (S:Nat→Prop) (w:World) (b:Nat) (us:List Value),(∀ b,S b→b<w.heap.size)→¬ S b→O.inv w→MapAt O S w b ag ks vs→All2 (RepW O (fun _=>none) S w) us args →
  Calls P k (Value.map (some b) :: us).toArray w fun e w'=>e=.returned (.map (some b))∧Ext1 b w w'∧MapAt O (fun x=>S x∨(w.heap.size≤x∧x<w'.heap.size)) w' b ag ks' vs'
def ioF (k:FuncId):Bool:=Nat.beq k 112
def ownF (k:FuncId):Bool:=Nat.beq k 110||Nat.beq k 113||Nat.beq k 45||Nat.beq k 44||Nat.beq k 46
def ownS (k:FuncId):Bool:=Nat.beq k 423
def ioC:Callee→Bool
 | .value (.func k)=>ioF k
 | _=>false
def ownC:Callee→Bool
 | .value (.func k)=>ownF k
 | _=>false
abbrev Tys:=Nat→Option Ty
def evOp (P:Program) (O:Opq) (T:Tys) (op:Op) (ρ:Operand→AV) (bv:Nat→Option Bx) (K:Eff→Prop):Prop :=
 match op with
 | .move x | .assign x=>fwdK (ρ x) fun v=>K (.val v)
 | .pick c a b=>match ρ c with
  | .c (.v (.bool t))=>cond t (fwdK (ρ a) fun v=>K (.val v)) (fwdK (ρ b) fun v=>K (.val v))
  | _=>False
 | .alloc t=>match T t with
  | some ty=>cond (O.box t) (K (.new (.b t ty.zero))) False
  | none=>False
 | .box t x=>cellsK (ρ x) fun cs=>cond (O.box t) (K (.new (.b t cs))) False
 | .build t parts=>match T t with
  | some ty=>cond ty.flds.isEmpty False (fillK ty.flds ρ parts.toList ty.zero fun cs=>allK cs fun l=>K (.val (.g l)))
  | none=>False
 | .buildSlice t n parts=>match T t with
  | some ty=>match ty.elem with
   | some wd=>rowsK wd ρ 0 parts.toList fun rs=>cond (Nat.beq rs.length n&&Nat.ble (n*wd) 16777216&&Nat.blt 0 (n*wd)) (K (.val (.c (.sl wd rs)))) False
   | none=>False
  | none=>False
 | .load t a=>match T t with
  | some ty=>match ρ a with
   | .c (.p h off)=>match bv h with
    | some X=>match X.cells with
     | some (_,cs)=>partK ty.agg ty.zero.length (cs.drop off) fun v=>K (.val v)
     | none=>False
    | none=>False
   | .c (.e cs)=>partK ty.agg ty.zero.length cs fun v=>cond (noPV v) (K (.val v)) False
   | .c (.v (.pointer (some ⟨g,i,none⟩)))=>match ty.agg,O.tab g i with
    | false,some x=>K (.val (.c (.v x)))
    | _,_=>False
   | _=>False
  | none=>False
 | .store t a x=>match T t with
  | some ty=>match ρ a with
   | .c (.p h off)=>match bv h with
    | some X=>match X.cells with
     | some (_,cs)=>cellsK (ρ x) fun xs=>cond (Nat.beq xs.length ty.zero.length&&Nat.ble (off+xs.length) cs.length) (allK (cs.take off++xs++cs.drop (off+xs.length)) fun l=>K (.sto h (X.setCells l) (.t []))) False
     | none=>False
    | none=>False
   | _=>False
  | none=>False
 | .nilCheck x=>match ρ x with
  | .c (.p h off)=>K (.val (.c (.p h off)))
  | .c (.e cs)=>K (.val (.c (.e cs)))
  | _=>False
 | .makeMap t none=>match T t with
  | some ty=>match ty.mp with
   | some (ag,_)=>K (.new (.m ag [] []))
   | none=>False
  | none=>False
 | .lookup t x i false=>match T t with
  | some ty=>match ty.mp,ρ i with
   | some (ag,z),.c (.v (.int .i64 k))=>match ρ x with
    | .c (.pm h)=>match bv h with
     | some (.m ag' ks vs)=>cond (ag==ag') (packK ag (lookK ks vs k z) fun v=>cond (noPV v) (K (.val v)) False) False
     | _=>False
    | .c (.mp ag' ks vs)=>cond (ag==ag') (packK ag (lookK ks vs k z) fun v=>cond (noPV v) (K (.val v)) False) False
    | _=>False
   | _,_=>False
  | none=>False
 | .mapUpdate t x i y=>match T t with
  | some ty=>match ty.mp,ρ x,ρ i with
   | some (ag,_),.c (.pm h),.c (.v (.int .i64 k))=>match bv h with
    | some (.m ag' ks vs)=>cond (ag==ag') (shapeK ag (ρ y) fun xs=>cond (noPs xs) (K (.sto h (.m ag (putKs ks k) (putV ks vs k xs)) (.t []))) False) False
    | _=>False
   | _,_,_=>False
  | none=>False
 | .fieldAddr s x f=>match T s with
  | some ty=>match ty.flds[f]?,ρ x with
   | some (off,_,_),.c (.p h o)=>K (.val (.c (.p h (o+off))))
   | some (off,_,_),.c (.e cs)=>K (.val (.c (.e (cs.drop off))))
   | _,_=>False
  | none=>False
 | .field s x f=>match T s with
  | some ty=>match ty.flds[f]?,ρ x with
   | some (off,n,ag),.g cs=>partK ag n (cs.drop off) fun v=>K (.val v)
   | _,_=>False
  | none=>False
 | .indexAddr t x i=>match T t with
  | some ty=>match ty.elem,ρ x,ρ i with
   | some wd,.c (.sl wd' xs),.c (.v (.int _ n))=>cond (Nat.beq wd wd'&&decide (0≤n)&&decide (n.toNat<xs.length)) (K (.val (.c (.e (xs.getD n.toNat []))))) False
   | some wd,.c (.os h m _),.c (.v (.int _ n))=>cond (decide (0≤n)&&decide (n.toNat<m)) (K (.val (.c (.p h (n.toNat*wd))))) False
   | none,.c (.v (.pointer (some ⟨g,0,none⟩))),.c (.v (.int _ n))=>match ty.arr with
    | some l=>cond (decide (0≤n)&&decide (n.toNat<l)) (K (.val (.c (.v (.pointer (some ⟨g,n.toNat,none⟩)))))) False
    | none=>False
   | _,_,_=>False
  | none=>False
 | .extract x i=>match ρ x with
  | .t l=>match l[i]? with
   | some (.c c)=>cond (isP c) False (K (.val (.c c)))
   | some (.g cs)=>allK cs fun m=>cond (noPs m) (K (.val (.g m))) False
   | _=>False
  | _=>False
 | .binOp op t x y _=>match ρ x,ρ y with
  | .c (.v (.bool p)),.c (.v (.bool q))=>match op,T t with
   | .eql,some ty=>match ty.kd with
    | .bool=>K (.val (.c (.v (.bool (p==q)))))
    | _=>False
   | .neq,some ty=>match ty.kd with
    | .bool=>K (.val (.c (.v (.bool (!(p==q))))))
    | _=>False
   | _,_=>False
  | .c (.v a),.c (.v b)=>binK op a b fun r=>K (.val (.c (.v r)))
  | .g xs,.g ys=>match op,T t with
   | .eql,some ty=>cond ty.eq (eqK ty.zero xs ys fun b=>K (.val (.c (.v (.bool b))))) False
   | .neq,some ty=>cond ty.eq (eqK ty.zero xs ys fun b=>K (.val (.c (.v (.bool (!b)))))) False
   | _,_=>False
  | _,_=>False
 | .unOp op _ x=>match ρ x with
  | .c (.v a)=>unK op a fun r=>K (.val (.c (.v r)))
  | _=>False
 | .convert s d x=>match T s,T d with
  | some sy,some dy=>match sy.kd,dy.kd,ρ x with
   | .int _,.int k,.c (.v (.int _ n))=>K (.val (.c (.v (.int k (k.wrap n)))))
   | .str,.str,.c (.v (.string b))=>K (.val (.c (.v (.string b))))
   | _,_,_=>False
  | _,_=>False
 | .makeFunc fn fs cs=>cond (fs.toList.isEmpty&&cs.toList.isEmpty) (K (.val (.c (.v (.func fn #[] #[]))))) False
 | .call c=>match c.callee with
  | .value f=>match ρ f with
   | .c (.v (.func (.func k) ⟨[]⟩ ⟨[]⟩))=>cond (ioC c.callee)
     (match c.args.toList with
      | x :: xs=>match ρ x with
       | .c (.pm h)=>match bv h with
        | some (.m ag ks vs)=>cond (lends ρ xs) False (argsK false ρ bv xs fun l=>∃ ks' vs',CalH P O k ag ks vs l ks' vs'∧K (.sto h (.m ag ks' vs') (.c (.pm h))))
        | _=>False
       | _=>False
      | []=>False)
     (cond (ownC c.callee) (argsK true ρ bv c.args.toList fun l=>(∃ r,CalN P O k l r∧K (.val r))∨∃ ag ks vs,CalN P O k l (.c (.mp ag ks vs))∧FlatVs vs∧K (.new (.m ag ks vs)))
      (cond (lends ρ c.args.toList) (argsK false ρ bv c.args.toList fun l=>∃ r,Cal P O k l r∧FlatR r∧K (.val r)) (argsK false ρ bv c.args.toList fun l=>∃ r,Cal P O k l r∧K (.val r))))
   | _=>False
  | .builtin .delete=>match c.args.toList,c.argTypes.toList with
   | [x,i],[t,_]=>match T t with
    | some ty=>match ty.mp,ρ x,ρ i with
     | some _,.c (.pm h),.c (.v (.int .i64 k))=>match bv h with
      | some (.m ag ks vs)=>K (.sto h (.m ag (delKs ks k) (delV ks vs k)) (.t []))
      | _=>False
     | _,_,_=>False
    | none=>False
   | _,_=>False
  | .builtin .len=>match c.args.toList,c.argTypes.toList with
   | [x],[t]=>match T t with
    | some ty=>match ty.elem,ty.kd,ρ x with
     | some _,_,.c (.sl wd xs)=>lenK wd xs fun n=>K (.val (.c (.v (.int .i64 n))))
     | some _,_,.c (.os _ n _)=>K (.val (.c (.v (.int .i64 (n:Nat)))))
     | some _,_,.c (.v (.slice none 0 0))=>K (.val (.c (.v (.int .i64 0))))
     | none,.str,.c (.v (.string s))=>K (.val (.c (.v (.int .i64 (s.size:Nat)))))
     | _,_,_=>False
    | none=>False
   | _,_=>False
  | .builtin .max=>match c.args.toList with
   | [x,y]=>match ρ x,ρ y with
    | .c (.v (.int p a)),.c (.v (.int _ b))=>K (.val (.c (.v (.int p (if b>a then b else a)))))
    | _,_=>False
   | _=>False
  | .builtin .min=>match c.args.toList with
   | [x,y]=>match ρ x,ρ y with
    | .c (.v (.int p a)),.c (.v (.int _ b))=>K (.val (.c (.v (.int p (if b<a then b else a)))))
    | _,_=>False
   | _=>False
  | _=>False
 | _=>False
def EqV:List AC→List Value→List Value→Bool→Prop
 | [],[],[],b=>b=true
 | .v (.int c _) :: z,.int p x :: l,.int q y :: m,b=>p=c∧q=c∧∃ r,EqV z l m r∧b=(x==y&&r)
 | .v (.bool _) :: z,.bool x :: l,.bool y :: m,b=>∃ r,EqV z l m r∧b=(x==y&&r)
 | .v (.string _) :: z,.string x :: l,.string y :: m,b=>∃ r,EqV z l m r∧b=(x.toList==y.toList&&r)
 | _,_,_,_=>False
def EqFact (P:Program) (t:TypeId) (z:List AC):Prop:=∀ (vs us:List Value) (b:Bool) (w:World),EqV z vs us b →
 (binOp .eql t (.agg vs.toArray) (.agg us.toArray)).run P w=.ok (.bool b) w∧(binOp .neq t (.agg vs.toArray) (.agg us.toArray)).run P w=.ok (.bool (!b)) w ∧
 ∀ op x y,(eqGuard op t x y (.agg vs.toArray) (.agg us.toArray)).run P w=.ok () w
structure TyFact (P:Program) (O:Opq) (t:TypeId) (ty:Ty):Prop where
 info:∃ i z,P.info? t=some i∧i.size=ty.zero.length∧i.zero=some z∧∀ S w,RepCs O (fun _=>none) S w z.cells.toList ty.zero
 und:∃ d,P.underlying t=some d∧d.isRow=ty.agg∧(ty.kd=.str→d=.string)∧(ty.kd=.bool→d=.bool)∧∀ k,ty.kd=.int k→d=.int k
 fld:∀ (f off n:Nat) (g:Bool),ty.flds[f]?=some (off,n,g)→∃ (fs:Array Field) (fd:Field) (i:TypeInfo) (d:TypeDesc),P.underlying t=some (.struct fs)∧fs[f]?=some fd∧fd.offset=off∧P.info? fd.type=some i∧i.size=n∧n≠0∧P.underlying fd.type=some d∧d.isRow=g
 str:ty.flds.isEmpty=false→∃ fs:Array Field,P.underlying t=some (.struct fs)∧fs.toList.mapM (fun (f:Field)=>(P.info? f.type).map fun i=>(f.offset,i.size))=some (ty.flds.map fun x=>(x.1,x.2.1))
 elem:∀ s,ty.elem=some s→∃ e i z,P.underlying t=some (.slice e)∧P.info? e=some i∧i.size=s∧i.zero=some z
 arr:∀ l,ty.arr=some l→∃ e i,P.underlying t=some (.array l e)∧P.info? e=some i∧i.size=1∧2≤l∧∃ d,P.underlying e=some d∧d.isRow=false
 mp:∀ ag zr,ty.mp=some (ag,zr)→∃ k e i z,P.underlying t=some (.map k e)∧P.underlying k=some (.int .i64)∧P.info? e=some i∧i.zero=some z∧(ag=false→zr.length=1)∧∃ us,z=pack ag us∧∀ S w,RepL O S w zr us
 et:∀ s,ty.elem=some s→ty.et≠0→P.underlying t=some (.slice ty.et)∧O.box ty.et=true∧∃ i z,P.info? ty.et=some i∧i.zero=some z∧i.size=s∧z.cells.size=s∧i.bytes≤4096
 eql:ty.eq=true→EqFact P t ty.zero
def TyOK (P:Program) (O:Opq) (T:Tys):Prop:=∀ t ty,T t=some ty→TyFact P O t ty
def BxRep (O:Opq) (β:Nat→Option Nat) (S:Nat→Prop) (w:World) (b:Nat):Bx→Prop
 | .b T cs=>∃ vs:List Value,w.heap[b]?=some (.cells vs.toArray T (0,0))∧RepCs O β S w vs cs∧O.box T=true
 | .r T _ cs=>∃ vs ts:List Value,w.heap[b]?=some (.cells (vs++ts).toArray T (0,0))∧RepCs O β S w vs cs∧O.box T=true
 | .m ag ks vs=>MapAt O S w b ag ks vs
 | .it ag ks vs cur=>∃ (m since ck:Nat) (seen:Array Nat) (E:Array MapEntry) (L:List MapEntry),w.heap[b]?=some (.mapIter (some m) since seen ck)∧S m∧w.heap[m]?=some (.map E ck)∧MapOK E ck∧ck≤since∧since≤ck ∧
   L.Perm (E.toList.filter fun e => !seen.contains e.born)∧RepEnts O S w ag vs ks L ∧
   ∀ k cs,cur=some (k,cs)→∃ (e:MapEntry) (s:Array Nat) (us:List Value),e∈E.toList∧seen=s.push e.born∧e.key=.int .i64 k∧e.val=pack ag us∧(ag=false→us.length=1)∧RepL O S w cs us
 | .z o=>w.heap[b]?=some o
def AllP {α γ:Type} (R:α→γ→Prop):List α→List γ→Prop
 | _,[]=>True
 | a :: l,b :: m=>R a b∧AllP R l m
 | [],_ :: _=>False
theorem AllP.mono {α γ:Type} {R R':α→γ→Prop} (hr:∀ a b,R a b→R' a b):∀ {l:List α} {m:List γ},AllP R l m→AllP R' l m
 | [],[],_=>trivial
 | _ :: _,[],_=>trivial
 | _ :: _,_ :: _,h=>⟨hr _ _ h.1,h.2.mono hr⟩
theorem AllP.map {α γ δ:Type} {R:α→γ→Prop} {R':α→δ→Prop} {F:γ→δ} (h:∀ a b,R a b→R' a (F b)):∀ {l:List α} {m:List γ},AllP R l m→AllP R' l (m.map F)
 | [],[],_=>trivial
 | _ :: _,[],_=>trivial
 | _ :: _,_ :: _,q=>⟨h _ _ q.1,q.2.map h⟩
theorem All2.map {α γ δ:Type} {R:α→γ→Prop} {R':α→δ→Prop} {F:γ→δ} (h:∀ a b,R a b→R' a (F b)):∀ {l:List α} {m:List γ},All2 R l m→All2 R' l (m.map F)
 | [],[],_=>trivial
 | _ :: _,_ :: _,q=>⟨h _ _ q.1,q.2.map h⟩
structure Sus (O:Opq) (β:Nat→Option Nat) (S:Nat→Prop) (w:World) (nd:Bool) (sus:List (Nat→Value)) (sv:List (Nat→AV)) (ds:List Deferred) (df:List AC):Prop where
 sm:AllP (fun (σ:Nat→Value) (f:Nat→AV)=>∀ i,RepV O β S w (σ i) (f i)) sus sv
 df:(nd=true∧ds=[])∨(nd=false∧All2 (fun (d:Deferred) c=>∃ D,d = { target:=.collected D,args:=#[] }∧RepC O β S w (.pointer (some ⟨D,0,none⟩)) c) ds df)
section
variable {O:Opq} {β β':Nat→Option Nat} {S S':Nat→Prop} {w w':World} {nd:Bool} {sus:List (Nat→Value)} {sv:List (Nat→AV)} {ds:List Deferred} {df:List AC}
theorem Sus.evo (h:Evo O S w w') (hs:∀ b,S b→S' b) (hβ:∀ k b,β k=some b→β' k=some b) (r:Sus O β S w nd sus sv ds df):Sus O β' S' w' nd sus sv ds df :=
 ⟨r.sm.mono fun _ _ q i=>(q i).evo h hs hβ,r.df.imp id fun ⟨e,q⟩=>⟨e,q.mono fun _ _ ⟨D,e,q⟩=>⟨D,e,q.evo h hs hβ⟩⟩⟩
theorem Sus.nil:Sus O β S w true sus [] [] df:=⟨(by cases sus<;>trivial),.inl ⟨rfl,rfl⟩⟩
theorem Sus.map {F:AC→AC} {G:AV→AV} (q:Sus O β S w nd sus sv ds df) (hG:∀ x v,RepV O β S w x v→RepV O β' S' w x (G v))
  (hF:∀ x c,RepC O β S w x c→RepC O β' S' w x (F c)):Sus O β' S' w nd sus (sv.map fun f u=>G (f u)) ds (df.map F) :=
 ⟨q.sm.map fun _ _ h i=>hG _ _ (h i),q.df.imp id fun ⟨e,q⟩=>⟨e,q.map fun _ _ ⟨D,e,h⟩=>⟨D,e,hF _ _ h⟩⟩⟩
end
structure W0 where
 w:World
 S:Nat→Prop
 m:Option Nat
 sus:List (Nat→Value):=[]
 nd:Bool:=true
def Pre (w0:W0) (w1:World):Prop:=match w0.m with
 | none=>w1=w0.w
 | some b=>∃ E ck E' ck',w0.w.heap[b]?=some (.map E ck)∧w1=setBlock w0.w b (.map E' ck')
def ExtW (w0:W0) (w:World):Prop:=∃ w1,Pre w0 w1∧Ext w1 w
structure Corr (O:Opq) (n:Nat) (w0:W0) (β:Nat→Option Nat) (S:Nat→Prop) (V:View) (a:Act) (w:World):Prop where
 tm:∀ i,RepV O β S w (a.tmps.getD i undef) (V.tv i)
 sz:a.tmps.size=n
 bl:∀ h b,β h=some b→∃ X,V.bv h=some X∧BxRep O β S w b X∧(w0.w.heap.size≤b∨w0.m=some b)∧¬ S b
 dm:∀ h,(V.bv h).isSome=true→(β h).isSome=true
 inj:∀ h h' b,β h=some b→β h'=some b→h=h'
 sl:∀ b,S b→b<w.heap.size
 ex:ExtW w0 w
 sb:∀ b,S b→w0.S b∨w0.w.heap.size≤b
 iv:O.inv w0.w
 om:∀ b,w0.m=some b→β 1000=some b
 hn:n≤1000
 su:Sus O β S w w0.nd w0.sus V.sv a.defers V.df
section
variable {O:Opq} {n:Nat} {w0:W0} {β:Nat→Option Nat} {S:Nat→Prop} {V:View} {a:Act} {w:World}
theorem heap_setBlock {w:World} {b:Nat} {o:Obj} (o':Obj) (h:w.heap[b]?=some o):(setBlock w b o').heap[b]?=some o':=by
 have hlt:=cell_lt h
 show (w.heap.setIfInBounds b o')[b]?=_
 rw [Array.getElem?_setIfInBounds_self_of_lt hlt]
theorem heap_setBlock_ne {w:World} {b k:Nat} (o':Obj) (h:k≠b):(setBlock w b o').heap[k]?=w.heap[k]?:=by
 show (w.heap.setIfInBounds b o')[k]?=_
 rw [Array.getElem?_setIfInBounds_ne (fun e=>h e.symm)]
theorem size_setBlock {w:World} {b:Nat} (o':Obj):(setBlock w b o').heap.size=w.heap.size:=by
 show (w.heap.setIfInBounds b o').size=_
 simp
theorem Pre.size {w1:World} (h:Pre w0 w1):w1.heap.size=w0.w.heap.size:=by
 unfold Pre at h
 split at h
 ·rw [h]
 ·obtain ⟨E,ck,E',ck',_,e⟩:=h;rw [e,size_setBlock]
theorem Pre.inv {w1:World} (h:Pre w0 w1) (hi:O.inv w0.w):O.inv w1:=by
 unfold Pre at h
 split at h
 ·rw [h];exact hi
 ·obtain ⟨E,ck,E',ck',h1,e⟩:=h;rw [e];exact O.invM hi h1 rfl _
theorem ExtW.inv (h:ExtW w0 w) (hi:O.inv w0.w):O.inv w:=by
 obtain ⟨w1,h1,h2⟩:=h;exact O.invE (h1.inv hi) h2
theorem ExtW.size (h:ExtW w0 w):w0.w.heap.size≤w.heap.size:=by
 obtain ⟨w1,h1,h2⟩:=h;rw [←h1.size];exact h2.size
theorem ExtW.trans {w':World} (h:ExtW w0 w) (k:Ext w w'):ExtW w0 w':=by
 obtain ⟨w1,h1,h2⟩:=h;exact ⟨w1,h1,Ext.trans h2 k⟩
theorem ExtW.isMap (h:ExtW w0 w) {b:Nat} (hm:w0.m=some b):∃ E ck,w.heap[b]?=some (.map E ck):=by
 obtain ⟨w1,h1,h2⟩:=h;unfold Pre at h1;rw [hm] at h1;obtain ⟨E,ck,E',ck',h3,e⟩:=h1;subst e
 exact ⟨E',ck',h2.heap (heap_setBlock _ h3)⟩
theorem Corr.inv (C:Corr O n w0 β S V a w):O.inv w:=C.ex.inv C.iv
theorem BxRep.evo {β':Nat→Option Nat} {S':Nat→Prop} {w':World} (h:Evo O S w w') (hs:∀ b,S b→S' b) (hβ:∀ k b,β k=some b→β' k=some b) {b:Nat} (hb:w'.heap[b]?=w.heap[b]?):∀ {X:Bx},BxRep O β S w b X→BxRep O β' S' w' b X
 | .b T cs,⟨vs,h1,h2,h3⟩=>⟨vs,by rw [hb];exact h1,h2.evo h hs hβ,h3⟩
 | .r T wd cs,⟨vs,ts,h1,h2,h3⟩=>⟨vs,ts,by rw [hb];exact h1,h2.evo h hs hβ,h3⟩
 | .m ag ks vs,⟨E,ck,L,h1,h2,h3,h4⟩=>⟨E,ck,L,by rw [hb];exact h1,h2,h3,RepEnts.evo h hs ag vs ks L h4⟩
 | .it ag ks vs cur,⟨m,since,ck,seen,E,L,h1,h2,h3,h4,h5,h6,h7,h8,h9⟩=>⟨m,since,ck,seen,E,L,by rw [hb];exact h1,hs _ h2,by rw [h.heap m h2];exact h3,h4,h5,h6,h7,RepEnts.evo h hs ag vs ks L h8,
   fun k cs e=>by obtain ⟨x,s,us,q1,q2,q3,q4,q5,q6⟩:=h9 k cs e;exact ⟨x,s,us,q1,q2,q3,q4,q5,RepL.evo h hs cs us q6⟩⟩
 | .z o,g=>by show w'.heap[b]?=some o;rw [hb];exact g
theorem BxRep.lt {b:Nat}:∀ {X:Bx},BxRep O β S w b X→b<w.heap.size
 | .b _ _,⟨_,h,_⟩=>cell_lt h
 | .r _ _ _,⟨_,_,h,_⟩=>cell_lt h
 | .m _ _ _,⟨_,_,_,h,_⟩=>cell_lt h
 | .it _ _ _ _,⟨_,_,_,_,_,_,h,_⟩=>cell_lt h
 | .z _,h=>cell_lt h
theorem Corr.ev (C:Corr O n w0 β S V a w) (x:Operand):RepV O β S w (a.eval x) (V.ev x):=by
 cases x with
 | tmp t=>exact C.tm t
 | const x=>cases x<;>first | trivial | exact ⟨rfl,rfl⟩
 | global g=>exact ⟨rfl,rfl⟩
 | func f=>exact ⟨rfl,rfl⟩
theorem upd_same {α:Type} (f:Nat→α) (k:Nat) (x:α):upd f k x k=x:=by simp [upd]
theorem upd_ne {α:Type} (f:Nat→α) {k i:Nat} (x:α) (h:i≠k):upd f k x i=f i:=by
 have:Nat.beq i k=false:=by cases e:Nat.beq i k with
  | false=>rfl
  | true=>exact absurd (Nat.eq_of_beq_eq_true e) h
 simp [upd,this]
theorem Corr.put (C:Corr O n w0 β S V a w) {d:Option Nat} (hd:∀ t,d=some t→t<n) {v:Value} {x:AV} (r:RepV O β S w v x):Corr O n w0 β S (V.put d x) (a.put d v) w:=by
 cases d with
 | none=>exact C
 | some t =>
  have ht:=hd t rfl;refine ⟨fun i => ?_,by simp [Act.put,C.sz],C.bl,C.dm,C.inj,C.sl,C.ex,C.sb,C.iv,C.om,C.hn,C.su⟩
  by_cases e:i=t
  ·subst e
   have:(a.put (some i) v).tmps.getD i undef=v:=by
    have hs:=C.sz
    simp [Act.put,Array.getD,hs,ht]
   rw [this]
   show RepV O β S w v (upd V.tv i x i)
   rw [upd_same];exact r
  ·have:(a.put (some t) v).tmps.getD i undef=a.tmps.getD i undef:=by
    simp only [Act.put,Array.getD_eq_getD_getElem?];rw [Array.getElem?_setIfInBounds_ne (fun h=>e h.symm)]
   rw [this]
   show RepV O β S w _ (upd V.tv t x i)
   rw [upd_ne _ _ e];exact C.tm i
theorem Corr.evo (C:Corr O n w0 β S V a w) {w':World} {S':Nat→Prop} (he:Ext w w') (hs:∀ b,S b→S' b) (hn:∀ b,S' b→S b∨(w.heap.size≤b∧b<w'.heap.size)):Corr O n w0 β S' V a w':=by
 have ev:=Evo.of_ext (O:=O) he C.sl;refine ⟨fun i=>(C.tm i).evo ev hs (fun _ _ h=>h),C.sz,fun h b hb => ?_,C.dm,C.inj,fun b hb => ?_,C.ex.trans he,fun b hb => ?_,C.iv,C.om,C.hn,C.su.evo ev hs (fun _ _ h=>h)⟩
 ·obtain ⟨X,h1,h2,h3,h4⟩:=C.bl h b hb;have hlt:=h2.lt
  exact ⟨X,h1,h2.evo ev hs (fun _ _ h=>h) (he.block b hlt),h3,fun hS=>by
   rcases hn b hS with h | h
   ·exact h4 h
   ·omega⟩
 ·rcases hn b hb with h | h
  ·exact Nat.lt_of_lt_of_le (C.sl b h) he.size
  ·exact h.2
 ·rcases hn b hb with h | h
  ·exact C.sb b h
  ·exact .inr (Nat.le_trans C.ex.size h.1)
theorem Corr.new' (C:Corr O n w0 β S V a w) {t b:Nat} (ht:t<n) (hf:V.bv t=none) {X:Bx} {v:Value} {w':World} (he:Ext w w') (hb:w.heap.size≤b) {S':Nat→Prop} (hs:∀ b,S b→S' b)
  (hn:∀ x,S' x→S x∨(w.heap.size≤x∧x<w'.heap.size)) (hSb:¬ S' b) (r:∀ β',(∀ k b,β k=some b→β' k=some b)→BxRep O β' S' w' b X) (hv:∀ β',β' t=some b→RepC O β' S' w' v (X.ref t)) :
  Corr O n w0 (upd β t (some b)) S' (V.app (.new X) (some t)) (a.put (some t) v) w':=by
 have C1:=C.evo he hs hn;have hβ:β t=none:=by
  cases e:β t with
  | none=>rfl
  | some b=>obtain ⟨X,h1,_⟩:=C.bl t b e;rw [hf] at h1;cases h1
 have hext:∀ k x,β k=some x→upd β t (some b) k=some x:=fun k x h=>by
  rw [upd_ne];exact h
  intro e;rw [e,hβ] at h;cases h
 have C2:Corr O n w0 (upd β t (some b)) S' ⟨V.tv,upd V.bv t (some X),V.sv,V.df⟩ a w':=by
  refine ⟨fun i=>(C1.tm i).evo (Evo.refl _ _ _) (fun _ h=>h) hext,C1.sz,fun h x hx => ?_,fun h hs => ?_,fun h h' x hx hx' => ?_,C1.sl,C1.ex,C1.sb,C1.iv,fun x hx=>hext _ _ (C1.om x hx),C1.hn,C1.su.evo (Evo.refl _ _ _) (fun _ h=>h) hext⟩
  ·by_cases e:h=t
   ·subst e;rw [upd_same] at hx;cases hx
    exact ⟨X,upd_same _ _ _,r _ hext,.inl (Nat.le_trans C.ex.size hb),hSb⟩
   ·rw [upd_ne _ _ e] at hx;obtain ⟨Y,h1,h2,h3⟩:=C1.bl h x hx
    exact ⟨Y,by show upd V.bv t _ h=_;rw [upd_ne _ _ e];exact h1,h2.evo (Evo.refl _ _ _) (fun _ h=>h) hext rfl,h3⟩
  ·by_cases e:h=t
   ·subst e;rw [upd_same];rfl
   ·rw [upd_ne _ _ e];have hs':(upd V.bv t (some X) h).isSome=true:=hs;rw [upd_ne _ _ e] at hs'
    exact C.dm h hs'
  ·have hlt:∀ k x,β k=some x→x<w.heap.size:=fun k x h=>by
    obtain ⟨_,_,h2,_⟩:=C.bl k x h;exact h2.lt
   by_cases e:h=t<;>by_cases e':h'=t
   ·rw [e,e']
   ·subst e;rw [upd_same] at hx;rw [upd_ne _ _ e'] at hx';cases hx;have:=hlt _ _ hx';omega
   ·subst e';rw [upd_same] at hx';rw [upd_ne _ _ e] at hx;cases hx';have:=hlt _ _ hx;omega
   ·rw [upd_ne _ _ e] at hx;rw [upd_ne _ _ e'] at hx';exact C.inj _ _ _ hx hx'
 refine C2.put (d:=some t) (fun _ h=>by cases h;exact ht) (v:=v) (x:=.c (X.ref t)) ?_
 exact hv _ (upd_same _ _ _)
theorem Corr.chg (C:Corr O n w0 β S V a w) {h b:Nat} {X:Bx} {w':World} (hb:β h=some b) (hk:∀ k,k<w.heap.size→k≠b→w'.heap[k]?=w.heap[k]?) (hz:w.heap.size≤w'.heap.size) (ho:w'.os=w.os) (hta:w'.tape=w.tape) (hou:w'.output=w.output)
  (hq:∀ {k n x},O.R k n w x→O.R k n w' x) (hm:(∃ E ck,w.heap[b]?=some (.map E ck))→∃ E ck,w'.heap[b]?=some (.map E ck)) (hz':∀ {c:Array Value} {T:TypeId},w.heap[b]?=some (.cells c T (0,0))→∃ c':Array Value,w'.heap[b]?=some (.cells c' T (0,0))∧c'.size=c.size) {S':Nat→Prop} (hs:∀ b,S b→S' b) (hn:∀ b,S' b→S b∨(w.heap.size≤b∧b<w'.heap.size)) (r:BxRep O β S' w' b X):Corr O n w0 β S' ⟨V.tv,upd V.bv h (some X),V.sv,V.df⟩ a w':=by
 obtain ⟨Y,q1,q2,q3,q4⟩:=C.bl h b hb;have ev:Evo O S w w':=⟨fun k hS=>hk k (C.sl k hS) (fun e=>q4 (e ▸ hS)),hq,fun {k c T} g=>by
  by_cases e:k=b
  ·subst e;exact hz' g
  ·exact ⟨c,by rw [hk k (cell_lt g) e];exact g,rfl⟩⟩
 have hlt:=q2.lt;have hS':∀ b,b<w.heap.size→¬ S b→¬ S' b:=fun b hl h1 h2=>by
  rcases hn b h2 with h | h
  ·exact h1 h
  ·omega
 refine ⟨fun i=>(C.tm i).evo ev hs (fun _ _ h=>h),C.sz,fun k b' hk' => ?_,fun k hs => ?_,C.inj,fun k hS => ?_,?_,fun k hS => ?_,C.iv,C.om,C.hn,C.su.evo ev hs (fun _ _ h=>h)⟩
 ·by_cases e:k=h
  ·subst e;rw [hb] at hk';cases hk'
   exact ⟨X,upd_same _ _ _,r,q3,hS' b hlt q4⟩
  ·obtain ⟨Z,p1,p2,p3,p4⟩:=C.bl k b' hk';have hne:b'≠b:=fun e'=>e (C.inj _ _ _ hk' (e' ▸ hb))
   exact ⟨Z,by show upd V.bv h _ k=_;rw [upd_ne _ _ e];exact p1,p2.evo ev hs (fun _ _ h=>h) (hk b' p2.lt hne),p3,hS' b' p2.lt p4⟩
 ·by_cases e:k=h
  ·subst e;rw [hb];rfl
  ·have hs':(upd V.bv h (some X) k).isSome=true:=hs;rw [upd_ne _ _ e] at hs';exact C.dm k hs'
 ·rcases hn k hS with h | h
  ·exact Nat.lt_of_lt_of_le (C.sl k h) hz
  ·exact h.2
 ·obtain ⟨w1,h1,h2⟩:=C.ex
  by_cases hbm:w0.m=some b
  ·obtain ⟨E,ck,hE⟩:=hm (C.ex.isMap hbm);have h1':=h1;unfold Pre at h1';rw [hbm] at h1';obtain ⟨E0,ck0,E1,ck1,g1,g2⟩:=h1';refine ⟨setBlock w0.w b (.map E ck),?_,?_⟩
   ·unfold Pre;rw [hbm];exact ⟨E0,ck0,E,ck,g1,rfl⟩
   ·subst g2;have hsz:=h2.size;rw [size_setBlock] at hsz;refine ⟨ho.trans h2.os,hta.trans h2.tape,hou.trans h2.output,?_,fun k hkl => ?_⟩
    ·rw [size_setBlock];exact Nat.le_trans hsz hz
    ·rw [size_setBlock] at hkl
     by_cases e:k=b
     ·subst e;rw [hE,heap_setBlock _ g1]
     ·rw [hk k (by omega) e,heap_setBlock_ne _ e]
      have:=h2.block k (by rw [size_setBlock];exact hkl)
      rw [this,heap_setBlock_ne _ e]
  ·have hnew:w0.w.heap.size≤b:=by
    rcases q3 with h | h
    ·exact h
    ·exact absurd h hbm
   have hs1:=h1.size;have hs2:=h2.size
   exact ⟨w1,h1,ho.trans h2.os,hta.trans h2.tape,hou.trans h2.output,Nat.le_trans h2.size hz,fun k hkl=>by rw [hk k (by omega) (by omega)];exact h2.block k hkl⟩
 ·rcases hn k hS with h | h
  ·exact C.sb k h
  ·exact .inr (Nat.le_trans C.ex.size h.1)
theorem Evo.setBlock {b:Nat} {o:Obj} (g:w.heap[b]?=some o) (ho:isMapO o=true) (hS:¬ S b) (o':Obj):Evo O S w (setBlock w b o') :=
 ⟨fun _ hk=>heap_setBlock_ne _ (fun e=>hS (e ▸ hk)),fun r=>O.setM r g ho o',fun {k c T} g'=>by
  have hne:k≠b:=by rintro rfl;rw [g] at g';cases g';cases ho
  exact ⟨c,by rw [heap_setBlock_ne _ hne];exact g',rfl⟩⟩
theorem Corr.chgM (C:Corr O n w0 β S V a w) {h b:Nat} {X:Bx} {o o':Obj} (hb:β h=some b) (g:w.heap[b]?=some o) (ho:isMapO o=true) (hm:(∃ E ck,o=.map E ck)→∃ E ck,o'=.map E ck)
  (r:BxRep O β S (setBlock w b o') b X):Corr O n w0 β S ⟨V.tv,upd V.bv h (some X),V.sv,V.df⟩ a (setBlock w b o') :=
 C.chg hb (fun _ _ hne=>heap_setBlock_ne _ hne) (Nat.le_of_eq (size_setBlock _).symm) rfl rfl rfl (fun r=>O.setM r g ho o') (fun ⟨E,ck,he⟩=>by
  rw [g] at he;obtain ⟨E',ck',h'⟩:=hm ⟨E,ck,Option.some.inj he⟩
  exact ⟨E',ck',by rw [heap_setBlock _ g,h']⟩) (fun g'=>by rw [g] at g';cases g';cases ho) (fun _ h=>h) (fun _ h=>.inl h) r
theorem setCells_heap (b:Nat) {T:TypeId}:∀ (xs:List Value) (off:Nat) (w:World) (vs:List Value),w.heap[b]?=some (.cells vs.toArray T (0,0))→off+xs.length≤vs.length →
  (w.setCells b off xs).heap[b]?=some (.cells (vs.take off++xs++vs.drop (off+xs.length)).toArray T (0,0))
 | [],off,w,vs,h,_=>by simpa [World.setCells] using h
 | x :: xs,off,w,vs,h,hl=>by
  have hlt:=cell_lt h;have h':w.heap[b]=.cells vs.toArray T (0,0):=by simpa [Array.getElem?_eq_getElem hlt] using h
  have h1:(w.setCell ⟨b,off,none⟩ x).heap[b]?=some (.cells (vs.set off x).toArray T (0,0)):=by
   show (w.heap.modify b _)[b]?=_
   rw [Array.getElem?_eq_getElem (by simpa using hlt),Array.getElem_modify_self,h']
   simp
  have hl':off+1+xs.length≤(vs.set off x).length:=by simp at hl ⊢;omega
  rw [World.setCells,setCells_heap b xs (off+1) _ _ h1 hl']
  congr 2
  congr 1
  simp only [List.length_cons] at hl;have e1:(vs.set off x).take (off+1)=vs.take off++[x]:=by
   rw [List.take_succ_eq_append_getElem (by simp;omega)]
   simp [List.take_set_of_le]
  have e2:(vs.set off x).drop (off+1+xs.length)=vs.drop (off+(x :: xs).length):=by
   rw [List.drop_set_of_lt (by omega)]
   congr 1;simp;omega
  rw [e1,e2];simp
theorem setCells_else (b:Nat):∀ (xs:List Value) (off:Nat) (w:World) (k:Nat),k≠b→(w.setCells b off xs).heap[k]?=w.heap[k]?
 | [],_,_,_,_=>rfl
 | x :: xs,off,w,k,h=>by rw [World.setCells,setCells_else b xs (off+1) _ k h,Below.heap_setCell _ _ _ _ h]
theorem setCells_opq (b:Nat) {T:TypeId} {k n:Nat} {x:Value} (hT:O.box T=true):∀ (xs:List Value) (off:Nat) (w:World) (c:Array Value),w.heap[b]?=some (.cells c T (0,0))→O.R k n w x→O.R k n (w.setCells b off xs) x
 | [],_,_,_,_,r=>r
 | y :: xs,off,w,c,h,r=>by
  have hlt:=cell_lt h;have h':w.heap[b]=.cells c T (0,0):=by simpa [Array.getElem?_eq_getElem hlt] using h
  have h1:∃ c',(w.setCell ⟨b,off,none⟩ y).heap[b]?=some (.cells c' T (0,0)):=by
   refine ⟨c.setIfInBounds off y,?_⟩
   show (w.heap.modify b _)[b]?=_
   rw [Array.getElem?_eq_getElem (by simpa using hlt),Array.getElem_modify_self,h']
   simp
  obtain ⟨c',h1⟩:=h1
  exact setCells_opq b hT xs (off+1) _ c' h1 (O.set r h hT y)
theorem setCells_rest (b:Nat):∀ (xs:List Value) (off:Nat) (w:World),(w.setCells b off xs).heap.size=w.heap.size∧(w.setCells b off xs).os=w.os∧(w.setCells b off xs).tape=w.tape∧(w.setCells b off xs).output=w.output
 | [],_,_=>⟨rfl,rfl,rfl,rfl⟩
 | x :: xs,off,w=>by
  rw [World.setCells];obtain ⟨h1,h2,h3,h4⟩:=setCells_rest b xs (off+1) (w.setCell ⟨b,off,none⟩ x)
  exact ⟨by rw [h1];simp [World.setCell],h2,h3,h4⟩
theorem BxRep.toCells {b T:Nat} {cs:List AC} {X:Bx} (h:BxRep O β S w b X) (hc:X.cells=some (T,cs)):∃ vs ts:List Value,w.heap[b]?=some (.cells (vs++ts).toArray T (0,0))∧RepCs O β S w vs cs∧O.box T=true ∧
  ∀ (w':World) (us:List Value) (ds:List AC),w'.heap[b]?=some (.cells (us++ts).toArray T (0,0))→RepCs O β S w' us ds→BxRep O β S w' b (X.setCells ds):=by
 cases X with
 | b U ds =>
  cases hc
  obtain ⟨vs,h1,h2,h3⟩:=h
  exact ⟨vs,[],by simpa using h1,h2,h3,fun w' us ds g1 g3=>⟨us,by simpa using g1,g3,h3⟩⟩
 | r U wd ds =>
  cases hc
  obtain ⟨vs,ts,h1,h2,h3⟩:=h
  exact ⟨vs,ts,h1,h2,h3,fun w' us ds g1 g3=>⟨us,ts,g1,g3,h3⟩⟩
 | m _ _ _=>cases hc
 | it _ _ _ _=>cases hc
 | z _=>cases hc
theorem Corr.sto (C:Corr O n w0 β S V a w) {h b off T:Nat} {X:Bx} {xs cs:List AC} {us:List Value} (hb:β h=some b) (h1:V.bv h=some X) (hc:X.cells=some (T,cs))
  (r:RepCs O β S w us xs) (hl:off+xs.length≤cs.length):Corr O n w0 β S ⟨V.tv,upd V.bv h (some (X.setCells (cs.take off++xs++cs.drop (off+xs.length)))),V.sv,V.df⟩ a (w.setCells b off us):=by
 obtain ⟨Y,q1,q2,q3,q4⟩:=C.bl h b hb;rw [h1] at q1;cases q1;obtain ⟨vs,ts,g1,g2,g3,g4⟩:=q2.toCells hc;have lr:=r.len;have lv:=g2.len;obtain ⟨e1,e2,e3,e4⟩:=setCells_rest b us off w;have hh:=setCells_heap b us off w (vs++ts) g1 (by simp;omega);have hsz:∀ {c:Array Value} {U:TypeId},w.heap[b]?=some (.cells c U (0,0))→∃ c':Array Value,(w.setCells b off us).heap[b]?=some (.cells c' U (0,0))∧c'.size=c.size:=by
  intro c U g
  rw [g1] at g;cases g
  exact ⟨_,hh,by simp;omega⟩
 have ev:Evo O S w (w.setCells b off us):=⟨fun k hS=>setCells_else b us off w k (fun e=>q4 (e ▸ hS)),fun r=>setCells_opq b g3 us off w _ g1 r,fun {k c U} g=>by
  by_cases e:k=b
  ·subst e;exact hsz g
  ·exact ⟨c,by rw [setCells_else b us off w k e];exact g,rfl⟩⟩
 refine C.chg hb (fun k _ hk=>setCells_else b us off w k hk) (Nat.le_of_eq e1.symm) e2 e3 e4 (fun r=>setCells_opq b g3 us off w _ g1 r) (fun ⟨E,ck,he⟩=>by rw [g1] at he;cases he) hsz (fun _ h=>h) (fun _ h=>.inl h) ?_;refine g4 _ (vs.take off++us++vs.drop (off+us.length)) _ ?_ ?_
 ·rw [hh]
  congr 3
  rw [List.take_append_of_le_length (by omega),List.drop_append_of_le_length (by omega)]
  simp
 ·have q3':=g2.evo ev (fun _ h=>h) (fun _ _ h=>h);have r':=r.evo ev (fun _ h=>h) (fun _ _ h=>h);rw [lr]
  exact (All2.app (All2.app (All2.take off q3') r') (All2.drop _ q3'))
end
end Go.Proofs.YtoaoebimjmjpeaaGreatDoor
