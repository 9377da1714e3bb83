/- A view out of lists; an operation in the text's order. -/
import Derived.Laws.MakeOwn
import Derived.Laws.Slices
import Derived.WalkSpells
import Derived.Test.YtoaoebimjmjpeaaGreatDoorT20
namespace Go.Proofs.YtoaoebimjmjpeaaGreatDoor
open Go.RowKit Vn
open Go.ChangeMaps (setBlock)
set_option maxRecDepth 100000
set_option maxHeartbeats 8000000
section
variable {P:Program} {O:Opq} {T:Tys} {n:Nat} {w0:W0}
/-! ### a view out of lists -/
def ascT:List (Nat×AV)→Nat→AV
 | [],_=>.j
 | (k,x) :: l,i=>cond (Nat.beq i k) x (ascT l i)
def ascB:List (Nat×Bx)→Nat→Option Bx
 | [],_=>none
 | (k,x) :: l,i=>cond (Nat.beq i k) (some x) (ascB l i)
def Vw (l:List (Nat×AV)) (m:List (Nat×Bx)):View:=⟨ascT l,ascB m,[],[]⟩
def agT (V:View):List (Nat×AV)→Prop
 | []=>True
 | (i,x) :: l=>V.tv i=x∧agT V l
def agB (V:View):List (Nat×Bx)→Prop
 | []=>True
 | (h,X) :: l=>V.bv h=some X∧agB V l
def refB (hs:List Nat) (c:AC):Bool:=match refC c with
 | some h=>memB h hs
 | none=>true
def refVB (hs:List Nat):AV→Bool
 | .c c=>refB hs c
 | .g cs=>cs.all (refB hs)
 | _=>true
def refXB (hs:List Nat) (X:Bx):Bool:=match X.cells with
 | some (_,cs)=>cs.all (refB hs)
 | none=>true
def wfB (l:List (Nat×AV)) (m:List (Nat×Bx)):Bool:=l.all (fun p=>refVB (m.map (·.1)) p.2)&&m.all fun p=>refXB (m.map (·.1)) p.2
structure Agree (l:List (Nat×AV)) (m:List (Nat×Bx)) (V:View):Prop where
 t:agT V l
 b:agB V m
 wf:wfB l m=true
 m0:((V.bv 1000).isSome && !memB 1000 (m.map (·.1)))=false
theorem ascB_mem:∀ {m:List (Nat×Bx)} {h:Nat} {X:Bx},ascB m h=some X→(h,X)∈m
 | (k,Y) :: m,h,X,e=>by
  simp only [ascB] at e
  cases hk:Nat.beq h k with
  | true =>
   rw [hk] at e
   have:=Nat.eq_of_beq_eq_true hk
   cases e;subst this;simp
  | false=>rw [hk] at e;exact List.mem_cons_of_mem _ (ascB_mem e)
theorem ascB_some:∀ {m:List (Nat×Bx)} {h:Nat},memB h (m.map (·.1))=true→∃ X,ascB m h=some X
 | (k,Y) :: m,h,e=>by
  simp only [List.map_cons,memB] at e;simp only [ascB]
  cases hk:Nat.beq h k with
  | true=>exact ⟨Y,rfl⟩
  | false=>rw [hk] at e;exact ascB_some (by simpa using e)
theorem ascB_none:∀ {m:List (Nat×Bx)} {h:Nat},memB h (m.map (·.1))=false→ascB m h=none
 | [],_,_=>rfl
 | (k,Y) :: m,h,e=>by
  simp only [List.map_cons,memB,Bool.or_eq_false_iff] at e;simp only [ascB,e.1,cond_false]
  exact ascB_none e.2
theorem agT.get {V:View}:∀ {l:List (Nat×AV)},agT V l→∀ i,ascT l i=.j∨(V.tv i=ascT l i∧(i,ascT l i)∈l)
 | [],_,_=>.inl rfl
 | (k,x) :: l,h,i=>by
  simp only [ascT]
  cases hk:Nat.beq i k with
  | true =>
   have:=Nat.eq_of_beq_eq_true hk
   subst this;exact .inr ⟨h.1,by simp⟩
  | false =>
   rcases agT.get h.2 i with h' | h'
   ·exact .inl h'
   ·exact .inr ⟨h'.1,List.mem_cons_of_mem _ h'.2⟩
theorem agB.get {V:View}:∀ {m:List (Nat×Bx)},agB V m→∀ h X,(h,X)∈m→V.bv h=some X
 | (k,Y) :: m,h,i,X,hm=>by
  cases hm with
  | head=>exact h.1
  | tail _ hm=>exact agB.get h.2 i X hm
theorem Corr.sub {β:Nat→Option Nat} {S:Nat→Prop} {V:View} {a:Act} {w:World} (C:Corr O n w0 β S V a w) (hnd:w0.nd=true) {l:List (Nat×AV)} {m:List (Nat×Bx)} (A:Agree l m V):∃ β',Corr O n w0 β' S (Vw l m) a w:=by
 have hw:=A.wf;simp only [wfB,Bool.and_eq_true,List.all_eq_true] at hw;have c:∀ {x:Value} {c:AC},RepC O β S w x c→refB (m.map (·.1)) c=true→RepC O (fun h=>cond (memB h (m.map (·.1))) (β h) none) S w x c:=by
  intro x c r hr
  have e:∀ {h b},memB h (m.map (·.1))=true→β h=some b→cond (memB h (m.map (·.1))) (β h) none=some b:=fun hm hb=>by rw [hm];exact hb
  cases c with
  | p h off=>obtain ⟨b,h1,h2⟩:=r;exact ⟨b,e hr h1,h2⟩
  | pm h=>obtain ⟨b,h1,h2⟩:=r;exact ⟨b,e hr h1,h2⟩
  | os h k cap=>obtain ⟨b,cap,c,U,h1,h2⟩:=r;exact ⟨b,cap,c,U,e hr h1,h2⟩
  | clp k h cs=>obtain ⟨b,us,h1,h2⟩:=r;exact ⟨b,us,e hr h1,h2⟩
  | u=>exact r
  | _=>exact Rep0.toC (RepC.to0 r rfl)
 have cs:∀ {vs:List Value} {cs:List AC},RepCs O β S w vs cs→(∀ c∈cs,refB (m.map (·.1)) c=true)→RepCs O (fun h=>cond (memB h (m.map (·.1))) (β h) none) S w vs cs:=by
  intro vs
  induction vs with
  | nil=>intro cs r _;cases cs with
   | nil=>trivial
   | cons _ _=>exact r.elim
  | cons v vs ih=>intro cs r hc;cases cs with
   | nil=>exact r.elim
   | cons y cs=>exact ⟨c r.1 (hc y (by simp)),ih r.2 (fun z hz=>hc z (by simp [hz]))⟩
 have nin:∀ {h b},cond (memB h (m.map (·.1))) (β h) none=some b→memB h (m.map (·.1))=true∧β h=some b:=by
  intro h b hb
  cases hm:memB h (m.map (·.1)) with
  | true=>rw [hm] at hb;exact ⟨rfl,hb⟩
  | false=>rw [hm] at hb;cases hb
 refine ⟨fun h=>cond (memB h (m.map (·.1))) (β h) none,fun i => ?_,C.sz,fun h b hb => ?_,fun h hs => ?_,fun h h' b hb hb'=>C.inj _ _ _ (nin hb).2 (nin hb').2,C.sl,C.ex,C.sb,C.iv,fun b hb => ?_,C.hn,⟨(by cases w0.sus<;>trivial),(by
  rcases C.su.df with h | ⟨h,_⟩
  ·exact .inl h
  ·rw [hnd] at h;cases h)⟩⟩
 ·show RepV O _ S w _ (ascT l i)
  have hi:=C.tm i
  rcases A.t.get i with h | ⟨h,hm⟩
  ·rw [h];trivial
  ·rw [h] at hi;have hr:=hw.1 _ hm;generalize ascT l i=y at hi hr
   cases y with
   | c y=>exact c hi hr
   | g ys =>
    obtain ⟨vs,e,r⟩:=hi
    exact ⟨vs,e,cs r (by simpa [refVB] using hr)⟩
   | t xs=>exact hi
   | j=>trivial
 ·obtain ⟨hm,hb⟩:=nin hb;obtain ⟨X,h1,h2,h3⟩:=C.bl h b hb;obtain ⟨Y,hY⟩:=ascB_some hm;have hYm:=ascB_mem hY
  have:=A.b.get h Y hYm
  rw [h1] at this;cases this;refine ⟨X,hY,?_,h3⟩;have hr:=hw.2 _ hYm
  cases X with
  | b U ds=>obtain ⟨vs,g1,g2,g3⟩:=h2;exact ⟨vs,g1,cs g2 (by simpa [refXB,Bx.cells] using hr),g3⟩
  | r U wd ds=>obtain ⟨vs,ts,g1,g2,g3⟩:=h2;exact ⟨vs,ts,g1,cs g2 (by simpa [refXB,Bx.cells] using hr),g3⟩
  | m ag ks vs=>exact h2
  | it ag ks vs cur=>exact h2
  | z o=>exact h2
 ·have hs:(ascB m h).isSome=true:=hs
  show (cond (memB h (m.map (·.1))) (β h) none).isSome=true
  cases hm:memB h (m.map (·.1)) with
  | false=>rw [ascB_none hm] at hs;cases hs
  | true =>
   obtain ⟨Y,hY⟩:=Option.isSome_iff_exists.1 hs
   have:=A.b.get h Y (ascB_mem hY)
   exact C.dm h (by rw [this];rfl)
 ·show cond (memB 1000 (m.map (·.1))) (β 1000) none=_
  have h1:=C.om b hb;obtain ⟨X,h2,_⟩:=C.bl 1000 b h1
  have:=A.m0
  rw [h2] at this
  have:memB 1000 (m.map (·.1))=true:=by simpa using this
  rw [this];exact h1
/-! ### an operation in the text's order -/
def packAV (ag:Bool) (v:List AC):AV:=match ag,v with
 | true,v=>.g v
 | false,[c]=>.c c
 | _,_=>.j
def isSpec:Op→Bool
 | .range _ _=>true
 | .next _ _=>true
 | .entry _=>true
 | .makeFunc _ _ cs => !cs.toList.isEmpty
 | .makeSlice _ _ _=>true
 | .load _ (.global _)=>true
 | .index _ _ _=>true
 | .binOp .eql _ _ (.const (.slice none 0 0)) _=>true
 | .buildSlice _ 0 _=>true
 | .buildSlice t 3 _=>Nat.beq t 41
 | .slice _ _ _ _ _=>true
 | .call c=>match c.callee with
  | .value (.tmp _)=>true
  | .value (.func k)=>ownS k
  | .builtin .append=>true
  | _=>false
 | _=>false
def capsK (ρ:Operand→AV):List Operand→(List AC→Prop)→Prop
 | [],k=>k []
 | x :: r,k=>match ρ x with
  | .c c=>capsK ρ r fun l=>k (c :: l)
  | _=>False
def mkK (k:Nat) (cs:List AC) (K:AC→Prop):Prop:=match cs with
 | []=>False
 | c :: r=>match c with
  | .p h 0=>cond (noPs r && !Nat.beq k 1000000) (K (.clp k h r)) False
  | c=>cond (noPs (c :: r)) (K (.cl k (c :: r))) False
def tabK (O:Opq) (g:Nat):Nat→Nat→(List AC→Prop)→Prop
 | 0,_,k=>k []
 | n+1,i,k=>match O.tab g i with
  | some x=>tabK O g n (i+1) fun l=>k (.v x :: l)
  | none=>False
def repZ (z:List AC):Nat→List AC
 | 0=>[]
 | n+1=>z++repZ z n
def evCl (P:Program) (O:Opq) (V:View) (d:Option Nat) (args:List Operand) (K:View→Prop) (c:AC):Prop:=match c with
 | .cl k cs=>argsK false V.ev V.bv args fun l=>∃ r,Cal P O k (l++cs.map .c) r∧FlatR r∧K (V.put d r)
 | .v (.func (.func k) ⟨[]⟩ ⟨[]⟩)=>argsK false V.ev V.bv args fun l=>∃ r,Cal P O k l r∧FlatR r∧K (V.put d r)
 | _=>False
def evX (P:Program) (O:Opq) (T:Tys) (o:Oper) (V:View) (K:View→Prop):Prop:=match o.op with
 | .range t x=>match T t with
  | some ty=>match ty.mp,V.ev x,o.dst with
   | some _,.c (.mp ag ks vs),some d=>match V.bv d with
    | none=>K (V.app (.new (.it ag ks vs none)) (some d))
    | some _=>False
   | _,_,_=>False
  | none=>False
 | .next it false=>match V.ev it with
  | .c (.p h 0)=>match V.bv h with
   | some (.it ag ks vs _)=>(ks=[]→K (V.put o.dst (.t [.c (.v (.bool false))]))) ∧
     ∀ (i:Nat) k v,ks[i]?=some k→vs[i]?=some v→K (V.app (.sto h (.it ag (ks.eraseIdx i) (vs.eraseIdx i) (some (k,v))) (.t [.c (.v (.bool true)),.c (.v (.int .i64 k)),packAV ag v])) o.dst)
   | _=>False
  | _=>False
 | .entry it=>match V.ev it with
  | .c (.p h 0)=>match V.bv h with
   | some (.it ag _ _ (some (k,v)))=>K (V.put o.dst (.t [.c (.v (.int .i64 k)),packAV ag v]))
   | _=>False
  | _=>False
 | .load t (.global g)=>match T t with
  | some ty=>match ty.agg with
   | true=>tabK O g ty.zero.length 0 fun cs=>partK ty.agg ty.zero.length cs fun v=>K (V.put o.dst v)
   | false=>match O.tab g 0 with
    | some x=>K (V.put o.dst (.c (.v x)))
    | none=>False
  | none=>False
 | .binOp .eql t x (.const (.slice none 0 0)) _=>match T t with
  | some ty=>match ty.elem,V.ev x with
   | some _,.c (.sl _ (_ :: _))=>K (V.put o.dst (.c (.v (.bool false))))
   | some _,.c (.v (.slice none 0 0))=>K (V.put o.dst (.c (.v (.bool true))))
   | _,_=>False
  | none=>False
 | .buildSlice t 0 ps=>match T t with
  | some ty=>match ty.elem,o.dst with
   | some wd,some d=>cond (ps.toList.isEmpty && !Nat.beq ty.et 0) (match V.bv d with
    | none=>K ⟨upd V.tv d (.c (.os d 0 wd)),upd V.bv d (some (.r ty.et wd [])),V.sv,V.df⟩
    | some _=>False) False
   | _,_=>False
  | none=>False
 | .buildSlice t 3 ps=>match T t with
  | some ty=>match ty.elem,o.dst with
   | some wd,some d=>rowsK wd V.ev 0 ps.toList fun rs=>cond (Nat.beq rs.length 3&&Nat.ble (3*wd) 16777216&&Nat.blt 0 (3*wd) && !Nat.beq ty.et 0) (match V.bv d with
    | none=>K ⟨upd V.tv d (.c (.os d 3 wd)),upd V.bv d (some (.r ty.et wd rs.flatten)),V.sv,V.df⟩
    | some _=>False) False
   | _,_=>False
  | none=>False
 | .index t x i=>match T t with
  | some ty=>match ty.arr,V.ev x,V.ev i with
   | some l,.g cs,.c (.v (.int _ m))=>cond (decide (0≤m)&&decide (m.toNat<l)) (match cs.drop m.toNat with
    | c :: _=>K (V.put o.dst (.c c))
    | []=>False) False
   | _,_,_=>False
  | none=>False
 | .makeSlice t l c=>match T t with
  | some ty=>match ty.elem,T ty.et,V.ev l,V.ev c,o.dst with
   | some wd,some te,.c (.v (.int _ m)),.c (.v (.int _ m')),some d=>cond (decide (m=m')&&decide (0≤m)&&Nat.ble m.toNat 1000000 && !Nat.beq ty.et 0&&Nat.blt 0 wd) (match V.bv d with
    | none=>K ⟨upd V.tv d (.c (.os d m.toNat wd)),upd V.bv d (some (.r ty.et wd (repZ te.zero m.toNat))),V.sv,V.df⟩
    | some _=>False) False
   | _,_,_,_,_=>False
  | none=>False
 | .slice t x none (some hi) none=>match T t with
  | some ty=>match ty.elem,V.ev x,V.ev hi with
   | some wd,.c (.sl wd' rows),.c (.v (.int _ m))=>cond (Nat.beq wd wd'&&decide (0≤m)&&decide (m.toNat≤rows.length)) (K (V.put o.dst (.c (.sl wd (rows.take m.toNat))))) False
   | _,_,_=>False
  | none=>False
 | .makeFunc (.func k) fs cs=>cond fs.toList.isEmpty (capsK V.ev cs.toList fun l=>mkK k l fun c=>K (V.put o.dst (.c c))) False
 | .call c=>match c.callee with
  | .value (.func k)=>match o.dst with
   | some d=>match V.bv d with
    | none=>argsK false V.ev V.bv c.args.toList fun l=>∃ n wd U cs,CalS P O k l n wd U cs∧K ⟨upd V.tv d (.c (.os d n wd)),upd V.bv d (some (.r U wd cs)),V.sv,V.df⟩
    | some _=>False
   | none=>False
  | .value f=>match V.ev f with
   | .c y=>cond (isP y) (frzK false V.bv 4 y (evCl P O V o.dst c.args.toList K)) (evCl P O V o.dst c.args.toList K y)
   | _=>False
  | .builtin .append=>match c.args.toList,c.argTypes.toList,o.dst with
   | [s,x],[t,t'],some d=>cond (Nat.beq t t') (match T t with
    | some ty=>match ty.elem,V.ev x with
     | some wd,.c (.sl wd' rows)=>cond (Nat.beq wd wd'&&Nat.blt 0 wd&&Nat.blt 0 rows.length&&Nat.ble rows.length 1000000 && !Nat.beq ty.et 0) (match V.ev s with
      | .c (.v (.slice none 0 0))=>match V.bv d with
       | none=>K ⟨upd V.tv d (.c (.os d rows.length wd)),upd V.bv d (some (.r ty.et wd rows.flatten)),V.sv,V.df⟩
       | some _=>False
      | .c (.os h n wd1)=>match V.bv h with
       | some (.r T' wd2 cs)=>cond (Nat.beq T' ty.et&&Nat.beq wd1 wd&&Nat.beq wd2 wd&&Nat.beq cs.length (n*wd)&&Nat.ble n 1000000 && !Nat.beq h 1000)
         (allK cs fun cs=>K ⟨upd (V.clean [h]).tv d (.c (.os h (n+rows.length) wd)),upd (V.clean [h]).bv h (some (.r T' wd (cs.map (dropC [h])++rows.flatten))),(V.clean [h]).sv,(V.clean [h]).df⟩) False
       | _=>False
      | _=>False) False
     | _,_=>False
    | none=>False) False
   | _,_,_=>False
  | _=>False
 | _=>False
theorem RepEnts.at {S:Nat→Prop} {w:World} {ag:Bool}:∀ {vs:List (List AC)} {ks:List Int} {L:List MapEntry},RepEnts O S w ag vs ks L→∀ e∈L,∃ (i:Nat) (k:Int) (v:List AC),L[i]?=some e∧ks[i]?=some k∧vs[i]?=some v∧e.key=.int .i64 k∧RepVal O S w ag v e.val
 | [],[],[],_,e,h=>by cases h
 | v :: vs,k :: ks,x :: L,r,e,h=>by
  simp only [RepEnts] at r
  cases h with
  | head=>exact ⟨0,k,v,rfl,rfl,rfl,r.1,r.2.1⟩
  | tail _ h =>
   obtain ⟨i,k',v',h1,h2,h3,h4⟩:=RepEnts.at r.2.2 e h
   exact ⟨i+1,k',v',by simpa using h1,by simpa using h2,by simpa using h3,h4⟩
 | [],[],_ :: _,h,_,_=>by simp only [RepEnts] at h
 | [],_ :: _,_,h,_,_=>by simp only [RepEnts] at h
 | _ :: _,[],_,h,_,_=>by simp only [RepEnts] at h
 | _ :: _,_ :: _,[],h,_,_=>by simp only [RepEnts] at h
theorem RepEnts.erase {S:Nat→Prop} {w:World} {ag:Bool}:∀ {vs:List (List AC)} {ks:List Int} {L:List MapEntry} (i:Nat),RepEnts O S w ag vs ks L→RepEnts O S w ag (vs.eraseIdx i) (ks.eraseIdx i) (L.eraseIdx i)
 | [],[],[],_,_=>by simp only [List.eraseIdx,RepEnts]
 | v :: vs,k :: ks,x :: L,0,r=>by simp only [RepEnts] at r;exact r.2.2
 | v :: vs,k :: ks,x :: L,i+1,r=>by
  simp only [RepEnts,List.eraseIdx] at r ⊢
  exact ⟨r.1,r.2.1,RepEnts.erase i r.2.2⟩
 | [],[],_ :: _,_,h=>by simp only [RepEnts] at h
 | [],_ :: _,_,_,h=>by simp only [RepEnts] at h
 | _ :: _,[],_,_,h=>by simp only [RepEnts] at h
 | _ :: _,_ :: _,[],_,h=>by simp only [RepEnts] at h
theorem RepVal.av {β:Nat→Option Nat} {S:Nat→Prop} {w:World} {ag:Bool} {v:List AC} {x:Value} (h:RepVal O S w ag v x):RepW O β S w x (packAV ag v):=by
 obtain ⟨us,rfl,hl,r⟩:=h;rw [RepL.iff] at r
 cases ag with
 | true=>exact ⟨us,rfl,r.toC⟩
 | false =>
  have:=hl rfl
  match us,v,r with
  | [u],[c],r=>exact r.1.toC
  | [u],[],r=>exact r.elim
  | [u],_ :: _ :: _,r=>exact r.2.elim
theorem erase_filter:∀ {L:List MapEntry} {i:Nat} {e:MapEntry},L[i]?=some e→(L.map (·.born)).Nodup→L.eraseIdx i=L.filter fun x => !(x.born==e.born)
 | [],_,_,h,_=>by simp at h
 | x :: L,0,e,h,hn=>by
  simp at h;subst h
  simp only [List.map_cons,List.nodup_cons] at hn;simp only [List.eraseIdx_cons_zero,List.filter_cons,BEq.rfl,Bool.not_true];rw [if_neg (by simp)]
  symm
  rw [List.filter_eq_self]
  intro y hy
  have:y.born≠x.born:=fun e=>hn.1 (List.mem_map.2 ⟨y,hy,e⟩)
  simpa using this
 | x :: L,i+1,e,h,hn=>by
  simp only [List.map_cons,List.nodup_cons] at hn;have h:L[i]?=some e:=by simpa using h
  have he:x.born≠e.born:=fun e'=>hn.1 (List.mem_map.2 ⟨e,List.mem_of_getElem? h,e'.symm⟩);simp only [List.eraseIdx_cons_succ,List.filter_cons];rw [if_pos (by simpa using he),erase_filter h hn.2]
variable {β:Nat→Option Nat} {S:Nat→Prop} {V:View} {a:Act} {w:World}
theorem frame_ev {b:Nat} (hS:¬ S b) {c:Array Value} {U:TypeId} (g:w.heap[b]?=some (.cells c U (0,0))) (hU:O.box U=true) {w':World} (hk:∀ j,j≠b→w'.heap[j]?=w.heap[j]?) (hc:∃ c':Array Value,w'.heap[b]?=some (.cells c' U (0,0))∧c'.size=c.size):Evo O S w w' :=
 ⟨fun k hk'=>hk k (fun e=>hS (e ▸ hk')),fun r=>O.row r g hU (fun j _ hj=>hk j hj),fun {k c1 T1} g1=>by
  by_cases e:k=b
  ·subst e;rw [g] at g1;cases g1;exact hc
  ·exact ⟨c1,by rw [hk k e];exact g1,rfl⟩⟩
theorem Corr.frame (C:Corr O n w0 β S V a w) {b:Nat} (hβ:∀ h,β h≠some b) (hS:¬ S b) (hb:w0.w.heap.size≤b) {c:Array Value} {U:TypeId} (g:w.heap[b]?=some (.cells c U (0,0))) (hU:O.box U=true) {w':World} (hk:∀ j,j≠b→w'.heap[j]?=w.heap[j]?)
  (hz:w'.heap.size=w.heap.size) (ho:w'.os=w.os) (ht:w'.tape=w.tape) (hou:w'.output=w.output) (hc:∃ c':Array Value,w'.heap[b]?=some (.cells c' U (0,0))∧c'.size=c.size):Corr O n w0 β S V a w':=by
 have ev:Evo O S w w':=⟨fun k hk'=>hk k (fun e=>hS (e ▸ hk')),fun r=>O.row r g hU (fun j _ hj=>hk j hj),fun {k c1 T1} g1=>by
  by_cases e:k=b
  ·subst e;rw [g] at g1;cases g1;exact hc
  ·exact ⟨c1,by rw [hk k e];exact g1,rfl⟩⟩
 refine ⟨fun i=>(C.tm i).evo ev (fun _ h=>h) (fun _ _ h=>h),C.sz,fun h b' hb' => ?_,C.dm,C.inj,fun k hk'=>by rw [hz];exact C.sl k hk',?_,C.sb,C.iv,C.om,C.hn,C.su.evo ev (fun _ h=>h) (fun _ _ h=>h)⟩
 ·obtain ⟨X,h1,h2,h3⟩:=C.bl h b' hb'
  exact ⟨X,h1,h2.evo ev (fun _ h=>h) (fun _ _ h=>h) (hk b' (fun e=>hβ h (e ▸ hb'))),h3⟩
 ·obtain ⟨w1,h1,h2⟩:=C.ex;have hs1:=h1.size
  exact ⟨w1,h1,ho.trans h2.os,ht.trans h2.tape,hou.trans h2.output,by rw [hz];exact h2.size,fun k hkl=>by rw [hk k (by omega)];exact h2.block k hkl⟩
theorem Corr.own (C:Corr O n w0 β S V a w) {g b:Nat} (hf:V.bv g=none) (hβ:∀ h,β h≠some b) (hS:¬ S b) (hb:w0.w.heap.size≤b) {X:Bx} (r:∀ β',(∀ k b,β k=some b→β' k=some b)→BxRep O β' S w b X) :
  Corr O n w0 (upd β g (some b)) S ⟨V.tv,upd V.bv g (some X),V.sv,V.df⟩ a w:=by
 have hg:β g=none:=by
  cases e:β g with
  | none=>rfl
  | some b=>obtain ⟨X,h1,_⟩:=C.bl g b e;rw [hf] at h1;cases h1
 have hext:∀ k x,β k=some x→upd β g (some b) k=some x:=fun k x h=>by
  rw [upd_ne];exact h
  intro e;rw [e,hg] at h;cases h
 refine ⟨fun i=>(C.tm i).evo (Evo.refl _ _ _) (fun _ h=>h) hext,C.sz,fun h x hx => ?_,fun h hs => ?_,fun h h' x hx hx' => ?_,C.sl,C.ex,C.sb,C.iv,fun x hx=>hext _ _ (C.om x hx),C.hn,C.su.evo (Evo.refl _ _ _) (fun _ h=>h) hext⟩
 ·by_cases e:h=g
  ·subst e;rw [upd_same] at hx;cases hx
   exact ⟨X,upd_same _ _ _,r _ hext,.inl hb,hS⟩
  ·rw [upd_ne _ _ e] at hx;obtain ⟨Y,h1,h2,h3⟩:=C.bl h x hx
   exact ⟨Y,by show upd V.bv g _ h=_;rw [upd_ne _ _ e];exact h1,h2.evo (Evo.refl _ _ _) (fun _ h=>h) hext rfl,h3⟩
 ·by_cases e:h=g
  ·subst e;rw [upd_same];rfl
  ·rw [upd_ne _ _ e];have hs':(upd V.bv g (some X) h).isSome=true:=hs;rw [upd_ne _ _ e] at hs'
   exact C.dm h hs'
 ·by_cases e:h=g<;>by_cases e':h'=g
  ·rw [e,e']
  ·subst e;rw [upd_same] at hx;rw [upd_ne _ _ e'] at hx';cases hx;exact absurd hx' (hβ h')
  ·subst e';rw [upd_same] at hx';rw [upd_ne _ _ e] at hx;cases hx';exact absurd hx (hβ h)
  ·rw [upd_ne _ _ e] at hx;rw [upd_ne _ _ e'] at hx';exact C.inj _ _ _ hx hx'
theorem capsK_rep {ρ:Operand→AV} {ev:Operand→Value} (hρ:∀ x,RepV O β S w (ev x) (ρ x)):∀ (l:List Operand) (k:List AC→Prop),capsK ρ l k→∃ cs,k cs∧RepCs O β S w (l.map ev) cs
 | [],k,h=>⟨[],h,trivial⟩
 | x :: r,k,h=>by
  simp only [capsK] at h;have hx:=hρ x
  split at h
  ·rename_i c e
   rw [e] at hx;obtain ⟨cs,h1,h2⟩:=capsK_rep hρ r _ h
   exact ⟨c :: cs,h1,hx,h2⟩
  ·exact h.elim
theorem rows_cells {wd:Nat}:∀ {rows:List (List AC)} {b off:Nat},RepRows O S w wd rows b off→∃ vs:List Value,(∀ (j:Nat) v,vs[j]?=some v→w.cell? ⟨b,off+j,none⟩=some v)∧R0s O S w vs rows.flatten∧vs.length=rows.length*wd
 | [],b,off,_=>⟨[],fun j v h=>by simp at h,trivial,by simp⟩
 | r :: rows,b,off,h=>by
  simp only [RepRows] at h;obtain ⟨h0,h1,h2⟩:=h;obtain ⟨vs,q1,q2⟩:=RepRow.list r b off h1;obtain ⟨us,p1,p2,p3⟩:=rows_cells h2;have lv:=q2.len;refine ⟨vs++us,fun j v hj => ?_,by rw [List.flatten_cons];exact All2.app q2 p2,by simp [p3,Nat.add_mul];omega⟩
  rcases Nat.lt_or_ge j vs.length with hl | hl
  ·rw [List.getElem?_append_left hl] at hj;exact q1 j v hj
  ·rw [List.getElem?_append_right hl] at hj
   have:=p1 _ v hj
   rw [show off+wd+(j-vs.length)=off+j by omega] at this
   exact this
theorem tabK_rep {β:Nat→Option Nat} {S:Nat→Prop} {w:World} (hi:O.inv w) (g:Nat):∀ (n i:Nat) (k:List AC→Prop),tabK O g n i k→∃ (vs:List Value) (cs:List AC),k cs∧(∀ (j:Nat) v,vs[j]?=some v→w.cell? ⟨g,i+j,none⟩=some v)∧RepCs O β S w vs cs
 | 0,i,k,h=>⟨[],[],h,fun j v hj=>by simp at hj,trivial⟩
 | n+1,i,k,h=>by
  simp only [tabK] at h
  split at h
  ·rename_i x hx
   obtain ⟨h1,h2⟩:=O.tabR hi g i x hx;obtain ⟨vs,cs,q1,q2,q3⟩:=tabK_rep hi g n (i+1) _ h;refine ⟨x :: vs,.v x :: cs,q1,fun j v hj => ?_,⟨rfl,h2⟩,q3⟩
   cases j with
   | zero=>simp at hj;subst hj;exact h1
   | succ j=>have:=q2 j v (by simpa using hj);rw [show i+1+j=i+(j+1) by omega] at this;exact this
  ·exact h.elim
theorem made_list (z:Array Value) (hz:0<z.size):∀ n:Nat,(madeCells z (n*z.size)).toList=(List.replicate n z.toList).flatten
 | 0=>by simp [madeCells]
 | n+1=>by
  have ih:=made_list z hz n;simp only [madeCells,Array.toList_map,Array.toList_range] at ih ⊢;rw [Nat.add_mul,Nat.one_mul,Nat.add_comm,List.range_add,List.map_append,List.replicate_succ,List.flatten_cons,←ih,List.map_map]
  congr 1
  ·refine List.ext_getElem (by simp) fun j h1 h2 => ?_;have hj:j<z.size:=by simpa using h2
   simp [Nat.mod_eq_of_lt hj,hj]
  ·refine List.map_congr_left fun j _ => ?_
   simp
theorem rep_made {β:Nat→Option Nat} {S:Nat→Prop} {w:World} {vs:List Value} {cs:List AC} (h:RepCs O β S w vs cs):∀ n:Nat,RepCs O β S w (List.replicate n vs).flatten (repZ cs n)
 | 0=>trivial
 | n+1=>by rw [List.replicate_succ,List.flatten_cons];exact All2.app h (rep_made h n)
theorem RepRows.take {S:Nat→Prop} {w:World} {wd:Nat}:∀ {rows:List (List AC)} {b off:Nat},RepRows O S w wd rows b off→∀ n:Nat,RepRows O S w wd (rows.take n) b off
 | _,_,_,_,0=>by simp only [List.take_zero,RepRows]
 | [],_,_,_,_+1=>by simp only [List.take_nil,RepRows]
 | r :: rows,b,off,h,n+1=>by
  simp only [RepRows,List.take_succ_cons] at h ⊢
  exact ⟨h.1,h.2.1,RepRows.take h.2.2 n⟩
theorem evX_sound (TK:TyOK P O T) (C:Corr O n w0 β S V a w) {o:Oper} {Kp:View→Prop} (h:evX P O T o V Kp) (hd:∀ t,o.dst=some t→t<n) {next:Act→World→Prop} {Q:Exit→Act→World→Prop}
  (K:∀ V' a' w' β' S',Kp V'→Corr O n w0 β' S' V' a' w'→next a' w'):o.wp P a w next Q:=by
 have val:∀ {v:Value} {x:AV},(execOp a.eval o).run P w=.ok (.value v) w→RepV O β S w v x→Kp (V.put o.dst x)→o.wp P a w next Q:=fun hr r hk=>wp_val hr (K _ _ _ _ _ hk (C.put hd r));unfold evX at h
 split at h
 ·rename_i t x ho
  split at h
  ·rename_i ty ht
   split at h
   ·rename_i mm ag ks vs d em ex hdd
    split at h
    ·rename_i hf
     obtain ⟨kt,et,it,zv,hu,hk,_⟩:=(TK t ty ht).mp _ _ em;have hr:=C.ev x;rw [ex] at hr;have hr:Rep0 O S w (.mp ag ks vs) (a.eval x):=hr;simp only [Rep0] at hr;obtain ⟨b,E,ck,L,hS,e1,hh,ok,hp,r⟩:=hr;have hx:Ext w (w.alloc (.mapIter (some b) ck #[] ck)):=(Below.refl _ _).alloc (Nat.le_refl _) _;have hnew:(w.alloc (.mapIter (some b) ck #[] ck)).heap[w.heap.size]?=some (.mapIter (some b) ck #[] ck):=(MapKept.heap_alloc w _).1;refine wp_val (v:=.pointer (some ⟨w.heap.size,0,none⟩)) (w':=w.alloc (.mapIter (some b) ck #[] ck)) ?_ ?_
     ·unfold execOp
      simp [ho,e1,Instr.range,run_underlying hu,MapKept.run_getObj_map hh,newObj,Sem.run,Result.andThen]
     ·rw [hdd];refine K _ _ _ _ _ h (C.new' (hd d hdd) hf (X:=.it ag ks vs none) hx (Nat.le_refl _) (S':=S) (fun _ h=>h) (fun _ h=>.inl h) (fun hS=>by have:=C.sl _ hS;omega) (fun β' _ => ?_) (fun β' hβ=>⟨_,hβ,rfl⟩));refine ⟨b,ck,ck,#[],E,L,hnew,hS,hx.heap hh,ok,Nat.le_refl _,Nat.le_refl _,?_,RepEnts.evo (Evo.of_ext hx C.sl) (fun _ h=>h) ag vs ks L r,fun _ _ h=>by cases h⟩
      have:(E.toList.filter fun e => !(#[]:Array Nat).contains e.born)=E.toList:=by rw [List.filter_eq_self];simp
      rw [this];exact hp
    ·exact h.elim
   ·exact h.elim
  ·exact h.elim
 ·rename_i it ho
  split at h
  ·rename_i g e
   split at h
   ·rename_i ag ks vs cur eb
    have hr:=C.ev it;rw [e] at hr;obtain ⟨b,hb,ex⟩:=hr;obtain ⟨X,q1,q2,q3,q4⟩:=C.bl g b hb;rw [eb] at q1;cases q1;obtain ⟨m,since,ck,seen,E,L,g1,g2,g3,ok,g5,g6,hp,r,_⟩:=q2;have hlt:=cell_lt g1;have hleft:(leftOf E seen).toList=E.toList.filter fun e => !seen.contains e.born:=by
     unfold leftOf;rw [Array.toList_filter]
    rcases run_next_at (P:=P) w o.type b m since ck seen E ck g1 g3 (fun x hx=>by have:=ok.lt x hx;omega) g6 with ⟨h0,hrun⟩ | ⟨x,hx,w1,hw1,hrun⟩
    ·have hn:ks=[]:=by
      have h1:(leftOf E seen).toList.length=0:=by simpa using h0
      rw [hleft] at h1
      have:=hp.length_eq
      have h2:=r.len
      exact List.eq_nil_of_length_eq_zero (by omega)
     refine val (v:=.tuple #[.bool false]) (x:=.t [.c (.v (.bool false))]) ?_ ⟨[.bool false],rfl,⟨rfl,rfl⟩,trivial⟩ (h.1 hn);unfold execOp;simp only [ho,ex];rw [Sem.run_bind,hrun];rfl
    ·rw [hleft] at hx;have hxL:=hp.mem_iff.2 hx;obtain ⟨i,k,v,i1,i2,i3,i4,i5⟩:=r.at x hxL;have hk:=h.2 i k v i2 i3;have hx1:Ext w w1:=by
      rcases hw1 with rfl | rfl
      ·exact Below.refl _ _
      ·exact (Below.refl _ _).drew
     have hheap:w1.heap=w.heap:=by rcases hw1 with rfl | rfl<;>rfl
     have C1:=C.evo hx1 (S':=S) (fun _ h=>h) (fun _ h=>.inl h);have ev1:Evo O S w w1:=Evo.of_ext hx1 C.sl;have gb:w1.heap[b]?=some (.mapIter (some m) since seen ck):=by rw [hheap];exact g1
     have ev2:Evo O S w1 (setBlock w1 b (.mapIter (some m) since (seen.push x.born) ck)):=Evo.setBlock gb rfl q4 _;have hxE:x∈E.toList:=(List.mem_filter.1 hx).1;have hne:m≠b:=fun e=>q4 (e ▸ g2);have nodupL:(L.map (·.born)).Nodup:=(hp.map _).nodup_iff.2 (ok.bn.sublist (List.filter_sublist.map _));have hv:=i5;obtain ⟨us,u1,u2,u3⟩:=i5;have C2:=C1.chgM hb gb rfl (fun ⟨_,_,h⟩=>by cases h) (o':=.mapIter (some m) since (seen.push x.born) ck) (X:=.it ag (ks.eraseIdx i) (vs.eraseIdx i) (some (k,v)))
      ⟨m,since,ck,seen.push x.born,E,L.eraseIdx i,heap_setBlock _ gb,g2,by rw [heap_setBlock_ne _ hne,hheap];exact g3,ok,g5,g6,by
       rw [erase_filter i1 nodupL];refine (hp.filter _).trans ?_;rw [List.filter_filter];refine List.Perm.of_eq (List.filter_congr fun y _ => ?_)
       by_cases e:y.born=x.born<;>simp [e],RepEnts.evo ev2 (fun _ h=>h) _ _ _ _ (RepEnts.evo ev1 (fun _ h=>h) _ _ _ _ (r.erase i)),fun k' cs' hc=>by
       cases hc
       exact ⟨x,seen,us,hxE,rfl,i4,u1,u2,RepL.evo ev2 (fun _ h=>h) _ _ (RepL.evo ev1 (fun _ h=>h) _ _ u3)⟩⟩
     refine wp_val (v:=.tuple #[.bool true,x.key,x.val]) (w':=setBlock w1 b (.mapIter (some m) since (seen.push x.born) ck)) ?_ (K _ _ _ _ _ hk (C2.put hd (x:=.t [.c (.v (.bool true)),.c (.v (.int .i64 k)),packAV ag v]) ?_))
     ·unfold execOp;simp only [ho,ex];rw [Sem.run_bind,hrun];rfl
     ·refine ⟨[.bool true,x.key,x.val],rfl,⟨rfl,rfl⟩,⟨i4,rfl⟩,?_,trivial⟩
      exact RepVal.av ⟨us,u1,u2,RepL.evo ev2 (fun _ h=>h) _ _ (RepL.evo ev1 (fun _ h=>h) _ _ u3)⟩
   ·exact h.elim
  ·exact h.elim
 ·rename_i it ho
  split at h
  ·rename_i g e
   split at h
   ·rename_i ag ks vs k v eb
    have hr:=C.ev it;rw [e] at hr;obtain ⟨b,hb,ex⟩:=hr;obtain ⟨X,q1,q2,q3,q4⟩:=C.bl g b hb;rw [eb] at q1;cases q1;obtain ⟨m,since,ck,seen,E,L,g1,g2,g3,ok,g5,g6,hp,r,hc⟩:=q2;obtain ⟨x,s,us,hx,rfl,i4,u1,u2,u3⟩:=hc k v rfl;refine val (v:=.tuple #[x.key,x.val]) (x:=.t [.c (.v (.int .i64 k)),packAV ag v]) ?_ ⟨[x.key,x.val],rfl,⟨i4,rfl⟩,RepVal.av ⟨us,u1,u2,u3⟩,trivial⟩ h;unfold execOp;simp only [ho,ex];rw [Sem.run_bind,run_entry_at (P:=P) w b m since s E ck x g1 g3 hx ok.bn];rfl
   ·exact h.elim
  ·exact h.elim
 ·rename_i t g ho
  split at h
  ·rename_i ty ht
   split at h
   ·rename_i ea
    obtain ⟨vs,cs,h,hc,hv⟩:=tabK_rep (β:=β) (S:=S) C.inv g _ _ _ h;obtain ⟨v,y,g1,g2,g3,g4,g5⟩:=load_rep (β:=β) TK ht hc hv h;refine val (v:=v) (x:=y) ?_ (g2.toV g5) g3;unfold execOp;simp only [ho,Act.eval];rw [Sem.run_bind,g1];rfl
   ·rename_i ea
    split at h
    ·rename_i y et
     obtain ⟨h1,h2⟩:=O.tabR C.inv g 0 y et;obtain ⟨d,hu,hdr,_⟩:=(TK t ty ht).und;rw [ea] at hdr;refine val (v:=y) (x:=.c (.v y)) ?_ ⟨rfl,h2⟩ h;unfold execOp;simp only [ho,Act.eval];simp only [Instr.loadAt,Instr.sureAddr,Sem.run_bind,Sem.run_pure,Result.andThen_ok,loadVar,run_isAgg hu w,hdr]
     simp [load,Sem.run,h1]
    ·exact h.elim
  ·exact h.elim
 ·rename_i t x _ ho
  split at h
  ·rename_i ty ht
   have hr:=C.ev x
   split at h
   ·rename_i s wd r rows el ex
    obtain ⟨e,i,z,hu,_⟩:=(TK t ty ht).elem s el;rw [ex] at hr;have hr:Rep0 O S w (.sl wd (r :: rows)) (a.eval x):=hr;simp only [Rep0] at hr;obtain ⟨ad,b,off,cap,exv,had,_⟩:=hr;obtain ⟨had,_⟩:=had (by simp);refine val (v:=.bool false) (x:=.c (.v (.bool false))) ?_ ⟨rfl,rfl⟩ h;unfold execOp;have e0:a.eval (.const (.slice none 0 0))=.slice none 0 0:=rfl
    simp [ho,exv,had,e0,eqGuard,Lib.run_eql_slice_nil w t e _ _ _ _ _ hu]
   ·rename_i s el ex
    obtain ⟨e,i,z,hu,_⟩:=(TK t ty ht).elem s el;have exv:=evC C ex;refine val (v:=.bool true) (x:=.c (.v (.bool true))) ?_ ⟨rfl,rfl⟩ h;unfold execOp;have e0:a.eval (.const (.slice none 0 0))=.slice none 0 0:=rfl
    simp [ho,exv,e0,eqGuard,Lib.run_eql_slice_nil w t e _ _ _ _ _ hu]
   ·exact h.elim
  ·exact h.elim
 ·rename_i t ps ho
  split at h
  ·rename_i ty ht
   split at h
   ·rename_i wd d eel hdd
    obtain ⟨hcnd,h2⟩:=cond_ff h;clear h;simp only [Bool.and_eq_true,Bool.not_eq_true'] at hcnd;obtain ⟨hps,het⟩:=hcnd;have hps:ps=#[]:=by simpa using hps
    subst hps;obtain ⟨hu,hbox,i,z,hi,hz,hs,hzs,hby⟩:=(TK t ty ht).et wd eel (fun e=>by rw [e] at het;cases het)
    split at h2
    ·rename_i hfree
     have hrun:(Instr.buildSlice t 0 #[]).run P w=.ok (.slice (some ⟨w.heap.size,0,none⟩) 0 0) (w.alloc (.cells #[] ty.et)):=by
      simp [Instr.buildSlice,run_underlying hu,sizeOf,typeInfo,hi,Instr.fill,newRow,show Array.range 0=#[] from rfl]
     have hx:Ext w (w.alloc (.cells #[] ty.et)):=(Below.refl _ _).alloc (Nat.le_refl _) _;have hnew:(w.alloc (.cells #[] ty.et)).heap[w.heap.size]?=some (.cells (([]:List Value)++[]).toArray ty.et (0,0)):=(MapKept.heap_alloc w (.cells #[] ty.et)).1;generalize w.alloc (.cells #[] ty.et)=w' at hrun hx hnew;have C1:=C.evo hx (S':=S) (fun _ h=>h) (fun _ h=>.inl h);have C2:=C1.own (g:=d) (b:=w.heap.size) (X:=.r ty.et wd []) hfree (fun h hb=>by obtain ⟨_,_,h2,_⟩:=C.bl h _ hb;have:=h2.lt;omega) (fun hS=>by have:=C.sl _ hS;omega) C.ex.size
      (fun β' _=>⟨[],[],hnew,trivial,hbox⟩)
     refine wp_val (v:=.slice (some ⟨w.heap.size,0,none⟩) 0 0) (w':=w') ?_ ?_
     ·unfold execOp;simp only [ho];rw [Sem.run_bind];simp only [List.map_toArray,List.map_nil,hrun];rfl
     ·rw [hdd]
      exact K _ _ _ _ _ h2 (C2.put (d:=some d) (fun _ e=>by cases e;exact hd d hdd) (x:=.c (.os d 0 wd)) ⟨w.heap.size,0,_,ty.et,upd_same _ _ _,rfl,hnew,by simp,Nat.zero_le _,Nat.le_refl _⟩)
    ·exact h2.elim
   ·exact h.elim
  ·exact h.elim
 ·rename_i t ps ho
  split at h
  ·rename_i ty ht
   split at h
   ·rename_i wd d eel hdd
    by_cases hm:ps.toList.length=3
    case neg =>
     obtain ⟨us,rs,_,_,_,f4,f5⟩:=rowsK_rep C.ev wd ps.toList 0 _ h [] (List.replicate (ps.toList.length*wd) undef) (by simp) (by simp)
     cases hb:Nat.beq rs.length 3 with
     | false=>simp [hb] at f5
     | true=>rw [Nat.beq_eq] at hb;exact absurd (f4 ▸ hb) hm
    obtain ⟨i0,z0,hi0⟩:∃ i z,P.info? ty.et=some i∧i.zero=some z∨ty.et=0:=by
     by_cases e0:ty.et=0
     ·exact ⟨default,default,.inr e0⟩
     ·obtain ⟨_,_,i,z,hi,hz,_⟩:=(TK t ty ht).et wd eel e0
      exact ⟨i,z,.inl ⟨hi,hz⟩⟩
    have hlen:(((Array.range (ps.toList.length*wd)).map (z0.cells[· % z0.cells.size]!)).toList).length=ps.toList.length*wd:=by simp
    obtain ⟨us,rs,f1,f2,f3,f4,f5⟩:=rowsK_rep C.ev wd ps.toList 0 _ h [] ((Array.range (ps.toList.length*wd)).map (z0.cells[· % z0.cells.size]!)).toList (by simp) hlen;clear h;obtain ⟨hcnd,h2⟩:=cond_ff f5;simp only [Bool.and_eq_true,Nat.beq_eq,Nat.ble_eq,Nat.blt_eq,Bool.not_eq_true'] at hcnd;obtain ⟨⟨⟨b0,b1⟩,b2⟩,het⟩:=hcnd;have het':ty.et≠0:=fun e=>by rw [e] at het;cases het
    obtain ⟨hu,hbox,i,z,hi,hz,hs,hzs,hby⟩:=(TK t ty ht).et wd eel het'
    rcases hi0 with ⟨q1,q2⟩ | q
    case inr=>exact absurd q het'
    rw [hi] at q1;cases q1;rw [hz] at q2;cases q2
    split at h2
    ·rename_i hfree
     have hrun:(execOp a.eval o).run P w=.ok (.value (.slice (some ⟨w.heap.size,0,none⟩) 3 3)) (w.alloc (.cells us.toArray ty.et)):=by
      unfold execOp;simp only [ho];rw [hm] at f1;rw [Sem.run_bind,run_buildSlice w t ty.et 3 _ us.toArray _ _ hu hi hz (by rw [hs];omega) (by rw [hs];omega) (by rw [hs];have f2:=f1;rw [List.nil_append,List.nil_append,Array.toArray_toList] at f2;rw [Array.toList_map];exact f2)]
      rfl
     have hx:Ext w (w.alloc (.cells us.toArray ty.et)):=(Below.refl _ _).alloc (Nat.le_refl _) _;have hnew:(w.alloc (.cells us.toArray ty.et)).heap[w.heap.size]?=some (.cells (us++[]).toArray ty.et (0,0)):=by
      rw [List.append_nil];exact (MapKept.heap_alloc w (.cells us.toArray ty.et)).1
     have hul:us.length=3*wd:=by
      have e1:=f2.len;have e2:rs.flatten.length=3*wd:=by
       rw [←b0];clear f2 f5 h2 b0 f4 e1
       induction rs with
       | nil=>simp
       | cons r l ih =>
        rw [List.flatten_cons,List.length_append,ih (fun x hx=>f3 x (by simp [hx])),f3 r (by simp),List.length_cons,Nat.add_mul];omega
      omega
     generalize w.alloc (.cells us.toArray ty.et)=w' at hrun hx hnew;have C1:=C.evo hx (S':=S) (fun _ h=>h) (fun _ h=>.inl h);have C2:=C1.own (g:=d) (b:=w.heap.size) (X:=.r ty.et wd rs.flatten) hfree (fun h hb=>by obtain ⟨_,_,h2,_⟩:=C.bl h _ hb;have:=h2.lt;omega) (fun hS=>by have:=C.sl _ hS;omega) C.ex.size
      (fun β' _=>⟨us,[],hnew,(All2.mono (fun _ _ r=>Rep0.toC (Rep0.evo (Evo.of_ext hx C.sl) (fun _ h=>h) _ _ r)) f2),hbox⟩)
     refine wp_val hrun ?_;rw [hdd]
     exact K _ _ _ _ _ h2 (C2.put (d:=some d) (fun _ e=>by cases e;exact hd d hdd) (x:=.c (.os d 3 wd)) ⟨w.heap.size,3,_,ty.et,upd_same _ _ _,rfl,hnew,by simp [hul],by decide,Nat.le_refl _⟩)
    ·exact h2.elim
   ·exact h.elim
  ·exact h.elim
 ·rename_i t x i ho
  split at h
  ·rename_i ty ht
   split at h
   ·rename_i l cs k m ea ex ei
    obtain ⟨hcnd,h2⟩:=cond_ff h;clear h;simp only [Bool.and_eq_true,decide_eq_true_eq] at hcnd;obtain ⟨h0,h1⟩:=hcnd;have hr:=C.ev x;rw [ex] at hr;obtain ⟨vs,exv,hvs⟩:=hr;have ei':=evC C ei;obtain ⟨e,ie,hu,hi,hs,_,d,hd',hr'⟩:=(TK t ty ht).arr l ea
    split at h2
    ·rename_i c rest edr
     have hc:cs[m.toNat]?=some c:=by
      have:=congrArg (·[0]?) edr
      simpa [List.getElem?_drop] using this
     obtain ⟨v,hv,rv⟩:=hvs.get m.toNat c hc;refine val (v:=v) (x:=.c c) ?_ rv h2;have hlt:m<(l:Int):=by omega
     unfold execOp;simp only [ho,exv,ei']
     have:(Instr.index t (.agg vs.toArray) (.int k m)).run P w=.ok v w:=by
      simp [Instr.index,run_underlying hu,asIntOf,h0,hlt,sizeOf,typeInfo,hi,hs,part,run_isAgg hd' w,hr',hv]
     rw [Sem.run_bind,this];rfl
    ·exact h2.elim
   ·exact h.elim
  ·exact h.elim
 ·rename_i t l c ho
  split at h
  ·rename_i ty ht
   split at h
   ·rename_i wd te kl m kc m' d eel ete el ec hdd
    obtain ⟨hcnd,h2⟩:=cond_ff h;clear h;simp only [Bool.and_eq_true,decide_eq_true_eq,Nat.blt_eq,Nat.ble_eq,Bool.not_eq_true'] at hcnd;obtain ⟨⟨⟨⟨hmm,h0⟩,h1⟩,het⟩,hwd⟩:=hcnd;subst hmm;obtain ⟨hu,hbox,i,z,hi,hz,hs,hzs,hby⟩:=(TK t ty ht).et wd eel (fun e=>by rw [e] at het;cases het);obtain ⟨i',z',hi',hs',hz',rz⟩:=(TK _ te ete).info;rw [hi] at hi';cases hi';rw [hz] at hz';cases hz';have e1:=evC C el;have e2:=evC C ec
    split at h2
    ·rename_i hfree
     obtain ⟨k,rfl⟩:=Int.eq_ofNat_of_zero_le h0;have h1':k≤1000000:=by omega
     have hby':(i.bytes:Int)*((k:Nat):Int)≤281474976710656:=by
      have:=Nat.mul_le_mul hby h1'
      have e:((i.bytes*k:Nat):Int)≤281474976710656:=by omega
      rwa [Int.natCast_mul] at e
     have hrun:=run_make (P:=P) w t ty.et i z hu hi hz kl kc (k:Nat) (k:Nat) h0 (Int.le_refl _) hby' (by omega);simp only [Int.toNat_natCast] at hrun;have hx:Ext w (w.alloc (.cells (madeCells z.cells (k*i.size)) ty.et)):=(Below.refl _ _).alloc (Nat.le_refl _) _;have hnew:=(MapKept.heap_alloc w (.cells (madeCells z.cells (k*i.size)) ty.et)).1;have hml:(madeCells z.cells (k*i.size)).toList=(List.replicate k z.cells.toList).flatten:=by rw [hs,←hzs];exact made_list _ (by omega) k
     have hms:=size_madeCells z.cells (k*i.size);generalize madeCells z.cells (k*i.size)=M at hrun hx hnew hml hms;have hnew:(w.alloc (.cells M ty.et)).heap[w.heap.size]?=some (.cells (M.toList++[]).toArray ty.et (0,0)):=by
      rw [List.append_nil,Array.toArray_toList];exact hnew
     generalize w.alloc (.cells M ty.et)=w' at hrun hx hnew;have C1:=C.evo hx (S':=S) (fun _ h=>h) (fun _ h=>.inl h);have C2:=C1.own (g:=d) (b:=w.heap.size) (X:=.r ty.et wd (repZ te.zero k)) hfree (fun h hb=>by obtain ⟨_,_,h2,_⟩:=C.bl h _ hb;have:=h2.lt;omega) (fun hS=>by have:=C.sl _ hS;omega) C.ex.size
      (fun β' _=>⟨M.toList,[],hnew,by rw [hml];exact rep_made ((rz S w').evo (Evo.refl _ _ _) (fun _ h=>h) (fun _ _ h=>by cases h)) k,hbox⟩)
     refine wp_val (v:=.slice (some ⟨w.heap.size,0,none⟩) k k) (w':=w') ?_ ?_
     ·unfold execOp;simp only [ho,e1,e2];rw [Sem.run_bind,hrun];rfl
     ·rw [hdd];refine K _ _ _ _ _ h2 (C2.put (d:=some d) (fun _ e=>by cases e;exact hd d hdd) (x:=.c (.os d k wd)) ⟨w.heap.size,k,_,ty.et,upd_same _ _ _,rfl,hnew,?_,(by simp only [maxLen];omega),Nat.le_refl _⟩)
      simp [hms,hs]
    ·exact h2.elim
   ·exact h.elim
  ·exact h.elim
 ·rename_i t x hi ho
  split at h
  ·rename_i ty ht
   split at h
   ·rename_i wd wd' rows k m eel ex eh
    obtain ⟨hcnd,h2⟩:=cond_ff h;clear h;simp only [Bool.and_eq_true,decide_eq_true_eq,Nat.beq_eq] at hcnd;obtain ⟨⟨hwd,h0⟩,h1⟩:=hcnd;subst hwd;have hr:=C.ev x;rw [ex] at hr;have hr:Rep0 O S w (.sl wd rows) (a.eval x):=hr;simp only [Rep0] at hr;obtain ⟨ad,b,off,cap,exv,had,rr⟩:=hr;have eh':=evC C eh;obtain ⟨e,i,z,hu,hi',hs,hz⟩:=(TK t ty ht).elem wd eel;have hcap:m≤(cap:Int):=by
     rcases Nat.eq_zero_or_pos rows.length with hl | hl
     ·omega
     ·have:=(had hl).2.2;omega
    have hel:P.elem t=e:=by simp [Program.elem,hu]
    have hu':P.underlying t=some (.slice (P.elem t)):=by rw [hel];exact hu
    have hsz:(sizeOf (P.elem t)).run P w=.ok wd w:=by rw [hel];simp [sizeOf,typeInfo,hi',hs]
    refine val (v:=sliced ad 0 m.toNat cap wd) (x:=.c (.sl wd (rows.take m.toNat))) ?_ ?_ h2
    ·unfold execOp;simp only [ho,exv,eh',Option.map];rw [Sem.run_bind,run_sliceAt_slice w t _ _ _ _ hu',run_slice_h w t ad rows.length cap hu' k m h0 hcap,hsz];rfl
    ·show Rep0 O S w (.sl wd (rows.take m.toNat)) _
     simp only [Rep0];have hlt:(rows.take m.toNat).length=m.toNat:=by rw [List.length_take];omega
     refine ⟨(if cap=0 then ad else ad.map (·.add (0*wd))),b,off,cap,by rw [hlt];rfl,fun hl => ?_,RepRows.take rr _⟩;rw [hlt] at hl ⊢;obtain ⟨q1,q2,q3⟩:=had (by omega);refine ⟨?_,q2,by omega⟩;rw [if_neg (by omega),q1]
     simp [Addr.add_mid]
   ·exact h.elim
  ·exact h.elim
 ·rename_i k fs cs ho
  obtain ⟨hf,h⟩:=cond_ff h;have hf:fs=#[]:=by simpa using hf
  subst hf;obtain ⟨l,h,r⟩:=capsK_rep C.ev cs.toList _ h;have hrun:(execOp a.eval o).run P w=.ok (.value (.func (.func k) #[] (cs.toList.map a.eval).toArray)) w:=by
   have hm:(cs.toList.map a.eval).toArray=cs.map a.eval:=by rw [←Array.toList_map]
   rw [hm];unfold execOp;simp [ho,Instr.makeFunc]
  cases l with
  | nil=>exact h.elim
  | cons c l =>
   generalize cs.toList.map a.eval=us at r hrun
   cases us with
   | nil=>exact r.elim
   | cons u us =>
    have plain:noPs (c :: l)=true→Kp (V.put o.dst (.c (.cl k (c :: l))))→o.wp P a w next Q:=fun hn h=>by
     refine val hrun (x:=.c (.cl k (c :: l))) ?_ h
     show Rep0 O S w (.cl k (c :: l)) _
     simp only [Rep0]
     exact ⟨u :: us,rfl,RepL.iff.2 (RepCs.to0 (vs:=u :: us) (cs:=c :: l) r hn)⟩
    simp only [mkK] at h
    split at h
    ·rename_i g
     obtain ⟨hn,h⟩:=cond_ff h;simp only [Bool.and_eq_true,Bool.not_eq_true'] at hn;obtain ⟨hn,hky⟩:=hn;obtain ⟨⟨b,hb,e⟩,r⟩:=r;subst e
     exact val hrun (x:=.c (.clp k g l)) ⟨b,us,hb,(clV_ne hky _ _).symm,RepL.iff.2 (RepCs.to0 r hn)⟩ h
    ·obtain ⟨hn,h⟩:=cond_ff h
     exact plain hn h
 ·rename_i c ho
  split at h
  ·rename_i k hc
   split at h
   ·rename_i d hdd
    split at h
    ·rename_i hfree
     have hbv:∀ h b,β h=some b→∃ X,V.bv h=some X∧BxRep O β S w b X∧(false=true∨X.cells.isSome=true→S b∨∃ h X,β h=some b∧V.bv h=some X∧X.cells.isSome=true):=fun h b hb=>by
      obtain ⟨X,h1,h2,_⟩:=C.bl h b hb
      exact ⟨X,h1,h2,fun hq=>by
       rcases hq with hq | hq
       ·cases hq
       ·exact .inr ⟨h,X,hb,h1,hq⟩⟩
     obtain ⟨l,⟨n',wd,U,cs,hcal,hk⟩,ra⟩:=argsK_rep (fun _ h=>.inl h) hbv C.ev c.args.toList _ h;obtain ⟨fn,hfn,hname,hbd⟩:=hcal.body;have hrun:(execOp a.eval o).run P w=.ok (.enter k (c.args.toList.map a.eval).toArray) w:=by
      have hn':¬ fn.name = "runtime.NumGoroutine" := by simpa using hname
      have hb':¬ fn.body=none:=fun e=>by rw [e] at hbd;cases hbd
      have hm:(c.args.toList.map a.eval).toArray=c.args.map a.eval:=by rw [←Array.toList_map]
      rw [hm];unfold execOp
      simp [ho,resolve,hc,Act.eval,Deferred.ofValue,invoke,callFunc,hfn,hn',hb']
     have hcl:=hcal.run _ w (c.args.toList.map a.eval) (fun b hb=>by
      rcases hb with h | ⟨h,X,hb,_⟩
      ·exact C.sl b h
      ·obtain ⟨X,_,h2,_⟩:=C.bl h b hb;exact h2.lt) C.inv ra
     unfold Oper.wp;rw [hrun]
     show Calls P k _ w _
     refine hcl.mono ?_;rintro e w' ⟨b,cap,us,ts,rfl,hx,hb0,hnew,rc,hsz,hmx,hnc⟩;have C1:=C.evo hx (S':=S) (fun _ h=>h) (fun _ h=>.inl h);have C2:=C1.own (g:=d) (b:=b) (X:=.r U wd cs) hfree (fun h hb=>by obtain ⟨_,_,h2,_⟩:=C.bl h _ hb;have:=h2.lt;omega) (fun hS=>by have:=C.sl _ hS;omega) (Nat.le_trans C.ex.size hb0)
      (fun β' _=>⟨us,ts,hnew,R0s.toC (All2.mono (fun _ _ r=>Rep0.evo (Evo.refl _ _ _) (fun _ h=>h.elim) _ _ r) rc),hcal.box⟩)
     rw [hdd]
     exact K _ _ _ _ _ hk (C2.put (d:=some d) (fun _ e=>by cases e;exact hd d hdd) (x:=.c (.os d n' wd)) ⟨b,cap,_,U,upd_same _ _ _,rfl,hnew,by simpa using hsz,hmx,hnc⟩)
    ·exact h.elim
   ·exact h.elim
  ·rename_i f hf0 hc
   split at h
   ·rename_i y ey
    have hf:=C.ev f;rw [ey] at hf;have hf:RepC O β S w (a.eval f) y:=hf;have hbv:∀ h b,β h=some b→∃ X,V.bv h=some X∧BxRep O β S w b X∧(false=true∨X.cells.isSome=true→S b∨∃ h X,β h=some b∧V.bv h=some X∧X.cells.isSome=true):=fun h b hb=>by
     obtain ⟨X,h1,h2,_⟩:=C.bl h b hb
     exact ⟨X,h1,h2,fun hq=>by
      rcases hq with hq | hq
      ·cases hq
      ·exact .inr ⟨h,X,hb,h1,hq⟩⟩
    have key:∀ {d:AC},Rep0 O (fun b=>S b∨∃ h X,β h=some b∧V.bv h=some X∧X.cells.isSome=true) w d (a.eval f)→evCl P O V o.dst c.args.toList Kp d→o.wp P a w next Q:=by
     intro d rd h
     have fin:∀ {k:FuncId} {caps:List Value} {cs:List AC} {l:List AV} {r:AV},a.eval f=.func (.func k) #[] caps.toArray→R0s O (fun b=>S b∨∃ h X,β h=some b∧V.bv h=some X∧X.cells.isSome=true) w caps cs →
       All2 (RepW O (fun _=>none) (fun b=>S b∨∃ h X,β h=some b∧V.bv h=some X∧X.cells.isSome=true) w) (c.args.toList.map a.eval) l→Cal P O k (l++cs.map .c) r→FlatR r→Kp (V.put o.dst r)→o.wp P a w next Q:=by
      intro k caps cs l r ef rc ra hcal hfl hk
      obtain ⟨fn,hfn,hname,hbd⟩:=hcal.body;have hrun:(execOp a.eval o).run P w=.ok (.enter k (c.args.toList.map a.eval++caps).toArray) w:=by
       have hn':¬ fn.name = "runtime.NumGoroutine" := by simpa using hname
       have hb':¬ fn.body=none:=fun e=>by rw [e] at hbd;cases hbd
       have hm:(c.args.toList.map a.eval++caps).toArray=c.args.map a.eval++caps.toArray:=by rw [←Array.toList_map];simp
       rw [hm];unfold execOp
       simp [ho,resolve,hc,ef,Deferred.ofValue,invoke,callFunc,hfn,hn',hb']
      have rcs:All2 (RepW O (fun _=>none) (fun b=>S b∨∃ h X,β h=some b∧V.bv h=some X∧X.cells.isSome=true) w) caps (cs.map .c):=by
       clear hcal hrun ef
       induction caps generalizing cs with
       | nil=>cases cs with
        | nil=>trivial
        | cons _ _=>exact rc.elim
       | cons v caps ih=>cases cs with
        | nil=>exact rc.elim
        | cons d cs=>exact ⟨Rep0.toC rc.1,ih rc.2⟩
      have hcl:=hcal.run _ w (c.args.toList.map a.eval++caps) (fun b hb=>by
       rcases hb with h | ⟨h,X,hb,_⟩
       ·exact C.sl b h
       ·obtain ⟨X,_,h2,_⟩:=C.bl h b hb;exact h2.lt) C.inv (All2.app ra rcs)
      unfold Oper.wp;rw [hrun]
      show Calls P k _ w _
      refine hcl.mono ?_;rintro e w' ⟨v,rfl,hx,rv⟩;have C1:=C.evo hx (S':=fun b=>S b∨(w.heap.size≤b∧b<w'.heap.size)) (fun _ h=>.inl h) (fun _ h=>h);refine K _ _ _ _ _ hk (C1.put hd ((rv.flat hfl (fun b hb hm => ?_)).evo (Evo.refl _ _ _) (fun _ h=>h) (fun _ _ h=>by cases h)))
      rcases hb with (h | ⟨h,X,hb,hX,hq⟩) | h
      ·exact .inl h
      ·exfalso
       obtain ⟨Y,g1,g2,_⟩:=C.bl h b hb;rw [hX] at g1;cases g1;obtain ⟨⟨U,cs⟩,hc'⟩:=Option.isSome_iff_exists.1 hq;obtain ⟨vs,ts,g3,_⟩:=g2.toCells hc';obtain ⟨E,ck,hm⟩:=hm;rw [hx.heap g3] at hm;cases hm
      ·exact .inr h
     unfold evCl at h
     split at h
     ·rename_i k cs
      obtain ⟨l,⟨r,hcal,hfl,hk⟩,ra⟩:=argsK_rep (fun _ h=>.inl h) hbv C.ev c.args.toList _ h;simp only [Rep0] at rd;obtain ⟨caps,ef,rc⟩:=rd
      exact fin ef (RepL.iff.1 rc) ra hcal hfl hk
     ·rename_i k
      obtain ⟨l,⟨r,hcal,hfl,hk⟩,ra⟩:=argsK_rep (fun _ h=>.inl h) hbv C.ev c.args.toList _ h;simp only [Rep0] at rd
      exact fin (caps:=[]) (cs:=[]) rd.1 trivial ra (by simpa using hcal) hfl hk
     ·exact h.elim
    cases hp:isP y with
    | true =>
     rw [hp] at h;simp only [cond_true] at h;obtain ⟨d,h1,h2⟩:=frzK_rep (fl:=false) (fun _ h=>.inl h) hbv 4 y _ _ hf h
     exact key h2 h1
    | false =>
     rw [hp] at h;simp only [cond_false] at h
     exact key (Rep0.evo (Evo.refl _ _ _) (fun _ h=>.inl h) _ _ (RepC.to0 hf hp)) h
   ·exact h.elim
  ·rename_i hc
   split at h
   ·rename_i s x t t' d ea et hdd
    obtain ⟨htt,h2⟩:=cond_ff h;clear h;have htt:=Nat.eq_of_beq_eq_true htt;subst htt;have h:=h2;clear h2;have ea':c.args=#[s,x]:=by rw [←Array.toArray_toList (xs:=c.args),ea]
    have et':c.argTypes=#[t,t]:=by rw [←Array.toArray_toList (xs:=c.argTypes),et]
    split at h
    ·rename_i ty ht
     split at h
     ·rename_i wd wd' rows eel ex
      obtain ⟨hcnd,h2⟩:=cond_ff h;clear h;simp only [Bool.and_eq_true,Nat.beq_eq,Nat.blt_eq,Nat.ble_eq,Bool.not_eq_true'] at hcnd;obtain ⟨⟨⟨⟨hwd,hwd0⟩,hr0⟩,hr1⟩,het⟩:=hcnd;subst hwd;have h:=h2;clear h2;obtain ⟨hu,hbox,i,z,hi,hz,hs,hzs,hby⟩:=(TK t ty ht).et wd eel (fun e=>by rw [e] at het;cases het);have hrx:=C.ev x;rw [ex] at hrx;have hrx:Rep0 O S w (.sl wd rows) (a.eval x):=hrx;simp only [Rep0] at hrx;obtain ⟨ad,b0,off,cap0,exv,had,rr⟩:=hrx;obtain ⟨had,_⟩:=had hr0;subst had;obtain ⟨vs,v1,v2,v3⟩:=rows_cells rr;have hnews:∀ (j:Nat) u,vs[j]?=some u→w.cell? ((⟨b0,off,none⟩:Addr).add j)=some u:=fun j u hj=>by rw [Addr.add_mid];exact v1 j u hj
      have hone:∀ u∈vs,u.oneCell'=true:=RepCs.all (β:=fun _=>none) (R0s.toC v2);have hl:vs.length=rows.length*i.size:=by rw [hs];exact v3
      have hd':=hd d hdd;have exec:∀ {v:Value} {w':World},(Builtin.append_ #[t,t] o.type #[a.eval s,.slice (some ⟨b0,off,none⟩) rows.length cap0]).run P w=.ok v w'→(execOp a.eval o).run P w=.ok (.value v) w':=by
       intro v w' hr
       unfold execOp
       simp [ho,resolve,hc,invoke,builtin,ea',et',exv,hr]
      have bytes:∀ k:Nat,k≤2000000→k*i.bytes≤140737488355328:=fun k hk=>by
       have:=Nat.mul_le_mul hk hby
       omega
      split at h
      ·rename_i es
       have esv:=evC C es
       split at h
       ·rename_i hfree
        have hrun:=run_append_nil (P:=P) w t o.type ty.et i z hu hi hz ⟨b0,off,none⟩ rows.length cap0 vs hl hnews hr0 (by omega) (by have:=bytes rows.length (by omega);omega);have hge:=grownCap_ge w rows.length 0 ty.et;have hmx:=grownCap_le_maxLen w rows.length 0 ty.et (by simp only [maxLen];omega);generalize grownCap w rows.length 0 ty.et=gc at hrun hge hmx;have hx:Ext w (w.drew.alloc (.cells (vs.toArray++Builtin.zeroCells z.cells (gc-rows.length)) ty.et)):=(Below.refl _ _).drew.alloc (Nat.le_refl _) _;have hnew:(w.drew.alloc (.cells (vs.toArray++Builtin.zeroCells z.cells (gc-rows.length)) ty.et)).heap[w.heap.size]?=some (.cells (vs++(Builtin.zeroCells z.cells (gc-rows.length)).toList).toArray ty.et (0,0)):=by
         have:=(MapKept.heap_alloc w.drew (.cells (vs.toArray++Builtin.zeroCells z.cells (gc-rows.length)) ty.et)).1
         have e:(vs++(Builtin.zeroCells z.cells (gc-rows.length)).toList).toArray=vs.toArray++Builtin.zeroCells z.cells (gc-rows.length):=by simp
         rw [e];exact this
        generalize w.drew.alloc (.cells (vs.toArray++Builtin.zeroCells z.cells (gc-rows.length)) ty.et)=w' at hrun hx hnew;have C1:=C.evo hx (S':=S) (fun _ h=>h) (fun _ h=>.inl h);have C2:=C1.own (g:=d) (b:=w.heap.size) (X:=.r ty.et wd rows.flatten) hfree (fun h hb=>by obtain ⟨_,_,h2,_⟩:=C.bl h _ hb;have:=h2.lt;omega) (fun hS=>by have:=C.sl _ hS;omega) C.ex.size
         (fun β' _=>⟨vs,_,hnew,R0s.toC (All2.mono (fun _ _ r=>Rep0.evo (Evo.of_ext hx C.sl) (fun _ h=>h) _ _ r) v2),hbox⟩)
        refine wp_val (exec (by rw [esv];exact hrun)) ?_;rw [hdd];refine K _ _ _ _ _ h (C2.put (d:=some d) (fun _ e=>by cases e;exact hd') (x:=.c (.os d rows.length wd)) ⟨w.heap.size,gc,_,ty.et,upd_same _ _ _,rfl,hnew,?_,hmx,hge⟩)
        simp [size_zeroCells,v3,hzs]
        rw [←Nat.add_mul];congr 1;omega
       ·exact h.elim
      ·rename_i g k wd1 es
       split at h
       ·rename_i T' wd2 cs eb
        obtain ⟨hcnd,h2⟩:=cond_ff h;clear h;simp only [Bool.and_eq_true,Nat.beq_eq,Nat.ble_eq,Bool.not_eq_true'] at hcnd;obtain ⟨⟨⟨⟨⟨q1,q2⟩,q3⟩,q4⟩,q5⟩,q6⟩:=hcnd;have q2:=q2.symm;have q3:=q3.symm;subst q1;subst q2;subst q3;rw [allK_iff] at h2;have h:=h2;clear h2;have hg1000:g≠1000:=fun e=>by subst e;cases q6
        have hrs:=C.ev s;rw [es] at hrs;obtain ⟨b,cap,c0,U,hb,esv,hc0,hcap,hmx,_⟩:=hrs;obtain ⟨Y,p1,p2,p3,p4⟩:=C.bl g b hb;rw [eb] at p1;cases p1;obtain ⟨us,ts,g1,g2,g3⟩:=p2;rw [hc0] at g1;cases g1;have lu:=g2.len;have hsz:us.length+ts.length=cap*wd:=by simpa using hcap
        have hnewb:w0.w.heap.size≤b:=by
         rcases p3 with h | h
         ·exact h
         ·obtain ⟨E,ck,he⟩:=C.ex.isMap h;rw [hc0] at he;cases he
        have C1:Corr O n w0 (fun h=>cond (memB h [g]) none (β h)) S (V.clean [g]) a w:=C.mapA (fun _ h=>h) (fun _ h=>.inl h) (fun _ _ h'=>by simp at h';exact hg1000 h'.symm) (fun _ _ r=>r.drop fun _ h=>h);have hnone:(V.clean [g]).bv g=none:=by
         show cond (memB g [g]) none _=none
         simp [memB]
        have hno:∀ h,(fun h=>cond (memB h [g]) none (β h)) h≠some b:=fun h hb'=>by
         have hb':cond (memB h [g]) none (β h)=some b:=hb'
         cases hm:memB h [g] with
         | true=>rw [hm] at hb';cases hb'
         | false =>
          rw [hm] at hb'
          have:=C.inj _ _ _ hb' hb
          subst this
          simp [memB] at hm
        have r1:RepCs O (fun h=>cond (memB h [g]) none (β h)) S w us (cs.map (dropC [g])):=by
         have dr:∀ {us:List Value} {cs:List AC},RepCs O β S w us cs→RepCs O (fun h=>cond (memB h [g]) none (β h)) S w us (cs.map (dropC [g])):=by
          intro us
          induction us with
          | nil=>intro cs r;cases cs with
           | nil=>trivial
           | cons _ _=>exact r.elim
          | cons u us ih=>intro cs r;cases cs with
           | nil=>exact r.elim
           | cons c cs=>exact ⟨r.1.drop fun _ h=>h,ih r.2⟩
         exact dr g2
        have body:∀ {b' cap':Nat} {ts':List Value} {w':World},(execOp a.eval o).run P w=.ok (.value (.slice (some ⟨b',0,none⟩) (k+rows.length) cap')) w'→Corr O n w0 (fun h=>cond (memB h [g]) none (β h)) S (V.clean [g]) a w'→Evo O S w w' →
          (∀ h,(fun h=>cond (memB h [g]) none (β h)) h≠some b')→¬ S b'→w0.w.heap.size≤b'→w'.heap[b']?=some (.cells (us++vs++ts').toArray ty.et (0,0))→(us++vs++ts').length=cap'*wd→cap'≤maxLen→k+rows.length≤cap'→o.wp P a w next Q:=by
         intro b' cap' ts' w' hrun C2 ev hno' hS' hb' hh' hl' hm' hkc
         have C3:=C2.own (g:=g) (b:=b') (X:=.r ty.et wd (cs.map (dropC [g])++rows.flatten)) hnone hno' hS' hb' (fun β' hβ=>⟨us++vs,ts',hh',All2.app (r1.evo ev (fun _ h=>h) hβ) (R0s.toC (All2.mono (fun _ _ r=>Rep0.evo ev (fun _ h=>h) _ _ r) v2)),hbox⟩);refine wp_val hrun ?_;rw [hdd]
         exact K _ _ _ _ _ h (C3.put (d:=some d) (fun _ e=>by cases e;exact hd') (x:=.c (.os g (k+rows.length) wd)) ⟨b',cap',_,ty.et,upd_same _ _ _,rfl,hh',by simpa using hl',hm',hkc⟩)
        have hm0:rows.length*wd=vs.length:=v3.symm
        by_cases hroom:k+rows.length≤cap
        ·have hfit:k*i.size+vs.length≤(us++ts).toArray.size:=by
          have:=Nat.mul_le_mul_right wd hroom
          rw [Nat.add_mul] at this
          simp
          rw [hs];omega
         have hrun:=run_append_room (P:=P) w t o.type ty.et i hu hi b k cap _ hc0 ⟨b0,off,none⟩ rows.length cap0 vs hl hnews hone hroom hfit;have he:(us++ts).take (k*i.size)++vs++(us++ts).drop (k*i.size+vs.length)=us++vs++ts.drop vs.length:=by
          rw [hs,←q4,←lu,List.take_left,←List.drop_drop,List.drop_left]
         simp only [he] at hrun;have hh:=setRow_heap w b _ (us++vs++ts.drop vs.length).toArray ty.et (0,0) hc0;have hcs:∃ c':Array Value,(w.setRow b (us++vs++ts.drop vs.length).toArray).heap[b]?=some (.cells c' ty.et (0,0))∧c'.size=(us++ts).toArray.size:=⟨_,hh,by
          have:=hfit
          rw [hs] at this
          simp at this ⊢;omega⟩
         have hk':∀ j,j≠b→(w.setRow b (us++vs++ts.drop vs.length).toArray).heap[j]?=w.heap[j]?:=fun j hj=>setRow_other w b j _ hj;refine body (exec (by rw [esv];exact hrun)) (C1.frame hno p4 hnewb hc0 hbox hk' (by simp [World.setRow]) rfl rfl rfl hcs) (frame_ev p4 hc0 hbox hk' hcs) hno p4 hnewb hh ?_ hmx hroom;obtain ⟨c',hc1,hc2⟩:=hcs;rw [hh] at hc1;cases hc1
         have:(us++vs++ts.drop vs.length).length=(us++ts).length:=by simpa using hc2
         rw [this];simpa using hsz
        ·have holds:∀ (j:Nat) v,us[j]?=some v→w.cell? ((⟨b,0,none⟩:Addr).add j)=some v:=fun j v hj=>by
          have hl':=(List.getElem?_eq_some_iff.1 hj).1;rw [Addr.add_mid];simp only [World.cell?,hc0,Nat.zero_add]
          simp [List.getElem?_append_left hl',hj]
         have hrun:=run_append_grow (P:=P) w t o.type ty.et i z hu hi hz ⟨b,0,none⟩ k cap us (by rw [hs];omega) holds ⟨b0,off,none⟩ rows.length cap0 vs hl hnews (by omega) (by omega) (growslice_fits (by omega) (bytes _ (by omega)));have hge:=grownCap_ge w (k+rows.length) cap ty.et;have hmx':=grownCap_le_maxLen w (k+rows.length) cap ty.et (by simp only [maxLen];omega);generalize grownCap w (k+rows.length) cap ty.et=gc at hrun hge hmx';have hx:Ext w (w.drew.alloc (.cells (us.toArray++vs.toArray++Builtin.zeroCells z.cells (gc-(k+rows.length))) ty.et)):=(Below.refl _ _).drew.alloc (Nat.le_refl _) _;have hnew:(w.drew.alloc (.cells (us.toArray++vs.toArray++Builtin.zeroCells z.cells (gc-(k+rows.length))) ty.et)).heap[w.heap.size]?=some (.cells (us++vs++(Builtin.zeroCells z.cells (gc-(k+rows.length))).toList).toArray ty.et (0,0)):=by
          have:=(MapKept.heap_alloc w.drew (.cells (us.toArray++vs.toArray++Builtin.zeroCells z.cells (gc-(k+rows.length))) ty.et)).1
          have e:(us++vs++(Builtin.zeroCells z.cells (gc-(k+rows.length))).toList).toArray=us.toArray++vs.toArray++Builtin.zeroCells z.cells (gc-(k+rows.length)):=by simp
          rw [e];exact this
         generalize w.drew.alloc (.cells (us.toArray++vs.toArray++Builtin.zeroCells z.cells (gc-(k+rows.length))) ty.et)=w' at hrun hx hnew;have C2:=C1.evo hx (S':=S) (fun _ h=>h) (fun _ h=>.inl h);refine body (exec (by rw [esv];exact hrun)) C2 (Evo.of_ext hx C.sl) (fun h hb' => ?_) (fun hS=>by have:=C.sl _ hS;omega) C.ex.size hnew ?_ hmx' hge
         ·obtain ⟨_,_,h2,_⟩:=C1.bl h _ hb';have:=h2.lt;omega
         ·simp [size_zeroCells,hzs]
          rw [lu,q4,v3,←Nat.add_mul,←Nat.add_mul];congr 1;omega
       ·exact h.elim
      ·exact h.elim
     ·exact h.elim
    ·exact h.elim
   ·exact h.elim
  ·exact h.elim
 ·exact h.elim
end
end Go.Proofs.YtoaoebimjmjpeaaGreatDoor
