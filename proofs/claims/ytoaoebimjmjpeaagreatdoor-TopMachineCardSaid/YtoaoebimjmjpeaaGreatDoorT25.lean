/- The walk by reckoning, over this program's numbers. -/
import Derived.Laws.StructEq
import Derived.Test.YtoaoebimjmjpeaaGreatDoorT22
import Derived.Test.YtoaoebimjmjpeaaGreatDoorT24
import Derived.Test.YtoaoebimjmjpeaaGreatDoorT14
import Derived.Test.YtoaoebimjmjpeaaGreatDoorT16
namespace Go.Proofs.YtoaoebimjmjpeaaGreatDoor
open Go.RowKit Vn
open Go.ChangeMaps (setBlock)
set_option maxRecDepth 100000
set_option maxHeartbeats 8000000
theorem cell_setM {w:World} {b:Nat} {o:Obj} (g:w.heap[b]?=some o) (ho:isMapO o=true) (o':Obj) {a:Addr} {v:Value} (h:w.cell? a=some v) (_ha:a.spot=none):(setBlock w b o').cell? a=some v:=by
 have hne:a.block≠b:=by
  intro e
  have h1:w.heap[a.block]?=some o:=by rw [e];exact g
  cases o<;>first | (simp [isMapO] at ho;done) | (simp [World.cell?,h1] at h;done)
 simp only [World.cell?,heap_setBlock_ne o' hne] at h ⊢
 exact h
theorem var_setM {P:Program} {w:World} {b:Nat} {o:Obj} (g:w.heap[b]?=some o) (ho:isMapO o=true) (o':Obj) {n:String} {cs:Array Value} (h:w.var? P n=some cs):(setBlock w b o').var? P n=some cs:=by
 unfold World.var? at h ⊢
 cases hn:P.globalNamed n with
 | none=>rw [hn] at h;exact h
 | some i =>
  rw [hn] at h;simp only [Option.bind_some] at h ⊢
  by_cases e:i=b
  ·subst e;rw [g] at h
   cases o<;>first | (simp [isMapO] at ho;done) | (simp at h;done)
  ·rw [heap_setBlock_ne o' e];exact h
theorem Tabs.setM {w:World} (h:Tabs w) {b:Nat} {o:Obj} (g:w.heap[b]?=some o) (ho:isMapO o=true) (o':Obj):Tabs (setBlock w b o') :=
 ⟨fun j hj=>cell_setM g ho o' (h.tz j hj) rfl,fun j hj=>cell_setM g ho o' (h.mir j hj) rfl,var_setM g ho o' h.p10⟩
def topAfter:List (List Nat):=[[32],[32,109,111,100,101,32,102,111,114,109,97,116,32],[109,111,100,101],[32,102,111,114,109,97,116,32],[102,111,114,109,97,116],[32,102,111,114,109,97,116,32,105,110,112,117,116,32,108,101,116,32,115,116,97,116,101,32,114,101,115,117,108,116,32],[105,110,112,117,116],[32,105,110,112,117,116,32,108,101,116,32,115,116,97,116,101,32,114,101,115,117,108,116,32],[108,101,116],[32,108,101,116,32,115,116,97,116,101,32,108,111,111,112,32,114,101,115,117,108,116,32],[108,111,111,112],[32,108,101,116,32,110,101,120,116,32,101,110,100,32],[114,101,115,116],[32,108,101,116,32,114,101,115,117,108,116,32],[114,101,115,117,108,116],[32]]
def topShapes:List Int:=[0,0,0,1,0,1,0,0,1,1,1,1,1,1,1,1,2,2,2,2,2,2,2,2,2,2,2,2,3,3,4,4]
abbrev topS (l:List Nat):ByteArray:=⟨(l.map UInt8.ofNat).toArray⟩
structure OInv (w:World):Prop where
 wm:WM w
 tabs:Tabs w
 siz:∀ j,j<4→w.cell? ⟨1,j,none⟩=some (.int .i64 (([64,256,1024,4000]:List Int).getD j 0))
 af:∀ j,j<16→w.cell? ⟨3,j,none⟩=some (.string (topS (topAfter.getD j [])))
 sh:∀ j,j<32→w.cell? ⟨0,j,none⟩=some (.int .i64 (topShapes.getD j 0))
def ON:Nat→Nat→World→Value→Prop
 | 0,n,w,x=>NatV w x n
 | 1,n,w,x=>(n=1∧x=.slice none 0 0)∨(n≠1∧(∃ a l c,x=.slice (some a) l c)∧NatV w x n)
 | 2,n,w,x=>RefV w x n
 | _,_,_,_=>False
theorem NatV.one {w:World} {x:Value} {n:Nat} (h:NatV w x n):x.oneCell'=true:=by
 obtain ⟨l,_,_,a,b,off,cap,e,_⟩:=h;rw [e];rfl
theorem RefV.one {w:World} {x:Value} {n:Nat} (h:RefV w x n):x.oneCell'=true:=by
 obtain ⟨l,_,_,a,b,off,cap,e,_⟩:=h;rw [e];rfl
def tabC:Nat→Nat→Option Value
 | 3,i=>if i<16 then some (.string (topS (topAfter.getD i []))) else none
 | 0,i=>if i<32 then some (.int .i64 (topShapes.getD i 0)) else none
 | 4,i=>if i<5 then some (.int .i64 (([0,1,2,4,3]:List Int).getD i 0)) else none
 | 1,i=>if i<4 then some (.int .i64 (([64,256,1024,4000]:List Int).getD i 0)) else none
 | _,_=>none
theorem SlAt.setM {T:TypeId} {k:IntKind} {w:World} {v:Value} {l:List Nat} (h:SlAt T k w v l) {b:Nat} {o:Obj} (g:w.heap[b]?=some o) (ho:isMapO o=true) (o':Obj):SlAt T k (setBlock w b o') v l:=by
 obtain ⟨a,b1,off,cap,h1,h2,h3,h4,cur,fr,h5,h6⟩:=h;refine ⟨a,b1,off,cap,h1,h2,h3,h4,cur,fr,fun hl => ?_,h6⟩;have h7:=h5 hl;have hne:b1≠b:=by
  intro e
  rw [e,g] at h7
  cases h7;simp [isMapO] at ho
 rw [heap_setBlock_ne o' hne];exact h7
theorem SlAt.rowK {T:TypeId} {k:IntKind} {w w':World} {v:Value} {l:List Nat} (h:SlAt T k w v l) {b:Nat} {c:Array Value} {U:TypeId} (g:w.heap[b]?=some (.cells c U (0,0))) (hU:U≠T) (hk:∀ j,j<w.heap.size→j≠b→w'.heap[j]?=w.heap[j]?):SlAt T k w' v l:=by
 obtain ⟨a,b1,off,cap,h1,h2,h3,h4,cur,fr,h5,h6⟩:=h;refine ⟨a,b1,off,cap,h1,h2,h3,h4,cur,fr,fun hl => ?_,h6⟩;have h7:=h5 hl;have hne:b1≠b:=by
  intro e
  rw [e,g] at h7
  cases h7;exact hU rfl
 rw [hk b1 (cell_lt h7) hne];exact h7
def OQ:Opq where
 R:=ON
 box T := !(Nat.beq T 240||Nat.beq T 2)
 ext:=by
  intro k n w w' x h e
  match k,h with
  | 0,h=>exact NatV.ext h e
  | 1,h=>exact h.imp id fun ⟨h1,h2,h3⟩=>⟨h1,h2,NatV.ext h3 e⟩
  | 2,h=>exact RefV.ext h e
 set:=by
  intro k n w x b c U fr i h hp hU y
  simp only [Bool.not_eq_true',Bool.or_eq_false_iff] at hU;have h1:U≠240:=fun e=>by rw [e] at hU;exact absurd hU.1 (by decide)
  have h2:U≠2:=fun e=>by rw [e] at hU;exact absurd hU.2 (by decide)
  match k,h with
  | 0,h=>exact NatV.keep h (Keep.setCell (p:=⟨b,i,none⟩) hp h1 y)
  | 1,h=>exact h.imp id fun ⟨h1',h2',h3⟩=>⟨h1',h2',NatV.keep h3 (Keep.setCell (p:=⟨b,i,none⟩) hp h1 y)⟩
  | 2,h=>obtain ⟨l,q1,q2,q3⟩:=h;exact ⟨l,q1,q2,q3.setCell (p:=⟨b,i,none⟩) hp h2 y⟩
 setM:=by
  intro k n w x b o h g ho o'
  match k,h with
  | 0,h=>obtain ⟨l,q1,q2,q3⟩:=h;exact ⟨l,q1,q2,q3.setM g ho o'⟩
  | 1,h=>exact h.imp id fun ⟨h1',h2',l,q1,q2,q3⟩=>⟨h1',h2',l,q1,q2,q3.setM g ho o'⟩
  | 2,h=>obtain ⟨l,q1,q2,q3⟩:=h;exact ⟨l,q1,q2,q3.setM g ho o'⟩
 row:=by
  intro k n w w' x b c U h g hU hk
  simp only [Bool.not_eq_true',Bool.or_eq_false_iff] at hU;have h1:U≠240:=fun e=>by rw [e] at hU;exact absurd hU.1 (by decide)
  have h2:U≠2:=fun e=>by rw [e] at hU;exact absurd hU.2 (by decide)
  match k,h with
  | 0,h=>obtain ⟨l,q1,q2,q3⟩:=h;exact ⟨l,q1,q2,q3.rowK g h1 hk⟩
  | 1,h=>exact h.imp id fun ⟨h1',h2',l,q1,q2,q3⟩=>⟨h1',h2',l,q1,q2,q3.rowK g h1 hk⟩
  | 2,h=>obtain ⟨l,q1,q2,q3⟩:=h;exact ⟨l,q1,q2,q3.rowK g h2 hk⟩
 one:=by
  intro k n w x h
  match k,h with
  | 0,h=>exact NatV.one h
  | 1,h=>rcases h with ⟨_,e⟩ | ⟨_,_,h⟩;rw [e];rfl;exact NatV.one h
  | 2,h=>exact RefV.one h
 inv:=OInv
 invE h e:=⟨h.1.ext e,h.2.ext e,fun j hj=>e.cell (h.siz j hj),fun j hj=>e.cell (h.af j hj),fun j hj=>e.cell (h.sh j hj)⟩
 invM h g ho o':=⟨by obtain ⟨m,hm⟩:=h.1;exact ⟨m,cell_setM g ho o' hm rfl⟩,h.2.setM g ho o',fun j hj=>cell_setM g ho o' (h.siz j hj) rfl,fun j hj=>cell_setM g ho o' (h.af j hj) rfl,fun j hj=>cell_setM g ho o' (h.sh j hj) rfl⟩
 tab:=tabC
 tabR:=by
  intro w h g i x hx
  unfold tabC at hx
  split at hx
  ·rename_i j
   split at hx
   ·rename_i hj
    cases hx
    exact ⟨h.af _ hj,rfl⟩
   ·cases hx
  ·rename_i j
   split at hx
   ·rename_i hj
    cases hx
    exact ⟨h.sh _ hj,rfl⟩
   ·cases hx
  ·rename_i j
   split at hx
   ·rename_i hj
    cases hx
    exact ⟨h.2.mir _ hj,rfl⟩
   ·cases hx
  ·rename_i j
   split at hx
   ·rename_i hj
    cases hx
    exact ⟨h.siz _ hj,rfl⟩
   ·cases hx
  ·cases hx
def numA (q:Rat):List AC:=[.v (.bool (decide (q.num<0))),.o 0 q.num.natAbs,.o 1 q.den]
def rnumA (q:Rat):List AC:=[.v (.int .i64 q.num.sign),.o 2 q.num.natAbs,.o 2 (if q=0 then 0 else q.den)]
abbrev iA (n:Int):AV:=.c (.v (.int .i64 n))
abbrev bA (b:Bool):AV:=.c (.v (.bool b))
abbrev nA (q:Rat):AV:=.g (numA q)
abbrev rA (q:Rat):AV:=.g (rnumA q)
section
variable {β:Nat→Option Nat} {S:Nat→Prop} {w:World}
theorem numA_of {x:Value} {q:Rat} (h:NumV w x q):RepW OQ β S w x (nA q):=by
 obtain ⟨a,n,c,a',n',c',rfl,h2,h3⟩:=h;refine ⟨[_,_,_],rfl,?_,?_,?_,trivial⟩
 ·exact Rep0.toC (Rep0.v' rfl rfl)
 ·exact Rep0.toC (Rep0.o' h2)
 ·refine Rep0.toC (c:=.o 1 _) ?_;simp only [Rep0]
  rcases h3 with ⟨e,rfl,rfl,rfl⟩ | ⟨e,h4,h5⟩
  ·exact .inl ⟨e,rfl⟩
  ·obtain ⟨ad,rfl⟩:=Option.isSome_iff_exists.1 h4
   exact .inr ⟨e,⟨ad,_,_,rfl⟩,h5⟩
theorem num_of {x:Value} {q:Rat} (h:RepW OQ β S w x (nA q)):NumV w x q:=by
 obtain ⟨vs,rfl,h⟩:=h
 match vs,h with
 | [v1,v2,v3],h =>
  obtain ⟨h1,h2,h3,_⟩:=h;simp only [RepC,Rep0] at h1 h2 h3;obtain ⟨l,p1,p2,p3⟩:NatV w v2 q.num.natAbs:=h2;have p3':=p3;obtain ⟨a,b,off,cap,e,_⟩:=p3';subst e;rw [h1.1];have q3:(q.den=1∧v3=.slice none 0 0)∨(q.den≠1∧(∃ a l c,v3=.slice (some a) l c)∧NatV w v3 q.den):=h3;clear h3
  rcases q3 with ⟨q3,rfl⟩ | ⟨q3,⟨a',l',c',rfl⟩,q4⟩
  ·exact ⟨a,_,cap,none,0,0,rfl,⟨l,p1,p2,p3⟩,.inl ⟨q3,rfl,rfl,rfl⟩⟩
  ·exact ⟨a,_,cap,some a',l',c',rfl,⟨l,p1,p2,p3⟩,.inr ⟨q3,rfl,q4⟩⟩
theorem rnumA_of {x:Value} {q:Rat} (h:RNumV w x q):RepW OQ β S w x (rA q):=by
 obtain ⟨a,n,c,a',n',c',rfl,h2,h3⟩:=h;refine ⟨[_,_,_],rfl,?_,?_,?_,trivial⟩
 ·exact Rep0.toC (Rep0.v' rfl rfl)
 ·exact Rep0.toC (Rep0.o' h2)
 ·refine Rep0.toC (c:=.o 2 _) ?_;simp only [Rep0];exact h3
theorem rnum_of {x:Value} {q:Rat} (h:RepW OQ β S w x (rA q)):RNumV w x q:=by
 obtain ⟨vs,rfl,h⟩:=h
 match vs,h with
 | [v1,v2,v3],h =>
  obtain ⟨h1,h2,h3,_⟩:=h;simp only [RepC,Rep0] at h1 h2 h3;have h2:RefV w v2 q.num.natAbs:=h2;have h3:RefV w v3 (if q=0 then 0 else q.den):=h3;have h2':=h2;have h3':=h3;obtain ⟨l,_,_,a,b,off,cap,e,_⟩:=h2';obtain ⟨l',_,_,a',b',off',cap',e',_⟩:=h3';subst e;subst e';rw [h1.1]
  exact ⟨a,_,cap,a',_,cap',rfl,h2,h3⟩
end
def bodyB (P:Program) (k:FuncId):Bool:=match P.funcs[k]? with
 | some fn => !(fn.name == "runtime.NumGoroutine") && !fn.body.isNone
 | none=>false
theorem body_of {P:Program} {k:FuncId} (h:bodyB P k=true):∃ fn,P.funcs[k]?=some fn∧(fn.name == "runtime.NumGoroutine")=false∧fn.body.isNone=false:=by
 unfold bodyB at h
 split at h
 ·rename_i fn e
  simp only [Bool.and_eq_true,Bool.not_eq_true'] at h
  exact ⟨fn,e,h⟩
 ·cases h
theorem cal_of {P:Program} {k:FuncId} {args:List AV} {r:AV} (hb:bodyB P k=true) (hn:noPV r=true)
  (h:∀ S w vs,OQ.inv w→All2 (RepW OQ (fun _=>none) S w) vs args→Calls P k vs.toArray w fun e w'=>∃ v,e=.returned v∧Ext w w'∧∀ S',RepV OQ (fun _=>none) S' w' v r):Cal P OQ k args r :=
 ⟨body_of hb,hn,fun S w vs _ hi hv=>(h S w vs hi hv).mono fun _ _ ⟨v,h1,h2,h3⟩=>⟨v,h1,h2,h3 _⟩⟩
theorem sc_of {S:Nat→Prop} {w:World} {x y:Value} (h:RepW OQ (fun _=>none) S w x (.c (.v y))):x=y:=h.1
theorem cal1 {P:Program} {k:FuncId} {q:Rat} {r:AV} {R:World→Value→Prop} (hb:bodyB P k=true) (hn:noPV r=true) (hr:∀ {w v},R w v→∀ S,RepV OQ (fun _=>none) S w v r)
  (h:∀ x w,OQ.inv w→NumV w x q→Calls P k #[x] w fun e w'=>∃ v,e=.returned v∧R w' v∧Ext w w'):Cal P OQ k [nA q] r :=
 cal_of hb hn fun _ w vs hi hv=>match vs,hv with
  | [x],hv=>(h x w hi (num_of hv.1)).mono fun _ _ ⟨v,h1,h2,h3⟩=>⟨v,h1,h3,hr h2⟩
theorem cal2 {P:Program} {k:FuncId} {q s:Rat} {r:AV} {R:World→Value→Prop} (hb:bodyB P k=true) (hn:noPV r=true) (hr:∀ {w v},R w v→∀ S,RepV OQ (fun _=>none) S w v r)
  (h:∀ x y w,OQ.inv w→NumV w x q→NumV w y s→Calls P k #[x,y] w fun e w'=>∃ v,e=.returned v∧R w' v∧Ext w w'):Cal P OQ k [nA q,nA s] r :=
 cal_of hb hn fun _ w vs hi hv=>match vs,hv with
  | [x,y],hv=>(h x y w hi (num_of hv.1) (num_of hv.2.1)).mono fun _ _ ⟨v,h1,h2,h3⟩=>⟨v,h1,h3,hr h2⟩
theorem cal1i {P:Program} {k:FuncId} {q:Rat} {z:Value} {r:AV} {R:World→Value→Prop} (hb:bodyB P k=true) (hn:noPV r=true) (hr:∀ {w v},R w v→∀ S,RepV OQ (fun _=>none) S w v r)
  (h:∀ x w,OQ.inv w→NumV w x q→Calls P k #[x,z] w fun e w'=>∃ v,e=.returned v∧R w' v∧Ext w w'):Cal P OQ k [nA q,.c (.v z)] r :=
 cal_of hb hn fun _ w vs hi hv=>match vs,hv with
  | [x,y],hv=>by
   have e:=sc_of hv.2.1;subst e
   exact (h x w hi (num_of hv.1)).mono fun _ _ ⟨v,h1,h2,h3⟩=>⟨v,h1,h3,hr h2⟩
theorem cali {P:Program} {k:FuncId} {zs:List Value} {r:AV} {R:World→Value→Prop} (hb:bodyB P k=true) (hn:noPV r=true) (hr:∀ {w v},R w v→∀ S,RepV OQ (fun _=>none) S w v r)
  (h:∀ w,OQ.inv w→Calls P k zs.toArray w fun e w'=>∃ v,e=.returned v∧R w' v∧Ext w w'):Cal P OQ k (zs.map fun z=>.c (.v z)) r :=
 cal_of hb hn fun _ w vs hi hv=>by
  have e:vs=zs:=by
   clear h
   induction zs generalizing vs with
   | nil=>cases vs with
    | nil=>rfl
    | cons _ _=>exact hv.elim
   | cons z zs ih=>cases vs with
    | nil=>exact hv.elim
    | cons v vs=>rw [sc_of hv.1,ih vs hv.2]
  subst e
  exact (h w hi).mono fun _ _ ⟨v,h1,h2,h3⟩=>⟨v,h1,h3,hr h2⟩
theorem rep_num {q:Rat} {w:World} {v:Value} (h:NumV w v q):∀ S,RepV OQ (fun _=>none) S w v (nA q):=fun _=>numA_of (β:=fun _=>none) h
theorem rep_sc {y:Value} (h1:y.oneCell'=true) {w:World} {v:Value} (h:v=y):∀ S,RepV OQ (fun _=>none) S w v (.c (.v y)):=fun _=>⟨h,h1⟩
end Go.Proofs.YtoaoebimjmjpeaaGreatDoor
namespace Go.Proofs.YtoaoebimjmjpeaaGreatDoor
open Go.RowKit Vn
set_option maxRecDepth 100000
set_option maxHeartbeats 8000000
def look:List (Nat×Ty)→Nat→Option Ty
 | [],_=>none
 | (i,y) :: l,t=>cond (Nat.beq t i) (some y) (look l t)
def zB:Value→AC→Bool
 | .int k x,.v (.int l y)=>decide (k=l)&&decide (x=y)
 | .bool x,.v (.bool y)=>x==y
 | .string x,.v (.string y)=>Nat.beq x.data.size 0&&Nat.beq y.data.size 0
 | .slice none 0 0,.o 0 0=>true
 | .slice none 0 0,.o 1 1=>true
 | .slice none 0 0,.o 2 0=>true
 | .slice none 0 0,.sl _ []=>true
 | .slice none 0 0,.v (.slice none 0 0)=>true
 | .map none,.v (.map none)=>true
 | .pointer none,.v (.pointer none)=>true
 | _,_=>false
def zsB:List Value→List AC→Bool
 | [],[]=>true
 | x :: l,c :: m=>zB x c&&zsB l m
 | _,_=>false
def mzB:Bool→Value→List AC→Bool
 | true,.agg us,zr=>zsB us.toList zr
 | false,x,[c]=>zB x c
 | _,_,_=>false
def fB (P:Program):List Field→List (Nat×Nat×Bool)→Bool
 | [],[]=>true
 | f :: fs,(o,n,g) :: r=>Nat.beq f.offset o&&(match P.info? f.type with
   | some i=>Nat.beq i.size n
   | none=>false) && !Nat.beq n 0&&(match P.underlying f.type with
   | some d=>d.isRow==g
   | none=>false)&&fB P fs r
 | _,_=>false
def kdB:TypeDesc→Kd→Bool
 | .int k,.int l=>decide (k=l)
 | .string,.str=>true
 | .bool,.bool=>true
 | _,.other=>true
 | _,_=>false
def tyB (P:Program) (t:Nat) (ty:Ty):Bool :=
 match P.info? t,P.underlying t with
 | some i,some d=>Nat.beq i.size ty.zero.length&&(d.isRow==ty.agg)&&(match i.zero with
   | some z=>zsB z.cells.toList ty.zero
   | none=>false)&&kdB d ty.kd&&(ty.flds.isEmpty||match d with
   | .struct fs=>fB P fs.toList ty.flds
   | _=>false)&&(match ty.elem,d with
   | none,_=>true
   | some s,.slice e=>(match P.info? e with
    | some j=>Nat.beq j.size s&&j.zero.isSome
    | none=>false)
   | _,_=>false)&&(match ty.arr,d with
   | none,_=>true
   | some l,.array m e=>Nat.beq l m&&Nat.ble 2 l&&(match P.info? e with
    | some j=>Nat.beq j.size 1&&(match P.underlying e with
     | some d' => !d'.isRow
     | none=>false)
    | none=>false)
   | _,_=>false)&&(match ty.mp,d with
   | none,_=>true
   | some (ag,zr),.map k e=>(match P.underlying k with
    | some (.int .i64)=>true
    | _=>false)&&(match P.info? e with
    | some j=>(match j.zero with
     | some z=>mzB ag z zr
     | none=>false)
    | none=>false)
   | _,_=>false)&&(Nat.beq ty.et 0||match ty.elem,d with
   | some s,.slice e=>Nat.beq e ty.et&&OQ.box ty.et&&(match P.info? e with
    | some j=>Nat.beq j.size s&&Nat.ble j.bytes 4096&&(match j.zero with
     | some z=>Nat.beq z.cells.size s
     | none=>false)
    | none=>false)
   | _,_=>false)
 | _,_=>false
theorem zB_rep {x:Value} {c:AC} (h:zB x c=true) (S:Nat→Prop) (w:World):Rep0 OQ S w c x:=by
 unfold zB at h
 split at h
 ·simp only [Bool.and_eq_true,decide_eq_true_eq] at h;obtain ⟨rfl,rfl⟩:=h;exact Rep0.v' rfl rfl
 ·simp only [beq_iff_eq] at h;subst h;exact Rep0.v' rfl rfl
 ·rename_i x y
  simp only [Bool.and_eq_true,Nat.beq_eq] at h;have e:∀ b:ByteArray,b.data.size=0→b=⟨#[]⟩:=fun b h=>by
   cases b with | mk d=>congr 1;exact Array.eq_empty_of_size_eq_zero h
  rw [e x h.1,e y h.2];exact Rep0.v' rfl rfl
 ·simp only [Rep0];exact ⟨[],Norm.nil,rfl,SlAt.nil _ _ _⟩
 ·simp only [Rep0];exact .inl ⟨rfl,rfl⟩
 ·simp only [Rep0];exact RefV.nil w
 ·simp only [Rep0];exact ⟨none,0,0,0,rfl,fun h=>absurd h (by simp),by simp only [RepRows]⟩
 ·exact Rep0.v' rfl rfl
 ·exact Rep0.v' rfl rfl
 ·exact Rep0.v' rfl rfl
 ·cases h
theorem zsB_rep:∀ {vs:List Value} {cs:List AC},zsB vs cs=true→∀ (S:Nat→Prop) (w:World),R0s OQ S w vs cs
 | [],[],_,_,_=>trivial
 | x :: l,c :: m,h,S,w=>by
  simp only [zsB,Bool.and_eq_true] at h
  exact ⟨zB_rep h.1 S w,zsB_rep h.2 S w⟩
theorem mzB_rep {ag:Bool} {z:Value} {zr:List AC} (h:mzB ag z zr=true):(ag=false→zr.length=1)∧∃ us,z=pack ag us∧∀ S w,RepL OQ S w zr us:=by
 cases ag with
 | true =>
  cases z with
  | agg us=>exact ⟨(fun e=>nomatch e),us.toList,by simp [pack],fun S w=>RepL.iff.2 (zsB_rep h S w)⟩
  | _=>cases h
 | false =>
  match zr,h with
  | [c],h =>
   have h:zB z c=true:=by cases z<;>exact h
   exact ⟨fun _=>rfl,[z],rfl,fun S w=>RepL.iff.2 ⟨zB_rep h S w,trivial⟩⟩
  | [],h=>cases z<;>cases h
  | _ :: _ :: _,h=>cases z<;>cases h
theorem fB_get {P:Program}:∀ {fs:List Field} {fl:List (Nat×Nat×Bool)},fB P fs fl=true→fs.mapM (fun f=>(P.info? f.type).map fun i=>(f.offset,i.size))=some (fl.map fun x=>(x.1,x.2.1)) ∧
  ∀ (k o n:Nat) (g:Bool),fl[k]?=some (o,n,g)→∃ (fd:Field) (i:TypeInfo) (d:TypeDesc),fs[k]?=some fd∧fd.offset=o∧P.info? fd.type=some i∧i.size=n∧n≠0∧P.underlying fd.type=some d∧d.isRow=g
 | [],[],_=>⟨rfl,fun k o n g h=>by simp at h⟩
 | f :: fs,(o,n,g) :: r,h=>by
  simp only [fB,Bool.and_eq_true] at h;obtain ⟨⟨⟨⟨h1,h2⟩,h3⟩,h4⟩,h5⟩:=h;rw [Nat.beq_eq] at h1;obtain ⟨q1,q2⟩:=fB_get h5
  cases hi:P.info? f.type with
  | none=>simp only [hi] at h2;cases h2
  | some i =>
   simp only [hi] at h2;rw [Nat.beq_eq] at h2
   cases hu:P.underlying f.type with
   | none=>simp only [hu] at h4;cases h4
   | some d =>
    simp only [hu,beq_iff_eq] at h4;refine ⟨?_,fun k o' n' g' hk => ?_⟩
    ·rw [List.mapM_cons,hi];simp only [Option.map_some,q1,h1,h2];rfl
    ·cases k with
     | zero =>
      simp at hk
      obtain ⟨rfl,rfl,rfl⟩:=hk
      exact ⟨f,i,d,rfl,h1,hi,h2,(fun e=>by rw [e] at h3;cases h3),hu,h4⟩
     | succ k=>exact q2 k o' n' g' (by simpa using hk)
theorem ty_of {P:Program} {t:Nat} {ty:Ty} (h:tyB P t ty=true) (he:ty.eq=true→EqFact P t ty.zero):TyFact P OQ t ty:=by
 unfold tyB at h
 cases hi:P.info? t with
 | none=>simp [hi] at h
 | some i =>
  cases hu:P.underlying t with
  | none=>simp [hi,hu] at h
  | some d =>
   simp only [hi,hu,Bool.and_eq_true] at h;obtain ⟨⟨⟨⟨⟨⟨⟨⟨h1,h2⟩,h3⟩,h4⟩,h5⟩,h6⟩,h7⟩,h10⟩,h11⟩:=h;rw [Nat.beq_eq] at h1;rw [beq_iff_eq] at h2
   cases hz:i.zero with
   | none=>simp [hz] at h3
   | some z =>
    simp only [hz] at h3;refine ⟨⟨i,z,hi,h1,hz,fun S w=>(zsB_rep h3 S w).toC⟩,⟨d,hu,h2,fun e => ?_,fun e => ?_,fun k e => ?_⟩,fun f off n g hf => ?_,fun hf => ?_,fun s hs => ?_,fun l hl => ?_,fun ag zr hmp => ?_,fun s hs h0 => ?_,he⟩
    ·rw [e] at h4;cases d<;>first | rfl | cases h4
    ·rw [e] at h4;cases d<;>first | rfl | cases h4
    ·rw [e] at h4;cases d<;>first | (simp only [kdB,decide_eq_true_eq] at h4;rw [h4]) | cases h4
    ·have hne:ty.flds.isEmpty=false:=by
      cases hh:ty.flds with
      | nil=>rw [hh] at hf;simp at hf
      | cons _ _=>rfl
     rw [hne,Bool.false_or] at h5
     cases d<;>try (cases h5;done)
     rename_i fs
     obtain ⟨fd,i',d',q1,q2,q3,q4,q5,q6,q7⟩:=(fB_get h5).2 f off n g hf
     exact ⟨fs,fd,i',d',hu,by simpa using q1,q2,q3,q4,q5,q6,q7⟩
    ·rw [hf,Bool.false_or] at h5
     cases d<;>try (cases h5;done)
     rename_i fs
     exact ⟨fs,hu,(fB_get h5).1⟩
    ·rw [hs] at h6
     cases d<;>try (cases h6;done)
     rename_i e
     cases hj:P.info? e with
     | none=>simp [hj] at h6
     | some j =>
      simp only [hj,Bool.and_eq_true] at h6;obtain ⟨z',hz'⟩:=Option.isSome_iff_exists.1 h6.2
      exact ⟨e,j,z',hu,hj,by simpa [Nat.beq_eq] using h6.1,hz'⟩
    ·rw [hl] at h7
     cases d<;>try (cases h7;done)
     rename_i m e
     cases hj:P.info? e with
     | none=>simp [hj] at h7
     | some j =>
      simp only [hj,Bool.and_eq_true,Nat.beq_eq,Nat.ble_eq] at h7;obtain ⟨⟨rfl,h8⟩,h9,h9'⟩:=h7
      cases hd':P.underlying e with
      | none=>simp [hd'] at h9'
      | some d' =>
       simp only [hd',Bool.not_eq_true'] at h9'
       exact ⟨e,j,hu,hj,h9,h8,d',hd',h9'⟩
    ·rw [hmp] at h10
     cases d<;>try (cases h10;done)
     rename_i k e
     simp only [Bool.and_eq_true] at h10;obtain ⟨g1,g2⟩:=h10;have hk:P.underlying k=some (.int .i64):=by
      split at g1
      ·assumption
      ·cases g1
     cases hj:P.info? e with
     | none=>simp [hj] at g2
     | some j =>
      simp only [hj] at g2
      cases hz':j.zero with
      | none=>simp [hz'] at g2
      | some z' =>
       simp only [hz'] at g2;obtain ⟨m1,us,m2,m3⟩:=mzB_rep g2
       exact ⟨k,e,j,z',hu,hk,hj,hz',m1,us,m2,m3⟩
    ·have hb0:Nat.beq ty.et 0=false:=by
      cases hb:Nat.beq ty.et 0 with
      | false=>rfl
      | true=>exact absurd (Nat.eq_of_beq_eq_true hb) h0
     rw [hb0,Bool.false_or,hs] at h11
     cases d<;>try (cases h11;done)
     rename_i e
     simp only [Bool.and_eq_true,Nat.beq_eq] at h11;obtain ⟨⟨g1,g2⟩,g3⟩:=h11;subst g1
     cases hj:P.info? ty.et with
     | none=>simp [hj] at g3
     | some j =>
      simp only [hj,Bool.and_eq_true,Nat.beq_eq,Nat.ble_eq] at g3
      cases hz':j.zero with
      | none=>simp [hz'] at g3
      | some z' =>
       simp only [hz',Nat.beq_eq] at g3
       exact ⟨hu,g2,j,z',rfl,hz',g3.1.1,g3.2,g3.1.2⟩
theorem look_mem:∀ {l:List (Nat×Ty)} {t:Nat} {ty:Ty},look l t=some ty→(t,ty)∈l
 | [],_,_,h=>by cases h
 | (i,y) :: l,t,ty,h=>by
  simp only [look] at h
  cases hb:Nat.beq t i with
  | true =>
   rw [hb] at h;have e:=Nat.eq_of_beq_eq_true hb
   cases h;subst e;simp
  | false=>rw [hb] at h;exact List.mem_cons_of_mem _ (look_mem h)
theorem tyOK {P:Program} {l:List (Nat×Ty)} (h:(l.all fun x=>tyB P x.1 x.2)=true) (he:∀ x∈l,x.2.eq=true→EqFact P x.1 x.2.zero):TyOK P OQ (look l):=by
 intro t ty ht
 have hm:=look_mem ht
 exact ty_of (List.all_eq_true.1 h _ hm) (he _ hm)
/-! ### structs held against each other -/
theorem eqV_nil {vs us:List Value} {b:Bool} (h:EqV [] vs us b):vs=[]∧us=[]∧b=true:=by
 cases vs with
 | nil=>cases us with
  | nil=>exact ⟨rfl,rfl,h⟩
  | cons _ _=>exact h.elim
 | cons v _=>cases v<;>exact h.elim
theorem eqV_int {c:IntKind} {n:Int} {z:List AC} {vs us:List Value} {b:Bool} (h:EqV (.v (.int c n) :: z) vs us b):∃ x l y m r,vs=.int c x :: l∧us=.int c y :: m∧EqV z l m r∧b=(x==y&&r):=by
 cases vs with
 | nil=>exact h.elim
 | cons v l =>
  cases v<;>try exact h.elim
  cases us with
  | nil=>exact h.elim
  | cons u m =>
   cases u<;>try exact h.elim
   obtain ⟨rfl,rfl,r,h1,h2⟩:=h
   exact ⟨_,l,_,m,r,rfl,rfl,h1,h2⟩
theorem eqV_bool {c:Bool} {z:List AC} {vs us:List Value} {b:Bool} (h:EqV (.v (.bool c) :: z) vs us b):∃ x l y m r,vs=.bool x :: l∧us=.bool y :: m∧EqV z l m r∧b=(x==y&&r):=by
 cases vs with
 | nil=>exact h.elim
 | cons v l =>
  cases v<;>try exact h.elim
  cases us with
  | nil=>exact h.elim
  | cons u m =>
   cases u<;>try exact h.elim
   obtain ⟨r,h1,h2⟩:=h
   exact ⟨_,l,_,m,r,rfl,rfl,h1,h2⟩
theorem eqV_str {c:ByteArray} {z:List AC} {vs us:List Value} {b:Bool} (h:EqV (.v (.string c) :: z) vs us b):∃ x l y m r,vs=.string x :: l∧us=.string y :: m∧EqV z l m r∧b=(x.toList==y.toList&&r):=by
 cases vs with
 | nil=>exact h.elim
 | cons v l =>
  cases v<;>try exact h.elim
  cases us with
  | nil=>exact h.elim
  | cons u m =>
   cases u<;>try exact h.elim
   obtain ⟨r,h1,h2⟩:=h
   exact ⟨_,l,_,m,r,rfl,rfl,h1,h2⟩
theorem eqFact_of {P:Program} {t:TypeId} {z:List AC} (hg:P.eqGuardType P.depth t=false) (h:∀ (vs us:List Value) (b:Bool) (w:World),EqV z vs us b→(Op.equalIn 10000 t (.agg vs.toArray) (.agg us.toArray)).run P w=.ok b w):EqFact P t z:=by
 intro vs us b w hv
 have he:(Op.equal t (.agg vs.toArray) (.agg us.toArray)).run P w=.ok b w:=h vs us b w hv;refine ⟨?_,?_,fun op x y => ?_⟩
 ·have e:binOp .eql t (.agg vs.toArray) (.agg us.toArray)=(do pure (.bool (←Op.equal t (.agg vs.toArray) (.agg us.toArray))):Sem Value):=rfl;rw [e,Sem.run_bind,he];rfl
 ·have e:binOp .neq t (.agg vs.toArray) (.agg us.toArray)=(do pure (.bool (!(←Op.equal t (.agg vs.toArray) (.agg us.toArray)))):Sem Value):=rfl;rw [e,Sem.run_bind,he];rfl
 ·have hp:∀ {α:Type} (f:Program→Sem α),(program >>= f).run P w=(f P).run P w:=fun f=>by rw [Sem.run_bind];rfl
  cases op<;>first | rfl | (
   unfold eqGuard;simp only [Bool.not_true,Bool.false_eq_true,if_false,hp,hg,Bool.not_false,if_true]
   rfl)
theorem inWord (a b c d:Int) (n:Nat) (w:World):(Op.equalIn (n+2) 54 (.agg #[.int .u64 a,.int .u64 b]) (.agg #[.int .u64 c,.int .u64 d])).run Tryz.prog w=.ok (a==c&&(b==d&&true)) w:=by
 have u3:=Tryz.underlying52;have a3:=Tryz.isAgg52;have z3:=Tryz.sizeOf52;have hS:Tryz.prog.underlying 54=some (.struct (Tryz.prog.fieldsOf 54)):=by kernel_rfl
 have hp:Tryz.prog.stoodInHeld 54=false:=by kernel_rfl
 rw [run_equalIn_agg w (n+1) 54 _ _ hS hp];simp only [Program.fieldsOf,Tryz.underlying54];go_simp
 by_cases h1:a=c<;>by_cases h2:b=d<;>simp [h1,h2]
theorem eq_Word:EqFact Tryz.prog 54 [.v (.int .u64 0),.v (.int .u64 0)]:=by
 refine eqFact_of (by kernel_rfl) fun vs us b w h0 => ?_;obtain ⟨x0,l,y0,m,r,rfl,rfl,h1,rfl⟩:=eqV_int h0;obtain ⟨x1,l,y1,m,r,rfl,rfl,h2,rfl⟩:=eqV_int h1;obtain ⟨rfl,rfl,rfl⟩:=eqV_nil h2
 exact inWord x0 x1 y0 y1 9998 w
theorem eq_FlVal:EqFact Tryz.prog 71 [.v (.int .i64 0),.v (.bool false),.v (.string ⟨#[]⟩)]:=by
 refine eqFact_of (by kernel_rfl) fun vs us b w h0 => ?_;obtain ⟨x0,l,y0,m,r,rfl,rfl,h1,rfl⟩:=eqV_int h0;obtain ⟨x1,l,y1,m,r,rfl,rfl,h2,rfl⟩:=eqV_bool h1;obtain ⟨x2,l,y2,m,r,rfl,rfl,h3,rfl⟩:=eqV_str h2;obtain ⟨rfl,rfl,rfl⟩:=eqV_nil h3
 ·clear h0 h1 h2 h3;have u3:=Tryz.underlying3;have a3:=Tryz.isAgg3;have z3:=Tryz.sizeOf3;have u4:=Tryz.underlying4;have a4:=Tryz.isAgg4;have z4:=Tryz.sizeOf4;have u5:=Tryz.underlying36;have a5:=Tryz.isAgg36;have z5:=Tryz.sizeOf36;have hS:Tryz.prog.underlying 71=some (.struct (Tryz.prog.fieldsOf 71)):=by kernel_rfl
  have hp:Tryz.prog.stoodInHeld 71=false:=by kernel_rfl
  rw [show (10000:Nat)=9999+1 from rfl,run_equalIn_agg w 9999 71 _ _ hS hp];simp only [Program.fieldsOf,Tryz.underlying71];go_simp
  by_cases h1:x0=y0<;>by_cases h2:x1=y1<;>by_cases h3:x2.toList=y2.toList<;>simp [h1,h2,h3]
def TL:List (Nat×Ty):=[
 (2,⟨false,[.v (.int .i64 0)],[],none,.int .i64,false,none,none,0⟩),
 (3,⟨false,[.v (.int .i64 0)],[],none,.int .i64,false,none,none,0⟩),
 (4,⟨false,[.v (.bool false)],[],none,.bool,false,none,none,0⟩),
 (5,⟨false,[.v (.int .u8 0)],[],none,.int .u8,false,none,none,0⟩),
 (6,⟨false,[.v (.int .u8 0)],[],none,.int .u8,false,none,none,0⟩),
 (7,⟨true,[.v (.int .i64 0),.v (.int .i64 0),.v (.bool false),.v (.int .u8 0)],[(0,1,false),(1,1,false),(2,1,false),(3,1,false)],none,.other,false,none,none,0⟩),
 (9,⟨false,[.v (.string ⟨#[]⟩)],[],none,.str,false,none,none,0⟩),
 (11,⟨false,[.v (.string ⟨#[]⟩)],[],none,.str,false,none,none,0⟩),
 (22,⟨false,[.sl 2 []],[],(some 2),.other,false,none,none,58⟩),
 (23,⟨false,[.sl 3 []],[],(some 3),.other,false,none,none,161⟩),
 (25,⟨false,[.sl 2 []],[],(some 2),.other,false,none,none,203⟩),
 (27,⟨true,[.sl 2 [],.v (.int .i64 0),.sl 3 [],.sl 7 [],.v (.int .i64 0),.v (.int .i64 0),.sl 2 [],.v (.int .i64 0)],[(0,1,false),(1,1,false),(2,1,false),(3,1,false),(4,1,false),(5,1,false),(6,1,false),(7,1,false)],none,.other,false,none,none,0⟩),
 (28,⟨false,[.sl 1 []],[],(some 1),.other,false,none,none,36⟩),
 (33,⟨false,[.v (.int .i64 0)],[],none,.int .i64,false,none,none,0⟩),
 (36,⟨false,[.v (.string ⟨#[]⟩)],[],none,.str,false,none,none,0⟩),
 (38,⟨true,[.v (.int .i64 0),.v (.int .i64 0),.v (.int .i64 0),.v (.int .i64 0),.v (.int .i64 0),.v (.int .i64 0),.v (.string ⟨#[]⟩)],[(0,1,false),(1,1,false),(2,1,false),(3,1,false),(4,1,false),(5,1,false),(6,1,false)],none,.other,false,none,none,0⟩),
 (39,⟨false,[.v (.slice none 0 0)],[],(some 1),.other,false,none,none,3⟩),
 (41,⟨false,[.v (.slice none 0 0)],[],(some 4),.other,false,none,none,196⟩),
 (47,⟨false,[.o 0 0],[],(some 1),.other,false,none,none,0⟩),
 (49,⟨true,[.v (.bool false),.o 0 0,.o 1 1],[(0,1,false),(1,1,false),(2,1,false)],none,.other,false,none,none,0⟩),
 (52,⟨false,[.v (.int .u64 0)],[],none,.int .u64,false,none,none,0⟩),
 (54,⟨true,[.v (.int .u64 0),.v (.int .u64 0)],[(0,1,false),(1,1,false)],none,.other,true,none,none,0⟩),
 (58,⟨true,[.v (.int .i64 0),.v (.int .i64 0)],[(0,1,false),(1,1,false)],none,.other,false,none,none,0⟩),
 (63,⟨true,[.v (.int .i64 0),.v (.int .i64 0),.v (.int .i64 0),.v (.int .i64 0),.v (.int .u64 0),.v (.int .u64 0),.v (.int .u64 0),.v (.int .u64 0),.v (.int .u64 0),.v (.int .u64 0)],[(0,1,false),(1,2,true),(3,1,false),(4,2,true),(6,2,true),(8,2,true)],none,.other,false,none,none,0⟩),
 (64,⟨false,[.sl 2 []],[],(some 2),.other,false,none,none,54⟩),
 (67,⟨false,[.sl 3 []],[],(some 3),.other,false,none,none,49⟩),
 (71,⟨true,[.v (.int .i64 0),.v (.bool false),.v (.string ⟨#[]⟩)],[(0,1,false),(1,1,false),(2,1,false)],none,.other,true,none,none,0⟩),
 (85,⟨true,[.sl 2 [],.v (.int .i64 0),.sl 3 [],.sl 7 [],.v (.int .i64 0),.v (.int .i64 0),.sl 2 [],.v (.int .i64 0)],[(0,8,true)],none,.other,false,none,none,0⟩),
 (101,⟨true,[.sl 2 [],.v (.int .i64 0),.sl 3 [],.sl 7 [],.v (.int .i64 0),.v (.int .i64 0),.sl 2 [],.v (.int .i64 0),.v (.slice none 0 0),.v (.slice none 0 0),.v (.slice none 0 0),.v (.int .i64 0),.sl 3 []],[(0,12,true),(12,1,false)],none,.other,false,none,none,0⟩),
 (108,⟨true,[.v (.pointer none),.sl 5 [],.v (.int .i64 0),.v (.int .i64 0),.v (.int .i64 0),.v (.bool false),.v (.bool false),.o 0 0,.o 1 1,.v (.int .i64 0)],[(0,1,false),(1,1,false),(2,3,true),(5,5,true)],none,.other,false,none,none,0⟩),
 (119,⟨false,[.v (.pointer none)],[],none,.other,false,none,none,0⟩),
 (121,⟨false,[.v (.map none)],[],none,.other,false,none,(some (true,[.v (.bool false),.o 0 0,.o 1 1])),0⟩),
 (126,⟨false,[.v (.slice none 0 0)],[],(some 1),.other,false,none,none,121⟩),
 (128,⟨true,[.v (.slice none 0 0)],[(0,1,false)],none,.other,false,none,none,0⟩),
 (129,⟨false,[.v (.map none)],[],none,.other,false,none,(some (false,[.v (.map none)])),0⟩),
 (130,⟨false,[.v (.map none)],[],none,.other,false,none,(some (false,[.v (.bool false)])),0⟩),
 (132,⟨true,[.v (.slice none 0 0),.v (.map none),.v (.map none),.v (.slice none 0 0)],[(0,1,true),(1,1,false),(2,1,false),(3,1,false)],none,.other,false,none,none,0⟩),
 (143,⟨true,[.v (.int .i64 0),.v (.int .i64 0),.v (.int .i64 0),.v (.int .i64 0)],[(0,2,true),(2,1,false),(3,1,false)],none,.other,false,none,none,0⟩),
 (147,⟨true,[.v (.int .i64 0),.v (.bool false),.v (.bool false),.o 0 0,.o 1 1],[(0,1,false),(1,1,false),(2,3,true)],none,.other,false,none,none,0⟩),
 (161,⟨true,[.v (.int .i64 0),.v (.string ⟨#[]⟩),.v (.string ⟨#[]⟩)],[(0,1,false),(1,1,false),(2,1,false)],none,.other,false,none,none,0⟩),
 (171,⟨true,[.v (.int .u8 0),.v (.string ⟨#[]⟩)],[(0,1,false),(1,1,false)],none,.other,false,none,none,0⟩),
 (181,⟨false,[.v (.pointer none)],[],none,.other,false,none,none,0⟩),
 (182,⟨false,[.v (.map none)],[],none,.other,false,none,none,0⟩),
 (196,⟨true,[.v (.int .i64 0),.v (.int .i64 0),.v (.int .i64 0),.v (.string ⟨#[]⟩)],[(0,1,false),(1,1,false),(2,1,false),(3,1,false)],none,.other,false,none,none,0⟩),
 (197,⟨true,[.v (.bool false),.o 0 0,.o 1 1,.v (.bool false),.o 0 0,.o 1 1],[],none,.other,false,none,none,0⟩),
 (203,⟨true,[.v (.int .i64 0),.v (.int .i64 0)],[(0,1,false),(1,1,false)],none,.other,false,none,none,0⟩),
 (217,⟨true,[.v (.int .i64 0),.v (.int .i64 0)],[(0,1,false),(1,1,false)],none,.other,false,none,none,0⟩),
 (241,⟨false,[.v (.int .u64 0)],[],none,.int .u64,false,none,none,0⟩),
 (278,⟨true,[.v (.pointer none),.sl 1 []],[(0,1,false),(1,1,false)],none,.other,false,none,none,0⟩),
 (320,⟨false,[.sl 5 []],[],(some 5),.other,false,none,none,147⟩)]
def TB:Tys:=fun t=>look TL t
theorem TK:TyOK Tryz.prog OQ TB:=tyOK (by kernel_rfl) (by
 intro x hx he
 simp only [TL,List.mem_cons,List.not_mem_nil,or_false] at hx
 rcases hx with rfl | rfl | rfl | rfl | rfl | rfl | rfl | rfl | rfl | rfl | rfl | rfl | rfl | rfl | rfl | rfl | rfl | rfl | rfl | rfl | rfl | rfl | rfl | rfl | rfl | rfl | rfl | rfl | rfl | rfl | rfl | rfl | rfl | rfl | rfl | rfl | rfl | rfl | rfl | rfl | rfl | rfl | rfl | rfl | rfl | rfl | rfl | rfl | rfl | rfl<;>first | exact absurd he Bool.false_ne_true | exact eq_Word | exact eq_FlVal)
theorem MX:Tryz.prog.follows .mixedOrders=true:=by kernel_rfl
end Go.Proofs.YtoaoebimjmjpeaaGreatDoor
