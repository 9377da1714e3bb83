/- What an operation does to a memory of parts. -/
import Derived.Deep.MidRow
import Derived.Great.BuildSlice
import Derived.Test.YtgabigepocfllaaGreatDoorQ02
namespace Go.Proofs.YtgabigepocfllaaGreatDoor
open Go.RowKit Vn
set_option maxRecDepth 100000
set_option maxHeartbeats 8000000
inductive Kd where
 | int (k:IntKind)
 | str
 | bool
 | other
structure Ty where
 agg:Bool
 zero:List AC
 flds:List (Nat×Nat×Bool)
 elem:Option Nat
 kd:Kd
 eq:Bool
 arr:Option Nat:=none
inductive Eff where
 | val (v:AV)
 | new (T:Nat) (cs:List AC)
 | sto (h T:Nat) (off:Nat) (cs all:List AC)
structure View where
 tv:Nat→AV
 bv:Nat→Option (Nat×List AC)
def upd {α:Type} (f:Nat→α) (k:Nat) (x:α):Nat→α:=fun i=>cond (Nat.beq i k) x (f i)
def View.put (V:View) (d:Option Nat) (x:AV):View :=
 match d with
 | some t=>⟨upd V.tv t x,V.bv⟩
 | none=>V
def View.app (V:View) (e:Eff) (d:Option Nat):View :=
 match e with
 | .val x=>V.put d x
 | .new T cs=>match d with
  | some t=>⟨upd V.tv t (.c (.p t 0)),upd V.bv t (some (T,cs))⟩
  | none=>V
 | .sto h T _ _ all=>(⟨V.tv,upd V.bv h (some (T,all))⟩:View).put d (.t [])
def View.ev (V:View):Operand→AV
 | .tmp t=>V.tv t
 | .const (.tuple _)=>.j
 | .const (.agg _)=>.j
 | .const x=>.c (.v x)
 | .global g=>.c (.v (.pointer (some ⟨g,0,none⟩)))
 | .func f=>.c (.v (.func (.func f) #[] #[]))
theorem cond_ff {b:Bool} {p:Prop} (h:cond b p False):b=true∧p:=by
 cases b with
 | false=>exact h.elim
 | true=>exact ⟨rfl,h⟩
/-! ### the parts of a value, brought out one by one -/
def takeK:Nat→List AC→(List AC→Prop)→Prop
 | 0,_,k=>k []
 | n+1,c :: cs,k=>takeK n cs fun l=>k (c :: l)
 | _+1,[],_=>False
theorem takeK_iff:∀ (n:Nat) (cs:List AC) (k:List AC→Prop),takeK n cs k↔n≤cs.length∧k (cs.take n)
 | 0,cs,k=>by simp [takeK]
 | n+1,[],k=>by simp [takeK]
 | n+1,c :: cs,k=>by simp [takeK,takeK_iff n cs]
def allK:List AC→(List AC→Prop)→Prop
 | [],k=>k []
 | c :: cs,k=>allK cs fun l=>k (c :: l)
theorem allK_iff:∀ (cs:List AC) (k:List AC→Prop),allK cs k↔k cs
 | [],k=>by simp [allK]
 | c :: cs,k=>by simp [allK,allK_iff cs]
def cellsK:AV→(List AC→Prop)→Prop
 | .c (.p _ _),_=>False
 | .c x,k=>k [x]
 | .g cs,k=>allK cs k
 | _,_=>False
def fwdK:AV→(AV→Prop)→Prop
 | .c x,k=>k (.c x)
 | .g cs,k=>allK cs fun l=>k (.g l)
 | .t l,k=>k (.t l)
 | .j,_=>False
theorem fwdK_iff (x:AV) (k:AV→Prop):fwdK x k↔x≠.j∧k x:=by
 cases x<;>simp [fwdK,allK_iff]
def partK (agg:Bool) (n:Nat) (cs:List AC) (k:AV→Prop):Prop :=
 match agg with
 | true=>takeK n cs fun l=>k (.g l)
 | false=>match cs with
  | .p _ _ :: _=>False
  | c :: _=>k (.c c)
  | []=>False
def fillK (fl:List (Nat×Nat×Bool)) (ρ:Operand→AV):List (Nat×Operand)→List AC→(List AC→Prop)→Prop
 | [],cs,k=>k cs
 | (i,x) :: r,cs,k=>match fl[i]? with
  | some (off,n,_)=>cellsK (ρ x) fun xs=>cond (Nat.beq xs.length n&&Nat.ble (off+n) cs.length) (fillK fl ρ r (cs.take off++xs++cs.drop (off+n)) k) False
  | none=>False
def rowsK (wd:Nat) (ρ:Operand→AV):Nat→List (Nat×Operand)→(List (List AC)→Prop)→Prop
 | _,[],k=>k []
 | i,(j,x) :: r,k=>cond (Nat.beq j i) (cellsK (ρ x) fun xs=>cond (Nat.beq xs.length wd) (rowsK wd ρ (i+1) r fun l=>k (xs :: l)) False) False
def eqK:List AC→List AC→List AC→(Bool→Prop)→Prop
 | [],[],[],k=>k true
 | .v (.int c _) :: z,.v (.int a x) :: l,.v (.int b y) :: m,k=>cond (decide (a=c)&&decide (b=c)) (eqK z l m fun r=>k (x==y&&r)) False
 | .v (.bool _) :: z,.v (.bool x) :: l,.v (.bool y) :: m,k=>eqK z l m fun r=>k (x==y&&r)
 | .v (.string _) :: z,.v (.string x) :: l,.v (.string y) :: m,k=>eqK z l m fun r=>k (x.toList==y.toList&&r)
 | _,_,_,_=>False
noncomputable def fitsB (x y:ByteArray):Bool := @decide (((x.size+y.size:Nat):Int)≤IntKind.i64.max) (Classical.propDecidable _)
theorem fits_of {x y:ByteArray} (h:x.size+y.size≤9223372036854775807):fitsB x y=true := @decide_eq_true _ (Classical.propDecidable _) (by show _≤(9223372036854775807:Int);omega)
theorem of_fits {x y:ByteArray} (h:fitsB x y=true):((x.size+y.size:Nat):Int)≤IntKind.i64.max := @of_decide_eq_true _ (Classical.propDecidable _) h
def binK (op:BinOp) (a b:Value) (k:Value→Prop):Prop :=
 match op,a,b with
 | .shl,.int p x,.int _ y=>cond (decide (0≤y)) (k (.int p (p.wrap (x*2^(min y.toNat p.bits))))) False
 | .shr,.int p x,.int _ y=>cond (decide (0≤y)) (k (.int p (x.fdiv (2^(min y.toNat p.bits))))) False
 | .add,.int p x,.int q y=>cond (decide (p=q)) (k (.int p (p.wrap (x+y)))) False
 | .sub,.int p x,.int q y=>cond (decide (p=q)) (k (.int p (p.wrap (x-y)))) False
 | .mul,.int p x,.int q y=>cond (decide (p=q)) (k (.int p (p.wrap (x*y)))) False
 | .quo,.int p x,.int q y=>cond (decide (p=q)&&decide (y≠0)) (k (.int p (p.wrap (x.tdiv y)))) False
 | .rem,.int p x,.int q y=>cond (decide (p=q)&&decide (y≠0)) (k (.int p (x.tmod y))) False
 | .and,.int p x,.int q y=>cond (decide (p=q)) (k (.int p (p.wrap (BitVec.ofInt p.bits x &&& BitVec.ofInt p.bits y).toNat))) False
 | .or,.int p x,.int q y=>cond (decide (p=q)) (k (.int p (p.wrap (BitVec.ofInt p.bits x ||| BitVec.ofInt p.bits y).toNat))) False
 | .xor,.int p x,.int q y=>cond (decide (p=q)) (k (.int p (p.wrap (BitVec.ofInt p.bits x ^^^ BitVec.ofInt p.bits y).toNat))) False
 | .eql,.int p x,.int q y=>cond (decide (p=q)) (k (.bool (x==y))) False
 | .neq,.int p x,.int q y=>cond (decide (p=q)) (k (.bool (x != y))) False
 | .lss,.int p x,.int q y=>cond (decide (p=q)) (k (.bool (decide (x<y)))) False
 | .leq,.int p x,.int q y=>cond (decide (p=q)) (k (.bool (decide (x≤y)))) False
 | .gtr,.int p x,.int q y=>cond (decide (p=q)) (k (.bool (decide (x>y)))) False
 | .geq,.int p x,.int q y=>cond (decide (p=q)) (k (.bool (decide (x≥y)))) False
 | .eql,.string x,.string y=>k (.bool (x.toList==y.toList))
 | .neq,.string x,.string y=>k (.bool (!(x.toList==y.toList)))
 | .add,.string x,.string y=>cond (fitsB x y) (k (.string (x++y))) False
 | _,_,_=>False
def unK (op:UnOp) (a:Value) (k:Value→Prop):Prop :=
 match op,a with
 | .not,.bool b=>k (.bool (!b))
 | .neg,.int p x=>k (.int p (p.wrap (0-x)))
 | _,_=>False
def argsK (ρ:Operand→AV):List Operand→(List AV→Prop)→Prop
 | [],k=>k []
 | x :: r,k=>match ρ x with
  | .c (.p _ _)=>False
  | .c c=>argsK ρ r fun l=>k (.c c :: l)
  | .g cs=>allK cs fun m=>argsK ρ r fun l=>k (.g m :: l)
  | _=>False
def noPV:AV→Bool
 | .c x => !isP x
 | .g _=>true
 | .t l=>l.all fun | .c x => !isP x | .g _=>true | _=>false
 | .j=>false
structure Cal (P:Program) (O:Opq) (k:FuncId) (args:List AV) (r:AV):Prop where
 body:∃ fn,P.funcs[k]?=some fn∧(fn.name == "runtime.NumGoroutine")=false∧fn.body.isNone=false
 nop:noPV r=true
 run:∀ (S:Nat→Prop) (w:World) (vs:List Value),(∀ b,S b→b<w.heap.size)→O.inv w→All2 (RepW O (fun _=>none) S w) vs args →
  Calls P k vs.toArray w fun e w'=>∃ v,e=.returned v∧Ext w w'∧RepV O (fun _=>none) (fun b=>S b∨(w.heap.size≤b∧b<w'.heap.size)) w' v r
abbrev Tys:=Nat→Option Ty
def evOp (P:Program) (O:Opq) (T:Tys) (op:Op) (ρ:Operand→AV) (bv:Nat→Option (Nat×List AC)) (K:Eff→Prop):Prop :=
 match op with
 | .move x | .assign x=>fwdK (ρ x) fun v=>K (.val v)
 | .pick c a b=>match ρ c with
  | .c (.v (.bool t))=>cond t (fwdK (ρ a) fun v=>K (.val v)) (fwdK (ρ b) fun v=>K (.val v))
  | _=>False
 | .alloc t=>match T t with
  | some ty=>cond (O.box t) (K (.new t ty.zero)) False
  | none=>False
 | .box t x=>cellsK (ρ x) fun cs=>cond (O.box t) (K (.new t cs)) False
 | .build t parts=>match T t with
  | some ty=>cond ty.flds.isEmpty False (fillK ty.flds ρ parts.toList ty.zero fun cs=>allK cs fun l=>K (.val (.g l)))
  | none=>False
 | .buildSlice t n parts=>match T t with
  | some ty=>match ty.elem with
   | some wd=>rowsK wd ρ 0 parts.toList fun rs=>cond (Nat.beq rs.length n&&Nat.ble (n*wd) 16777216&&Nat.blt 0 (n*wd)) (K (.val (.c (.sl wd rs)))) False
   | none=>False
  | none=>False
 | .load t a=>match T t with
  | some ty=>match ρ a with
   | .c (.p h off)=>match bv h with
    | some (_,cs)=>partK ty.agg ty.zero.length (cs.drop off) fun v=>K (.val v)
    | none=>False
   | .c (.e cs)=>partK ty.agg ty.zero.length cs fun v=>K (.val v)
   | .c (.v (.pointer (some ⟨g,i,none⟩)))=>match ty.agg,O.tab g i with
    | false,some x=>K (.val (.c (.v x)))
    | _,_=>False
   | _=>False
  | none=>False
 | .store t a x=>match T t with
  | some ty=>match ρ a with
   | .c (.p h off)=>match bv h with
    | some (U,cs)=>cellsK (ρ x) fun xs=>cond (Nat.beq xs.length ty.zero.length&&Nat.ble (off+xs.length) cs.length) (allK (cs.take off++xs++cs.drop (off+xs.length)) fun l=>K (.sto h U off xs l)) False
    | none=>False
   | _=>False
  | none=>False
 | .fieldAddr s x f=>match T s with
  | some ty=>match ty.flds[f]?,ρ x with
   | some (off,_,_),.c (.p h o)=>K (.val (.c (.p h (o+off))))
   | some (off,_,_),.c (.e cs)=>K (.val (.c (.e (cs.drop off))))
   | _,_=>False
  | none=>False
 | .field s x f=>match T s with
  | some ty=>match ty.flds[f]?,ρ x with
   | some (off,n,ag),.g cs=>partK ag n (cs.drop off) fun v=>K (.val v)
   | _,_=>False
  | none=>False
 | .indexAddr t x i=>match T t with
  | some ty=>match ty.elem,ρ x,ρ i with
   | some wd,.c (.sl wd' xs),.c (.v (.int _ n))=>cond (Nat.beq wd wd'&&decide (0≤n)&&decide (n.toNat<xs.length)) (K (.val (.c (.e (xs.getD n.toNat []))))) False
   | none,.c (.v (.pointer (some ⟨g,0,none⟩))),.c (.v (.int _ n))=>match ty.arr with
    | some l=>cond (decide (0≤n)&&decide (n.toNat<l)) (K (.val (.c (.v (.pointer (some ⟨g,n.toNat,none⟩)))))) False
    | none=>False
   | _,_,_=>False
  | none=>False
 | .extract x i=>match ρ x with
  | .t l=>match l[i]? with
   | some (.c (.p _ _))=>False
   | some (.c c)=>K (.val (.c c))
   | some (.g cs)=>allK cs fun m=>K (.val (.g m))
   | _=>False
  | _=>False
 | .binOp op t x y _=>match ρ x,ρ y with
  | .c (.v (.bool p)),.c (.v (.bool q))=>match op,T t with
   | .eql,some ty=>match ty.kd with
    | .bool=>K (.val (.c (.v (.bool (p==q)))))
    | _=>False
   | .neq,some ty=>match ty.kd with
    | .bool=>K (.val (.c (.v (.bool (!(p==q))))))
    | _=>False
   | _,_=>False
  | .c (.v a),.c (.v b)=>binK op a b fun r=>K (.val (.c (.v r)))
  | .g xs,.g ys=>match op,T t with
   | .eql,some ty=>cond ty.eq (eqK ty.zero xs ys fun b=>K (.val (.c (.v (.bool b))))) False
   | .neq,some ty=>cond ty.eq (eqK ty.zero xs ys fun b=>K (.val (.c (.v (.bool (!b)))))) False
   | _,_=>False
  | _,_=>False
 | .unOp op _ x=>match ρ x with
  | .c (.v a)=>unK op a fun r=>K (.val (.c (.v r)))
  | _=>False
 | .convert s d x=>match T s,T d with
  | some sy,some dy=>match sy.kd,dy.kd,ρ x with
   | .int _,.int k,.c (.v (.int _ n))=>K (.val (.c (.v (.int k (k.wrap n)))))
   | .str,.str,.c (.v (.string b))=>K (.val (.c (.v (.string b))))
   | _,_,_=>False
  | _,_=>False
 | .makeFunc fn fs cs=>cond (fs.toList.isEmpty&&cs.toList.isEmpty) (K (.val (.c (.v (.func fn #[] #[]))))) False
 | .call c=>match c.callee with
  | .value f=>match ρ f with
   | .c (.v (.func (.func k) ⟨[]⟩ ⟨[]⟩))=>argsK ρ c.args.toList fun l=>∃ r,Cal P O k l r∧K (.val r)
   | _=>False
  | .builtin .len=>match c.args.toList,c.argTypes.toList with
   | [x],[t]=>match T t with
    | some ty=>match ty.elem,ty.kd,ρ x with
     | some _,_,.c (.sl _ xs)=>K (.val (.c (.v (.int .i64 (xs.length:Nat)))))
     | some _,_,.c (.v (.slice none 0 0))=>K (.val (.c (.v (.int .i64 0))))
     | none,.str,.c (.v (.string s))=>K (.val (.c (.v (.int .i64 (s.size:Nat)))))
     | _,_,_=>False
    | none=>False
   | _,_=>False
  | .builtin .max=>match c.args.toList with
   | [x,y]=>match ρ x,ρ y with
    | .c (.v (.int p a)),.c (.v (.int _ b))=>K (.val (.c (.v (.int p (if b>a then b else a)))))
    | _,_=>False
   | _=>False
  | .builtin .min=>match c.args.toList with
   | [x,y]=>match ρ x,ρ y with
    | .c (.v (.int p a)),.c (.v (.int _ b))=>K (.val (.c (.v (.int p (if b<a then b else a)))))
    | _,_=>False
   | _=>False
  | _=>False
 | _=>False
def EqV:List AC→List Value→List Value→Bool→Prop
 | [],[],[],b=>b=true
 | .v (.int c _) :: z,.int p x :: l,.int q y :: m,b=>p=c∧q=c∧∃ r,EqV z l m r∧b=(x==y&&r)
 | .v (.bool _) :: z,.bool x :: l,.bool y :: m,b=>∃ r,EqV z l m r∧b=(x==y&&r)
 | .v (.string _) :: z,.string x :: l,.string y :: m,b=>∃ r,EqV z l m r∧b=(x.toList==y.toList&&r)
 | _,_,_,_=>False
def EqFact (P:Program) (t:TypeId) (z:List AC):Prop:=∀ (vs us:List Value) (b:Bool) (w:World),EqV z vs us b →
 (binOp .eql t (.agg vs.toArray) (.agg us.toArray)).run P w=.ok (.bool b) w∧(binOp .neq t (.agg vs.toArray) (.agg us.toArray)).run P w=.ok (.bool (!b)) w ∧
 ∀ op x y,(eqGuard op t x y (.agg vs.toArray) (.agg us.toArray)).run P w=.ok () w
structure TyFact (P:Program) (O:Opq) (t:TypeId) (ty:Ty):Prop where
 info:∃ i z,P.info? t=some i∧i.size=ty.zero.length∧i.zero=some z∧∀ S w,RepCs O S w z.cells.toList ty.zero
 und:∃ d,P.underlying t=some d∧d.isRow=ty.agg∧(ty.kd=.str→d=.string)∧(ty.kd=.bool→d=.bool)∧∀ k,ty.kd=.int k→d=.int k
 fld:∀ (f off n:Nat) (g:Bool),ty.flds[f]?=some (off,n,g)→∃ (fs:Array Field) (fd:Field) (i:TypeInfo) (d:TypeDesc),P.underlying t=some (.struct fs)∧fs[f]?=some fd∧fd.offset=off∧P.info? fd.type=some i∧i.size=n∧n≠0∧P.underlying fd.type=some d∧d.isRow=g
 str:ty.flds.isEmpty=false→∃ fs:Array Field,P.underlying t=some (.struct fs)∧fs.toList.mapM (fun (f:Field)=>(P.info? f.type).map fun i=>(f.offset,i.size))=some (ty.flds.map fun x=>(x.1,x.2.1))
 elem:∀ s,ty.elem=some s→∃ e i z,P.underlying t=some (.slice e)∧P.info? e=some i∧i.size=s∧i.zero=some z
 arr:∀ l,ty.arr=some l→∃ e i,P.underlying t=some (.array l e)∧P.info? e=some i∧i.size=1∧2≤l
 eql:ty.eq=true→EqFact P t ty.zero
def TyOK (P:Program) (O:Opq) (T:Tys):Prop:=∀ t ty,T t=some ty→TyFact P O t ty
structure Corr (O:Opq) (n:Nat) (w0:World×(Nat→Prop)) (β:Nat→Option Nat) (S:Nat→Prop) (V:View) (a:Act) (w:World):Prop where
 tm:∀ i,RepV O β S w (a.tmps.getD i undef) (V.tv i)
 sz:a.tmps.size=n
 bl:∀ h b,β h=some b→∃ T cs vs,V.bv h=some (T,cs)∧w.heap[b]?=some (.cells (List.toArray vs) T (0,0))∧RepCs O S w vs cs∧w0.1.heap.size≤b∧¬ S b∧O.box T=true
 dm:∀ h,(V.bv h).isSome=true→(β h).isSome=true
 inj:∀ h h' b,β h=some b→β h'=some b→h=h'
 sl:∀ b,S b→b<w.heap.size
 ex:Ext w0.1 w
 sb:∀ b,S b→w0.2 b∨w0.1.heap.size≤b
 iv:O.inv w0.1
 df:a.defers=[]
section
variable {O:Opq} {n:Nat} {w0:World×(Nat→Prop)} {β:Nat→Option Nat} {S:Nat→Prop} {V:View} {a:Act} {w:World}
theorem Corr.ev (C:Corr O n w0 β S V a w) (x:Operand):RepV O β S w (a.eval x) (V.ev x):=by
 cases x with
 | tmp t=>exact C.tm t
 | const x=>cases x<;>first | trivial | exact ⟨rfl,rfl⟩
 | global g=>exact ⟨rfl,rfl⟩
 | func f=>exact ⟨rfl,rfl⟩
theorem upd_same {α:Type} (f:Nat→α) (k:Nat) (x:α):upd f k x k=x:=by simp [upd]
theorem upd_ne {α:Type} (f:Nat→α) {k i:Nat} (x:α) (h:i≠k):upd f k x i=f i:=by
 have:Nat.beq i k=false:=by cases e:Nat.beq i k with
  | false=>rfl
  | true=>exact absurd (Nat.eq_of_beq_eq_true e) h
 simp [upd,this]
theorem Corr.put (C:Corr O n w0 β S V a w) {d:Option Nat} (hd:∀ t,d=some t→t<n) {v:Value} {x:AV} (r:RepV O β S w v x):Corr O n w0 β S (V.put d x) (a.put d v) w:=by
 cases d with
 | none=>exact C
 | some t =>
  have ht:=hd t rfl;refine ⟨fun i => ?_,by simp [Act.put,C.sz],C.bl,C.dm,C.inj,C.sl,C.ex,C.sb,C.iv,C.df⟩
  by_cases e:i=t
  ·subst e
   have:(a.put (some i) v).tmps.getD i undef=v:=by
    have hs:=C.sz
    simp [Act.put,Array.getD,hs,ht]
   rw [this]
   show RepV O β S w v (upd V.tv i x i)
   rw [upd_same];exact r
  ·have:(a.put (some t) v).tmps.getD i undef=a.tmps.getD i undef:=by
    simp only [Act.put,Array.getD_eq_getD_getElem?];rw [Array.getElem?_setIfInBounds_ne (fun h=>e h.symm)]
   rw [this]
   show RepV O β S w _ (upd V.tv t x i)
   rw [upd_ne _ _ e];exact C.tm i
theorem Corr.evo (C:Corr O n w0 β S V a w) {w':World} {S':Nat→Prop} (he:Ext w w') (hs:∀ b,S b→S' b) (hn:∀ b,S' b→S b∨(w.heap.size≤b∧b<w'.heap.size)):Corr O n w0 β S' V a w':=by
 have ev:=Evo.of_ext (O:=O) he C.sl;refine ⟨fun i=>(C.tm i).evo ev hs (fun _ _ h=>h),C.sz,fun h b hb => ?_,C.dm,C.inj,fun b hb => ?_,Ext.trans C.ex he,fun b hb => ?_,C.iv,C.df⟩
 ·obtain ⟨T,cs,vs,h1,h2,h3,h4,h5,h6⟩:=C.bl h b hb
  exact ⟨T,cs,vs,h1,he.heap h2,h3.evo ev hs,h4,fun hS=>by
   rcases hn b hS with h | h
   ·exact h5 h
   ·have:=cell_lt h2;omega,h6⟩
 ·rcases hn b hb with h | h
  ·exact Nat.lt_of_lt_of_le (C.sl b h) he.size
  ·exact h.2
 ·rcases hn b hb with h | h
  ·exact C.sb b h
  ·exact .inr (Nat.le_trans C.ex.size h.1)
theorem Corr.new (C:Corr O n w0 β S V a w) {t:Nat} (ht:t<n) (hf:V.bv t=none) {T:TypeId} {cs:List AC} {vs:List Value} (r:RepCs O S w vs cs) (hT:O.box T=true) :
  Corr O n w0 (upd β t (some w.heap.size)) S (V.app (.new T cs) (some t)) (a.put (some t) (.pointer (some ⟨w.heap.size,0,none⟩))) (w.alloc (.cells vs.toArray T)):=by
 have he:Ext w (w.alloc (.cells vs.toArray T)):=(Below.refl _ _).alloc (Nat.le_refl _) _;have C1:=C.evo he (S':=S) (fun _ h=>h) (fun _ h=>.inl h);have hβ:β t=none:=by
  cases e:β t with
  | none=>rfl
  | some b=>obtain ⟨T,cs,_,h1,_⟩:=C.bl t b e;rw [hf] at h1;cases h1
 have hext:∀ k b,β k=some b→upd β t (some w.heap.size) k=some b:=fun k b h=>by
  rw [upd_ne];exact h
  intro e;rw [e,hβ] at h;cases h
 have hnew:(w.alloc (.cells vs.toArray T)).heap[w.heap.size]?=some (.cells vs.toArray T (0,0)):=by
  show (w.heap.push _)[w.heap.size]?=_
  simp
 have ev0:=Evo.of_ext (O:=O) he C.sl;have C2:Corr O n w0 (upd β t (some w.heap.size)) S ⟨V.tv,upd V.bv t (some (T,cs))⟩ a (w.alloc (.cells vs.toArray T)):=by
  refine ⟨fun i=>(C1.tm i).evo (Evo.refl _ _ _) (fun _ h=>h) hext,C1.sz,fun h b hb => ?_,fun h hs => ?_,fun h h' b hb hb' => ?_,C1.sl,C1.ex,C1.sb,C1.iv,C1.df⟩
  ·by_cases e:h=t
   ·subst e;rw [upd_same] at hb;cases hb
    exact ⟨T,cs,vs,upd_same _ _ _,hnew,r.evo ev0 (fun _ h=>h),C.ex.size,fun hS=>by have:=C.sl _ hS;omega,hT⟩
   ·rw [upd_ne _ _ e] at hb;obtain ⟨T',cs',vs',h1,h2⟩:=C1.bl h b hb
    exact ⟨T',cs',vs',by show upd V.bv t _ h=_;rw [upd_ne _ _ e];exact h1,h2⟩
  ·by_cases e:h=t
   ·subst e;rw [upd_same];rfl
   ·rw [upd_ne _ _ e];have hs':(upd V.bv t (some (T,cs)) h).isSome=true:=hs;rw [upd_ne _ _ e] at hs'
    exact C.dm h hs'
  ·have hlt:∀ k b,β k=some b→b<w.heap.size:=fun k b h=>by
    obtain ⟨_,_,_,_,h2,_⟩:=C.bl k b h;exact cell_lt h2
   by_cases e:h=t<;>by_cases e':h'=t
   ·rw [e,e']
   ·subst e;rw [upd_same] at hb;rw [upd_ne _ _ e'] at hb';cases hb;have:=hlt _ _ hb';omega
   ·subst e';rw [upd_same] at hb';rw [upd_ne _ _ e] at hb;cases hb';have:=hlt _ _ hb;omega
   ·rw [upd_ne _ _ e] at hb;rw [upd_ne _ _ e'] at hb';exact C.inj _ _ _ hb hb'
 exact C2.put (d:=some t) (fun _ h=>by cases h;exact ht) (v:=.pointer (some ⟨w.heap.size,0,none⟩)) (x:=.c (.p t 0)) ⟨_,upd_same _ _ _,rfl⟩
theorem setCells_heap (b:Nat) {T:TypeId}:∀ (xs:List Value) (off:Nat) (w:World) (vs:List Value),w.heap[b]?=some (.cells vs.toArray T (0,0))→off+xs.length≤vs.length →
  (w.setCells b off xs).heap[b]?=some (.cells (vs.take off++xs++vs.drop (off+xs.length)).toArray T (0,0))
 | [],off,w,vs,h,_=>by simpa [World.setCells] using h
 | x :: xs,off,w,vs,h,hl=>by
  have hlt:=cell_lt h;have h':w.heap[b]=.cells vs.toArray T (0,0):=by simpa [Array.getElem?_eq_getElem hlt] using h
  have h1:(w.setCell ⟨b,off,none⟩ x).heap[b]?=some (.cells (vs.set off x).toArray T (0,0)):=by
   show (w.heap.modify b _)[b]?=_
   rw [Array.getElem?_eq_getElem (by simpa using hlt),Array.getElem_modify_self,h']
   simp
  have hl':off+1+xs.length≤(vs.set off x).length:=by simp at hl ⊢;omega
  rw [World.setCells,setCells_heap b xs (off+1) _ _ h1 hl']
  congr 2
  congr 1
  simp only [List.length_cons] at hl;have e1:(vs.set off x).take (off+1)=vs.take off++[x]:=by
   rw [List.take_succ_eq_append_getElem (by simp;omega)]
   simp [List.take_set_of_le]
  have e2:(vs.set off x).drop (off+1+xs.length)=vs.drop (off+(x :: xs).length):=by
   rw [List.drop_set_of_lt (by omega)]
   congr 1;simp;omega
  rw [e1,e2];simp
theorem setCells_else (b:Nat):∀ (xs:List Value) (off:Nat) (w:World) (k:Nat),k≠b→(w.setCells b off xs).heap[k]?=w.heap[k]?
 | [],_,_,_,_=>rfl
 | x :: xs,off,w,k,h=>by rw [World.setCells,setCells_else b xs (off+1) _ k h,Below.heap_setCell _ _ _ _ h]
theorem setCells_opq (b:Nat) {T:TypeId} {k n:Nat} {x:Value} (hT:O.box T=true):∀ (xs:List Value) (off:Nat) (w:World) (c:Array Value),w.heap[b]?=some (.cells c T (0,0))→O.R k n w x→O.R k n (w.setCells b off xs) x
 | [],_,_,_,_,r=>r
 | y :: xs,off,w,c,h,r=>by
  have hlt:=cell_lt h;have h':w.heap[b]=.cells c T (0,0):=by simpa [Array.getElem?_eq_getElem hlt] using h
  have h1:∃ c',(w.setCell ⟨b,off,none⟩ y).heap[b]?=some (.cells c' T (0,0)):=by
   refine ⟨c.setIfInBounds off y,?_⟩
   show (w.heap.modify b _)[b]?=_
   rw [Array.getElem?_eq_getElem (by simpa using hlt),Array.getElem_modify_self,h']
   simp
  obtain ⟨c',h1⟩:=h1
  exact setCells_opq b hT xs (off+1) _ c' h1 (O.set r h hT y)
theorem setCells_ext (b:Nat):∀ (xs:List Value) (off:Nat) (w w0:World),Ext w0 w→w0.heap.size≤b→Ext w0 (w.setCells b off xs)
 | [],_,_,_,h,_=>h
 | x :: xs,off,_,w0,h,hb=>setCells_ext b xs (off+1) _ w0 (h.setCell (p:=⟨b,off,none⟩) hb x) hb
theorem Corr.sto (C:Corr O n w0 β S V a w) {h T b off:Nat} {xs cs:List AC} {vs us:List Value} (hb:β h=some b) (h1:V.bv h=some (T,cs)) (h2:w.heap[b]?=some (.cells us.toArray T (0,0)))
  (r:RepCs O S w vs xs) (hl:off+xs.length≤cs.length):Corr O n w0 β S ⟨V.tv,upd V.bv h (some (T,cs.take off++xs++cs.drop (off+xs.length)))⟩ a (w.setCells b off vs):=by
 obtain ⟨T',cs',us',q1,q2,q3,q4,q5,q6⟩:=C.bl h b hb;rw [h1] at q1;cases q1;rw [h2] at q2;have eu:us=us':=by
  have:=(Option.some.inj q2)
  simp at this;exact this
 subst eu;have lv:=r.len;have lu:=q3.len;have ev:Evo O S w (w.setCells b off vs):=⟨fun k hk=>setCells_else b vs off w k (fun e=>q5 (e ▸ hk)),fun r=>setCells_opq b q6 vs off w _ h2 r⟩;have hsz:(w.setCells b off vs).heap.size=w.heap.size:=by
  have:∀ (xs:List Value) (off:Nat) (w:World),(w.setCells b off xs).heap.size=w.heap.size:=by
   intro xs;induction xs with
   | nil=>intro _ _;rfl
   | cons x xs ih=>intro off w;rw [World.setCells,ih];simp [World.setCell]
  exact this vs off w
 refine ⟨fun i=>(C.tm i).evo ev (fun _ h=>h) (fun _ _ h=>h),C.sz,fun k b' hk => ?_,fun k hk => ?_,C.inj,fun k hk=>by rw [hsz];exact C.sl k hk,setCells_ext b vs off w w0.1 C.ex q4,C.sb,C.iv,C.df⟩
 ·by_cases e:k=h
  ·subst e;rw [hb] at hk;cases hk;refine ⟨T,_,us.take off++vs++us.drop (off+vs.length),upd_same _ _ _,?_,?_,q4,q5,q6⟩
   ·exact setCells_heap b vs off w us h2 (by omega)
   ·have q3':=q3.evo ev (fun _ h=>h);have r':=r.evo ev (fun _ h=>h);rw [lv]
    exact (All2.app (All2.app (All2.take off q3') r') (All2.drop _ q3'))
  ·obtain ⟨T',cs',vs',p1,p2,p3,p4,p5,p6⟩:=C.bl k b' hk;have hne:b'≠b:=fun e'=>e (C.inj _ _ _ hk (e' ▸ hb))
   exact ⟨T',cs',vs',by show upd V.bv h _ k=_;rw [upd_ne _ _ e];exact p1,by rw [setCells_else b vs off w b' hne];exact p2,p3.evo ev (fun _ h=>h),p4,p5,p6⟩
 ·by_cases e:k=h
  ·subst e;rw [hb];rfl
  ·have hk':(upd V.bv h (some (T,cs.take off++xs++cs.drop (off+xs.length))) k).isSome=true:=hk;rw [upd_ne _ _ e] at hk';exact C.dm k hk'
end
section
variable {P:Program} {O:Opq} {β:Nat→Option Nat} {S:Nat→Prop} {w:World}
theorem Rep0.cells {c:AC} {x:Value} (h:Rep0 O S w c x):x.cells=#[x]:=by
 have:=h.one;cases x<;>first | rfl | simp [Value.oneCell'] at this
theorem cellsK_rep {x:AV} {v:Value} {k:List AC→Prop} (h:cellsK x k) (r:RepV O β S w v x):∃ cs,k cs∧RepCs O S w v.cells.toList cs:=by
 cases x with
 | c y =>
  cases y with
  | p _ _=>exact h.elim
  | v _ | o _ _ | e _ | sl _ _=>exact ⟨_,h,by rw [Rep0.cells (O:=O) (S:=S) (w:=w) r];exact ⟨r,trivial⟩⟩
 | g cs =>
  obtain ⟨vs,e,r⟩:=r;refine ⟨cs,(allK_iff _ _).1 h,?_⟩;rw [e];exact r
 | t _=>exact h.elim
 | j=>exact h.elim
theorem RepCs.all {vs:List Value} {cs:List AC} (h:RepCs O S w vs cs):∀ v∈vs,v.oneCell'=true:=by
 induction vs generalizing cs with
 | nil=>intro v hv;cases hv
 | cons x vs ih =>
  cases cs with
  | nil=>exact h.elim
  | cons c cs=>intro v hv;cases hv with
   | head=>exact Rep0.one h.1
   | tail _ hv=>exact ih h.2 v hv
theorem RepRow.list:∀ (cs:List AC) (b off:Nat),RepRow O S w cs b off→∃ vs,(∀ j v,vs[j]?=some v→w.cell? ⟨b,off+j,none⟩=some v)∧RepCs O S w vs cs
 | [],_,_,_=>⟨[],fun j v h=>by simp at h,trivial⟩
 | c :: cs,b,off,h=>by
  simp only [RepRow] at h;obtain ⟨⟨x,hx,r⟩,h⟩:=h;obtain ⟨vs,h1,h2⟩:=RepRow.list cs b (off+1) h;refine ⟨x :: vs,fun j v hj => ?_,r,h2⟩
  cases j with
  | zero=>simp at hj;rw [←hj];exact hx
  | succ j=>rw [show off+(j+1)=off+1+j by omega];exact h1 j v (by simpa using hj)
theorem RepRow.drop:∀ (n:Nat) (cs:List AC) (b off:Nat),RepRow O S w cs b off→RepRow O S w (cs.drop n) b (off+n)
 | 0,_,_,_,h=>h
 | n+1,[],_,_,_=>by simp [RepRow]
 | n+1,c :: cs,b,off,h=>by
  simp only [RepRow] at h
  have:=RepRow.drop n cs b (off+1) h.2
  rw [show off+(n+1)=off+1+n by omega];exact this
theorem RepRow.of_list:∀ (cs:List AC) (vs:List Value) (b off:Nat),(∀ j v,vs[j]?=some v→w.cell? ⟨b,off+j,none⟩=some v)→RepCs O S w vs cs→RepRow O S w cs b off
 | [],_,_,_,_,_=>by simp [RepRow]
 | c :: cs,[],_,_,_,h=>h.elim
 | c :: cs,x :: vs,b,off,h,r=>by
  simp only [RepRow]
  exact ⟨⟨x,h 0 x rfl,r.1⟩,RepRow.of_list cs vs b (off+1) (fun j v hj=>by rw [show off+1+j=off+(j+1) by omega];exact h (j+1) v (by simpa using hj)) r.2⟩
theorem RepRows.get (wd:Nat):∀ (xs:List (List AC)) (b off i:Nat),RepRows O S w wd xs b off→i<xs.length→(xs.getD i []).length=wd∧RepRow O S w (xs.getD i []) b (off+i*wd)
 | [],_,_,i,_,h=>by simp at h
 | r :: rs,b,off,0,q,_=>by simp only [RepRows] at q;simpa using ⟨q.1,q.2.1⟩
 | r :: rs,b,off,i+1,q,h=>by
  simp only [RepRows] at q
  have:=RepRows.get wd rs b (off+wd) i q.2.2 (by simpa using h)
  rw [show off+wd+i*wd=off+(i+1)*wd by rw [Nat.add_mul];omega] at this
  simpa using this
theorem RepRows.of_list (wd:Nat):∀ (xs:List (List AC)) (vs:List Value) (b off:Nat),(∀ r∈xs,r.length=wd)→(∀ j v,vs[j]?=some v→w.cell? ⟨b,off+j,none⟩=some v)→RepCs O S w vs xs.flatten→RepRows O S w wd xs b off
 | [],_,_,_,_,_,_=>by simp [RepRows]
 | r :: rs,vs,b,off,hw,h,q=>by
  simp only [RepRows];have e:(r :: rs).flatten=r++rs.flatten:=by simp
  rw [e] at q;have hr:r.length=wd:=hw r (by simp);have q1:RepCs O S w (vs.take wd) r:=by have:=All2.take r.length q;rw [List.take_left,hr] at this;exact this
  have q2:RepCs O S w (vs.drop wd) rs.flatten:=by have:=All2.drop r.length q;rw [List.drop_left,hr] at this;exact this
  refine ⟨hr,RepRow.of_list r (vs.take wd) b off (fun j v hj => ?_) q1,RepRows.of_list wd rs (vs.drop wd) b (off+wd) (fun x hx=>hw x (by simp [hx])) (fun j v hj => ?_) q2⟩
  ·rw [List.getElem?_take] at hj
   split at hj
   ·exact h j v hj
   ·cases hj
  ·rw [List.getElem?_drop] at hj;rw [Nat.add_assoc];exact h _ v hj
theorem run_isAgg {t:TypeId} {d:TypeDesc} (hu:P.underlying t=some d) (w:World):(isAgg t).run P w=.ok d.isRow w:=by
 unfold isAgg;rw [Sem.run_bind,run_underlying hu w]
 cases d<;>simp [TypeDesc.isRow]
theorem partK_rep {ag:Bool} {m:Nat} {cs:List AC} {k:AV→Prop} (h:partK ag m cs k) {vs:List Value} (r:RepCs O S w vs cs) :
  (ag=true→m≤vs.length∧k (.g (cs.take m))∧RepW O β S w (.agg (vs.take m).toArray) (.g (cs.take m)))∧(ag=false→∃ v c,vs[0]?=some v∧k (.c c)∧RepW O β S w v (.c c)):=by
 refine ⟨fun e => ?_,fun e => ?_⟩
 ·subst e;simp only [partK,takeK_iff] at h
  exact ⟨by rw [r.len];exact h.1,h.2,_,rfl,All2.take m r⟩
 ·subst e
  cases cs with
  | nil=>exact h.elim
  | cons c cs =>
   cases vs with
   | nil=>exact r.elim
   | cons v vs =>
    refine ⟨v,c,rfl,?_,r.1.toC⟩
    cases c with
    | p _ _=>exact h.elim
    | _=>exact h
theorem load_rep {T:Tys} (TK:TyOK P O T) {t:TypeId} {ty:Ty} (ht:T t=some ty) {b off:Nat} {vs:List Value} {cs:List AC} (hc:∀ j v,vs[j]?=some v→w.cell? ⟨b,off+j,none⟩=some v) (r:RepCs O S w vs cs)
  {k:AV→Prop} (h:partK ty.agg ty.zero.length cs k):∃ v x,(Instr.loadAt t (.pointer (some ⟨b,off,none⟩))).run P w=.ok v w∧RepW O β S w v x∧k x∧x≠.j∧∀ l,x≠.t l:=by
 obtain ⟨i,z,hi,hs,_⟩:=(TK t ty ht).info;obtain ⟨d,hu,hd,_⟩:=(TK t ty ht).und;obtain ⟨p1,p2⟩:=partK_rep (β:=β) h r
 cases e:ty.agg with
 | true =>
  obtain ⟨hl,hk,q⟩:=p1 e;rw [e] at hd;refine ⟨_,_,run_loadAt_mid w b off t (vs.take ty.zero.length) d (fun j v hj => ?_) hu hd (by rw [hi];simp [hs,hl]),q,hk,by simp,by simp⟩;rw [List.getElem?_take] at hj
  split at hj
  ·exact hc j v hj
  ·cases hj
 | false =>
  obtain ⟨v,c,hv,hk,q⟩:=p2 e;rw [e] at hd;refine ⟨v,_,?_,q,hk,by simp,by simp⟩
  have:=hc 0 v hv
  simp only [Instr.loadAt,Instr.sureAddr,Sem.run_bind,Sem.run_pure,Result.andThen_ok,loadVar,run_isAgg hu w,hd];simp only [Nat.add_zero] at this
  simp [load,Sem.run,this]
theorem store_run {t:TypeId} {i:TypeInfo} (hi:P.info? t=some i) {b off:Nat} {v:Value} (hs:v.cells.size=i.size) (ht:w.there b off v.cells.size) (h1:∀ x∈v.cells.toList,x.oneCell'=true) :
  (Instr.storeAt t (.pointer (some ⟨b,off,none⟩)) v).run P w=.ok () (w.setCells b off v.cells.toList):=by
 have:=run_storeCells_cells (P:=P) b off v.cells.toList 0 w (fun j hj=>by simpa using (ht j (by simpa using hj)).1) (fun j hj=>by simpa using (ht j (by simpa using hj)).2) h1
 simp only [Nat.add_zero] at this
 simp [Instr.storeAt,Instr.sureAddr,storeVar,sizeOf,typeInfo,hi,hs,this]
/-! ### a struct or a slice laid out of parts -/
theorem foldl_put:∀ (l:List Value) (off j:Nat) (cs:Array Value),off+j+l.length≤cs.size →
  (l.zipIdx j).foldl (fun cs x=>cs.setIfInBounds (off+x.2) x.1) cs=(cs.toList.take (off+j)++l++cs.toList.drop (off+j+l.length)).toArray
 | [],off,j,cs,_=>by simp
 | x :: l,off,j,cs,h=>by
  simp only [List.zipIdx_cons,List.foldl_cons];simp only [List.length_cons] at h;rw [foldl_put l off (j+1) _ (by simp;omega)];have hl:off+j<cs.toList.length:=by simp;omega
  have e1:(cs.setIfInBounds (off+j) x).toList=cs.toList.set (off+j) x:=by simp
  rw [e1,show off+(j+1)=off+j+1 by omega];have e2:(cs.toList.set (off+j) x).take (off+j+1)=cs.toList.take (off+j)++[x]:=by
   rw [List.take_succ_eq_append_getElem (by simpa using hl)]
   simp [List.take_set_of_le]
  have e3:(cs.toList.set (off+j) x).drop (off+j+1+l.length)=cs.toList.drop (off+j+(x :: l).length):=by
   rw [List.drop_set_of_lt (by omega)]
   congr 1;simp;omega
  rw [e2,e3];simp
theorem fill_put (place:Nat→Option (Nat×Nat)) (i off n:Nat) (hp:place i=some (off,n)) (v:Value) (hv:v.cells.size=n) (cs:List Value) (hl:off+n≤cs.length) (r:List (Nat×Value)) :
  Instr.fill place cs.toArray ((i,v) :: r)=Instr.fill place (cs.take off++v.cells.toList++cs.drop (off+n)).toArray r:=by
 have h1:(decide (v.cells.size≠n)||decide (off+v.cells.size>cs.toArray.size))=false:=by simp [hv];omega
 have h2:=foldl_put v.cells.toList off 0 cs.toArray (by simp [hv];omega);simp only [Instr.fill,hp];rw [h1,if_neg (by simp)]
 congr 1
 rw [←Array.foldl_toList,Array.toList_zipIdx,h2]
 simp [hv]
variable {ρ:Operand→AV} {ev:Operand→Value}
theorem fillK_rep (hρ:∀ x,RepV O β S w (ev x) (ρ x)) (fl:List (Nat×Nat×Bool)) (place:Nat→Option (Nat×Nat)) (hp:∀ i x,fl[i]?=some x→place i=some (x.1,x.2.1)) :
  ∀ (parts:List (Nat×Operand)) (cs:List AC) (vs:List Value) (k:List AC→Prop),fillK fl ρ parts cs k→RepCs O S w vs cs →
   ∃ us ds,Instr.fill place vs.toArray (parts.map fun (i,x)=>(i,ev x))=some us∧RepCs O S w us.toList ds∧k ds
 | [],cs,vs,k,h,r=>⟨vs.toArray,cs,rfl,by simpa using r,h⟩
 | (i,x) :: parts,cs,vs,k,h,r=>by
  simp only [fillK] at h
  cases hf:fl[i]? with
  | none=>simp [hf] at h
  | some y =>
   obtain ⟨off,n,g⟩:=y;simp only [hf] at h;obtain ⟨xs,hk,q⟩:=cellsK_rep h (hρ x)
   cases hb:Nat.beq xs.length n&&Nat.ble (off+n) cs.length with
   | false=>rw [hb] at hk;exact hk.elim
   | true =>
    rw [hb] at hk;simp only [Bool.and_eq_true,Nat.beq_eq,Nat.ble_eq] at hb;have e1:=q.len;have e2:=r.len;have hv:(ev x).cells.size=n:=by simp at e1;omega
    rw [List.map_cons,fill_put place i off n (hp i _ hf) (ev x) hv vs (by omega)]
    exact fillK_rep hρ fl place hp parts _ _ k hk (All2.app (All2.app (All2.take off r) q) (All2.drop _ r))
theorem rowsK_rep (hρ:∀ x,RepV O β S w (ev x) (ρ x)) (wd:Nat):∀ (parts:List (Nat×Operand)) (i:Nat) (k:List (List AC)→Prop),rowsK wd ρ i parts k→∀ (pre rest:List Value),pre.length=i*wd→rest.length=parts.length*wd →
   ∃ us rs,Instr.fill (fun i=>some (i*wd,wd)) (pre++rest).toArray (parts.map fun (i,x)=>(i,ev x))=some (pre++us).toArray∧RepCs O S w us rs.flatten∧(∀ r∈rs,r.length=wd)∧rs.length=parts.length∧k rs
 | [],i,k,h,pre,rest,h1,h2=>⟨[],[],by simp at h2;simp [Instr.fill,h2],trivial,by simp,rfl,h⟩
 | (j,x) :: parts,i,k,h,pre,rest,h1,h2=>by
  simp only [rowsK] at h
  cases hb:Nat.beq j i with
  | false=>rw [hb] at h;exact h.elim
  | true =>
   rw [hb] at h;have hj:=Nat.eq_of_beq_eq_true hb;subst hj;obtain ⟨xs,hk,q⟩:=cellsK_rep h (hρ x)
   cases hb:Nat.beq xs.length wd with
   | false=>rw [hb] at hk;exact hk.elim
   | true =>
    rw [hb] at hk;have hx:=Nat.eq_of_beq_eq_true hb;have e1:=q.len;have hv:(ev x).cells.size=wd:=by simp at e1;omega
    simp only [List.length_cons,Nat.add_mul,Nat.one_mul] at h2;rw [List.map_cons,fill_put _ j (j*wd) wd rfl (ev x) hv (pre++rest) (by simp;omega)];have e2:(pre++rest).take (j*wd)=pre:=by rw [←h1,List.take_left]
    have e3:(pre++rest).drop (j*wd+wd)=rest.drop wd:=by rw [←h1,List.drop_append];simp
    rw [e2,e3];obtain ⟨us,rs,f1,f2,f3,f4,f5⟩:=rowsK_rep hρ wd parts (j+1) (fun l=>k (xs :: l)) hk (pre++(ev x).cells.toList) (rest.drop wd) (by simp [h1,hv,Nat.add_mul]) (by simp;omega);refine ⟨(ev x).cells.toList++us,xs :: rs,by rw [f1];simp,?_,?_,by simp [f4],f5⟩
    ·rw [List.flatten_cons];exact All2.app q f2
    ·intro r hr;cases hr with
     | head=>exact hx
     | tail _ hr=>exact f3 r hr
theorem argsK_rep (hρ:∀ x,RepV O β S w (ev x) (ρ x)):∀ (l:List Operand) (k:List AV→Prop),argsK ρ l k→∃ xs,k xs∧All2 (RepW O (fun _=>none) S w) (l.map ev) xs
 | [],k,h=>⟨[],h,trivial⟩
 | x :: l,k,h=>by
  simp only [argsK] at h;have hx:=hρ x
  cases e:ρ x with
  | c y =>
   rw [e] at h hx
   cases y with
   | p _ _=>exact h.elim
   | v _ | o _ _ | e _ | sl _ _ =>
    obtain ⟨xs,h1,h2⟩:=argsK_rep hρ l _ h
    exact ⟨_,h1,hx,h2⟩
  | g cs =>
   rw [e] at h hx;simp only [allK_iff] at h;obtain ⟨xs,h1,h2⟩:=argsK_rep hρ l _ h
   exact ⟨_,h1,hx,h2⟩
  | t _=>rw [e] at h;exact h.elim
  | j=>rw [e] at h;exact h.elim
theorem eqK_rep (zs:List AC):∀ (xs ys:List AC) (k:Bool→Prop),eqK zs xs ys k→∃ b,k b∧∀ vs us,RepCs O S w vs xs→RepCs O S w us ys→EqV zs vs us b:=by
 induction zs with
 | nil =>
  intro xs ys k h
  cases xs with
  | cons _ _=>simp [eqK] at h
  | nil =>
   cases ys with
   | cons _ _=>simp [eqK] at h
   | nil =>
    refine ⟨true,h,fun vs us h1 h2 => ?_⟩
    cases vs with
    | cons _ _=>exact h1.elim
    | nil=>cases us with
     | nil=>rfl
     | cons _ _=>exact h2.elim
 | cons c zs ih =>
  intro xs ys k h
  cases c<;>try (simp [eqK] at h;done)
  rename_i z
  cases z<;>try (simp [eqK] at h;done)
  all_goals
   cases xs<;>try (simp [eqK] at h;done)
   rename_i x xs
   cases x<;>try (simp [eqK] at h;done)
   rename_i x
   cases x<;>try (simp [eqK] at h;done)
   cases ys<;>try (simp [eqK] at h;done)
   rename_i y ys
   cases y<;>try (simp [eqK] at h;done)
   rename_i y
   cases y<;>try (simp [eqK] at h;done)
  ·rename_i x y
   simp only [eqK] at h;obtain ⟨b,h1,h2⟩:=ih xs ys _ h;refine ⟨_,h1,fun vs us r1 r2 => ?_⟩
   cases vs with
   | nil=>exact r1.elim
   | cons v vs=>cases us with
    | nil=>exact r2.elim
    | cons u us =>
     have e1:=r1.1;have e2:=r2.1;simp only [Rep0] at e1 e2;rw [e1.1,e2.1]
     exact ⟨b,h2 vs us r1.2 r2.2,rfl⟩
  ·rename_i p x q y
   simp only [eqK] at h;obtain ⟨hb,h⟩:=cond_ff h;simp only [Bool.and_eq_true,decide_eq_true_eq] at hb;obtain ⟨b,h1,h2⟩:=ih xs ys _ h;refine ⟨_,h1,fun vs us r1 r2 => ?_⟩
   cases vs with
   | nil=>exact r1.elim
   | cons v vs=>cases us with
    | nil=>exact r2.elim
    | cons u us =>
     have e1:=r1.1;have e2:=r2.1;simp only [Rep0] at e1 e2;rw [e1.1,e2.1]
     exact ⟨hb.1,hb.2,b,h2 vs us r1.2 r2.2,rfl⟩
  ·rename_i x y
   simp only [eqK] at h;obtain ⟨b,h1,h2⟩:=ih xs ys _ h;refine ⟨_,h1,fun vs us r1 r2 => ?_⟩
   cases vs with
   | nil=>exact r1.elim
   | cons v vs=>cases us with
    | nil=>exact r2.elim
    | cons u us =>
     have e1:=r1.1;have e2:=r2.1;simp only [Rep0] at e1 e2;rw [e1.1,e2.1]
     exact ⟨b,h2 vs us r1.2 r2.2,rfl⟩
end
section
variable {P:Program} {O:Opq} {T:Tys} {n:Nat} {w0:World×(Nat→Prop)} {β:Nat→Option Nat} {S:Nat→Prop} {V:View} {a:Act} {w:World}
def isNew:Op→Bool
 | .alloc _ | .box _ _=>true
 | _=>false
theorem wp_val {o:Oper} {next:Act→World→Prop} {Q:Exit→Act→World→Prop} {v:Value} {w':World} (hr:(execOp a.eval o).run P w=.ok (.value v) w') (h:next (a.put o.dst v) w'):o.wp P a w next Q:=by
 unfold Oper.wp;rw [hr];exact h
theorem wp_skp {o:Oper} {next:Act→World→Prop} {Q:Exit→Act→World→Prop} {w':World} (hr:(execOp a.eval o).run P w=.ok .skip w') (h:next (a.put o.dst undef) w'):o.wp P a w next Q:=by
 unfold Oper.wp;rw [hr];exact h
def After (O:Opq) (n:Nat) (w0:World×(Nat→Prop)) (V:View) (d:Option Nat) (Kp:Eff→Prop) (next:Act→World→Prop):Prop :=
 ∀ e a' w' β' S',Kp e→Corr O n w0 β' S' (V.app e d) a' w'→next a' w'
theorem after_val {o:Oper} {Kp:Eff→Prop} {next:Act→World→Prop} {Q:Exit→Act→World→Prop} (C:Corr O n w0 β S V a w) (hd:∀ t,o.dst=some t→t<n) (K:After O n w0 V o.dst Kp next)
  {v:Value} {x:AV} (hr:(execOp a.eval o).run P w=.ok (.value v) w) (r:RepV O β S w v x) (hk:Kp (.val x)):o.wp P a w next Q :=
 wp_val hr (K _ _ _ _ _ hk (C.put hd r))
theorem evC {y:Value} {x:Operand} (C:Corr O n w0 β S V a w) (e:V.ev x=.c (.v y)):a.eval x=y:=by
 have:=C.ev x;rw [e] at this;exact this.1
theorem RepW.toV {v:Value} {x:AV} (h:RepW O β S w v x) (hx:∀ l,x≠.t l):RepV O β S w v x:=by
 cases x with
 | t l=>exact absurd rfl (hx l)
 | _=>exact h
theorem after_sc {o:Oper} {Kp:Eff→Prop} {next:Act→World→Prop} {Q:Exit→Act→World→Prop} (C:Corr O n w0 β S V a w) (hd:∀ t,o.dst=some t→t<n) (K:After O n w0 V o.dst Kp next)
  {v:Value} (hr:(execOp a.eval o).run P w=.ok (.value v) w) (h1:v.oneCell'=true) (hk:Kp (.val (.c (.v v)))):o.wp P a w next Q :=
 after_val C hd K hr (x:=.c (.v v)) ⟨rfl,h1⟩ hk
theorem op_move (C:Corr O n w0 β S V a w) {o:Oper} {x:Operand} (ho:o.op=.move x∨o.op=.assign x) {Kp:Eff→Prop} (h:fwdK (V.ev x) fun v=>Kp (.val v)) (hd:∀ t,o.dst=some t→t<n)
  {next:Act→World→Prop} {Q:Exit→Act→World→Prop} (K:After O n w0 V o.dst Kp next):o.wp P a w next Q:=by
 refine after_val C hd K (v:=a.eval x) ?_ (C.ev x) ((fwdK_iff _ _).1 h).2
 rcases ho with ho | ho <;> · unfold execOp;simp only [ho];rfl
theorem op_pick (C:Corr O n w0 β S V a w) {o:Oper} {c x y:Operand} (ho:o.op=.pick c x y) {Kp:Eff→Prop} (h:evOp P O T o.op V.ev V.bv Kp) (hd:∀ t,o.dst=some t→t<n)
  {next:Act→World→Prop} {Q:Exit→Act→World→Prop} (K:After O n w0 V o.dst Kp next):o.wp P a w next Q:=by
 rw [ho] at h;simp only [evOp] at h
 split at h
 ·rename_i t ht
  have e:=evC C ht
  cases t with
  | true=>exact after_val C hd K (v:=a.eval x) (by unfold execOp;simp [ho,e,asBool]) (C.ev x) ((fwdK_iff _ _).1 h).2
  | false=>exact after_val C hd K (v:=a.eval y) (by unfold execOp;simp [ho,e,asBool]) (C.ev y) ((fwdK_iff _ _).1 h).2
 ·exact h.elim
theorem op_alloc (TK:TyOK P O T) (C:Corr O n w0 β S V a w) {o:Oper} {t:TypeId} (ho:o.op=.alloc t) {Kp:Eff→Prop} (h:evOp P O T o.op V.ev V.bv Kp) {d:Nat} (hd:o.dst=some d) (hl:d<n) (hf:V.bv d=none)
  {next:Act→World→Prop} {Q:Exit→Act→World→Prop} (K:After O n w0 V o.dst Kp next):o.wp P a w next Q:=by
 rw [ho] at h;simp only [evOp] at h
 cases ht:T t with
 | none=>simp [ht] at h
 | some ty =>
  simp only [ht] at h
  cases hb:O.box t with
  | false=>simp [hb] at h
  | true =>
   simp only [hb,cond_true] at h;obtain ⟨i,z,hi,_,hz,r⟩:=(TK t ty ht).info;refine wp_val (v:=.pointer (some ⟨w.heap.size,0,none⟩)) (w':=w.alloc (.cells z.cells t)) ?_ ?_
   ·unfold execOp;simp [ho,Instr.alloc,zeroValue,typeInfo,hi,hz,newVar,newRow]
   ·rw [hd] at K ⊢
    have:=C.new hl hf (r S w) hb
    exact K _ _ _ _ _ h (by simpa using this)
theorem op_box (C:Corr O n w0 β S V a w) {o:Oper} {t:TypeId} {x:Operand} (ho:o.op=.box t x) {Kp:Eff→Prop} (h:evOp P O T o.op V.ev V.bv Kp) {d:Nat} (hd:o.dst=some d) (hl:d<n) (hf:V.bv d=none)
  {next:Act→World→Prop} {Q:Exit→Act→World→Prop} (K:After O n w0 V o.dst Kp next):o.wp P a w next Q:=by
 rw [ho] at h;simp only [evOp] at h;obtain ⟨cs,h,r⟩:=cellsK_rep h (C.ev x)
 cases hb:O.box t with
 | false=>simp [hb] at h
 | true =>
  simp only [hb,cond_true] at h;refine wp_val (v:=.pointer (some ⟨w.heap.size,0,none⟩)) (w':=w.alloc (.cells (a.eval x).cells t)) ?_ ?_
  ·unfold execOp;simp [ho,Instr.box,newVar,newRow]
  ·rw [hd] at K ⊢
   have:=C.new hl hf r hb
   exact K _ _ _ _ _ h (by simpa using this)
theorem op_build (TK:TyOK P O T) (C:Corr O n w0 β S V a w) {o:Oper} {t:TypeId} {ps:Array (Nat×Operand)} (ho:o.op=.build t ps) {Kp:Eff→Prop} (h:evOp P O T o.op V.ev V.bv Kp) (hd:∀ t,o.dst=some t→t<n)
  {next:Act→World→Prop} {Q:Exit→Act→World→Prop} (K:After O n w0 V o.dst Kp next):o.wp P a w next Q:=by
 rw [ho] at h;simp only [evOp] at h
 cases ht:T t with
 | none=>simp [ht] at h
 | some ty =>
  simp only [ht] at h
  cases he:ty.flds.isEmpty with
  | true=>simp [he] at h
  | false =>
   simp only [he,cond_false] at h;obtain ⟨i,z,hi,hs,hz,r⟩:=(TK t ty ht).info;obtain ⟨fs,hu,hp⟩:=(TK t ty ht).str he;obtain ⟨us,ds,f1,f2,f3⟩:=fillK_rep C.ev ty.flds ((ty.flds.map fun x=>(x.1,x.2.1)).toArray[·]?) (fun i x hx=>by simp [hx]) ps.toList ty.zero z.cells.toList _ h (r S w);refine after_val C hd K (v:=.agg us) (x:=.g ds) ?_ ⟨us.toList,by simp,f2⟩ ((allK_iff _ _).1 f3);unfold execOp;simp only [ho];rw [Sem.run_bind,run_build w t _ us (by
    unfold Program.built;simp only [hi,hu,hz,hp]
    simpa using f1)]
   rfl
theorem op_buildSlice (TK:TyOK P O T) (C:Corr O n w0 β S V a w) {o:Oper} {t:TypeId} {m:Nat} {ps:Array (Nat×Operand)} (ho:o.op=.buildSlice t m ps) {Kp:Eff→Prop} (h:evOp P O T o.op V.ev V.bv Kp) (hd:∀ t,o.dst=some t→t<n)
  {next:Act→World→Prop} {Q:Exit→Act→World→Prop} (K:After O n w0 V o.dst Kp next):o.wp P a w next Q:=by
 rw [ho] at h;simp only [evOp] at h
 cases ht:T t with
 | none=>simp [ht] at h
 | some ty =>
  simp only [ht] at h
  cases he:ty.elem with
  | none=>simp [he] at h
  | some wd =>
   simp only [he] at h;obtain ⟨e,i,z,hu,hi,hs,hz⟩:=(TK t ty ht).elem wd he
   by_cases hm:ps.toList.length=m
   case neg =>
    obtain ⟨us,rs,_,_,_,f4,f5⟩:=rowsK_rep C.ev wd ps.toList 0 _ h [] (List.replicate (ps.toList.length*wd) undef) (by simp) (by simp)
    cases hb:Nat.beq rs.length m with
    | false=>simp [hb] at f5
    | true=>rw [Nat.beq_eq] at hb;exact absurd (f4 ▸ hb) hm
   subst hm;have hlen:(((Array.range (ps.toList.length*wd)).map (z.cells[· % z.cells.size]!)).toList).length=ps.toList.length*wd:=by simp
   obtain ⟨us,rs,f1,f2,f3,f4,f5⟩:=rowsK_rep C.ev wd ps.toList 0 _ h [] ((Array.range (ps.toList.length*wd)).map (z.cells[· % z.cells.size]!)).toList (by simp) hlen
   cases hb:Nat.beq rs.length ps.toList.length&&Nat.ble (ps.toList.length*wd) 16777216&&Nat.blt 0 (ps.toList.length*wd) with
   | false=>rw [hb] at f5;exact f5.elim
   | true =>
    rw [hb] at f5;simp only [Bool.and_eq_true,Nat.ble_eq,Nat.blt_eq] at hb;obtain ⟨⟨_,b1⟩,b2⟩:=hb;have hrun:(execOp a.eval o).run P w=.ok (.value (.slice (some ⟨w.heap.size,0,none⟩) ps.toList.length ps.toList.length)) (w.alloc (.cells us.toArray e)):=by
     unfold execOp;simp only [ho];rw [Sem.run_bind,run_buildSlice w t e ps.toList.length _ us.toArray i z hu hi hz (by rw [hs];omega) (by rw [hs];omega) (by rw [hs];have f2:=f1;rw [List.nil_append,List.nil_append,Array.toArray_toList] at f2;rw [Array.toList_map];exact f2)]
     rfl
    have hx:Ext w (w.alloc (.cells us.toArray e)):=(Below.refl _ _).alloc (Nat.le_refl _) _;have hsz:(w.alloc (.cells us.toArray e)).heap.size=w.heap.size+1:=by show (w.heap.push _).size=_;simp
    have C1:=C.evo hx (S':=fun b=>S b∨b=w.heap.size) (fun _ h=>.inl h) (fun b h=>h.imp id fun h=>by subst h;exact ⟨Nat.le_refl _,by rw [hsz];omega⟩);have hnew:(w.alloc (.cells us.toArray e)).heap[w.heap.size]?=some (.cells us.toArray e (0,0)):=by
     show (w.heap.push _)[w.heap.size]?=_
     simp
    refine wp_val hrun (K (.val (.c (.sl wd rs))) _ _ _ _ f5 (C1.put hd (x:=.c (.sl wd rs)) ?_))
    show Rep0 O _ _ _ _
    simp only [Rep0];refine ⟨some ⟨w.heap.size,0,none⟩,w.heap.size,0,ps.toList.length,by rw [f4],fun _=>⟨rfl,.inr rfl⟩,?_⟩;refine RepRows.of_list wd rs us _ _ f3 (fun j v hj => ?_) (f2.evo (Evo.of_ext hx C.sl) (fun _ h=>.inl h));simp only [World.cell?,hnew]
    simpa using hj
theorem op_load (TK:TyOK P O T) (C:Corr O n w0 β S V a w) {o:Oper} {t:TypeId} {x:Operand} (ho:o.op=.load t x) {Kp:Eff→Prop} (h:evOp P O T o.op V.ev V.bv Kp) (hd:∀ t,o.dst=some t→t<n)
  {next:Act→World→Prop} {Q:Exit→Act→World→Prop} (K:After O n w0 V o.dst Kp next):o.wp P a w next Q:=by
 rw [ho] at h;simp only [evOp] at h
 cases ht:T t with
 | none=>simp [ht] at h
 | some ty =>
  simp only [ht] at h;have hr:=C.ev x;have fin:∀ {b off:Nat} {vs:List Value} {cs:List AC},a.eval x=.pointer (some ⟨b,off,none⟩)→(∀ j v,vs[j]?=some v→w.cell? ⟨b,off+j,none⟩=some v)→RepCs O S w vs cs→partK ty.agg ty.zero.length cs (fun v=>Kp (.val v))→o.wp P a w next Q:=by
   intro b off vs cs e hc r hk
   obtain ⟨v,y,h1,h2,h3,h4,h5⟩:=load_rep (β:=β) TK ht hc r hk;refine after_val C hd K (v:=v) (x:=y) ?_ (h2.toV h5) h3;unfold execOp;simp only [ho,e];rw [Sem.run_bind,h1];rfl
  split at h
  ·rename_i k off e
   rw [e] at hr;obtain ⟨b,hb,e'⟩:=hr;obtain ⟨U,cs,vs,q1,q2,q3,_⟩:=C.bl k b hb;simp only [q1] at h;refine fin (vs:=vs.drop off) e' (fun j v hj => ?_) (All2.drop off q3) h;rw [List.getElem?_drop] at hj;simp only [World.cell?,q2];simpa using hj
  ·rename_i cs e
   rw [e] at hr;have hr':Rep0 O S w (.e cs) (a.eval x):=hr;simp only [Rep0] at hr';obtain ⟨b,off,_,e',r⟩:=hr';obtain ⟨vs,h1,h2⟩:=RepRow.list cs b off r
   exact fin e' h1 h2 h
  ·rename_i g i e
   have e':=evC C e
   split at h
   ·rename_i y ea et
    obtain ⟨h1,h2⟩:=O.tabR (O.invE C.iv C.ex) g i y et;obtain ⟨d,hu,hdr,_⟩:=(TK t ty ht).und;rw [ea] at hdr;refine after_sc C hd K (v:=y) ?_ h2 h;unfold execOp;simp only [ho,e'];simp only [Instr.loadAt,Instr.sureAddr,Sem.run_bind,Sem.run_pure,Result.andThen_ok,loadVar,run_isAgg hu w,hdr]
    simp [load,Sem.run,h1]
   ·exact h.elim
  ·exact h.elim
theorem op_store (TK:TyOK P O T) (C:Corr O n w0 β S V a w) {o:Oper} {t:TypeId} {x y:Operand} (ho:o.op=.store t x y) {Kp:Eff→Prop} (h:evOp P O T o.op V.ev V.bv Kp) (hd:∀ t,o.dst=some t→t<n)
  {next:Act→World→Prop} {Q:Exit→Act→World→Prop} (K:After O n w0 V o.dst Kp next):o.wp P a w next Q:=by
 rw [ho] at h;simp only [evOp] at h
 cases ht:T t with
 | none=>simp [ht] at h
 | some ty =>
  simp only [ht] at h;have hr:=C.ev x
  split at h
  ·rename_i k off e
   rw [e] at hr;obtain ⟨b,hb,e'⟩:=hr;obtain ⟨U,cs,vs,q1,q2,q3,q4,q5,q6⟩:=C.bl k b hb;simp only [q1] at h;obtain ⟨xs,h,r⟩:=cellsK_rep h (C.ev y)
   cases hc:Nat.beq xs.length ty.zero.length&&Nat.ble (off+xs.length) cs.length with
   | false=>rw [hc] at h;exact h.elim
   | true =>
    rw [hc] at h;simp only [Bool.and_eq_true,Nat.beq_eq,Nat.ble_eq] at hc;obtain ⟨i,z,hi,hs,_⟩:=(TK t ty ht).info;have l1:=r.len;have l2:=q3.len;have hsz:(a.eval y).cells.size=xs.length:=by simpa using l1
    have hrun:(execOp a.eval o).run P w=.ok .skip (w.setCells b off (a.eval y).cells.toList):=by
     unfold execOp;simp only [ho,e'];rw [Sem.run_bind,store_run hi (by omega) (fun j hj => ?_) r.all]
     ·rfl
     ·have:off+j<vs.length:=by omega
      exact ⟨by simp [World.cell?,q2,this],by simp [World.frozen?,q2]⟩
    have C1:=C.sto hb q1 q2 r hc.2
    exact wp_skp hrun (K (.sto k U off xs _) _ _ _ _ ((allK_iff _ _).1 h) (C1.put hd (v:=undef) (x:=.t []) ⟨[],rfl,trivial⟩))
  ·exact h.elim
theorem op_fieldAddr (TK:TyOK P O T) (C:Corr O n w0 β S V a w) {o:Oper} {s:TypeId} {x:Operand} {f:Nat} (ho:o.op=.fieldAddr s x f) {Kp:Eff→Prop} (h:evOp P O T o.op V.ev V.bv Kp) (hd:∀ t,o.dst=some t→t<n)
  {next:Act→World→Prop} {Q:Exit→Act→World→Prop} (K:After O n w0 V o.dst Kp next):o.wp P a w next Q:=by
 rw [ho] at h;simp only [evOp] at h
 cases ht:T s with
 | none=>simp [ht] at h
 | some ty =>
  simp only [ht] at h;have hr:=C.ev x;have hrun:∀ {off m:Nat} {g:Bool} {b o':Nat},ty.flds[f]?=some (off,m,g)→a.eval x=.pointer (some ⟨b,o',none⟩)→(execOp a.eval o).run P w=.ok (.value (.pointer (some ⟨b,o'+off,none⟩))) w:=by
   intro off m g b o' hf e
   obtain ⟨fs,fd,i,d,h1,h2,h3,h4,h5,h6,_⟩:=(TK s ty ht).fld f off m g hf;have h7:i.size≠0:=by omega
   unfold execOp
   simp [ho,e,Instr.fieldAt,run_underlying h1,h2,Instr.sureAddr,fieldPlace,sizeOf,typeInfo,h4,h7,h3,Addr.add_mid]
  split at h
  ·rename_i off m g k o' e1 e2
   rw [e2] at hr;obtain ⟨b,hb,e'⟩:=hr
   exact after_val C hd K (x:=.c (.p k (o'+off))) (hrun e1 e') ⟨b,hb,rfl⟩ h
  ·rename_i off m g cs e1 e2
   rw [e2] at hr;have hr':Rep0 O S w (.e cs) (a.eval x):=hr;simp only [Rep0] at hr';obtain ⟨b,o',hS,e',r⟩:=hr';refine after_val C hd K (x:=.c (.e (cs.drop off))) (hrun e1 e') ?_ h
   show Rep0 O S w (.e (cs.drop off)) _
   simp only [Rep0]
   exact ⟨b,_,hS,rfl,RepRow.drop off cs b o' r⟩
  ·exact h.elim
theorem op_field (TK:TyOK P O T) (C:Corr O n w0 β S V a w) {o:Oper} {s:TypeId} {x:Operand} {f:Nat} (ho:o.op=.field s x f) {Kp:Eff→Prop} (h:evOp P O T o.op V.ev V.bv Kp) (hd:∀ t,o.dst=some t→t<n)
  {next:Act→World→Prop} {Q:Exit→Act→World→Prop} (K:After O n w0 V o.dst Kp next):o.wp P a w next Q:=by
 rw [ho] at h;simp only [evOp] at h
 cases ht:T s with
 | none=>simp [ht] at h
 | some ty =>
  simp only [ht] at h;have hr:=C.ev x
  split at h
  ·rename_i off m g cs e1 e2
   rw [e2] at hr;obtain ⟨vs,e',r⟩:=hr;obtain ⟨fs,fd,i,d,h1,h2,h3,h4,h5,h6,h7,h8⟩:=(TK s ty ht).fld f off m g e1;obtain ⟨p1,p2⟩:=partK_rep (β:=β) h (All2.drop off r)
   cases g with
   | true =>
    obtain ⟨hl,hk,q⟩:=p1 rfl;refine after_val C hd K (v:=.agg ((vs.drop off).take m).toArray) (x:=.g ((cs.drop off).take m)) ?_ (q.toV (by simp)) hk;unfold execOp
    simp [ho,e',Instr.field,run_underlying h1,h2,part,run_isAgg h7,h8,sizeOf,typeInfo,h4,asAgg,h3,h5,List.extract_eq_take_drop]
   | false =>
    obtain ⟨v,c,hv,hk,q⟩:=p2 rfl;refine after_val C hd K (v:=v) (x:=.c c) ?_ (q.toV (by simp)) hk;have hv':vs[off]?=some v:=by rw [List.getElem?_drop] at hv;simpa using hv
    unfold execOp
    simp [ho,e',Instr.field,run_underlying h1,h2,part,run_isAgg h7,h8,asAgg,h3,hv']
  ·exact h.elim
theorem op_indexAddr (TK:TyOK P O T) (C:Corr O n w0 β S V a w) {o:Oper} {t:TypeId} {x i:Operand} (ho:o.op=.indexAddr t x i) {Kp:Eff→Prop} (h:evOp P O T o.op V.ev V.bv Kp) (hd:∀ t,o.dst=some t→t<n)
  {next:Act→World→Prop} {Q:Exit→Act→World→Prop} (K:After O n w0 V o.dst Kp next):o.wp P a w next Q:=by
 rw [ho] at h;simp only [evOp] at h
 cases ht:T t with
 | none=>simp [ht] at h
 | some ty =>
  simp only [ht] at h;have hr:=C.ev x
  split at h
  ·rename_i wd wd' xs kk m e1 e2 e3
   obtain ⟨e,ie,z,hu,hi,hs,hz⟩:=(TK t ty ht).elem wd e1
   cases hc:Nat.beq wd wd'&&decide (0≤m)&&decide (m.toNat<xs.length) with
   | false=>rw [hc] at h;exact h.elim
   | true =>
    rw [hc] at h;simp only [Bool.and_eq_true,Nat.beq_eq,decide_eq_true_eq] at hc;obtain ⟨⟨hw,h0⟩,hl⟩:=hc;subst hw;rw [e2] at hr;have hr':Rep0 O S w (.sl wd xs) (a.eval x):=hr;simp only [Rep0] at hr';obtain ⟨ad,b,off,cap,ex,ha,r⟩:=hr';obtain ⟨ha,hS⟩:=ha (by omega);have ei:=evC C e3;obtain ⟨_,g2⟩:=RepRows.get wd xs b off m.toNat r hl;refine after_val C hd K (v:=.pointer (some ⟨b,off+m.toNat*wd,none⟩)) (x:=.c (.e (xs.getD m.toNat []))) ?_ ?_ h
    ·have hlt:m<(xs.length:Int):=by omega
     unfold execOp
     simp [ho,ei,ex,ha,Instr.indexAt,run_underlying hu,asIntOf,h0,hlt,sizeOf,typeInfo,hi,hs,Addr.add_mid]
    ·show Rep0 O S w (.e (xs.getD m.toNat [])) _
     simp only [Rep0]
     exact ⟨b,_,hS,rfl,g2⟩
  ·rename_i g kk m e1 e2 e3
   have ex:=evC C e2;have ei:=evC C e3
   split at h
   ·rename_i l el
    obtain ⟨e,ie,hu,hi,hs,_⟩:=(TK t ty ht).arr l el
    cases hc:decide (0≤m)&&decide (m.toNat<l) with
    | false=>rw [hc] at h;exact h.elim
    | true =>
     rw [hc] at h;simp only [Bool.and_eq_true,decide_eq_true_eq] at hc;obtain ⟨h0,hl⟩:=hc;have hlt:m<(l:Int):=by omega
     refine after_sc C hd K (v:=.pointer (some ⟨g,m.toNat,none⟩)) ?_ rfl h;unfold execOp
     simp [ho,ei,ex,Instr.indexAt,run_underlying hu,Instr.sureAddr,asIntOf,h0,hlt,sizeOf,typeInfo,hi,hs,Addr.add_mid]
   ·exact h.elim
  ·exact h.elim
theorem op_extract (C:Corr O n w0 β S V a w) {o:Oper} {x:Operand} {i:Nat} (ho:o.op=.extract x i) {Kp:Eff→Prop} (h:evOp P O T o.op V.ev V.bv Kp) (hd:∀ t,o.dst=some t→t<n)
  {next:Act→World→Prop} {Q:Exit→Act→World→Prop} (K:After O n w0 V o.dst Kp next):o.wp P a w next Q:=by
 rw [ho] at h;simp only [evOp] at h;have hr:=C.ev x
 split at h
 ·rename_i l e
  rw [e] at hr;obtain ⟨vs,e',r⟩:=hr;have fin:∀ y,l[i]?=some y→(∀ l,y≠.t l)→Kp (.val y)→o.wp P a w next Q:=by
   intro y hy hy' hk
   obtain ⟨v,hv,q⟩:=r.get i y hy;refine after_val C hd K (v:=v) (x:=y) ?_ ((q.evo (Evo.refl _ _ _) (fun _ h=>h) (fun _ _ h=>by cases h)).toV hy') hk;unfold execOp;simp [ho,e',Instr.extract,hv]
  split at h
  ·exact h.elim
  ·rename_i c e1 e2;exact fin _ e2 (by simp) h
  ·rename_i cs e2;exact fin _ e2 (by simp) ((allK_iff _ _).1 h)
  ·exact h.elim
 ·exact h.elim
theorem binK_run {op:BinOp} {x y:Value} {k:Value→Prop} (h:binK op x y k) (t:TypeId) (p q:Operand) (w:World):∃ r,(do eqGuard op t p q x y;binOp op t x y:Sem Value).run P w=.ok r w∧r.oneCell'=true∧k r:=by
 have sh:∀ {u v:IntKind} {x y:Int} {r:Value} {op:BinOp},(cond (decide (0≤y)) (k r) False)→r.oneCell'=true→(¬ y<0→(do eqGuard op t p q (.int u x) (.int v y);binOp op t (.int u x) (.int v y):Sem Value).run P w=.ok r w) →
   ∃ r,(do eqGuard op t p q (.int u x) (.int v y);binOp op t (.int u x) (.int v y):Sem Value).run P w=.ok r w∧r.oneCell'=true∧k r:=by
  intro u v x y r op h1 h2 h3
  by_cases hy:0≤y
  ·simp only [hy,decide_true,cond_true] at h1;exact ⟨r,h3 (by omega),h2,h1⟩
  ·simp [hy] at h1
 have eq:∀ {u v:IntKind} {x y:Int} {r:Value} {op:BinOp},(cond (decide (u=v)) (k r) False)→r.oneCell'=true→(u=v→(do eqGuard op t p q (.int u x) (.int v y);binOp op t (.int u x) (.int v y):Sem Value).run P w=.ok r w) →
   ∃ r,(do eqGuard op t p q (.int u x) (.int v y);binOp op t (.int u x) (.int v y):Sem Value).run P w=.ok r w∧r.oneCell'=true∧k r:=by
  intro u v x y r op h1 h2 h3
  by_cases hy:u=v
  ·simp only [hy,decide_true,cond_true] at h1;exact ⟨r,h3 hy,h2,h1⟩
  ·simp [hy] at h1
 have dv:∀ {u v:IntKind} {x y:Int} {r:Value} {op:BinOp},(cond (decide (u=v)&&decide (y≠0)) (k r) False)→r.oneCell'=true→(u=v→y≠0→(do eqGuard op t p q (.int u x) (.int v y);binOp op t (.int u x) (.int v y):Sem Value).run P w=.ok r w) →
   ∃ r,(do eqGuard op t p q (.int u x) (.int v y);binOp op t (.int u x) (.int v y):Sem Value).run P w=.ok r w∧r.oneCell'=true∧k r:=by
  intro u v x y r op h1 h2 h3
  by_cases hy:u=v
  ·by_cases h0:y=0
   ·simp [h0] at h1
   ·simp only [hy,decide_true,Bool.true_and,ne_eq,h0,not_false_eq_true,cond_true] at h1;exact ⟨r,h3 hy h0,h2,h1⟩
  ·simp [hy] at h1
 unfold binK at h
 split at h
 ·exact sh h rfl fun hy=>by simp [eqGuard,binOp,Op.shift,hy]
 ·exact sh h rfl fun hy=>by simp [eqGuard,binOp,Op.shift,hy]
 ·exact eq h rfl fun hy=>by simp [eqGuard,binOp,hy,Op.intArith]
 ·exact eq h rfl fun hy=>by simp [eqGuard,binOp,hy,Op.intArith]
 ·exact eq h rfl fun hy=>by simp [eqGuard,binOp,hy,Op.intArith]
 ·exact dv h rfl fun hy h0=>by simp [eqGuard,binOp,hy,Op.intDiv,h0]
 ·exact dv h rfl fun hy h0=>by simp [eqGuard,binOp,hy,Op.intDiv,h0]
 ·exact eq h rfl fun hy=>by subst hy;simp [eqGuard,binOp,Op.intBits]
 ·exact eq h rfl fun hy=>by subst hy;simp [eqGuard,binOp,Op.intBits]
 ·exact eq h rfl fun hy=>by subst hy;simp [eqGuard,binOp,Op.intBits]
 ·exact eq h rfl fun hy=>by simp [eqGuard,binOp,hy,Op.intCmp]
 ·exact eq h rfl fun hy=>by simp [eqGuard,binOp,hy,Op.intCmp]
 ·exact eq h rfl fun hy=>by simp [eqGuard,binOp,hy,Op.intCmp]
 ·exact eq h rfl fun hy=>by simp [eqGuard,binOp,hy,Op.intCmp]
 ·exact eq h rfl fun hy=>by simp [eqGuard,binOp,hy,Op.intCmp]
 ·exact eq h rfl fun hy=>by simp [eqGuard,binOp,hy,Op.intCmp]
 ·exact ⟨_,by simp [eqGuard,binOp,Op.stringOp],rfl,h⟩
 ·exact ⟨_,by simp [eqGuard,binOp,Op.stringOp],rfl,h⟩
 ·rename_i u v
  cases hf:fitsB u v
  ·rw [hf] at h;exact h.elim
  ·rw [hf] at h;have hy:=of_fits hf;refine ⟨_,?_,rfl,h⟩;have hn:¬ (((u.size+v.size:Nat):Int)>IntKind.i64.max):=by omega
   simp only [eqGuard,binOp,Op.stringOp,Sem.run_bind];rw [if_neg hn];rfl
 ·exact h.elim
theorem op_binOp (TK:TyOK P O T) (C:Corr O n w0 β S V a w) {o:Oper} {op:BinOp} {t u:TypeId} {x y:Operand} (ho:o.op=.binOp op t x y u) {Kp:Eff→Prop} (h:evOp P O T o.op V.ev V.bv Kp) (hd:∀ t,o.dst=some t→t<n)
  {next:Act→World→Prop} {Q:Exit→Act→World→Prop} (K:After O n w0 V o.dst Kp next):o.wp P a w next Q:=by
 rw [ho] at h;simp only [evOp] at h;have run:∀ {r:Value},(do eqGuard op t x y (a.eval x) (a.eval y);binOp op t (a.eval x) (a.eval y):Sem Value).run P w=.ok r w→(execOp a.eval o).run P w=.ok (.value r) w:=by
  intro r hr
  unfold execOp;simp only [ho];rw [Sem.run_bind,hr];rfl
 split at h
 ·rename_i p q e1 e2
  have f1:=evC C e1;have f2:=evC C e2;have fin:∀ {ty:Ty} {r:Bool},T t=some ty→ty.kd=.bool→(op=.eql∧r=(p==q)∨op=.neq∧r = !(p==q))→Kp (.val (.c (.v (.bool r))))→o.wp P a w next Q:=by
   intro ty r ht hk hr h
   obtain ⟨d,hu,_,_,hb,_⟩:=(TK t ty ht).und;rw [hb hk] at hu;refine after_val C hd K (run ?_) (x:=.c (.v (.bool r))) ⟨rfl,rfl⟩ h;rw [f1,f2];have he:(Op.equal t (.bool p) (.bool q)).run P w=.ok (p==q) w:=by
    unfold Op.equal Op.maxDepth Op.equalIn;rw [Sem.run_bind,run_underlying hu w];rfl
   rcases hr with ⟨rfl,rfl⟩ | ⟨rfl,rfl⟩
   ·have e:binOp .eql t (.bool p) (.bool q)=(do pure (.bool (←Op.equal t (.bool p) (.bool q))):Sem Value):=rfl;rw [Sem.run_bind,e]
    have:(eqGuard .eql t x y (.bool p) (.bool q)).run P w=.ok () w:=rfl
    rw [this,Result.andThen_ok,Sem.run_bind,he];rfl
   ·have e:binOp .neq t (.bool p) (.bool q)=(do pure (.bool (!(←Op.equal t (.bool p) (.bool q)))):Sem Value):=rfl;rw [Sem.run_bind,e]
    have:(eqGuard .neq t x y (.bool p) (.bool q)).run P w=.ok () w:=rfl
    rw [this,Result.andThen_ok,Sem.run_bind,he];rfl
  split at h
  ·split at h
   ·exact fin ‹_› ‹_› (.inl ⟨rfl,rfl⟩) h
   ·exact h.elim
  ·split at h
   ·exact fin ‹_› ‹_› (.inr ⟨rfl,rfl⟩) h
   ·exact h.elim
  ·exact h.elim
 ·rename_i p q _ e1 e2
  have f1:=evC C e1;have f2:=evC C e2;obtain ⟨r,h1,h2,h3⟩:=binK_run (P:=P) h t x y w
  exact after_val C hd K (run (by rw [f1,f2];exact h1)) (x:=.c (.v r)) ⟨rfl,h2⟩ h3
 ·rename_i xs ys e1 e2
  have r1:=C.ev x;have r2:=C.ev y;rw [e1] at r1;rw [e2] at r2;obtain ⟨vs,f1,q1⟩:=r1;obtain ⟨us,f2,q2⟩:=r2;have fin:∀ {ty:Ty} {k:Bool→Prop},T t=some ty→(cond ty.eq (eqK ty.zero xs ys k) False)→∃ b,k b∧((binOp .eql t (a.eval x) (a.eval y)).run P w=.ok (.bool b) w∧(binOp .neq t (a.eval x) (a.eval y)).run P w=.ok (.bool (!b)) w∧(eqGuard op t x y (a.eval x) (a.eval y)).run P w=.ok () w):=by
   intro ty k ht h
   cases he:ty.eq with
   | false=>simp [he] at h
   | true =>
    simp only [he,cond_true] at h;obtain ⟨b,hb,hv⟩:=eqK_rep (O:=O) (S:=S) (w:=w) ty.zero xs ys k h;obtain ⟨g1,g2,g3⟩:=(TK t ty ht).eql he vs us b w (hv vs us q1 q2);rw [f1,f2]
    exact ⟨b,hb,g1,g2,g3 _ _ _⟩
  split at h
  ·rename_i ty ht
   obtain ⟨b,hb,g1,g2,g3⟩:=fin ht h
   exact after_val C hd K (run (by rw [Sem.run_bind,g3];exact g1)) (x:=.c (.v (.bool b))) ⟨rfl,rfl⟩ hb
  ·rename_i ty ht
   obtain ⟨b,hb,g1,g2,g3⟩:=fin ht h
   exact after_val C hd K (run (by rw [Sem.run_bind,g3];exact g2)) (x:=.c (.v (.bool (!b)))) ⟨rfl,rfl⟩ hb
  ·exact h.elim
 ·exact h.elim
theorem op_unOp (C:Corr O n w0 β S V a w) {o:Oper} {op:UnOp} {t:TypeId} {x:Operand} (ho:o.op=.unOp op t x) {Kp:Eff→Prop} (h:evOp P O T o.op V.ev V.bv Kp) (hd:∀ t,o.dst=some t→t<n)
  {next:Act→World→Prop} {Q:Exit→Act→World→Prop} (K:After O n w0 V o.dst Kp next):o.wp P a w next Q:=by
 rw [ho] at h;simp only [evOp] at h
 split at h
 ·rename_i p e
  have f:=evC C e;unfold unK at h
  split at h
  ·exact after_sc C hd K (by unfold execOp;simp [ho,f,Op.unary]) rfl h
  ·exact after_sc C hd K (by unfold execOp;simp [ho,f,Op.unary,Op.intArith]) rfl h
  ·exact h.elim
 ·exact h.elim
theorem op_convert (TK:TyOK P O T) (C:Corr O n w0 β S V a w) {o:Oper} {s d:TypeId} {x:Operand} (ho:o.op=.convert s d x) {Kp:Eff→Prop} (h:evOp P O T o.op V.ev V.bv Kp) (hd:∀ t,o.dst=some t→t<n)
  {next:Act→World→Prop} {Q:Exit→Act→World→Prop} (K:After O n w0 V o.dst Kp next):o.wp P a w next Q:=by
 rw [ho] at h;simp only [evOp] at h
 split at h
 ·rename_i sy dy hs hd'
  obtain ⟨ds,us,_,s1,_,s2⟩:=(TK s sy hs).und;obtain ⟨dd,ud,_,d1,_,d2⟩:=(TK d dy hd').und
  split at h
  ·rename_i k1 k2 k3 m e1 e2 e3
   have f:=evC C e3;have g1:=s2 _ e1;have g2:=d2 _ e2;subst g1;subst g2
   exact after_sc C hd K (by unfold execOp;simp [ho,f,convert,run_underlying us,run_underlying ud,Conv.intToInt]) rfl h
  ·rename_i m e1 e2 e3
   have f:=evC C e3;have g1:=s1 e1;have g2:=d1 e2;subst g1;subst g2
   exact after_sc C hd K (by unfold execOp;simp [ho,f,convert,run_underlying us,run_underlying ud]) rfl h
  ·exact h.elim
 ·exact h.elim
theorem op_makeFunc (C:Corr O n w0 β S V a w) {o:Oper} {fn:Fn} {fs cs:Array Operand} (ho:o.op=.makeFunc fn fs cs) {Kp:Eff→Prop} (h:evOp P O T o.op V.ev V.bv Kp) (hd:∀ t,o.dst=some t→t<n)
  {next:Act→World→Prop} {Q:Exit→Act→World→Prop} (K:After O n w0 V o.dst Kp next):o.wp P a w next Q:=by
 rw [ho] at h;simp only [evOp] at h
 cases hc:fs.toList.isEmpty&&cs.toList.isEmpty with
 | false=>rw [hc] at h;exact h.elim
 | true =>
  rw [hc] at h;simp only [Bool.and_eq_true,List.isEmpty_iff] at hc;have e1:fs=#[]:=by simpa using hc.1
  have e2:cs=#[]:=by simpa using hc.2
  exact after_sc C hd K (by unfold execOp;simp [ho,Instr.makeFunc,e1,e2]) rfl h
theorem op_call (TK:TyOK P O T) (C:Corr O n w0 β S V a w) {o:Oper} {c:Go.Call} (ho:o.op=.call c) {Kp:Eff→Prop} (h:evOp P O T o.op V.ev V.bv Kp) (hd:∀ t,o.dst=some t→t<n)
  {next:Act→World→Prop} {Q:Exit→Act→World→Prop} (K:After O n w0 V o.dst Kp next):o.wp P a w next Q:=by
 rw [ho] at h;simp only [evOp] at h;have bi:∀ {b:Builtin} {v:Value},c.callee=.builtin b→((builtin b c.argTypes o.type (c.args.map fun | .const _=>true | _=>false) (c.args.map a.eval)).run P w=.ok (.value v) w)→(execOp a.eval o).run P w=.ok (.value v) w:=by
  intro b v hc hr
  unfold execOp;simp only [ho,resolve,hc,Sem.run_bind,Sem.run_pure,Result.andThen_ok,invoke]
  exact hr
 split at h
 ·rename_i f hc
  split at h
  ·rename_i k e
   have ef:=evC C e;obtain ⟨xs,h,ra⟩:=argsK_rep C.ev c.args.toList _ h;obtain ⟨r,hcal,hk⟩:=h;obtain ⟨fn,hf,hname,hb⟩:=hcal.body;have hrun:(execOp a.eval o).run P w=.ok (.enter k (c.args.toList.map a.eval).toArray) w:=by
    have hn':¬ fn.name = "runtime.NumGoroutine" := by simpa using hname
    have hb':¬ fn.body=none:=fun e=>by rw [e] at hb;cases hb
    have hm:(c.args.toList.map a.eval).toArray=c.args.map a.eval:=by rw [←Array.toList_map]
    rw [hm];unfold execOp
    simp [ho,resolve,hc,ef,Deferred.ofValue,invoke,callFunc,hf,hn',hb']
   have hcl:=hcal.run S w (c.args.toList.map a.eval) C.sl (O.invE C.iv C.ex) ra;unfold Oper.wp;rw [hrun]
   show Calls P k _ w _
   refine hcl.mono ?_;rintro e w' ⟨v,rfl,hx,rv⟩;have C1:=C.evo hx (S':=fun b=>S b∨(w.heap.size≤b∧b<w'.heap.size)) (fun _ h=>.inl h) (fun _ h=>h)
   exact K (.val r) _ _ _ _ hk (C1.put hd (rv.evo (Evo.refl _ _ _) (fun _ h=>h) (fun _ _ h=>by cases h)))
  ·exact h.elim
 ·rename_i hc
  split at h
  ·rename_i x t ea et
   have ea':c.args=#[x]:=by rw [←Array.toArray_toList (xs:=c.args),ea]
   have et':c.argTypes=#[t]:=by rw [←Array.toArray_toList (xs:=c.argTypes),et]
   cases ht:T t with
   | none=>simp [ht] at h
   | some ty =>
    simp only [ht] at h;have hr:=C.ev x
    split at h
    ·rename_i s wd xs e1 e2
     rw [e2] at hr;have hr':Rep0 O S w (.sl wd xs) (a.eval x):=hr;simp only [Rep0] at hr';obtain ⟨ad,b,off,cap,ex,_⟩:=hr';obtain ⟨e,i,z,hu,_⟩:=(TK t ty ht).elem s e1
     exact after_sc C hd K (bi hc (by simp [builtin,ea',et',Builtin.len_,run_underlying hu,ex,goInt])) rfl h
    ·rename_i s e1 e2
     have ex:=evC C e2;obtain ⟨e,i,z,hu,_⟩:=(TK t ty ht).elem s e1
     exact after_sc C hd K (bi hc (by simp [builtin,ea',et',Builtin.len_,run_underlying hu,ex,goInt])) rfl h
    ·rename_i s e0 e1 e2
     have ex:=evC C e2;obtain ⟨d,hu,_,hs,_⟩:=(TK t ty ht).und
     have:=hs e1;subst this
     exact after_sc C hd K (bi hc (by simp [builtin,ea',et',Builtin.len_,run_underlying hu,ex,goInt])) rfl h
    ·exact h.elim
  ·exact h.elim
 ·rename_i hc
  split at h
  ·rename_i x y ea
   have ea':c.args=#[x,y]:=by rw [←Array.toArray_toList (xs:=c.args),ea]
   split at h
   ·rename_i p u q v e1 e2
    have f1:=evC C e1;have f2:=evC C e2
    exact after_sc C hd K (bi hc (by simp [builtin,ea',Builtin.max_,Builtin.max2,f1,f2])) rfl h
   ·exact h.elim
  ·exact h.elim
 ·rename_i hc
  split at h
  ·rename_i x y ea
   have ea':c.args=#[x,y]:=by rw [←Array.toArray_toList (xs:=c.args),ea]
   split at h
   ·rename_i p u q v e1 e2
    have f1:=evC C e1;have f2:=evC C e2
    exact after_sc C hd K (bi hc (by simp [builtin,ea',Builtin.min_,Builtin.min2,f1,f2])) rfl h
   ·exact h.elim
  ·exact h.elim
 ·exact h.elim
theorem op_sound (TK:TyOK P O T) (C:Corr O n w0 β S V a w) {o:Oper} {Kp:Eff→Prop} (h:evOp P O T o.op V.ev V.bv Kp) (hd:∀ t,o.dst=some t→t<n) (hn:isNew o.op=true→∃ t,o.dst=some t∧V.bv t=none)
  {next:Act→World→Prop} {Q:Exit→Act→World→Prop} (K:After O n w0 V o.dst Kp next):o.wp P a w next Q:=by
 cases ho:o.op with
 | move x=>rw [ho] at h;exact op_move C (.inl ho) h hd K
 | assign x=>rw [ho] at h;exact op_move C (.inr ho) h hd K
 | pick c x y=>exact op_pick C ho h hd K
 | alloc t=>obtain ⟨d,h1,h2⟩:=hn (by rw [ho];rfl);exact op_alloc TK C ho h h1 (hd d h1) h2 K
 | box t x=>obtain ⟨d,h1,h2⟩:=hn (by rw [ho];rfl);exact op_box C ho h h1 (hd d h1) h2 K
 | build t ps=>exact op_build TK C ho h hd K
 | buildSlice t m ps=>exact op_buildSlice TK C ho h hd K
 | load t x=>exact op_load TK C ho h hd K
 | store t x y=>exact op_store TK C ho h hd K
 | fieldAddr s x f=>exact op_fieldAddr TK C ho h hd K
 | field s x f=>exact op_field TK C ho h hd K
 | indexAddr t x i=>exact op_indexAddr TK C ho h hd K
 | extract x i=>exact op_extract C ho h hd K
 | binOp op t x y u=>exact op_binOp TK C ho h hd K
 | unOp op t x=>exact op_unOp C ho h hd K
 | convert s d x=>exact op_convert TK C ho h hd K
 | makeFunc fn fs cs=>exact op_makeFunc C ho h hd K
 | call c=>exact op_call TK C ho h hd K
 | _=>rw [ho] at h;exact h.elim
end
section
variable {P:Program} {O:Opq} {T:Tys}
def One {α:Type} (F:(α→Prop)→Prop):Prop:=∀ k,F k→∃ x,F (· = x)∧k x∧∀ k',k' x→F k'
theorem One.cond {α:Type} {b:Bool} {F:(α→Prop)→Prop} (h:b=true→One F):One (fun k=>cond b (F k) False):=by
 intro k hk
 cases b with
 | false=>exact hk.elim
 | true=>exact h rfl k hk
theorem One.pure {α:Type} (x:α):One (fun k=>k x):=fun _ h=>⟨x,rfl,h,fun _ h=>h⟩
theorem One.bind {α β:Type} {F:(α→Prop)→Prop} {G:α→(β→Prop)→Prop} (h:One F) (g:∀ x,One (G x)):One (fun k=>F fun x=>G x k):=by
 intro k hk
 obtain ⟨x,h1,h2,h3⟩:=h _ hk;obtain ⟨y,g1,g2,g3⟩:=g x _ h2
 exact ⟨y,h3 _ g1,g2,fun k' hk'=>h3 _ (g3 _ hk')⟩
theorem One.no {α:Type}:One (fun (_:α→Prop)=>False):=fun _ h=>h.elim
theorem allK_one (cs:List AC):One (allK cs):=fun _ h=>⟨cs,(allK_iff _ _).2 rfl,(allK_iff _ _).1 h,fun _ h=>(allK_iff _ _).2 h⟩
theorem cellsK_one (x:AV):One (cellsK x):=by
 cases x with
 | c y=>cases y with
  | p _ _=>exact One.no
  | _=>exact One.pure _
 | g cs=>exact allK_one cs
 | _=>exact One.no
theorem fwdK_one (x:AV):One (fwdK x):=by
 cases x with
 | g cs=>exact (allK_one cs).bind fun l=>One.pure _
 | j=>exact One.no
 | _=>exact One.pure _
theorem takeK_one (n:Nat) (cs:List AC):One (takeK n cs):=fun k h=>by
 simp only [takeK_iff] at h ⊢
 exact ⟨_,⟨h.1,rfl⟩,h.2,fun k' h'=>⟨h.1,h'⟩⟩
theorem partK_one (ag:Bool) (m:Nat) (cs:List AC):One (partK ag m cs):=by
 cases ag with
 | true=>exact (takeK_one m cs).bind fun l=>One.pure _
 | false=>cases cs with
  | nil=>exact One.no
  | cons c cs=>cases c with
   | p _ _=>exact One.no
   | _=>exact One.pure _
theorem fillK_one (fl:List (Nat×Nat×Bool)) (ρ:Operand→AV):∀ (ps:List (Nat×Operand)) (cs:List AC),One (fillK fl ρ ps cs)
 | [],cs=>One.pure _
 | (i,x) :: r,cs=>by
  simp only [One,fillK]
  cases fl[i]? with
  | none=>exact One.no
  | some y=>exact (cellsK_one (ρ x)).bind fun xs=>One.cond fun _=>fillK_one fl ρ r _
theorem rowsK_one (wd:Nat) (ρ:Operand→AV):∀ (ps:List (Nat×Operand)) (i:Nat),One (rowsK wd ρ i ps)
 | [],i=>One.pure _
 | (j,x) :: r,i=>by
  simp only [One,rowsK]
  exact One.cond fun _=>(cellsK_one (ρ x)).bind fun xs=>One.cond fun _=>(rowsK_one wd ρ r (i+1)).bind fun l=>One.pure _
theorem argsK_one (ρ:Operand→AV):∀ l:List Operand,One (argsK ρ l)
 | []=>One.pure _
 | x :: r=>by
  simp only [One,argsK]
  cases ρ x with
  | c y=>cases y with
   | p _ _=>exact One.no
   | _=>exact (argsK_one ρ r).bind fun l=>One.pure _
  | g cs=>exact (allK_one cs).bind fun m=>(argsK_one ρ r).bind fun l=>One.pure _
  | _=>exact One.no
theorem eqK_one (zs:List AC):∀ xs ys:List AC,One (eqK zs xs ys):=by
 induction zs with
 | nil =>
  intro xs ys
  cases xs<;>cases ys<;>(simp only [One,eqK];first | exact One.pure _ | exact One.no)
 | cons c zs ih =>
  intro xs ys
  cases c<;>try (cases xs<;>cases ys<;>(simp only [One,eqK];exact One.no))
  rename_i z
  cases z<;>try (cases xs<;>cases ys<;>(simp only [One,eqK];exact One.no))
  all_goals
   cases xs<;>try (simp only [One,eqK];exact One.no)
   rename_i x xs
   cases x<;>try (simp only [One,eqK];exact One.no)
   rename_i x
   cases x<;>try (simp only [One,eqK];exact One.no)
   cases ys<;>try (simp only [One,eqK];exact One.no)
   rename_i y ys
   cases y<;>try (simp only [One,eqK];exact One.no)
   rename_i y
   cases y<;>try (simp only [One,eqK];exact One.no)
  ·simp only [One,eqK];exact (ih xs ys).bind fun r=>One.pure _
  ·simp only [One,eqK];exact One.cond fun _=>(ih xs ys).bind fun r=>One.pure _
  ·simp only [One,eqK];exact (ih xs ys).bind fun r=>One.pure _
theorem binK_one (op:BinOp) (x y:Value):One (binK op x y):=by
 unfold One binK
 split<;>first | exact One.no | exact One.pure _ | exact One.cond fun _=>One.pure _
theorem unK_one (op:UnOp) (x:Value):One (unK op x):=by
 unfold One unK
 split<;>first | exact One.no | exact One.pure _
theorem One.cases {α β:Type} {F:β→(α→Prop)→Prop} (b:β) (h:∀ b,One (F b)):One (F b):=h b
theorem evOp_ex {op:Op} {ρ:Operand→AV} {bv:Nat→Option (Nat×List AC)}:One (evOp P O T op ρ bv):=by
 cases op<;>(unfold One;simp only [evOp])<;>try exact One.no
 case move x=>exact (fwdK_one _).bind fun _=>One.pure _
 case assign x=>exact (fwdK_one _).bind fun _=>One.pure _
 case pick c a b =>
  intro k h
  split at h
  ·rename_i t _
   cases t with
   | true=>exact ((fwdK_one (ρ a)).bind fun v=>One.pure (Eff.val v)) k h
   | false=>exact ((fwdK_one (ρ b)).bind fun v=>One.pure (Eff.val v)) k h
  ·exact h.elim
 case alloc t=>split<;>first | exact One.no | exact One.cond fun _=>One.pure _
 case box t x=>exact (cellsK_one _).bind fun _=>One.cond fun _=>One.pure _
 case build t ps =>
  split
  ·rename_i ty _
   cases ty.flds.isEmpty with
   | true=>exact One.no
   | false=>exact (fillK_one _ _ _ _).bind fun _=>(allK_one _).bind fun _=>One.pure _
  ·exact One.no
 case buildSlice t n ps=>split<;>first | exact One.no | (split<;>first | exact One.no | exact (rowsK_one _ _ _ _).bind fun _=>One.cond fun _=>One.pure _)
 case load t a=>split<;>first | exact One.no | (split<;>first | exact One.no | exact (partK_one _ _ _).bind fun _=>One.pure _ | (split<;>first | exact One.no | exact (partK_one _ _ _).bind fun _=>One.pure _ | exact One.pure _))
 case store t a x=>split<;>first | exact One.no | (split<;>first | exact One.no | (split<;>first | exact One.no | exact (cellsK_one _).bind fun _=>One.cond fun _=>(allK_one _).bind fun _=>One.pure _))
 case fieldAddr s x f=>split<;>first | exact One.no | (split<;>first | exact One.no | exact One.pure _)
 case field s x f=>split<;>first | exact One.no | (split<;>first | exact One.no | exact (partK_one _ _ _).bind fun _=>One.pure _)
 case indexAddr t x i=>split<;>first | exact One.no | (split<;>first | exact One.no | exact One.cond fun _=>One.pure _ | (split<;>first | exact One.no | exact One.cond fun _=>One.pure _))
 case extract x i=>split<;>first | exact One.no | (split<;>first | exact One.no | exact One.pure _ | exact (allK_one _).bind fun _=>One.pure _)
 case binOp op t x y u =>
  split
  ·split<;>first | exact One.no | (split<;>first | exact One.no | exact One.pure _)
  ·exact (binK_one _ _ _).bind fun _=>One.pure _
  ·split<;>first | exact One.no | exact One.cond fun _=>(eqK_one _ _ _).bind fun _=>One.pure _
  ·exact One.no
 case unOp op t x=>split<;>first | exact One.no | exact (unK_one _ _).bind fun _=>One.pure _
 case convert s d x=>split<;>first | exact One.no | (split<;>first | exact One.no | exact One.pure _)
 case makeFunc fn fs cs=>exact One.cond fun _=>One.pure _
 case call c =>
  split
  ·split
   ·refine (argsK_one _ _).bind fun l k h => ?_;obtain ⟨r,h1,h2⟩:=h
    exact ⟨_,⟨r,h1,rfl⟩,h2,fun k' h'=>⟨r,h1,h'⟩⟩
   ·exact One.no
  ·split<;>first | exact One.no | (split<;>first | exact One.no | (split<;>first | exact One.no | exact One.pure _))
  ·split<;>first | exact One.no | (split<;>first | exact One.no | exact One.pure _)
  ·split<;>first | exact One.no | (split<;>first | exact One.no | exact One.pure _)
  ·exact One.no
end
section
variable {P:Program} {O:Opq} {T:Tys}
/-! ### what an operation looks at -/
def addrOf:Op→Option Operand
 | .load _ a | .store _ a _=>some a
 | _=>none
def isSto:Op→Bool
 | .store _ _ _=>true
 | _=>false
theorem fillK_congr {fl:List (Nat×Nat×Bool)} {ρ ρ':Operand→AV}:∀ (ps:List (Nat×Operand)) (cs:List AC) (k:List AC→Prop),(∀ x∈ps,ρ x.2=ρ' x.2)→fillK fl ρ ps cs k=fillK fl ρ' ps cs k
 | [],_,_,_=>rfl
 | (i,x) :: r,cs,k,h=>by
  simp only [fillK];rw [←h (i,x) (by simp)]
  have:=fun cs=>fillK_congr (fl:=fl) r cs k (fun y hy=>h y (by simp [hy]))
  simp only [this]
theorem rowsK_congr {wd:Nat} {ρ ρ':Operand→AV}:∀ (ps:List (Nat×Operand)) (i:Nat) (k:List (List AC)→Prop),(∀ x∈ps,ρ x.2=ρ' x.2)→rowsK wd ρ i ps k=rowsK wd ρ' i ps k
 | [],_,_,_=>rfl
 | (j,x) :: r,i,k,h=>by
  simp only [rowsK];rw [←h (j,x) (by simp)]
  have:=fun i k=>rowsK_congr (wd:=wd) r i k (fun y hy=>h y (by simp [hy]))
  simp only [this]
theorem argsK_congr {ρ ρ':Operand→AV}:∀ (l:List Operand) (k:List AV→Prop),(∀ x∈l,ρ x=ρ' x)→argsK ρ l k=argsK ρ' l k
 | [],_,_=>rfl
 | x :: r,k,h=>by
  simp only [argsK];rw [←h x (by simp)]
  have:=fun k=>argsK_congr r k (fun y hy=>h y (by simp [hy]))
  simp only [this]
theorem evOp_congr {op:Op} {ρ ρ':Operand→AV} {bv bv':Nat→Option (Nat×List AC)} {K:Eff→Prop} (h:∀ x∈op.operands,ρ x=ρ' x) (hb:∀ a,addrOf op=some a→∀ k off,ρ a=.c (.p k off)→bv k=bv' k) :
  evOp P O T op ρ bv K=evOp P O T op ρ' bv' K:=by
 cases op<;>simp only [evOp]
 case move x=>rw [h x (by simp [Op.operands])]
 case assign x=>rw [h x (by simp [Op.operands])]
 case pick c a b=>rw [h c (by simp [Op.operands]),h a (by simp [Op.operands]),h b (by simp [Op.operands])]
 case box t x=>rw [h x (by simp [Op.operands])]
 case build t ps=>have:=fun cs k fl=>fillK_congr (fl:=fl) (ρ:=ρ) (ρ':=ρ') ps.toList cs k (fun y hy=>h y.2 (by simp [Op.operands];exact ⟨y.1,by simpa using hy⟩));simp only [this]
 case buildSlice t n ps=>have:=fun k wd=>rowsK_congr (wd:=wd) (ρ:=ρ) (ρ':=ρ') ps.toList 0 k (fun y hy=>h y.2 (by simp [Op.operands];exact ⟨y.1,by simpa using hy⟩));simp only [this]
 case load t a =>
  rw [←h a (by simp [Op.operands])]
  split<;>try rfl
  split<;>try rfl
  rename_i k off e
  rw [hb a rfl k off e]
 case store t a x =>
  rw [←h a (by simp [Op.operands]),←h x (by simp [Op.operands])]
  split<;>try rfl
  split<;>try rfl
  rename_i k off e
  rw [hb a rfl k off e]
 case fieldAddr s x f=>rw [h x (by simp [Op.operands])]
 case field s x f=>rw [h x (by simp [Op.operands])]
 case indexAddr t x i=>rw [h x (by simp [Op.operands]),h i (by simp [Op.operands])]
 case extract x i=>rw [h x (by simp [Op.operands])]
 case binOp op t x y u=>rw [h x (by simp [Op.operands]),h y (by simp [Op.operands])]
 case unOp op t x=>rw [h x (by simp [Op.operands])]
 case convert s d x=>rw [h x (by simp [Op.operands])]
 case call c =>
  have ha:∀ x∈c.args.toList,ρ x=ρ' x:=fun x hx=>h x (by simp [Op.operands,Go.Call.operands];exact .inr (by simpa using hx))
  split
  ·rename_i f hc
   rw [h f (by simp [Op.operands,Go.Call.operands,hc])]
   have:=fun k=>argsK_congr (ρ:=ρ) (ρ':=ρ') c.args.toList k ha
   simp only [this]
  ·split
   ·rename_i x t e _;rw [ha x (by simp [e])]
   ·rfl
  ·split
   ·rename_i x y e;rw [ha x (by simp [e]),ha y (by simp [e])]
   ·rfl
  ·split
   ·rename_i x y e;rw [ha x (by simp [e]),ha y (by simp [e])]
   ·rfl
  ·rfl
/-! ### an operation of a region -/
def evNw (P:Program) (O:Opq) (T:Tys) (o:Oper) (V:View) (K:Eff→Prop):Prop :=
 match isNew o.op with
 | true=>match o.dst with
  | some t=>match V.bv t with
   | none=>evOp P O T o.op V.ev V.bv K
   | some _=>False
  | none=>False
 | false=>evOp P O T o.op V.ev V.bv K
def evG (P:Program) (O:Opq) (T:Tys) (ops:Array Oper) (o:Oper) (V:View) (K:Eff→Prop):Prop :=
 match o.guard with
 | none=>evNw P O T o V K
 | some (j,want)=>match (ops[j]?).bind (·.dst) with
  | some t=>match V.tv t with
   | .c (.v (.bool b))=>match want with
    | true=>cond b (evNw P O T o V K) (K (.val (.t [])))
    | false=>cond b (K (.val (.t []))) (evNw P O T o V K)
   | .t _=>K (.val (.t []))
   | _=>False
  | none=>False
theorem evNw_one {o:Oper} {V:View}:One (evNw P O T o V):=by
 unfold One evNw
 split
 ·split
  ·split
   ·exact evOp_ex
   ·exact One.no
  ·exact One.no
 ·exact evOp_ex
theorem evG_one {ops:Array Oper} {o:Oper} {V:View}:One (evG P O T ops o V):=by
 unfold One evG
 split
 ·exact evNw_one
 ·split
  ·split
   ·rename_i b _
    intro k h
    split at h
    ·cases b with
     | true=>exact evNw_one k h
     | false=>exact One.pure (Eff.val (.t [])) k h
    ·cases b with
     | true=>exact One.pure (Eff.val (.t [])) k h
     | false=>exact evNw_one k h
   ·exact One.pure _
   ·exact One.no
  ·exact One.no
theorem evG_congr {ops:Array Oper} {o:Oper} {V V':View} {K:Eff→Prop} (h:∀ t∈o.looksAt ops,V.tv t=V'.tv t) (hn:isNew o.op=true→∀ t,o.dst=some t→V.bv t=none→V'.bv t=none)
  (hb:∀ a,addrOf o.op=some a→∀ k off,V.ev a=.c (.p k off)→V.bv k=V'.bv k) (e:evG P O T ops o V K):evG P O T ops o V' K:=by
 have hops:∀ x∈o.op.operands,V.ev x=V'.ev x:=by
  intro x hx
  cases x with
  | tmp t=>exact h t (by simp only [Oper.looksAt,List.mem_append,List.mem_filterMap];exact .inl ⟨.tmp t,by simpa using hx,rfl⟩)
  | const x=>cases x<;>rfl
  | global _=>rfl
  | func _=>rfl
 have n:evNw P O T o V K→evNw P O T o V' K:=by
  intro e
  unfold evNw at e ⊢;rw [evOp_congr hops hb] at e
  cases hi:isNew o.op with
  | false=>rw [hi] at e;exact e
  | true =>
   rw [hi] at e
   cases hd:o.dst with
   | none=>rw [hd] at e;exact e
   | some t =>
    rw [hd] at e
    simp only at e ⊢
    cases hv:V.bv t with
    | some _=>rw [hv] at e;exact e.elim
    | none=>rw [hv] at e;rw [hn hi t hd hv];exact e
 unfold evG at e ⊢
 split at e
 ·exact n e
 ·rename_i j want hg
  cases ht:(ops[j]?).bind (·.dst) with
  | none=>simp only [ht] at e
  | some t =>
   simp only [ht] at e ⊢;rw [←h t (by simp only [Oper.looksAt,hg,ht];simp)]
   cases hv:V.tv t with
   | t xs=>rw [hv] at e;exact e
   | g _=>rw [hv] at e;exact e.elim
   | j=>rw [hv] at e;exact e.elim
   | c y =>
    cases y with
    | v x =>
     cases x with
     | bool b =>
      rw [hv] at e
      cases want<;>cases b<;>first | exact n e | exact e
     | _=>rw [hv] at e;exact e.elim
    | _=>rw [hv] at e;exact e.elim
/-! ### the boxes that pointers name are there -/
def WF (V:View):Prop:=∀ u k off,V.tv u=.c (.p k off)→(V.bv k).isSome=true
theorem ev_ptr {V:View} {x:Operand} {k off:Nat} (W:WF V) (h:V.ev x=.c (.p k off)):(V.bv k).isSome=true:=by
 cases x with
 | tmp t=>exact W t k off h
 | const x=>cases x<;>simp [View.ev] at h
 | global g=>simp [View.ev] at h
 | func f=>simp [View.ev] at h
def Eff.fits (o:Oper) (V:View):Eff→Prop
 | .val x=>∀ k off,x=.c (.p k off)→(V.bv k).isSome=true
 | .new _ _=>isNew o.op=true∧∃ t,o.dst=some t∧V.bv t=none
 | .sto h _ _ _ _=>isSto o.op=true∧(V.bv h).isSome=true∧∃ a off,addrOf o.op=some a∧V.ev a=.c (.p h off)
theorem fits_evOp {o:Oper} {V:View} (W:WF V) {e:Eff} (hn:isNew o.op=true→∃ t,o.dst=some t∧V.bv t=none) (h:evOp P O T o.op V.ev V.bv (· = e)):e.fits o V:=by
 have vl:∀ {x:AV},(∀ k off,x≠.c (.p k off))→Eff.val x=e→e.fits o V:=by
  intro x hx he;subst he;intro k off h;exact absurd h (hx k off)
 have p:∀ {ag m cs},partK ag m cs (fun v=>Eff.val v=e)→e.fits o V:=by
  intro ag m cs h
  obtain ⟨x,hx,he,_⟩:=partK_one _ _ _ _ h;refine vl (fun k off hk => ?_) he;subst hk
  cases ag with
  | true=>simp [partK,takeK_iff] at hx
  | false=>cases cs with
   | nil=>exact hx
   | cons c cs=>cases c<;>simp [partK] at hx
 cases ho:o.op<;>rw [ho] at h<;>simp only [evOp] at h<;>try exact h.elim
 case move x =>
  have he:=((fwdK_iff _ _).1 h).2;subst he;intro k off e;exact ev_ptr W e
 case assign x =>
  have he:=((fwdK_iff _ _).1 h).2;subst he;intro k off e;exact ev_ptr W e
 case pick c a b =>
  split at h
  ·rename_i t _
   cases t with
   | true=>have he:=((fwdK_iff _ _).1 h).2;subst he;intro k off e;exact ev_ptr W e
   | false=>have he:=((fwdK_iff _ _).1 h).2;subst he;intro k off e;exact ev_ptr W e
  ·exact h.elim
 case alloc t =>
  split at h
  ·cases hb:O.box t with
   | false=>rw [hb] at h;exact h.elim
   | true=>rw [hb] at h;have he:_=e:=h;subst he;exact ⟨by rw [ho];rfl,hn (by rw [ho];rfl)⟩
  ·exact h.elim
 case box t x =>
  obtain ⟨cs,_,h,_⟩:=cellsK_one _ _ h
  cases hb:O.box t with
  | false=>rw [hb] at h;exact h.elim
  | true=>rw [hb] at h;have he:_=e:=h;subst he;exact ⟨by rw [ho];rfl,hn (by rw [ho];rfl)⟩
 case build t ps =>
  split at h
  ·rename_i ty _
   cases hb:ty.flds.isEmpty with
   | true=>rw [hb] at h;exact h.elim
   | false =>
    rw [hb] at h;obtain ⟨cs,_,h,_⟩:=fillK_one _ _ _ _ _ h;rw [allK_iff] at h
    exact vl (by simp) h
  ·exact h.elim
 case buildSlice t n ps =>
  split at h
  ·split at h
   ·obtain ⟨rs,_,h,_⟩:=rowsK_one _ _ _ _ _ h
    cases hb:Nat.beq rs.length n&&Nat.ble (n * ‹Nat›) 16777216&&Nat.blt 0 (n * ‹Nat›) with
    | false=>rw [hb] at h;exact h.elim
    | true=>rw [hb] at h;exact vl (by simp) h
   ·exact h.elim
  ·exact h.elim
 case load t a =>
  split at h
  ·split at h
   ·split at h
    ·exact p h
    ·exact h.elim
   ·exact p h
   ·split at h
    ·exact vl (by simp) h
    ·exact h.elim
   ·exact h.elim
  ·exact h.elim
 case store t a x =>
  split at h
  ·split at h
   ·rename_i k off ea
    split at h
    ·obtain ⟨xs,_,h,_⟩:=cellsK_one _ _ h;have h:=(cond_ff h).2;rw [allK_iff] at h;subst h
     exact ⟨by rw [ho];rfl,ev_ptr W ea,_,_,by rw [ho];rfl,ea⟩
    ·exact h.elim
   ·exact h.elim
  ·exact h.elim
 case fieldAddr s x f =>
  split at h
  ·split at h
   ·rename_i ex;have he:_=e:=h;subst he;intro k off hk;cases hk;exact ev_ptr W ex
   ·exact vl (by simp) h
   ·exact h.elim
  ·exact h.elim
 case field s x f =>
  split at h
  ·split at h
   ·exact p h
   ·exact h.elim
  ·exact h.elim
 case indexAddr t x i =>
  split at h
  ·split at h
   ·exact vl (by simp) (cond_ff h).2
   ·split at h
    ·exact vl (by simp) (cond_ff h).2
    ·exact h.elim
   ·exact h.elim
  ·exact h.elim
 case extract x i =>
  split at h
  ·split at h
   ·exact h.elim
   ·rename_i c hc _;refine vl (fun k off hk => ?_) h;cases hk;exact hc _ _ rfl
   ·rw [allK_iff] at h;exact vl (by simp) h
   ·exact h.elim
  ·exact h.elim
 case binOp op t x y u =>
  split at h
  ·split at h
   ·split at h
    ·exact vl (by simp) h
    ·exact h.elim
   ·split at h
    ·exact vl (by simp) h
    ·exact h.elim
   ·exact h.elim
  ·obtain ⟨r,_,h,_⟩:=binK_one _ _ _ _ h;exact vl (by simp) h
  ·split at h
   ·obtain ⟨r,_,h,_⟩:=eqK_one _ _ _ _ (cond_ff h).2;exact vl (by simp) h
   ·obtain ⟨r,_,h,_⟩:=eqK_one _ _ _ _ (cond_ff h).2;exact vl (by simp) h
   ·exact h.elim
  ·exact h.elim
 case unOp op t x =>
  split at h
  ·obtain ⟨r,_,h,_⟩:=unK_one _ _ _ h;exact vl (by simp) h
  ·exact h.elim
 case convert s d x =>
  split at h
  ·split at h<;>first | exact h.elim | exact vl (by simp) h
  ·exact h.elim
 case makeFunc fn fs cs=>exact vl (by simp) (cond_ff h).2
 case call c =>
  split at h
  ·split at h
   ·obtain ⟨l,_,⟨r,hc,h⟩,_⟩:=argsK_one _ _ _ h;refine vl (fun k off hk => ?_) h;subst hk;exact absurd hc.nop (by simp [noPV,isP])
   ·exact h.elim
  ·split at h
   ·split at h
    ·split at h<;>first | exact h.elim | exact vl (by simp) h
    ·exact h.elim
   ·exact h.elim
  ·split at h
   ·split at h<;>first | exact h.elim | exact vl (by simp) h
   ·exact h.elim
  ·split at h
   ·split at h<;>first | exact h.elim | exact vl (by simp) h
   ·exact h.elim
  ·exact h.elim
end
section
variable {P:Program} {O:Opq} {T:Tys}
theorem fits_evG {ops:Array Oper} {o:Oper} {V:View} (W:WF V) {e:Eff} (h:evG P O T ops o V (· = e)):e.fits o V:=by
 have n:evNw P O T o V (· = e)→e.fits o V:=by
  intro h
  unfold evNw at h
  cases hi:isNew o.op with
  | false=>rw [hi] at h;exact fits_evOp W (fun h=>by rw [hi] at h;cases h) h
  | true =>
   rw [hi] at h
   cases hd:o.dst with
   | none=>rw [hd] at h;exact h.elim
   | some t =>
    rw [hd] at h
    cases hv:V.bv t with
    | some _=>simp only [hv] at h
    | none=>simp only [hv] at h;exact fits_evOp W (fun _=>⟨t,hd,hv⟩) h
 have u:Eff.val (.t [])=e→e.fits o V:=by intro h;subst h;intro k off h;cases h
 unfold evG at h
 split at h
 ·exact n h
 ·rename_i j want hg
  cases ht:(ops[j]?).bind (·.dst) with
  | none=>simp only [ht] at h
  | some t =>
   simp only [ht] at h
   cases hv:V.tv t with
   | t xs=>rw [hv] at h;exact u h
   | g _=>rw [hv] at h;exact h.elim
   | j=>rw [hv] at h;exact h.elim
   | c y =>
    cases y with
    | v x =>
     cases x with
     | bool b=>rw [hv] at h;cases want<;>cases b<;>first | exact n h | exact u h
     | _=>rw [hv] at h;exact h.elim
    | _=>rw [hv] at h;exact h.elim
def Eff.o (e:Eff) (t:Nat):AV:=match e with
 | .val x=>x
 | .new _ _=>.c (.p t 0)
 | .sto _ _ _ _ _=>.t []
def Eff.key (e:Eff) (d:Option Nat):Option (Nat×Nat×List AC):=match e,d with
 | .new T cs,some t=>some (t,T,cs)
 | .sto h T _ _ all,_=>some (h,T,all)
 | _,_=>none
def updT (f:Nat→AV) (d:Option Nat) (e:Eff):Nat→AV:=match d with
 | some t=>upd f t (e.o t)
 | none=>f
def updB (f:Nat→Option (Nat×List AC)) (k:Option (Nat×Nat×List AC)):Nat→Option (Nat×List AC):=match k with
 | some (h,x)=>upd f h (some x)
 | none=>f
theorem app_eq (V:View) (e:Eff) (d:Option Nat):V.app e d=⟨updT V.tv d e,updB V.bv (e.key d)⟩:=by
 cases e<;>cases d<;>rfl
theorem upd_comm {α:Type} (f:Nat→α) {i j:Nat} (x y:α) (h:i≠j):upd (upd f i x) j y=upd (upd f j y) i x:=by
 funext k
 by_cases e1:k=i
 ·subst e1;rw [upd_ne _ _ h,upd_same,upd_same]
 ·by_cases e2:k=j
  ·subst e2;rw [upd_same,upd_ne _ _ e1,upd_same]
  ·rw [upd_ne _ _ e2,upd_ne _ _ e1,upd_ne _ _ e1,upd_ne _ _ e2]
theorem WF.app {o:Oper} {V:View} (W:WF V) {e:Eff} (h:e.fits o V):WF (V.app e o.dst):=by
 have some_upd:∀ {h x k},(V.bv k).isSome=true→(upd V.bv h (some x) k).isSome=true:=by
  intro h x k hk
  by_cases e:k=h
  ·subst e;rw [upd_same];rfl
  ·rw [upd_ne _ _ e];exact hk
 intro u k off hu
 cases e with
 | val x =>
  cases hd:o.dst with
  | none=>rw [hd] at hu;exact W u k off hu
  | some t =>
   rw [hd] at hu
   by_cases e:u=t
   ·subst e;have hu':upd V.tv u x u=_:=hu;rw [upd_same] at hu'
    exact h k off hu'
   ·have hu':upd V.tv t x u=_:=hu;rw [upd_ne _ _ e] at hu'
    exact W u k off hu'
 | new T cs =>
  obtain ⟨_,t,hd,hv⟩:=h;rw [hd] at hu ⊢;have hu':upd V.tv t (.c (.p t 0)) u=_:=hu
  show (upd V.bv t (some (T,cs)) k).isSome=true
  by_cases e:u=t
  ·subst e;rw [upd_same] at hu';cases hu';rw [upd_same];rfl
  ·rw [upd_ne _ _ e] at hu';exact some_upd (W u k off hu')
 | sto b T off' cs all =>
  have tvs:∀ u,(V.app (.sto b T off' cs all) o.dst).tv u=.c (.p k off)→V.tv u=.c (.p k off):=by
   intro u hu
   cases hd:o.dst with
   | none=>rw [hd] at hu;exact hu
   | some t =>
    rw [hd] at hu;have hu':upd V.tv t (.t []) u=_:=hu
    by_cases e:u=t
    ·subst e;rw [upd_same] at hu';cases hu'
    ·rw [upd_ne _ _ e] at hu';exact hu'
  have hb:(V.app (.sto b T off' cs all) o.dst).bv=upd V.bv b (some (T,all)):=by cases o.dst<;>rfl
  rw [hb];exact some_upd (W u k off (tvs u hu))
def neB:Option Nat→Option Nat→Bool
 | some a,some b => !Nat.beq a b
 | _,_=>false
def apartB (ops:Array Oper) (bi bj:Option Nat) (x y:Oper):Bool :=
 x.apart ops y&&(!((addrOf x.op).isSome&&isSto y.op)||neB bi bj)&&(!((addrOf y.op).isSome&&isSto x.op)||neB bi bj)
theorem neB_ne {bi bj:Option Nat} (h:neB bi bj=true):∃ p q,bi=some p∧bj=some q∧p≠q:=by
 cases bi with
 | none=>cases h
 | some p =>
  cases bj with
  | none=>cases h
  | some q=>exact ⟨p,q,rfl,rfl,fun e=>by subst e;simp [neB] at h⟩
def boxOK (V:View) (o:Oper) (b:Option Nat):Prop:=∀ k,b=some k→∀ a,addrOf o.op=some a→∀ h off,V.ev a=.c (.p h off)→h=k
theorem addr_looks {ops:Array Oper} {o:Oper} {t:Nat} (h:addrOf o.op=some (.tmp t)):t∈o.looksAt ops:=by
 simp only [Oper.looksAt,List.mem_append,List.mem_filterMap];refine .inl ⟨.tmp t,?_,rfl⟩
 cases ho:o.op<;>rw [ho] at h<;>simp [addrOf] at h<;>subst h<;>simp [Op.operands]
theorem sto_addr {op:Op} (h:isSto op=true):(addrOf op).isSome=true:=by
 cases op<;>first | rfl | cases h
theorem swap {ops:Array Oper} {bi bj:Option Nat} {x y:Oper} {V:View} (W:WF V) {e f:Eff} (ha:apartB ops bi bj x y=true) (kx:boxOK V x bi) (ky:boxOK (V.app e x.dst) y bj) (hx:evG P O T ops x V (· = e)) (hy:evG P O T ops y (V.app e x.dst) (· = f)) :
  boxOK V y bj∧boxOK (V.app f y.dst) x bi∧evG P O T ops y V (· = f)∧evG P O T ops x (V.app f y.dst) (· = e)∧(V.app f y.dst).app e x.dst=(V.app e x.dst).app f y.dst:=by
 simp only [apartB,Bool.and_eq_true,Bool.or_eq_true,Bool.not_eq_true',Bool.and_eq_false_iff] at ha;obtain ⟨⟨hap,hm1⟩,hm2⟩:=ha;obtain ⟨a1,a2,a3⟩:=Oper.apart_spec hap;have fe:=fits_evG W hx;have tv1:∀ {f:Nat→AV} {d:Option Nat} {e:Eff} {t:Nat},(∀ u,d=some u→u≠t)→updT f d e t=f t:=by
  intro f d e t h
  cases d with
  | none=>rfl
  | some u=>exact upd_ne _ _ (fun h'=>h u rfl h'.symm)
 have bvN:∀ {o:Oper} {e:Eff} {t:Nat},(updB V.bv (e.key o.dst)) t=none→V.bv t=none:=by
  intro o e t h
  cases hk:e.key o.dst with
  | none=>rw [hk] at h;exact h
  | some p =>
   rw [hk] at h;have h':upd V.bv p.1 (some p.2) t=none:=h
   by_cases e:t=p.1
   ·rw [e,upd_same] at h';cases h'
   ·rw [upd_ne _ _ e] at h';exact h'
 have hev:∀ {o p:Oper} {g:Eff} {a:Operand},addrOf p.op=some a→(∀ d,o.dst=some d→d ∉ p.looksAt ops)→(V.app g o.dst).ev a=V.ev a:=by
  intro o p g a haa hn
  cases a with
  | tmp t =>
   show (V.app g o.dst).tv t=V.tv t
   rw [app_eq]
   exact tv1 (fun u hu e=>hn u hu (e ▸ addr_looks haa))
  | const x=>cases x<;>rfl
  | global _=>rfl
  | func _=>rfl
 have ky':boxOK V y bj:=fun k hk a haa h off hv=>ky k hk a haa h off (by rw [hev haa a1];exact hv);have kx':boxOK (V.app f y.dst) x bi:=fun k hk a haa h off hv=>kx k hk a haa h off (by rw [hev haa a3] at hv;exact hv)
 -- the second,first
 have A:evG P O T ops y V (· = f):=by
  refine evG_congr (V:=V.app e x.dst) (fun t ht => ?_) (fun hn t hd hv => ?_) (fun a haa k off hk => ?_) hy
  ·rw [app_eq];exact tv1 (fun u hu e=>a1 u hu (e ▸ ht))
  ·rw [app_eq] at hv;exact bvN (o:=x) hv
  ·rw [hev haa a1] at hk;have hs:=ev_ptr W hk;rw [app_eq]
   show updB V.bv (e.key x.dst) k=V.bv k
   cases e with
   | val _=>rfl
   | new T cs =>
    obtain ⟨_,t,hd,hv⟩:=fe;rw [hd]
    show upd V.bv t _ k=_
    refine upd_ne _ _ (fun e => ?_);rw [e,hv] at hs;cases hs
   | sto b T o' cs all =>
    have h1:=fe.1
    rcases hm2 with (h | h) | h
    ·rw [haa] at h;cases h
    ·rw [h1] at h;cases h
    ·obtain ⟨p,q,hp,hq,hpq⟩:=neB_ne h;obtain ⟨a',off',hx',hv'⟩:=fe.2.2;have e1:=kx p hp a' hx' b off' hv';have e2:=ky' q hq a haa k off hk
     exact upd_ne _ _ (fun e=>hpq (by rw [←e1,←e2,e]))
 have ff:=fits_evG W A;have B:evG P O T ops x (V.app f y.dst) (· = e):=by
  refine evG_congr (V:=V) (fun t ht => ?_) (fun hn t hd hv => ?_) (fun a haa k off hk => ?_) hx
  ·rw [app_eq];exact (tv1 (fun u hu e=>a3 u hu (e ▸ ht))).symm
  ·rw [app_eq]
   show updB V.bv (f.key y.dst) t=none
   cases f with
   | val _=>exact hv
   | new T cs =>
    obtain ⟨_,u,hu,_⟩:=ff;rw [hu]
    show upd V.bv u _ t=_
    rw [upd_ne _ _ (fun e=>a2 t hd (by rw [hu,e]))];exact hv
   | sto b T o' cs all =>
    show upd V.bv b _ t=_
    rw [upd_ne];exact hv
    intro e;have f2:=ff.2.1;rw [←e,hv] at f2;cases f2
  ·have hs:=ev_ptr W hk;rw [app_eq]
   show V.bv k=updB V.bv (f.key y.dst) k
   cases f with
   | val _=>rfl
   | new T cs =>
    obtain ⟨_,t,hd,hv⟩:=ff;rw [hd]
    show _=upd V.bv t _ k
    rw [upd_ne]
    intro e;rw [e,hv] at hs;cases hs
   | sto b T o' cs all =>
    have h1:=ff.1
    rcases hm1 with (h | h) | h
    ·rw [haa] at h;cases h
    ·rw [h1] at h;cases h
    ·obtain ⟨p,q,hp,hq,hpq⟩:=neB_ne h;obtain ⟨a',off',hx',hv'⟩:=ff.2.2;have e1:=ky' q hq a' hx' b off' hv';have e2:=kx p hp a haa k off hk
     exact (upd_ne _ _ (fun e=>hpq (by rw [←e1,←e2,e]))).symm
 refine ⟨ky',kx',A,B,?_⟩;simp only [app_eq]
 congr 1
 ·cases hd:x.dst with
  | none=>rfl
  | some i =>
   cases hd':y.dst with
   | none=>rfl
   | some j=>exact upd_comm _ _ _ (fun e=>a2 i hd (by rw [hd',←e]))
 ·cases hk:e.key x.dst with
  | none=>rfl
  | some p =>
   cases hk':f.key y.dst with
   | none=>rfl
   | some q =>
    refine upd_comm _ _ _ (fun eq => ?_)
    cases e with
    | val _=>cases hk
    | new T cs =>
     obtain ⟨_,t,hd,hv⟩:=fe;rw [hd] at hk;cases hk
     cases f with
     | val _=>cases hk'
     | new T' cs' =>
      obtain ⟨_,u,hu,_⟩:=ff;rw [hu] at hk';cases hk'
      exact a2 _ hd (by rw [hu];exact congrArg some eq)
     | sto b T' o' cs' all =>
      have hk':some (b,T',all)=some q:=hk'
      cases hk'
      have:=ff.2.1
      have eq:b=t:=eq;rw [eq,hv] at this;cases this
    | sto b T o' cs all =>
     have hk:some (b,T,all)=some p:=hk
     cases hk
     cases f with
     | val _=>cases hk'
     | new T' cs' =>
      obtain ⟨_,u,hu,hv⟩:=ff;rw [hu] at hk';cases hk'
      have:=fe.2.1
      have eq:u=b:=eq;rw [←eq,hv] at this;cases this
     | sto b' T' o'' cs' all' =>
      rcases hm1 with (h | h) | h
      ·rw [sto_addr fe.1] at h;cases h
      ·rw [ff.1] at h;cases h
      ·obtain ⟨p,q,hp,hq,hpq⟩:=neB_ne h;obtain ⟨a',off',hx',hv'⟩:=fe.2.2;obtain ⟨a'',off'',hx'',hv''⟩:=ff.2.2;have hk':some (b',T',all')=some _:=hk'
       cases hk'
       have eq:b'=b:=eq
       exact hpq (by rw [←kx p hp a' hx' b off' hv',←ky' q hq a'' hx'' b' off'' hv'',eq])
end
section
variable {P:Program} {O:Opq} {T:Tys} {n:Nat} {w0:World×(Nat→Prop)}
def evOps (P:Program) (O:Opq) (T:Tys) (ops:Array Oper):List Oper→View→(View→Prop)→Prop
 | [],V,K=>K V
 | o :: r,V,K=>evG P O T ops o V fun e=>evOps P O T ops r (V.app e o.dst) K
theorem g_sound (TK:TyOK P O T) {β:Nat→Option Nat} {S:Nat→Prop} {V:View} {a:Act} {w:World} (C:Corr O n w0 β S V a w) {ops:Array Oper} {i:Nat} {o:Oper} (ho:ops[i]?=some o) {Kp:Eff→Prop}
  (h:evG P O T ops o V Kp) (hd:∀ t,o.dst=some t→t<n) {next:Act→World→Prop} {Q:Exit→Act→World→Prop} (K:After O n w0 V o.dst Kp next):wpOp P ops Q i next a w:=by
 have go:evNw P O T o V Kp→o.wp P a w next Q:=by
  intro h
  unfold evNw at h
  cases hi:isNew o.op with
  | false=>rw [hi] at h;exact op_sound TK C h hd (fun h=>by rw [hi] at h;cases h) K
  | true =>
   rw [hi] at h
   cases hd':o.dst with
   | none=>rw [hd'] at h;exact h.elim
   | some t =>
    rw [hd'] at h
    cases hv:V.bv t with
    | some _=>simp only [hv] at h
    | none=>simp only [hv] at h;exact op_sound TK C h hd (fun _=>⟨t,hd',hv⟩) K
 have no:Kp (.val (.t []))→next (a.put o.dst undef) w:=fun h=>K _ _ _ _ _ h (C.put hd (x:=.t []) ⟨[],rfl,trivial⟩);unfold wpOp;simp only [ho];unfold evG at h
 split at h
 ·rename_i hg
  rw [if_pos (by simp [Region.wanted,hg])]
  exact .inl (go h)
 ·rename_i j want hg
  cases ht:(ops[j]?).bind (·.dst) with
  | none=>simp only [ht] at h
  | some t =>
   simp only [ht] at h;have hr:=C.tm t;have hy:∀ b,V.tv t=.c (.v (.bool b))→yielded ops a.tmps j=some b:=by
    intro b hb
    rw [hb] at hr;have e:a.tmps.getD t undef=.bool b:=hr.1;unfold yielded;rw [ht];rw [Array.getD_eq_getD_getElem?] at e
    cases h1:a.tmps[t]? with
    | none=>rw [h1] at e;cases e
    | some v=>rw [h1] at e;have e:v=.bool b:=e;subst e;simp [h1]
   cases hv:V.tv t with
   | t xs =>
    rw [hv] at h;rw [hv] at hr;obtain ⟨vs,e,_⟩:=hr
    have:yielded ops a.tmps j=none:=by
     unfold yielded;rw [ht];rw [Array.getD_eq_getD_getElem?] at e
     cases h1:a.tmps[t]? with
     | none=>simp [h1]
     | some v=>rw [h1] at e;have e:v=.tuple vs.toArray:=e;subst e;simp [h1]
    rw [if_neg (by simp [Region.wanted,hg,this])]
    exact no h
   | g _=>rw [hv] at h;exact h.elim
   | j=>rw [hv] at h;exact h.elim
   | c y =>
    cases y with
    | v x =>
     cases x with
     | bool b =>
      rw [hv] at h
      have:=hy b hv
      cases want<;>cases b
      ·rw [if_pos (by simp [Region.wanted,hg,this])];exact .inl (go h)
      ·rw [if_neg (by simp [Region.wanted,hg,this])];exact no h
      ·rw [if_neg (by simp [Region.wanted,hg,this])];exact no h
      ·rw [if_pos (by simp [Region.wanted,hg,this])];exact .inl (go h)
     | _=>rw [hv] at h;exact h.elim
    | _=>rw [hv] at h;exact h.elim
def Behind (O:Opq) (n:Nat) (w0:World×(Nat→Prop)) (K:View→Prop) (N:Act→World→Prop):Prop:=∀ V a w β S,K V→Corr O n w0 β S V a w→WF V→N a w
theorem seq_sound (TK:TyOK P O T) {ops:Array Oper} {Q:Exit→Act→World→Prop} {K:View→Prop} (hQ:Behind O n w0 K (Q .normal)) (hd:∀ o∈ops.toList,∀ t,o.dst=some t→t<n) :
  ∀ (r:List Oper) (k:Nat),(∀ j,r[j]?=ops[k+j]?)→∀ {β S V a w},evOps P O T ops r V K→Corr O n w0 β S V a w→WF V→wpOps P ops Q (List.range' k r.length) a w
 | [],k,hr,_,_,_,_,_,h,C,W=>hQ _ _ _ _ _ h C W
 | o :: r,k,hr,β,S,V,a,w,h,C,W=>by
  have ho:ops[k]?=some o:=by have:=hr 0;simpa using this.symm
  rw [List.length_cons,List.range'_succ,wpOps_cons];obtain ⟨e,h1,h2,_⟩:=evG_one _ h;refine g_sound TK C ho h1 (hd o (by rw [←Array.getElem?_toList] at ho;exact List.mem_of_getElem? ho)) ?_
  intro e' a' w' β' S' he C'
  subst he
  exact seq_sound TK hQ hd r (k+1) (fun j=>by have:=hr (j+1);simp only [List.getElem?_cons_succ] at this;rw [this];congr 1;omega) h2 C' (W.app (fits_evG W h1))
/-! ### in whatever order -/
def edgesOf (o:Oper):List Nat:=o.after.toList.filterMap fun e=>if Region.binds .any e then some e.on else none
def masks:List Oper→List Nat→List Nat
 | [],acc=>acc
 | o :: r,acc=>masks r (acc++[(edgesOf o).foldl (fun s e=>s ||| (2^e ||| acc.getD e 0)) 0])
def regB' (ops:Array Oper) (bx:Nat→Option Nat) (ms:List Nat):Bool:=(List.range ops.size).all fun i=>match ops[i]? with
 | none=>true
 | some y=>(edgesOf y).all (fun e=>Nat.blt e i)&&(List.range i).all fun k=>(ms.getD i 0).testBit k||match ops[k]? with
  | none=>true
  | some x=>apartB ops (bx k) (bx i) x y
def regB (ops:Array Oper) (bx:Nat→Option Nat):Bool:=regB' ops bx (masks ops.toList [])
theorem fold_bit (acc:List Nat):∀ (l:List Nat) (s k:Nat),(l.foldl (fun s e=>s ||| (2^e ||| acc.getD e 0)) s).testBit k=true→s.testBit k=true∨∃ e∈l,e=k∨(acc.getD e 0).testBit k=true
 | [],s,k,h=>.inl h
 | e :: l,s,k,h=>by
  rw [List.foldl_cons] at h
  rcases fold_bit acc l _ k h with h | ⟨x,hx,h⟩
  ·simp only [Nat.testBit_or,Bool.or_eq_true] at h
   rcases h with h | h | h
   ·exact .inl h
   ·exact .inr ⟨e,by simp,.inl (by simpa [Nat.testBit_two_pow] using h)⟩
   ·exact .inr ⟨e,by simp,.inr h⟩
  ·exact .inr ⟨x,by simp [hx],h⟩
theorem masks_sound {ops:Array Oper} {L:Nat→Prop} (hL:∀ i o,ops[i]?=some o→L i→∀ e∈edgesOf o,L e) :
  ∀ (r:List Oper) (acc:List Nat),(∀ j,r[j]?=ops[acc.length+j]?)→(∀ (i m:Nat),acc[i]?=some m→∃ o,ops[i]?=some o∧((∀ e∈edgesOf o,L e)→∀ k,m.testBit k=true→L k)) →
   ∀ (i m:Nat),(masks r acc)[i]?=some m→∃ o,ops[i]?=some o∧((∀ e∈edgesOf o,L e)→∀ k,m.testBit k=true→L k)
 | [],_,_,hA=>hA
 | o :: r,acc,hr,hA=>by
  have ho:ops[acc.length]?=some o:=by have:=hr 0;simpa using this.symm
  refine masks_sound hL r _ (fun j => ?_) (fun i m hm => ?_)
  ·have:=hr (j+1)
   simp only [List.getElem?_cons_succ] at this;rw [this];congr 1;simp;omega
  ·by_cases hi:i<acc.length
   ·rw [List.getElem?_append_left hi] at hm;exact hA i m hm
   ·have hil:i=acc.length:=by
     have:=(List.getElem?_eq_some_iff.1 hm).1
     simp at this;omega
    subst hil
    simp at hm
    refine ⟨o,ho,fun he k hk => ?_⟩;rw [←hm] at hk
    rcases fold_bit acc _ _ _ hk with h | ⟨e,hel,h⟩
    ·simp at h
    ·rcases h with rfl | h
     ·exact he _ hel
     ·cases hacc:acc[e]? with
      | none=>rw [List.getD_eq_getElem?_getD,hacc] at h;simp at h
      | some m' =>
       rw [List.getD_eq_getElem?_getD,hacc] at h;obtain ⟨o',ho',hm'⟩:=hA e m' hacc
       exact hm' (hL e o' ho' (he e hel)) k h
def evIdx (P:Program) (O:Opq) (T:Tys) (ops:Array Oper) (bx:Nat→Option Nat):List Nat→View→(View→Prop)→Prop
 | [],V,K=>K V
 | i :: r,V,K=>∃ o,ops[i]?=some o∧boxOK V o (bx i)∧evG P O T ops o V fun e=>evIdx P O T ops bx r (V.app e o.dst) K
theorem evIdx_of {ops:Array Oper} {K:View→Prop}:∀ (r:List Oper) (k:Nat),(∀ j,r[j]?=ops[k+j]?)→∀ V,evOps P O T ops r V K→evIdx P O T ops (fun _=>none) (List.range' k r.length) V K
 | [],_,_,_,h=>h
 | o :: r,k,hr,V,h=>by
  have ho:ops[k]?=some o:=by have:=hr 0;simpa using this.symm
  rw [List.length_cons,List.range'_succ];obtain ⟨e,h1,h2,h3⟩:=evG_one _ h
  exact ⟨o,ho,(fun _ h=>by cases h),h3 _ (evIdx_of r (k+1) (fun j=>by have:=hr (j+1);simp only [List.getElem?_cons_succ] at this;rw [this];congr 1;omega) _ h2)⟩
def boxB (V:View) (o:Oper) (b:Option Nat):Bool:=match b with
 | none=>true
 | some k=>match addrOf o.op with
  | none=>true
  | some a=>match V.ev a with
   | .c (.p h _)=>Nat.beq h k
   | _=>true
theorem boxB_ok {V:View} {o:Oper} {b:Option Nat} (h:boxB V o b=true):boxOK V o b:=by
 intro k hk a ha h' off hv
 subst hk;simp only [boxB,ha,hv] at h
 exact Nat.eq_of_beq_eq_true h
def evOpsB (P:Program) (O:Opq) (T:Tys) (ops:Array Oper) (bx:Nat→Option Nat):Nat→List Oper→View→(View→Prop)→Prop
 | _,[],V,K=>K V
 | i,o :: r,V,K=>cond (boxB V o (bx i)) (evG P O T ops o V fun e=>evOpsB P O T ops bx (i+1) r (V.app e o.dst) K) False
theorem evOps_ofB {ops:Array Oper} {bx:Nat→Option Nat} {K:View→Prop}:∀ (r:List Oper) (k:Nat) (V:View),evOpsB P O T ops bx k r V K→evOps P O T ops r V K
 | [],_,_,h=>h
 | o :: r,k,V,h=>by
  have h:cond (boxB V o (bx k)) (evG P O T ops o V fun e=>evOpsB P O T ops bx (k+1) r (V.app e o.dst) K) False:=h
  cases hb:boxB V o (bx k) with
  | false=>rw [hb] at h;exact h.elim
  | true =>
   rw [hb] at h;obtain ⟨e,h1,h2,h3⟩:=evG_one _ h
   exact h3 _ (evOps_ofB r (k+1) _ h2)
theorem evIdx_ofB {ops:Array Oper} {bx:Nat→Option Nat} {K:View→Prop}:∀ (r:List Oper) (k:Nat),(∀ j,r[j]?=ops[k+j]?)→∀ V,evOpsB P O T ops bx k r V K→evIdx P O T ops bx (List.range' k r.length) V K
 | [],_,_,_,h=>h
 | o :: r,k,hr,V,h=>by
  have ho:ops[k]?=some o:=by have:=hr 0;simpa using this.symm
  rw [List.length_cons,List.range'_succ];have h:cond (boxB V o (bx k)) (evG P O T ops o V fun e=>evOpsB P O T ops bx (k+1) r (V.app e o.dst) K) False:=h
  cases hb:boxB V o (bx k) with
  | false=>rw [hb] at h;exact h.elim
  | true =>
   rw [hb] at h;obtain ⟨e,h1,h2,h3⟩:=evG_one _ h
   exact ⟨o,ho,boxB_ok hb,h3 _ (evIdx_ofB r (k+1) (fun j=>by have:=hr (j+1);simp only [List.getElem?_cons_succ] at this;rw [this];congr 1;omega) _ h2)⟩
theorem front {bx:Nat→Option Nat} {ops:Array Oper} {K:View→Prop} {i:Nat} {y:Oper} (hy:ops[i]?=some y) {l2:List Nat}:∀ (l1:List Nat),(∀ k∈l1,∀ x,ops[k]?=some x→apartB ops (bx k) (bx i) x y=true)→∀ V,WF V→evIdx P O T ops bx (l1++i :: l2) V K →
  ∃ f,boxOK V y (bx i)∧evG P O T ops y V (· = f)∧evIdx P O T ops bx (l1++l2) (V.app f y.dst) K
 | [],_,V,W,h=>by
  obtain ⟨o,ho,hb,h⟩:=h;rw [hy] at ho;cases ho;obtain ⟨e,h1,h2,_⟩:=evG_one _ h
  exact ⟨e,hb,h1,h2⟩
 | k :: l1,ha,V,W,h=>by
  obtain ⟨x,hx,hb,h⟩:=h;obtain ⟨e,h1,h2,_⟩:=evG_one _ h;obtain ⟨f,f0,f1,f2⟩:=front hy l1 (fun k' hk'=>ha k' (by simp [hk'])) _ (W.app (fits_evG W h1)) h2;obtain ⟨b1,b2,s1,s2,s3⟩:=swap W (ha k (by simp) x hx) hb f0 h1 f1;refine ⟨f,b1,s1,x,hx,b2,?_⟩;obtain ⟨e',q1,q2,q3⟩:=evG_one _ s2;refine q3 _ ?_;have q2:e'=e:=q2;subst q2
  show evIdx P O T ops bx (l1++l2) _ K
  rw [s3];exact f2
theorem range_split {i m:Nat} (h:i<m):List.range m=List.range i++i :: List.range' (i+1) (m-(i+1)):=by
 have h1:=List.range'_append_1 (s:=0) (m:=i) (n:=m-i);rw [Nat.zero_add,show i+(m-i)=m by omega,show m-i=(m-(i+1))+1 by omega,List.range'_succ] at h1;rw [List.range_eq_range',List.range_eq_range',h1]
theorem any_sound (TK:TyOK P O T) {ops:Array Oper} {bx:Nat→Option Nat} (hB:regB ops bx=true) {Q:Exit→Act→World→Prop} {K:View→Prop} (hQ:Behind O n w0 K (Q .normal)) (hd:∀ o∈ops.toList,∀ t,o.dst=some t→t<n) :
  ∀ (fuel:Nat) (listed:Array Bool),listed.size=ops.size→(∀ i o,ops[i]?=some o→listed.getD i true=true→∀ e∈edgesOf o,listed.getD e false=true) →
   ((List.range ops.size).filter fun i => !listed.getD i true).length≤fuel→∀ {β S V a w},evIdx P O T ops bx ((List.range ops.size).filter fun i => !listed.getD i true) V K→Corr O n w0 β S V a w→WF V→wpAny P .any ops Q fuel listed a w:=by
 have hB':=hB;simp only [regB,regB',List.all_eq_true,List.mem_range] at hB'
 -- the least of what is left is ready
 have ready_least:∀ (listed:Array Bool),listed.size=ops.size→Region.ready .any ops listed=[]→(List.range ops.size).filter (fun i => !listed.getD i true)=[]:=by
  intro listed hs hr
  have key:∀ i,i<ops.size→listed.getD i true=true:=by
   intro i
   induction i using Nat.strongRecOn with
   | _ i ih =>
    intro hi
    cases hl:listed.getD i true with
    | true=>rfl
    | false =>
     exfalso
     have ho:ops[i]?=some ops[i]:=Array.getElem?_eq_getElem hi;have hb:=hB' i hi;rw [ho] at hb;simp only [Bool.and_eq_true,List.all_eq_true] at hb
     have:i∈Region.ready .any ops listed:=by
      simp only [Region.ready,List.mem_filter,List.mem_range];refine ⟨hi,?_⟩;simp only [hl,ho,Bool.not_false,Bool.true_and,Option.map_some,Option.getD_some];rw [Array.all_eq_true']
      intro e he
      cases hbd:Region.binds .any e with
      | false=>rfl
      | true =>
       have hm:e.on∈edgesOf ops[i]:=by
        simp only [edgesOf,List.mem_filterMap]
        exact ⟨e,by simpa using he,by simp [hbd]⟩
       have hlt:=hb.1 _ hm;rw [Nat.blt_eq] at hlt
       have:=ih e.on hlt (by omega)
       have he':e.on<listed.size:=by omega
       simp [Array.getD,he'] at this ⊢
       exact this
     rw [hr] at this;cases this
  rw [List.filter_eq_nil_iff]
  intro i hi
  simp [key i (by simpa using hi)]
 intro fuel
 induction fuel with
 | zero =>
  intro listed hs hcl hf β S V a w h C W
  have hnil:(List.range ops.size).filter (fun i => !listed.getD i true)=[]:=List.length_eq_zero_iff.1 (by omega);rw [hnil] at h;refine ⟨?_,hQ _ _ _ _ _ h C W⟩;simp only [Region.ready];rw [List.filter_eq_nil_iff] at hnil ⊢
  intro i hi
  have:=hnil i hi
  simp only [Bool.not_eq_true,Bool.not_eq_false'] at this
  simp [this]
 | succ fuel ih =>
  intro listed hs hcl hf β S V a w h C W
  refine ⟨fun hr => ?_,fun i hi => ?_⟩
  ·rw [ready_least listed hs hr] at h
   exact hQ _ _ _ _ _ h C W
  ·simp only [Region.ready,List.mem_filter,List.mem_range] at hi;obtain ⟨hlt,hi⟩:=hi;have ho:ops[i]?=some ops[i]:=Array.getElem?_eq_getElem hlt;rw [ho] at hi;simp only [Option.map_some,Option.getD_some,Bool.and_eq_true,Bool.not_eq_true'] at hi;obtain ⟨hun,hed⟩:=hi;have hedges:∀ e∈edgesOf ops[i],listed.getD e false=true:=by
    intro e he
    simp only [edgesOf,List.mem_filterMap] at he;obtain ⟨ed,hm,he⟩:=he;rw [Array.all_eq_true'] at hed
    have:=hed ed (by simpa using hm)
    split at he
    ·rename_i hbd
     cases he
     simpa [hbd] using this
    ·cases he
   -- what stands ahead of it does not meet it
   have hb:=hB' i hlt;rw [ho] at hb;simp only [Bool.and_eq_true,List.all_eq_true,List.mem_range,Bool.or_eq_true] at hb;have hap:∀ k,k<i→listed.getD k true=false→∀ x,ops[k]?=some x→apartB ops (bx k) (bx i) x ops[i]=true:=by
    intro k hk hku x hx
    rcases hb.2 k hk with h1 | h1
    ·exfalso
     have hL:∀ j o,ops[j]?=some o→(listed.getD j true=true∧j<ops.size)→∀ e∈edgesOf o,listed.getD e true=true∧e<ops.size:=by
      intro j o hj hjl e he
      have:=hcl j o hj hjl.1 e he
      have hlt':e<listed.size:=by
       rcases Nat.lt_or_ge e listed.size with h' | h'
       ·exact h'
       ·simp [Array.getD,Nat.not_lt.2 h'] at this
      refine ⟨?_,by omega⟩
      simp [Array.getD,hlt'] at this ⊢;exact this
     have hm:=masks_sound (L:=fun j=>listed.getD j true=true∧j<ops.size) hL ops.toList [] (fun j=>by simp) (fun i m h=>by simp at h) i
     cases hms:(masks ops.toList [])[i]? with
     | none=>rw [List.getD_eq_getElem?_getD,hms] at h1;simp at h1
     | some m =>
      rw [List.getD_eq_getElem?_getD,hms] at h1;obtain ⟨o',ho',hm'⟩:=hm m hms;rw [ho] at ho';cases ho'
      have:=(hm' (fun e he=>by
       have h2:=hedges e he;have hlt':e<listed.size:=by
        rcases Nat.lt_or_ge e listed.size with h' | h'
        ·exact h'
        ·simp [Array.getD,Nat.not_lt.2 h'] at h2
       refine ⟨?_,by omega⟩
       simp [Array.getD,hlt'] at h2 ⊢;exact h2) k h1).1
      rw [hku] at this;cases this
    ·rw [hx] at h1;exact h1
   -- the list of what is left,around it
   have hsplit:(List.range ops.size).filter (fun j => !listed.getD j true)=(List.range i).filter (fun j => !listed.getD j true)++i :: (List.range' (i+1) (ops.size-(i+1))).filter (fun j => !listed.getD j true):=by
    rw [range_split hlt,List.filter_append,List.filter_cons]
    simp [hun]
   rw [hsplit] at h;obtain ⟨f,_,f1,f2⟩:=front ho _ (fun k hk x hx=>by
    simp only [List.mem_filter,List.mem_range,Bool.not_eq_true'] at hk
    exact hap k hk.1 hk.2 x hx) V W h
   have hset:∀ j,(listed.setIfInBounds i true).getD j true=if j=i then true else listed.getD j true:=by
    intro j
    by_cases e:j=i
    ·subst e;simp [Array.getD,hs,hlt]
    ·simp only [Array.getD_eq_getD_getElem?,if_neg e];rw [Array.getElem?_setIfInBounds_ne (fun h=>e h.symm)]
   have hrest:(List.range ops.size).filter (fun j => !(listed.setIfInBounds i true).getD j true)=(List.range i).filter (fun j => !listed.getD j true)++(List.range' (i+1) (ops.size-(i+1))).filter (fun j => !listed.getD j true):=by
    rw [range_split hlt,List.filter_append,List.filter_cons];rw [hset i];simp only [if_true,Bool.not_true,Bool.false_eq_true,if_false]
    congr 1
    ·refine List.filter_congr fun j hj => ?_;rw [hset j,if_neg (by have:=List.mem_range.1 hj;omega)]
    ·refine List.filter_congr fun j hj => ?_;rw [hset j,if_neg (by have:=(List.mem_range'_1.1 hj).1;omega)]
   refine g_sound TK C ho f1 (hd _ (by rw [←Array.getElem?_toList] at ho;exact List.mem_of_getElem? ho)) ?_
   intro e' a' w' β' S' he C'
   subst he;refine ih _ (by simp [hs]) (fun j o hj hjl e he => ?_) ?_ (by rw [hrest];exact f2) C' (W.app (fits_evG W f1))
   ·have:listed.getD e false=true:=by
     rw [hset j] at hjl
     by_cases ej:j=i
     ·subst ej;rw [ho] at hj;cases hj;exact hedges e he
     ·rw [if_neg ej] at hjl;exact hcl j o hj hjl e he
    exact getD_set_true this
   ·rw [hrest];rw [hsplit] at hf;simp only [List.length_append,List.length_cons] at hf ⊢
    omega
end
end Go.Proofs.YtgabigepocfllaaGreatDoor
