/- A function's text, reckoned. -/
import Derived.Scope
import Derived.LoopN
import Derived.Test.YtgabigepocfllaaGreatDoorQ18
namespace Go.Proofs.YtgabigepocfllaaGreatDoor
open Go.RowKit Vn
set_option maxRecDepth 100000
set_option maxHeartbeats 8000000
abbrev Bxs:=List (Nat×List (Nat×Nat))
section
variable {P:Program} {O:Opq} {T:Tys} {B:Bxs} {n:Nat} {w0:World×(Nat→Prop)}
def newsOf:List Oper→List Nat
 | []=>[]
 | o :: r=>match isNew o.op,o.dst with
  | true,some t=>t :: newsOf r
  | _,_=>newsOf r
def memB (h:Nat):List Nat→Bool
 | []=>false
 | t :: l=>Nat.beq h t||memB h l
def anyB (V:View):List Nat→Bool
 | []=>false
 | t :: l=>(V.bv t).isSome||anyB V l
def View.clean (V:View) (l:List Nat):View :=
 ⟨fun u=>match V.tv u with
  | .c (.p h off)=>cond (memB h l) .j (.c (.p h off))
  | x=>x,fun h=>cond (memB h l) none (V.bv h)⟩
def iter (f:View→(Exit→View→Prop)→Prop) (K:Exit→View→Prop):Nat→View→Prop
 | 0,_=>False
 | m+1,V=>f V fun e V'=>match e with
  | .normal=>iter f K m V'
  | e=>K e V'
def lookN {α:Type} (i:Nat):List (Nat×α)→Option α
 | []=>none
 | (j,b) :: l=>cond (Nat.beq i j) (some b) (lookN i l)
def bxW (B:Bxs) (id:Nat):Nat→Option Nat:=match lookN id B with
 | none=>fun _=>none
 | some l=>fun i=>lookN i l
def evR (P:Program) (O:Opq) (T:Tys) (B:Bxs) (id:Nat) (ops:Array Oper) (V:View) (K:View→Prop):Prop:=match lookN id B with
 | none=>evOps P O T ops ops.toList V K
 | some l=>evOpsB P O T ops (fun i=>lookN i l) 0 ops.toList V K
def ev (P:Program) (O:Opq) (T:Tys) (B:Bxs):Code→View→(Exit→View→Prop)→Prop
 | .skip,V,K=>K .normal V
 | .label _,V,K=>K .normal V
 | .region id ops _,V,K=>cond (anyB V (newsOf ops.toList)) (evR P O T B id ops (V.clean (newsOf ops.toList)) (K .normal)) (evR P O T B id ops V (K .normal))
 | .seq a b,V,K=>ev P O T B a V fun e V'=>match e with
  | .normal=>ev P O T B b V' K
  | e=>K e V'
 | .cond c a b,V,K=>match V.ev c with
  | .c (.v (.bool t))=>cond t (ev P O T B a V K) (ev P O T B b V K)
  | _=>False
 | .block id c,V,K=>ev P O T B c V fun e V'=>match e with
  | .exit i=>cond (Nat.beq i id) (K .normal V') (K (.exit i) V')
  | e=>K e V'
 | .loop c,V,K=>∃ m,iter (ev P O T B c) K m V
 | .exit id,V,K=>K (.exit id) V
 | .scope c,V,K=>ev P O T B c V fun e V'=>match e with
  | .goto _=>False
  | e=>K e V'
 | .ret,V,K=>K .ret V
 | _,_,_=>False
def codeB (B:Bxs) (n:Nat):Code→Bool
 | .region id ops d=>(ops.toList.all fun o=>match o.dst with
  | some t=>Nat.blt t n
  | none=>true)&&(!d||regB ops (bxW B id))
 | .seq a b=>codeB B n a&&codeB B n b
 | .cond _ a b=>codeB B n a&&codeB B n b
 | .block _ c=>codeB B n c
 | .loop c=>codeB B n c
 | .scope c=>codeB B n c
 | _=>true
theorem Corr.clean {β:Nat→Option Nat} {S:Nat→Prop} {V:View} {a:Act} {w:World} (C:Corr O n w0 β S V a w) (l:List Nat):Corr O n w0 (fun h=>cond (memB h l) none (β h)) S (V.clean l) a w:=by
 refine ⟨fun i => ?_,C.sz,fun h b hb => ?_,fun h hs => ?_,fun h h' b hb hb' => ?_,C.sl,C.ex,C.sb,C.iv,C.df⟩
 ·have hi:=C.tm i
  show RepV O _ S w _ (match V.tv i with
   | .c (.p h off)=>cond (memB h l) .j (.c (.p h off))
   | x=>x)
  cases hv:V.tv i with
  | c y =>
   rw [hv] at hi
   cases y with
   | p h off =>
    show RepV O _ S w _ (cond (memB h l) .j (.c (.p h off)))
    cases hm:memB h l with
    | true=>exact trivial
    | false =>
     obtain ⟨b,hb,e⟩:=hi
     exact ⟨b,by show cond (memB h l) none (β h)=_;rw [hm];exact hb,e⟩
   | _=>exact hi
  | _=>rw [hv] at hi;exact hi
 ·cases hm:memB h l with
  | true=>rw [hm] at hb;cases hb
  | false =>
   rw [hm] at hb;obtain ⟨T,cs,vs,h1,h2⟩:=C.bl h b hb
   exact ⟨T,cs,vs,by show cond (memB h l) none (V.bv h)=_;rw [hm];exact h1,h2⟩
 ·have hs':(cond (memB h l) none (V.bv h)).isSome=true:=hs
  show (cond (memB h l) none (β h)).isSome=true
  cases hm:memB h l with
  | true=>rw [hm] at hs';cases hs'
  | false=>rw [hm] at hs';exact C.dm h hs'
 ·cases hm:memB h l with
  | true=>rw [hm] at hb;cases hb
  | false =>
   cases hm':memB h' l with
   | true=>rw [hm'] at hb';cases hb'
   | false=>rw [hm] at hb;rw [hm'] at hb';exact C.inj _ _ _ hb hb'
theorem WF.clean {V:View} (W:WF V) (l:List Nat):WF (V.clean l):=by
 intro u k off hu
 have hu':(match V.tv u with
   | .c (.p h off)=>cond (memB h l) AV.j (AV.c (.p h off))
   | x=>x)=AV.c (.p k off):=hu
 show (cond (memB k l) none (V.bv k)).isSome=true
 cases hv:V.tv u with
 | c y =>
  rw [hv] at hu'
  cases y with
  | p h o =>
   have hu':cond (memB h l) AV.j (AV.c (.p h o))=AV.c (.p k off):=hu'
   cases hm:memB h l with
   | true=>rw [hm] at hu';cases hu'
   | false=>rw [hm] at hu';cases hu';rw [hm];exact W u k off hv
  | _=>cases hu'
 | _=>rw [hv] at hu';cases hu'
def Beyond (O:Opq) (n:Nat) (w0:World×(Nat→Prop)) (K:Exit→View→Prop) (Q:Exit→Act→World→Prop):Prop:=∀ e V a w β S,K e V→Corr O n w0 β S V a w→WF V→Q e a w
theorem region_sound (TK:TyOK P O T) (hm:P.follows .mixedOrders=true) {id:Nat} {ops:Array Oper} {d:Bool} (hc:codeB B n (.region id ops d)=true) {β:Nat→Option Nat} {S:Nat→Prop} {V:View} {a:Act} {w:World} (C:Corr O n w0 β S V a w) (W:WF V)
  {K:Exit→View→Prop} {Q:Exit→Act→World→Prop} (h:evR P O T B id ops V (K .normal)) (hQ:Beyond O n w0 K Q):(Code.region id ops d).wp P Q a w:=by
 simp only [codeB,Bool.and_eq_true,List.all_eq_true] at hc;have hd:∀ o∈ops.toList,∀ t,o.dst=some t→t<n:=by
  intro o ho t ht
  have:=hc.1 o ho
  rw [ht] at this
  simpa [Nat.blt_eq] using this
 have hB:Behind O n w0 (K .normal) (Q .normal):=fun V a w β S hk C W=>hQ _ _ _ _ _ _ hk C W
 cases d with
 | false =>
  refine wp_region ?_;have h:evOps P O T ops ops.toList V (K .normal):=by
   unfold evR at h
   cases hl:lookN id B with
   | none=>rw [hl] at h;exact h
   | some l=>rw [hl] at h;exact evOps_ofB _ _ _ h
  have:=seq_sound TK hB hd ops.toList 0 (fun j=>by simp) h C W
  simpa [List.range_eq_range'] using this
 | true =>
  have hr:regB ops (bxW B id)=true:=by simpa using hc.2
  refine wp_region_any hm ?_;have he:Ext w { w with drawn:=w.drawn+1 }:=(Below.refl _ _).drew;have C1:=C.evo he (S':=S) (fun _ h=>h) (fun _ h=>.inl h);have h1:evIdx P O T ops (bxW B id) (List.range' 0 ops.toList.length) V (K .normal):=by
   unfold evR at h;unfold bxW
   cases hl:lookN id B with
   | none=>rw [hl] at h;exact evIdx_of ops.toList 0 (fun j=>by simp) V h
   | some l=>rw [hl] at h;exact evIdx_ofB ops.toList 0 (fun j=>by simp) V h
  have hun:∀ i,i<ops.size→(Array.replicate ops.size false).getD i true=false:=by
   intro i hi;simp [Array.getD,hi]
  have hf:(List.range ops.size).filter (fun i => !(Array.replicate ops.size false).getD i true)=List.range ops.size:=by
   rw [List.filter_eq_self]
   intro i hi
   rw [hun i (by simpa using hi)];rfl
  refine any_sound TK hr hB hd ops.size _ (by simp) (fun i o ho hl e he => ?_) (by rw [hf];simp) (by rw [hf];simpa [List.range_eq_range'] using h1) C1 W;have hlt:i<ops.size:=(Array.getElem?_eq_some_iff.1 ho).1;rw [hun i hlt] at hl;cases hl
theorem ev_sound (TK:TyOK P O T) (hm:P.follows .mixedOrders=true):∀ (c:Code),codeB B n c=true→∀ {β S V a w},Corr O n w0 β S V a w→WF V→∀ {K:Exit→View→Prop},ev P O T B c V K→∀ {Q:Exit→Act→World→Prop},Beyond O n w0 K Q→c.wp P Q a w
 | .skip,_,_,_,_,_,_,C,W,K,h,Q,hQ=>wp_skip (hQ _ _ _ _ _ _ h C W)
 | .label _,_,_,_,_,_,_,C,W,K,h,Q,hQ=>wp_label (hQ _ _ _ _ _ _ h C W)
 | .region id ops d,hc,β,S,V,a,w,C,W,K,h,Q,hQ=>by
  have h:cond (anyB V (newsOf ops.toList)) (evR P O T B id ops (V.clean (newsOf ops.toList)) (K .normal)) (evR P O T B id ops V (K .normal)):=h
  cases ha:anyB V (newsOf ops.toList) with
  | true=>rw [ha] at h;exact region_sound TK hm hc (C.clean _) (W.clean _) h hQ
  | false=>rw [ha] at h;exact region_sound TK hm hc C W h hQ
 | .seq x y,hc,β,S,V,a,w,C,W,K,h,Q,hQ=>by
  simp only [codeB,Bool.and_eq_true] at hc;refine wp_seq (ev_sound TK hm x hc.1 C W h fun e V' a' w' β' S' hk C' W' => ?_)
  cases e with
  | normal=>exact ev_sound TK hm y hc.2 C' W' hk hQ
  | _=>exact hQ _ _ _ _ _ _ hk C' W'
 | .cond c x y,hc,β,S,V,a,w,C,W,K,h,Q,hQ=>by
  simp only [codeB,Bool.and_eq_true] at hc;simp only [ev] at h
  split at h
  ·rename_i t e
   have:=evC C e
   cases t with
   | true=>exact wp_cond_true this (ev_sound TK hm x hc.1 C W h hQ)
   | false=>exact wp_cond_false this (ev_sound TK hm y hc.2 C W h hQ)
  ·exact h.elim
 | .block id c,hc,β,S,V,a,w,C,W,K,h,Q,hQ=>by
  simp only [codeB] at hc;refine wp_block (ev_sound TK hm c hc C W h fun e V' a' w' β' S' hk C' W' => ?_)
  cases e with
  | exit i =>
   show if i=id then _ else _
   by_cases e:i=id
   ·subst e;rw [if_pos rfl]
    have:Nat.beq i i=true:=by simp
    simp only [this,cond_true] at hk
    exact hQ _ _ _ _ _ _ hk C' W'
   ·rw [if_neg e]
    have:Nat.beq i id=false:=by
     cases hb:Nat.beq i id with
     | false=>rfl
     | true=>exact absurd (Nat.eq_of_beq_eq_true hb) e
    simp only [this,cond_false] at hk
    exact hQ _ _ _ _ _ _ hk C' W'
  | _=>exact hQ _ _ _ _ _ _ hk C' W'
 | .loop c,hc,β,S,V,a,w,C,W,K,h,Q,hQ=>by
  simp only [codeB] at hc;obtain ⟨m,h⟩:=h;refine wp_loop_rounds m ?_;have key:∀ (m:Nat) {β S V a w},Corr O n w0 β S V a w→WF V→iter (ev P O T B c) K m V→Code.rounds P c Q m a w:=by
   intro m
   induction m with
   | zero=>intro β S V a w C W h;exact h.elim
   | succ m ih =>
    intro β S V a w C W h
    rw [rounds_succ];refine ev_sound TK hm c hc C W h fun e V' a' w' β' S' hk C' W' => ?_
    cases e with
    | normal=>exact ih C' W' hk
    | _=>exact hQ _ _ _ _ _ _ hk C' W'
  exact key m C W h
 | .exit id,_,_,_,_,_,_,C,W,K,h,Q,hQ=>wp_exit (hQ _ _ _ _ _ _ h C W)
 | .scope c,hc,β,S,V,a,w,C,W,K,h,Q,hQ=>by
  simp only [codeB] at hc;refine wp_scope_straight (ev_sound TK hm c hc C W h fun e V' a' w' β' S' hk C' W' => ?_)
  cases e with
  | goto _=>exact hk
  | _=>exact hQ _ _ _ _ _ _ hk C' W'
 | .ret,_,_,_,_,_,_,C,W,K,h,Q,hQ=>wp_ret (hQ _ _ _ _ _ _ h C W)
 | .rangeFunc _ _ _ _,_,_,_,_,_,_,_,_,_,h,_,_=>h.elim
 | .goto _,_,_,_,_,_,_,_,_,_,h,_,_=>h.elim
 | .refuse _,_,_,_,_,_,_,_,_,_,h,_,_=>h.elim
/-! ### a function -/
def resK (T:Tys) (V:View):List ResultVar→(List AV→Prop)→Prop
 | [],k=>k []
 | .tmp t :: r,k=>match V.tv t with
  | .c (.p _ _)=>False
  | .c x=>resK T V r fun l=>k (.c x :: l)
  | .g cs=>allK cs fun m=>resK T V r fun l=>k (.g m :: l)
  | _=>False
 | .cell a t :: r,k=>match T t with
  | some ty=>match V.tv a with
   | .c (.p h off)=>match V.bv h with
    | some (_,cs)=>partK ty.agg ty.zero.length (cs.drop off) fun x=>resK T V r fun l=>k (x :: l)
    | none=>False
   | _=>False
  | none=>False
def joinR:List AV→AV
 | [x]=>x
 | l=>.t l
def argV (args:List AV):View:=⟨fun i=>args.getD i (.t []),fun _=>none⟩
def noPA:AV→Bool
 | .c x => !isP x
 | .g _=>true
 | _=>false
def readR (tmps:Array Value):ResultVar→Sem Value
 | .tmp t=>pure (tmps.getD t undef)
 | .cell a t=>do loadVar t (←asAddr (tmps.getD a undef))
theorem resK_run (TK:TyOK P O T) {β:Nat→Option Nat} {S:Nat→Prop} {V:View} {a:Act} {w:World} (C:Corr O n w0 β S V a w):∀ (rs:List ResultVar) (k:List AV→Prop),resK T V rs k →
  ∃ vs l,(rs.mapM (readR a.tmps)).run P w=.ok vs w∧All2 (RepW O (fun _=>none) S w) vs l∧k l
 | [],k,h=>⟨[],[],rfl,trivial,h⟩
 | .tmp t :: r,k,h=>by
  simp only [resK] at h;have hr:=C.tm t;have fin:∀ {x:AV},RepW O (fun _=>none) S w (a.tmps.getD t undef) x→(resK T V r fun l=>k (x :: l)) →
    ∃ vs l,((ResultVar.tmp t :: r).mapM (readR a.tmps)).run P w=.ok vs w∧All2 (RepW O (fun _=>none) S w) vs l∧k l:=by
   intro x hx h
   obtain ⟨vs,l,h1,h2,h3⟩:=resK_run TK C r _ h;refine ⟨a.tmps.getD t undef :: vs,x :: l,?_,⟨hx,h2⟩,h3⟩;rw [List.mapM_cons,Sem.run_bind]
   show Result.andThen (Result.ok _ w) _=_
   rw [Result.andThen_ok,Sem.run_bind,h1];rfl
  cases hv:V.tv t with
  | c y =>
   rw [hv] at h hr
   cases y with
   | p _ _=>exact h.elim
   | v y=>exact fin (x:=.c (.v y)) hr h
   | o k n=>exact fin (x:=.c (.o k n)) hr h
   | e cs=>exact fin (x:=.c (.e cs)) hr h
   | sl d xs=>exact fin (x:=.c (.sl d xs)) hr h
  | g cs =>
   rw [hv] at h hr;simp only [allK_iff] at h
   exact fin (x:=.g cs) hr h
  | _=>rw [hv] at h;exact h.elim
 | .cell x t :: r,k,h=>by
  simp only [resK] at h;have hr:=C.tm x
  cases ht:T t with
  | none=>simp only [ht] at h
  | some ty =>
   simp only [ht] at h
   split at h
   ·rename_i h' off hv
    rw [hv] at hr;obtain ⟨b,hb,e'⟩:=hr;obtain ⟨U,cs,vs,q1,q2,q3,_⟩:=C.bl h' b hb;simp only [q1] at h;obtain ⟨v,y,l1,l2,l3,l4,l5⟩:=load_rep (β:=fun _=>none) TK ht (b:=b) (off:=off) (vs:=vs.drop off) (fun j v hj=>by
     rw [List.getElem?_drop] at hj;simp only [World.cell?,q2];simpa using hj) (All2.drop off q3) h
    obtain ⟨us,l,h1,h2,h3⟩:=resK_run TK C r _ l3;refine ⟨v :: us,y :: l,?_,⟨l2,h2⟩,h3⟩;have hl:(loadVar t ⟨b,off,none⟩).run P w=.ok v w:=by
     simpa only [Instr.loadAt,Instr.sureAddr,Sem.run_bind,Sem.run_pure,Result.andThen_ok] using l1
    rw [List.mapM_cons,Sem.run_bind];unfold readR;rw [Sem.run_bind,e']
    show Result.andThen (Result.andThen (Result.ok _ w) _) _=_
    rw [Result.andThen_ok,hl,Result.andThen_ok,Sem.run_bind];have h1':=h1;unfold readR at h1';rw [h1'];rfl
   ·exact h.elim
theorem fn_callB (B:Bxs) (TK:TyOK P O T) (hm:P.follows .mixedOrders=true) {k:FuncId} {fn:Func} {c:Code} (hf:P.funcs[k]?=some fn) (hb:fn.body=some c) (hn:(fn.name == "runtime.NumGoroutine")=false)
  {args:List AV} (hl:Nat.ble args.length fn.ntmps=true) (hc:codeB B fn.ntmps c=true) {r:AV} (hr:noPV r=true) (ha:args.all noPA=true)
  (h:ev P O T B c (argV args) fun e V=>match e with
   | .normal=>resK T V fn.results.toList fun l=>joinR l=r
   | .ret=>resK T V fn.results.toList fun l=>joinR l=r
   | _=>False):Cal P O k args r:=by
 refine ⟨⟨fn,hf,hn,by rw [hb];rfl⟩,hr,fun S w vs hS hI hvs => ?_⟩;refine calls_of_wp hf hb ?_;rw [Nat.ble_eq] at hl;have hlen:=hvs.len;have C:Corr O fn.ntmps (w,S) (fun _=>none) S (argV args) { tmps:=vs.toArray++Array.replicate (fn.ntmps-vs.toArray.size) undef,defers:=[] } w:=by
  refine ⟨fun i => ?_,(by simp;omega),fun h b hb=>(by cases hb),fun h hs=>(by cases hs),fun _ _ _ hb=>(by cases hb),hS,Below.refl _ _,fun b hb=>.inl hb,hI,rfl⟩
  show RepV O _ S w _ (args.getD i (.t []))
  rcases Nat.lt_or_ge i args.length with hi | hi
  ·have hx:args[i]?=some args[i]:=List.getElem?_eq_getElem hi;obtain ⟨v,hv,rv⟩:=hvs.get i _ hx;have e1:(vs.toArray++Array.replicate (fn.ntmps-vs.toArray.size) undef).getD i undef=v:=by
    rw [Array.getD_eq_getD_getElem?,Array.getElem?_append_left (by simp;omega)]
    simp [hv]
   have e2:args.getD i (.t [])=args[i]:=by rw [List.getD_eq_getElem?_getD,hx];rfl
   rw [e1,e2];refine rv.toV (fun l hl' => ?_)
   have:=(List.all_eq_true.1 ha) args[i] (List.getElem_mem hi)
   rw [hl'] at this;cases this
  ·have e1:(vs.toArray++Array.replicate (fn.ntmps-vs.toArray.size) undef).getD i undef=undef:=by
    rw [Array.getD_eq_getD_getElem?,Array.getElem?_append_right (by simp;omega)]
    cases hq:(Array.replicate (fn.ntmps-vs.toArray.size) undef)[i-vs.toArray.size]? with
    | none=>rfl
    | some y =>
     have:=Array.getElem?_eq_some_iff.1 hq
     obtain ⟨_,e⟩:=this
     simp at e;rw [←e];rfl
   have e2:args.getD i (.t [])=.t []:=by rw [List.getD_eq_getElem?_getD,List.getElem?_eq_none hi];rfl
   rw [e1,e2]
   exact ⟨[],rfl,trivial⟩
 have W:WF (argV args):=by
  intro u k off hu
  exfalso
  have hu':args.getD u (.t [])=.c (.p k off):=hu
  rcases Nat.lt_or_ge u args.length with hi | hi
  ·rw [List.getD_eq_getElem?_getD,List.getElem?_eq_getElem hi] at hu'
   have:=(List.all_eq_true.1 ha) args[u] (List.getElem_mem hi)
   have hu':args[u]=.c (.p k off):=hu';rw [hu'] at this;cases this
  ·rw [List.getD_eq_getElem?_getD,List.getElem?_eq_none hi] at hu';cases hu'
 refine ev_sound TK hm c hc C W h fun e V a w' β S' hk C' _ => ?_;have fin:resK T V fn.results.toList (fun l=>joinR l=r)→a.defers=[]∧∃ v,(results fn a.tmps).run P w'=.ok v w'∧(∃ v',Ending.returned v=.returned v'∧Ext w w'∧RepV O (fun _=>none) (fun b=>S b∨(w.heap.size≤b∧b<w'.heap.size)) w' v' r):=by
  intro hk
  obtain ⟨us,l,h1,h2,h3⟩:=resK_run TK C' _ _ hk;have hS':∀ b,S' b→S b∨(w.heap.size≤b∧b<w'.heap.size):=fun b hb=>(C'.sb b hb).imp id fun h=>⟨h,C'.sl b hb⟩;have h2':All2 (RepW O (fun _=>none) (fun b=>S b∨(w.heap.size≤b∧b<w'.heap.size)) w') us l:=All2.mono (fun _ _ r=>r.evo (Evo.refl _ _ _) hS' (fun _ _ h=>h)) h2;have hres:(results fn a.tmps).run P w'=.ok (if h:us.toArray.size=1 then us.toArray[0] else .tuple us.toArray) w':=by
   have e0:results fn a.tmps=(fn.results.mapM (readR a.tmps) >>= fun vs=>pure (if h:vs.size=1 then vs[0] else .tuple vs)):=by
    have:(fun x:ResultVar=>(match x with | .tmp t=>pure (a.tmps.getD t undef) | .cell b t=>do loadVar t (←asAddr (a.tmps.getD b undef)):Sem Value))=readR a.tmps:=by funext x;cases x<;>rfl
    rw [←this];rfl
   rw [e0,Array.mapM_eq_mapM_toList,Sem.run_bind]
   have:∀ (m:Sem (List Value)),m.run P w'=.ok us w'→(List.toArray <$> m).run P w'=.ok us.toArray w':=by
    intro m hm'
    rw [←bind_pure_comp,Sem.run_bind,hm'];rfl
   rw [this _ h1];rfl
  refine ⟨C'.df,_,hres,_,rfl,C'.ex,?_⟩
  cases us with
  | nil =>
   cases l with
   | nil=>rw [←h3];exact ⟨[],rfl,trivial⟩
   | cons _ _=>exact h2'.elim
  | cons u us =>
   cases l with
   | nil=>exact h2'.elim
   | cons x l =>
    cases us with
    | nil =>
     cases l with
     | cons _ _=>exact h2'.2.elim
     | nil =>
      have h3:x=r:=h3;subst h3
      exact h2'.1.toV (fun l hl=>by rw [hl] at h2';exact h2'.1.elim)
    | cons u' us =>
     cases l with
     | nil=>exact h2'.2.elim
     | cons x' l =>
      have h3:AV.t (x :: x' :: l)=r:=h3;subst h3
      have:¬ (u :: u' :: us).toArray.size=1:=by simp
      rw [dif_neg this]
      exact ⟨_,rfl,h2'⟩
 cases e with
 | normal=>exact fin hk
 | ret=>exact fin hk
 | exit _=>exact hk
 | goto _=>exact hk
 | panic _=>exact hk.elim
 | outgrown=>exact hk.elim
theorem fn_call (TK:TyOK P O T) (hm:P.follows .mixedOrders=true) {k:FuncId} {fn:Func} {c:Code} (hf:P.funcs[k]?=some fn) (hb:fn.body=some c) (hn:(fn.name == "runtime.NumGoroutine")=false)
  {args:List AV} (hl:Nat.ble args.length fn.ntmps=true) (hc:codeB [] fn.ntmps c=true) {r:AV} (hr:noPV r=true) (ha:args.all noPA=true)
  (h:ev P O T [] c (argV args) fun e V=>match e with
   | .normal=>resK T V fn.results.toList fun l=>joinR l=r
   | .ret=>resK T V fn.results.toList fun l=>joinR l=r
   | _=>False):Cal P O k args r:=fn_callB [] TK hm hf hb hn hl hc hr ha h
end
end Go.Proofs.YtgabigepocfllaaGreatDoor
