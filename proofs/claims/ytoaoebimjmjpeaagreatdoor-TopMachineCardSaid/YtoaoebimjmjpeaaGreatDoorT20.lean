/- Regions in whatever order. -/
import Derived.OrdersIn
import Derived.Scope
import Derived.LoopN
import Derived.Test.YtoaoebimjmjpeaaGreatDoorT19
namespace Go.Proofs.YtoaoebimjmjpeaaGreatDoor
open Go.RowKit Vn
set_option maxRecDepth 100000
set_option maxHeartbeats 8000000
/-! ### frames of functions, and of rounds -/
abbrev Fr (r:Option Nat):Fence := { Fence.wide with round:=r }
theorem callsFr {r:Option Nat} {m:Nat} {P:Program} {f:FuncId} {args:Array Value} {w:World} {R:Ending→World→Prop} (h:Calls P f args w R):CallsIn (Fr r) m P f args w R :=
 (callsIn_wide (n:=m)).2 h
theorem rowsFr {r:Option Nat} {m:Nat} {P:Program} {row:String} {args:Array Value} {w:World} {R:Value→World→Prop} (h:Rows P row args w R):RowsIn (Fr r) m P row args w R :=
 fun c cs _=>let ⟨v,w',q,s⟩:=h c cs;⟨v,w',q,(stepsIn_wide (P:=P)).2 s⟩
theorem wpIn_of_wp {P:Program} {r:Option Nat} {m:Nat} {o:Oper} {a:Act} {w:World} {next:Act→World→Prop} {Q:Exit→Act→World→Prop} (hd:∀ c,o.op≠.defer c) (h:o.wp P a w next Q):o.wpIn (Fr r) m P a w next Q:=by
 refine ⟨fun _ _=>trivial,?_⟩;rw [Oper.semAt_eq _ _ _ hd];unfold Oper.wp at h;generalize (execOp a.eval o).run P w=q at h ⊢
 cases q with
 | ok x w' =>
  cases x with
  | enter f args=>exact ⟨(fun hx=>absurd hx (by simp [Fence.wide])),callsFr h⟩
  | row row args=>exact ⟨(fun hx=>absurd hx (by simp [Fence.wide])),rowsFr h⟩
  | round _ _ _ _ _=>exact h.elim
  | _=>exact h
 | halt x w'=>cases x<;>exact h
section
variable {P:Program} {O:Opq} {T:Tys} {n:Nat} {w0:W0}
/-! ### functions that are walked in place, loops over functions -/
structure Hnd where
 call:FuncId→List Operand→View→(View→AV→Prop)→Prop
 yld:Nat→List AV→View→(View→Bool→Prop)→Prop
 iter:AC→(Nat→List AV→View→(View→Bool→Prop)→Prop)→View→(View→Prop)→Prop
def H0:Hnd:=⟨fun _ _ _ _=>False,fun _ _ _ _=>False,fun _ _ _ _=>False⟩
def inF (k:FuncId):Bool:=Nat.beq k 270||Nat.beq k 324
def isInl:Op→Bool
 | .call c=>match c.callee with
  | .value (.func k)=>inF k
  | _=>false
 | _=>false
def CallOK (P:Program) (O:Opq) (H:Hnd):Prop:=∀ {n:Nat} {w0:W0} {β:Nat→Option Nat} {S:Nat→Prop} {V:View} {a:Act} {w:World} {k:FuncId} {xs:List Operand} {K:View→AV→Prop},
 w0.m=none→Corr O n w0 β S V a w→H.call k xs V K→(∃ fn,P.funcs[k]?=some fn∧(fn.name == "runtime.NumGoroutine")=false∧fn.body.isNone=false) ∧
  Calls P k (xs.map a.eval).toArray w fun e w'=>∃ v V' r β' S',e=.returned v∧Corr O n w0 β' S' V' a w'∧RepV O β' S' w' v r∧K V' r
def evI (H:Hnd) (o:Oper) (V:View) (K:View→Prop):Prop:=match o.guard with
 | some _=>False
 | none=>match o.op with
  | .call c=>match c.callee with
   | .value (.func k)=>H.call k c.args.toList V fun V' r=>K (V'.put o.dst r)
   | _=>False
  | _=>False
def evU (P:Program) (O:Opq) (T:Tys) (H:Hnd) (ops:Array Oper) (o:Oper) (V:View) (K:View→Prop):Prop :=
 cond (isInl o.op) (evI H o V K) (evG P O T ops o V fun e=>K (V.app e o.dst))
theorem g_sound (TK:TyOK P O T) {β:Nat→Option Nat} {S:Nat→Prop} {V:View} {a:Act} {w:World} (C:Corr O n w0 β S V a w) {ops:Array Oper} {i:Nat} {o:Oper} (ho:ops[i]?=some o) {Kp:Eff→Prop}
  (h:evG P O T ops o V Kp) (hd:∀ t,o.dst=some t→t<n) {next:Act→World→Prop} {Q:Exit→Act→World→Prop} {r:Option Nat} {m:Nat} (K:After O n w0 V o.dst Kp next):wpOpIn (Fr r) m P ops Q i next a w:=by
 have go:evNw P O T o V Kp→o.wpIn (Fr r) m P a w next Q:=by
  intro h
  unfold evNw at h;refine wpIn_of_wp (fun c hc => ?_) ?_
  ·rw [hc] at h
   exact h.elim
  cases hi:isNew o.op with
  | false=>rw [hi] at h;exact op_sound TK C h hd (fun h=>by rw [hi] at h;cases h) K
  | true =>
   rw [hi] at h
   cases hd':o.dst with
   | none=>rw [hd'] at h;exact h.elim
   | some t =>
    rw [hd'] at h
    cases hv:V.bv t with
    | some _=>simp only [hv] at h
    | none=>simp only [hv] at h;exact op_sound TK C h hd (fun _=>⟨t,hd',hv⟩) K
 have no:Kp (.val (.t []))→next (a.put o.dst undef) w:=fun h=>K _ _ _ _ _ h (C.put hd (x:=.t []) ⟨[],rfl,trivial⟩);unfold wpOpIn;simp only [ho];unfold evG at h
 split at h
 ·rename_i hg
  rw [if_pos (by simp [Region.wanted,hg])]
  exact go h
 ·rename_i j want hg
  cases ht:(ops[j]?).bind (·.dst) with
  | none=>simp only [ht] at h
  | some t =>
   simp only [ht] at h;have hr:=C.tm t;have hy:∀ b,V.tv t=.c (.v (.bool b))→yielded ops a.tmps j=some b:=by
    intro b hb
    rw [hb] at hr;have e:a.tmps.getD t undef=.bool b:=hr.1;unfold yielded;rw [ht];rw [Array.getD_eq_getD_getElem?] at e
    cases h1:a.tmps[t]? with
    | none=>rw [h1] at e;cases e
    | some v=>rw [h1] at e;have e:v=.bool b:=e;subst e;simp [h1]
   cases hv:V.tv t with
   | t xs =>
    rw [hv] at h;rw [hv] at hr;obtain ⟨vs,e,_⟩:=hr
    have:yielded ops a.tmps j=none:=by
     unfold yielded;rw [ht];rw [Array.getD_eq_getD_getElem?] at e
     cases h1:a.tmps[t]? with
     | none=>simp [h1]
     | some v=>rw [h1] at e;have e:v=.tuple vs.toArray:=e;subst e;simp [h1]
    rw [if_neg (by simp [Region.wanted,hg,this])]
    exact ⟨fun _ _=>trivial,no h⟩
   | g _=>rw [hv] at h;exact h.elim
   | j=>rw [hv] at h;exact h.elim
   | c y =>
    cases y with
    | v x =>
     cases x with
     | bool b =>
      rw [hv] at h
      have:=hy b hv
      cases want<;>cases b
      ·rw [if_pos (by simp [Region.wanted,hg,this])];exact go h
      ·rw [if_neg (by simp [Region.wanted,hg,this])];exact ⟨fun _ _=>trivial,no h⟩
      ·rw [if_neg (by simp [Region.wanted,hg,this])];exact ⟨fun _ _=>trivial,no h⟩
      ·rw [if_pos (by simp [Region.wanted,hg,this])];exact go h
     | _=>rw [hv] at h;exact h.elim
    | _=>rw [hv] at h;exact h.elim
theorem u_sound (TK:TyOK P O T) {H:Hnd} (HC:CallOK P O H) (hm0:w0.m=none∨H=H0) {β:Nat→Option Nat} {S:Nat→Prop} {V:View} {a:Act} {w:World} (C:Corr O n w0 β S V a w) {ops:Array Oper} {i:Nat} {o:Oper} (ho:ops[i]?=some o) {Kp:View→Prop}
  (h:evU P O T H ops o V Kp) (hd:∀ t,o.dst=some t→t<n) {next:Act→World→Prop} {Q:Exit→Act→World→Prop} {r:Option Nat} {m:Nat} (K:∀ V' a' w' β' S',Kp V'→Corr O n w0 β' S' V' a' w'→next a' w'):wpOpIn (Fr r) m P ops Q i next a w:=by
 unfold evU at h
 cases hi:isInl o.op with
 | false =>
  rw [hi] at h
  exact g_sound TK C ho h hd fun e a' w' β' S' he C'=>K _ _ _ _ _ he C'
 | true =>
  rw [hi] at h;simp only [cond_true] at h;unfold evI at h
  split at h
  ·exact h.elim
  rename_i hg
  split at h
  ·rename_i c hop
   split at h
   ·rename_i k hc
    rcases hm0 with hm0 | rfl
    ·obtain ⟨⟨fn,f1,f2,f3⟩,hcal⟩:=HC hm0 C h;have hrun:(execOp a.eval o).run P w=.ok (.enter k (c.args.toList.map a.eval).toArray) w:=by
      have hn':¬ fn.name = "runtime.NumGoroutine" := by simpa using f2
      have hb':¬ fn.body=none:=fun e=>by rw [e] at f3;cases f3
      have hmm:(c.args.toList.map a.eval).toArray=c.args.map a.eval:=by rw [←Array.toList_map]
      rw [hmm];unfold execOp
      simp [hop,resolve,hc,Act.eval,Deferred.ofValue,invoke,callFunc,f1,hn',hb']
     unfold wpOpIn;simp only [ho];rw [if_pos (by simp [Region.wanted,hg])];refine wpIn_of_wp (fun c' hc'=>by rw [hop] at hc';cases hc') ?_;unfold Oper.wp;rw [hrun]
     show Calls P k _ w _
     refine hcal.mono ?_;rintro e w' ⟨v,V',r',β',S',rfl,C',rv,hk⟩
     exact K _ _ _ _ _ hk (C'.put hd rv)
    ·exact h.elim
   ·exact h.elim
  ·exact h.elim
theorem Corr.wf {β:Nat→Option Nat} {S:Nat→Prop} {V:View} {a:Act} {w:World} (C:Corr O n w0 β S V a w):WF V:=by
 have hb:∀ h b,β h=some b→(V.bv h).isSome=true:=fun h b e=>by
  obtain ⟨X,h1,_⟩:=C.bl h b e;rw [h1];rfl
 have c:∀ {x:Value} {y:AC},RepC O β S w x y→okC V.bv y:=by
  intro x y r k hk
  cases y<;>simp only [refC] at hk<;>try (cases hk;done)
  ·cases hk;obtain ⟨b,h1,_⟩:=r;exact hb _ b h1
  ·cases hk;obtain ⟨b,h1,_⟩:=r;exact hb _ b h1
  ·cases hk;obtain ⟨b,_,_,_,h1,_⟩:=r;exact hb _ b h1
  ·cases hk;obtain ⟨b,us,h1,_⟩:=r;exact hb _ b h1
 have cs:∀ {vs:List Value} {ys:List AC},RepCs O β S w vs ys→okL V.bv ys:=by
  intro vs
  induction vs with
  | nil=>intro ys r;cases ys with
   | nil=>intro c hc;cases hc
   | cons _ _=>exact r.elim
  | cons v vs ih=>intro ys r;cases ys with
   | nil=>exact r.elim
   | cons y ys=>intro z hz;cases hz with
    | head=>exact c r.1
    | tail _ hz=>exact ih r.2 z hz
 refine ⟨fun u => ?_,fun k X hk T ys e => ?_⟩
 ·have:=C.tm u
  cases hv:V.tv u with
  | c y=>rw [hv] at this;exact c this
  | g ys=>rw [hv] at this;obtain ⟨vs,_,r⟩:=this;exact cs r
  | t _=>trivial
  | j=>trivial
 ·have hs:=C.dm k (by rw [hk];rfl);obtain ⟨b,hb'⟩:=Option.isSome_iff_exists.1 hs;obtain ⟨Y,h1,h2,_⟩:=C.bl k b hb';rw [hk] at h1;cases h1;obtain ⟨vs,_,_,r,_⟩:=h2.toCells e
  exact cs r
def Behind (O:Opq) (n:Nat) (w0:W0) (K:View→Prop) (N:Act→World→Prop):Prop:=∀ V a w β S,K V→Corr O n w0 β S V a w→N a w
/-! ### in whatever order -/
def edgesOf (o:Oper):List Nat:=o.after.toList.filterMap fun e=>if Region.binds .any e then some e.on else none
def masks:List Oper→List Nat→List Nat
 | [],acc=>acc
 | o :: r,acc=>masks r (acc++[(edgesOf o).foldl (fun s e=>s ||| (2^e ||| acc.getD e 0)) 0])
def apartC (ops:Array Oper) (bi bj:Option Nat) (x y:Oper):Bool := !isInl x.op && !isInl y.op&&apartB ops bi bj x y
def regB' (ops:Array Oper) (bx:Nat→Option Nat) (ms:List Nat):Bool:=(List.range ops.size).all fun i=>match ops[i]? with
 | none=>true
 | some y=>(edgesOf y).all (fun e=>Nat.blt e i)&&(List.range i).all fun k=>(ms.getD i 0).testBit k||match ops[k]? with
  | none=>true
  | some x=>apartC ops (bx k) (bx i) x y
def regB (ops:Array Oper) (bx:Nat→Option Nat):Bool:=regB' ops bx (masks ops.toList [])
theorem fold_bit (acc:List Nat):∀ (l:List Nat) (s k:Nat),(l.foldl (fun s e=>s ||| (2^e ||| acc.getD e 0)) s).testBit k=true→s.testBit k=true∨∃ e∈l,e=k∨(acc.getD e 0).testBit k=true
 | [],s,k,h=>.inl h
 | e :: l,s,k,h=>by
  rw [List.foldl_cons] at h
  rcases fold_bit acc l _ k h with h | ⟨x,hx,h⟩
  ·simp only [Nat.testBit_or,Bool.or_eq_true] at h
   rcases h with h | h | h
   ·exact .inl h
   ·exact .inr ⟨e,by simp,.inl (by simpa [Nat.testBit_two_pow] using h)⟩
   ·exact .inr ⟨e,by simp,.inr h⟩
  ·exact .inr ⟨x,by simp [hx],h⟩
theorem masks_sound {ops:Array Oper} {L:Nat→Prop} (hL:∀ i o,ops[i]?=some o→L i→∀ e∈edgesOf o,L e) :
  ∀ (r:List Oper) (acc:List Nat),(∀ j,r[j]?=ops[acc.length+j]?)→(∀ (i m:Nat),acc[i]?=some m→∃ o,ops[i]?=some o∧((∀ e∈edgesOf o,L e)→∀ k,m.testBit k=true→L k)) →
   ∀ (i m:Nat),(masks r acc)[i]?=some m→∃ o,ops[i]?=some o∧((∀ e∈edgesOf o,L e)→∀ k,m.testBit k=true→L k)
 | [],_,_,hA=>hA
 | o :: r,acc,hr,hA=>by
  have ho:ops[acc.length]?=some o:=by have:=hr 0;simpa using this.symm
  refine masks_sound hL r _ (fun j => ?_) (fun i m hm => ?_)
  ·have:=hr (j+1)
   simp only [List.getElem?_cons_succ] at this;rw [this];congr 1;simp;omega
  ·by_cases hi:i<acc.length
   ·rw [List.getElem?_append_left hi] at hm;exact hA i m hm
   ·have hil:i=acc.length:=by
     have:=(List.getElem?_eq_some_iff.1 hm).1
     simp at this;omega
    subst hil
    simp at hm
    refine ⟨o,ho,fun he k hk => ?_⟩;rw [←hm] at hk
    rcases fold_bit acc _ _ _ hk with h | ⟨e,hel,h⟩
    ·simp at h
    ·rcases h with rfl | h
     ·exact he _ hel
     ·cases hacc:acc[e]? with
      | none=>rw [List.getD_eq_getElem?_getD,hacc] at h;simp at h
      | some m' =>
       rw [List.getD_eq_getElem?_getD,hacc] at h;obtain ⟨o',ho',hm'⟩:=hA e m' hacc
       exact hm' (hL e o' ho' (he e hel)) k h
def boxB (V:View) (o:Oper) (b:Option Nat):Bool:=match b with
 | none=>true
 | some k=>(match addrOf o.op with
  | none=>true
  | some a=>match V.ev a with
   | .c y=>match refC y with
    | some h=>Nat.beq h k
    | none=>true
   | _=>true)&&(!mayLend o.op || !lends V.ev (argsOf o.op))
theorem boxB_ok {V:View} {o:Oper} {b:Option Nat} (h:boxB V o b=true):boxOK V o b:=by
 intro k hk
 subst hk;simp only [boxB,Bool.and_eq_true,Bool.or_eq_true,Bool.not_eq_true'] at h;refine ⟨fun a ha y g hv hr => ?_,fun hm => ?_⟩
 ·have h1:=h.1;simp only [ha,hv,hr] at h1
  exact Nat.eq_of_beq_eq_true h1
 ·rcases h.2 with h' | h'
  ·rw [hm] at h';cases h'
  ·exact h'
theorem boxB_of {V:View} {o:Oper} {b:Option Nat} (h:boxOK V o b):boxB V o b=true:=by
 cases b with
 | none=>rfl
 | some k =>
  obtain ⟨h1,h2⟩:=h k rfl;simp only [boxB,Bool.and_eq_true,Bool.or_eq_true,Bool.not_eq_true']
  constructor
  ·split
   ·rfl
   ·rename_i a ha
    split
    ·rename_i y hy
     split
     ·rename_i g hg
      rw [h1 a ha y g hy hg];simp
     ·rfl
    ·rfl
  ·cases hm:mayLend o.op with
   | false=>exact .inl rfl
   | true=>exact .inr (h2 hm)
def evPr (P:Program) (O:Opq) (T:Tys) (H:Hnd) (ops:Array Oper) (bx:Nat→Option Nat):List (Nat×Oper)→View→(View→Prop)→Prop
 | [],V,K=>K V
 | (i,o) :: r,V,K=>cond (boxB V o (bx i)) (evU P O T H ops o V fun V'=>evPr P O T H ops bx r V' K) False
def pairs:Nat→List Oper→List (Nat×Oper)
 | _,[]=>[]
 | k,o :: r=>(k,o) :: pairs (k+1) r
def prs (ops:Array Oper) (l:List Nat):List (Nat×Oper):=l.filterMap fun i=>(ops[i]?).map fun o=>(i,o)
theorem pairs_prs {ops:Array Oper}:∀ (r:List Oper) (k:Nat),(∀ j,r[j]?=ops[k+j]?)→pairs k r=prs ops (List.range' k r.length)
 | [],_,_=>rfl
 | o :: r,k,hr=>by
  have ho:ops[k]?=some o:=by have:=hr 0;simpa using this.symm
  rw [List.length_cons,List.range'_succ,pairs];unfold prs;rw [List.filterMap_cons,ho];simp only [Option.map_some];rw [pairs_prs r (k+1) (fun j=>by have:=hr (j+1);simp only [List.getElem?_cons_succ] at this;rw [this];congr 1;omega)]
  rfl
theorem front (TZ:ZOK T) {H:Hnd} {bx:Nat→Option Nat} {ops:Array Oper} {K:View→Prop} {i:Nat} {y:Oper} {l2:List (Nat×Oper)}:∀ (l1:List (Nat×Oper)),(∀ p∈l1,apartC ops (bx p.1) (bx i) p.2 y=true)→∀ V,WF V→evPr P O T H ops bx (l1++(i,y) :: l2) V K →
  boxOK V y (bx i)∧evU P O T H ops y V fun V'=>evPr P O T H ops bx (l1++l2) V' K
 | [],_,V,W,h=>by
  have h:cond (boxB V y (bx i)) (evU P O T H ops y V fun V'=>evPr P O T H ops bx l2 V' K) False:=h
  cases hb:boxB V y (bx i) with
  | false=>rw [hb] at h;exact h.elim
  | true=>rw [hb] at h;exact ⟨boxB_ok hb,h⟩
 | (k,x) :: l1,ha,V,W,h=>by
  have hxy:=ha (k,x) (by simp);simp only [apartC,Bool.and_eq_true,Bool.not_eq_true'] at hxy;obtain ⟨⟨nx,ny⟩,hap⟩:=hxy;have h:cond (boxB V x (bx k)) (evU P O T H ops x V fun V'=>evPr P O T H ops bx (l1++(i,y) :: l2) V' K) False:=h
  cases hb:boxB V x (bx k) with
  | false=>rw [hb] at h;exact h.elim
  | true =>
   rw [hb] at h;simp only [cond_true,evU,nx,cond_false] at h;obtain ⟨e,h1,h2,_⟩:=evG_one _ h;obtain ⟨f0,f1⟩:=front TZ l1 (fun p hp=>ha p (by simp [hp])) _ (W.app (fits_evG W TZ h1)) h2;simp only [evU,ny,cond_false] at f1;obtain ⟨f,g1,g2,_⟩:=evG_one _ f1;obtain ⟨b1,b2,s1,s2,s3⟩:=swap W TZ hap (boxB_ok hb) f0 h1 g1;refine ⟨b1,?_⟩;simp only [evU,ny,cond_false];obtain ⟨f',p1,p2,p3⟩:=evG_one _ s1;have p2:f'=f:=p2;subst p2;refine p3 _ ?_
   show cond (boxB _ x (bx k)) (evU P O T H ops x _ fun V'=>evPr P O T H ops bx (l1++l2) V' K) False
   rw [boxB_of b2];simp only [cond_true,evU,nx,cond_false];obtain ⟨e',q1,q2,q3⟩:=evG_one _ s2;have q2:e'=e:=q2;subst q2;refine q3 _ ?_;rw [s3];exact g2
theorem range_split {i m:Nat} (h:i<m):List.range m=List.range i++i :: List.range' (i+1) (m-(i+1)):=by
 have h1:=List.range'_append_1 (s:=0) (m:=i) (n:=m-i);rw [Nat.zero_add,show i+(m-i)=m by omega,show m-i=(m-(i+1))+1 by omega,List.range'_succ] at h1;rw [List.range_eq_range',List.range_eq_range',h1]
theorem any_sound (TK:TyOK P O T) (TZ:ZOK T) {H:Hnd} (HC:CallOK P O H) (hm0:w0.m=none∨H=H0) {r:Option Nat} {m:Nat} {ops:Array Oper} {bx:Nat→Option Nat} (hB:regB ops bx=true) {Q:Exit→Act→World→Prop} {K:View→Prop} (hQ:Behind O n w0 K (Q .normal)) (hd:∀ o∈ops.toList,∀ t,o.dst=some t→t<n) :
  ∀ (fuel:Nat) (listed:Array Bool),listed.size=ops.size→(∀ i o,ops[i]?=some o→listed.getD i true=true→∀ e∈edgesOf o,listed.getD e false=true) →
   ((List.range ops.size).filter fun i => !listed.getD i true).length≤fuel→∀ {β S V a w},evPr P O T H ops bx (prs ops ((List.range ops.size).filter fun i => !listed.getD i true)) V K→Corr O n w0 β S V a w→WF V→wpAnyIn (Fr r) m P .any ops Q fuel listed a w:=by
 have hB':=hB;simp only [regB,regB',List.all_eq_true,List.mem_range] at hB'
 -- the least of what is left is ready
 have ready_least:∀ (listed:Array Bool),listed.size=ops.size→Region.ready .any ops listed=[]→(List.range ops.size).filter (fun i => !listed.getD i true)=[]:=by
  intro listed hs hr
  have key:∀ i,i<ops.size→listed.getD i true=true:=by
   intro i
   induction i using Nat.strongRecOn with
   | _ i ih =>
    intro hi
    cases hl:listed.getD i true with
    | true=>rfl
    | false =>
     exfalso
     have ho:ops[i]?=some ops[i]:=Array.getElem?_eq_getElem hi;have hb:=hB' i hi;rw [ho] at hb;simp only [Bool.and_eq_true,List.all_eq_true] at hb
     have:i∈Region.ready .any ops listed:=by
      simp only [Region.ready,List.mem_filter,List.mem_range];refine ⟨hi,?_⟩;simp only [hl,ho,Bool.not_false,Bool.true_and,Option.map_some,Option.getD_some];rw [Array.all_eq_true']
      intro e he
      cases hbd:Region.binds .any e with
      | false=>rfl
      | true =>
       have hm:e.on∈edgesOf ops[i]:=by
        simp only [edgesOf,List.mem_filterMap]
        exact ⟨e,by simpa using he,by simp [hbd]⟩
       have hlt:=hb.1 _ hm;rw [Nat.blt_eq] at hlt
       have:=ih e.on hlt (by omega)
       have he':e.on<listed.size:=by omega
       simp [Array.getD,he'] at this ⊢
       exact this
     rw [hr] at this;cases this
  rw [List.filter_eq_nil_iff]
  intro i hi
  simp [key i (by simpa using hi)]
 intro fuel
 induction fuel with
 | zero =>
  intro listed hs hcl hf β S V a w h C W
  have hnil:(List.range ops.size).filter (fun i => !listed.getD i true)=[]:=List.length_eq_zero_iff.1 (by omega);rw [hnil] at h;refine ⟨?_,hQ _ _ _ _ _ h C⟩;simp only [Region.ready];rw [List.filter_eq_nil_iff] at hnil ⊢
  intro i hi
  have:=hnil i hi
  simp only [Bool.not_eq_true,Bool.not_eq_false'] at this
  simp [this]
 | succ fuel ih =>
  intro listed hs hcl hf β S V a w h C W
  refine ⟨fun hr => ?_,fun i hi => ?_⟩
  ·rw [ready_least listed hs hr] at h
   exact hQ _ _ _ _ _ h C
  ·simp only [Region.ready,List.mem_filter,List.mem_range] at hi;obtain ⟨hlt,hi⟩:=hi;have ho:ops[i]?=some ops[i]:=Array.getElem?_eq_getElem hlt;rw [ho] at hi;simp only [Option.map_some,Option.getD_some,Bool.and_eq_true,Bool.not_eq_true'] at hi;obtain ⟨hun,hed⟩:=hi;have hedges:∀ e∈edgesOf ops[i],listed.getD e false=true:=by
    intro e he
    simp only [edgesOf,List.mem_filterMap] at he;obtain ⟨ed,hm,he⟩:=he;rw [Array.all_eq_true'] at hed
    have:=hed ed (by simpa using hm)
    split at he
    ·rename_i hbd
     cases he
     simpa [hbd] using this
    ·cases he
   -- what stands ahead of it does not meet it
   have hb:=hB' i hlt;rw [ho] at hb;simp only [Bool.and_eq_true,List.all_eq_true,List.mem_range,Bool.or_eq_true] at hb;have hap:∀ k,k<i→listed.getD k true=false→∀ x,ops[k]?=some x→apartC ops (bx k) (bx i) x ops[i]=true:=by
    intro k hk hku x hx
    rcases hb.2 k hk with h1 | h1
    ·exfalso
     have hL:∀ j o,ops[j]?=some o→(listed.getD j true=true∧j<ops.size)→∀ e∈edgesOf o,listed.getD e true=true∧e<ops.size:=by
      intro j o hj hjl e he
      have:=hcl j o hj hjl.1 e he
      have hlt':e<listed.size:=by
       rcases Nat.lt_or_ge e listed.size with h' | h'
       ·exact h'
       ·simp [Array.getD,Nat.not_lt.2 h'] at this
      refine ⟨?_,by omega⟩
      simp [Array.getD,hlt'] at this ⊢;exact this
     have hm:=masks_sound (L:=fun j=>listed.getD j true=true∧j<ops.size) hL ops.toList [] (fun j=>by simp) (fun i m h=>by simp at h) i
     cases hms:(masks ops.toList [])[i]? with
     | none=>rw [List.getD_eq_getElem?_getD,hms] at h1;simp at h1
     | some m =>
      rw [List.getD_eq_getElem?_getD,hms] at h1;obtain ⟨o',ho',hm'⟩:=hm m hms;rw [ho] at ho';cases ho'
      have:=(hm' (fun e he=>by
       have h2:=hedges e he;have hlt':e<listed.size:=by
        rcases Nat.lt_or_ge e listed.size with h' | h'
        ·exact h'
        ·simp [Array.getD,Nat.not_lt.2 h'] at h2
       refine ⟨?_,by omega⟩
       simp [Array.getD,hlt'] at h2 ⊢;exact h2) k h1).1
      rw [hku] at this;cases this
    ·rw [hx] at h1;exact h1
   -- the list of what is left,around it
   have hsplit:(List.range ops.size).filter (fun j => !listed.getD j true)=(List.range i).filter (fun j => !listed.getD j true)++i :: (List.range' (i+1) (ops.size-(i+1))).filter (fun j => !listed.getD j true):=by
    rw [range_split hlt,List.filter_append,List.filter_cons]
    simp [hun]
   have hprs:∀ (l1 l2:List Nat),prs ops (l1++i :: l2)=prs ops l1++(i,ops[i]) :: prs ops l2:=by
    intro l1 l2
    unfold prs;rw [List.filterMap_append,List.filterMap_cons,ho]
    rfl
   rw [hsplit,hprs] at h;obtain ⟨_,f1⟩:=front TZ _ (fun p hp=>by
    simp only [prs,List.mem_filterMap,List.mem_filter,List.mem_range,Bool.not_eq_true'] at hp;obtain ⟨k,hk,hp⟩:=hp
    cases hx:ops[k]? with
    | none=>rw [hx] at hp;cases hp
    | some x =>
     rw [hx] at hp
     cases hp
     exact hap k hk.1 hk.2 x hx) V W h
   have hset:∀ j,(listed.setIfInBounds i true).getD j true=if j=i then true else listed.getD j true:=by
    intro j
    by_cases e:j=i
    ·subst e;simp [Array.getD,hs,hlt]
    ·simp only [Array.getD_eq_getD_getElem?,if_neg e];rw [Array.getElem?_setIfInBounds_ne (fun h=>e h.symm)]
   have hrest:(List.range ops.size).filter (fun j => !(listed.setIfInBounds i true).getD j true)=(List.range i).filter (fun j => !listed.getD j true)++(List.range' (i+1) (ops.size-(i+1))).filter (fun j => !listed.getD j true):=by
    rw [range_split hlt,List.filter_append,List.filter_cons];rw [hset i];simp only [if_true,Bool.not_true,Bool.false_eq_true,if_false]
    congr 1
    ·refine List.filter_congr fun j hj => ?_;rw [hset j,if_neg (by have:=List.mem_range.1 hj;omega)]
    ·refine List.filter_congr fun j hj => ?_;rw [hset j,if_neg (by have:=(List.mem_range'_1.1 hj).1;omega)]
   refine u_sound TK HC hm0 C ho f1 (hd _ (by rw [←Array.getElem?_toList] at ho;exact List.mem_of_getElem? ho)) ?_
   intro V' a' w' β' S' he C'
   refine ih _ (by simp [hs]) (fun j o hj hjl e he => ?_) ?_ (by rw [hrest];unfold prs at he ⊢;rw [List.filterMap_append];exact he) C' C'.wf
   ·have:listed.getD e false=true:=by
     rw [hset j] at hjl
     by_cases ej:j=i
     ·subst ej;rw [ho] at hj;cases hj;exact hedges e he
     ·rw [if_neg ej] at hjl;exact hcl j o hj hjl e he
    exact getD_set_true this
   ·rw [hrest];rw [hsplit] at hf;simp only [List.length_append,List.length_cons] at hf ⊢
    omega
end
end Go.Proofs.YtoaoebimjmjpeaaGreatDoor
namespace Go.Proofs.YtoaoebimjmjpeaaGreatDoor
open Go.RowKit Vn
open Go.ChangeMaps (setBlock)
set_option maxRecDepth 100000
set_option maxHeartbeats 8000000
theorem roomFr {r:Option Nat} {m:Nat}:(Fr r).room m:=fun _ h=>by simp [Fence.wide] at h
def LWI (r:Option Nat) (P:Program) (c:Code) (Q:Exit→Act→World→Prop) (a:Act) (w:World):Prop :=
 ∀ (b:Frame) (k:List Item) (cs:List Frame),b.roundOf=r→∃ e a' w',Q e a' w'∧ArrivesIn (Machine.fenced P (Fr r)) P (lone (b.atR a (.code c :: .inLoop c :: k)) cs w) b k cs e a' w'
theorem wpIn_of_LWI {r:Option Nat} {m:Nat} {P:Program} {c:Code} {Q:Exit→Act→World→Prop} {a:Act} {w:World} (h:LWI r P c Q a w):(Code.loop c).wpIn (Fr r) m P Q a w:=by
 intro b k cs hro hb hr
 obtain ⟨e,a',w',hq,harr⟩:=h b k cs hro
 exact ⟨e,a',w',hq,.of_steps (.one (fenced_calm hb hr rfl) stepR_loop) harr⟩
theorem LWI_of_wpIn {r:Option Nat} {m:Nat} {P:Program} {c:Code} {Q:Exit→Act→World→Prop} {a:Act} {w:World} (h:c.wpIn (Fr r) m P (Exit.then (LWI r P c Q) Q) a w):LWI r P c Q a w:=by
 intro b k cs hro
 have hb:(Fr r).fn b.fn:=trivial;obtain ⟨e,a₁,w₁,hq,harr⟩:=h b (.inLoop c :: k) cs hro hb roomFr
 cases e with
 | normal =>
  obtain ⟨e₂,a₂,w₂,hq₂,harr₂⟩:=hq b k cs hro
  exact ⟨e₂,a₂,w₂,hq₂,.of_steps (StepsIn.trans harr (.one (fenced_calm (n:=m) hb roomFr rfl) stepR_inLoop)) harr₂⟩
 | exit id=>exact ⟨_,a₁,w₁,hq,.pass (x:=.inLoop c) rfl (fun _ _=>.inl (by simp)) harr⟩
 | goto l=>exact ⟨_,a₁,w₁,hq,.pass (x:=.inLoop c) rfl (fun _ _=>.inl (by simp)) harr⟩
 | ret=>exact ⟨_,a₁,w₁,hq,.pass (x:=.inLoop c) rfl (fun _ _=>.inl (by simp)) harr⟩
 | panic ch=>exact ⟨_,a₁,w₁,hq,.pass (x:=.inLoop c) rfl (fun _ _=>.inl (by simp)) harr⟩
 | outgrown=>exact ⟨_,a₁,w₁,hq,.pass (x:=.inLoop c) rfl (fun _ _=>.inl (by simp)) harr⟩
theorem stepR_scope {P:Program} {b:Frame} {a:Act} {k:List Item} {cs:List Frame} {w:World} {c:Code}:step P (lone (b.atR a (.code (.scope c) :: k)) cs w)=.next (lone (b.atR a (.code c :: .inScope c :: k)) cs w) :=
 step_lone_go (by simp [stepG,stepG.exec,Frame.atR])
theorem stepR_inScope {P:Program} {b:Frame} {a:Act} {k:List Item} {cs:List Frame} {w:World} {c:Code}:step P (lone (b.atR a (.inScope c :: k)) cs w)=.next (lone (b.atR a k) cs w) :=
 step_lone_go (by simp [stepG,stepG.exec,Frame.atR])
theorem wpIn_scope_straight {r:Option Nat} {m:Nat} {P:Program} {c:Code} {Q:Exit→Act→World→Prop} {a:Act} {w:World} (h:c.wpIn (Fr r) m P (Exit.noGoto Q) a w):(Code.scope c).wpIn (Fr r) m P Q a w:=by
 intro b k cs hro hb hr
 have h0:(lone (b.atR a (.code (.scope c) :: k)) cs w).fenced P (Fr r):=fenced_calm hb hr rfl;obtain ⟨e,a₁,w₁,hq,harr⟩:=h b (.inScope c :: k) cs hro hb hr
 cases e with
 | normal=>exact ⟨.normal,a₁,w₁,hq,.head h0 stepR_scope (StepsIn.trans harr (.one (fenced_calm hb hr rfl) stepR_inScope))⟩
 | exit id =>
  have hx:exitTo id (.inScope c :: k)=exitTo id k:=by simp [exitTo]
  exact ⟨.exit id,a₁,w₁,hq,fun k' hk=>.head h0 stepR_scope (harr.1 k' (by rw [hx];exact hk)),fun hr' hk=>let ⟨k₁,h1,h2⟩:=harr.2 hr' (by rw [hx];exact hk);⟨k₁,h1,.head h0 stepR_scope h2⟩⟩
 | goto l=>exact hq.elim
 | ret=>exact ⟨_,a₁,w₁,hq,.of_steps (.one h0 stepR_scope) harr⟩
 | panic ch=>exact ⟨_,a₁,w₁,hq,.of_steps (.one h0 stepR_scope) harr⟩
 | outgrown=>exact ⟨_,a₁,w₁,hq,.of_steps (.one h0 stepR_scope) harr⟩
abbrev Bxs:=List (Nat×List (Nat×Nat))
section
variable {P:Program} {O:Opq} {T:Tys} {B:Bxs} {n:Nat} {w0:W0}
def memB (h:Nat):List Nat→Bool
 | []=>false
 | t :: l=>Nat.beq h t||memB h l
theorem memB_iff {h:Nat}:∀ {l:List Nat},memB h l=true↔h∈l
 | []=>by simp [memB]
 | t :: l=>by
  have:=memB_iff (h:=h) (l:=l)
  simp [memB,this]
/-! ### boxes that go, maps that stay from here on -/
def dropC (l:List Nat) (c:AC):AC:=match refC c with
 | some h=>cond (memB h l) .u c
 | none=>c
def fzC (h:Nat) (m c:AC):AC:=match c with
 | .pm g=>cond (Nat.beq g h) m (.pm g)
 | c=>dropC [h] c
def mapV (F:AC→AC):AV→AV
 | .c c=>.c (F c)
 | .g cs=>.g (cs.map F)
 | x=>x
def mapX (F:AC→AC):Bx→Bx
 | .b T cs=>.b T (cs.map F)
 | .r T wd cs=>.r T wd (cs.map F)
 | X=>X
def View.mapA (V:View) (F:AC→AC) (l:List Nat):View :=
 ⟨fun u=>mapV F (V.tv u),fun h=>cond (memB h l) none ((V.bv h).map (mapX F)),V.sv.map fun f u=>mapV F (f u),V.df.map F⟩
def View.clean (V:View) (l:List Nat):View:=V.mapA (dropC l) l
def fzP (h:Nat) (cs:List AC) (c:AC):AC:=match c with
 | .p g off=>cond (Nat.beq g h) (.e (cs.drop off)) (.p g off)
 | c=>dropC [h] c
def fzR (h wd:Nat) (cs:List AC) (c:AC):AC:=match c with
 | .os g n wd'=>cond (Nat.beq g h) (cond (Nat.beq wd' wd&&Nat.ble (n*wd) cs.length) (.sl wd (chunk wd n cs)) .u) (.os g n wd')
 | c=>dropC [h] c
def View.fz (V:View) (h:Nat):View:=match V.bv h with
 | some (.m ag ks vs)=>V.mapA (fzC h (.mp ag ks vs)) [h]
 | some (.b _ cs)=>cond (noPs cs) (V.mapA (fzP h cs) [h]) V
 | some (.r _ wd cs)=>cond (noPs cs) (V.mapA (fzR h wd cs) [h]) V
 | _=>V
def View.fzs (V:View):List Nat→View
 | []=>V
 | h :: l=>cond (Nat.beq h 1000) (V.fzs l) ((V.fz h).fzs l)
theorem Corr.mapA {β:Nat→Option Nat} {S:Nat→Prop} {V:View} {a:Act} {w:World} (C:Corr O n w0 β S V a w) {F:AC→AC} {l:List Nat} {S':Nat→Prop} (hs:∀ b,S b→S' b)
  (hS:∀ b,S' b→S b∨∃ h,h∈l∧h≠1000∧β h=some b) (hl:∀ b,w0.m=some b→1000 ∉ l)
  (hF:∀ x c,RepC O β S w x c→RepC O (fun h=>cond (memB h l) none (β h)) S' w x (F c)):Corr O n w0 (fun h=>cond (memB h l) none (β h)) S' (V.mapA F l) a w:=by
 have hFs:∀ {vs cs},RepCs O β S w vs cs→RepCs O (fun h=>cond (memB h l) none (β h)) S' w vs (cs.map F):=by
  intro vs
  induction vs with
  | nil=>intro cs r;cases cs with
   | nil=>trivial
   | cons _ _=>exact r.elim
  | cons v vs ih=>intro cs r;cases cs with
   | nil=>exact r.elim
   | cons c cs=>exact ⟨hF _ _ r.1,ih r.2⟩
 have nin:∀ {h b},cond (memB h l) none (β h)=some b→memB h l=false∧β h=some b:=by
  intro h b hb
  cases hm:memB h l with
  | true=>rw [hm] at hb;cases hb
  | false=>rw [hm] at hb;exact ⟨rfl,hb⟩
 have hFv:∀ {x v},RepV O β S w x v→RepV O (fun h=>cond (memB h l) none (β h)) S' w x (mapV F v):=by
  intro x v hi
  cases v with
  | c y=>exact hF _ _ hi
  | g cs=>obtain ⟨vs,e,r⟩:=hi;exact ⟨vs,e,hFs r⟩
  | t xs=>obtain ⟨vs,e,r⟩:=hi;exact ⟨vs,e,All2.mono (fun _ _ r=>RepW.evo (Evo.refl _ _ _) hs (fun _ _ h=>h) r) r⟩
  | j=>trivial
 refine ⟨fun i=>hFv (C.tm i),C.sz,fun h b hb => ?_,fun h hs => ?_,fun h h' b hb hb' => ?_,fun b hb => ?_,C.ex,fun b hb => ?_,C.iv,fun b hb => ?_,C.hn,C.su.map (fun _ _ h=>hFv h) (fun _ _ h=>hF _ _ h)⟩
 ·obtain ⟨hm,hb⟩:=nin hb;obtain ⟨X,h1,h2,h3,h4⟩:=C.bl h b hb;refine ⟨mapX F X,by show cond (memB h l) none ((V.bv h).map _)=_;rw [hm,h1];rfl,?_,h3,fun hS' => ?_⟩
  ·cases X with
   | b T cs=>obtain ⟨vs,g1,g2,g3⟩:=h2;exact ⟨vs,g1,hFs g2,g3⟩
   | r T wd cs=>obtain ⟨vs,ts,g1,g2,g3⟩:=h2;exact ⟨vs,ts,g1,hFs g2,g3⟩
   | m ag ks vs=>exact BxRep.evo (β:=β) (β':=β) (X:=.m ag ks vs) (Evo.refl _ _ _) hs (fun _ _ h=>h) rfl h2
   | it ag ks vs cur=>exact BxRep.evo (β:=β) (β':=β) (X:=.it ag ks vs cur) (Evo.refl _ _ _) hs (fun _ _ h=>h) rfl h2
   | z o=>exact h2
  ·rcases hS b hS' with h' | ⟨g,hg,_,hg'⟩
   ·exact h4 h'
   ·have:=C.inj _ _ _ hb hg'
    rw [this,memB_iff.2 hg] at hm;cases hm
 ·have hs':(cond (memB h l) none ((V.bv h).map (mapX F))).isSome=true:=hs
  show (cond (memB h l) none (β h)).isSome=true
  cases hm:memB h l with
  | true=>rw [hm] at hs';cases hs'
  | false=>rw [hm] at hs';exact C.dm h (by simpa using hs')
 ·exact C.inj _ _ _ (nin hb).2 (nin hb').2
 ·rcases hS b hb with h | ⟨h,_,_,hb⟩
  ·exact C.sl b h
  ·obtain ⟨X,_,h2,_⟩:=C.bl h b hb;exact h2.lt
 ·rcases hS b hb with h | ⟨h,hh,h1,hb⟩
  ·exact C.sb b h
  ·obtain ⟨X,_,_,h3,_⟩:=C.bl h b hb
   rcases h3 with h3 | h3
   ·exact .inr h3
   ·exact absurd (C.inj _ _ _ hb (C.om b h3)) h1
 ·show cond (memB 1000 l) none (β 1000)=_
  have:memB 1000 l=false:=by
   cases hm:memB 1000 l with
   | false=>rfl
   | true=>exact absurd (memB_iff.1 hm) (hl b hb)
  rw [this];exact C.om b hb
theorem RepC.ref {β:Nat→Option Nat} {S:Nat→Prop} {w:World} {x:Value} {c:AC} {h:Nat} (r:RepC O β S w x c) (hr:refC c=some h):∃ b,β h=some b:=by
 cases c<;>simp only [refC] at hr<;>try (cases hr;done)
 ·cases hr;obtain ⟨b,h1,_⟩:=r;exact ⟨b,h1⟩
 ·cases hr;obtain ⟨b,h1,_⟩:=r;exact ⟨b,h1⟩
 ·cases hr;obtain ⟨b,_,_,_,h1,_⟩:=r;exact ⟨b,h1⟩
 ·cases hr;obtain ⟨b,us,h1,_⟩:=r;exact ⟨b,h1⟩
theorem RepC.drop {β:Nat→Option Nat} {S S':Nat→Prop} {w:World} {l:List Nat} (hs:∀ b,S b→S' b) {x:Value} {c:AC} (r:RepC O β S w x c):RepC O (fun h=>cond (memB h l) none (β h)) S' w x (dropC l c):=by
 cases hr:refC c with
 | none =>
  simp only [dropC,hr]
  cases c<;>simp only [refC] at hr<;>try (cases hr;done)
  case u=>exact r
  all_goals exact Rep0.toC (Rep0.evo (Evo.refl _ _ _) hs _ _ (RepC.to0 r rfl))
 | some h =>
  simp only [dropC,hr]
  cases hm:memB h l with
  | true=>exact r.one
  | false =>
   have e:∀ b,β h=some b→cond (memB h l) none (β h)=some b:=fun b hb=>by rw [hm];exact hb
   cases c<;>simp only [refC] at hr<;>try (cases hr;done)
   ·cases hr;obtain ⟨b,h1,h2⟩:=r;exact ⟨b,e b h1,h2⟩
   ·cases hr;obtain ⟨b,h1,h2⟩:=r;exact ⟨b,e b h1,h2⟩
   ·cases hr;obtain ⟨b,cap,c,U,h1,h2⟩:=r;exact ⟨b,cap,c,U,e b h1,h2⟩
   ·cases hr;obtain ⟨b,us,h1,h2,h3⟩:=r;exact ⟨b,us,e b h1,h2,RepL.evo (Evo.refl _ _ _) hs _ _ h3⟩
theorem Corr.clean {β:Nat→Option Nat} {S:Nat→Prop} {V:View} {a:Act} {w:World} (C:Corr O n w0 β S V a w) {l:List Nat} (hl:∀ t∈l,t<n):Corr O n w0 (fun h=>cond (memB h l) none (β h)) S (V.clean l) a w :=
 C.mapA (fun _ h=>h) (fun _ h=>.inl h) (fun _ _ h=>by have:=hl _ h;have:=C.hn;omega) (fun _ _ r=>r.drop fun _ h=>h)
theorem Corr.fz {β:Nat→Option Nat} {S:Nat→Prop} {V:View} {a:Act} {w:World} (C:Corr O n w0 β S V a w) {h:Nat} (hh:h≠1000):∃ β' S',Corr O n w0 β' S' (V.fz h) a w:=by
 have go:∀ {b:Nat} {F:AC→AC},β h=some b→(∀ x c,RepC O β S w x c→RepC O (fun g=>cond (memB g [h]) none (β g)) (fun x=>S x∨x=b) w x (F c))→∃ β' S',Corr O n w0 β' S' (V.mapA F [h]) a w:=by
  intro b F hb hF
  exact ⟨_,_,C.mapA (S':=fun x=>S x∨x=b) (fun _ h=>.inl h) (fun x hx=>hx.imp id fun hx=>⟨h,by simp,hh,by rw [hx];exact hb⟩) (fun _ _ h'=>by simp at h';exact hh h'.symm) hF⟩
 have nm:∀ {g b':Nat},Nat.beq g h=false→β g=some b'→cond (memB g [h]) none (β g)=some b':=by
  intro g b' hg hb
  simp only [memB,hg,Bool.or_false,cond_false];exact hb
 have box:∀ {X},V.bv h=some X→∃ b,β h=some b∧BxRep O β S w b X:=by
  intro X e
  have hd:=C.dm h (by rw [e];rfl);obtain ⟨b,hb⟩:=Option.isSome_iff_exists.1 hd;obtain ⟨Y,h1,h2,_⟩:=C.bl h b hb;rw [e] at h1;cases h1
  exact ⟨b,hb,h2⟩
 have cellAt:∀ {b T:Nat} {vs ts:List Value},w.heap[b]?=some (.cells (vs++ts).toArray T (0,0))→∀ j v,vs[j]?=some v→w.cell? ⟨b,0+j,none⟩=some v:=by
  intro b T vs ts hh j v hj
  simp only [World.cell?,hh,Nat.zero_add];have hl:=(List.getElem?_eq_some_iff.1 hj).1
  simp [List.getElem?_append_left hl,hj]
 unfold View.fz
 split
 ·rename_i ag ks vs e
  obtain ⟨b,hb,h2⟩:=box e;refine go hb fun x c r => ?_;have other:RepC O (fun g=>cond (memB g [h]) none (β g)) (fun x=>S x∨x=b) w x (dropC [h] c):=r.drop fun _ h=>.inl h
  cases c with
  | pm g =>
   simp only [fzC];obtain ⟨b',h3,h4⟩:=r
   cases hg:Nat.beq g h with
   | true =>
    have hg:=Nat.eq_of_beq_eq_true hg;subst hg;rw [hb] at h3;cases h3;simp only [cond_true];refine Rep0.toC (c:=.mp ag ks vs) ?_;simp only [Rep0];obtain ⟨E,ck,L,g1,g2,g3,g4⟩:=h2
    exact ⟨b,E,ck,L,.inr rfl,h4,g1,g2,g3,RepEnts.evo (Evo.refl _ _ _) (fun _ h=>.inl h) ag vs ks L g4⟩
   | false =>
    simp only [cond_false]
    exact ⟨b',nm hg h3,h4⟩
  | _=>exact other
 ·rename_i T cs e
  cases hn:noPs cs with
  | false=>exact ⟨β,S,C⟩
  | true =>
   simp only [cond_true];obtain ⟨b,hb,vs,h1,h2,_⟩:=box e;have h2:R0s O (fun x=>S x∨x=b) w vs cs:=All2.mono (fun _ _ r=>Rep0.evo (Evo.refl _ _ _) (fun _ h=>.inl h) _ _ r) (h2.to0 hn);refine go hb fun x c r => ?_;have other:RepC O (fun g=>cond (memB g [h]) none (β g)) (fun x=>S x∨x=b) w x (dropC [h] c):=r.drop fun _ h=>.inl h
   cases c with
   | p g off =>
    simp only [fzP];obtain ⟨b',h3,h4⟩:=r
    cases hg:Nat.beq g h with
    | true =>
     have hg:=Nat.eq_of_beq_eq_true hg;subst hg;rw [hb] at h3;cases h3;simp only [cond_true];refine Rep0.toC (c:=.e (cs.drop off)) ?_;simp only [Rep0]
     have:=RepRow.drop off cs b 0 (RepRow.of_list cs vs b 0 (cellAt (ts:=[]) (by simpa using h1)) h2)
     exact ⟨b,off,.inr rfl,h4,by rw [Nat.zero_add] at this;exact this⟩
    | false =>
     simp only [cond_false]
     exact ⟨b',nm hg h3,h4⟩
   | _=>exact other
 ·rename_i T wd cs e
  cases hn:noPs cs with
  | false=>exact ⟨β,S,C⟩
  | true =>
   simp only [cond_true];obtain ⟨b,hb,vs,ts,h1,h2,_⟩:=box e;have h2:R0s O (fun x=>S x∨x=b) w vs cs:=All2.mono (fun _ _ r=>Rep0.evo (Evo.refl _ _ _) (fun _ h=>.inl h) _ _ r) (h2.to0 hn);refine go hb fun x c r => ?_;have other:RepC O (fun g=>cond (memB g [h]) none (β g)) (fun x=>S x∨x=b) w x (dropC [h] c):=r.drop fun _ h=>.inl h
   cases c with
   | os g k wd' =>
    simp only [fzR];have hone:=r.one;obtain ⟨b',cap,c',U,h3,h4,h5,h6⟩:=r
    cases hg:Nat.beq g h with
    | true =>
     have hg:=Nat.eq_of_beq_eq_true hg;subst hg;rw [hb] at h3;cases h3;simp only [cond_true]
     cases hc:Nat.beq wd' wd&&Nat.ble (k*wd) cs.length with
     | false=>exact hone
     | true =>
      simp only [Bool.and_eq_true,Nat.ble_eq] at hc;simp only [cond_true];refine Rep0.toC (c:=.sl wd (chunk wd k cs)) ?_;simp only [Rep0]
      exact ⟨some ⟨b,0,none⟩,b,0,cap,by rw [chunk_len];exact h4,fun _=>⟨rfl,.inr rfl,by rw [chunk_len];exact h6.2.2⟩,chunk_rep wd k cs b 0 hc.2 (RepRow.of_list cs vs b 0 (cellAt h1) h2)⟩
    | false =>
     simp only [cond_false]
     exact ⟨b',cap,c',U,nm hg h3,h4,h5,h6⟩
   | _=>exact other
 ·exact ⟨β,S,C⟩
theorem Corr.fzs {a:Act} {w:World}:∀ (l:List Nat) {β:Nat→Option Nat} {S:Nat→Prop} {V:View},Corr O n w0 β S V a w→∃ β' S',Corr O n w0 β' S' (V.fzs l) a w
 | [],β,S,_,C=>⟨β,S,C⟩
 | h :: l,β,S,V,C=>by
  simp only [View.fzs]
  cases hh:Nat.beq h 1000 with
  | true=>exact Corr.fzs l C
  | false =>
   obtain ⟨β',S',C'⟩:=C.fz (h:=h) (fun e=>by subst e;cases hh)
   exact Corr.fzs l C'
end
end Go.Proofs.YtoaoebimjmjpeaaGreatDoor
