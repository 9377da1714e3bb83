/- A function's text, reckoned. -/
import Derived.RangeFuncSeq
import Derived.RangeFuncIn
import Derived.RangeFuncRecord
import Derived.RangeFuncLeaves
import Derived.Test.YtoaoebimjmjpeaaGreatDoorT21
namespace Go.Proofs.YtoaoebimjmjpeaaGreatDoor
open Go.RowKit Vn
open Go.ChangeMaps (setBlock)
set_option maxRecDepth 100000
set_option maxHeartbeats 8000000
section
variable {P:Program} {O:Opq} {T:Tys} {B:Bxs} {n:Nat} {w0:W0}
def isMk:Op→Bool
 | .range _ _=>true
 | op=>isNew op
def newsOf:List Oper→List Nat
 | []=>[]
 | o :: r=>match isMk o.op,o.dst with
  | true,some t=>t :: newsOf r
  | _,_=>newsOf r
def anyB (V:View):List Nat→Bool
 | []=>false
 | t :: l=>(V.bv t).isSome||anyB V l
def iter (f:View→(Exit→View→Prop)→Prop) (J:View→Prop) (K:Exit→View→Prop):Nat→View→Prop
 | 0,V=>J V
 | m+1,V=>f V fun e V'=>match e with
  | .normal=>iter f J K m V'
  | e=>K e V'
def LoopI (f:View→(Exit→View→Prop)→Prop) (K:Exit→View→Prop) (V:View):Prop :=
 ∃ (σ:Type) (l:σ→List (Nat×AV)) (m:σ→List (Nat×Bx)) (μ:σ→Nat) (fz:List Nat) (s0:σ),Agree (l s0) (m s0) (V.fzs fz) ∧
  ∀ s,f (Vw (l s) (m s)) fun e V'=>match e with
   | .normal=>∃ fz s',μ s'<μ s∧Agree (l s') (m s') (V'.fzs fz)
   | e=>K e V'
def lookN {α:Type} (i:Nat):List (Nat×α)→Option α
 | []=>none
 | (j,b) :: l=>cond (Nat.beq i j) (some b) (lookN i l)
def bxW (B:Bxs) (id:Nat):Nat→Option Nat:=match lookN id B with
 | none=>fun _=>none
 | some l=>fun i=>lookN i l
def fzOf:List (Nat×Nat)→List Nat
 | []=>[]
 | (i,h) :: l=>cond (Nat.beq i 1000000) (h :: fzOf l) (fzOf l)
def argsI (ρ:Operand→AV):List Operand→(List AV→Prop)→Prop
 | [],k=>k []
 | x :: r,k=>match ρ x with
  | .c c=>argsI ρ r fun l=>k (.c c :: l)
  | .g cs=>allK cs fun m=>argsI ρ r fun l=>k (.g m :: l)
  | _=>False
def isYl (o:Op) (V:View):Bool:=match o with
 | .call c=>match c.callee with
  | .value (.tmp t)=>match V.tv t with
   | .c (.clp k _ _)=>Nat.beq k 1000000
   | _=>false
  | _=>false
 | _=>false
def evY (H:Hnd) (o:Oper) (V:View) (K:View→Prop):Prop:=match o.op with
 | .call c=>match c.callee with
  | .value (.tmp t)=>match V.tv t with
   | .c (.clp k h [])=>cond (Nat.beq k 1000000) (argsI V.ev c.args.toList fun l=>H.yld h l V fun V' b=>K (V'.put o.dst (.c (.v (.bool b))))) False
   | _=>False
  | _=>False
 | _=>False
def guardK (ops:Array Oper) (o:Oper) (V:View) (go no:Prop):Prop:=match o.guard with
 | none=>go
 | some (j,want)=>match (ops[j]?).bind (·.dst) with
  | some t=>match V.tv t with
   | .c (.v (.bool b))=>match want with
    | true=>cond b go no
    | false=>cond b no go
   | .t _=>no
   | _=>False
  | none=>False
def evS (P:Program) (O:Opq) (T:Tys) (H:Hnd) (ops:Array Oper) (o:Oper) (V:View) (K:View→Prop):Prop :=
 cond (isInl o.op) (evI H o V K) (cond (isSpec o.op) (guardK ops o V (cond (isYl o.op V) (evY H o V K) (evX P O T o V K)) (K (V.app (.val (.t [])) o.dst)))
  (evG P O T ops o V fun e=>K (V.app e o.dst)))
def evSeq (P:Program) (O:Opq) (T:Tys) (H:Hnd) (ops:Array Oper):List Oper→View→(View→Prop)→Prop
 | [],V,K=>K V
 | o :: r,V,K=>evS P O T H ops o V fun V'=>evSeq P O T H ops r V' K
def evD (P:Program) (O:Opq) (T:Tys) (H:Hnd) (bl:Option (List (Nat×Nat))) (ops:Array Oper) (d:Bool) (V:View) (K:View→Prop):Prop:=match d with
 | false=>evSeq P O T H ops ops.toList V K
 | true=>match bl with
  | none=>evPr P O T H ops (fun _=>none) (pairs 0 ops.toList) V K
  | some l=>evPr P O T H ops (fun i=>lookN i l) (pairs 0 ops.toList) V K
def evQ (P:Program) (O:Opq) (T:Tys) (H:Hnd) (bl:Option (List (Nat×Nat))) (ops:Array Oper) (d:Bool) (V:View) (K:View→Prop):Prop :=
 cond (anyB V (newsOf ops.toList)) (evD P O T H bl ops d (V.clean (newsOf ops.toList)) K) (evD P O T H bl ops d V K)
def setPm (f:Nat→AV):List Nat→List AV→Nat→AV
 | p :: ps,x :: xs=>setPm (upd f p x) ps xs
 | _,_=>f
def LpB (R:Loop) (s:LoopState) (p:Option Code):Bx:=.z (.loop { R with state:=s,pending:=p })
def endRd (R:Loop) (Kb:View→Bool→Prop) (e:Exit) (V:View):Prop:=match V.sv with
 | it :: own :: pt :: rest=>match pt 1 with
  | .c (.p h 0)=>V.bv h=some (LpB R .busy none)∧match e with
   | .normal=>Kb ⟨it,upd V.bv h (some (LpB R .ready none)),own :: pt :: rest,[]⟩ true
   | .ret=>Kb ⟨it,upd V.bv h (some (LpB R .done (some .ret))),own :: pt :: rest,[]⟩ false
   | _=>False
  | _=>False
 | _=>False
def begRd (R:Loop) (f:View→(Exit→View→Prop)→Prop) (Kb:View→Bool→Prop) (V:View):Prop:=match V.sv with
 | _ :: _ :: pt :: _=>match pt 1 with
  | .c (.p h 0)=>V.bv h=some (LpB R .ready none)∧f ⟨V.tv,upd V.bv h (some (LpB R .busy none)),V.sv,[]⟩ (endRd R Kb)
  | _=>False
 | _=>False
def rndV (ps:List Nat) (g f:View→(Exit→View→Prop)→Prop) (R:Loop) (h:Nat) (args:List AV) (V:View) (Kb:View→Bool→Prop):Prop:=match V.sv with
 | own :: pt :: _=>match pt 1 with
  | .c (.p h1 0)=>cond (Nat.beq h h1&&Nat.beq ps.length args.length) (V.bv h=some (LpB R .ready none)∧g ⟨setPm own ps args,V.bv,V.tv :: V.sv,[]⟩ fun e V'=>match e with
   | .normal=>begRd R f Kb V'
   | _=>False) False
  | _=>False
 | _=>False
def ptr2 (h g:Nat):Nat→AV
 | 0=>.c (.p h 0)
 | 1=>.c (.p g 0)
 | _=>.j
def endLp (K:Exit→View→Prop) (V:View):Prop:=match V.sv with
 | own :: pt :: rest=>match pt 0,pt 1 with
  | .c d,.c (.p h 0)=>match V.bv h with
   | some (.z (.loop r))=>match r.state with
    | .busy=>False
    | _=>match r.pending with
     | none=>K .normal ⟨own,upd V.bv h (some (.z (.loop { r with state:=.exhausted }))),rest,[d]⟩
     | some .ret=>K .ret ⟨own,upd V.bv h (some (.z (.loop { r with state:=.exhausted }))),rest,[d]⟩
     | _=>False
   | _=>False
  | _,_=>False
 | _=>False
def ev (P:Program) (O:Opq) (T:Tys) (H:Hnd) (B:Bxs):Code→View→(Exit→View→Prop)→Prop
 | .skip,V,K=>K .normal V
 | .label _,V,K=>K .normal V
 | .region id ops d,V,K=>match lookN id B with
  | none=>evQ P O T H none ops d V (K .normal)
  | some l=>evQ P O T H (some l) ops d (V.fzs (fzOf l)) (K .normal)
 | .seq a b,V,K=>ev P O T H B a V fun e V'=>match e with
  | .normal=>ev P O T H B b V' K
  | e=>K e V'
 | .cond c a b,V,K=>match V.ev c with
  | .c (.v (.bool t))=>cond t (ev P O T H B a V K) (ev P O T H B b V K)
  | _=>False
 | .block id c,V,K=>ev P O T H B c V fun e V'=>match e with
  | .exit i=>cond (Nat.beq i id) (K .normal V') (K (.exit i) V')
  | e=>K e V'
 | .loop c,V,K=>∃ m,iter (ev P O T H B c) (LoopI (ev P O T H B c) K) K m V
 | .exit id,V,K=>K (.exit id) V
 | .scope c,V,K=>ev P O T H B c V fun e V'=>match e with
  | .goto _=>False
  | e=>K e V'
 | .ret,V,K=>K .ret V
 | .rangeFunc g ps assign body,V,K=>match V.ev g with
  | .c y=>cond ((V.bv 990).isSome||(V.bv 991).isSome || !V.df.isEmpty) False (∀ R:Loop,
    H.iter y (rndV ps.toList (ev P O T H B assign) (ev P O T H B body) R) ⟨fun _=>.j,upd (upd V.bv 990 (some (.z (.deferred (some []))))) 991 (some (LpB R .ready none)),V.tv :: ptr2 990 991 :: V.sv,[]⟩ (endLp K))
  | _=>False
 | _,_,_=>False
def codeB (B:Bxs) (n:Nat):Code→Bool
 | .region id ops d=>(ops.toList.all fun o=>match o.dst with
  | some t=>Nat.blt t n
  | none=>true)&&(!d||regB ops (bxW B id))
 | .seq a b=>codeB B n a&&codeB B n b
 | .cond _ a b=>codeB B n a&&codeB B n b
 | .block _ c=>codeB B n c
 | .loop c=>codeB B n c
 | .scope c=>codeB B n c
 | .rangeFunc _ ps a b=>codeB B n a&&codeB B n b&&ps.toList.all (fun p=>Nat.blt p n)
 | _=>true
def kindB (nd:Bool):Code→Bool
 | .seq a b=>kindB nd a&&kindB nd b
 | .cond _ a b=>kindB nd a&&kindB nd b
 | .block _ c=>kindB nd c
 | .loop c=>nd&&kindB nd c
 | .scope c=>kindB nd c
 | .rangeFunc _ _ a b => !nd&&kindB true a&&kindB true b
 | _=>true
theorem TyOK.zok (TK:TyOK P O T):ZOK T:=by
 intro t ty ht
 obtain ⟨i,z,_,_,_,r⟩:=(TK t ty ht).info;have r:=r (fun _=>True) (default:World);generalize z.cells.toList=vs at r;generalize ty.zero=cs at r
 induction vs generalizing cs with
 | nil=>cases cs with
  | nil=>intro c hc;cases hc
  | cons _ _=>exact r.elim
 | cons v vs ih=>cases cs with
  | nil=>intro c hc;cases hc
  | cons c cs =>
   intro d hd
   cases hd with
   | head =>
    cases hr:refC c with
    | none=>rfl
    | some h=>obtain ⟨b,hb⟩:=RepC.ref r.1 hr;cases hb
   | tail _ hd=>exact ih cs r.2 d hd
theorem news_lt:∀ {l:List Oper},(∀ o∈l,∀ t,o.dst=some t→t<n)→∀ t∈newsOf l,t<n
 | [],_,t,h=>by cases h
 | o :: r,hd,t,h=>by
  simp only [newsOf] at h
  split at h
  ·rename_i u _ hu
   cases h with
   | head=>exact hd o (by simp) _ hu
   | tail _ h=>exact news_lt (fun o ho=>hd o (by simp [ho])) t h
  ·exact news_lt (fun o ho=>hd o (by simp [ho])) t h
/-! ### that it is so -/
def YOK (P:Program) (O:Opq) (yld:Nat→List AV→View→(View→Bool→Prop)→Prop) (w0:W0):Prop:=∀ {n:Nat} {β:Nat→Option Nat} {S:Nat→Prop} {V:View} {a:Act} {w:World} {h lo:Nat} {l:List AV} {vs:List Value} {K:View→Bool→Prop},
 Corr O n w0 β S V a w→yld h l V K→β h=some lo→All2 (RepV O β S w) vs l→∃ f tmps assign body,(Instr.yield lo vs.toArray).run P w=.ok (.round lo f tmps assign body) w ∧
  ∀ m,RoundIn (Fr none) m P lo f tmps assign body w fun e w'=>∃ b V' β' S',e=.returned (.bool b)∧Corr O n w0 β' S' V' a w'∧K V' b
def IterOK (P:Program) (O:Opq) (H:Hnd):Prop:=∀ {n:Nat} {w0:W0} {β:Nat→Option Nat} {S:Nat→Prop} {V:View} {a:Act} {w:World} {y:AC} {x:Value} {yld:Nat→List AV→View→(View→Bool→Prop)→Prop} {K:View→Prop},
 w0.m=none→w0.nd=true→Corr O n w0 β S V a w→H.iter y yld V K→RepC O β S w x y→YOK P O yld w0→∀ {own pt:Nat→AV} {rest:List (Nat→AV)} {h l:Nat},V.sv=own :: pt :: rest→pt 1=.c (.p h 0)→β h=some l →
  ∃ k lb,x=.func (.func k) #[] lb∧(∃ fn,P.funcs[k]?=some fn∧(fn.name == "runtime.NumGoroutine")=false∧fn.body.isNone=false) ∧
   ∀ m,CallsIn (Fr none) m P k (#[Value.func (.yield l) #[] #[]]++lb) w fun e w'=>(∃ v,e=.returned v)∧∃ V' β' S',Corr O n w0 β' S' ⟨fun _=>.j,V'.bv,V'.sv,[]⟩ a w'∧K V'
structure HOK (P:Program) (O:Opq) (H:Hnd) (w0:W0):Prop where
 call:CallOK P O H
 iter:IterOK P O H
 yld:YOK P O H.yld w0
 all:w0.nd=false→∀ w1,YOK P O H.yld w1
 m0:w0.m=none∨H=H0
theorem HOK.h0 (w0:W0):HOK P O H0 w0:=⟨fun _ _ h=>h.elim,fun _ _ _ h=>h.elim,fun _ h=>h.elim,fun _ _ _ _ _ _ _ _ _ _ _ _ _ _ h=>h.elim,.inr rfl⟩
theorem argsI_rep {ρ:Operand→AV} {ev:Operand→Value} {β:Nat→Option Nat} {S:Nat→Prop} {w:World} (hρ:∀ x,RepV O β S w (ev x) (ρ x)):∀ (l:List Operand) (k:List AV→Prop),argsI ρ l k→∃ xs,k xs∧All2 (RepV O β S w) (l.map ev) xs∧∀ t,AV.t t ∉ xs
 | [],k,h=>⟨[],h,trivial,fun _ h=>by cases h⟩
 | x :: l,k,h=>by
  simp only [argsI] at h;have hx:=hρ x
  split at h
  ·rename_i c e
   rw [e] at hx;obtain ⟨xs,h1,h2,h3⟩:=argsI_rep hρ l _ h
   exact ⟨_,h1,⟨hx,h2⟩,fun t ht=>by cases ht with | tail _ ht=>exact h3 t ht⟩
  ·rename_i cs e
   rw [e] at hx;rw [allK_iff] at h;obtain ⟨xs,h1,h2,h3⟩:=argsI_rep hρ l _ h
   exact ⟨_,h1,⟨hx,h2⟩,fun t ht=>by cases ht with | tail _ ht=>exact h3 t ht⟩
  ·exact h.elim
theorem guard_sound {β:Nat→Option Nat} {S:Nat→Prop} {V:View} {a:Act} {w:World} (C:Corr O n w0 β S V a w) {ops:Array Oper} {i:Nat} {o:Oper} (ho:ops[i]?=some o) {go no:Prop} (h:guardK ops o V go no) {next:Act→World→Prop} {Q:Exit→Act→World→Prop} {r:Option Nat} {m:Nat}
  (hgo:go→o.wpIn (Fr r) m P a w next Q) (hno:no→next (a.put o.dst undef) w):wpOpIn (Fr r) m P ops Q i next a w:=by
 unfold wpOpIn;simp only [ho];unfold guardK at h
 split at h
 ·rename_i hg
  rw [if_pos (by simp [Region.wanted,hg])]
  exact hgo h
 ·rename_i j want hg
  cases ht:(ops[j]?).bind (·.dst) with
  | none=>simp only [ht] at h
  | some t =>
   simp only [ht] at h;have hr:=C.tm t;have hy:∀ b,V.tv t=.c (.v (.bool b))→yielded ops a.tmps j=some b:=by
    intro b hb
    rw [hb] at hr;have e:a.tmps.getD t undef=.bool b:=hr.1;unfold yielded;rw [ht];rw [Array.getD_eq_getD_getElem?] at e
    cases h1:a.tmps[t]? with
    | none=>rw [h1] at e;cases e
    | some v=>rw [h1] at e;have e:v=.bool b:=e;subst e;simp [h1]
   cases hv:V.tv t with
   | t xs =>
    rw [hv] at h;rw [hv] at hr;obtain ⟨vs,e,_⟩:=hr
    have:yielded ops a.tmps j=none:=by
     unfold yielded;rw [ht];rw [Array.getD_eq_getD_getElem?] at e
     cases h1:a.tmps[t]? with
     | none=>simp [h1]
     | some v=>rw [h1] at e;have e:v=.tuple vs.toArray:=e;subst e;simp [h1]
    rw [if_neg (by simp [Region.wanted,hg,this])]
    exact ⟨fun _ _=>trivial,hno h⟩
   | g _=>rw [hv] at h;exact h.elim
   | j=>rw [hv] at h;exact h.elim
   | c y =>
    cases y with
    | v x =>
     cases x with
     | bool b =>
      rw [hv] at h
      have:=hy b hv
      cases want<;>cases b
      ·rw [if_pos (by simp [Region.wanted,hg,this])];exact hgo h
      ·rw [if_neg (by simp [Region.wanted,hg,this])];exact ⟨fun _ _=>trivial,hno h⟩
      ·rw [if_neg (by simp [Region.wanted,hg,this])];exact ⟨fun _ _=>trivial,hno h⟩
      ·rw [if_pos (by simp [Region.wanted,hg,this])];exact hgo h
     | _=>rw [hv] at h;exact h.elim
    | _=>rw [hv] at h;exact h.elim
theorem yl_sound {H:Hnd} (HY:YOK P O H.yld w0) {β:Nat→Option Nat} {S:Nat→Prop} {V:View} {a:Act} {w:World} (C:Corr O n w0 β S V a w) {o:Oper} {Kp:View→Prop} (h:evY H o V Kp) (hd:∀ t,o.dst=some t→t<n)
  {next:Act→World→Prop} {Q:Exit→Act→World→Prop} {r:Option Nat} {m:Nat} (K:∀ V' a' w' β' S',Kp V'→Corr O n w0 β' S' V' a' w'→next a' w'):o.wpIn (Fr r) m P a w next Q:=by
 unfold evY at h
 split at h
 ·rename_i c hop
  split at h
  ·rename_i t hc
   split at h
   ·rename_i k g ht
    obtain ⟨hk,h⟩:=cond_ff h;have hk:=Nat.eq_of_beq_eq_true hk;subst hk;obtain ⟨l,h1,h2,_⟩:=argsI_rep C.ev c.args.toList _ h;have hx:=C.tm t;rw [ht] at hx;obtain ⟨lo,us,hb,ex,ru⟩:=hx;obtain ⟨f,tmps,assign,body,hy,hR⟩:=HY C h1 hb h2;have hmm:(c.args.toList.map a.eval).toArray=c.args.map a.eval:=by rw [←Array.toList_map]
    rw [hmm] at hy;have ev:a.eval (.tmp t)=Value.func (.yield lo) #[] #[]:=ex;have hrun:(execOp a.eval o).run P w=.ok (.round lo f tmps assign body) w:=by
     unfold execOp
     simp [hop,resolve,hc,ev,Deferred.ofValue,invoke,hy]
    refine ⟨fun _ _=>trivial,?_⟩;rw [Oper.semAt_eq _ _ _ (fun c' hc'=>by rw [hop] at hc';cases hc'),hrun];refine ⟨(fun hx=>absurd hx (by simp [Fence.wide])),?_⟩;refine RoundIn.mono (show RoundIn (Fr none) (m-1) P lo f tmps assign body w _ from hR _) ?_;rintro e w' ⟨b,V',β',S',rfl,C',hk⟩
    exact K _ _ _ _ _ hk (C'.put hd (x:=.c (.v (.bool b))) ⟨rfl,rfl⟩)
   ·exact h.elim
  ·exact h.elim
 ·exact h.elim
theorem seq_sound (TK:TyOK P O T) {H:Hnd} (HK:HOK P O H w0) {r0:Option Nat} {m:Nat} {ops:Array Oper} {Q:Exit→Act→World→Prop} {K:View→Prop} (hQ:Behind O n w0 K (Q .normal)) (hd:∀ o∈ops.toList,∀ t,o.dst=some t→t<n) :
  ∀ (r:List Oper) (k:Nat),(∀ j,r[j]?=ops[k+j]?)→∀ {β S V a w},evSeq P O T H ops r V K→Corr O n w0 β S V a w→wpOpsIn (Fr r0) m P ops Q (List.range' k r.length) a w
 | [],k,hr,_,_,_,_,_,h,C=>hQ _ _ _ _ _ h C
 | o :: r,k,hr,β,S,V,a,w,h,C=>by
  have ho:ops[k]?=some o:=by have:=hr 0;simpa using this.symm
  rw [List.length_cons,List.range'_succ,wpOpsIn_cons];have hdo:=hd o (by rw [←Array.getElem?_toList] at ho;exact List.mem_of_getElem? ho);have next:∀ {β S V a w},evSeq P O T H ops r V K→Corr O n w0 β S V a w→wpOpsIn (Fr r0) m P ops Q (List.range' (k+1) r.length) a w:=fun h C =>
   seq_sound TK HK hQ hd r (k+1) (fun j=>by have:=hr (j+1);simp only [List.getElem?_cons_succ] at this;rw [this];congr 1;omega) h C
  simp only [evSeq,evS] at h
  cases hi:isInl o.op with
  | true =>
   rw [hi] at h;refine u_sound TK HK.call HK.m0 (Kp:=fun V'=>evSeq P O T H ops r V' K) C ho ?_ hdo fun V' a' w' β' S' he C'=>next he C';unfold evU;rw [hi];exact h
  | false =>
  rw [hi] at h;simp only [cond_false] at h
  cases hs:isSpec o.op with
  | true =>
   rw [hs] at h;simp only [cond_true] at h;refine guard_sound C ho h (fun h => ?_) (fun h=>next h (C.put hdo (x:=.t []) ⟨[],rfl,trivial⟩))
   cases hy:isYl o.op V with
   | true=>rw [hy] at h;simp only [cond_true] at h;exact yl_sound HK.yld C h hdo fun V' a' w' β' S' h C=>next h C
   | false =>
    rw [hy] at h;simp only [cond_false] at h;refine wpIn_of_wp (fun c hc=>by rw [hc] at hs;cases hs) ?_
    exact evX_sound TK C h hdo fun V' a' w' β' S' h C=>next h C
  | false =>
   rw [hs] at h;simp only [cond_false] at h
   exact g_sound TK C ho h hdo fun e a' w' β' S' he C'=>next he C'
def Beyond (O:Opq) (n:Nat) (w0:W0) (K:Exit→View→Prop) (Q:Exit→Act→World→Prop):Prop:=∀ e V a w β S,K e V→Corr O n w0 β S V a w→Q e a w
theorem evD_sound (TK:TyOK P O T) (hm:P.follows .mixedOrders=true) {H:Hnd} (HK:HOK P O H w0) {r0:Option Nat} {m:Nat} {id:Nat} {ops:Array Oper} {d:Bool} (hc:codeB B n (.region id ops d)=true) {bl:Option (List (Nat×Nat))} (hbl:lookN id B=bl) {β:Nat→Option Nat} {S:Nat→Prop} {V:View} {a:Act} {w:World} (C:Corr O n w0 β S V a w)
  {K:Exit→View→Prop} {Q:Exit→Act→World→Prop} (h:evD P O T H bl ops d V (K .normal)) (hQ:Beyond O n w0 K Q):(Code.region id ops d).wpIn (Fr r0) m P Q a w:=by
 simp only [codeB,Bool.and_eq_true,List.all_eq_true] at hc;have hd:∀ o∈ops.toList,∀ t,o.dst=some t→t<n:=by
  intro o ho t ht
  have:=hc.1 o ho
  rw [ht] at this
  simpa [Nat.blt_eq] using this
 have hB:Behind O n w0 (K .normal) (Q .normal):=fun V a w β S hk C=>hQ _ _ _ _ _ _ hk C
 cases d with
 | false =>
  refine wpIn_region ?_
  have:=seq_sound TK HK (r0:=r0) (m:=m) hB hd ops.toList 0 (fun j=>by simp) h C
  simpa [List.range_eq_range'] using this
 | true =>
  have hr:regB ops (bxW B id)=true:=by simpa using hc.2
  refine wpIn_region_any hm ?_;have he:Ext w { w with drawn:=w.drawn+1 }:=(Below.refl _ _).drew;have C1:=C.evo he (S':=S) (fun _ h=>h) (fun _ h=>.inl h);have h1:evPr P O T H ops (bxW B id) (pairs 0 ops.toList) V (K .normal):=by
   unfold bxW;rw [hbl]
   cases bl with
   | none=>exact h
   | some l=>exact h
  rw [pairs_prs (ops:=ops) ops.toList 0 (fun j=>by simp)] at h1;have hun:∀ i,i<ops.size→(Array.replicate ops.size false).getD i true=false:=by
   intro i hi;simp [Array.getD,hi]
  have hf:(List.range ops.size).filter (fun i => !(Array.replicate ops.size false).getD i true)=List.range ops.size:=by
   rw [List.filter_eq_self]
   intro i hi
   rw [hun i (by simpa using hi)];rfl
  refine any_sound TK TK.zok HK.call HK.m0 hr hB hd ops.size _ (by simp) (fun i o ho hl e he => ?_) (by rw [hf];simp) (by rw [hf];simpa [List.range_eq_range'] using h1) C1 C1.wf;have hlt:i<ops.size:=(Array.getElem?_eq_some_iff.1 ho).1;rw [hun i hlt] at hl;cases hl
theorem evC_sound (TK:TyOK P O T) (hm:P.follows .mixedOrders=true) {H:Hnd} (HK:HOK P O H w0) {r0:Option Nat} {m:Nat} {id:Nat} {ops:Array Oper} {d:Bool} (hc:codeB B n (.region id ops d)=true) {bl:Option (List (Nat×Nat))} (hbl:lookN id B=bl) {β:Nat→Option Nat} {S:Nat→Prop} {V:View} {a:Act} {w:World} (C:Corr O n w0 β S V a w)
  {K:Exit→View→Prop} {Q:Exit→Act→World→Prop} (h:evQ P O T H bl ops d V (K .normal)) (hQ:Beyond O n w0 K Q):(Code.region id ops d).wpIn (Fr r0) m P Q a w:=by
 unfold evQ at h
 cases ha:anyB V (newsOf ops.toList) with
 | false=>rw [ha] at h;exact evD_sound TK hm HK hc hbl C h hQ
 | true =>
  rw [ha] at h;have hc':=hc;simp only [codeB,Bool.and_eq_true,List.all_eq_true] at hc';refine evD_sound TK hm HK hc hbl (C.clean (l:=newsOf ops.toList) (news_lt fun o ho t ht => ?_)) h hQ
  have:=hc'.1 o ho
  rw [ht] at this
  simpa [Nat.blt_eq] using this
end
section
variable {P:Program} {O:Opq} {T:Tys} {B:Bxs} {n:Nat} {w0:W0}
theorem Corr.frm {β:Nat→Option Nat} {S:Nat→Prop} {V:View} {a:Act} {w:World} (C:Corr O n w0 β S V a w) {m:Nat} {tv:Nat→AV} {a':Act} {sus:List (Nat→Value)} {sv:List (Nat→AV)} {nd:Bool} {df:List AC}
  (tm:∀ i,RepV O β S w (a'.tmps.getD i undef) (tv i)) (sz:a'.tmps.size=m) (hm:m≤1000) (su:Sus O β S w nd sus sv a'.defers df):Corr O m { w0 with sus:=sus,nd:=nd } β S ⟨tv,V.bv,sv,df⟩ a' w :=
 ⟨tm,sz,C.bl,C.dm,C.inj,C.sl,C.ex,C.sb,C.iv,C.om,hm,su⟩
theorem Corr.nodf {β:Nat→Option Nat} {S:Nat→Prop} {V:View} {a:Act} {w:World} (C:Corr O n w0 β S V a w) (h:w0.nd=true):Corr O n w0 β S ⟨V.tv,V.bv,V.sv,[]⟩ a w :=
 ⟨C.tm,C.sz,C.bl,C.dm,C.inj,C.sl,C.ex,C.sb,C.iv,C.om,C.hn,⟨C.su.sm,by
  rcases C.su.df with h' | ⟨h',_⟩
  ·exact .inl h'
  ·rw [h] at h';cases h'⟩⟩
theorem AllP.cons {α γ:Type} {R:α→γ→Prop} {l:List α} {b:γ} {m:List γ} (h:AllP R l (b :: m)):∃ a l',l=a :: l'∧R a b∧AllP R l' m:=by
 cases l with
 | nil=>exact h.elim
 | cons a l=>exact ⟨a,l,rfl,h.1,h.2⟩
def slotsA (a:Act):Nat→Value:=fun i=>a.tmps.getD i undef
theorem setP_rep {β:Nat→Option Nat} {S:Nat→Prop} {w:World}:∀ (ps:List Nat) (xs:List AV) (vs:List Value) (f:Nat→AV) (t:Array Value),ps.length=xs.length→All2 (RepV O β S w) vs xs→(∀ p∈ps,p<t.size)→(∀ i,RepV O β S w (t.getD i undef) (f i)) →
  ∀ i,RepV O β S w (((ps.zip vs).foldl (fun t (p,v)=>t.setIfInBounds p v) t).getD i undef) (setPm f ps xs i)
 | [],xs,vs,f,t,_,_,_,h,i=>by
  cases xs<;>exact h i
 | p :: ps,[],_,_,_,hl,_,_,_,_=>by simp at hl
 | p :: ps,x :: xs,[],f,t,_,hv,_,_,_=>hv.elim
 | p :: ps,x :: xs,v :: vs,f,t,hl,hv,hp,h,i=>by
  simp only [List.zip_cons_cons,List.foldl_cons,setPm];refine setP_rep ps xs vs _ _ (by simpa using hl) hv.2 (fun q hq=>by simp;exact hp q (by simp [hq])) (fun j => ?_) i
  by_cases e:j=p
  ·subst e;rw [upd_same]
   have:=hp j (by simp)
   have e2:(t.setIfInBounds j v).getD j undef=v:=by simp [Array.getD,this]
   rw [e2];exact hv.1
  ·rw [upd_ne _ _ e];have e2:(t.setIfInBounds p v).getD j undef=t.getD j undef:=by
    simp only [Array.getD_eq_getD_getElem?];rw [Array.getElem?_setIfInBounds_ne (fun h=>e h.symm)]
   rw [e2];exact h j
theorem foldl_size:∀ (ps:List Nat) (vs:List Value) (t:Array Value),((ps.zip vs).foldl (fun t (p,v)=>t.setIfInBounds p v) t).size=t.size
 | [],_,_=>rfl
 | _ :: _,[],_=>rfl
 | p :: ps,v :: vs,t=>by simp only [List.zip_cons_cons,List.foldl_cons];rw [foldl_size ps vs];simp
theorem Corr.recd {β:Nat→Option Nat} {S:Nat→Prop} {V:View} {a:Act} {w:World} (C:Corr O n w0 β S V a w) {h l:Nat} {o:Obj} (hb:β h=some l) (hv:V.bv h=some (.z o)):w.heap[l]?=some o:=by
 obtain ⟨X,h1,h2,_⟩:=C.bl h l hb;rw [hv] at h1;cases h1
 exact h2
theorem Corr.setRec {β:Nat→Option Nat} {S:Nat→Prop} {V:View} {a:Act} {w:World} (C:Corr O n w0 β S V a w) {h l:Nat} {r:Loop} (hb:β h=some l) (hv:V.bv h=some (.z (.loop r))) (r':Loop):Corr O n w0 β S ⟨V.tv,upd V.bv h (some (.z (.loop r'))),V.sv,V.df⟩ a (w.putObj l (.loop r')):=by
 have g:=C.recd hb hv
 exact C.chgM (o':=.loop r') hb g rfl (fun ⟨_,_,e⟩=>by cases e) (heap_setBlock _ g)
def Snd (P:Program) (O:Opq) (c:Code) (f:View→(Exit→View→Prop)→Prop) (n:Nat) (w0:W0):Prop:=∀ {r:Option Nat} {m:Nat} {β:Nat→Option Nat} {S:Nat→Prop} {V:View} {a:Act} {w:World},(w0.nd=true∨r=none)→Corr O n w0 β S V a w→∀ {K:Exit→View→Prop},f V K→∀ {Q:Exit→Act→World→Prop},Beyond O n w0 K Q→c.wpIn (Fr r) m P Q a w
theorem begRd_out {R:Loop} {f:View→(Exit→View→Prop)→Prop} {Kb:View→Bool→Prop} {V:View} (h:begRd R f Kb V):∃ it own pt rest g,V.sv=it :: own :: pt :: rest∧pt 1=.c (.p g 0)∧V.bv g=some (LpB R .ready none)∧f ⟨V.tv,upd V.bv g (some (LpB R .busy none)),V.sv,[]⟩ (endRd R Kb):=by
 unfold begRd at h
 cases hv:V.sv with
 | nil=>rw [hv] at h;exact h.elim
 | cons it l =>
  cases l with
  | nil=>rw [hv] at h;exact h.elim
  | cons own l =>
   cases l with
   | nil=>rw [hv] at h;exact h.elim
   | cons pt rest =>
    simp only [hv] at h
    split at h
    ·rename_i g e
     exact ⟨it,own,pt,rest,g,rfl,e,h.1,h.2⟩
    ·exact h.elim
theorem endRd_out {R:Loop} {Kb:View→Bool→Prop} {V:View} {e:Exit} (h:endRd R Kb e V):∃ it own pt rest g,V.sv=it :: own :: pt :: rest∧pt 1=.c (.p g 0)∧V.bv g=some (LpB R .busy none)∧match (motive:=Exit→Prop) e with
   | .normal=>Kb ⟨it,upd V.bv g (some (LpB R .ready none)),own :: pt :: rest,[]⟩ true
   | .ret=>Kb ⟨it,upd V.bv g (some (LpB R .done (some .ret))),own :: pt :: rest,[]⟩ false
   | _=>False:=by
 unfold endRd at h
 cases hv:V.sv with
 | nil=>rw [hv] at h;exact h.elim
 | cons it l =>
  cases l with
  | nil=>rw [hv] at h;exact h.elim
  | cons own l =>
   cases l with
   | nil=>rw [hv] at h;exact h.elim
   | cons pt rest =>
    simp only [hv] at h
    split at h
    ·rename_i g e
     exact ⟨it,own,pt,rest,g,rfl,e,h.1,h.2⟩
    ·exact h.elim
theorem endLp_out {K:Exit→View→Prop} {V:View} (h:endLp K V):∃ own pt rest d g r,V.sv=own :: pt :: rest∧pt 0=.c d∧pt 1=.c (.p g 0)∧V.bv g=some (.z (.loop r))∧r.state≠.busy ∧
  ((r.pending=none∧K .normal ⟨own,upd V.bv g (some (.z (.loop { r with state:=.exhausted }))),rest,[d]⟩)∨(r.pending=some .ret∧K .ret ⟨own,upd V.bv g (some (.z (.loop { r with state:=.exhausted }))),rest,[d]⟩)):=by
 unfold endLp at h
 cases hv:V.sv with
 | nil=>rw [hv] at h;exact h.elim
 | cons own l =>
  cases l with
  | nil=>rw [hv] at h;exact h.elim
  | cons pt rest =>
   simp only [hv] at h
   split at h
   ·rename_i d g e0 e1
    split at h
    ·rename_i r er
     refine ⟨own,pt,rest,d,g,r,rfl,e0,e1,er,?_⟩
     split at h
     ·exact h.elim
     ·rename_i hs
      refine ⟨fun e=>hs e,?_⟩
      split at h
      ·rename_i hp;exact .inl ⟨hp,h⟩
      ·rename_i hp;exact .inr ⟨hp,h⟩
      ·exact h.elim
    ·exact h.elim
   ·exact h.elim
theorem rd_sound {ps:List Nat} {assign body:Code} {g f:View→(Exit→View→Prop)→Prop} {R:Loop} {own:Nat→Value} {ptr:Nat→Value} {sus:List (Nat→Value)} (hm0:w0.m=none) (hn:n≤1000) (hps:R.params=ps.toArray) (hb:R.body=body) (ha:R.assign=assign) (htm:∀ i,R.tmps.getD i undef=own i) (hsz:R.tmps.size=n) (hpl:∀ p∈ps,p<n)
  (hg:∀ w1:W0,w1.m=none→w1.nd=true→Snd P O assign g n w1) (hf:∀ w1:W0,w1.m=none→w1.nd=true→Snd P O body f n w1):YOK P O (rndV ps g f R) { w0 with sus:=own :: ptr :: sus,nd:=true }:=by
 intro n' β S V a w h lo l vs K C hr hlo hvs
 unfold rndV at hr
 split at hr
 ·rename_i own' pt rest esv
  split at hr
  ·rename_i h1 ept
   obtain ⟨hc,hbv,hr2⟩:=cond_ff hr;clear hr;simp only [Bool.and_eq_true,Nat.beq_eq] at hc;obtain ⟨rfl,hll⟩:=hc;have hrec:=C.recd hlo hbv;have hlen:=hvs.len;have hsm:=C.su.sm;rw [esv] at hsm;have hsm:(∀ i,RepV O β S w (own i) (own' i))∧_:=hsm;have hd0:a.defers=[]:=by
    rcases C.su.df with ⟨_,h⟩ | ⟨h,_⟩
    ·exact h
    ·cases h
   refine ⟨R.fn,_,R.assign,R.body,run_yield (r := { R with state:=.ready,pending:=none }) hrec (by show _=R.params.size;rw [hps];simp;omega),fun m => ?_⟩;refine roundIn_of_wpIn (F:=Fr none) trivial ?_;rw [ha,hb]
   show assign.wpIn (Fr (some lo)) m P _ _ w
   have Cr:Corr O n { w0 with sus:=slotsA a :: own :: ptr :: sus,nd:=true } β S ⟨setPm own' ps l,V.bv,V.tv :: V.sv,[]⟩ { tmps:=(ps.zip vs).foldl (fun t (p,v)=>t.setIfInBounds p v) R.tmps,defers:=[] } w:=by
    refine C.frm (fun i => ?_) ?_ hn ⟨⟨C.tm,C.su.sm⟩,.inl ⟨rfl,rfl⟩⟩
    ·refine setP_rep ps l vs own' R.tmps hll hvs (fun p hp=>by rw [hsz];exact hpl p hp) (fun i => ?_) i;rw [htm];exact hsm.1 i
    ·show (((ps.zip vs).foldl (fun t (p,v)=>t.setIfInBounds p v) R.tmps)).size=n
     rw [foldl_size,hsz]
   have hz:(R.params.zip vs.toArray).foldl (fun tmps (x:Tmp×Value)=>tmps.setIfInBounds x.1 x.2) R.tmps=(ps.zip vs).foldl (fun t (x:Nat×Value)=>t.setIfInBounds x.1 x.2) R.tmps:=by
    rw [hps,List.zip_toArray,List.foldl_toArray]
   have hz':(({ R with state:=.ready,pending:=none }:Loop).params.zip vs.toArray).foldl (fun tmps (t,a)=>tmps.setIfInBounds t a) ({ R with state:=.ready,pending:=none }:Loop).tmps=(ps.zip vs).foldl (fun t (p,v)=>t.setIfInBounds p v) R.tmps:=hz;rw [hz'];refine hg { w0 with sus:=slotsA a :: own :: ptr :: sus,nd:=true } hm0 rfl (.inl rfl) Cr hr2 fun e V1 a1 w1 β1 S1 hk C1 => ?_
   cases e with
   | normal =>
    show ∃ w₂,_
    obtain ⟨it,own1,pt1,rest1,h1,esv1,ept1,hbv1,hk⟩:=begRd_out hk;have hsm1:=C1.su.sm;rw [esv1] at hsm1;have hp1:=hsm1.2.2.1 1;rw [ept1] at hp1;obtain ⟨b1,hb1,eb1⟩:=hp1;have hp0:=hsm.2.1 1;rw [ept] at hp0;obtain ⟨b0,hb0,eb0⟩:=hp0;rw [eb0] at eb1;have eb1:b0=b1:=by cases eb1;rfl
    subst eb1;rw [hlo] at hb0;have hb0:lo=b0:=Option.some.inj hb0;subst hb0;have hrec1:=C1.recd hb1 hbv1;refine ⟨_,run_beginRound hrec1 rfl,?_⟩;have C2:=C1.setRec hb1 hbv1 { R with state:=.busy,pending:=none };refine hf { w0 with sus:=slotsA a :: own :: ptr :: sus,nd:=true } hm0 rfl (.inl rfl) (C2.nodf rfl) hk fun e V3 a3 w3 β3 S3 hk3 C3 => ?_;obtain ⟨it3,own3,pt3,rest3,h3,esv3,ept3,hbv3,hk3⟩:=endRd_out hk3;have hsm3:=C3.su.sm;rw [esv3] at hsm3;have hp3:=hsm3.2.2.1 1;rw [ept3] at hp3;obtain ⟨b3,hb3,eb3⟩:=hp3;rw [eb0] at eb3;have eb3:lo=b3:=by cases eb3;rfl
    subst eb3;have hrec3:=C3.recd hb3 hbv3;have fin:∀ (r':Loop),Corr O n' { w0 with sus:=own :: ptr :: sus,nd:=true } β3 S3 ⟨it3,upd V3.bv h3 (some (.z (.loop r'))),own3 :: pt3 :: rest3,[]⟩ a (w3.putObj lo (.loop r')):=by
     intro r'
     have C4:=C3.setRec hb3 hbv3 r';have hsm4:=C4.su.sm;have esv4:V3.sv=it3 :: own3 :: pt3 :: rest3:=esv3;simp only [esv4] at hsm4
     exact C4.frm (tv:=it3) (fun i=>hsm4.1 i) C.sz C.hn ⟨hsm4.2,.inl ⟨rfl,hd0⟩⟩
    cases e with
    | normal=>exact ⟨_,_,run_endRound none hrec3,true,_,_,_,rfl,fin _,hk3⟩
    | ret=>exact ⟨_,_,run_endRound (some .ret) hrec3,false,_,_,_,rfl,fin _,hk3⟩
    | _=>exact hk3.elim
   | _=>exact hk.elim
  ·exact hr.elim
 ·exact hr.elim
theorem rf_sound {H:Hnd} (HK:HOK P O H w0) (hm0:w0.m=none) (hnd:w0.nd=false) {g:Operand} {ps:Array Tmp} {assign body:Code} (hpl:∀ p∈ps.toList,p<n) {ga fa:View→(Exit→View→Prop)→Prop}
  (hg:∀ w1:W0,w1.m=none→w1.nd=true→Snd P O assign ga n w1) (hf:∀ w1:W0,w1.m=none→w1.nd=true→Snd P O body fa n w1) {β:Nat→Option Nat} {S:Nat→Prop} {V:View} {a:Act} {w:World} (C:Corr O n w0 β S V a w) {y:AC} (ey:V.ev g=.c y)
  (h990:V.bv 990=none) (h991:V.bv 991=none) (hdf:V.df=[]) {K:Exit→View→Prop} (h:∀ R:Loop,H.iter y (rndV ps.toList ga fa R) ⟨fun _=>.j,upd (upd V.bv 990 (some (.z (.deferred (some []))))) 991 (some (LpB R .ready none)),V.tv :: ptr2 990 991 :: V.sv,[]⟩ (endLp K))
  {Q:Exit→Act→World→Prop} (hQ:Beyond O n w0 K Q) {m:Nat}:(Code.rangeFunc g ps assign body).wpIn (Fr none) m P Q a w:=by
 have hd0:a.defers=[]:=by
  rcases C.su.df with ⟨_,h⟩ | ⟨_,h⟩
  ·exact h
  ·rw [hdf] at h
   cases hd:a.defers with
   | nil=>rfl
   | cons _ _=>rw [hd] at h;exact h.elim
 refine wpIn_rangeFunc ?_
 intro fn _
 obtain ⟨rec,hrec⟩:∃ rec:Loop,rec = { state:=.ready,pending:=none,fn,tmps:=a.tmps,params:=ps,assign,body,defers:=w.heap.size }:=⟨_,rfl⟩;obtain ⟨W1,hW1⟩:∃ W1,(w.alloc (.deferred (some []))).alloc (.loop rec)=W1:=⟨_,rfl⟩;have hL1:W1.heap[w.heap.size+1]?=some (.loop rec):=by
  rw [←hW1];have:=World.alloc_heap_new (w.alloc (.deferred (some []))) (.loop rec);rwa [World.size_alloc] at this
 have hK1:W1.heap[w.heap.size]?=some (.deferred (some [])):=by
  rw [←hW1];exact (Below.heap_alloc _ _ _ (by simp)).trans (World.alloc_heap_new w _)
 have hx:Ext w W1:=by
  rw [←hW1];exact ((Below.refl _ w).alloc (Nat.le_refl _) _).alloc (by simp) _
 have C1:=C.evo hx (S':=S) (fun _ h=>h) (fun _ h=>.inl h);have lt:∀ k b,β k=some b→b<w.heap.size:=fun k b hb=>by obtain ⟨_,_,h2,_⟩:=C.bl k b hb;exact h2.lt
 have C2:=C1.own (g:=990) (b:=w.heap.size) (X:=.z (.deferred (some []))) h990 (fun k hb=>by have:=lt k _ hb;omega) (fun hS=>by have:=C.sl _ hS;omega) C.ex.size (fun β' _=>hK1);have C3:=C2.own (g:=991) (b:=w.heap.size+1) (X:=LpB rec .ready none) (by show upd V.bv 990 (some (.z (.deferred (some [])))) 991=none;rw [upd_ne _ _ (by omega)];exact h991) (fun k hb=>by
  by_cases e:k=990
  ·subst e;rw [upd_same] at hb;have hb:=Option.some.inj hb;omega
  ·rw [upd_ne _ _ e] at hb;have:=lt k _ hb;omega) (fun hS=>by have:=C.sl _ hS;omega) (by have:=C.ex.size;omega) (fun β' _=>by
   show W1.heap[w.heap.size+1]?=some (.loop _)
   rw [hL1,hrec])
 have b990:upd (upd β 990 (some w.heap.size)) 991 (some (w.heap.size+1)) 990=some w.heap.size:=by rw [upd_ne _ _ (by omega),upd_same]
 have b991:upd (upd β 990 (some w.heap.size)) 991 (some (w.heap.size+1)) 991=some (w.heap.size+1):=upd_same _ _ _;obtain ⟨ptr,hptr⟩:∃ ptr:Nat→Value,ptr=fun i=>if i=0 then .pointer (some ⟨w.heap.size,0,none⟩) else .pointer (some ⟨w.heap.size+1,0,none⟩):=⟨_,rfl⟩;have C4:Corr O n { w0 with sus:=slotsA a :: ptr :: w0.sus,nd:=true } (upd (upd β 990 (some w.heap.size)) 991 (some (w.heap.size+1))) S ⟨fun _=>.j,upd (upd V.bv 990 (some (.z (.deferred (some []))))) 991 (some (LpB rec .ready none)),V.tv :: ptr2 990 991 :: V.sv,[]⟩ a W1:=by
  refine C3.frm (fun _=>trivial) C.sz C.hn ⟨⟨C3.tm,⟨fun i => ?_,C3.su.sm⟩⟩,.inl ⟨rfl,hd0⟩⟩;rw [hptr]
  match i with
  | 0=>exact ⟨_,b990,rfl⟩
  | 1=>exact ⟨_,b991,rfl⟩
  | _+2=>trivial
 have hy:=C3.ev g;have ey3:(⟨V.tv,upd (upd V.bv 990 (some (.z (.deferred (some []))))) 991 (some (LpB rec .ready none)),V.sv,V.df⟩:View).ev g=.c y:=by
  rw [←ey]
  cases g<;>rfl
 rw [ey3] at hy;have hY:YOK P O (rndV ps.toList ga fa rec) { w0 with sus:=slotsA a :: ptr :: w0.sus,nd:=true } :=
  rd_sound hm0 C.hn (by rw [hrec]) (by rw [hrec]) (by rw [hrec]) (fun i=>by rw [hrec];rfl) (by rw [hrec];exact C.sz) hpl hg hf
 have HI:IterOK P O H := @HOK.iter _ _ _ _ HK;obtain ⟨k,lb,ex,hfn,hcal⟩ := @HI n { w0 with sus:=slotsA a :: ptr :: w0.sus,nd:=true } _ _ _ _ _ _ _ _ _ hm0 rfl C4 (h rec) hy @hY _ _ _ _ _ rfl rfl b991;obtain ⟨fn',f1,f2,f3⟩:=hfn;refine ⟨w.heap.size+1,[{ target:=.collected w.heap.size,args:=#[] }],W1,{ target:=.fn (.func k) lb,args:=#[.func (.yield (w.heap.size+1)) #[] #[]] },W1,k,#[.func (.yield (w.heap.size+1)) #[] #[]]++lb,W1,?_,?_,fun _ _=>trivial,?_,(fun hx=>absurd hx (by simp [Fence.wide])),?_⟩
 ·rw [←hW1,hrec];exact run_enterLoop_outer _ _ _ _ _
 ·simp only [resolve];rw [ex]
  simp [Deferred.ofValue,Act.eval]
 ·have hn':¬ fn'.name = "runtime.NumGoroutine" := by simpa using f2
  have hb':¬ fn'.body=none:=fun e=>by rw [e] at f3;cases f3
  simp [invoke,callFunc,f1,hn',hb']
 ·refine (hcal (m-1)).mono ?_;rintro e W2 ⟨⟨v,rfl⟩,V',β',S',C5,hk⟩;obtain ⟨own,pt,rest,d,q,r,esv,e0,e1,er,hs,hk⟩:=endLp_out hk;have hsm:=C5.su.sm;have esv':V'.sv=own :: pt :: rest:=esv;simp only [esv'] at hsm;have hp1:=hsm.2.1 1;rw [e1] at hp1;obtain ⟨b,hb,eb⟩:=hp1;have eb:w.heap.size+1=b:=by rw [hptr] at eb;cases eb;rfl
  subst eb;have hrec2:=C5.recd hb er;have C6:=C5.setRec hb er { r with state:=.exhausted };have hsm6:=C6.su.sm;simp only [esv'] at hsm6;have hp0:=hsm6.2.1 0;rw [e0] at hp0;have hp0:RepC O β' S' (W2.putObj (w.heap.size+1) (.loop { r with state:=.exhausted })) (.pointer (some ⟨w.heap.size,0,none⟩)) d:=by
   rw [hptr] at hp0;exact hp0
  have C7:Corr O n w0 β' S' ⟨own,upd V'.bv q (some (.z (.loop { r with state:=.exhausted }))),rest,[d]⟩ { a with defers:=[{ target:=.collected w.heap.size,args:=#[] }]++a.defers } (W2.putObj (w.heap.size+1) (.loop { r with state:=.exhausted })) :=
   ⟨hsm6.1,C.sz,C6.bl,C6.dm,C6.inj,C6.sl,C6.ex,C6.sb,C6.iv,C6.om,C.hn,⟨hsm6.2.2,.inr ⟨hnd,by rw [hd0];exact ⟨⟨_,rfl,hp0⟩,trivial⟩⟩⟩⟩
  have he:=run_endLoop (P:=P) hrec2 hs
  rcases hk with ⟨hp,hk⟩ | ⟨hp,hk⟩
  ·exact ⟨none,_,he.trans (congrArg (fun p=>Result.ok p _) hp),hQ _ _ _ _ _ _ hk C7⟩
  ·exact ⟨some .ret,_,he.trans (congrArg (fun p=>Result.ok p _) hp),wpIn_ret (hQ _ _ _ _ _ _ hk C7)⟩
theorem ev_sound (TK:TyOK P O T) (hm:P.follows .mixedOrders=true) {H:Hnd}:∀ (c:Code) {w0:W0},HOK P O H w0→codeB B n c=true→kindB w0.nd c=true→Snd P O c (ev P O T H B c) n w0
 | .skip,w0,HK,_,_,_,_,_,_,_,_,_,_,C,K,h,Q,hQ=>wpIn_skip (hQ _ _ _ _ _ _ h C)
 | .label _,w0,HK,_,_,_,_,_,_,_,_,_,_,C,K,h,Q,hQ=>wpIn_label (hQ _ _ _ _ _ _ h C)
 | .region id ops d,w0,HK,hc,hk,r,m,β,S,V,a,w,hr,C,K,h,Q,hQ=>by
  simp only [ev] at h
  split at h
  ·rename_i e;exact evC_sound TK hm HK hc e C h hQ
  ·rename_i l e
   obtain ⟨β',S',C'⟩:=Corr.fzs (fzOf l) C
   exact evC_sound TK hm HK hc e C' h hQ
 | .seq x y,w0,HK,hc,hk,r,m,β,S,V,a,w,hr,C,K,h,Q,hQ=>by
  simp only [codeB,Bool.and_eq_true] at hc;simp only [kindB,Bool.and_eq_true] at hk;refine wpIn_seq (ev_sound TK hm x HK hc.1 hk.1 hr C h fun e V' a' w' β' S' hk' C' => ?_)
  cases e with
  | normal=>exact ev_sound TK hm y HK hc.2 hk.2 hr C' hk' hQ
  | _=>exact hQ _ _ _ _ _ _ hk' C'
 | .cond c x y,w0,HK,hc,hk,r,m,β,S,V,a,w,hr,C,K,h,Q,hQ=>by
  simp only [codeB,Bool.and_eq_true] at hc;simp only [kindB,Bool.and_eq_true] at hk;simp only [ev] at h
  split at h
  ·rename_i t e
   have:=evC C e
   cases t with
   | true=>exact wpIn_cond_true this (ev_sound TK hm x HK hc.1 hk.1 hr C h hQ)
   | false=>exact wpIn_cond_false this (ev_sound TK hm y HK hc.2 hk.2 hr C h hQ)
  ·exact h.elim
 | .block id c,w0,HK,hc,hk,r,m,β,S,V,a,w,hr,C,K,h,Q,hQ=>by
  simp only [codeB] at hc;simp only [kindB] at hk;refine wpIn_block (ev_sound TK hm c HK hc hk hr C h fun e V' a' w' β' S' hk C' => ?_)
  cases e with
  | exit i =>
   show if i=id then _ else _
   by_cases e:i=id
   ·subst e;rw [if_pos rfl]
    have:Nat.beq i i=true:=by simp
    simp only [this,cond_true] at hk
    exact hQ _ _ _ _ _ _ hk C'
   ·rw [if_neg e]
    have:Nat.beq i id=false:=by
     cases hb:Nat.beq i id with
     | false=>rfl
     | true=>exact absurd (Nat.eq_of_beq_eq_true hb) e
    simp only [this,cond_false] at hk
    exact hQ _ _ _ _ _ _ hk C'
  | _=>exact hQ _ _ _ _ _ _ hk C'
 | .loop c,w0,HK,hc,hk,r,m,β,S,V,a,w,hr,C,K,h,Q,hQ=>by
  simp only [codeB] at hc;simp only [kindB,Bool.and_eq_true] at hk;obtain ⟨hnd,hk⟩:=hk;obtain ⟨m',h⟩:=h;refine wpIn_of_LWI ?_;have stat:∀ {V a w β S},Corr O n w0 β S V a w→LoopI (ev P O T H B c) K V→LWI r P c Q a w:=by
   intro V a w β S C h
   obtain ⟨σ,l,mm,μ,fz,s0,A,h⟩:=h;have key:∀ (N:Nat) (s:σ),μ s≤N→∀ {V a w β S fz},Corr O n w0 β S V a w→Agree (l s) (mm s) (V.fzs fz)→LWI r P c Q a w:=by
    intro N
    induction N with
    | zero =>
     intro s hs V a w β S fz C A
     obtain ⟨β1,S1,C1⟩:=Corr.fzs fz C;obtain ⟨β2,C2⟩:=C1.sub hnd A;refine LWI_of_wpIn (m:=m) (ev_sound TK hm c HK hc hk hr C2 (h s) fun e V' a' w' β' S' hk C' => ?_)
     cases e with
     | normal=>obtain ⟨fz',s',hlt,_⟩:=hk;omega
     | _=>exact hQ _ _ _ _ _ _ hk C'
    | succ N ih =>
     intro s hs V a w β S fz C A
     obtain ⟨β1,S1,C1⟩:=Corr.fzs fz C;obtain ⟨β2,C2⟩:=C1.sub hnd A;refine LWI_of_wpIn (m:=m) (ev_sound TK hm c HK hc hk hr C2 (h s) fun e V' a' w' β' S' hk C' => ?_)
     cases e with
     | normal=>obtain ⟨fz',s',hlt,A'⟩:=hk;exact ih s' (by omega) C' A'
     | _=>exact hQ _ _ _ _ _ _ hk C'
   exact key (μ s0) s0 (Nat.le_refl _) C A
  have key:∀ (j:Nat) {β S V a w},Corr O n w0 β S V a w→iter (ev P O T H B c) (LoopI (ev P O T H B c) K) K j V→LWI r P c Q a w:=by
   intro j
   induction j with
   | zero=>intro β S V a w C h;exact stat C h
   | succ j ih =>
    intro β S V a w C h
    refine LWI_of_wpIn (m:=m) (ev_sound TK hm c HK hc hk hr C h fun e V' a' w' β' S' hk C' => ?_)
    cases e with
    | normal=>exact ih C' hk
    | _=>exact hQ _ _ _ _ _ _ hk C'
  exact key m' C h
 | .exit id,w0,HK,_,_,_,_,_,_,_,_,_,_,C,K,h,Q,hQ=>wpIn_exit (hQ _ _ _ _ _ _ h C)
 | .scope c,w0,HK,hc,hk,r,m,β,S,V,a,w,hr,C,K,h,Q,hQ=>by
  simp only [codeB] at hc;simp only [kindB] at hk;refine wpIn_scope_straight (ev_sound TK hm c HK hc hk hr C h fun e V' a' w' β' S' hk C' => ?_)
  cases e with
  | goto _=>exact hk
  | _=>exact hQ _ _ _ _ _ _ hk C'
 | .ret,w0,HK,_,_,_,_,_,_,_,_,_,_,C,K,h,Q,hQ=>wpIn_ret (hQ _ _ _ _ _ _ h C)
 | .rangeFunc g ps assign body,w0,HK,hc,hk,r,m,β,S,V,a,w,hr,C,K,h,Q,hQ=>by
  simp only [codeB,Bool.and_eq_true,List.all_eq_true] at hc;simp only [kindB,Bool.and_eq_true,Bool.not_eq_true'] at hk;obtain ⟨⟨hnd,hka⟩,hkb⟩:=hk;have hr:r=none:=by
   rcases hr with h | h
   ·rw [hnd] at h;cases h
   ·exact h
  subst hr;simp only [ev] at h
  split at h
  ·rename_i y ey
   cases hcd:(V.bv 990).isSome||(V.bv 991).isSome || !V.df.isEmpty with
   | true=>rw [hcd] at h;exact h.elim
   | false =>
    rw [hcd] at h;simp only [cond_false] at h;simp only [Bool.or_eq_false_iff,Bool.not_eq_false',Option.isSome_eq_false_iff,Option.isNone_iff_eq_none,List.isEmpty_iff] at hcd
    rcases HK.m0 with hm0 | rfl
    ·have hw1:∀ w1:W0,w1.m=none→w1.nd=true→HOK P O H w1:=fun w1 h1 h2=>⟨HK.call,HK.iter,HK.all hnd w1,(fun e=>by rw [h2] at e;cases e),.inl h1⟩
     exact rf_sound HK hm0 hnd (fun p hp=>by simpa [Nat.blt_eq] using hc.2 p hp) (fun w1 h1 h2=>ev_sound TK hm assign (hw1 w1 h1 h2) hc.1.1 (by rw [h2];exact hka)) (fun w1 h1 h2=>ev_sound TK hm body (hw1 w1 h1 h2) hc.1.2 (by rw [h2];exact hkb)) C ey hcd.1.1 hcd.1.2 hcd.2 h hQ
    ·exact (h default).elim
  ·exact h.elim
 | .goto _,_,_,_,_,_,_,_,_,_,_,_,_,_,_,h,_,_=>h.elim
 | .refuse _,_,_,_,_,_,_,_,_,_,_,_,_,_,_,h,_,_=>h.elim
end
section
variable {P:Program} {O:Opq} {T:Tys} {n:Nat} {w0:W0}
def resV (bv:Nat→Option Bx) (x:AV) (k:AV→Prop):Prop:=match x with
 | .c c=>cond (isP c) (frzK true bv 6 c fun d=>k (.c d)) (k (.c c))
 | .g cs=>allK cs fun m=>cond (noPs m) (k (.g m)) False
 | _=>False
def resK (T:Tys) (V:View):List ResultVar→(List AV→Prop)→Prop
 | [],k=>k []
 | .tmp t :: r,k=>resV V.bv (V.tv t) fun x=>resK T V r fun l=>k (x :: l)
 | .cell a t :: r,k=>match T t with
  | some ty=>match V.tv a with
   | .c (.p h off)=>match V.bv h with
    | some X=>match X.cells with
     | some (_,cs)=>partK ty.agg ty.zero.length (cs.drop off) fun x=>resV V.bv x fun y=>resK T V r fun l=>k (y :: l)
     | none=>False
    | none=>False
   | _=>False
  | none=>False
def joinR:List AV→AV
 | [x]=>x
 | l=>.t l
def argV (args:List AV):View:=⟨fun i=>args.getD i (.t []),fun _=>none,[],[]⟩
def noPA:AV→Bool
 | .c x => !isP x
 | .g _=>true
 | _=>false
def readR (tmps:Array Value):ResultVar→Sem Value
 | .tmp t=>pure (tmps.getD t undef)
 | .cell a t=>do loadVar t (←asAddr (tmps.getD a undef))
theorem resV_rep {β:Nat→Option Nat} {S S':Nat→Prop} {V:View} {a:Act} {w:World} (C:Corr O n w0 β S V a w) (hs:∀ b,S b→S' b) (hS:∀ h b,β h=some b→S' b) {v:Value} {x:AV} {k:AV→Prop} (r:RepV O β S w v x) (h:resV V.bv x k) :
  ∃ y,k y∧RepW O (fun _=>none) S' w v y:=by
 cases x with
 | c c =>
  simp only [resV] at h
  cases hp:isP c with
  | true =>
   rw [hp] at h;simp only [cond_true] at h;obtain ⟨d,h1,h2⟩:=frzK_rep (fl:=true) (S':=S') hs (fun h b hb=>by
    obtain ⟨X,q1,q2,_⟩:=C.bl h b hb
    exact ⟨X,q1,q2,fun _=>hS h b hb⟩) 6 c _ v r h
   exact ⟨_,h1,Rep0.toC h2⟩
  | false =>
   rw [hp] at h
   exact ⟨_,h,Rep0.toC (Rep0.evo (Evo.refl _ _ _) hs _ _ (RepC.to0 r hp))⟩
 | g cs =>
  simp only [resV,allK_iff] at h;obtain ⟨hn,h⟩:=cond_ff h;obtain ⟨vs,e,r⟩:=r
  exact ⟨_,h,vs,e,RepCs.evo (Evo.refl _ _ _) hs (fun _ _ h=>by cases h) (R0s.toC (β:=fun _=>none) (r.to0 hn))⟩
 | t _=>exact h.elim
 | j=>exact h.elim
theorem resK_run (TK:TyOK P O T) {β:Nat→Option Nat} {S S':Nat→Prop} {V:View} {a:Act} {w:World} (C:Corr O n w0 β S V a w) (hs:∀ b,S b→S' b) (hS:∀ h b,β h=some b→S' b):∀ (rs:List ResultVar) (k:List AV→Prop),resK T V rs k →
  ∃ vs l,(rs.mapM (readR a.tmps)).run P w=.ok vs w∧All2 (RepW O (fun _=>none) S' w) vs l∧k l
 | [],k,h=>⟨[],[],rfl,trivial,h⟩
 | .tmp t :: r,k,h=>by
  simp only [resK] at h;obtain ⟨x,h,hx⟩:=resV_rep C hs hS (C.tm t) h;obtain ⟨vs,l,h1,h2,h3⟩:=resK_run TK C hs hS r _ h;refine ⟨a.tmps.getD t undef :: vs,x :: l,?_,⟨hx,h2⟩,h3⟩;rw [List.mapM_cons,Sem.run_bind]
  show Result.andThen (Result.ok _ w) _=_
  rw [Result.andThen_ok,Sem.run_bind,h1];rfl
 | .cell x t :: r,k,h=>by
  simp only [resK] at h;have hr:=C.tm x
  cases ht:T t with
  | none=>simp only [ht] at h
  | some ty =>
   simp only [ht] at h
   split at h
   ·rename_i g off hv
    rw [hv] at hr;obtain ⟨b,hb,e'⟩:=hr;obtain ⟨X,q1,q2,_⟩:=C.bl g b hb;simp only [q1] at h
    split at h
    ·rename_i U cs hc
     obtain ⟨vs,ts,g1,g2,_⟩:=q2.toCells hc;obtain ⟨v,y,l1,l2,l3,l4,l5⟩:=load_rep (β:=β) TK ht (b:=b) (off:=off) (vs:=vs.drop off) (fun j v hj=>by
      rw [List.getElem?_drop] at hj;have hl:=(List.getElem?_eq_some_iff.1 hj).1;simp only [World.cell?,g1]
      simpa [List.getElem?_append_left hl] using hj) (All2.drop off g2) h
     obtain ⟨z,l3,hz⟩:=resV_rep C hs hS (l2.toV l5) l3;obtain ⟨us,l,h1,h2,h3⟩:=resK_run TK C hs hS r _ l3;refine ⟨v :: us,z :: l,?_,⟨hz,h2⟩,h3⟩;have hl:(loadVar t ⟨b,off,none⟩).run P w=.ok v w:=by
      simpa only [Instr.loadAt,Instr.sureAddr,Sem.run_bind,Sem.run_pure,Result.andThen_ok] using l1
     rw [List.mapM_cons,Sem.run_bind];unfold readR;rw [Sem.run_bind,e']
     show Result.andThen (Result.andThen (Result.ok _ w) _) _=_
     rw [Result.andThen_ok,hl,Result.andThen_ok,Sem.run_bind];have h1':=h1;unfold readR at h1';rw [h1'];rfl
    ·exact h.elim
   ·exact h.elim
theorem results_run {fn:Func} {a:Act} {w:World} {us:List Value} (h1:(fn.results.toList.mapM (readR a.tmps)).run P w=.ok us w) :
  (results fn a.tmps).run P w=.ok (if h:us.toArray.size=1 then us.toArray[0] else .tuple us.toArray) w:=by
 have e0:results fn a.tmps=(fn.results.mapM (readR a.tmps) >>= fun vs=>pure (if h:vs.size=1 then vs[0] else .tuple vs)):=by
  have:(fun x:ResultVar=>(match x with | .tmp t=>pure (a.tmps.getD t undef) | .cell b t=>do loadVar t (←asAddr (a.tmps.getD b undef)):Sem Value))=readR a.tmps:=by funext x;cases x<;>rfl
  rw [←this];rfl
 rw [e0,Array.mapM_eq_mapM_toList,Sem.run_bind]
 have:∀ (m:Sem (List Value)),m.run P w=.ok us w→(List.toArray <$> m).run P w=.ok us.toArray w:=by
  intro m hm'
  rw [←bind_pure_comp,Sem.run_bind,hm'];rfl
 rw [this _ h1];rfl
theorem init_tm {β:Nat→Option Nat} {S:Nat→Prop} {w:World} {vs:List Value} {args:List AV} (hvs:All2 (RepW O β S w) vs args) (ha:∀ l,AV.t l ∉ args) (m i:Nat) (_:args.length≤m) :
  RepV O β S w ((vs.toArray++Array.replicate (m-vs.toArray.size) undef).getD i undef) (args.getD i (.t [])):=by
 have hlen:=hvs.len
 rcases Nat.lt_or_ge i args.length with hi | hi
 ·have hx:args[i]?=some args[i]:=List.getElem?_eq_getElem hi;obtain ⟨v,hv,rv⟩:=hvs.get i _ hx;have e1:(vs.toArray++Array.replicate (m-vs.toArray.size) undef).getD i undef=v:=by
   rw [Array.getD_eq_getD_getElem?,Array.getElem?_append_left (by simp;omega)]
   simp [hv]
  have e2:args.getD i (.t [])=args[i]:=by rw [List.getD_eq_getElem?_getD,hx];rfl
  rw [e1,e2]
  exact rv.toV (fun l hl'=>ha l (hl' ▸ List.getElem_mem hi))
 ·have e1:(vs.toArray++Array.replicate (m-vs.toArray.size) undef).getD i undef=undef:=by
   rw [Array.getD_eq_getD_getElem?,Array.getElem?_append_right (by simp;omega)]
   cases hq:(Array.replicate (m-vs.toArray.size) undef)[i-vs.toArray.size]? with
   | none=>rfl
   | some y =>
    have:=Array.getElem?_eq_some_iff.1 hq
    obtain ⟨_,e⟩:=this
    simp at e;rw [←e];rfl
  have e2:args.getD i (.t [])=.t []:=by rw [List.getD_eq_getElem?_getD,List.getElem?_eq_none hi];rfl
  rw [e1,e2]
  exact ⟨[],rfl,trivial⟩
theorem noPA_t {args:List AV} (h:args.all noPA=true):∀ l,AV.t l ∉ args:=fun l hl=>by
 have:=(List.all_eq_true.1 h) _ hl
 cases this
def markV (V:View) (k:View→Prop):Prop:=match V.df with
 | []=>k V
 | [.p g 0]=>match V.bv g with
  | some (.z (.deferred (some [])))=>k ⟨V.tv,upd V.bv g (some (.z (.deferred none))),V.sv,V.df⟩
  | _=>False
 | _=>False
def markN (nd:Bool) (V:View) (k:View→Prop):Prop:=match nd with
 | true=>k V
 | false=>markV V k
theorem markV_out {V:View} {k:View→Prop} (h:markV V k):(V.df=[]∧k V)∨∃ g,V.df=[.p g 0]∧V.bv g=some (.z (.deferred (some [])))∧k ⟨V.tv,upd V.bv g (some (.z (.deferred none))),V.sv,V.df⟩:=by
 unfold markV at h
 split at h
 ·rename_i e;exact .inl ⟨e,h⟩
 ·rename_i g e
  split at h
  ·rename_i eb;exact .inr ⟨g,e,eb,h⟩
  ·exact h.elim
 ·exact h.elim
def codeK (nd:Bool) (B:Bxs) (m:Nat) (c:Code):Bool:=codeB B m c&&kindB nd c
theorem codeK_out {nd:Bool} {m:Nat} {c:Code} {B:Bxs} (h:codeK nd B m c=true):codeB B m c=true∧kindB nd c=true:=by simpa [codeK] using h
theorem fn_core (B:Bxs) (TK:TyOK P O T) (hm:P.follows .mixedOrders=true) {H:Hnd} (HK:HOK P O H w0) {k:FuncId} {fn:Func} {c:Code} (hf:P.funcs[k]?=some fn) (hb:fn.body=some c) (hc:codeB B fn.ntmps c=true) (hkd:kindB w0.nd c=true)
  {vs:List Value} {w:World} {β:Nat→Option Nat} {S:Nat→Prop} {V:View} (C:Corr O fn.ntmps w0 β S V { tmps:=vs.toArray++Array.replicate (fn.ntmps-vs.toArray.size) undef,defers:=[] } w)
  {Kf:View→Prop} (h:ev P O T H B c V fun e V=>match e with
   | .normal=>markN w0.nd V Kf
   | .ret=>markN w0.nd V Kf
   | _=>False) {R:Ending→World→Prop}
  (fin:∀ V a w' β' S',Kf V→Corr O fn.ntmps w0 β' S' V a w'→∃ us,(fn.results.toList.mapM (readR a.tmps)).run P w'=.ok us w'∧R (.returned (if h:us.toArray.size=1 then us.toArray[0] else .tuple us.toArray)) w'):Calls P k vs.toArray w R:=by
 refine (callsIn_wide (n:=0)).1 ?_;refine callsIn_of_wp_marks hf hb trivial ?_
 show c.wpIn (Fr none) 0 P _ _ w
 refine ev_sound TK hm c HK hc hkd (.inr rfl) C h fun e V a w' β' S' hk C' => ?_;have go:markN w0.nd V Kf→LeavesInM Fence.wide 0 P fn a.tmps R a.defers .returning w':=fun hk=>by
  rcases C'.su.df with ⟨hnd,hd⟩ | ⟨hnd,hd⟩
  ·rw [hd];rw [hnd] at hk;obtain ⟨us,h1,h2⟩:=fin V a w' β' S' hk C'
   exact ⟨_,results_run h1,h2⟩
  ·rw [hnd] at hk
   rcases markV_out hk with ⟨h1,hk⟩ | ⟨g,h1,h2,hk⟩
   ·rw [h1] at hd;have hd:a.defers=[]:=by
     cases hq:a.defers with
     | nil=>rfl
     | cons _ _=>rw [hq] at hd;exact hd.elim
    rw [hd];obtain ⟨us,h1,h2⟩:=fin V a w' β' S' hk C'
    exact ⟨_,results_run h1,h2⟩
   ·rw [h1] at hd;obtain ⟨d,hds,e1⟩:∃ d,a.defers=[d]∧∃ D,d = { target:=.collected D,args:=#[] }∧RepC O β' S' w' (.pointer (some ⟨D,0,none⟩)) (.p g 0):=by
     cases hq:a.defers with
     | nil=>rw [hq] at hd;exact hd.elim
     | cons d l =>
      rw [hq] at hd
      cases l with
      | nil=>exact ⟨d,rfl,hd.1⟩
      | cons _ _=>exact hd.2.elim
    obtain ⟨D,ed,hD⟩:=e1;obtain ⟨b,hb',eb⟩:=hD;have eb:D=b:=by cases eb;rfl
    subst eb;have hrec:=C'.recd hb' h2;have C3:=C'.chgM (X:=.z (.deferred none)) (o':=.deferred none) hb' hrec rfl (fun ⟨_,_,e⟩=>by cases e) (heap_setBlock _ hrec);rw [hds,ed];obtain ⟨us,h1,h2⟩:=fin _ a _ β' S' hk C3
    exact ⟨(fun h=>by cases h),.inl ⟨D,_,rfl,run_takeDeferred hrec,_,results_run h1,h2⟩⟩
 cases e with
 | normal=>exact go hk
 | ret=>exact go hk
 | exit _=>exact hk
 | goto _=>exact hk
 | panic _=>exact hk.elim
 | outgrown=>exact hk.elim
theorem argC {S:Nat→Prop} {w:World} {vs:List Value} {args:List AV} (hS:∀ b,S b→b<w.heap.size) (hI:O.inv w) (hvs:All2 (RepW O (fun _=>none) S w) vs args) {m:Nat} (hl:args.length≤m) (hm:m≤1000) (ha:args.all noPA=true) (nd:Bool:=true) :
  Corr O m ⟨w,S,none,[],nd⟩ (fun _=>none) S (argV args) { tmps:=vs.toArray++Array.replicate (m-vs.toArray.size) undef,defers:=[] } w:=by
 have hlen:=hvs.len
 exact ⟨fun i=>init_tm hvs (noPA_t ha) m i hl,(by simp;omega),fun h b hb=>(by cases hb),fun h hs=>(by cases hs),fun _ _ _ hb=>(by cases hb),hS,⟨w,rfl,Below.refl _ _⟩,fun b hb=>.inl hb,hI,fun _ h=>(by cases h),hm,⟨trivial,by
  cases nd with
  | true=>exact .inl ⟨rfl,rfl⟩
  | false=>exact .inr ⟨rfl,trivial⟩⟩⟩
theorem joinR_rep {S:Nat→Prop} {w:World} {us:List Value} {l:List AV} {r:AV} (h:All2 (RepW O (fun _=>none) S w) us l) (e:joinR l=r):RepV O (fun _=>none) S w (if h:us.toArray.size=1 then us.toArray[0] else .tuple us.toArray) r:=by
 cases us with
 | nil =>
  cases l with
  | nil=>rw [←e];exact ⟨[],rfl,trivial⟩
  | cons _ _=>exact h.elim
 | cons u us =>
  cases l with
  | nil=>exact h.elim
  | cons x l =>
   cases us with
   | nil =>
    cases l with
    | cons _ _=>exact h.2.elim
    | nil =>
     have e:x=r:=e;subst e
     exact h.1.toV (fun l hl=>by rw [hl] at h;exact h.1.elim)
   | cons u' us =>
    cases l with
    | nil=>exact h.2.elim
    | cons x' l =>
     have e:AV.t (x :: x' :: l)=r:=e;subst e
     have:¬ (u :: u' :: us).toArray.size=1:=by simp
     rw [dif_neg this]
     exact ⟨_,rfl,h⟩
theorem fn_callB (B:Bxs) (TK:TyOK P O T) (hm:P.follows .mixedOrders=true) {k:FuncId} {fn:Func} {c:Code} (hf:P.funcs[k]?=some fn) (hb:fn.body=some c) (hn:(fn.name == "runtime.NumGoroutine")=false)
  {args:List AV} (hl:(Nat.ble args.length fn.ntmps&&Nat.ble fn.ntmps 1000)=true) (hc:codeK true B fn.ntmps c=true) {r:AV} (hr:noPV r=true) (ha:args.all noPA=true)
  (h:ev P O T H0 B c (argV args) fun e V=>match e with
   | .normal=>resK T V fn.results.toList fun l=>joinR l=r
   | .ret=>resK T V fn.results.toList fun l=>joinR l=r
   | _=>False):Cal P O k args r:=by
 simp only [Bool.and_eq_true,Nat.ble_eq] at hl;refine ⟨⟨fn,hf,hn,by rw [hb];rfl⟩,hr,fun S w vs hS hI hvs => ?_⟩;refine fn_core (Kf:=fun V=>resK T V fn.results.toList fun l=>joinR l=r) B TK hm (HOK.h0 _) hf hb (codeK_out hc).1 (codeK_out hc).2 (argC hS hI hvs hl.1 hl.2 ha) h fun V a w' β' S' hk C' => ?_;obtain ⟨us,l,h1,h2,h3⟩:=resK_run TK C' (S':=fun b=>S b∨(w.heap.size≤b∧b<w'.heap.size)) (fun b hb=>(C'.sb b hb).imp id fun h=>⟨h,C'.sl b hb⟩) (fun h b hb=>by
  obtain ⟨X,_,q2,q3,_⟩:=C'.bl h b hb
  rcases q3 with q3 | q3
  ·exact .inr ⟨q3,q2.lt⟩
  ·cases q3) _ _ hk
 obtain ⟨w1,e,hx⟩:=C'.ex;have e:w1=w:=e;subst e
 exact ⟨us,h1,_,rfl,hx,joinR_rep h2 h3⟩
theorem fn_call (TK:TyOK P O T) (hm:P.follows .mixedOrders=true) {k:FuncId} {fn:Func} {c:Code} (hf:P.funcs[k]?=some fn) (hb:fn.body=some c) (hn:(fn.name == "runtime.NumGoroutine")=false)
  {args:List AV} (hl:(Nat.ble args.length fn.ntmps&&Nat.ble fn.ntmps 1000)=true) (hc:codeK true [] fn.ntmps c=true) {r:AV} (hr:noPV r=true) (ha:args.all noPA=true)
  (h:ev P O T H0 [] c (argV args) fun e V=>match e with
   | .normal=>resK T V fn.results.toList fun l=>joinR l=r
   | .ret=>resK T V fn.results.toList fun l=>joinR l=r
   | _=>False):Cal P O k args r:=fn_callB [] TK hm hf hb hn hl hc hr ha h
def resS (V:View) (rs:List ResultVar) (Y:AC→Option Bx→Prop):Prop:=match rs with
 | [.tmp t]=>match V.tv t with
  | .c (.os h n wd)=>Y (.os 0 n wd) (V.bv h)
  | _=>False
 | _=>False
theorem fn_callS (B:Bxs) (TK:TyOK P O T) (hm:P.follows .mixedOrders=true) {k:FuncId} {fn:Func} {c:Code} (hf:P.funcs[k]?=some fn) (hb:fn.body=some c) (hn:(fn.name == "runtime.NumGoroutine")=false)
  {args:List AV} (hl:(Nat.ble args.length fn.ntmps&&Nat.ble fn.ntmps 1000)=true) (hc:codeK true B fn.ntmps c=true) {n wd:Nat} {U:TypeId} {cs:List AC} (hfl:∀ c∈cs,flatC c=true) (hU:O.box U=true) (ha:args.all noPA=true)
  (h:ev P O T H0 B c (argV args) fun e V=>match e with
   | .normal=>resS V fn.results.toList fun y X=>y=.os 0 n wd∧X=some (.r U wd cs)
   | .ret=>resS V fn.results.toList fun y X=>y=.os 0 n wd∧X=some (.r U wd cs)
   | _=>False):CalS P O k args n wd U cs:=by
 simp only [Bool.and_eq_true,Nat.ble_eq] at hl;refine ⟨⟨fn,hf,hn,by rw [hb];rfl⟩,hU,hfl,fun S w vs hS hI hvs => ?_⟩;refine fn_core (Kf:=fun V=>resS V fn.results.toList fun y X=>y=.os 0 n wd∧X=some (.r U wd cs)) B TK hm (HOK.h0 _) hf hb (codeK_out hc).1 (codeK_out hc).2 (argC hS hI hvs hl.1 hl.2 ha) h fun V a w' β' S' hk C' => ?_;unfold resS at hk
 split at hk
 ·rename_i t er
  split at hk
  ·rename_i g m wd' hv
   obtain ⟨e1,hX⟩:=hk
   cases e1
   have hr:=C'.tm t;rw [hv] at hr;obtain ⟨b,cap,c0,U0,hb',ex,h0,hsz,hmx,hnc⟩:=hr;obtain ⟨Y,q1,q2,q3,q4⟩:=C'.bl g b hb';rw [hX] at q1;cases q1;obtain ⟨us,ts,g1,g2,g3⟩:=q2;rw [h0] at g1;cases g1;obtain ⟨w1,e,hx⟩:=C'.ex;have e:w1=w:=e;subst e;have hbn:w1.heap.size≤b:=by
    rcases q3 with q3 | q3
    ·exact q3
    ·cases q3
   have flat:∀ {us:List Value} {cs:List AC},(∀ c∈cs,flatC c=true)→RepCs O β' S' w' us cs→All2 (fun x c=>Rep0 O (fun _=>False) w' c x) us cs:=by
    intro us
    induction us with
    | nil=>intro cs _ r;cases cs with
     | nil=>trivial
     | cons _ _=>exact r.elim
    | cons u us ih=>intro cs hf r;cases cs with
     | nil=>exact r.elim
     | cons c cs =>
      refine ⟨?_,ih (fun c hc=>hf c (by simp [hc])) r.2⟩;have h1:=hf c (by simp);have r1:=r.1
      cases c with
      | v y=>exact r1
      | o k n=>exact r1
      | _=>cases h1
   refine ⟨[.slice (some ⟨b,0,none⟩) n cap],?_,b,cap,us,ts,rfl,hx,hbn,h0,flat hfl g2,by simpa using hsz,hmx,hnc⟩;rw [er,List.mapM_cons,Sem.run_bind]
   show Result.andThen (Result.ok _ w') _=_
   rw [Result.andThen_ok,ex];rfl
  ·exact hk.elim
 ·exact hk.elim
end
end Go.Proofs.YtoaoebimjmjpeaaGreatDoor
