/- exact: what the numbers' functions return, in the words of reckoning. -/
import Derived.Test.YtoaoebimjmjpeaaGreatDoorT25
import Derived.Test.YtoaoebimjmjpeaaGreatDoorT30
namespace Go.Proofs.YtoaoebimjmjpeaaGreatDoor
open Go.RowKit Vn
set_option maxRecDepth 100000
set_option maxHeartbeats 8000000
theorem rep_t {y:Value} {q:Rat} (h1:y.oneCell'=true) {w:World} {v:Value} (h:∃ x,v=.tuple #[x,y]∧NumV w x q):∀ S,RepV OQ (fun _=>none) S w v (.t [nA q,.c (.v y)]):=by
 intro S
 obtain ⟨x,rfl,h⟩:=h
 exact ⟨[x,y],rfl,numA_of h,⟨rfl,h1⟩,trivial⟩
section
variable {q r:Rat} {K:Nat}
theorem cMul (sx:SmQ K q) (sy:SmQ K r) (hK:K≤20000000):Cal Tryz.prog OQ 200 [nA q,nA r] (nA (q*r)) :=
 cal2 (by kernel_rfl) rfl rep_num fun x y w _ hx hy=>Mul_c x y q r K w hx hy sx sy hK
theorem cAdd (sx:SmQ K q) (sy:SmQ K r) (hK:K≤20000000):Cal Tryz.prog OQ 47 [nA q,nA r] (nA (q+r)) :=
 cal2 (by kernel_rfl) rfl rep_num fun x y w _ hx hy=>Add_c x y q r K w hx hy sx sy hK
theorem cSub (sx:SmQ K q) (sy:SmQ K r) (hK:K≤20000000):Cal Tryz.prog OQ 77 [nA q,nA r] (nA (q-r)) :=
 cal2 (by kernel_rfl) rfl rep_num fun x y w _ hx hy=>Sub_c x y q r K w hx hy sx sy hK
theorem cCmp (sx:SmQ K q) (sy:SmQ K r) (hK:K≤20000000):Cal Tryz.prog OQ 13 [nA q,nA r] (iA (cmpQ q r)) :=
 cal2 (R:=fun _ v=>v=.int .i64 (cmpQ q r)) (by kernel_rfl) rfl (rep_sc rfl) fun x y w _ hx hy=>(Cmp_c x y q r K w hx hy sx sy hK).mono fun _ _ ⟨h1,h2⟩=>⟨_,h1,rfl,h2⟩
theorem cQuo (sx:SmQ K q) (sy:SmQ K r) (hK:K≤20000000) (hr:r≠0):Cal Tryz.prog OQ 215 [nA q,nA r] (.t [nA (q/r),iA 0]) :=
 cal2 (by kernel_rfl) rfl (rep_t rfl) fun x y w _ hx hy=>(quo_some x y q r K w hx hy sx sy hK hr).mono fun _ _ ⟨v,h1,h2,h3⟩=>⟨_,h1,⟨v,rfl,h2⟩,h3⟩
theorem cSign:Cal Tryz.prog OQ 17 [nA q] (iA q.num.sign) :=
 cal1 (R:=fun _ v=>v=.int .i64 q.num.sign) (by kernel_rfl) rfl (rep_sc rfl) fun x w _ hx=>(sign_c x q w hx).mono fun _ _ ⟨h1,h2⟩=>⟨_,h1,rfl,h2⟩
theorem cIsInt:Cal Tryz.prog OQ 182 [nA q] (bA (decide (q.den=1))) :=
 cal1 (R:=fun _ v=>v=.bool (decide (q.den=1))) (by kernel_rfl) rfl (rep_sc rfl) fun x w _ hx=>(isInt_c x q w hx).mono fun _ _ ⟨h1,h2⟩=>⟨_,h1,rfl,h2⟩
theorem cAbs:Cal Tryz.prog OQ 78 [nA q] (nA (absQ q)) :=
 cal1 (by kernel_rfl) rfl rep_num fun x w _ hx=>abs_c x q w hx
theorem cNeg:Cal Tryz.prog OQ 85 [nA q] (nA (-q)) :=
 cal1 (by kernel_rfl) rfl rep_num fun x w _ hx=>neg_c x q w hx
theorem cFloor (sx:SmQ K q) (hK:K≤20000000):Cal Tryz.prog OQ 80 [nA q] (nA ((q.floor:Int):Rat)) :=
 cal1 (by kernel_rfl) rfl rep_num fun x w _ hx=>Floor_c x q K w hx sx hK
theorem cShift {k:Int} (sx:SmQ K q) (h0 : -20000≤k) (h1:k≤20000) (hK:K≤20000000):Cal Tryz.prog OQ 79 [nA q,iA k] (.t [nA (q*(2:Rat)^k),iA 0]) :=
 cal1i (by kernel_rfl) rfl (rep_t rfl) fun x w _ hx=>(Shift_c x q K k w hx sx h0 h1 hK).mono fun _ _ ⟨v,h1,h2,h3⟩=>⟨_,h1,⟨v,rfl,h2⟩,h3⟩
theorem cInt {n:Int} (h0 : -9223372036854775808≤n) (h1:n<9223372036854775808):Cal Tryz.prog OQ 49 [iA n] (nA (n:Rat)) :=
 cali (zs:=[.int .i64 n]) (by kernel_rfl) rfl rep_num fun w _=>Int_c n w h0 h1
theorem cText (sx:SmQ K q) (hK:K≤1000000):Cal Tryz.prog OQ 21 [nA q] (.c (.v (.string (numText q)))) :=
 cal1 (R:=fun _ v=>v=.string (numText q)) (by kernel_rfl) rfl (rep_sc rfl) fun x w hi hx=>(Text_c x q K w hx sx hK hi.2).mono fun _ _ ⟨h1,h2⟩=>⟨_,h1,rfl,h2⟩
end
theorem dF {p:Prop} [Decidable p] (h:¬ p):decide p=false:=decide_eq_false h
theorem dT {p:Prop} [Decidable p] (h:p):decide p=true:=decide_eq_true h
def lgQ (q:Rat):Int:=if (absQ q).num.natAbs*2^(max (-((bl (absQ q).num.natAbs:Int)-bl (absQ q).den)) 0).toNat<(absQ q).den*2^(max ((bl (absQ q).num.natAbs:Int)-bl (absQ q).den) 0).toNat then (bl (absQ q).num.natAbs:Int)-bl (absQ q).den-1 else (bl (absQ q).num.natAbs:Int)-bl (absQ q).den
theorem lg_is {q:Rat} (h:q≠0):IsLog (absQ q) (lgQ q):=log_is (absQ_num_pos (fun e=>h (Rat.num_eq_zero.1 e))) _ rfl
inductive Arg where
 | s (v:Value)
 | m (vs:List Value)
 | n (q:Rat)
 | r (q:Rat)
 | op (k:Int) (neg:Bool) (q:Rat)
def wdC (n:Nat):List AC:=[.v (.int .u64 ((n/18446744073709551616:Nat):Int)),.v (.int .u64 ((n%18446744073709551616:Nat):Int))]
abbrev wA (n:Nat):AV:=.g (wdC n)
abbrev fA (E P:Int):AV:=.g [.v (.int .i64 E),.v (.int .i64 P)]
abbrev mA (E P m b:Int):AV:=.g [.v (.int .i64 E),.v (.int .i64 P),.v (.int .i64 m),.v (.int .i64 b)]
def opC (k:Int) (neg:Bool) (q:Rat):List AC:=.v (.int .i64 k) :: .v (.bool neg) :: numA q
abbrev oA (k:Int) (neg:Bool) (q:Rat):AV:=.g (opC k neg q)
def Arg.av:Arg→AV
 | .s v=>.c (.v v)
 | .m vs=>.g (vs.map AC.v)
 | .n q=>nA q
 | .r q=>rA q
 | .op k neg q=>oA k neg q
abbrev Arg.w (n:Nat):Arg:=.m [.int .u64 ((n/18446744073709551616:Nat):Int),.int .u64 ((n%18446744073709551616:Nat):Int)]
abbrev Arg.mc (E P m b:Int):Arg:=.m [.int .i64 E,.int .i64 P,.int .i64 m,.int .i64 b]
def RepA (w:World) (x:Value):Arg→Prop
 | .s v=>x=v
 | .m vs=>x=.agg vs.toArray
 | .n q=>NumV w x q
 | .r q=>RNumV w x q
 | .op k neg q=>∃ (ng:Bool) (a:Option Addr) (n c:Nat) (a':Option Addr) (n' c':Nat),x=.agg #[.int .i64 k,.bool neg,.bool ng,.slice a n c,.slice a' n' c']∧NumV w (.agg #[.bool ng,.slice a n c,.slice a' n' c']) q
def Arg.ok:Arg→Bool
 | .s v=>v.oneCell'
 | .m vs=>vs.all (·.oneCell')
 | _=>true
section
variable {S:Nat→Prop} {w:World}
theorem scs_of:∀ {vs zs:List Value},RepCs OQ (fun _=>none) S w vs (zs.map AC.v)→vs=zs
 | [],[],_=>rfl
 | [],_ :: _,h=>h.elim
 | _ :: _,[],h=>h.elim
 | v :: vs,z :: zs,h=>by
  have h1:=h.1;have h1:v=z:=h1.1;rw [h1,scs_of (zs:=zs) h.2]
theorem of_scs:∀ {zs:List Value},(zs.all (·.oneCell'))=true→RepCs OQ (fun _=>none) S w zs (zs.map AC.v)
 | [],_=>trivial
 | z :: zs,h=>by
  simp only [List.all_cons,Bool.and_eq_true] at h
  exact ⟨Rep0.toC (Rep0.v' rfl h.1),of_scs h.2⟩
theorem repA_of {x:Value} {a:Arg} (h:RepW OQ (fun _=>none) S w x a.av):RepA w x a:=by
 cases a with
 | s v=>exact h.1
 | m vs=>obtain ⟨us,rfl,h⟩:=h;rw [scs_of h];rfl
 | n q=>exact num_of h
 | r q=>exact rnum_of h
 | op k neg q =>
  obtain ⟨us,rfl,h⟩:=h
  match us,h with
  | v1 :: v2 :: us,h =>
   obtain ⟨h1,h2,h3⟩:=h;simp only [RepC,Rep0] at h1 h2;have hn:NumV w (.agg us.toArray) q:=num_of (β:=fun _=>none) (S:=S) ⟨us,rfl,h3⟩;have hn':=hn;obtain ⟨a,n,c,a',n',c',e,_⟩:=hn';have e:us=_:=congrArg Array.toList (Value.agg.inj e);subst e;rw [h1.1,h2.1]
   exact ⟨_,a,n,c,a',n',c',rfl,hn⟩
theorem of_repA {x:Value} {a:Arg} (hk:a.ok=true) (h:RepA w x a):RepW OQ (fun _=>none) S w x a.av:=by
 cases a with
 | s v=>exact ⟨h,hk⟩
 | m vs=>exact ⟨vs,h,of_scs hk⟩
 | n q=>exact numA_of h
 | r q=>exact rnumA_of h
 | op k neg q =>
  obtain ⟨ng,a,n,c,a',n',c',rfl,h⟩:=h;obtain ⟨us,e,h⟩:=numA_of (β:=fun _=>none) (S:=S) h;have e:_=us:=congrArg Array.toList (Value.agg.inj e);subst e
  exact ⟨_,rfl,Rep0.toC (Rep0.v' rfl rfl),Rep0.toC (Rep0.v' rfl rfl),h⟩
end
theorem av_noT (a:Arg):(∀ l,a.av≠.t l)∧noPV a.av=true:=by
 cases a with
 | m vs=>exact ⟨by intro l h;simp [Arg.av] at h,(noPs_iff _).2 (fun c hc=>by
  obtain ⟨v,_,rfl⟩:=List.mem_map.1 hc;rfl)⟩
 | _=>exact ⟨by intro l h;simp [Arg.av] at h,rfl⟩
def Ret (r:Arg) (w:World) (e:Ending) (w':World):Prop:=∃ v,e=.returned v∧RepA w' v r∧Ext w w'
def Ret2 (r s:Arg) (w:World) (e:Ending) (w':World):Prop:=∃ u v,e=.returned (.tuple #[u,v])∧RepA w' u r∧RepA w' v s∧Ext w w'
theorem all2_args {S:Nat→Prop} {w:World}:∀ {vs:List Value} {args:List Arg},All2 (RepW OQ (fun _=>none) S w) vs (args.map Arg.av)→All2 (RepA w) vs args
 | [],[],_=>trivial
 | _ :: _,[],h=>h.elim
 | [],_ :: _,h=>h.elim
 | _ :: _,_ :: _,h=>⟨repA_of h.1,all2_args h.2⟩
theorem calA {P:Program} {k:FuncId} (args:List Arg) {r:Arg} (hb:bodyB P k=true) (hr:r.ok=true) (h:∀ w vs,OQ.inv w→All2 (RepA w) vs args→Calls P k vs.toArray w (Ret r w)):Cal P OQ k (args.map Arg.av) r.av :=
 cal_of hb (av_noT r).2 fun _ w vs hi hv=>(h w vs hi (all2_args hv)).mono fun _ _ ⟨v,h1,h2,h3⟩=>⟨v,h1,h3,fun _=>(of_repA hr h2).toV (av_noT r).1⟩
theorem calA2 {P:Program} {k:FuncId} (args:List Arg) {r s:Arg} (hb:bodyB P k=true) (hr:r.ok=true) (hs:s.ok=true) (h:∀ w vs,OQ.inv w→All2 (RepA w) vs args→Calls P k vs.toArray w (Ret2 r s w)):Cal P OQ k (args.map Arg.av) (.t [r.av,s.av]) :=
 cal_of hb (by
  have h1:=(av_noT r);have h2:=(av_noT s);have e1:=h1.2;have e2:=h2.2;rw [noPV,List.all_eq_true]
  intro x hx
  simp only [List.mem_cons,List.not_mem_nil,or_false] at hx
  rcases hx with rfl | rfl
  ·generalize r.av=y at e1 h1;cases y<;>first | exact e1 | exact absurd rfl (h1.1 _)
  ·generalize s.av=y at e2 h2;cases y<;>first | exact e2 | exact absurd rfl (h2.1 _)) fun _ w vs hi hv=>(h w vs hi (all2_args hv)).mono fun _ _ ⟨u,v,h1,h2,h3,h4⟩=>⟨_,h1,h4,fun _=>⟨[u,v],rfl,of_repA hr h2,of_repA hs h3,trivial⟩⟩
theorem one_arg {w:World} {vs:List Value} {a:Arg} (h:All2 (RepA w) vs [a]):∃ x,vs=[x]∧RepA w x a:=by
 match vs,h with
 | [x],h=>exact ⟨x,rfl,h.1⟩
theorem two_args {w:World} {vs:List Value} {a b:Arg} (h:All2 (RepA w) vs [a,b]):∃ x y,vs=[x,y]∧RepA w x a∧RepA w y b:=by
 match vs,h with
 | [x,y],h=>exact ⟨x,y,rfl,h.1,h.2.1⟩
def keysE (E:El):List Int:=E.map (·.1)
def valsE (E:El):List (List AC):=E.map fun p=>numA p.2
abbrev eC (E:El):AC:=.mp true (keysE E) (valsE E)
abbrev eX (E:El):Bx:=.m true (keysE E) (valsE E)
structure LS (f:Int×Rat→Int×Rat) (A0 x:El) where
 left:El
 acc:El
 cur:Option (Int×List AC)
 can:CanE acc
 tot:∀ i,getE acc i+totE f left i=getE A0 i+totE f x i
 mem:∀ p∈left,p∈x
 nod:(left.map fun p=>(f p).1).Nodup
 sub:∀ i,totE f left i=0∨totE f left i=totE f x i
def LS.start {f:Int×Rat→Int×Rat} {A0 x:El} (hc:CanE A0) (hn:(x.map fun p=>(f p).1).Nodup):LS f A0 x :=
 ⟨x,A0,none,hc,fun _=>rfl,fun _ h=>h,hn,fun _=>.inr rfl⟩
theorem tot_none {f:Int×Rat→Int×Rat}:∀ {L:El} {i:Int},i ∉ L.map (fun p=>(f p).1)→totE f L i=0
 | [],_,_=>rfl
 | p :: L,i,h=>by
  simp only [List.map_cons,List.mem_cons,not_or] at h;simp only [totE];rw [if_neg (fun e=>h.1 e.symm),tot_none h.2,Rat.add_zero]
theorem nodup_erase {f:Int×Rat→Int×Rat}:∀ {L:El} {i:Nat} {p:Int×Rat},L[i]?=some p→(L.map fun p=>(f p).1).Nodup→((L.eraseIdx i).map fun p=>(f p).1).Nodup∧(f p).1 ∉ (L.eraseIdx i).map fun p=>(f p).1
 | [],_,_,h,_=>by simp at h
 | x :: L,0,p,h,hn=>by
  simp at h;subst h
  simp only [List.map_cons,List.nodup_cons] at hn
  exact ⟨hn.2,hn.1⟩
 | x :: L,i+1,p,h,hn=>by
  have h:L[i]?=some p:=by simpa using h
  simp only [List.map_cons,List.nodup_cons] at hn;obtain ⟨h1,h2⟩:=nodup_erase h hn.2;have hp:(f p).1∈L.map fun p=>(f p).1:=List.mem_map.2 ⟨p,List.mem_of_getElem? h,rfl⟩;simp only [List.eraseIdx_cons_succ,List.map_cons,List.nodup_cons,List.mem_cons,not_or];refine ⟨⟨fun hm => ?_,h1⟩,fun e=>hn.1 (e ▸ hp),h2⟩;obtain ⟨q,hq,e⟩:=List.mem_map.1 hm
  exact hn.1 (e ▸ List.mem_map.2 ⟨q,List.mem_of_mem_eraseIdx hq,rfl⟩)
def LS.step {f:Int×Rat→Int×Rat} {A0 x:El} (s:LS f A0 x) {i:Nat} {p:Int×Rat} (hp:s.left[i]?=some p) (cur:Option (Int×List AC)):LS f A0 x :=
 ⟨s.left.eraseIdx i,withE s.acc (f p).1 (f p).2,cur,(s.can.with _ _).1,fun j=>by
  rw [(s.can.with _ _).2 j,←s.tot j,totE_erase f hp j,Rat.add_assoc],fun q hq=>s.mem q (List.mem_of_mem_eraseIdx hq),(nodup_erase hp s.nod).1,fun j=>by
  by_cases e:(f p).1=j
  ·exact .inl (tot_none (e ▸ (nodup_erase hp s.nod).2))
  ·have:=totE_erase f hp j
   rw [if_neg e,Rat.zero_add] at this;rw [←this];exact s.sub j⟩
theorem LS.sm {f:Int×Rat→Int×Rat} {A0 x:El} {M:Nat} (s:LS f A0 x) (hM:∀ i,SmQ M (getE A0 i)∧SmQ M (getE A0 i+totE f x i)) (i:Int):SmQ M (getE s.acc i):=by
 have:=s.tot i
 rcases s.sub i with h | h
 ·rw [h,Rat.add_zero] at this;rw [this];exact (hM i).2
 ·rw [h] at this
  have:getE s.acc i=getE A0 i:=by
   have e:=congrArg (fun q=>q + -(totE f x i)) this;simp only [Rat.add_assoc,Rat.add_neg_cancel,Rat.add_zero] at e
   exact e
  rw [this];exact (hM i).1
theorem LS.done {f:Int×Rat→Int×Rat} {A0 x:El} (s:LS f A0 x) (hA:CanE A0) (h:s.left=[]):s.acc=foldE f A0 x:=by
 refine CanE.ext s.can (CanE.fold f x hA).1 fun i => ?_
 have:=s.tot i
 rw [h] at this;simp only [totE,Rat.add_zero] at this;rw [this,(CanE.fold f x hA).2]
def SmB (K:Nat) (x:El):Prop:=∀ p∈x,SmQ K p.2
theorem SmB.get {K:Nat}:∀ {x:El},SmB K x→0<K→∀ i,SmQ K (getE x i)
 | [],_,hK,i=>SmQ.zero K hK
 | (k,q) :: x,h,hK,i=>by
  simp only [getE]
  by_cases e:k=i
  ·rw [if_pos e];exact h (k,q) (by simp)
  ·rw [if_neg e];exact SmB.get (fun p hp=>h p (by simp [hp])) hK i
theorem SmB.mono {K L:Nat} {x:El} (h:SmB K x) (hl:K≤L):SmB L x:=fun p hp=>(h p hp).mono hl

def andK (a b:Int):Int:=IntKind.i64.wrap (BitVec.ofInt IntKind.i64.bits a &&& BitVec.ofInt IntKind.i64.bits b).toNat
def shrK (a i:Int):Int:=a.fdiv (2^(min i.toNat IntKind.i64.bits))
def bitK (a i:Int):Bool:=andK (shrK a i) 1==1

def smqB (K:Nat) (q:Rat):Bool:=decide (q.num.natAbs<2^K)&&decide (q.den<2^K)
def smB (K:Nat) (x:El):Bool:=x.all fun p=>smqB K p.2
theorem smqB_ok {K:Nat} {q:Rat} (h:smqB K q=true):SmQ K q:=by
 simp only [smqB,Bool.and_eq_true,decide_eq_true_eq] at h
 exact ⟨h.1,h.2⟩
def totG (G:Int×Rat→El):El→Int→Rat
 | [],_=>0
 | p :: L,j=>getE (G p) j+totG G L j
theorem totG_erase (G:Int×Rat→El):∀ {L:El} {i:Nat} {p:Int×Rat},L[i]?=some p→∀ j,totG G L j=getE (G p) j+totG G (L.eraseIdx i) j
 | [],_,_,h,_=>by simp at h
 | x :: L,0,p,h,j=>by simp at h;subst h;rfl
 | x :: L,i+1,p,h,j=>by
  have h:L[i]?=some p:=by simpa using h
  simp only [List.eraseIdx_cons_succ,totG];rw [totG_erase G h j,←Rat.add_assoc,←Rat.add_assoc,Rat.add_comm (getE (G x) j)]
structure LM (G:Int×Rat→El) (A0 x:El) (L M:Nat) where
 left:El
 acc:El
 cur:Option (Int×List AC)
 can:CanE acc
 tot:∀ i,getE acc i+totG G left i=getE A0 i+totG G x i
 mem:∀ p∈left,p∈x
 len:left.length≤x.length
 sm:SmB ((x.length-left.length)*L+M) acc
def LM.start {G:Int×Rat→El} {A0 x:El} {L M:Nat} (hc:CanE A0) (hs:SmB M A0):LM G A0 x L M :=
 ⟨x,A0,none,hc,fun _=>rfl,fun _ h=>h,Nat.le_refl _,by rw [Nat.sub_self,Nat.zero_mul,Nat.zero_add];exact hs⟩
def LM.step {G:Int×Rat→El} {A0 x:El} {L M:Nat} (s:LM G A0 x L M) {i:Nat} {p:Int×Rat} (hp:s.left[i]?=some p) (cur:Option (Int×List AC)) (acc':El) (hc:CanE acc') (hg:∀ j,getE acc' j=getE s.acc j+getE (G p) j) (hs:SmB ((x.length-s.left.length)*L+M+L) acc'):LM G A0 x L M :=
 ⟨s.left.eraseIdx i,acc',cur,hc,fun j=>by rw [hg,←s.tot j,totG_erase G hp j,Rat.add_assoc],fun q hq=>s.mem q (List.mem_of_mem_eraseIdx hq),Nat.le_trans (List.length_eraseIdx_le _ _) s.len,by
  have hl:i<s.left.length:=(List.getElem?_eq_some_iff.1 hp).1
  have:=s.len
  rw [List.length_eraseIdx_of_lt hl,show x.length-(s.left.length-1)=(x.length-s.left.length)+1 by omega,Nat.add_mul,Nat.one_mul]
  exact hs.mono (by omega)⟩
theorem LM.done {G:Int×Rat→El} {A0 x:El} {L M:Nat} (s:LM G A0 x L M) (h:s.left=[]) (i:Int):getE s.acc i=getE A0 i+totG G x i:=by
 have:=s.tot i
 rw [h] at this
 simpa only [totG,Rat.add_zero] using this

abbrev pN (n:Nat):AV:=.c (.o 0 n)
section
variable {m n K:Nat} {q:Rat}
theorem exists_root:∀ n:Nat,∃ s,IsRoot n s
 | 0=>⟨0,by unfold IsRoot;decide⟩
 | n+1=>by
  obtain ⟨s,h1,h2⟩:=exists_root n
  by_cases h:n+1<(s+1)*(s+1)
  ·exact ⟨s,by omega,h⟩
  ·refine ⟨s+1,by omega,?_⟩
   have:(s+1+1)*(s+1+1)=(s+1)*(s+1)+2*s+3:=by grind
   omega
noncomputable def isq (n:Nat):Nat:=Classical.choose (exists_root n)
theorem isq_is (n:Nat):IsRoot n (isq n):=Classical.choose_spec (exists_root n)
theorem isq_eq {n s:Nat} (h:IsRoot n s):isq n=s:=(isq_is n).unique h
theorem isq_le (n:Nat):isq n≤n:=by
 have h1:=(isq_is n).1
 rcases Nat.eq_zero_or_pos (isq n) with h0 | h0
 ·omega
 ·exact Nat.le_trans (Nat.le_mul_of_pos_left _ h0) h1
theorem isq_sm (h:Sm K n):Sm K (isq n):=Nat.lt_of_le_of_lt (isq_le n) h
theorem cal_n1 {P:Program} {k:FuncId} {n r:Nat} (hb:bodyB P k=true) (h:∀ x w,NatV w x n→Calls P k #[x] w fun e w'=>∃ v,e=.returned v∧NatV w' v r∧Ext w w'):Cal P OQ k [pN n] (pN r) :=
 cal_of hb rfl fun _ w vs _ hv=>match vs,hv with
  | [x],hv=>(h x w hv.1).mono fun _ _ ⟨v,h1,h2,h3⟩=>⟨v,h1,h3,fun _=>h2⟩
theorem cNatRoot (sx:Sm K n) (hK:K≤40000000) (h0:0<n):Cal Tryz.prog OQ 329 [pN n] (pN (isq n)) :=
 cal_n1 (by kernel_rfl) fun x w hx=>(root_c x n K w hx sx hK h0).mono fun _ _ ⟨_,_,_,s,h1,h2,h3,h4⟩=>⟨_,h1,by rw [isq_eq h3];exact h2,h4⟩
theorem cOf {n:Nat} (hn:n<18446744073709551616):Cal Tryz.prog OQ 117 [.c (.v (.int .u64 (n:Nat)))] (pN n) :=
 cal_of (by kernel_rfl) rfl fun _ w vs _ hv=>match vs,hv with
  | [x],hv=>by
   have e:=sc_of hv.1;subst e
   exact (of_c n w (by omega) (by omega)).mono fun _ _ ⟨_,_,_,h1,h2,h3⟩=>⟨_,h1,h3,fun _=>h2⟩
theorem cMade {neg:Bool} {P Q:Nat} (sx:Sm K P) (sy:Sm K Q) (hK:K≤50000000) (hQ:0<Q):Cal Tryz.prog OQ 114 [bA neg,pN P,pN Q] (nA (mkq neg P Q)) :=
 cal_of (by kernel_rfl) rfl fun _ w vs _ hv=>match vs,hv with
  | [x,y,z],hv=>by
   have e:=sc_of hv.1;subst e
   exact (made_c neg y z P Q K w hv.2.1 hv.2.2.1 sx sy hK hQ).mono fun _ _ ⟨v,h1,h2,h3⟩=>⟨v,h1,h3,rep_num h2⟩
theorem cNlog (sx:SmQ K q) (hK:K≤10000000) (h:q≠0):Cal Tryz.prog OQ 109 [nA q] (iA (lgQ q)) :=
 cal1 (R:=fun _ v=>v=.int .i64 (lgQ q)) (by kernel_rfl) rfl (rep_sc rfl) fun x w _ hx=>(logA_c x q K w hx sx hK (fun e=>h (Rat.num_eq_zero.1 e))).mono fun _ _ ⟨k,h1,h2,h3⟩=>⟨_,h1,by rw [(lg_is h).unique h2],h3⟩
theorem cShifted {k:Int} (sx:SmQ K q) (h0 : -1000000≤k) (h1:k≤1000000) (hK:K≤20000000):Cal Tryz.prog OQ 170 [nA q,iA k] (nA (q*(2:Rat)^k)) :=
 cal1i (by kernel_rfl) rfl rep_num fun x w _ hx=>(shifted_c x q K k w hx sx h0 h1 hK).mono fun _ _ ⟨v,h1,h2,h3⟩=>⟨v,h1,h2,h3⟩
theorem cWholeD (sx:SmQ K q) (hK:K≤20000000):Cal Tryz.prog OQ 171 [nA q,bA false] (nA (mkq (decide (q.num<0)) (q.num.natAbs/q.den) 1)) :=
 cal1i (by kernel_rfl) rfl rep_num fun x w _ hx=>(whole_down x q K w hx sx hK).mono fun _ _ ⟨v,h1,h2,h3⟩=>⟨v,h1,h2,h3⟩
end
def inR (b:Int):Int:=if (if 1>b then 1 else b)>4000 then 4000 else (if 1>b then 1 else b)
theorem inR_eq (b:Int):1≤inR b∧inR b≤4000:=by unfold inR;split<;>split<;>omega
theorem cInRange {b:Int}:Cal Tryz.prog OQ 328 [iA b] (iA (inR b)):=by
 refine fn_call TK MX Tryz.func328 rfl (by kernel_rfl) (by kernel_rfl) (by kernel_rfl) rfl rfl ?_
 conv=>whnf
 rfl
section
variable {K:Nat} {q r:Rat} {bits:Int}
def whQ (away:Bool) (q:Rat):Rat:=mkq (decide (q.num<0)) (if (away&&decide (q.num.natAbs%q.den≠0))=true then q.num.natAbs/q.den+1 else q.num.natAbs/q.den) 1
theorem cWhole {away:Bool} (sx:SmQ K q) (hK:K≤20000000):Cal Tryz.prog OQ 171 [nA q,bA away] (nA (whQ away q)):=by
 cases away with
 | false=>exact cWholeD sx hK
 | true =>
  by_cases h:q.num.natAbs%q.den=0
  ·have e:whQ true q=mkq (decide (q.num<0)) (q.num.natAbs/q.den) 1:=by simp [whQ,h]
   rw [e]
   exact cal1i (by kernel_rfl) rfl rep_num fun x w _ hx=>(whole_int x q K w hx sx hK h).mono fun _ _ ⟨v,h1,h2,h3⟩=>⟨v,h1,h2,h3⟩
  ·have e:whQ true q=mkq (decide (q.num<0)) (q.num.natAbs/q.den+1) 1:=by simp [whQ,h]
   rw [e]
   exact cal1i (by kernel_rfl) rfl rep_num fun x w _ hx=>(whole_up x q K w hx sx hK h).mono fun _ _ ⟨v,h1,h2,h3⟩=>⟨v,h1,h2,h3⟩
def gridK (bits:Int) (q:Rat):Int:=lgQ q-inR bits+1
def gridQ (bits:Int) (away:Bool) (q:Rat):Rat:=if q=0 then q else whQ away (q*(2:Rat)^(-gridK bits q))*(2:Rat)^(gridK bits q)
def dnQ (bits:Int) (q:Rat):Rat:=gridQ bits (decide (q.num<0)) q
def upQ (bits:Int) (q:Rat):Rat:=gridQ bits (!decide (q.num<0)) q
end
def isqGo (n:Nat):Nat→Nat→Nat
 | 0,s=>s
 | b+1,s=>isqGo n b (if (s+2^b)*(s+2^b)≤n then s+2^b else s)
def isqC (n:Nat):Nat:=isqGo n (bl n/2+1) 0
section
variable {K:Nat} {q:Rat} {bits:Int}
def rtKJ (bits:Int) (q:Rat):Int:=lgQ q/2-inR bits+1
def rtTJ (bits:Int) (q:Rat):Rat:=q*(2:Rat)^(-2*rtKJ bits q)
def rtNJ (bits:Int) (q:Rat):Nat:=(rtTJ bits q).num.natAbs/(rtTJ bits q).den
def rtM (up:Bool) (bits:Int) (q:Rat):Nat:=if (up&&(!decide ((rtTJ bits q).den=1)||decide (cmpN (isqC (rtNJ bits q)*isqC (rtNJ bits q)) (rtNJ bits q)<0)))=true then isqC (rtNJ bits q)+1 else isqC (rtNJ bits q)
def rtQ (up:Bool) (bits:Int) (q:Rat):Rat:=if q=0 then 0 else ((rtM up bits q:Nat):Rat)*(2:Rat)^(rtKJ bits q)
end
abbrev Sp:=Rat×Rat
def spanL (bits set:Int):Nat→List Sp→Sp→Sp
 | _,[],s=>s
 | i,r :: rs,s=>spanL bits set (i+1) rs (if bitK set (i:Nat) then (dnQ bits (s.1*r.1),upQ bits (s.2*r.2)) else s)
def spanP (bits:Int) (rs:List Sp) (p:Int×Rat):Sp :=
 if p.2.num.sign<0 then (-(spanL bits p.1 0 rs (absQ p.2,absQ p.2)).2,-(spanL bits p.1 0 rs (absQ p.2,absQ p.2)).1) else spanL bits p.1 0 rs (absQ p.2,absQ p.2)
def encE (bits:Int) (rs:List Sp):El→Sp
 | []=>(0,0)
 | p :: x=>((spanP bits rs p).1+(encE bits rs x).1,(spanP bits rs p).2+(encE bits rs x).2)
def spanLB (K:Nat) (bits set:Int):Nat→List Sp→Sp→Bool
 | _,[],s=>smqB K s.1&&smqB K s.2
 | i,r :: rs,s=>cond (bitK set (i:Nat)) (smqB K s.1&&(smqB K s.2&&(smqB K r.1&&(smqB K r.2&&spanLB K bits set (i+1) rs (dnQ bits (s.1*r.1),upQ bits (s.2*r.2)))))) (spanLB K bits set (i+1) rs s)
def encB (K:Nat) (bits:Int) (rs:List Sp) (x:El):Bool:=decide (0<K∧x.length*(K+1)+2*K+2≤100000)&&(smB K x&&x.all fun p=>spanLB K bits p.1 0 rs (absQ p.2,absQ p.2))
def maxQ (q r:Rat):Rat:=if cmpQ q r<0 then r else q
def rootE (bits:Int) (rs:List Sp) (c:El):Sp:=(rtQ false bits (maxQ (encE bits rs c).1 ((0:Int):Rat)),rtQ true bits (maxQ (encE bits rs c).2 ((0:Int):Rat)))
def rootsB (K:Nat) (bits:Int):List El→List Sp→Bool
 | [],_=>true
 | c :: cs,rs=>encB K bits rs c&&(smqB K (encE bits rs c).1&&(smqB K (encE bits rs c).2&&rootsB K bits cs (rs++[rootE bits rs c])))

section
variable {K:Nat} {q:Rat} {k:Int}
end
/-! ### of a tower -/
section
variable {t:List El} {K m f:Nat} {x:El} {n:Rat} (hK0:0<K) (hK:K≤100000) (ht:∀ c∈t,CanE c) (hl:t.length≤3) (hr:rootsB K 64 t []=true)
include hK0 hK ht hl hr
omit ht in
end
section
variable {K:Nat} {q:Rat}
theorem cBottomN:Cal Tryz.prog OQ 53 [nA q] (pN q.den) :=
 cal1 (R:=fun w v=>NatV w v q.den) (by kernel_rfl) rfl (fun h _=>h) fun x w _ hx=>(bottom_c x q w hx).mono fun _ _ ⟨_,_,_,h1,h2,h3⟩=>⟨_,h1,h2,h3⟩
end
end Go.Proofs.YtoaoebimjmjpeaaGreatDoor
