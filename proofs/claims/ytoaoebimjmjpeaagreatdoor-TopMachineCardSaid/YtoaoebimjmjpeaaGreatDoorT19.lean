/- A map's block: what is read of it, and what it is after a change. -/
import Derived.Maps.Range
import Derived.Test.YtoaoebimjmjpeaaGreatDoorT18
namespace Go.Proofs.YtoaoebimjmjpeaaGreatDoor
open Go.RowKit Vn
open Go.ChangeMaps (setBlock)
set_option maxRecDepth 100000
set_option maxHeartbeats 8000000
section
variable {P:Program} {O:Opq} {S:Nat→Prop} {w:World}
theorem RepEnts.len {ag:Bool}:∀ {vs:List (List AC)} {ks:List Int} {L:List MapEntry},RepEnts O S w ag vs ks L→vs.length=ks.length∧L.length=ks.length
 | [],[],[],_=>⟨rfl,rfl⟩
 | v :: vs,k :: ks,e :: L,h=>by
  simp only [RepEnts] at h
  have:=RepEnts.len h.2.2
  simp [this]
 | [],[],_ :: _,h=>by simp only [RepEnts] at h
 | [],_ :: _,_,h=>by simp only [RepEnts] at h
 | _ :: _,[],_,h=>by simp only [RepEnts] at h
 | _ :: _,_ :: _,[],h=>by simp only [RepEnts] at h
theorem RepEnts.key {ag:Bool}:∀ {vs:List (List AC)} {ks:List Int} {L:List MapEntry},RepEnts O S w ag vs ks L→∀ e∈L,∃ k,e.key=.int .i64 k
 | [],[],[],_,e,he=>by cases he
 | v :: vs,k :: ks,x :: L,h,e,he=>by
  simp only [RepEnts] at h
  cases he with
  | head=>exact ⟨k,h.1⟩
  | tail _ he=>exact RepEnts.key h.2.2 e he
 | [],[],_ :: _,h,_,_=>by simp only [RepEnts] at h
 | [],_ :: _,_,h,_,_=>by simp only [RepEnts] at h
 | _ :: _,[],_,h,_,_=>by simp only [RepEnts] at h
 | _ :: _,_ :: _,[],h,_,_=>by simp only [RepEnts] at h
def RepVal (O:Opq) (S:Nat→Prop) (w:World) (ag:Bool) (v:List AC) (x:Value):Prop:=∃ us,x=pack ag us∧(ag=false→us.length=1)∧RepL O S w v us
theorem RepEnts.look {ag:Bool} (i:Int) (z:List AC):∀ {vs:List (List AC)} {ks:List Int} {L:List MapEntry},RepEnts O S w ag vs ks L →
  (memK ks i=false∧(∀ e∈L,e.key≠.int .i64 i)∧lookK ks vs i z=z)∨(memK ks i=true∧∃ e∈L,e.key=.int .i64 i∧RepVal O S w ag (lookK ks vs i z) e.val)
 | [],[],[],_=>.inl ⟨rfl,by simp,rfl⟩
 | v :: vs,k :: ks,x :: L,h=>by
  simp only [RepEnts] at h
  by_cases e:k=i
  ·subst e;refine .inr ⟨by simp [memK],x,by simp,h.1,?_⟩;simp only [lookK,decide_true,cond_true];exact h.2.1
  ·have e':decide (k=i)=false:=by simp [e]
   simp only [memK,lookK,e',cond_false]
   rcases RepEnts.look i z h.2.2 with ⟨h1,h2,h3⟩ | ⟨h1,y,hy,h2,h3⟩
   ·refine .inl ⟨h1,fun y hy => ?_,h3⟩
    cases hy with
    | head=>rw [h.1];intro hc;cases hc;exact e rfl
    | tail _ hy=>exact h2 y hy
   ·exact .inr ⟨h1,y,by simp [hy],h2,h3⟩
 | [],[],_ :: _,h=>by simp only [RepEnts] at h
 | [],_ :: _,_,h=>by simp only [RepEnts] at h
 | _ :: _,[],_,h=>by simp only [RepEnts] at h
 | _ :: _,_ :: _,[],h=>by simp only [RepEnts] at h
theorem RepL.flat {S':Nat→Prop}:∀ {v:List AC} {us:List Value},RepL O S w v us→(∀ c∈v,flatC c=true)→RepL O S' w v us
 | [],[],_,_=>by simp only [RepL]
 | c :: v,u :: us,h,hf=>by
  simp only [RepL] at h ⊢;refine ⟨?_,RepL.flat h.2 (fun c hc=>hf c (by simp [hc]))⟩;have h1:=h.1
  have:=hf c (by simp)
  cases c<;>first | (simp only [Rep0] at h1 ⊢;exact h1) | (simp [flatC] at this)
 | [],_ :: _,h,_=>by simp only [RepL] at h
 | _ :: _,[],h,_=>by simp only [RepL] at h
theorem RepEnts.flat {S':Nat→Prop} {ag:Bool}:∀ {vs:List (List AC)} {ks:List Int} {L:List MapEntry},RepEnts O S w ag vs ks L→FlatVs vs→RepEnts O S' w ag vs ks L
 | [],[],[],_,_=>by simp only [RepEnts]
 | v :: vs,k :: ks,x :: L,h,hf=>by
  simp only [RepEnts] at h ⊢;obtain ⟨h1,⟨us,h2,h3,h4⟩,h5⟩:=h
  exact ⟨h1,⟨us,h2,h3,h4.flat (hf v (by simp))⟩,h5.flat (fun v hv=>hf v (by simp [hv]))⟩
 | [],[],_ :: _,h,_=>by simp only [RepEnts] at h
 | [],_ :: _,_,h,_=>by simp only [RepEnts] at h
 | _ :: _,[],_,h,_=>by simp only [RepEnts] at h
 | _ :: _,_ :: _,[],h,_=>by simp only [RepEnts] at h
theorem Rep0.flat {S':Nat→Prop} (hS:∀ b,S b→(∃ E ck,w.heap[b]?=some (.map E ck))→S' b) {c:AC} {x:Value} (h:Rep0 O S w c x) (hf:FlatM c):Rep0 O S' w c x:=by
 cases c with
 | v y=>simpa only [Rep0] using h
 | o k n=>simpa only [Rep0] using h
 | mp ag ks vs =>
  simp only [Rep0] at h ⊢;obtain ⟨b,E,ck,L,hb,e,hh,ok,hp,r⟩:=h
  exact ⟨b,E,ck,L,hS b hb ⟨E,ck,hh⟩,e,hh,ok,hp,r.flat hf⟩
 | _=>simp [FlatM,flatC] at hf
theorem RepW.flat {S':Nat→Prop} (hS:∀ b,S b→(∃ E ck,w.heap[b]?=some (.map E ck))→S' b) {x:Value} {y:AV} (h:RepW O (fun _=>none) S w x y) (hf:FlatA y):RepW O (fun _=>none) S' w x y:=by
 cases y with
 | c c =>
  have h:RepC O (fun _=>none) S w x c:=h;have hp:isP c=false:=by cases c<;>first | rfl | (simp [FlatA,FlatM,flatC] at hf;done)
  exact Rep0.toC (Rep0.flat hS (RepC.to0 h hp) hf)
 | g cs =>
  obtain ⟨vs,e,r⟩:=h;refine ⟨vs,e,?_⟩;clear e;have hf:∀ c∈cs,flatC c=true:=hf
  induction vs generalizing cs with
  | nil=>cases cs with
   | nil=>trivial
   | cons _ _=>exact r.elim
  | cons v vs ih=>cases cs with
   | nil=>exact r.elim
   | cons c cs =>
    refine ⟨?_,ih _ (fun c hc=>hf c (by simp [hc])) r.2 (fun c hc=>hf c (by simp [hc]))⟩
    have:=hf c (by simp)
    have h1:=r.1
    cases c<;>first | (simp [flatC] at this;done) | exact h1
 | _=>exact hf.elim
theorem RepV.flat {S S':Nat→Prop} {x:Value} {y:AV} (h:RepV O (fun _=>none) S w x y) (hf:FlatR y) (hS:∀ b,S b→(∃ E ck,w.heap[b]?=some (.map E ck))→S' b):RepV O (fun _=>none) S' w x y:=by
 cases y with
 | t l =>
  obtain ⟨vs,e,r⟩:=h;refine ⟨vs,e,?_⟩;clear e;have hf:∀ c∈l,FlatA c:=hf
  induction vs generalizing l with
  | nil=>cases l with
   | nil=>trivial
   | cons _ _=>exact r.elim
  | cons v vs ih=>cases l with
   | nil=>exact r.elim
   | cons c l=>exact ⟨RepW.flat hS r.1 (hf c (by simp)),ih _ (fun c hc=>hf c (by simp [hc])) r.2 (fun c hc=>hf c (by simp [hc]))⟩
 | c c=>exact RepW.flat (y:=.c c) hS h hf
 | g cs=>exact RepW.flat (y:=.g cs) hS h hf
 | j=>exact hf.elim
theorem findNow_i64 (k:Int):∀ (es:List MapEntry) (i:Nat),(∀ e∈es,∃ j,e.key=.int .i64 j) →
  (Instr.findNow (.int .i64) (.int .i64 k) es i=some none∧∀ e∈es,e.key≠.int .i64 k) ∨
  ∃ pre e post,es=pre++e :: post∧e.key=.int .i64 k∧(∀ x∈pre,x.key≠.int .i64 k)∧Instr.findNow (.int .i64) (.int .i64 k) es i=some (some (i+pre.length,e.val))
 | [],i,_=>.inl ⟨rfl,by simp⟩
 | e :: es,i,h=>by
  obtain ⟨j,hj⟩:=h e (by simp)
  by_cases he:k=j
  ·subst he;refine .inr ⟨[],e,es,rfl,hj,by simp,?_⟩
   simp [Instr.findNow,Instr.sameNow,hj]
  ·have hne:(k==j)=false:=by simpa using he
   have hs:Instr.findNow (.int .i64) (.int .i64 k) (e :: es) i=Instr.findNow (.int .i64) (.int .i64 k) es (i+1):=by
    simp [Instr.findNow,Instr.sameNow,hj,hne]
   have hk:e.key≠.int .i64 k:=by rw [hj];intro hc;cases hc;exact he rfl
   rcases findNow_i64 k es (i+1) (fun x hx=>h x (by simp [hx])) with ⟨h1,h2⟩ | ⟨pre,x,post,h1,h2,h3,h4⟩
   ·exact .inl ⟨by rw [hs,h1],fun x hx=>by cases hx with
     | head=>exact hk
     | tail _ hx=>exact h2 x hx⟩
   ·refine .inr ⟨e :: pre,x,post,by rw [h1];rfl,h2,fun y hy => ?_,by rw [hs,h4];simp;omega⟩
    cases hy with
    | head=>exact hk
    | tail _ hy=>exact h3 y hy
theorem run_findKey {k:TypeId} (hk:P.underlying k=some (.int .i64)) (i:Int) (es:List MapEntry) (h:∀ e∈es,∃ j,e.key=.int .i64 j) (w:World) :
  ((Instr.findKey k (.int .i64 i) es).run P w=.ok none w∧∀ e∈es,e.key≠.int .i64 i) ∨
  ∃ pre e post,es=pre++e :: post∧e.key=.int .i64 i∧(∀ x∈pre,x.key≠.int .i64 i)∧(Instr.findKey k (.int .i64 i) es).run P w=.ok (some (pre.length,e.val)) w:=by
 rcases findNow_i64 i es 0 h with ⟨h1,h2⟩ | ⟨pre,x,post,h1,h2,h3,h4⟩
 ·exact .inl ⟨by unfold Instr.findKey;rw [Sem.run_bind,run_underlying hk w,Result.andThen_ok,h1];rfl,h2⟩
 ·exact .inr ⟨pre,x,post,h1,h2,h3,by unfold Instr.findKey;rw [Sem.run_bind,run_underlying hk w,Result.andThen_ok,h4,Nat.zero_add];rfl⟩
theorem run_checkKey {k:TypeId} (hk:P.underlying k=some (.int .i64)) (b:Bool) (i:Int) (w:World):(Instr.checkKey b 10000 k (.int .i64 i)).run P w=.ok () w:=by
 show (Instr.checkKey b (9999+1) k (.int .i64 i)).run P w=_
 unfold Instr.checkKey;rw [Sem.run_bind,run_underlying hk w,Result.andThen_ok];rfl
theorem run_look {t:TypeId} {k e:TypeId} {i:TypeInfo} {z:Value} (ht:P.underlying t=some (.map k e)) (hk:P.underlying k=some (.int .i64)) (hi:P.info? e=some i) (hz:i.zero=some z) {b:Nat} {E:Array MapEntry} {ck:Nat} (hb:w.heap[b]?=some (.map E ck)) {L:List MapEntry} (hp:L.Perm E.toList)
  {ag:Bool} {ks:List Int} {vs:List (List AC)} (hn:MapOK E ck) (r:RepEnts O S w ag vs ks L) (x:Int) {zr:List AC} (hzr:RepVal O S w ag zr z) :
  ∃ v,(Instr.lookup t (.map (some b)) (.int .i64 x) false).run P w=.ok v w∧RepVal O S w ag (lookK ks vs x zr) v:=by
 have hkey:∀ y∈E.toList,∃ j,y.key=.int .i64 j:=fun y hy=>r.key y (hp.mem_iff.2 hy);have run:∀ {o:Option (Nat×Value)},(Instr.findKey k (.int .i64 x) E.toList).run P w=.ok o w→(Instr.lookup t (.map (some b)) (.int .i64 x) false).run P w=.ok (match o with | some (_,v)=>v | none=>z) w:=by
  intro o ho
  cases o with
  | none=>simp [Instr.lookup,run_underlying ht,MapKept.run_getObj_map hb,run_checkKey hk,ho,zeroValue,typeInfo,hi,hz,Result.andThen]
  | some y=>simp [Instr.lookup,run_underlying ht,MapKept.run_getObj_map hb,run_checkKey hk,ho,Result.andThen]
 rcases run_findKey hk x E.toList hkey w with ⟨h1,h2⟩ | ⟨pre,y,post,h1,h2,_,h4⟩
 ·rcases r.look x zr with ⟨_,_,e⟩ | ⟨_,y,hy,hy',_⟩
  ·exact ⟨z,run h1,by rw [e];exact hzr⟩
  ·exact absurd hy' (h2 y (hp.mem_iff.1 hy))
 ·refine ⟨y.val,run h4,?_⟩;have hyE:y∈E.toList:=by rw [h1];simp
  rcases r.look x zr with ⟨_,hno,_⟩ | ⟨_,y',hy',hk',hv⟩
  ·exact absurd h2 (hno y (hp.mem_iff.2 hyE))
  ·have:y'=y:=by
    have hE:=hn.kn;have m1:=hp.mem_iff.1 hy';rw [List.nodup_iff_pairwise_ne] at hE;rw [List.pairwise_map] at hE
    exact entry_eq_of_key hE m1 hyE (by rw [hk',h2])
   rw [this] at hv;exact hv
theorem MapOK.inj {E:Array MapEntry} {ck:Nat} (h:MapOK E ck) {x y:MapEntry} (hx:x∈E.toList) (hy:y∈E.toList) (e:x.key=y.key):x=y:=by
 have hE:=h.kn;rw [List.nodup_iff_pairwise_ne,List.pairwise_map] at hE
 exact entry_eq_of_key hE hx hy e
theorem MapAt.made (w:World) (ag:Bool):MapAt O S (w.alloc (.map #[] 0)) w.heap.size ag [] [] :=
 ⟨#[],0,[],(MapKept.heap_alloc w _).1,⟨by simp,by simp,by simp⟩,by simp,by simp only [RepEnts]⟩
theorem RepEnts.rep {ag:Bool} {i:Int} {x:List AC} {v:Value} {e:MapEntry} (hv:RepVal O S w ag x v) (he:e.key=.int .i64 i):∀ {vs:List (List AC)} {ks:List Int} {L:List MapEntry},RepEnts O S w ag vs ks L→e∈L→(L.map (·.key)).Nodup →
  memK ks i=true∧∃ l1 l2,L=l1++e :: l2∧RepEnts O S w ag (repV ks vs i x) ks (l1 ++ { e with val:=v } :: l2)
 | [],[],[],_,h,_=>by cases h
 | u :: vs,k :: ks,y :: L,r,h,hn=>by
  simp only [RepEnts] at r;simp only [List.map_cons,List.nodup_cons] at hn
  by_cases hk:k=i
  ·subst hk;have hy:y=e:=by
    cases h with
    | head=>rfl
    | tail _ h=>exact absurd (List.mem_map.2 ⟨e,h,by rw [he,r.1]⟩) hn.1
   subst hy;refine ⟨by simp [memK],[],L,rfl,?_⟩;simp only [repV,decide_true,cond_true,List.nil_append,RepEnts]
   exact ⟨he,hv,r.2.2⟩
  ·have hne:e≠y:=by rintro rfl;rw [r.1] at he;cases he;exact hk rfl
   have h':e∈L:=by
    cases h with
    | head=>exact absurd rfl hne
    | tail _ h=>exact h
   obtain ⟨h1,l1,l2,h2,h3⟩:=RepEnts.rep hv he r.2.2 h' hn.2;refine ⟨by simp [memK,h1],y :: l1,l2,by rw [h2];rfl,?_⟩
   have:decide (k=i)=false:=by simp [hk]
   simp only [repV,this,cond_false,List.cons_append,RepEnts]
   exact ⟨r.1,r.2.1,h3⟩
 | [],[],_ :: _,h,_,_=>by simp only [RepEnts] at h
 | [],_ :: _,_,h,_,_=>by simp only [RepEnts] at h
 | _ :: _,[],_,h,_,_=>by simp only [RepEnts] at h
 | _ :: _,_ :: _,[],h,_,_=>by simp only [RepEnts] at h
theorem RepEnts.ins {ag:Bool} {i:Int} {x:List AC} {e:MapEntry} (hv:RepVal O S w ag x e.val) (he:e.key=.int .i64 i):∀ {vs:List (List AC)} {ks:List Int} {L:List MapEntry},RepEnts O S w ag vs ks L →
  ∃ l1 l2,L=l1++l2∧RepEnts O S w ag (insV ks vs i x) (insKs ks i) (l1++e :: l2)
 | [],[],[],_=>⟨[],[],rfl,by simp only [insV,insKs,List.nil_append,RepEnts];exact ⟨he,hv,trivial⟩⟩
 | u :: vs,k :: ks,y :: L,r=>by
  have r':=r;simp only [RepEnts] at r
  cases hk:decide (i<k) with
  | true =>
   refine ⟨[],y :: L,rfl,?_⟩;simp only [insV,insKs,hk,cond_true,List.nil_append,RepEnts]
   exact ⟨he,hv,r⟩
  | false =>
   obtain ⟨l1,l2,h2,h3⟩:=RepEnts.ins hv he r.2.2;refine ⟨y :: l1,l2,by rw [h2];rfl,?_⟩;simp only [insV,insKs,hk,cond_false,List.cons_append,RepEnts]
   exact ⟨r.1,r.2.1,h3⟩
 | [],[],_ :: _,h=>by simp only [RepEnts] at h
 | [],_ :: _,_,h=>by simp only [RepEnts] at h
 | _ :: _,[],_,h=>by simp only [RepEnts] at h
 | _ :: _,_ :: _,[],h=>by simp only [RepEnts] at h
theorem RepEnts.del {ag:Bool} {i:Int} {e:MapEntry} (he:e.key=.int .i64 i):∀ {vs:List (List AC)} {ks:List Int} {L:List MapEntry},RepEnts O S w ag vs ks L→e∈L→(L.map (·.key)).Nodup →
  ∃ l1 l2,L=l1++e :: l2∧RepEnts O S w ag (delV ks vs i) (delKs ks i) (l1++l2)
 | [],[],[],_,h,_=>by cases h
 | u :: vs,k :: ks,y :: L,r,h,hn=>by
  simp only [RepEnts] at r;simp only [List.map_cons,List.nodup_cons] at hn
  by_cases hk:k=i
  ·subst hk;have hy:y=e:=by
    cases h with
    | head=>rfl
    | tail _ h=>exact absurd (List.mem_map.2 ⟨e,h,by rw [he,r.1]⟩) hn.1
   subst hy;refine ⟨[],L,rfl,?_⟩;simp only [delV,delKs,decide_true,cond_true,List.nil_append]
   exact r.2.2
  ·have hne:e≠y:=by rintro rfl;rw [r.1] at he;cases he;exact hk rfl
   have h':e∈L:=by
    cases h with
    | head=>exact absurd rfl hne
    | tail _ h=>exact h
   obtain ⟨l1,l2,h2,h3⟩:=RepEnts.del he r.2.2 h' hn.2;refine ⟨y :: l1,l2,by rw [h2];rfl,?_⟩
   have:decide (k=i)=false:=by simp [hk]
   simp only [delV,delKs,this,cond_false,List.cons_append,RepEnts]
   exact ⟨r.1,r.2.1,h3⟩
 | [],[],_ :: _,h,_,_=>by simp only [RepEnts] at h
 | [],_ :: _,_,h,_,_=>by simp only [RepEnts] at h
 | _ :: _,[],_,h,_,_=>by simp only [RepEnts] at h
 | _ :: _,_ :: _,[],h,_,_=>by simp only [RepEnts] at h
theorem RepEnts.del_no {ag:Bool} {i:Int}:∀ {vs:List (List AC)} {ks:List Int} {L:List MapEntry},RepEnts O S w ag vs ks L→(∀ e∈L,e.key≠.int .i64 i)→delV ks vs i=vs∧delKs ks i=ks
 | [],[],[],_,_=>⟨rfl,rfl⟩
 | u :: vs,k :: ks,y :: L,r,h=>by
  simp only [RepEnts] at r;have hk:k≠i:=fun e=>h y (by simp) (by rw [r.1,e])
  have:=RepEnts.del_no r.2.2 (fun e he=>h e (by simp [he]))
  have e1:decide (k=i)=false:=by simp [hk]
  simp only [delV,delKs,e1,cond_false,this.1,this.2]
  exact ⟨trivial,trivial⟩
 | [],[],_ :: _,h,_=>by simp only [RepEnts] at h
 | [],_ :: _,_,h,_=>by simp only [RepEnts] at h
 | _ :: _,[],_,h,_=>by simp only [RepEnts] at h
 | _ :: _,_ :: _,[],h,_=>by simp only [RepEnts] at h
theorem run_mput {t:TypeId} {k e:TypeId} (ht:P.underlying t=some (.map k e)) (hk:P.underlying k=some (.int .i64)) {b:Nat} {ag:Bool} {ks:List Int} {vs:List (List AC)} (r:MapAt O S w b ag ks vs) (i:Int) {x:List AC} {v:Value} (hv:RepVal O S w ag x v) :
  ∃ E' ck',(Instr.mapUpdate t (.map (some b)) (.int .i64 i) v).run P w=.ok () (setBlock w b (.map E' ck'))∧MapOK E' ck'∧∃ L',L'.Perm E'.toList∧RepEnts O S w ag (putV ks vs i x) (putKs ks i) L':=by
 obtain ⟨E,ck,L,hb,ok,hp,r⟩:=r;have hkey:∀ y∈E.toList,∃ j,y.key=.int .i64 j:=fun y hy=>r.key y (hp.mem_iff.2 hy);have hset:∀ o',(setObj b o').run P w=.ok () (setBlock w b o'):=fun o'=>by simp [setObj,Sem.run,hb,setBlock]
 rcases run_findKey (P:=P) hk i E.toList hkey w with ⟨h1,h2⟩ | ⟨pre,y,post,h1,h2,h3,h4⟩
 ·refine ⟨E.push ⟨.int .i64 i,v,ck⟩,ck+1,?_,⟨fun z hz => ?_,?_,?_⟩,?_⟩
  ·simp [Instr.mapUpdate,run_underlying ht,MapKept.run_getObj_map hb,run_checkKey hk,h1,Result.andThen,hset]
  ·simp at hz
   rcases hz with hz | rfl
   ·have:=ok.lt z (by simpa using hz);omega
   ·simp
  ·simp only [Array.toList_push,List.map_append,List.map_cons,List.map_nil];rw [List.nodup_append];refine ⟨ok.bn,by simp,?_⟩
   intro a ha c hc he
   simp at hc
   obtain ⟨z,hz,rfl⟩:=List.mem_map.1 ha
   have:=ok.lt z hz
   omega
  ·simp only [Array.toList_push,List.map_append,List.map_cons,List.map_nil];rw [List.nodup_append];refine ⟨ok.kn,by simp,?_⟩
   intro a ha c hc he
   simp at hc
   obtain ⟨z,hz,rfl⟩:=List.mem_map.1 ha
   exact h2 z hz (by rw [he,hc])
  ·have hm:memK ks i=false:=by
    rcases r.look i [] with ⟨h,_⟩ | ⟨_,y,hy,hy',_⟩
    ·exact h
    ·exact absurd hy' (h2 y (hp.mem_iff.1 hy))
   obtain ⟨l1,l2,q1,q2⟩:=r.ins (e:=⟨.int .i64 i,v,ck⟩) hv rfl;refine ⟨_,?_,by simpa only [putV,putKs,hm,cond_false] using q2⟩;refine List.perm_middle.trans ?_;rw [←q1];simp only [Array.toList_push]
   exact ((hp.cons _).trans (List.perm_append_singleton _ _).symm)
 ·have hyE:y∈E.toList:=by rw [h1];simp
  obtain ⟨hm,l1,l2,q1,q2⟩:=r.rep hv h2 (hp.mem_iff.2 hyE) ((hp.map _).nodup_iff.2 ok.kn);have hlt:pre.length<E.size:=by
   have:E.toList.length=(pre++y :: post).length:=by rw [h1]
   simp at this;omega
  have hget:E[pre.length]?=some y:=by
   rw [←Array.getElem?_toList,h1];simp
  have hmod:(E.modify pre.length fun e => { e with key:=.int .i64 i,val:=v }).toList=pre ++ { y with val:=v } :: post:=by
   rw [Array.toList_modify,h1];rw [List.modify_eq_take_cons_drop (by simp)]
   simp [h2]
  have hmap:∀ {α:Type} (f:MapEntry→α),f { y with val:=v }=f y→(pre ++ { y with val:=v } :: post).map f=E.toList.map f:=by
   intro α f hf;rw [h1];simp [hf]
  refine ⟨E.modify pre.length fun e => { e with key:=.int .i64 i,val:=v },ck,?_,⟨fun z hz => ?_,?_,?_⟩,?_⟩
  ·simp [Instr.mapUpdate,run_underlying ht,MapKept.run_getObj_map hb,run_checkKey hk,h4,Result.andThen,hget,h2,Instr.keyThatStays,Instr.sameBits,hset]
  ·rw [hmod] at hz
   simp at hz
   rcases hz with hz | rfl | hz
   ·exact ok.lt z (by rw [h1];simp [hz])
   ·exact ok.lt y hyE
   ·exact ok.lt z (by rw [h1];simp [hz])
  ·rw [hmod,hmap _ rfl];exact ok.bn
  ·rw [hmod,hmap _ rfl];exact ok.kn
  ·refine ⟨_,?_,by simpa only [putV,putKs,hm,cond_true] using q2⟩;rw [hmod];rw [q1,h1] at hp
   have:=(List.perm_middle.symm.trans (hp.trans List.perm_middle)).cons_inv
   exact List.perm_middle.trans ((this.cons _).trans List.perm_middle.symm)
theorem run_mdel {t:TypeId} {k e ty u:TypeId} (ht:P.underlying t=some (.map k e)) (hk:P.underlying k=some (.int .i64)) {b:Nat} {ag:Bool} {ks:List Int} {vs:List (List AC)} (r:MapAt O S w b ag ks vs) (i:Int) :
  ∃ E' ck',(Builtin.delete_ #[t,u] ty #[.map (some b),.int .i64 i]).run P w=.ok (.tuple #[]) (setBlock w b (.map E' ck'))∧MapOK E' ck'∧∃ L',L'.Perm E'.toList∧RepEnts O S w ag (delV ks vs i) (delKs ks i) L':=by
 obtain ⟨E,ck,L,hb,ok,hp,r⟩:=r;have hkey:∀ y∈E.toList,∃ j,y.key=.int .i64 j:=fun y hy=>r.key y (hp.mem_iff.2 hy);have hset:∀ o',(setObj b o').run P w=.ok () (setBlock w b o'):=fun o'=>by simp [setObj,Sem.run,hb,setBlock]
 rcases run_findKey (P:=P) hk i E.toList hkey w with ⟨h1,h2⟩ | ⟨pre,y,post,h1,h2,h3,h4⟩
 ·obtain ⟨e1,e2⟩:=r.del_no (i:=i) (fun e he=>h2 e (hp.mem_iff.1 he));refine ⟨E,ck,?_,ok,L,hp,by rw [e1,e2];exact r⟩
  simp [Builtin.delete_,run_underlying ht,MapKept.run_getObj_map hb,run_checkKey hk,h1,Result.andThen,hset]
 ·have hyE:y∈E.toList:=by rw [h1];simp
  obtain ⟨l1,l2,q1,q2⟩:=r.del h2 (hp.mem_iff.2 hyE) ((hp.map _).nodup_iff.2 ok.kn);have hlt:pre.length<E.size:=by
   have:E.toList.length=(pre++y :: post).length:=by rw [h1]
   simp at this;omega
  have her:(E.eraseIdxIfInBounds pre.length).toList=pre++post:=by
   rw [Array.toList_eraseIdxIfInBounds,h1,List.eraseIdx_append_of_length_le (Nat.le_refl _),Nat.sub_self]
   rfl
  have hsub:(pre++post).Sublist E.toList:=by
   rw [h1];exact List.Sublist.append_left (List.sublist_cons_self _ _) _
  refine ⟨E.eraseIdxIfInBounds pre.length,ck,?_,⟨fun z hz => ?_,?_,?_⟩,_,?_,q2⟩
  ·simp [Builtin.delete_,run_underlying ht,MapKept.run_getObj_map hb,run_checkKey hk,h4,Result.andThen,hset]
  ·rw [her] at hz;exact ok.lt z (hsub.subset hz)
  ·rw [her];exact ok.bn.sublist (hsub.map _)
  ·rw [her];exact ok.kn.sublist (hsub.map _)
  ·rw [her];rw [q1,h1] at hp
   exact (List.perm_middle.symm.trans (hp.trans List.perm_middle)).cons_inv
end
section
variable {P:Program} {O:Opq} {β:Nat→Option Nat} {S:Nat→Prop} {w:World}
theorem RepC.cells {c:AC} {x:Value} (h:RepC O β S w x c):x.cells=#[x]:=by
 have:=h.one;cases x<;>first | rfl | simp [Value.oneCell'] at this
theorem cellsK_rep {x:AV} {v:Value} {k:List AC→Prop} (h:cellsK x k) (r:RepV O β S w v x):∃ cs,k cs∧RepCs O β S w v.cells.toList cs:=by
 cases x with
 | c y=>exact ⟨_,h,by rw [RepC.cells (O:=O) (β:=β) (S:=S) (w:=w) r];exact ⟨r,trivial⟩⟩
 | g cs =>
  obtain ⟨vs,e,r⟩:=r;refine ⟨cs,(allK_iff _ _).1 h,?_⟩;rw [e];exact r
 | t _=>exact h.elim
 | j=>exact h.elim
theorem RepCs.all {vs:List Value} {cs:List AC} (h:RepCs O β S w vs cs):∀ v∈vs,v.oneCell'=true:=by
 induction vs generalizing cs with
 | nil=>intro v hv;cases hv
 | cons x vs ih =>
  cases cs with
  | nil=>exact h.elim
  | cons c cs=>intro v hv;cases hv with
   | head=>exact RepC.one h.1
   | tail _ hv=>exact ih h.2 v hv
def R0s (O:Opq) (S:Nat→Prop) (w:World) (vs:List Value) (cs:List AC):Prop:=All2 (fun x c=>Rep0 O S w c x) vs cs
theorem RepL.iff:∀ {cs:List AC} {us:List Value},RepL O S w cs us↔R0s O S w us cs
 | [],[]=>by simp [RepL,R0s,All2]
 | c :: cs,u :: us=>by
  simp only [RepL,R0s,All2]
  exact and_congr Iff.rfl RepL.iff
 | [],_ :: _=>by simp [RepL,R0s,All2]
 | _ :: _,[]=>by simp [RepL,R0s,All2]
theorem R0s.toC {vs:List Value} {cs:List AC} (h:R0s O S w vs cs):RepCs O β S w vs cs:=All2.mono (fun _ _ r=>Rep0.toC r) h
theorem RepCs.to0:∀ {vs:List Value} {cs:List AC},RepCs O β S w vs cs→noPs cs=true→R0s O S w vs cs
 | [],[],_,_=>trivial
 | v :: vs,c :: cs,h,hn=>by
  simp only [noPs] at hn
  cases hc:isP c with
  | true=>rw [hc] at hn;cases hn
  | false=>rw [hc] at hn;exact ⟨RepC.to0 h.1 hc,RepCs.to0 h.2 hn⟩
 | [],_ :: _,h,_=>h.elim
 | _ :: _,[],h,_=>h.elim
theorem RepRow.list:∀ (cs:List AC) (b off:Nat),RepRow O S w cs b off→∃ vs,(∀ j v,vs[j]?=some v→w.cell? ⟨b,off+j,none⟩=some v)∧R0s O S w vs cs
 | [],_,_,_=>⟨[],fun j v h=>by simp at h,trivial⟩
 | c :: cs,b,off,h=>by
  simp only [RepRow] at h;obtain ⟨⟨x,hx,r⟩,h⟩:=h;obtain ⟨vs,h1,h2⟩:=RepRow.list cs b (off+1) h;refine ⟨x :: vs,fun j v hj => ?_,r,h2⟩
  cases j with
  | zero=>simp at hj;rw [←hj];exact hx
  | succ j=>rw [show off+(j+1)=off+1+j by omega];exact h1 j v (by simpa using hj)
theorem RepRow.drop:∀ (n:Nat) (cs:List AC) (b off:Nat),RepRow O S w cs b off→RepRow O S w (cs.drop n) b (off+n)
 | 0,_,_,_,h=>h
 | n+1,[],_,_,_=>by simp [RepRow]
 | n+1,c :: cs,b,off,h=>by
  simp only [RepRow] at h
  have:=RepRow.drop n cs b (off+1) h.2
  rw [show off+(n+1)=off+1+n by omega];exact this
theorem RepRow.of_list:∀ (cs:List AC) (vs:List Value) (b off:Nat),(∀ j v,vs[j]?=some v→w.cell? ⟨b,off+j,none⟩=some v)→R0s O S w vs cs→RepRow O S w cs b off
 | [],_,_,_,_,_=>by simp [RepRow]
 | c :: cs,[],_,_,_,h=>h.elim
 | c :: cs,x :: vs,b,off,h,r=>by
  simp only [RepRow]
  exact ⟨⟨x,h 0 x rfl,r.1⟩,RepRow.of_list cs vs b (off+1) (fun j v hj=>by rw [show off+1+j=off+(j+1) by omega];exact h (j+1) v (by simpa using hj)) r.2⟩
theorem RepRows.get (wd:Nat):∀ (xs:List (List AC)) (b off i:Nat),RepRows O S w wd xs b off→i<xs.length→(xs.getD i []).length=wd∧RepRow O S w (xs.getD i []) b (off+i*wd)
 | [],_,_,i,_,h=>by simp at h
 | r :: rs,b,off,0,q,_=>by simp only [RepRows] at q;simpa using ⟨q.1,q.2.1⟩
 | r :: rs,b,off,i+1,q,h=>by
  simp only [RepRows] at q
  have:=RepRows.get wd rs b (off+wd) i q.2.2 (by simpa using h)
  rw [show off+wd+i*wd=off+(i+1)*wd by rw [Nat.add_mul];omega] at this
  simpa using this
theorem RepRows.of_list (wd:Nat):∀ (xs:List (List AC)) (vs:List Value) (b off:Nat),(∀ r∈xs,r.length=wd)→(∀ j v,vs[j]?=some v→w.cell? ⟨b,off+j,none⟩=some v)→R0s O S w vs xs.flatten→RepRows O S w wd xs b off
 | [],_,_,_,_,_,_=>by simp [RepRows]
 | r :: rs,vs,b,off,hw,h,q=>by
  simp only [RepRows];have e:(r :: rs).flatten=r++rs.flatten:=by simp
  rw [e] at q;have hr:r.length=wd:=hw r (by simp);have q1:R0s O S w (vs.take wd) r:=by have:=All2.take r.length q;rw [List.take_left,hr] at this;exact this
  have q2:R0s O S w (vs.drop wd) rs.flatten:=by have:=All2.drop r.length q;rw [List.drop_left,hr] at this;exact this
  refine ⟨hr,RepRow.of_list r (vs.take wd) b off (fun j v hj => ?_) q1,RepRows.of_list wd rs (vs.drop wd) b (off+wd) (fun x hx=>hw x (by simp [hx])) (fun j v hj => ?_) q2⟩
  ·rw [List.getElem?_take] at hj
   split at hj
   ·exact h j v hj
   ·cases hj
  ·rw [List.getElem?_drop] at hj;rw [Nat.add_assoc];exact h _ v hj
theorem run_isAgg {t:TypeId} {d:TypeDesc} (hu:P.underlying t=some d) (w:World):(isAgg t).run P w=.ok d.isRow w:=by
 unfold isAgg;rw [Sem.run_bind,run_underlying hu w]
 cases d<;>simp [TypeDesc.isRow]
theorem partK_rep {ag:Bool} {m:Nat} {cs:List AC} {k:AV→Prop} (h:partK ag m cs k) {vs:List Value} (r:RepCs O β S w vs cs) :
  (ag=true→m≤vs.length∧k (.g (cs.take m))∧RepW O β S w (.agg (vs.take m).toArray) (.g (cs.take m)))∧(ag=false→∃ v c,vs[0]?=some v∧k (.c c)∧RepW O β S w v (.c c)):=by
 refine ⟨fun e => ?_,fun e => ?_⟩
 ·subst e;simp only [partK,takeK_iff] at h
  exact ⟨by rw [r.len];exact h.1,h.2,_,rfl,All2.take m r⟩
 ·subst e
  cases cs with
  | nil=>exact h.elim
  | cons c cs =>
   cases vs with
   | nil=>exact r.elim
   | cons v vs=>exact ⟨v,c,rfl,h,r.1⟩
theorem load_rep {T:Tys} (TK:TyOK P O T) {t:TypeId} {ty:Ty} (ht:T t=some ty) {b off:Nat} {vs:List Value} {cs:List AC} (hc:∀ j v,vs[j]?=some v→w.cell? ⟨b,off+j,none⟩=some v) (r:RepCs O β S w vs cs)
  {k:AV→Prop} (h:partK ty.agg ty.zero.length cs k):∃ v x,(Instr.loadAt t (.pointer (some ⟨b,off,none⟩))).run P w=.ok v w∧RepW O β S w v x∧k x∧x≠.j∧∀ l,x≠.t l:=by
 obtain ⟨i,z,hi,hs,_⟩:=(TK t ty ht).info;obtain ⟨d,hu,hd,_⟩:=(TK t ty ht).und;obtain ⟨p1,p2⟩:=partK_rep (β:=β) h r
 cases e:ty.agg with
 | true =>
  obtain ⟨hl,hk,q⟩:=p1 e;rw [e] at hd;refine ⟨_,_,run_loadAt_mid w b off t (vs.take ty.zero.length) d (fun j v hj => ?_) hu hd (by rw [hi];simp [hs,hl]),q,hk,by simp,by simp⟩;rw [List.getElem?_take] at hj
  split at hj
  ·exact hc j v hj
  ·cases hj
 | false =>
  obtain ⟨v,c,hv,hk,q⟩:=p2 e;rw [e] at hd;refine ⟨v,_,?_,q,hk,by simp,by simp⟩
  have:=hc 0 v hv
  simp only [Instr.loadAt,Instr.sureAddr,Sem.run_bind,Sem.run_pure,Result.andThen_ok,loadVar,run_isAgg hu w,hd];simp only [Nat.add_zero] at this
  simp [load,Sem.run,this]
theorem store_run {t:TypeId} {i:TypeInfo} (hi:P.info? t=some i) {b off:Nat} {v:Value} (hs:v.cells.size=i.size) (ht:w.there b off v.cells.size) (h1:∀ x∈v.cells.toList,x.oneCell'=true) :
  (Instr.storeAt t (.pointer (some ⟨b,off,none⟩)) v).run P w=.ok () (w.setCells b off v.cells.toList):=by
 have:=run_storeCells_cells (P:=P) b off v.cells.toList 0 w (fun j hj=>by simpa using (ht j (by simpa using hj)).1) (fun j hj=>by simpa using (ht j (by simpa using hj)).2) h1
 simp only [Nat.add_zero] at this
 simp [Instr.storeAt,Instr.sureAddr,storeVar,sizeOf,typeInfo,hi,hs,this]
/-! ### a struct or a slice laid out of parts -/
theorem foldl_put:∀ (l:List Value) (off j:Nat) (cs:Array Value),off+j+l.length≤cs.size →
  (l.zipIdx j).foldl (fun cs x=>cs.setIfInBounds (off+x.2) x.1) cs=(cs.toList.take (off+j)++l++cs.toList.drop (off+j+l.length)).toArray
 | [],off,j,cs,_=>by simp
 | x :: l,off,j,cs,h=>by
  simp only [List.zipIdx_cons,List.foldl_cons];simp only [List.length_cons] at h;rw [foldl_put l off (j+1) _ (by simp;omega)];have hl:off+j<cs.toList.length:=by simp;omega
  have e1:(cs.setIfInBounds (off+j) x).toList=cs.toList.set (off+j) x:=by simp
  rw [e1,show off+(j+1)=off+j+1 by omega];have e2:(cs.toList.set (off+j) x).take (off+j+1)=cs.toList.take (off+j)++[x]:=by
   rw [List.take_succ_eq_append_getElem (by simpa using hl)]
   simp [List.take_set_of_le]
  have e3:(cs.toList.set (off+j) x).drop (off+j+1+l.length)=cs.toList.drop (off+j+(x :: l).length):=by
   rw [List.drop_set_of_lt (by omega)]
   congr 1;simp;omega
  rw [e2,e3];simp
theorem fill_put (place:Nat→Option (Nat×Nat)) (i off n:Nat) (hp:place i=some (off,n)) (v:Value) (hv:v.cells.size=n) (cs:List Value) (hl:off+n≤cs.length) (r:List (Nat×Value)) :
  Instr.fill place cs.toArray ((i,v) :: r)=Instr.fill place (cs.take off++v.cells.toList++cs.drop (off+n)).toArray r:=by
 have h1:(decide (v.cells.size≠n)||decide (off+v.cells.size>cs.toArray.size))=false:=by simp [hv];omega
 have h2:=foldl_put v.cells.toList off 0 cs.toArray (by simp [hv];omega);simp only [Instr.fill,hp];rw [h1,if_neg (by simp)]
 congr 1
 rw [←Array.foldl_toList,Array.toList_zipIdx,h2]
 simp [hv]
variable {ρ:Operand→AV} {ev:Operand→Value}
theorem fillK_rep (hρ:∀ x,RepV O β S w (ev x) (ρ x)) (fl:List (Nat×Nat×Bool)) (place:Nat→Option (Nat×Nat)) (hp:∀ i x,fl[i]?=some x→place i=some (x.1,x.2.1)) :
  ∀ (parts:List (Nat×Operand)) (cs:List AC) (vs:List Value) (k:List AC→Prop),fillK fl ρ parts cs k→RepCs O β S w vs cs →
   ∃ us ds,Instr.fill place vs.toArray (parts.map fun (i,x)=>(i,ev x))=some us∧RepCs O β S w us.toList ds∧k ds
 | [],cs,vs,k,h,r=>⟨vs.toArray,cs,rfl,by simpa using r,h⟩
 | (i,x) :: parts,cs,vs,k,h,r=>by
  simp only [fillK] at h
  cases hf:fl[i]? with
  | none=>simp [hf] at h
  | some y =>
   obtain ⟨off,n,g⟩:=y;simp only [hf] at h;obtain ⟨xs,hk,q⟩:=cellsK_rep h (hρ x)
   cases hb:Nat.beq xs.length n&&Nat.ble (off+n) cs.length with
   | false=>rw [hb] at hk;exact hk.elim
   | true =>
    rw [hb] at hk;simp only [Bool.and_eq_true,Nat.beq_eq,Nat.ble_eq] at hb;have e1:=q.len;have e2:=r.len;have hv:(ev x).cells.size=n:=by simp at e1;omega
    rw [List.map_cons,fill_put place i off n (hp i _ hf) (ev x) hv vs (by omega)]
    exact fillK_rep hρ fl place hp parts _ _ k hk (All2.app (All2.app (All2.take off r) q) (All2.drop _ r))
theorem rowsK_rep (hρ:∀ x,RepV O β S w (ev x) (ρ x)) (wd:Nat):∀ (parts:List (Nat×Operand)) (i:Nat) (k:List (List AC)→Prop),rowsK wd ρ i parts k→∀ (pre rest:List Value),pre.length=i*wd→rest.length=parts.length*wd →
   ∃ us rs,Instr.fill (fun i=>some (i*wd,wd)) (pre++rest).toArray (parts.map fun (i,x)=>(i,ev x))=some (pre++us).toArray∧R0s O S w us rs.flatten∧(∀ r∈rs,r.length=wd)∧rs.length=parts.length∧k rs
 | [],i,k,h,pre,rest,h1,h2=>⟨[],[],by simp at h2;simp [Instr.fill,h2],trivial,by simp,rfl,h⟩
 | (j,x) :: parts,i,k,h,pre,rest,h1,h2=>by
  simp only [rowsK] at h
  cases hb:Nat.beq j i with
  | false=>rw [hb] at h;exact h.elim
  | true =>
   rw [hb] at h;have hj:=Nat.eq_of_beq_eq_true hb;subst hj;obtain ⟨xs,hk,q⟩:=cellsK_rep h (hρ x)
   cases hb:Nat.beq xs.length wd&&noPs xs with
   | false=>rw [hb] at hk;exact hk.elim
   | true =>
    rw [hb] at hk;simp only [Bool.and_eq_true] at hb;have hx:=Nat.eq_of_beq_eq_true hb.1;have e1:=q.len;have hv:(ev x).cells.size=wd:=by simp at e1;omega
    simp only [List.length_cons,Nat.add_mul,Nat.one_mul] at h2;rw [List.map_cons,fill_put _ j (j*wd) wd rfl (ev x) hv (pre++rest) (by simp;omega)];have e2:(pre++rest).take (j*wd)=pre:=by rw [←h1,List.take_left]
    have e3:(pre++rest).drop (j*wd+wd)=rest.drop wd:=by rw [←h1,List.drop_append];simp
    rw [e2,e3];obtain ⟨us,rs,f1,f2,f3,f4,f5⟩:=rowsK_rep hρ wd parts (j+1) (fun l=>k (xs :: l)) hk (pre++(ev x).cells.toList) (rest.drop wd) (by simp [h1,hv,Nat.add_mul]) (by simp;omega);refine ⟨(ev x).cells.toList++us,xs :: rs,by rw [f1];simp,?_,?_,by simp [f4],f5⟩
    ·rw [List.flatten_cons];exact All2.app (q.to0 hb.2) f2
    ·intro r hr;cases hr with
     | head=>exact hx
     | tail _ hr=>exact f3 r hr
theorem mapK_rep {S':Nat→Prop} {F:AC→(AC→Prop)→Prop} (hF:∀ c k x,RepC O β S w x c→F c k→∃ d,k d∧Rep0 O S' w d x):∀ (cs:List AC) (k:List AC→Prop) (vs:List Value),RepCs O β S w vs cs→mapK F cs k→∃ ds,k ds∧R0s O S' w vs ds
 | [],k,[],_,h=>⟨[],h,trivial⟩
 | c :: cs,k,v :: vs,r,h=>by
  simp only [mapK] at h;obtain ⟨d,h1,h2⟩:=hF c _ v r.1 h;obtain ⟨ds,h3,h4⟩:=mapK_rep hF cs _ vs r.2 h1
  exact ⟨d :: ds,h3,h2,h4⟩
 | [],_,_ :: _,r,_=>r.elim
 | _ :: _,_,[],r,_=>r.elim
theorem chunk_len (wd:Nat):∀ (n:Nat) (l:List AC),(chunk wd n l).length=n
 | 0,_=>rfl
 | n+1,l=>by simp [chunk,chunk_len wd n]
theorem chunk_rep {S':Nat→Prop} (wd:Nat):∀ (n:Nat) (l:List AC) (b off:Nat),n*wd≤l.length→RepRow O S' w l b off→RepRows O S' w wd (chunk wd n l) b off
 | 0,_,_,_,_,_=>by simp only [chunk,RepRows]
 | n+1,l,b,off,h,r=>by
  rw [Nat.add_mul,Nat.one_mul] at h;simp only [chunk,RepRows];refine ⟨by simp;omega,?_,chunk_rep wd n (l.drop wd) b (off+wd) (by simp;omega) (RepRow.drop wd l b off r)⟩;obtain ⟨vs,h1,h2⟩:=RepRow.list l b off r
  exact RepRow.of_list (l.take wd) (vs.take wd) b off (fun j v hj=>by
   rw [List.getElem?_take] at hj
   split at hj
   ·exact h1 j v hj
   ·cases hj) (All2.take wd h2)
theorem upM_take:∀ cs:List AC,∃ n,upM cs=cs.take n
 | []=>⟨0,rfl⟩
 | c :: cs=>by
  obtain ⟨n,h⟩:=upM_take cs
  cases c<;>first | exact ⟨0,rfl⟩ | exact ⟨n+1,by simp [upM,h]⟩
theorem cutM_take (fl:Bool) (cs:List AC):∃ n,cutM fl cs=cs.take n:=by
 cases fl with
 | true=>exact ⟨cs.length,by simp [cutM]⟩
 | false=>exact upM_take cs
theorem frzK_rep {fl:Bool} {bv:Nat→Option Bx} {S':Nat→Prop} (hs:∀ b,S b→S' b) (hb:∀ h b,β h=some b→∃ X,bv h=some X∧BxRep O β S w b X∧(fl=true∨X.cells.isSome=true→S' b)):∀ (f:Nat) (c:AC) (k:AC→Prop) (x:Value),RepC O β S w x c→frzK fl bv f c k→∃ d,k d∧Rep0 O S' w d x
 | 0,_,_,_,_,h=>h.elim
 | f+1,c,k,x,r,h=>by
  have up:∀ {c:AC} {x:Value},Rep0 O S w c x→Rep0 O S' w c x:=fun h=>Rep0.evo (Evo.refl _ _ _) hs _ _ h;have low:=mapK_rep (frzK_rep hs hb f);have cellAt:∀ {b T:Nat} {vs ts:List Value},w.heap[b]?=some (.cells (vs++ts).toArray T (0,0))→∀ j v,vs[j]?=some v→w.cell? ⟨b,0+j,none⟩=some v:=by
   intro b T vs ts hh j v hj
   simp only [World.cell?,hh,Nat.zero_add];have hl:=(List.getElem?_eq_some_iff.1 hj).1
   simp [List.getElem?_append_left hl,hj]
  cases c with
  | v y=>exact ⟨_,h,up r⟩
  | o _ _=>exact ⟨_,h,up r⟩
  | e _=>exact ⟨_,h,up r⟩
  | sl _ _=>exact ⟨_,h,up r⟩
  | mp _ _ _=>exact ⟨_,h,up r⟩
  | cl _ _=>exact ⟨_,h,up r⟩
  | u=>exact h.elim
  | p g off =>
   obtain ⟨b,hg,rfl⟩:=r;obtain ⟨X,e,hX,hS⟩:=hb g b hg;simp only [frzK,e] at h;have fin:∀ {T:Nat} {vs ts:List Value} {cs:List AC},w.heap[b]?=some (.cells (vs++ts).toArray T (0,0))→RepCs O β S w vs cs→mapK (frzK fl bv f) cs (fun l=>k (.e (l.drop off)))→S' b→∃ d,k d∧Rep0 O S' w d (.pointer (some ⟨b,off,none⟩)):=by
    intro T vs ts cs h1 h2 h hS
    obtain ⟨ds,h3,h4⟩:=low cs _ vs h2 h;refine ⟨_,h3,?_⟩;simp only [Rep0]
    have:=RepRow.drop off ds b 0 (RepRow.of_list ds vs b 0 (cellAt h1) h4)
    exact ⟨b,off,hS,rfl,by rw [Nat.zero_add] at this;exact this⟩
   cases X with
   | b T cs =>
    obtain ⟨vs,h1,h2,_⟩:=hX;obtain ⟨n,hc⟩:=cutM_take fl cs;have h:mapK (frzK fl bv f) (cutM fl cs) (fun l=>k (.e (l.drop off))):=h;rw [hc] at h
    exact fin (vs:=vs.take n) (ts:=vs.drop n) (by simpa using h1) (All2.take n h2) h (hS (.inr rfl))
   | r T wd cs =>
    obtain ⟨vs,ts,h1,h2,_⟩:=hX
    exact fin h1 h2 h (hS (.inr rfl))
   | _=>exact h.elim
  | pm g =>
   obtain ⟨b,hg,rfl⟩:=r;obtain ⟨X,e,hX,hS⟩:=hb g b hg;simp only [frzK,e] at h
   cases X with
   | m ag ks vs =>
    obtain ⟨E,ck,L,h1,h2,h3,h4⟩:=hX;obtain ⟨hfl,h⟩:=cond_ff h;refine ⟨_,h,?_⟩;simp only [Rep0]
    exact ⟨b,E,ck,L,hS (.inl hfl),rfl,h1,h2,h3,RepEnts.evo (Evo.refl _ _ _) hs ag vs ks L h4⟩
   | _=>exact h.elim
  | os g m wd' =>
   obtain ⟨b,cap,c',T',hg,rfl,_,_,_,hcap⟩:=r;obtain ⟨X,e,hX,hS⟩:=hb g b hg;simp only [frzK,e] at h
   cases X with
   | r T wd cs =>
    obtain ⟨vs,ts,h1,h2,_⟩:=hX;obtain ⟨hc,h⟩:=cond_ff h;rw [Nat.ble_eq] at hc;obtain ⟨ds,h3,h4⟩:=low cs _ vs h2 h;refine ⟨_,h3,?_⟩;simp only [Rep0];have l1:=h2.len;have l2:=h4.len
    exact ⟨some ⟨b,0,none⟩,b,0,cap,by rw [chunk_len],fun _=>⟨rfl,hS (.inr rfl),by rw [chunk_len];exact hcap⟩,chunk_rep wd m ds b 0 (by omega) (RepRow.of_list ds vs b 0 (cellAt h1) h4)⟩
   | _=>exact h.elim
  | clp c g cs =>
   obtain ⟨b,us,hg,rfl,r⟩:=r;obtain ⟨X,e,hX,hS⟩:=hb g b hg;simp only [frzK,e] at h
   cases X with
   | b T ds =>
    obtain ⟨vs,h1,h2,_⟩:=hX
    cases hy:Nat.beq c 1000000 with
    | true=>simp only [hy,cond_true] at h
    | false =>
    simp only [hy,cond_false] at h;obtain ⟨ls,h3,h4⟩:=low ds _ vs h2 h;refine ⟨_,h3,?_⟩;simp only [Rep0];refine ⟨_,clV_ne hy _ _,?_⟩;simp only [RepL,Rep0]
    exact ⟨⟨b,0,hS (.inr rfl),rfl,RepRow.of_list ls vs b 0 (cellAt (ts:=[]) (by simpa using h1)) h4⟩,RepL.evo (Evo.refl _ _ _) hs cs us r⟩
   | _=>exact h.elim
theorem argsK_rep {fl:Bool} {bv:Nat→Option Bx} {S':Nat→Prop} (hs:∀ b,S b→S' b) (hb:∀ h b,β h=some b→∃ X,bv h=some X∧BxRep O β S w b X∧(fl=true∨X.cells.isSome=true→S' b)) (hρ:∀ x,RepV O β S w (ev x) (ρ x)):∀ (l:List Operand) (k:List AV→Prop),argsK fl ρ bv l k→∃ xs,k xs∧All2 (RepW O (fun _=>none) S' w) (l.map ev) xs
 | [],k,h=>⟨[],h,trivial⟩
 | x :: l,k,h=>by
  simp only [argsK] at h;have hx:=hρ x
  cases e:ρ x with
  | c y =>
   rw [e] at h hx;have hx:RepC O β S w (ev x) y:=hx
   cases hp:isP y with
   | true =>
    simp only [hp,cond_true] at h;obtain ⟨d,h1,h2⟩:=frzK_rep hs hb 4 y _ _ hx h;obtain ⟨xs,h3,h4⟩:=argsK_rep hs hb hρ l _ h1
    exact ⟨_,h3,Rep0.toC h2,h4⟩
   | false =>
    simp only [hp,cond_false] at h;obtain ⟨xs,h1,h2⟩:=argsK_rep hs hb hρ l _ h
    exact ⟨_,h1,Rep0.toC (Rep0.evo (Evo.refl _ _ _) hs _ _ (RepC.to0 hx hp)),h2⟩
  | g cs =>
   rw [e] at h hx;simp only [allK_iff] at h;obtain ⟨hn,h⟩:=cond_ff h;obtain ⟨xs,h1,h2⟩:=argsK_rep hs hb hρ l _ h;obtain ⟨vs,e1,r⟩:=hx
   exact ⟨_,h1,⟨vs,e1,RepCs.evo (Evo.refl _ _ _) hs (fun _ _ h=>by cases h) (R0s.toC (β:=fun _=>none) (r.to0 hn))⟩,h2⟩
  | t _=>rw [e] at h;exact h.elim
  | j=>rw [e] at h;exact h.elim
theorem argsK_rep0 {fl:Bool} {bv:Nat→Option Bx} (hρ:∀ x,RepV O β S w (ev x) (ρ x)):∀ (l:List Operand) (k:List AV→Prop),argsK fl ρ bv l k→lends ρ l=false→∃ xs,k xs∧All2 (RepW O (fun _=>none) S w) (l.map ev) xs
 | [],k,h,_=>⟨[],h,trivial⟩
 | x :: l,k,h,hl=>by
  simp only [argsK] at h;simp only [lends] at hl;have hx:=hρ x
  cases e:ρ x with
  | c y =>
   rw [e] at h hx hl;have hx:RepC O β S w (ev x) y:=hx
   cases hp:isP y with
   | true=>simp [hp] at hl
   | false =>
    simp only [hp,cond_false] at h hl;obtain ⟨xs,h1,h2⟩:=argsK_rep0 hρ l _ h hl
    exact ⟨_,h1,Rep0.toC (RepC.to0 hx hp),h2⟩
  | g cs =>
   rw [e] at h hx hl;simp only [allK_iff] at h;obtain ⟨hn,h⟩:=cond_ff h;obtain ⟨xs,h1,h2⟩:=argsK_rep0 hρ l _ h hl;obtain ⟨vs,e1,r⟩:=hx
   exact ⟨_,h1,⟨vs,e1,R0s.toC (β:=fun _=>none) (r.to0 hn)⟩,h2⟩
  | t _=>rw [e] at h;exact h.elim
  | j=>rw [e] at h;exact h.elim
theorem eqK_rep (zs:List AC):∀ (xs ys:List AC) (k:Bool→Prop),eqK zs xs ys k→∃ b,k b∧∀ vs us,RepCs O β S w vs xs→RepCs O β S w us ys→EqV zs vs us b:=by
 induction zs with
 | nil =>
  intro xs ys k h
  cases xs with
  | cons _ _=>simp [eqK] at h
  | nil =>
   cases ys with
   | cons _ _=>simp [eqK] at h
   | nil =>
    refine ⟨true,h,fun vs us h1 h2 => ?_⟩
    cases vs with
    | cons _ _=>exact h1.elim
    | nil=>cases us with
     | nil=>rfl
     | cons _ _=>exact h2.elim
 | cons c zs ih =>
  intro xs ys k h
  cases c<;>try (simp [eqK] at h;done)
  rename_i z
  cases z<;>try (simp [eqK] at h;done)
  all_goals
   cases xs<;>try (simp [eqK] at h;done)
   rename_i x xs
   cases x<;>try (simp [eqK] at h;done)
   rename_i x
   cases x<;>try (simp [eqK] at h;done)
   cases ys<;>try (simp [eqK] at h;done)
   rename_i y ys
   cases y<;>try (simp [eqK] at h;done)
   rename_i y
   cases y<;>try (simp [eqK] at h;done)
  ·rename_i x y
   simp only [eqK] at h;obtain ⟨b,h1,h2⟩:=ih xs ys _ h;refine ⟨_,h1,fun vs us r1 r2 => ?_⟩
   cases vs with
   | nil=>exact r1.elim
   | cons v vs=>cases us with
    | nil=>exact r2.elim
    | cons u us =>
     have e1:=r1.1;have e2:=r2.1;simp only [RepC,Rep0] at e1 e2;rw [e1.1,e2.1]
     exact ⟨b,h2 vs us r1.2 r2.2,rfl⟩
  ·rename_i p x q y
   simp only [eqK] at h;obtain ⟨hb,h⟩:=cond_ff h;simp only [Bool.and_eq_true,decide_eq_true_eq] at hb;obtain ⟨b,h1,h2⟩:=ih xs ys _ h;refine ⟨_,h1,fun vs us r1 r2 => ?_⟩
   cases vs with
   | nil=>exact r1.elim
   | cons v vs=>cases us with
    | nil=>exact r2.elim
    | cons u us =>
     have e1:=r1.1;have e2:=r2.1;simp only [RepC,Rep0] at e1 e2;rw [e1.1,e2.1]
     exact ⟨hb.1,hb.2,b,h2 vs us r1.2 r2.2,rfl⟩
  ·rename_i x y
   simp only [eqK] at h;obtain ⟨b,h1,h2⟩:=ih xs ys _ h;refine ⟨_,h1,fun vs us r1 r2 => ?_⟩
   cases vs with
   | nil=>exact r1.elim
   | cons v vs=>cases us with
    | nil=>exact r2.elim
    | cons u us =>
     have e1:=r1.1;have e2:=r2.1;simp only [RepC,Rep0] at e1 e2;rw [e1.1,e2.1]
     exact ⟨b,h2 vs us r1.2 r2.2,rfl⟩
end
section
variable {P:Program} {O:Opq} {T:Tys} {n:Nat} {w0:W0} {β:Nat→Option Nat} {S:Nat→Prop} {V:View} {a:Act} {w:World}
def isNew:Op→Bool
 | .alloc _ | .box _ _=>true
 | .makeMap _ none=>true
 | .call c=>ownC c.callee
 | _=>false
theorem wp_val {o:Oper} {next:Act→World→Prop} {Q:Exit→Act→World→Prop} {v:Value} {w':World} (hr:(execOp a.eval o).run P w=.ok (.value v) w') (h:next (a.put o.dst v) w'):o.wp P a w next Q:=by
 unfold Oper.wp;rw [hr];exact h
theorem wp_skp {o:Oper} {next:Act→World→Prop} {Q:Exit→Act→World→Prop} {w':World} (hr:(execOp a.eval o).run P w=.ok .skip w') (h:next (a.put o.dst undef) w'):o.wp P a w next Q:=by
 unfold Oper.wp;rw [hr];exact h
def After (O:Opq) (n:Nat) (w0:W0) (V:View) (d:Option Nat) (Kp:Eff→Prop) (next:Act→World→Prop):Prop :=
 ∀ e a' w' β' S',Kp e→Corr O n w0 β' S' (V.app e d) a' w'→next a' w'
theorem after_val {o:Oper} {Kp:Eff→Prop} {next:Act→World→Prop} {Q:Exit→Act→World→Prop} (C:Corr O n w0 β S V a w) (hd:∀ t,o.dst=some t→t<n) (K:After O n w0 V o.dst Kp next)
  {v:Value} {x:AV} (hr:(execOp a.eval o).run P w=.ok (.value v) w) (r:RepV O β S w v x) (hk:Kp (.val x)):o.wp P a w next Q :=
 wp_val hr (K _ _ _ _ _ hk (C.put hd r))
theorem evC {y:Value} {x:Operand} (C:Corr O n w0 β S V a w) (e:V.ev x=.c (.v y)):a.eval x=y:=by
 have:=C.ev x;rw [e] at this;exact this.1
theorem RepW.toV {v:Value} {x:AV} (h:RepW O β S w v x) (hx:∀ l,x≠.t l):RepV O β S w v x:=by
 cases x with
 | t l=>exact absurd rfl (hx l)
 | _=>exact h
theorem after_sc {o:Oper} {Kp:Eff→Prop} {next:Act→World→Prop} {Q:Exit→Act→World→Prop} (C:Corr O n w0 β S V a w) (hd:∀ t,o.dst=some t→t<n) (K:After O n w0 V o.dst Kp next)
  {v:Value} (hr:(execOp a.eval o).run P w=.ok (.value v) w) (h1:v.oneCell'=true) (hk:Kp (.val (.c (.v v)))):o.wp P a w next Q :=
 after_val C hd K hr (x:=.c (.v v)) ⟨rfl,h1⟩ hk
theorem op_move (C:Corr O n w0 β S V a w) {o:Oper} {x:Operand} (ho:o.op=.move x∨o.op=.assign x) {Kp:Eff→Prop} (h:fwdK (V.ev x) fun v=>Kp (.val v)) (hd:∀ t,o.dst=some t→t<n)
  {next:Act→World→Prop} {Q:Exit→Act→World→Prop} (K:After O n w0 V o.dst Kp next):o.wp P a w next Q:=by
 refine after_val C hd K (v:=a.eval x) ?_ (C.ev x) ((fwdK_iff _ _).1 h).2
 rcases ho with ho | ho <;> · unfold execOp;simp only [ho];rfl
theorem op_pick (C:Corr O n w0 β S V a w) {o:Oper} {c x y:Operand} (ho:o.op=.pick c x y) {Kp:Eff→Prop} (h:evOp P O T o.op V.ev V.bv Kp) (hd:∀ t,o.dst=some t→t<n)
  {next:Act→World→Prop} {Q:Exit→Act→World→Prop} (K:After O n w0 V o.dst Kp next):o.wp P a w next Q:=by
 rw [ho] at h;simp only [evOp] at h
 split at h
 ·rename_i t ht
  have e:=evC C ht
  cases t with
  | true=>exact after_val C hd K (v:=a.eval x) (by unfold execOp;simp [ho,e,asBool]) (C.ev x) ((fwdK_iff _ _).1 h).2
  | false=>exact after_val C hd K (v:=a.eval y) (by unfold execOp;simp [ho,e,asBool]) (C.ev y) ((fwdK_iff _ _).1 h).2
 ·exact h.elim
theorem op_alloc (TK:TyOK P O T) (C:Corr O n w0 β S V a w) {o:Oper} {t:TypeId} (ho:o.op=.alloc t) {Kp:Eff→Prop} (h:evOp P O T o.op V.ev V.bv Kp) {d:Nat} (hd:o.dst=some d) (hl:d<n) (hf:V.bv d=none)
  {next:Act→World→Prop} {Q:Exit→Act→World→Prop} (K:After O n w0 V o.dst Kp next):o.wp P a w next Q:=by
 rw [ho] at h;simp only [evOp] at h
 cases ht:T t with
 | none=>simp [ht] at h
 | some ty =>
  simp only [ht] at h
  cases hb:O.box t with
  | false=>simp [hb] at h
  | true =>
   simp only [hb,cond_true] at h;obtain ⟨i,z,hi,_,hz,r⟩:=(TK t ty ht).info;refine wp_val (v:=.pointer (some ⟨w.heap.size,0,none⟩)) (w':=w.alloc (.cells z.cells t)) ?_ ?_
   ·unfold execOp;simp [ho,Instr.alloc,zeroValue,typeInfo,hi,hz,newVar,newRow]
   ·rw [hd] at K ⊢;have hx:Ext w (w.alloc (.cells z.cells t)):=(Below.refl _ _).alloc (Nat.le_refl _) _;have hnew:(w.alloc (.cells z.cells t)).heap[w.heap.size]?=some (.cells z.cells t (0,0)):=by
     show (w.heap.push _)[w.heap.size]?=_
     simp
    have:=C.new' hl hf (X:=.b t ty.zero) (v:=.pointer (some ⟨w.heap.size,0,none⟩)) hx (Nat.le_refl _) (S':=S) (fun _ h=>h) (fun _ h=>.inl h) (fun hS=>by have:=C.sl _ hS;omega)
     (fun β' _=>⟨z.cells.toList,by simpa using hnew,(r S _).evo (Evo.refl _ _ _) (fun _ h=>h) (fun _ _ h=>by cases h),hb⟩) (fun β' hβ=>⟨_,hβ,rfl⟩)
    exact K _ _ _ _ _ h (by simpa using this)
theorem op_box (C:Corr O n w0 β S V a w) {o:Oper} {t:TypeId} {x:Operand} (ho:o.op=.box t x) {Kp:Eff→Prop} (h:evOp P O T o.op V.ev V.bv Kp) {d:Nat} (hd:o.dst=some d) (hl:d<n) (hf:V.bv d=none)
  {next:Act→World→Prop} {Q:Exit→Act→World→Prop} (K:After O n w0 V o.dst Kp next):o.wp P a w next Q:=by
 rw [ho] at h;simp only [evOp] at h;obtain ⟨cs,h,r⟩:=cellsK_rep h (C.ev x)
 cases hb:O.box t with
 | false=>simp [hb] at h
 | true =>
  simp only [hb,cond_true] at h;refine wp_val (v:=.pointer (some ⟨w.heap.size,0,none⟩)) (w':=w.alloc (.cells (a.eval x).cells t)) ?_ ?_
  ·unfold execOp;simp [ho,Instr.box,newVar,newRow]
  ·rw [hd] at K ⊢;have hx:Ext w (w.alloc (.cells (a.eval x).cells t)):=(Below.refl _ _).alloc (Nat.le_refl _) _;have hnew:(w.alloc (.cells (a.eval x).cells t)).heap[w.heap.size]?=some (.cells (a.eval x).cells t (0,0)):=by
    show (w.heap.push _)[w.heap.size]?=_
    simp
   have:=C.new' hl hf (X:=.b t cs) (v:=.pointer (some ⟨w.heap.size,0,none⟩)) hx (Nat.le_refl _) (S':=S) (fun _ h=>h) (fun _ h=>.inl h) (fun hS=>by have:=C.sl _ hS;omega)
    (fun β' hβ=>⟨(a.eval x).cells.toList,by simpa using hnew,r.evo (Evo.of_ext hx C.sl) (fun _ h=>h) hβ,hb⟩) (fun β' hβ=>⟨_,hβ,rfl⟩)
   exact K _ _ _ _ _ h (by simpa using this)
theorem op_build (TK:TyOK P O T) (C:Corr O n w0 β S V a w) {o:Oper} {t:TypeId} {ps:Array (Nat×Operand)} (ho:o.op=.build t ps) {Kp:Eff→Prop} (h:evOp P O T o.op V.ev V.bv Kp) (hd:∀ t,o.dst=some t→t<n)
  {next:Act→World→Prop} {Q:Exit→Act→World→Prop} (K:After O n w0 V o.dst Kp next):o.wp P a w next Q:=by
 rw [ho] at h;simp only [evOp] at h
 cases ht:T t with
 | none=>simp [ht] at h
 | some ty =>
  simp only [ht] at h
  cases he:ty.flds.isEmpty with
  | true=>simp [he] at h
  | false =>
   simp only [he,cond_false] at h;obtain ⟨i,z,hi,hs,hz,r⟩:=(TK t ty ht).info;obtain ⟨fs,hu,hp⟩:=(TK t ty ht).str he;obtain ⟨us,ds,f1,f2,f3⟩:=fillK_rep C.ev ty.flds ((ty.flds.map fun x=>(x.1,x.2.1)).toArray[·]?) (fun i x hx=>by simp [hx]) ps.toList ty.zero z.cells.toList _ h ((r S w).evo (Evo.refl _ _ _) (fun _ h=>h) (fun _ _ h=>by cases h));refine after_val C hd K (v:=.agg us) (x:=.g ds) ?_ ⟨us.toList,by simp,f2⟩ ((allK_iff _ _).1 f3);unfold execOp;simp only [ho];rw [Sem.run_bind,run_build w t _ us (by
    unfold Program.built;simp only [hi,hu,hz,hp]
    simpa using f1)]
   rfl
theorem op_buildSlice (TK:TyOK P O T) (C:Corr O n w0 β S V a w) {o:Oper} {t:TypeId} {m:Nat} {ps:Array (Nat×Operand)} (ho:o.op=.buildSlice t m ps) {Kp:Eff→Prop} (h:evOp P O T o.op V.ev V.bv Kp) (hd:∀ t,o.dst=some t→t<n)
  {next:Act→World→Prop} {Q:Exit→Act→World→Prop} (K:After O n w0 V o.dst Kp next):o.wp P a w next Q:=by
 rw [ho] at h;simp only [evOp] at h
 cases ht:T t with
 | none=>simp [ht] at h
 | some ty =>
  simp only [ht] at h
  cases he:ty.elem with
  | none=>simp [he] at h
  | some wd =>
   simp only [he] at h;obtain ⟨e,i,z,hu,hi,hs,hz⟩:=(TK t ty ht).elem wd he
   by_cases hm:ps.toList.length=m
   case neg =>
    obtain ⟨us,rs,_,_,_,f4,f5⟩:=rowsK_rep C.ev wd ps.toList 0 _ h [] (List.replicate (ps.toList.length*wd) undef) (by simp) (by simp)
    cases hb:Nat.beq rs.length m with
    | false=>simp [hb] at f5
    | true=>rw [Nat.beq_eq] at hb;exact absurd (f4 ▸ hb) hm
   subst hm;have hlen:(((Array.range (ps.toList.length*wd)).map (z.cells[· % z.cells.size]!)).toList).length=ps.toList.length*wd:=by simp
   obtain ⟨us,rs,f1,f2,f3,f4,f5⟩:=rowsK_rep C.ev wd ps.toList 0 _ h [] ((Array.range (ps.toList.length*wd)).map (z.cells[· % z.cells.size]!)).toList (by simp) hlen
   cases hb:Nat.beq rs.length ps.toList.length&&Nat.ble (ps.toList.length*wd) 16777216&&Nat.blt 0 (ps.toList.length*wd) with
   | false=>rw [hb] at f5;exact f5.elim
   | true =>
    rw [hb] at f5;simp only [Bool.and_eq_true,Nat.ble_eq,Nat.blt_eq] at hb;obtain ⟨⟨_,b1⟩,b2⟩:=hb;have hrun:(execOp a.eval o).run P w=.ok (.value (.slice (some ⟨w.heap.size,0,none⟩) ps.toList.length ps.toList.length)) (w.alloc (.cells us.toArray e)):=by
     unfold execOp;simp only [ho];rw [Sem.run_bind,run_buildSlice w t e ps.toList.length _ us.toArray i z hu hi hz (by rw [hs];omega) (by rw [hs];omega) (by rw [hs];have f2:=f1;rw [List.nil_append,List.nil_append,Array.toArray_toList] at f2;rw [Array.toList_map];exact f2)]
     rfl
    have hx:Ext w (w.alloc (.cells us.toArray e)):=(Below.refl _ _).alloc (Nat.le_refl _) _;have hsz:(w.alloc (.cells us.toArray e)).heap.size=w.heap.size+1:=by show (w.heap.push _).size=_;simp
    have C1:=C.evo hx (S':=fun b=>S b∨b=w.heap.size) (fun _ h=>.inl h) (fun b h=>h.imp id fun h=>by subst h;exact ⟨Nat.le_refl _,by rw [hsz];omega⟩);have hnew:(w.alloc (.cells us.toArray e)).heap[w.heap.size]?=some (.cells us.toArray e (0,0)):=by
     show (w.heap.push _)[w.heap.size]?=_
     simp
    refine wp_val hrun (K (.val (.c (.sl wd rs))) _ _ _ _ f5 (C1.put hd (x:=.c (.sl wd rs)) ?_))
    show Rep0 O _ _ _ _
    simp only [Rep0];refine ⟨some ⟨w.heap.size,0,none⟩,w.heap.size,0,ps.toList.length,by rw [f4],fun _=>⟨rfl,.inr rfl,by rw [f4];exact Nat.le_refl _⟩,?_⟩;refine RepRows.of_list wd rs us _ _ f3 (fun j v hj => ?_) (All2.mono (fun _ _ r=>Rep0.evo (Evo.of_ext hx C.sl) (fun _ h=>.inl h) _ _ r) f2);simp only [World.cell?,hnew]
    simpa using hj
theorem op_load (TK:TyOK P O T) (C:Corr O n w0 β S V a w) {o:Oper} {t:TypeId} {x:Operand} (ho:o.op=.load t x) {Kp:Eff→Prop} (h:evOp P O T o.op V.ev V.bv Kp) (hd:∀ t,o.dst=some t→t<n)
  {next:Act→World→Prop} {Q:Exit→Act→World→Prop} (K:After O n w0 V o.dst Kp next):o.wp P a w next Q:=by
 rw [ho] at h;simp only [evOp] at h
 cases ht:T t with
 | none=>simp [ht] at h
 | some ty =>
  simp only [ht] at h;have hr:=C.ev x;have fin:∀ {b off:Nat} {vs:List Value} {cs:List AC},a.eval x=.pointer (some ⟨b,off,none⟩)→(∀ j v,vs[j]?=some v→w.cell? ⟨b,off+j,none⟩=some v)→RepCs O β S w vs cs→partK ty.agg ty.zero.length cs (fun v=>Kp (.val v))→o.wp P a w next Q:=by
   intro b off vs cs e hc r hk
   obtain ⟨v,y,h1,h2,h3,h4,h5⟩:=load_rep (β:=β) TK ht hc r hk;refine after_val C hd K (v:=v) (x:=y) ?_ (h2.toV h5) h3;unfold execOp;simp only [ho,e];rw [Sem.run_bind,h1];rfl
  split at h
  ·rename_i k off e
   rw [e] at hr;obtain ⟨b,hb,e'⟩:=hr;obtain ⟨X,q1,q2,_⟩:=C.bl k b hb;simp only [q1] at h
   split at h
   ·rename_i U cs hc
    obtain ⟨vs,ts,g1,g2,_⟩:=q2.toCells hc;refine fin (vs:=vs.drop off) e' (fun j v hj => ?_) (All2.drop off g2) h;rw [List.getElem?_drop] at hj;have hl:=(List.getElem?_eq_some_iff.1 hj).1;simp only [World.cell?,g1]
    simpa [List.getElem?_append_left hl] using hj
   ·exact h.elim
  ·rename_i cs e
   rw [e] at hr;have hr':Rep0 O S w (.e cs) (a.eval x):=hr;simp only [Rep0] at hr';obtain ⟨b,off,_,e',r⟩:=hr';obtain ⟨vs,h1,h2⟩:=RepRow.list cs b off r;obtain ⟨v,y,g1,g2,g3,g4,g5⟩:=load_rep (β:=β) TK ht h1 h2.toC h;refine after_val C hd K (v:=v) (x:=y) ?_ (g2.toV g5) (cond_ff g3).2;unfold execOp;simp only [ho,e'];rw [Sem.run_bind,g1];rfl
  ·rename_i g i e
   have e':=evC C e
   split at h
   ·rename_i y ea et
    obtain ⟨h1,h2⟩:=O.tabR C.inv g i y et;obtain ⟨d,hu,hdr,_⟩:=(TK t ty ht).und;rw [ea] at hdr;refine after_sc C hd K (v:=y) ?_ h2 h;unfold execOp;simp only [ho,e'];simp only [Instr.loadAt,Instr.sureAddr,Sem.run_bind,Sem.run_pure,Result.andThen_ok,loadVar,run_isAgg hu w,hdr]
    simp [load,Sem.run,h1]
   ·exact h.elim
  ·exact h.elim
theorem op_store (TK:TyOK P O T) (C:Corr O n w0 β S V a w) {o:Oper} {t:TypeId} {x y:Operand} (ho:o.op=.store t x y) {Kp:Eff→Prop} (h:evOp P O T o.op V.ev V.bv Kp) (hd:∀ t,o.dst=some t→t<n)
  {next:Act→World→Prop} {Q:Exit→Act→World→Prop} (K:After O n w0 V o.dst Kp next):o.wp P a w next Q:=by
 rw [ho] at h;simp only [evOp] at h
 cases ht:T t with
 | none=>simp [ht] at h
 | some ty =>
  simp only [ht] at h;have hr:=C.ev x
  split at h
  ·rename_i k off e
   rw [e] at hr;obtain ⟨b,hb,e'⟩:=hr;obtain ⟨X,q1,q2,_⟩:=C.bl k b hb;simp only [q1] at h
   split at h
   ·rename_i U cs hx
    obtain ⟨vs,ts,g1,g2,_⟩:=q2.toCells hx;obtain ⟨xs,h,r⟩:=cellsK_rep h (C.ev y)
    cases hc:Nat.beq xs.length ty.zero.length&&Nat.ble (off+xs.length) cs.length with
    | false=>rw [hc] at h;exact h.elim
    | true =>
     rw [hc] at h;simp only [Bool.and_eq_true,Nat.beq_eq,Nat.ble_eq] at hc;obtain ⟨i,z,hi,hs,_⟩:=(TK t ty ht).info;have l1:=r.len;have l2:=g2.len;have hsz:(a.eval y).cells.size=xs.length:=by simpa using l1
     have hrun:(execOp a.eval o).run P w=.ok .skip (w.setCells b off (a.eval y).cells.toList):=by
      unfold execOp;simp only [ho,e'];rw [Sem.run_bind,store_run hi (by omega) (fun j hj => ?_) r.all]
      ·rfl
      ·have:off+j<(vs++ts).length:=by simp;omega
       have h':off+j<vs.length+ts.length:=by omega
       exact ⟨by simp [World.cell?,g1,h'],by simp [World.frozen?,g1]⟩
     have C1:=C.sto hb q1 hx r hc.2
     exact wp_skp hrun (K (.sto k _ (.t [])) _ _ _ _ ((allK_iff _ _).1 h) (C1.put hd (v:=undef) (x:=.t []) ⟨[],rfl,trivial⟩))
   ·exact h.elim
  ·exact h.elim
theorem op_fieldAddr (TK:TyOK P O T) (C:Corr O n w0 β S V a w) {o:Oper} {s:TypeId} {x:Operand} {f:Nat} (ho:o.op=.fieldAddr s x f) {Kp:Eff→Prop} (h:evOp P O T o.op V.ev V.bv Kp) (hd:∀ t,o.dst=some t→t<n)
  {next:Act→World→Prop} {Q:Exit→Act→World→Prop} (K:After O n w0 V o.dst Kp next):o.wp P a w next Q:=by
 rw [ho] at h;simp only [evOp] at h
 cases ht:T s with
 | none=>simp [ht] at h
 | some ty =>
  simp only [ht] at h;have hr:=C.ev x;have hrun:∀ {off m:Nat} {g:Bool} {b o':Nat},ty.flds[f]?=some (off,m,g)→a.eval x=.pointer (some ⟨b,o',none⟩)→(execOp a.eval o).run P w=.ok (.value (.pointer (some ⟨b,o'+off,none⟩))) w:=by
   intro off m g b o' hf e
   obtain ⟨fs,fd,i,d,h1,h2,h3,h4,h5,h6,_⟩:=(TK s ty ht).fld f off m g hf;have h7:i.size≠0:=by omega
   unfold execOp
   simp [ho,e,Instr.fieldAt,run_underlying h1,h2,Instr.sureAddr,fieldPlace,sizeOf,typeInfo,h4,h7,h3,Addr.add_mid]
  split at h
  ·rename_i off m g k o' e1 e2
   rw [e2] at hr;obtain ⟨b,hb,e'⟩:=hr
   exact after_val C hd K (x:=.c (.p k (o'+off))) (hrun e1 e') ⟨b,hb,rfl⟩ h
  ·rename_i off m g cs e1 e2
   rw [e2] at hr;have hr':Rep0 O S w (.e cs) (a.eval x):=hr;simp only [Rep0] at hr';obtain ⟨b,o',hS,e',r⟩:=hr';refine after_val C hd K (x:=.c (.e (cs.drop off))) (hrun e1 e') ?_ h
   show Rep0 O S w (.e (cs.drop off)) _
   simp only [Rep0]
   exact ⟨b,_,hS,rfl,RepRow.drop off cs b o' r⟩
  ·exact h.elim
theorem op_field (TK:TyOK P O T) (C:Corr O n w0 β S V a w) {o:Oper} {s:TypeId} {x:Operand} {f:Nat} (ho:o.op=.field s x f) {Kp:Eff→Prop} (h:evOp P O T o.op V.ev V.bv Kp) (hd:∀ t,o.dst=some t→t<n)
  {next:Act→World→Prop} {Q:Exit→Act→World→Prop} (K:After O n w0 V o.dst Kp next):o.wp P a w next Q:=by
 rw [ho] at h;simp only [evOp] at h
 cases ht:T s with
 | none=>simp [ht] at h
 | some ty =>
  simp only [ht] at h;have hr:=C.ev x
  split at h
  ·rename_i off m g cs e1 e2
   rw [e2] at hr;obtain ⟨vs,e',r⟩:=hr;obtain ⟨fs,fd,i,d,h1,h2,h3,h4,h5,h6,h7,h8⟩:=(TK s ty ht).fld f off m g e1;obtain ⟨p1,p2⟩:=partK_rep (β:=β) h (All2.drop off r)
   cases g with
   | true =>
    obtain ⟨hl,hk,q⟩:=p1 rfl;refine after_val C hd K (v:=.agg ((vs.drop off).take m).toArray) (x:=.g ((cs.drop off).take m)) ?_ (q.toV (by simp)) hk;unfold execOp
    simp [ho,e',Instr.field,run_underlying h1,h2,part,run_isAgg h7,h8,sizeOf,typeInfo,h4,asAgg,h3,h5,List.extract_eq_take_drop]
   | false =>
    obtain ⟨v,c,hv,hk,q⟩:=p2 rfl;refine after_val C hd K (v:=v) (x:=.c c) ?_ (q.toV (by simp)) hk;have hv':vs[off]?=some v:=by rw [List.getElem?_drop] at hv;simpa using hv
    unfold execOp
    simp [ho,e',Instr.field,run_underlying h1,h2,part,run_isAgg h7,h8,asAgg,h3,hv']
  ·exact h.elim
theorem op_indexAddr (TK:TyOK P O T) (C:Corr O n w0 β S V a w) {o:Oper} {t:TypeId} {x i:Operand} (ho:o.op=.indexAddr t x i) {Kp:Eff→Prop} (h:evOp P O T o.op V.ev V.bv Kp) (hd:∀ t,o.dst=some t→t<n)
  {next:Act→World→Prop} {Q:Exit→Act→World→Prop} (K:After O n w0 V o.dst Kp next):o.wp P a w next Q:=by
 rw [ho] at h;simp only [evOp] at h
 cases ht:T t with
 | none=>simp [ht] at h
 | some ty =>
  simp only [ht] at h;have hr:=C.ev x
  split at h
  ·rename_i wd wd' xs kk m e1 e2 e3
   obtain ⟨e,ie,z,hu,hi,hs,hz⟩:=(TK t ty ht).elem wd e1
   cases hc:Nat.beq wd wd'&&decide (0≤m)&&decide (m.toNat<xs.length) with
   | false=>rw [hc] at h;exact h.elim
   | true =>
    rw [hc] at h;simp only [Bool.and_eq_true,Nat.beq_eq,decide_eq_true_eq] at hc;obtain ⟨⟨hw,h0⟩,hl⟩:=hc;subst hw;rw [e2] at hr;have hr':Rep0 O S w (.sl wd xs) (a.eval x):=hr;simp only [Rep0] at hr';obtain ⟨ad,b,off,cap,ex,ha,r⟩:=hr';obtain ⟨ha,hS,_⟩:=ha (by omega);have ei:=evC C e3;obtain ⟨_,g2⟩:=RepRows.get wd xs b off m.toNat r hl;refine after_val C hd K (v:=.pointer (some ⟨b,off+m.toNat*wd,none⟩)) (x:=.c (.e (xs.getD m.toNat []))) ?_ ?_ h
    ·have hlt:m<(xs.length:Int):=by omega
     unfold execOp
     simp [ho,ei,ex,ha,Instr.indexAt,run_underlying hu,asIntOf,h0,hlt,sizeOf,typeInfo,hi,hs,Addr.add_mid]
    ·show Rep0 O S w (.e (xs.getD m.toNat [])) _
     simp only [Rep0]
     exact ⟨b,_,hS,rfl,g2⟩
  ·rename_i wd g m' cap' kk m e1 e2 e3
   obtain ⟨e,ie,z,hu,hi,hs,hz⟩:=(TK t ty ht).elem wd e1;obtain ⟨hc,h⟩:=cond_ff h;simp only [Bool.and_eq_true,decide_eq_true_eq] at hc;obtain ⟨h0,hl⟩:=hc;rw [e2] at hr;obtain ⟨b,_,_,_,hb,ex,_⟩:=hr;have ei:=evC C e3;refine after_val C hd K (v:=.pointer (some ⟨b,m.toNat*wd,none⟩)) (x:=.c (.p g (m.toNat*wd))) ?_ ⟨b,hb,rfl⟩ h;have hlt:m<(m':Int):=by omega
   unfold execOp
   simp [ho,ei,ex,Instr.indexAt,run_underlying hu,asIntOf,h0,hlt,sizeOf,typeInfo,hi,hs,Addr.add_mid]
  ·rename_i g kk m e1 e2 e3
   have ex:=evC C e2;have ei:=evC C e3
   split at h
   ·rename_i l el
    obtain ⟨e,ie,hu,hi,hs,_⟩:=(TK t ty ht).arr l el
    cases hc:decide (0≤m)&&decide (m.toNat<l) with
    | false=>rw [hc] at h;exact h.elim
    | true =>
     rw [hc] at h;simp only [Bool.and_eq_true,decide_eq_true_eq] at hc;obtain ⟨h0,hl⟩:=hc;have hlt:m<(l:Int):=by omega
     refine after_sc C hd K (v:=.pointer (some ⟨g,m.toNat,none⟩)) ?_ rfl h;unfold execOp
     simp [ho,ei,ex,Instr.indexAt,run_underlying hu,Instr.sureAddr,asIntOf,h0,hlt,sizeOf,typeInfo,hi,hs,Addr.add_mid]
   ·exact h.elim
  ·exact h.elim
theorem cond_ff' {b:Bool} {p:Prop} (h:cond b False p):b=false∧p:=by
 cases b with
 | true=>exact h.elim
 | false=>exact ⟨rfl,h⟩
theorem op_extract (C:Corr O n w0 β S V a w) {o:Oper} {x:Operand} {i:Nat} (ho:o.op=.extract x i) {Kp:Eff→Prop} (h:evOp P O T o.op V.ev V.bv Kp) (hd:∀ t,o.dst=some t→t<n)
  {next:Act→World→Prop} {Q:Exit→Act→World→Prop} (K:After O n w0 V o.dst Kp next):o.wp P a w next Q:=by
 rw [ho] at h;simp only [evOp] at h;have hr:=C.ev x
 split at h
 ·rename_i l e
  rw [e] at hr;obtain ⟨vs,e',r⟩:=hr;have fin:∀ y,l[i]?=some y→(∀ l,y≠.t l)→Kp (.val y)→o.wp P a w next Q:=by
   intro y hy hy' hk
   obtain ⟨v,hv,q⟩:=r.get i y hy;refine after_val C hd K (v:=v) (x:=y) ?_ ((q.evo (Evo.refl _ _ _) (fun _ h=>h) (fun _ _ h=>by cases h)).toV hy') hk;unfold execOp;simp [ho,e',Instr.extract,hv]
  split at h
  ·rename_i c e2;exact fin _ e2 (by simp) (cond_ff' h).2
  ·rename_i cs e2;exact fin _ e2 (by simp) (cond_ff ((allK_iff _ _).1 h)).2
  ·exact h.elim
 ·exact h.elim
theorem binK_run {op:BinOp} {x y:Value} {k:Value→Prop} (h:binK op x y k) (t:TypeId) (p q:Operand) (w:World):∃ r,(do eqGuard op t p q x y;binOp op t x y:Sem Value).run P w=.ok r w∧r.oneCell'=true∧k r:=by
 have sh:∀ {u v:IntKind} {x y:Int} {r:Value} {op:BinOp},(cond (decide (0≤y)) (k r) False)→r.oneCell'=true→(¬ y<0→(do eqGuard op t p q (.int u x) (.int v y);binOp op t (.int u x) (.int v y):Sem Value).run P w=.ok r w) →
   ∃ r,(do eqGuard op t p q (.int u x) (.int v y);binOp op t (.int u x) (.int v y):Sem Value).run P w=.ok r w∧r.oneCell'=true∧k r:=by
  intro u v x y r op h1 h2 h3
  by_cases hy:0≤y
  ·simp only [hy,decide_true,cond_true] at h1;exact ⟨r,h3 (by omega),h2,h1⟩
  ·simp [hy] at h1
 have eq:∀ {u v:IntKind} {x y:Int} {r:Value} {op:BinOp},(cond (decide (u=v)) (k r) False)→r.oneCell'=true→(u=v→(do eqGuard op t p q (.int u x) (.int v y);binOp op t (.int u x) (.int v y):Sem Value).run P w=.ok r w) →
   ∃ r,(do eqGuard op t p q (.int u x) (.int v y);binOp op t (.int u x) (.int v y):Sem Value).run P w=.ok r w∧r.oneCell'=true∧k r:=by
  intro u v x y r op h1 h2 h3
  by_cases hy:u=v
  ·simp only [hy,decide_true,cond_true] at h1;exact ⟨r,h3 hy,h2,h1⟩
  ·simp [hy] at h1
 have dv:∀ {u v:IntKind} {x y:Int} {r:Value} {op:BinOp},(cond (decide (u=v)&&decide (y≠0)) (k r) False)→r.oneCell'=true→(u=v→y≠0→(do eqGuard op t p q (.int u x) (.int v y);binOp op t (.int u x) (.int v y):Sem Value).run P w=.ok r w) →
   ∃ r,(do eqGuard op t p q (.int u x) (.int v y);binOp op t (.int u x) (.int v y):Sem Value).run P w=.ok r w∧r.oneCell'=true∧k r:=by
  intro u v x y r op h1 h2 h3
  by_cases hy:u=v
  ·by_cases h0:y=0
   ·simp [h0] at h1
   ·simp only [hy,decide_true,Bool.true_and,ne_eq,h0,not_false_eq_true,cond_true] at h1;exact ⟨r,h3 hy h0,h2,h1⟩
  ·simp [hy] at h1
 unfold binK at h
 split at h
 ·exact sh h rfl fun hy=>by simp [eqGuard,binOp,Op.shift,hy]
 ·exact sh h rfl fun hy=>by simp [eqGuard,binOp,Op.shift,hy]
 ·exact eq h rfl fun hy=>by simp [eqGuard,binOp,hy,Op.intArith]
 ·exact eq h rfl fun hy=>by simp [eqGuard,binOp,hy,Op.intArith]
 ·exact eq h rfl fun hy=>by simp [eqGuard,binOp,hy,Op.intArith]
 ·exact dv h rfl fun hy h0=>by simp [eqGuard,binOp,hy,Op.intDiv,h0]
 ·exact dv h rfl fun hy h0=>by simp [eqGuard,binOp,hy,Op.intDiv,h0]
 ·exact eq h rfl fun hy=>by subst hy;simp [eqGuard,binOp,Op.intBits]
 ·exact eq h rfl fun hy=>by subst hy;simp [eqGuard,binOp,Op.intBits]
 ·exact eq h rfl fun hy=>by subst hy;simp [eqGuard,binOp,Op.intBits]
 ·exact eq h rfl fun hy=>by simp [eqGuard,binOp,hy,Op.intCmp]
 ·exact eq h rfl fun hy=>by simp [eqGuard,binOp,hy,Op.intCmp]
 ·exact eq h rfl fun hy=>by simp [eqGuard,binOp,hy,Op.intCmp]
 ·exact eq h rfl fun hy=>by simp [eqGuard,binOp,hy,Op.intCmp]
 ·exact eq h rfl fun hy=>by simp [eqGuard,binOp,hy,Op.intCmp]
 ·exact eq h rfl fun hy=>by simp [eqGuard,binOp,hy,Op.intCmp]
 ·exact ⟨_,by simp [eqGuard,binOp,Op.stringOp],rfl,h⟩
 ·exact ⟨_,by simp [eqGuard,binOp,Op.stringOp],rfl,h⟩
 ·rename_i u v
  cases hf:fitsB u v
  ·rw [hf] at h;exact h.elim
  ·rw [hf] at h;have hy:=of_fits hf;refine ⟨_,?_,rfl,h⟩;have hn:¬ (((u.size+v.size:Nat):Int)>IntKind.i64.max):=by omega
   simp only [eqGuard,binOp,Op.stringOp,Sem.run_bind];rw [if_neg hn];rfl
 ·exact h.elim
theorem op_binOp (TK:TyOK P O T) (C:Corr O n w0 β S V a w) {o:Oper} {op:BinOp} {t u:TypeId} {x y:Operand} (ho:o.op=.binOp op t x y u) {Kp:Eff→Prop} (h:evOp P O T o.op V.ev V.bv Kp) (hd:∀ t,o.dst=some t→t<n)
  {next:Act→World→Prop} {Q:Exit→Act→World→Prop} (K:After O n w0 V o.dst Kp next):o.wp P a w next Q:=by
 rw [ho] at h;simp only [evOp] at h;have run:∀ {r:Value},(do eqGuard op t x y (a.eval x) (a.eval y);binOp op t (a.eval x) (a.eval y):Sem Value).run P w=.ok r w→(execOp a.eval o).run P w=.ok (.value r) w:=by
  intro r hr
  unfold execOp;simp only [ho];rw [Sem.run_bind,hr];rfl
 split at h
 ·rename_i p q e1 e2
  have f1:=evC C e1;have f2:=evC C e2;have fin:∀ {ty:Ty} {r:Bool},T t=some ty→ty.kd=.bool→(op=.eql∧r=(p==q)∨op=.neq∧r = !(p==q))→Kp (.val (.c (.v (.bool r))))→o.wp P a w next Q:=by
   intro ty r ht hk hr h
   obtain ⟨d,hu,_,_,hb,_⟩:=(TK t ty ht).und;rw [hb hk] at hu;refine after_val C hd K (run ?_) (x:=.c (.v (.bool r))) ⟨rfl,rfl⟩ h;rw [f1,f2];have he:(Op.equal t (.bool p) (.bool q)).run P w=.ok (p==q) w:=by
    unfold Op.equal Op.maxDepth Op.equalIn;rw [Sem.run_bind,run_underlying hu w];rfl
   rcases hr with ⟨rfl,rfl⟩ | ⟨rfl,rfl⟩
   ·have e:binOp .eql t (.bool p) (.bool q)=(do pure (.bool (←Op.equal t (.bool p) (.bool q))):Sem Value):=rfl;rw [Sem.run_bind,e]
    have:(eqGuard .eql t x y (.bool p) (.bool q)).run P w=.ok () w:=rfl
    rw [this,Result.andThen_ok,Sem.run_bind,he];rfl
   ·have e:binOp .neq t (.bool p) (.bool q)=(do pure (.bool (!(←Op.equal t (.bool p) (.bool q)))):Sem Value):=rfl;rw [Sem.run_bind,e]
    have:(eqGuard .neq t x y (.bool p) (.bool q)).run P w=.ok () w:=rfl
    rw [this,Result.andThen_ok,Sem.run_bind,he];rfl
  split at h
  ·split at h
   ·exact fin ‹_› ‹_› (.inl ⟨rfl,rfl⟩) h
   ·exact h.elim
  ·split at h
   ·exact fin ‹_› ‹_› (.inr ⟨rfl,rfl⟩) h
   ·exact h.elim
  ·exact h.elim
 ·rename_i p q _ e1 e2
  have f1:=evC C e1;have f2:=evC C e2;obtain ⟨r,h1,h2,h3⟩:=binK_run (P:=P) h t x y w
  exact after_val C hd K (run (by rw [f1,f2];exact h1)) (x:=.c (.v r)) ⟨rfl,h2⟩ h3
 ·rename_i xs ys e1 e2
  have r1:=C.ev x;have r2:=C.ev y;rw [e1] at r1;rw [e2] at r2;obtain ⟨vs,f1,q1⟩:=r1;obtain ⟨us,f2,q2⟩:=r2;have fin:∀ {ty:Ty} {k:Bool→Prop},T t=some ty→(cond ty.eq (eqK ty.zero xs ys k) False)→∃ b,k b∧((binOp .eql t (a.eval x) (a.eval y)).run P w=.ok (.bool b) w∧(binOp .neq t (a.eval x) (a.eval y)).run P w=.ok (.bool (!b)) w∧(eqGuard op t x y (a.eval x) (a.eval y)).run P w=.ok () w):=by
   intro ty k ht h
   cases he:ty.eq with
   | false=>simp [he] at h
   | true =>
    simp only [he,cond_true] at h;obtain ⟨b,hb,hv⟩:=eqK_rep (O:=O) (S:=S) (w:=w) ty.zero xs ys k h;obtain ⟨g1,g2,g3⟩:=(TK t ty ht).eql he vs us b w (hv vs us q1 q2);rw [f1,f2]
    exact ⟨b,hb,g1,g2,g3 _ _ _⟩
  split at h
  ·rename_i ty ht
   obtain ⟨b,hb,g1,g2,g3⟩:=fin ht h
   exact after_val C hd K (run (by rw [Sem.run_bind,g3];exact g1)) (x:=.c (.v (.bool b))) ⟨rfl,rfl⟩ hb
  ·rename_i ty ht
   obtain ⟨b,hb,g1,g2,g3⟩:=fin ht h
   exact after_val C hd K (run (by rw [Sem.run_bind,g3];exact g2)) (x:=.c (.v (.bool (!b)))) ⟨rfl,rfl⟩ hb
  ·exact h.elim
 ·exact h.elim
theorem op_unOp (C:Corr O n w0 β S V a w) {o:Oper} {op:UnOp} {t:TypeId} {x:Operand} (ho:o.op=.unOp op t x) {Kp:Eff→Prop} (h:evOp P O T o.op V.ev V.bv Kp) (hd:∀ t,o.dst=some t→t<n)
  {next:Act→World→Prop} {Q:Exit→Act→World→Prop} (K:After O n w0 V o.dst Kp next):o.wp P a w next Q:=by
 rw [ho] at h;simp only [evOp] at h
 split at h
 ·rename_i p e
  have f:=evC C e;unfold unK at h
  split at h
  ·exact after_sc C hd K (by unfold execOp;simp [ho,f,Op.unary]) rfl h
  ·exact after_sc C hd K (by unfold execOp;simp [ho,f,Op.unary,Op.intArith]) rfl h
  ·exact h.elim
 ·exact h.elim
theorem op_convert (TK:TyOK P O T) (C:Corr O n w0 β S V a w) {o:Oper} {s d:TypeId} {x:Operand} (ho:o.op=.convert s d x) {Kp:Eff→Prop} (h:evOp P O T o.op V.ev V.bv Kp) (hd:∀ t,o.dst=some t→t<n)
  {next:Act→World→Prop} {Q:Exit→Act→World→Prop} (K:After O n w0 V o.dst Kp next):o.wp P a w next Q:=by
 rw [ho] at h;simp only [evOp] at h
 split at h
 ·rename_i sy dy hs hd'
  obtain ⟨ds,us,_,s1,_,s2⟩:=(TK s sy hs).und;obtain ⟨dd,ud,_,d1,_,d2⟩:=(TK d dy hd').und
  split at h
  ·rename_i k1 k2 k3 m e1 e2 e3
   have f:=evC C e3;have g1:=s2 _ e1;have g2:=d2 _ e2;subst g1;subst g2
   exact after_sc C hd K (by unfold execOp;simp [ho,f,convert,run_underlying us,run_underlying ud,Conv.intToInt]) rfl h
  ·rename_i m e1 e2 e3
   have f:=evC C e3;have g1:=s1 e1;have g2:=d1 e2;subst g1;subst g2
   exact after_sc C hd K (by unfold execOp;simp [ho,f,convert,run_underlying us,run_underlying ud]) rfl h
  ·exact h.elim
 ·exact h.elim
theorem op_makeFunc (C:Corr O n w0 β S V a w) {o:Oper} {fn:Fn} {fs cs:Array Operand} (ho:o.op=.makeFunc fn fs cs) {Kp:Eff→Prop} (h:evOp P O T o.op V.ev V.bv Kp) (hd:∀ t,o.dst=some t→t<n)
  {next:Act→World→Prop} {Q:Exit→Act→World→Prop} (K:After O n w0 V o.dst Kp next):o.wp P a w next Q:=by
 rw [ho] at h;simp only [evOp] at h
 cases hc:fs.toList.isEmpty&&cs.toList.isEmpty with
 | false=>rw [hc] at h;exact h.elim
 | true =>
  rw [hc] at h;simp only [Bool.and_eq_true,List.isEmpty_iff] at hc;have e1:fs=#[]:=by simpa using hc.1
  have e2:cs=#[]:=by simpa using hc.2
  exact after_sc C hd K (by unfold execOp;simp [ho,Instr.makeFunc,e1,e2]) rfl h
theorem op_call (TK:TyOK P O T) (C:Corr O n w0 β S V a w) {o:Oper} {c:Go.Call} (ho:o.op=.call c) {Kp:Eff→Prop} (h:evOp P O T o.op V.ev V.bv Kp) (hd:∀ t,o.dst=some t→t<n) (hnw:isNew o.op=true→∃ t,o.dst=some t∧V.bv t=none)
  {next:Act→World→Prop} {Q:Exit→Act→World→Prop} (K:After O n w0 V o.dst Kp next):o.wp P a w next Q:=by
 rw [ho] at h;simp only [evOp] at h;have bi:∀ {b:Builtin} {v:Value},c.callee=.builtin b→((builtin b c.argTypes o.type (c.args.map fun | .const _=>true | _=>false) (c.args.map a.eval)).run P w=.ok (.value v) w)→(execOp a.eval o).run P w=.ok (.value v) w:=by
  intro b v hc hr
  unfold execOp;simp only [ho,resolve,hc,Sem.run_bind,Sem.run_pure,Result.andThen_ok,invoke]
  exact hr
 split at h
 ·rename_i f hc
  split at h
  ·rename_i k e
   have ef:=evC C e;have hbv:∀ (Q:Nat→Bx→Prop) h b,β h=some b→(∀ X,V.bv h=some X→Q b X)→∃ X,V.bv h=some X∧BxRep O β S w b X∧Q b X:=fun _ h b hb hq=>by
    obtain ⟨X,h1,h2,_⟩:=C.bl h b hb;exact ⟨X,h1,h2,hq X h1⟩
   have enter:(∃ fn,P.funcs[k]?=some fn∧(fn.name == "runtime.NumGoroutine")=false∧fn.body.isNone=false)→(execOp a.eval o).run P w=.ok (.enter k (c.args.toList.map a.eval).toArray) w:=by
    rintro ⟨fn,hf,hname,hb⟩;have hn':¬ fn.name = "runtime.NumGoroutine" := by simpa using hname
    have hb':¬ fn.body=none:=fun e=>by rw [e] at hb;cases hb
    have hm:(c.args.toList.map a.eval).toArray=c.args.map a.eval:=by rw [←Array.toList_map]
    rw [hm];unfold execOp
    simp [ho,resolve,hc,ef,Deferred.ofValue,invoke,callFunc,hf,hn',hb']
   have lent:∀ b,(S b∨∃ h,β h=some b)→b<w.heap.size:=fun b hb=>by
    rcases hb with h | ⟨h,hb⟩
    ·exact C.sl b h
    ·obtain ⟨X,_,h2,_⟩:=C.bl h b hb;exact h2.lt
   -- a call whose result is of new memory
   have newR:∀ {l:List AV} {r:AV},CalN P O k l r→All2 (RepW O (fun _=>none) (fun b=>S b∨∃ h,β h=some b) w) (c.args.toList.map a.eval) l→Kp (.val r)→o.wp P a w next Q:=by
    intro l r hcal ra hk
    have hcl:=hcal.run _ w (c.args.toList.map a.eval) lent C.inv ra;unfold Oper.wp;rw [enter hcal.body]
    show Calls P k _ w _
    refine hcl.mono ?_;rintro e w' ⟨v,rfl,hx,rv⟩;have C1:=C.evo hx (S':=fun b=>S b∨(w.heap.size≤b∧b<w'.heap.size)) (fun _ h=>.inl h) (fun _ h=>h)
    exact K (.val r) _ _ _ _ hk (C1.put hd (rv.evo (Evo.refl _ _ _) (fun _ h=>.inr h) (fun _ _ h=>by cases h)))
   cases hio:ioC c.callee with
   | true =>
    rw [hio] at h;simp only [cond_true] at h
    split at h
    ·rename_i x xs ea
     split at h
     ·rename_i g eg
      split at h
      ·rename_i ag ks vs ebv
       obtain ⟨hl,h⟩:=cond_ff' h;obtain ⟨ys,h,ra⟩:=argsK_rep0 C.ev xs _ h hl;obtain ⟨ks',vs',hcal,hk⟩:=h;have hr:=C.ev x;rw [eg] at hr;obtain ⟨b,hb,ex⟩:=hr;obtain ⟨X,q1,q2,q3,q4⟩:=C.bl g b hb;rw [ebv] at q1;cases q1;have hcl:=hcal.run S w b (xs.map a.eval) C.sl q4 C.inv q2 ra;unfold Oper.wp;rw [enter hcal.body,ea,List.map_cons,ex]
       show Calls P k _ w _
       refine hcl.mono ?_;rintro e w' ⟨rfl,⟨E,ck,E',ck',g1,g2⟩,rm⟩;have hsz:=g2.size;rw [size_setBlock] at hsz;have C1:=C.chg hb (X:=.m ag ks' vs') (w':=w') (fun j hj hne=>by rw [g2.block j (by rw [size_setBlock];exact hj),heap_setBlock_ne _ hne]) hsz g2.os g2.tape g2.output
        (fun hR=>O.ext (O.setM hR g1 rfl _) g2) (fun _=>⟨E',ck',g2.heap (heap_setBlock _ g1)⟩) (fun g'=>by rw [g1] at g';cases g') (S':=fun b=>S b∨(w.heap.size≤b∧b<w'.heap.size)) (fun _ h=>.inl h) (fun _ h=>h) rm
       exact K (.sto g _ (.c (.pm g))) _ _ _ _ hk (C1.put hd (v:=.map (some b)) (x:=.c (.pm g)) ⟨b,hb,rfl⟩)
      ·exact h.elim
     ·exact h.elim
    ·exact h.elim
   | false =>
    rw [hio] at h;simp only [cond_false] at h
    cases how:ownC c.callee with
    | true =>
     rw [how] at h;simp only [cond_true] at h;obtain ⟨l,h,ra⟩:=argsK_rep (S':=fun b=>S b∨∃ h,β h=some b) (fun _ h=>.inl h) (fun h b hb=>hbv (fun b X=>true=true∨X.cells.isSome=true→S b∨∃ h,β h=some b) h b hb fun _ _ _=>.inr ⟨h,hb⟩) C.ev c.args.toList _ h
     rcases h with ⟨r,hcal,hk⟩ | ⟨ag,ks,vs,hcal,hfl,hk⟩
     ·exact newR hcal ra hk
     ·have hin:isNew o.op=true:=by rw [ho];exact how
      obtain ⟨d,hdd,hfr⟩:=hnw hin;have hcl:=hcal.run _ w (c.args.toList.map a.eval) lent C.inv ra;unfold Oper.wp;rw [enter hcal.body]
      show Calls P k _ w _
      refine hcl.mono ?_;rintro e w' ⟨v,rfl,hx,rv⟩;have rv:Rep0 O _ w' (.mp ag ks vs) v:=rv;simp only [Rep0] at rv;obtain ⟨b,E,ck,L,hb,rfl,hh,ok,hp,rE⟩:=rv;rw [hdd] at K ⊢;refine K (.new (.m ag ks vs)) _ _ _ _ hk (C.new' (hd d hdd) hfr hx hb.1 (S':=fun x=>S x∨(w.heap.size≤x∧x<w'.heap.size∧x≠b)) (fun _ h=>.inl h) (fun _ h=>h.imp id fun h=>⟨h.1,h.2.1⟩) (fun hS => ?_) (fun β' _=>⟨E,ck,L,hh,ok,hp,rE.flat hfl⟩) (fun β' hβ=>⟨b,hβ,rfl⟩))
      rcases hS with h | h
      ·have:=C.sl b h;omega
      ·exact h.2.2 rfl
    | false =>
     rw [how] at h;simp only [cond_false] at h
     cases hle:lends V.ev c.args.toList with
     | true =>
      simp only [hle,cond_true] at h;obtain ⟨l,⟨r,hcal,hfl,hk⟩,ra⟩:=argsK_rep (S':=fun b=>S b∨∃ h X,β h=some b∧V.bv h=some X∧X.cells.isSome=true) (fun _ h=>.inl h) (fun h b hb=>hbv (fun b X=>false=true∨X.cells.isSome=true→S b∨∃ h X,β h=some b∧V.bv h=some X∧X.cells.isSome=true) h b hb fun X hX hq=>by
       rcases hq with hq | hq
       ·cases hq
       ·exact .inr ⟨h,X,hb,hX,hq⟩) C.ev c.args.toList _ h
      have hcl:=hcal.run _ w (c.args.toList.map a.eval) (fun b hb=>by
       rcases hb with h | ⟨h,X,hb,_⟩
       ·exact C.sl b h
       ·obtain ⟨X,_,h2,_⟩:=C.bl h b hb;exact h2.lt) C.inv ra
      unfold Oper.wp;rw [enter hcal.body]
      show Calls P k _ w _
      refine hcl.mono ?_;rintro e w' ⟨v,rfl,hx,rv⟩;have C1:=C.evo hx (S':=fun b=>S b∨(w.heap.size≤b∧b<w'.heap.size)) (fun _ h=>.inl h) (fun _ h=>h);refine K (.val r) _ _ _ _ hk (C1.put hd ((rv.flat hfl (fun b hb hm => ?_)).evo (Evo.refl _ _ _) (fun _ h=>h) (fun _ _ h=>by cases h)))
      rcases hb with (h | ⟨h,X,hb,hX,hq⟩) | h
      ·exact .inl h
      ·exfalso
       obtain ⟨Y,g1,g2,_⟩:=C.bl h b hb;rw [hX] at g1;cases g1;obtain ⟨⟨U,cs⟩,hc'⟩:=Option.isSome_iff_exists.1 hq;obtain ⟨vs,ts,g3,_⟩:=g2.toCells hc';obtain ⟨E,ck,hm⟩:=hm;rw [hx.heap g3] at hm;cases hm
      ·exact .inr h
     | false =>
      simp only [hle,cond_false] at h;obtain ⟨l,⟨r,hcal,hk⟩,ra⟩:=argsK_rep0 C.ev c.args.toList _ h hle;have hcl:=hcal.run S w (c.args.toList.map a.eval) C.sl C.inv ra;unfold Oper.wp;rw [enter hcal.body]
      show Calls P k _ w _
      refine hcl.mono ?_;rintro e w' ⟨v,rfl,hx,rv⟩;have C1:=C.evo hx (S':=fun b=>S b∨(w.heap.size≤b∧b<w'.heap.size)) (fun _ h=>.inl h) (fun _ h=>h)
      exact K (.val r) _ _ _ _ hk (C1.put hd (rv.evo (Evo.refl _ _ _) (fun _ h=>h) (fun _ _ h=>by cases h)))
  ·exact h.elim
 ·rename_i hc
  split at h
  ·rename_i x i t u ea et
   have ea':c.args=#[x,i]:=by rw [←Array.toArray_toList (xs:=c.args),ea]
   have et':c.argTypes=#[t,u]:=by rw [←Array.toArray_toList (xs:=c.argTypes),et]
   cases ht:T t with
   | none=>simp [ht] at h
   | some ty =>
    simp only [ht] at h
    split at h
    ·rename_i mm g j em e1 e2
     split at h
     ·rename_i ag ks vs ebv
      have hr:=C.ev x;rw [e1] at hr;obtain ⟨b,hb,ex⟩:=hr;have ei:=evC C e2;obtain ⟨X,q1,q2,q3,q4⟩:=C.bl g b hb;rw [ebv] at q1;cases q1;have q2':=q2;obtain ⟨E0,ck0,_,g1,_⟩:=q2';obtain ⟨k,e,i',z,hu,hk,_⟩:=(TK t ty ht).mp _ _ em;obtain ⟨E',ck',hrun,ok,L',hp,r⟩:=run_mdel (P:=P) (ty:=o.type) (u:=u) hu hk q2 j;have C1:=C.chgM hb g1 rfl (fun _=>⟨E',ck',rfl⟩) (X:=.m ag (delKs ks j) (delV ks vs j)) ⟨E',ck',L',heap_setBlock _ g1,ok,hp,RepEnts.evo (Evo.setBlock g1 rfl q4 _) (fun _ h=>h) _ _ _ _ r⟩;refine wp_val (v:=.tuple #[]) ?_ (K (.sto g _ (.t [])) _ _ _ _ h (C1.put hd (v:=.tuple #[]) (x:=.t []) ⟨[],rfl,trivial⟩));unfold execOp;simp only [ho,resolve,hc,Sem.run_bind,Sem.run_pure,Result.andThen_ok,invoke]
      simp [builtin,ea',et',ex,ei,hrun]
     ·exact h.elim
    ·exact h.elim
  ·exact h.elim
 ·rename_i hc
  split at h
  ·rename_i x t ea et
   have ea':c.args=#[x]:=by rw [←Array.toArray_toList (xs:=c.args),ea]
   have et':c.argTypes=#[t]:=by rw [←Array.toArray_toList (xs:=c.argTypes),et]
   cases ht:T t with
   | none=>simp [ht] at h
   | some ty =>
    simp only [ht] at h;have hr:=C.ev x
    split at h
    ·rename_i s wd xs e1 e2
     rw [e2] at hr;have hr':Rep0 O S w (.sl wd xs) (a.eval x):=hr;simp only [Rep0] at hr';obtain ⟨ad,b,off,cap,ex,_⟩:=hr';obtain ⟨e,i,z,hu,_⟩:=(TK t ty ht).elem s e1;rw [lenK_eq] at h
     exact after_sc C hd K (bi hc (by simp [builtin,ea',et',Builtin.len_,run_underlying hu,ex,goInt])) rfl h
    ·rename_i s g m cap e1 e2
     rw [e2] at hr;obtain ⟨b,_,_,_,_,ex,_⟩:=hr;obtain ⟨e,i,z,hu,_⟩:=(TK t ty ht).elem s e1
     exact after_sc C hd K (bi hc (by simp [builtin,ea',et',Builtin.len_,run_underlying hu,ex,goInt])) rfl h
    ·rename_i s e1 e2
     have ex:=evC C e2;obtain ⟨e,i,z,hu,_⟩:=(TK t ty ht).elem s e1
     exact after_sc C hd K (bi hc (by simp [builtin,ea',et',Builtin.len_,run_underlying hu,ex,goInt])) rfl h
    ·rename_i s e0 e1 e2
     have ex:=evC C e2;obtain ⟨d,hu,_,hs,_⟩:=(TK t ty ht).und
     have:=hs e1;subst this
     exact after_sc C hd K (bi hc (by simp [builtin,ea',et',Builtin.len_,run_underlying hu,ex,goInt])) rfl h
    ·exact h.elim
  ·exact h.elim
 ·rename_i hc
  split at h
  ·rename_i x y ea
   have ea':c.args=#[x,y]:=by rw [←Array.toArray_toList (xs:=c.args),ea]
   split at h
   ·rename_i p u q v e1 e2
    have f1:=evC C e1;have f2:=evC C e2
    exact after_sc C hd K (bi hc (by simp [builtin,ea',Builtin.max_,Builtin.max2,f1,f2])) rfl h
   ·exact h.elim
  ·exact h.elim
 ·rename_i hc
  split at h
  ·rename_i x y ea
   have ea':c.args=#[x,y]:=by rw [←Array.toArray_toList (xs:=c.args),ea]
   split at h
   ·rename_i p u q v e1 e2
    have f1:=evC C e1;have f2:=evC C e2
    exact after_sc C hd K (bi hc (by simp [builtin,ea',Builtin.min_,Builtin.min2,f1,f2])) rfl h
   ·exact h.elim
  ·exact h.elim
 ·exact h.elim
theorem op_nilCheck (C:Corr O n w0 β S V a w) {o:Oper} {x:Operand} (ho:o.op=.nilCheck x) {Kp:Eff→Prop} (h:evOp P O T o.op V.ev V.bv Kp) (hd:∀ t,o.dst=some t→t<n)
  {next:Act→World→Prop} {Q:Exit→Act→World→Prop} (K:After O n w0 V o.dst Kp next):o.wp P a w next Q:=by
 rw [ho] at h;simp only [evOp] at h;have hr:=C.ev x
 split at h
 ·rename_i g off e
  rw [e] at hr;have hr':=hr;obtain ⟨b,hb,ex⟩:=hr'
  exact after_val C hd K (v:=a.eval x) (by unfold execOp;simp [ho,ex]) hr h
 ·rename_i cs e
  rw [e] at hr;have hr':Rep0 O S w (.e cs) (a.eval x):=hr;simp only [Rep0] at hr';obtain ⟨b,off,_,ex,_⟩:=hr'
  exact after_val C hd K (v:=a.eval x) (by unfold execOp;simp [ho,ex]) hr h
 ·exact h.elim
theorem op_makeMap (C:Corr O n w0 β S V a w) {o:Oper} {t:TypeId} {rs:Option Operand} (ho:o.op=.makeMap t rs) {Kp:Eff→Prop} (h:evOp P O T o.op V.ev V.bv Kp) (hd:∀ t,o.dst=some t→t<n) (hnw:isNew o.op=true→∃ t,o.dst=some t∧V.bv t=none)
  {next:Act→World→Prop} {Q:Exit→Act→World→Prop} (K:After O n w0 V o.dst Kp next):o.wp P a w next Q:=by
 rw [ho] at h
 cases rs with
 | some _=>exact h.elim
 | none =>
  simp only [evOp] at h;obtain ⟨d,hdd,hf⟩:=hnw (by rw [ho];rfl)
  split at h
  ·split at h
   ·rename_i ag _ _
    refine wp_val (v:=.map (some w.heap.size)) (w':=w.alloc (.map #[] 0)) ?_ ?_
    ·unfold execOp;simp [ho,Instr.makeMap,newObj,Sem.run]
    ·rw [hdd] at K ⊢;have hx:Ext w (w.alloc (.map #[] 0)):=(Below.refl _ _).alloc (Nat.le_refl _) _
     exact K _ _ _ _ _ h (C.new' (hd d hdd) hf (X:=.m ag [] []) hx (Nat.le_refl _) (S':=S) (fun _ h=>h) (fun _ h=>.inl h) (fun hS=>by have:=C.sl _ hS;omega)
      (fun _ _=>MapAt.made w ag) (fun β' hβ=>⟨_,hβ,rfl⟩))
   ·exact h.elim
  ·exact h.elim
theorem packK_rep {ag:Bool} {cs:List AC} {k:AV→Prop} {v:Value} (h:packK ag cs k) (r:RepVal O S w ag cs v):∃ x,k x∧RepV O β S w v x:=by
 obtain ⟨us,rfl,hl,r⟩:=r;rw [RepL.iff] at r
 cases ag with
 | true =>
  simp only [packK,allK_iff] at h
  exact ⟨_,h,us,rfl,r.toC⟩
 | false =>
  simp only [packK] at h
  split at h
  ·rename_i c
   cases us with
   | nil=>exact r.elim
   | cons u us=>exact ⟨_,h,r.1.toC⟩
  ·exact h.elim
theorem shapeK_rep {ag:Bool} {x:AV} {k:List AC→Prop} {v:Value} (h:shapeK ag x k) (r:RepV O β S w v x):∃ cs,k cs∧(noPs cs=true→RepVal O S w ag cs v):=by
 cases ag with
 | true =>
  cases x with
  | g cs =>
   obtain ⟨vs,e,r⟩:=r
   exact ⟨cs,(allK_iff _ _).1 h,fun hn=>⟨vs,e,(fun h=>nomatch h),RepL.iff.2 (r.to0 hn)⟩⟩
  | _=>exact h.elim
 | false =>
  cases x with
  | c c =>
   refine ⟨[c],h,fun hn=>⟨[v],rfl,fun _=>rfl,RepL.iff.2 ?_⟩⟩
   exact RepCs.to0 (β:=β) (vs:=[v]) ⟨r,trivial⟩ hn
  | _=>exact h.elim
theorem op_lookup (TK:TyOK P O T) (C:Corr O n w0 β S V a w) {o:Oper} {t:TypeId} {x i:Operand} {ok:Bool} (ho:o.op=.lookup t x i ok) {Kp:Eff→Prop} (h:evOp P O T o.op V.ev V.bv Kp) (hd:∀ t,o.dst=some t→t<n)
  {next:Act→World→Prop} {Q:Exit→Act→World→Prop} (K:After O n w0 V o.dst Kp next):o.wp P a w next Q:=by
 rw [ho] at h
 cases ok with
 | true=>exact h.elim
 | false =>
  simp only [evOp] at h
  cases ht:T t with
  | none=>simp [ht] at h
  | some ty =>
   simp only [ht] at h
   split at h
   ·rename_i ag z k em e1
    have ei:=evC C e1;obtain ⟨kt,et,it,zv,hu,hk,hi,hz,_,us,hzv,hzr⟩:=(TK t ty ht).mp _ _ em;have hr:=C.ev x;have hl1:ag=false→us.length=1:=by
     intro e
     obtain ⟨_,_,_,_,_,_,_,_,hl,_⟩:=(TK t ty ht).mp _ _ em
     have:=(RepL.iff.1 (hzr S w)).len
     rw [this];exact hl e
    have hzV:RepVal O S w ag z zv:=⟨us,hzv,hl1,hzr S w⟩;have fin:∀ {b:Nat} {E:Array MapEntry} {ck:Nat} {L:List MapEntry} {ks:List Int} {vs:List (List AC)},a.eval x=.map (some b)→w.heap[b]?=some (.map E ck)→MapOK E ck→L.Perm E.toList→RepEnts O S w ag vs ks L→packK ag (lookK ks vs k z) (fun v=>cond (noPV v) (Kp (.val v)) False)→o.wp P a w next Q:=by
     intro b E ck L ks vs ex hb ok hp r h
     obtain ⟨v,h1,h2⟩:=run_look (P:=P) hu hk hi hz hb hp ok r k hzV;obtain ⟨y,h3,h4⟩:=packK_rep (β:=β) h h2
     exact after_val C hd K (v:=v) (by unfold execOp;simp only [ho,ex,ei];rw [Sem.run_bind,h1];rfl) h4 (cond_ff h3).2
    split at h
    ·rename_i g e2
     rw [e2] at hr;obtain ⟨b,hb,ex⟩:=hr;obtain ⟨X,q1,q2,_⟩:=C.bl g b hb
     split at h
     ·rename_i ag' ks vs eb
      rw [eb] at q1;cases q1;obtain ⟨hag,h'⟩:=cond_ff h;have hag:ag=ag':=by simpa using hag
      subst hag;obtain ⟨E,ck,L,g1,g2,g3,g4⟩:=q2
      exact fin ex g1 g2 g3 g4 h'
     ·exact h.elim
    ·rename_i ag' ks vs e2
     rw [e2] at hr;have hr':Rep0 O S w (.mp ag' ks vs) (a.eval x):=hr;simp only [Rep0] at hr';obtain ⟨b,E,ck,L,_,ex,g1,g2,g3,g4⟩:=hr';obtain ⟨hag,h'⟩:=cond_ff h;have hag:ag=ag':=by simpa using hag
     subst hag
     exact fin ex g1 g2 g3 g4 h'
    ·exact h.elim
   ·exact h.elim
theorem op_mapUpdate (TK:TyOK P O T) (C:Corr O n w0 β S V a w) {o:Oper} {t:TypeId} {x i y:Operand} (ho:o.op=.mapUpdate t x i y) {Kp:Eff→Prop} (h:evOp P O T o.op V.ev V.bv Kp) (hd:∀ t,o.dst=some t→t<n)
  {next:Act→World→Prop} {Q:Exit→Act→World→Prop} (K:After O n w0 V o.dst Kp next):o.wp P a w next Q:=by
 rw [ho] at h;simp only [evOp] at h
 cases ht:T t with
 | none=>simp [ht] at h
 | some ty =>
  simp only [ht] at h
  split at h
  ·rename_i ag z g k em e1 e2
   split at h
   ·rename_i ag' ks vs eb
    obtain ⟨hag,h'⟩:=cond_ff h;have hag:ag=ag':=by simpa using hag
    subst hag;obtain ⟨cs,h,hv⟩:=shapeK_rep h' (C.ev y);obtain ⟨hn,h⟩:=cond_ff h;have ei:=evC C e2;obtain ⟨kt,et,it,zv,hu,hk,_⟩:=(TK t ty ht).mp _ _ em;have hr:=C.ev x;rw [e1] at hr;obtain ⟨b,hb,ex⟩:=hr;obtain ⟨X,q1,q2,q3,q4⟩:=C.bl g b hb;rw [eb] at q1;cases q1;have q2':=q2;obtain ⟨E0,ck0,_,g1,_⟩:=q2';obtain ⟨E',ck',hrun,ok,L',hp,r⟩:=run_mput (P:=P) hu hk q2 k (hv hn);have C1:=C.chgM hb g1 rfl (fun _=>⟨E',ck',rfl⟩) (X:=.m ag (putKs ks k) (putV ks vs k cs)) ⟨E',ck',L',heap_setBlock _ g1,ok,hp,RepEnts.evo (Evo.setBlock g1 rfl q4 _) (fun _ h=>h) _ _ _ _ r⟩
    exact wp_skp (by unfold execOp;simp only [ho,ex,ei];rw [Sem.run_bind,hrun];rfl) (K (.sto g _ (.t [])) _ _ _ _ h (C1.put hd (v:=undef) (x:=.t []) ⟨[],rfl,trivial⟩))
   ·exact h.elim
  ·exact h.elim
theorem op_sound (TK:TyOK P O T) (C:Corr O n w0 β S V a w) {o:Oper} {Kp:Eff→Prop} (h:evOp P O T o.op V.ev V.bv Kp) (hd:∀ t,o.dst=some t→t<n) (hn:isNew o.op=true→∃ t,o.dst=some t∧V.bv t=none)
  {next:Act→World→Prop} {Q:Exit→Act→World→Prop} (K:After O n w0 V o.dst Kp next):o.wp P a w next Q:=by
 cases ho:o.op with
 | move x=>rw [ho] at h;exact op_move C (.inl ho) h hd K
 | assign x=>rw [ho] at h;exact op_move C (.inr ho) h hd K
 | pick c x y=>exact op_pick C ho h hd K
 | alloc t=>obtain ⟨d,h1,h2⟩:=hn (by rw [ho];rfl);exact op_alloc TK C ho h h1 (hd d h1) h2 K
 | box t x=>obtain ⟨d,h1,h2⟩:=hn (by rw [ho];rfl);exact op_box C ho h h1 (hd d h1) h2 K
 | build t ps=>exact op_build TK C ho h hd K
 | buildSlice t m ps=>exact op_buildSlice TK C ho h hd K
 | load t x=>exact op_load TK C ho h hd K
 | store t x y=>exact op_store TK C ho h hd K
 | fieldAddr s x f=>exact op_fieldAddr TK C ho h hd K
 | field s x f=>exact op_field TK C ho h hd K
 | indexAddr t x i=>exact op_indexAddr TK C ho h hd K
 | extract x i=>exact op_extract C ho h hd K
 | binOp op t x y u=>exact op_binOp TK C ho h hd K
 | unOp op t x=>exact op_unOp C ho h hd K
 | convert s d x=>exact op_convert TK C ho h hd K
 | makeFunc fn fs cs=>exact op_makeFunc C ho h hd K
 | nilCheck x=>exact op_nilCheck C ho h hd K
 | makeMap t r=>exact op_makeMap C ho h hd hn K
 | lookup t x i ok=>exact op_lookup TK C ho h hd K
 | mapUpdate t x i y=>exact op_mapUpdate TK C ho h hd K
 | call c=>exact op_call TK C ho h hd hn K
 | _=>rw [ho] at h;exact h.elim
end
end Go.Proofs.YtoaoebimjmjpeaaGreatDoor
namespace Go.Proofs.YtoaoebimjmjpeaaGreatDoor
open Go.RowKit Vn
set_option maxRecDepth 100000
set_option maxHeartbeats 8000000
section
variable {P:Program} {O:Opq} {T:Tys}
def One {α:Type} (F:(α→Prop)→Prop):Prop:=∀ k,F k→∃ x,F (· = x)∧k x∧∀ k',k' x→F k'
theorem One.cond {α:Type} {b:Bool} {F:(α→Prop)→Prop} (h:b=true→One F):One (fun k=>cond b (F k) False):=by
 intro k hk
 cases b with
 | false=>exact hk.elim
 | true=>exact h rfl k hk
theorem One.pure {α:Type} (x:α):One (fun k=>k x):=fun _ h=>⟨x,rfl,h,fun _ h=>h⟩
theorem One.bind {α β:Type} {F:(α→Prop)→Prop} {G:α→(β→Prop)→Prop} (h:One F) (g:∀ x,One (G x)):One (fun k=>F fun x=>G x k):=by
 intro k hk
 obtain ⟨x,h1,h2,h3⟩:=h _ hk;obtain ⟨y,g1,g2,g3⟩:=g x _ h2
 exact ⟨y,h3 _ g1,g2,fun k' hk'=>h3 _ (g3 _ hk')⟩
theorem One.no {α:Type}:One (fun (_:α→Prop)=>False):=fun _ h=>h.elim
theorem allK_one (cs:List AC):One (allK cs):=fun _ h=>⟨cs,(allK_iff _ _).2 rfl,(allK_iff _ _).1 h,fun _ h=>(allK_iff _ _).2 h⟩
theorem cellsK_one (x:AV):One (cellsK x):=by
 cases x with
 | c y=>exact One.pure _
 | g cs=>exact allK_one cs
 | _=>exact One.no
theorem One.cond' {α:Type} {b:Bool} {F:(α→Prop)→Prop} (h:b=false→One F):One (fun k=>_root_.cond b False (F k)):=by
 intro k hk
 cases b with
 | true=>exact hk.elim
 | false=>exact h rfl k hk
theorem One.cond2 {α:Type} {b:Bool} {F G:(α→Prop)→Prop} (h:One F) (g:One G):One (fun k=>_root_.cond b (F k) (G k)):=by
 intro k hk
 cases b with
 | true=>exact h k hk
 | false=>exact g k hk
theorem packK_one (ag:Bool) (cs:List AC):One (packK ag cs):=by
 cases ag with
 | true=>exact (allK_one cs).bind fun l=>One.pure _
 | false =>
  simp only [One,packK]
  split
  ·exact One.pure _
  ·exact One.no
theorem shapeK_one (ag:Bool) (x:AV):One (shapeK ag x):=by
 cases ag<;>cases x<;>first | exact One.no | exact One.pure _ | exact allK_one _
theorem mapK_one {α:Type} {F:α→(α→Prop)→Prop} (h:∀ c,One (F c)):∀ cs:List α,One (mapK F cs)
 | []=>One.pure _
 | c :: cs=>by
  simp only [One,mapK]
  exact (h c).bind fun d=>(mapK_one h cs).bind fun l=>One.pure _
theorem frzK_one (fl:Bool) (bv:Nat→Option Bx):∀ (f:Nat) (c:AC),One (frzK fl bv f c)
 | 0,_=>One.no
 | f+1,c=>by
  have low:=mapK_one (frzK_one fl bv f)
  cases c with
  | p h off =>
   simp only [One,frzK]
   split
   ·exact (low _).bind fun l=>One.pure _
   ·exact (low _).bind fun l=>One.pure _
   ·exact One.no
  | pm h =>
   simp only [One,frzK]
   split
   ·exact One.cond fun _=>One.pure _
   ·exact One.no
  | os h n cap =>
   simp only [One,frzK]
   split
   ·exact One.cond fun _=>(low _).bind fun l=>One.pure _
   ·exact One.no
  | clp k h cs =>
   simp only [One,frzK]
   split
   ·exact One.cond' fun _=>(low _).bind fun l=>One.pure _
   ·exact One.no
  | u=>exact One.no
  | _=>exact One.pure _
theorem fwdK_one (x:AV):One (fwdK x):=by
 cases x with
 | g cs=>exact (allK_one cs).bind fun l=>One.pure _
 | j=>exact One.no
 | _=>exact One.pure _
theorem takeK_one (n:Nat) (cs:List AC):One (takeK n cs):=fun k h=>by
 simp only [takeK_iff] at h ⊢
 exact ⟨_,⟨h.1,rfl⟩,h.2,fun k' h'=>⟨h.1,h'⟩⟩
theorem partK_one (ag:Bool) (m:Nat) (cs:List AC):One (partK ag m cs):=by
 cases ag with
 | true=>exact (takeK_one m cs).bind fun l=>One.pure _
 | false=>cases cs with
  | nil=>exact One.no
  | cons c cs=>exact One.pure _
theorem fillK_one (fl:List (Nat×Nat×Bool)) (ρ:Operand→AV):∀ (ps:List (Nat×Operand)) (cs:List AC),One (fillK fl ρ ps cs)
 | [],cs=>One.pure _
 | (i,x) :: r,cs=>by
  simp only [One,fillK]
  cases fl[i]? with
  | none=>exact One.no
  | some y=>exact (cellsK_one (ρ x)).bind fun xs=>One.cond fun _=>fillK_one fl ρ r _
theorem rowsK_one (wd:Nat) (ρ:Operand→AV):∀ (ps:List (Nat×Operand)) (i:Nat),One (rowsK wd ρ i ps)
 | [],i=>One.pure _
 | (j,x) :: r,i=>by
  simp only [One,rowsK]
  exact One.cond fun _=>(cellsK_one (ρ x)).bind fun xs=>One.cond fun _=>(rowsK_one wd ρ r (i+1)).bind fun l=>One.pure _
theorem argsK_one (fl:Bool) (ρ:Operand→AV) (bv:Nat→Option Bx):∀ l:List Operand,One (argsK fl ρ bv l)
 | []=>One.pure _
 | x :: r=>by
  simp only [One,argsK]
  cases ρ x with
  | c y=>exact One.cond2 ((frzK_one fl bv 4 y).bind fun d=>(argsK_one fl ρ bv r).bind fun l=>One.pure _) ((argsK_one fl ρ bv r).bind fun l=>One.pure _)
  | g cs=>exact (allK_one cs).bind fun m=>One.cond fun _=>(argsK_one fl ρ bv r).bind fun l=>One.pure _
  | _=>exact One.no
theorem eqK_one (zs:List AC):∀ xs ys:List AC,One (eqK zs xs ys):=by
 induction zs with
 | nil =>
  intro xs ys
  cases xs<;>cases ys<;>(simp only [One,eqK];first | exact One.pure _ | exact One.no)
 | cons c zs ih =>
  intro xs ys
  cases c<;>try (cases xs<;>cases ys<;>(simp only [One,eqK];exact One.no))
  rename_i z
  cases z<;>try (cases xs<;>cases ys<;>(simp only [One,eqK];exact One.no))
  all_goals
   cases xs<;>try (simp only [One,eqK];exact One.no)
   rename_i x xs
   cases x<;>try (simp only [One,eqK];exact One.no)
   rename_i x
   cases x<;>try (simp only [One,eqK];exact One.no)
   cases ys<;>try (simp only [One,eqK];exact One.no)
   rename_i y ys
   cases y<;>try (simp only [One,eqK];exact One.no)
   rename_i y
   cases y<;>try (simp only [One,eqK];exact One.no)
  ·simp only [One,eqK];exact (ih xs ys).bind fun r=>One.pure _
  ·simp only [One,eqK];exact One.cond fun _=>(ih xs ys).bind fun r=>One.pure _
  ·simp only [One,eqK];exact (ih xs ys).bind fun r=>One.pure _
theorem binK_one (op:BinOp) (x y:Value):One (binK op x y):=by
 unfold One binK
 split<;>first | exact One.no | exact One.pure _ | exact One.cond fun _=>One.pure _
theorem unK_one (op:UnOp) (x:Value):One (unK op x):=by
 unfold One unK
 split<;>first | exact One.no | exact One.pure _
theorem One.cases {α β:Type} {F:β→(α→Prop)→Prop} (b:β) (h:∀ b,One (F b)):One (F b):=h b
theorem evOp_ex {op:Op} {ρ:Operand→AV} {bv:Nat→Option Bx}:One (evOp P O T op ρ bv):=by
 cases op<;>(unfold One;simp only [evOp,lenK_eq])<;>try exact One.no
 case move x=>exact (fwdK_one _).bind fun _=>One.pure _
 case assign x=>exact (fwdK_one _).bind fun _=>One.pure _
 case pick c a b =>
  intro k h
  split at h
  ·rename_i t _
   cases t with
   | true=>exact ((fwdK_one (ρ a)).bind fun v=>One.pure (Eff.val v)) k h
   | false=>exact ((fwdK_one (ρ b)).bind fun v=>One.pure (Eff.val v)) k h
  ·exact h.elim
 case alloc t=>split<;>first | exact One.no | exact One.cond fun _=>One.pure _
 case box t x=>exact (cellsK_one _).bind fun _=>One.cond fun _=>One.pure _
 case build t ps =>
  split
  ·rename_i ty _
   cases ty.flds.isEmpty with
   | true=>exact One.no
   | false=>exact (fillK_one _ _ _ _).bind fun _=>(allK_one _).bind fun _=>One.pure _
  ·exact One.no
 case buildSlice t n ps=>split<;>first | exact One.no | (split<;>first | exact One.no | exact (rowsK_one _ _ _ _).bind fun _=>One.cond fun _=>One.pure _)
 case load t a=>split<;>first | exact One.no | (split<;>first | exact One.no | exact (partK_one _ _ _).bind fun _=>One.cond fun _=>One.pure _ | (split<;>first | exact One.no | exact One.pure _ | (split<;>first | exact One.no | exact (partK_one _ _ _).bind fun _=>One.pure _)))
 case store t a x=>split<;>first | exact One.no | (split<;>first | exact One.no | (split<;>first | exact One.no | (split<;>first | exact One.no | exact (cellsK_one _).bind fun _=>One.cond fun _=>(allK_one _).bind fun _=>One.pure _)))
 case nilCheck x=>split<;>first | exact One.no | exact One.pure _
 case makeMap t r =>
  cases r with
  | some _=>exact One.no
  | none =>
   show One (evOp P O T (.makeMap t none) ρ bv)
   simp only [One,evOp]
   (split<;>first | exact One.no | (split<;>first | exact One.no | exact One.pure _))
 case lookup t x i ok =>
  cases ok with
  | true=>exact One.no
  | false =>
   show One (evOp P O T (.lookup t x i false) ρ bv)
   simp only [One,evOp]
   split<;>first | exact One.no | (split<;>first | exact One.no | (split<;>first | exact One.no | exact One.cond fun _=>(packK_one _ _).bind fun _=>One.cond fun _=>One.pure _ | (split<;>first | exact One.no | exact One.cond fun _=>(packK_one _ _).bind fun _=>One.cond fun _=>One.pure _)))
 case mapUpdate t x i y=>split<;>first | exact One.no | (split<;>first | exact One.no | (split<;>first | exact One.no | exact One.cond fun _=>(shapeK_one _ _).bind fun _=>One.cond fun _=>One.pure _))
 case fieldAddr s x f=>split<;>first | exact One.no | (split<;>first | exact One.no | exact One.pure _)
 case field s x f=>split<;>first | exact One.no | (split<;>first | exact One.no | exact (partK_one _ _ _).bind fun _=>One.pure _)
 case indexAddr t x i=>split<;>first | exact One.no | (split<;>first | exact One.no | exact One.cond fun _=>One.pure _ | (split<;>first | exact One.no | exact One.cond fun _=>One.pure _))
 case extract x i=>split<;>first | exact One.no | (split<;>first | exact One.no | exact One.cond' fun _=>One.pure _ | exact (allK_one _).bind fun _=>One.cond fun _=>One.pure _)
 case binOp op t x y u =>
  split
  ·split<;>first | exact One.no | (split<;>first | exact One.no | exact One.pure _)
  ·exact (binK_one _ _ _).bind fun _=>One.pure _
  ·split<;>first | exact One.no | exact One.cond fun _=>(eqK_one _ _ _).bind fun _=>One.pure _
  ·exact One.no
 case unOp op t x=>split<;>first | exact One.no | exact (unK_one _ _).bind fun _=>One.pure _
 case convert s d x=>split<;>first | exact One.no | (split<;>first | exact One.no | exact One.pure _)
 case makeFunc fn fs cs=>exact One.cond fun _=>One.pure _
 case call c =>
  have cal:∀ {l:List AV} {k:FuncId},One (fun K:Eff→Prop=>∃ r,Cal P O k l r∧K (.val r)):=fun K h=>by
   obtain ⟨r,h1,h2⟩:=h;exact ⟨_,⟨r,h1,rfl⟩,h2,fun k' h'=>⟨r,h1,h'⟩⟩
  have caln:∀ {l:List AV} {k:FuncId},One (fun K:Eff→Prop=>∃ r,Cal P O k l r∧FlatR r∧K (.val r)):=fun K h=>by
   obtain ⟨r,h1,h0,h2⟩:=h;exact ⟨_,⟨r,h1,h0,rfl⟩,h2,fun k' h'=>⟨r,h1,h0,h'⟩⟩
  split
  ·split
   ·refine One.cond2 ?_ (One.cond2 ((argsK_one _ _ _ _).bind fun l K h => ?_) (One.cond2 ((argsK_one _ _ _ _).bind fun l=>caln) ((argsK_one _ _ _ _).bind fun l=>cal)))
    ·unfold One
     split
     ·split
      ·split
       ·refine One.cond' fun _=>(argsK_one _ _ _ _).bind fun l K h => ?_;obtain ⟨ks',vs',h1,h2⟩:=h
        exact ⟨_,⟨ks',vs',h1,rfl⟩,h2,fun k' h'=>⟨ks',vs',h1,h'⟩⟩
       ·exact One.no
      ·exact One.no
     ·exact One.no
    ·rcases h with ⟨r,h1,h2⟩ | ⟨ag,ks,vs,h1,h2,h3⟩
     ·exact ⟨_,.inl ⟨r,h1,rfl⟩,h2,fun k' h'=>.inl ⟨r,h1,h'⟩⟩
     ·exact ⟨_,.inr ⟨ag,ks,vs,h1,h2,rfl⟩,h3,fun k' h'=>.inr ⟨ag,ks,vs,h1,h2,h'⟩⟩
   ·exact One.no
  ·split<;>first | exact One.no | (split<;>first | exact One.no | (split<;>first | exact One.no | (split<;>first | exact One.no | exact One.pure _)))
  ·split<;>first | exact One.no | (split<;>first | exact One.no | (split<;>first | exact One.no | exact One.pure _))
  ·split<;>first | exact One.no | (split<;>first | exact One.no | exact One.pure _)
  ·split<;>first | exact One.no | (split<;>first | exact One.no | exact One.pure _)
  ·exact One.no
end
section
variable {P:Program} {O:Opq} {T:Tys}
/-! ### what an operation looks at -/
def addrOf:Op→Option Operand
 | .load _ a | .store _ a _=>some a
 | .lookup _ x _ _=>some x
 | .mapUpdate _ x _ _=>some x
 | .call c=>match c.callee with
  | .builtin .delete=>c.args.toList.head?
  | _=>cond (ioC c.callee) c.args.toList.head? none
 | _=>none
def isSto:Op→Bool
 | .store _ _ _=>true
 | .mapUpdate _ _ _ _=>true
 | .call c=>match c.callee with
  | .builtin .delete=>true
  | _=>ioC c.callee
 | _=>false
def mayLend:Op→Bool
 | .call c=>match c.callee with
  | .value _ => !ioC c.callee
  | _=>false
 | _=>false
def argsOf:Op→List Operand
 | .call c=>c.args.toList
 | _=>[]
theorem fillK_congr {fl:List (Nat×Nat×Bool)} {ρ ρ':Operand→AV}:∀ (ps:List (Nat×Operand)) (cs:List AC) (k:List AC→Prop),(∀ x∈ps,ρ x.2=ρ' x.2)→fillK fl ρ ps cs k=fillK fl ρ' ps cs k
 | [],_,_,_=>rfl
 | (i,x) :: r,cs,k,h=>by
  simp only [fillK];rw [←h (i,x) (by simp)]
  have:=fun cs=>fillK_congr (fl:=fl) r cs k (fun y hy=>h y (by simp [hy]))
  simp only [this]
theorem rowsK_congr {wd:Nat} {ρ ρ':Operand→AV}:∀ (ps:List (Nat×Operand)) (i:Nat) (k:List (List AC)→Prop),(∀ x∈ps,ρ x.2=ρ' x.2)→rowsK wd ρ i ps k=rowsK wd ρ' i ps k
 | [],_,_,_=>rfl
 | (j,x) :: r,i,k,h=>by
  simp only [rowsK];rw [←h (j,x) (by simp)]
  have:=fun i k=>rowsK_congr (wd:=wd) r i k (fun y hy=>h y (by simp [hy]))
  simp only [this]
theorem argsK_congr {ρ ρ':Operand→AV} {fl:Bool} {bv:Nat→Option Bx}:∀ (l:List Operand) (k:List AV→Prop),(∀ x∈l,ρ x=ρ' x)→argsK fl ρ bv l k=argsK fl ρ' bv l k
 | [],_,_=>rfl
 | x :: r,k,h=>by
  simp only [argsK];rw [←h x (by simp)]
  have:=fun k=>argsK_congr (fl:=fl) (bv:=bv) r k (fun y hy=>h y (by simp [hy]))
  simp only [this]
theorem lends_congr {ρ ρ':Operand→AV}:∀ (l:List Operand),(∀ x∈l,ρ x=ρ' x)→lends ρ l=lends ρ' l
 | [],_=>rfl
 | x :: r,h=>by
  simp only [lends];rw [←h x (by simp),lends_congr r (fun y hy=>h y (by simp [hy]))]
theorem argsK_nolend {fl:Bool} {ρ:Operand→AV} {bv bv':Nat→Option Bx}:∀ (l:List Operand) (k:List AV→Prop),lends ρ l=false→argsK fl ρ bv l k=argsK fl ρ bv' l k
 | [],_,_=>rfl
 | x :: r,k,h=>by
  simp only [lends] at h;simp only [argsK]
  cases hx:ρ x with
  | c c =>
   rw [hx] at h
   cases hp:isP c with
   | true=>simp [hp] at h
   | false =>
    simp only [hp,cond_false] at h ⊢
    have:=fun k=>argsK_nolend (fl:=fl) (bv:=bv) (bv':=bv') r k h
    simp only [this]
  | g cs =>
   rw [hx] at h
   have:=fun k=>argsK_nolend (fl:=fl) (bv:=bv) (bv':=bv') r k h
   simp only [this]
  | _=>rfl
theorem evOp_congr {op:Op} {ρ ρ':Operand→AV} {bv bv':Nat→Option Bx} {K:Eff→Prop} (h:∀ x∈op.operands,ρ x=ρ' x) (hb:∀ a,addrOf op=some a→∀ y k,ρ a=.c y→refC y=some k→bv k=bv' k)
  (hl:mayLend op=true→∀ fl k,argsK fl ρ bv (argsOf op) k=argsK fl ρ bv' (argsOf op) k):evOp P O T op ρ bv K=evOp P O T op ρ' bv' K:=by
 cases op
 case move x=>simp only [evOp];rw [h x (by simp [Op.operands])]
 case assign x=>simp only [evOp];rw [h x (by simp [Op.operands])]
 case pick c a b=>simp only [evOp];rw [h c (by simp [Op.operands]),h a (by simp [Op.operands]),h b (by simp [Op.operands])]
 case box t x=>simp only [evOp];rw [h x (by simp [Op.operands])]
 case build t ps=>simp only [evOp];have:=fun cs k fl=>fillK_congr (fl:=fl) (ρ:=ρ) (ρ':=ρ') ps.toList cs k (fun y hy=>h y.2 (by simp [Op.operands];exact ⟨y.1,by simpa using hy⟩));simp only [this]
 case buildSlice t n ps=>simp only [evOp];have:=fun k wd=>rowsK_congr (wd:=wd) (ρ:=ρ) (ρ':=ρ') ps.toList 0 k (fun y hy=>h y.2 (by simp [Op.operands];exact ⟨y.1,by simpa using hy⟩));simp only [this]
 case load t a =>
  simp only [evOp];rw [←h a (by simp [Op.operands])]
  split<;>try rfl
  split<;>try rfl
  rename_i k off e
  rw [hb a rfl _ k e rfl]
 case store t a x =>
  simp only [evOp];rw [←h a (by simp [Op.operands]),←h x (by simp [Op.operands])]
  split<;>try rfl
  split<;>try rfl
  rename_i k off e
  rw [hb a rfl _ k e rfl]
 case nilCheck x=>simp only [evOp];rw [h x (by simp [Op.operands])]
 case makeMap t r=>cases r<;>rfl
 case lookup t x i ok =>
  cases ok with
  | true=>rfl
  | false =>
   simp only [evOp];rw [←h x (by simp [Op.operands]),←h i (by simp [Op.operands])]
   split<;>try rfl
   split<;>try rfl
   split<;>try rfl
   rename_i k e
   rw [hb x rfl _ k e rfl]
 case mapUpdate t x i y =>
  simp only [evOp];rw [←h x (by simp [Op.operands]),←h i (by simp [Op.operands]),←h y (by simp [Op.operands])]
  split<;>try rfl
  split<;>try rfl
  rename_i g k e _
  rw [hb x rfl _ _ e rfl]
 case fieldAddr s x f=>simp only [evOp];rw [h x (by simp [Op.operands])]
 case field s x f=>simp only [evOp];rw [h x (by simp [Op.operands])]
 case indexAddr t x i=>simp only [evOp];rw [h x (by simp [Op.operands]),h i (by simp [Op.operands])]
 case extract x i=>simp only [evOp];rw [h x (by simp [Op.operands])]
 case binOp op t x y u=>simp only [evOp];rw [h x (by simp [Op.operands]),h y (by simp [Op.operands])]
 case unOp op t x=>simp only [evOp];rw [h x (by simp [Op.operands])]
 case convert s d x=>simp only [evOp];rw [h x (by simp [Op.operands])]
 case call c =>
  have ha:∀ x∈c.args.toList,ρ x=ρ' x:=fun x hx=>h x (by simp [Op.operands,Go.Call.operands];exact .inr (by simpa using hx));simp only [evOp]
  split
  ·rename_i f hc
   rw [←h f (by simp [Op.operands,Go.Call.operands,hc])]
   split<;>try rfl
   cases hio:ioC c.callee with
   | true =>
    simp only [cond_true]
    split<;>try rfl
    rename_i x xs ea
    rw [←ha x (by simp [ea])]
    split<;>try rfl
    rename_i g eg
    have haddr:addrOf (.call c)=some x:=by
     simp only [addrOf,hc];rw [←hc,hio,cond_true,ea];rfl
    rw [hb x haddr _ g eg rfl]
    split<;>try rfl
    rw [←lends_congr (ρ:=ρ) (ρ':=ρ') xs (fun y hy=>ha y (by simp [ea,hy]))]
    cases hle:lends ρ xs with
    | true=>rfl
    | false =>
     simp only [cond_false];have e1:=fun k=>argsK_congr (fl:=false) (ρ:=ρ) (ρ':=ρ') (bv:=bv') xs k (fun y hy=>ha y (by simp [ea,hy]));have e2:=fun k=>argsK_nolend (fl:=false) (bv:=bv) (bv':=bv') xs k hle;simp only [←e1,e2]
   | false =>
    simp only [cond_false];have hm:mayLend (.call c)=true:=by
     simp only [mayLend,hc];rw [←hc,hio];rfl
    have e1:=fun fl k=>argsK_congr (fl:=fl) (ρ:=ρ) (ρ':=ρ') (bv:=bv') c.args.toList k ha;have e2:=hl hm;simp only [argsOf] at e2;rw [←lends_congr (ρ:=ρ) (ρ':=ρ') c.args.toList ha];simp only [←e1,e2]
  ·rename_i hc
   split
   ·rename_i x i t u ea et
    rw [←ha x (by simp [ea]),←ha i (by simp [ea])]
    split<;>try rfl
    split<;>try rfl
    rename_i g k e1 e2 e3
    have haddr:addrOf (.call c)=some x:=by
     simp only [addrOf,hc,ea];rfl
    rw [hb x haddr _ g e2 rfl]
   ·rfl
  ·split
   ·rename_i x t e _;rw [ha x (by simp [e])]
   ·rfl
  ·split
   ·rename_i x y e;rw [ha x (by simp [e]),ha y (by simp [e])]
   ·rfl
  ·split
   ·rename_i x y e;rw [ha x (by simp [e]),ha y (by simp [e])]
   ·rfl
  ·rfl
 all_goals rfl
/-! ### an operation of a region -/
def evNw (P:Program) (O:Opq) (T:Tys) (o:Oper) (V:View) (K:Eff→Prop):Prop :=
 match isNew o.op with
 | true=>match o.dst with
  | some t=>match V.bv t with
   | none=>evOp P O T o.op V.ev V.bv K
   | some _=>False
  | none=>False
 | false=>evOp P O T o.op V.ev V.bv K
def evG (P:Program) (O:Opq) (T:Tys) (ops:Array Oper) (o:Oper) (V:View) (K:Eff→Prop):Prop :=
 match o.guard with
 | none=>evNw P O T o V K
 | some (j,want)=>match (ops[j]?).bind (·.dst) with
  | some t=>match V.tv t with
   | .c (.v (.bool b))=>match want with
    | true=>cond b (evNw P O T o V K) (K (.val (.t [])))
    | false=>cond b (K (.val (.t []))) (evNw P O T o V K)
   | .t _=>K (.val (.t []))
   | _=>False
  | none=>False
theorem evNw_one {o:Oper} {V:View}:One (evNw P O T o V):=by
 unfold One evNw
 split
 ·split
  ·split
   ·exact evOp_ex
   ·exact One.no
  ·exact One.no
 ·exact evOp_ex
theorem evG_one {ops:Array Oper} {o:Oper} {V:View}:One (evG P O T ops o V):=by
 unfold One evG
 split
 ·exact evNw_one
 ·split
  ·split
   ·rename_i b _
    intro k h
    split at h
    ·cases b with
     | true=>exact evNw_one k h
     | false=>exact One.pure (Eff.val (.t [])) k h
    ·cases b with
     | true=>exact One.pure (Eff.val (.t [])) k h
     | false=>exact evNw_one k h
   ·exact One.pure _
   ·exact One.no
  ·exact One.no
theorem evG_congr {ops:Array Oper} {o:Oper} {V V':View} {K:Eff→Prop} (h:∀ t∈o.looksAt ops,V.tv t=V'.tv t) (hn:isNew o.op=true→∀ t,o.dst=some t→V.bv t=none→V'.bv t=none)
  (hb:∀ a,addrOf o.op=some a→∀ y k,V.ev a=.c y→refC y=some k→V.bv k=V'.bv k) (hl:mayLend o.op=true→∀ fl k,argsK fl V.ev V.bv (argsOf o.op) k=argsK fl V.ev V'.bv (argsOf o.op) k) (e:evG P O T ops o V K):evG P O T ops o V' K:=by
 have hops:∀ x∈o.op.operands,V.ev x=V'.ev x:=by
  intro x hx
  cases x with
  | tmp t=>exact h t (by simp only [Oper.looksAt,List.mem_append,List.mem_filterMap];exact .inl ⟨.tmp t,by simpa using hx,rfl⟩)
  | const x=>cases x<;>rfl
  | global _=>rfl
  | func _=>rfl
 have n:evNw P O T o V K→evNw P O T o V' K:=by
  intro e
  unfold evNw at e ⊢;rw [evOp_congr hops hb hl] at e
  cases hi:isNew o.op with
  | false=>rw [hi] at e;exact e
  | true =>
   rw [hi] at e
   cases hd:o.dst with
   | none=>rw [hd] at e;exact e
   | some t =>
    rw [hd] at e
    simp only at e ⊢
    cases hv:V.bv t with
    | some _=>rw [hv] at e;exact e.elim
    | none=>rw [hv] at e;rw [hn hi t hd hv];exact e
 unfold evG at e ⊢
 split at e
 ·exact n e
 ·rename_i j want hg
  cases ht:(ops[j]?).bind (·.dst) with
  | none=>simp only [ht] at e
  | some t =>
   simp only [ht] at e ⊢;rw [←h t (by simp only [Oper.looksAt,hg,ht];simp)]
   cases hv:V.tv t with
   | t xs=>rw [hv] at e;exact e
   | g _=>rw [hv] at e;exact e.elim
   | j=>rw [hv] at e;exact e.elim
   | c y =>
    cases y with
    | v x =>
     cases x with
     | bool b =>
      rw [hv] at e
      cases want<;>cases b<;>first | exact n e | exact e
     | _=>rw [hv] at e;exact e.elim
    | _=>rw [hv] at e;exact e.elim
/-! ### the boxes that cells name are there -/
def okC (bv:Nat→Option Bx) (c:AC):Prop:=∀ h,refC c=some h→(bv h).isSome=true
def okL (bv:Nat→Option Bx) (cs:List AC):Prop:=∀ c∈cs,okC bv c
def okV (bv:Nat→Option Bx):AV→Prop
 | .c c=>okC bv c
 | .g cs=>okL bv cs
 | _=>True
def okX (bv:Nat→Option Bx) (X:Bx):Prop:=∀ T cs,X.cells=some (T,cs)→okL bv cs
structure WF (V:View):Prop where
 tv:∀ u,okV V.bv (V.tv u)
 bv:∀ k X,V.bv k=some X→okX V.bv X
theorem okC_v {bv:Nat→Option Bx} {x:Value}:okC bv (.v x):=fun h e=>by cases e
theorem ev_ok {V:View} (W:WF V) (x:Operand):okV V.bv (V.ev x):=by
 cases x with
 | tmp t=>exact W.tv t
 | const x=>cases x<;>first | trivial | exact okC_v
 | global g=>exact okC_v
 | func f=>exact okC_v
theorem okC_of {V:View} (W:WF V) {x:Operand} {y:AC} {k:Nat} (h:V.ev x=.c y) (hk:refC y=some k):(V.bv k).isSome=true:=by
 have:=ev_ok W x
 rw [h] at this
 exact this k hk
theorem okL.take {bv:Nat→Option Bx} {cs:List AC} (h:okL bv cs) (n:Nat):okL bv (cs.take n):=fun c hc=>h c (List.mem_of_mem_take hc)
theorem okL.drop {bv:Nat→Option Bx} {cs:List AC} (h:okL bv cs) (n:Nat):okL bv (cs.drop n):=fun c hc=>h c (List.mem_of_mem_drop hc)
theorem okL.app {bv:Nat→Option Bx} {cs ds:List AC} (h:okL bv cs) (k:okL bv ds):okL bv (cs++ds):=fun c hc=>by
 rcases List.mem_append.1 hc with h' | h'
 ·exact h c h'
 ·exact k c h'
theorem okC_p {bv:Nat→Option Bx} {c:AC} (h:isP c=false):okC bv c:=by
 intro k hk
 cases c<;>first | (cases hk;done) | (simp [isP] at h;done)
theorem okL_p {bv:Nat→Option Bx} {cs:List AC} (h:noPs cs=true):okL bv cs:=fun c hc=>okC_p ((noPs_iff cs).1 h c hc)
theorem cellsK_ok {bv:Nat→Option Bx} {x:AV} {cs:List AC} (h:cellsK x (· = cs)) (hx:okV bv x):okL bv cs:=by
 cases x with
 | c y=>have h:[y]=cs:=h;subst h;intro c hc;simp at hc;subst hc;exact hx
 | g ds=>have h:=(allK_iff _ _).1 h;subst h;exact hx
 | t _=>exact h.elim
 | j=>exact h.elim
theorem fillK_ok {bv:Nat→Option Bx} {fl:List (Nat×Nat×Bool)} {ρ:Operand→AV} (hρ:∀ x,okV bv (ρ x)):∀ (ps:List (Nat×Operand)) (cs r:List AC),okL bv cs→fillK fl ρ ps cs (· = r)→okL bv r
 | [],cs,r,h,e=>by have e:cs=r:=e;subst e;exact h
 | (i,x) :: ps,cs,r,h,e=>by
  simp only [fillK] at e
  split at e
  ·obtain ⟨xs,h1,h2,_⟩:=cellsK_one _ _ e
   exact fillK_ok hρ ps _ r ((((h.take _).app (cellsK_ok h1 (hρ x))).app (h.drop _))) (cond_ff h2).2
  ·exact e.elim
def Eff.fits (o:Oper) (V:View):Eff→Prop
 | .val x=>okV V.bv x
 | .new X=>isNew o.op=true∧okX V.bv X∧∃ t,o.dst=some t∧V.bv t=none
 | .sto h X v=>isSto o.op=true∧(V.bv h).isSome=true∧okX V.bv X∧okV V.bv v∧∃ a y,addrOf o.op=some a∧V.ev a=.c y∧refC y=some h
theorem okX_m {bv:Nat→Option Bx} {ag:Bool} {ks:List Int} {vs:List (List AC)}:okX bv (.m ag ks vs):=fun _ _ h=>by cases h
theorem okX_set {bv:Nat→Option Bx} {X:Bx} {l:List AC} (h:okL bv l):okX bv (X.setCells l):=by
 intro T cs e
 cases X<;>simp [Bx.setCells,Bx.cells] at e<;>(rw [←e.2];exact h)
def ZOK (T:Tys):Prop:=∀ t ty,T t=some ty→∀ c∈ty.zero,refC c=none
theorem fits_evOp {o:Oper} {V:View} (W:WF V) (TZ:ZOK T) {e:Eff} (hn:isNew o.op=true→∃ t,o.dst=some t∧V.bv t=none) (h:evOp P O T o.op V.ev V.bv (· = e)):e.fits o V:=by
 have vl:∀ {x:AV},okV V.bv x→Eff.val x=e→e.fits o V:=by
  intro x hx he;subst he;exact hx
 have sc:∀ {x:Value},Eff.val (.c (.v x))=e→e.fits o V:=fun h=>vl (x:=.c (.v _)) okC_v h;have p:∀ {ag m cs},okL V.bv cs→partK ag m cs (fun v=>Eff.val v=e)→e.fits o V:=by
  intro ag m cs hc h
  cases ag with
  | true =>
   simp only [partK,takeK_iff] at h
   exact vl (x:=.g _) (hc.take m) h.2
  | false=>cases cs with
   | nil=>exact h.elim
   | cons c cs=>exact vl (x:=.c c) (hc c (by simp)) h
 have np:∀ {x:AV},noPV x=true→okV V.bv x:=by
  intro x hx
  cases x with
  | c c=>exact okC_p (by simpa [noPV] using hx)
  | g cs=>exact okL_p hx
  | t _=>trivial
  | j=>trivial
 have p':∀ {ag m cs},partK ag m cs (fun v=>cond (noPV v) (Eff.val v=e) False)→e.fits o V:=by
  intro ag m cs h
  obtain ⟨v,_,h,_⟩:=partK_one _ _ _ _ h
  exact vl (np (cond_ff h).1) (cond_ff h).2
 have pk:∀ {ag cs},packK ag cs (fun v=>cond (noPV v) (Eff.val v=e) False)→e.fits o V:=by
  intro ag cs h
  obtain ⟨v,_,h,_⟩:=packK_one _ _ _ h
  exact vl (np (cond_ff h).1) (cond_ff h).2
 have z:∀ {t ty},T t=some ty→okL V.bv ty.zero:=fun ht c hc k hk=>by rw [TZ _ _ ht c hc] at hk;cases hk
 cases ho:o.op<;>rw [ho] at h<;>try exact h.elim
 case move x =>
  have he:=((fwdK_iff _ _).1 h).2
  exact vl (ev_ok W x) he
 case assign x =>
  have he:=((fwdK_iff _ _).1 h).2
  exact vl (ev_ok W x) he
 case pick c a b =>
  simp only [evOp] at h
  split at h
  ·rename_i t _
   cases t with
   | true=>exact vl (ev_ok W a) ((fwdK_iff _ _).1 h).2
   | false=>exact vl (ev_ok W b) ((fwdK_iff _ _).1 h).2
  ·exact h.elim
 case alloc t =>
  simp only [evOp] at h
  split at h
  ·rename_i ty ht
   have he:=(cond_ff h).2;subst he
   exact ⟨by rw [ho];rfl,fun _ _ e=>by cases e;exact z ht,hn (by rw [ho];rfl)⟩
  ·exact h.elim
 case box t x =>
  simp only [evOp] at h;obtain ⟨cs,h1,h,_⟩:=cellsK_one _ _ h;have he:=(cond_ff h).2;subst he
  exact ⟨by rw [ho];rfl,fun _ _ e=>by cases e;exact cellsK_ok h1 (ev_ok W x),hn (by rw [ho];rfl)⟩
 case build t ps =>
  simp only [evOp] at h
  split at h
  ·rename_i ty ht
   obtain ⟨_,h⟩:=cond_ff' h;obtain ⟨cs,h1,h,_⟩:=fillK_one _ _ _ _ _ h;rw [allK_iff] at h
   exact vl (x:=.g cs) (fillK_ok (fun x=>ev_ok W x) _ _ _ (z ht) h1) h
  ·exact h.elim
 case buildSlice t n ps =>
  simp only [evOp] at h
  split at h
  ·split at h
   ·obtain ⟨rs,_,h,_⟩:=rowsK_one _ _ _ _ _ h
    exact vl (np rfl) (cond_ff h).2
   ·exact h.elim
  ·exact h.elim
 case load t a =>
  simp only [evOp] at h
  split at h
  ·split at h
   ·split at h
    ·rename_i X eX
     split at h
     ·rename_i U cs ec
      exact p ((W.bv _ _ eX _ _ ec).drop _) h
     ·exact h.elim
    ·exact h.elim
   ·exact p' h
   ·split at h
    ·exact sc h
    ·exact h.elim
   ·exact h.elim
  ·exact h.elim
 case store t a x =>
  simp only [evOp] at h
  split at h
  ·split at h
   ·rename_i k off ea
    split at h
    ·rename_i X eX
     split at h
     ·rename_i U cs ec
      obtain ⟨xs,h1,h,_⟩:=cellsK_one _ _ h;have h:=(cond_ff h).2;rw [allK_iff] at h;subst h;have hc:=W.bv _ _ eX _ _ ec
      exact ⟨by rw [ho];rfl,by rw [eX];rfl,okX_set (((hc.take _).app (cellsK_ok h1 (ev_ok W x))).app (hc.drop _)),trivial,_,_,by rw [ho];rfl,ea,rfl⟩
     ·exact h.elim
    ·exact h.elim
   ·exact h.elim
  ·exact h.elim
 case nilCheck x =>
  simp only [evOp] at h
  split at h
  ·rename_i ex;exact vl (x:=.c (.p _ _)) (fun k hk=>by cases hk;exact okC_of W ex rfl) h
  ·exact vl (np rfl) h
  ·exact h.elim
 case makeMap t r =>
  cases r with
  | some _=>exact h.elim
  | none =>
   simp only [evOp] at h
   split at h
   ·split at h
    ·have he:Eff.new _=e:=h;subst he
     exact ⟨by rw [ho];rfl,okX_m,hn (by rw [ho];rfl)⟩
    ·exact h.elim
   ·exact h.elim
 case lookup t x i ok =>
  cases ok with
  | true=>exact h.elim
  | false =>
   simp only [evOp] at h
   split at h
   ·split at h
    ·split at h
     ·split at h
      ·exact pk (cond_ff h).2
      ·exact h.elim
     ·exact pk (cond_ff h).2
     ·exact h.elim
    ·exact h.elim
   ·exact h.elim
 case mapUpdate t x i y =>
  simp only [evOp] at h
  split at h
  ·split at h
   ·split at h
    ·rename_i em e1 e2 _ _ _ _ eb
     have h:=(cond_ff h).2;obtain ⟨xs,_,h,_⟩:=shapeK_one _ _ _ h;have he:=(cond_ff h).2;subst he
     exact ⟨by rw [ho];rfl,by rw [eb];rfl,okX_m,trivial,_,_,by rw [ho];rfl,e1,rfl⟩
    ·exact h.elim
   ·exact h.elim
  ·exact h.elim
 case fieldAddr s x f =>
  simp only [evOp] at h
  split at h
  ·split at h
   ·rename_i ex;exact vl (x:=.c (.p _ _)) (fun k hk=>by cases hk;exact okC_of W ex rfl) h
   ·exact vl (np rfl) h
   ·exact h.elim
  ·exact h.elim
 case field s x f =>
  simp only [evOp] at h
  split at h
  ·split at h
   ·rename_i ex
    have:=ev_ok W x
    rw [ex] at this
    exact p (okL.drop this _) h
   ·exact h.elim
  ·exact h.elim
 case indexAddr t x i =>
  simp only [evOp] at h
  split at h
  ·split at h
   ·exact vl (np rfl) (cond_ff h).2
   ·rename_i ex _;exact vl (x:=.c (.p _ _)) (fun k hk=>by cases hk;exact okC_of W ex rfl) (cond_ff h).2
   ·split at h
    ·exact sc (cond_ff h).2
    ·exact h.elim
   ·exact h.elim
  ·exact h.elim
 case extract x i =>
  simp only [evOp] at h
  split at h
  ·split at h
   ·obtain ⟨hp,h⟩:=cond_ff' h;exact vl (x:=.c _) (okC_p hp) h
   ·rw [allK_iff] at h
    exact vl (x:=.g _) (okL_p (cond_ff h).1) (cond_ff h).2
   ·exact h.elim
  ·exact h.elim
 case binOp op t x y u =>
  simp only [evOp] at h
  split at h
  ·split at h
   ·split at h
    ·exact sc h
    ·exact h.elim
   ·split at h
    ·exact sc h
    ·exact h.elim
   ·exact h.elim
  ·obtain ⟨r,_,h,_⟩:=binK_one _ _ _ _ h;exact sc h
  ·split at h
   ·obtain ⟨r,_,h,_⟩:=eqK_one _ _ _ _ (cond_ff h).2;exact sc h
   ·obtain ⟨r,_,h,_⟩:=eqK_one _ _ _ _ (cond_ff h).2;exact sc h
   ·exact h.elim
  ·exact h.elim
 case unOp op t x =>
  simp only [evOp] at h
  split at h
  ·obtain ⟨r,_,h,_⟩:=unK_one _ _ _ h;exact sc h
  ·exact h.elim
 case convert s d x =>
  simp only [evOp] at h
  split at h
  ·split at h<;>first | exact h.elim | exact sc h
  ·exact h.elim
 case makeFunc fn fs cs=>simp only [evOp] at h;exact sc (cond_ff h).2
 case call c =>
  simp only [evOp,lenK_eq] at h
  split at h
  ·rename_i f hc
   split at h
   ·cases hio:ioC c.callee with
    | true =>
     rw [hio] at h;simp only [cond_true] at h
     split at h
     ·rename_i x xs ea
      split at h
      ·rename_i g eg
       split at h
       ·rename_i eb
        obtain ⟨_,h⟩:=cond_ff' h;obtain ⟨l,_,⟨ks',vs',_,he⟩,_⟩:=argsK_one _ _ _ _ _ h;subst he;refine ⟨?_,by rw [eb];rfl,okX_m,fun k hk=>okC_of W eg hk,x,_,?_,eg,rfl⟩
        ·rw [ho];simp only [isSto,hc];rw [←hc];exact hio
        ·rw [ho];simp only [addrOf,hc];rw [←hc,hio,cond_true,ea];rfl
       ·exact h.elim
      ·exact h.elim
     ·exact h.elim
    | false =>
     rw [hio] at h;simp only [cond_false] at h;have nv:∀ {r:AV},noPV r=true→Eff.val r=e→e.fits o V:=fun h h'=>vl (np h) h'
     cases how:ownC c.callee with
     | true =>
      rw [how] at h;simp only [cond_true] at h;obtain ⟨l,_,h,_⟩:=argsK_one _ _ _ _ _ h
      rcases h with ⟨r,hr,h⟩ | ⟨ag,ks,vs,_,_,he⟩
      ·exact nv hr.nop h
      ·subst he;have hi:isNew o.op=true:=by rw [ho];exact how
       exact ⟨hi,okX_m,hn hi⟩
     | false =>
      rw [how] at h;simp only [cond_false] at h
      cases hle:lends V.ev c.args.toList with
      | true =>
       rw [hle] at h;simp only [cond_true] at h;obtain ⟨l,_,⟨r,hr,_,h⟩,_⟩:=argsK_one _ _ _ _ _ h
       exact nv hr.nop h
      | false =>
       rw [hle] at h;simp only [cond_false] at h;obtain ⟨l,_,⟨r,hr,h⟩,_⟩:=argsK_one _ _ _ _ _ h
       exact nv hr.nop h
   ·exact h.elim
  ·rename_i hc
   split at h
   ·rename_i x i t u ea et
    split at h
    ·split at h
     ·split at h
      ·rename_i e1 e2 _ _ _ _ eb
       have he:Eff.sto _ _ _=e:=h;subst he
       exact ⟨by rw [ho];simp only [isSto,hc],by rw [eb];rfl,okX_m,trivial,x,_,by rw [ho];simp only [addrOf,hc,ea];rfl,e1,rfl⟩
      ·exact h.elim
     ·exact h.elim
    ·exact h.elim
   ·exact h.elim
  ·split at h
   ·split at h
    ·split at h<;>first | exact h.elim | exact sc h
    ·exact h.elim
   ·exact h.elim
  ·split at h
   ·split at h<;>first | exact h.elim | exact sc h
   ·exact h.elim
  ·split at h
   ·split at h<;>first | exact h.elim | exact sc h
   ·exact h.elim
  ·exact h.elim
end
section
variable {P:Program} {O:Opq} {T:Tys}
theorem fits_evG {ops:Array Oper} {o:Oper} {V:View} (W:WF V) (TZ:ZOK T) {e:Eff} (h:evG P O T ops o V (· = e)):e.fits o V:=by
 have n:evNw P O T o V (· = e)→e.fits o V:=by
  intro h
  unfold evNw at h
  cases hi:isNew o.op with
  | false=>rw [hi] at h;exact fits_evOp W TZ (fun h=>by rw [hi] at h;cases h) h
  | true =>
   rw [hi] at h
   cases hd:o.dst with
   | none=>rw [hd] at h;exact h.elim
   | some t =>
    rw [hd] at h
    cases hv:V.bv t with
    | some _=>simp only [hv] at h
    | none=>simp only [hv] at h;exact fits_evOp W TZ (fun _=>⟨t,hd,hv⟩) h
 have u:Eff.val (.t [])=e→e.fits o V:=by intro h;subst h;trivial
 unfold evG at h
 split at h
 ·exact n h
 ·rename_i j want hg
  cases ht:(ops[j]?).bind (·.dst) with
  | none=>simp only [ht] at h
  | some t =>
   simp only [ht] at h
   cases hv:V.tv t with
   | t xs=>rw [hv] at h;exact u h
   | g _=>rw [hv] at h;exact h.elim
   | j=>rw [hv] at h;exact h.elim
   | c y =>
    cases y with
    | v x =>
     cases x with
     | bool b=>rw [hv] at h;cases want<;>cases b<;>first | exact n h | exact u h
     | _=>rw [hv] at h;exact h.elim
    | _=>rw [hv] at h;exact h.elim
def Eff.o (e:Eff) (t:Nat):AV:=match e with
 | .val x=>x
 | .new X=>.c (X.ref t)
 | .sto _ _ v=>v
def Eff.key (e:Eff) (d:Option Nat):Option (Nat×Bx):=match e,d with
 | .new X,some t=>some (t,X)
 | .sto h X _,_=>some (h,X)
 | _,_=>none
def updT (f:Nat→AV) (d:Option Nat) (e:Eff):Nat→AV:=match d with
 | some t=>upd f t (e.o t)
 | none=>f
def updB (f:Nat→Option Bx) (k:Option (Nat×Bx)):Nat→Option Bx:=match k with
 | some (h,x)=>upd f h (some x)
 | none=>f
theorem app_eq (V:View) (e:Eff) (d:Option Nat):V.app e d=⟨updT V.tv d e,updB V.bv (e.key d),V.sv,V.df⟩:=by
 cases e<;>cases d<;>rfl
theorem upd_comm {α:Type} (f:Nat→α) {i j:Nat} (x y:α) (h:i≠j):upd (upd f i x) j y=upd (upd f j y) i x:=by
 funext k
 by_cases e1:k=i
 ·subst e1;rw [upd_ne _ _ h,upd_same,upd_same]
 ·by_cases e2:k=j
  ·subst e2;rw [upd_same,upd_ne _ _ e1,upd_same]
  ·rw [upd_ne _ _ e2,upd_ne _ _ e1,upd_ne _ _ e1,upd_ne _ _ e2]
theorem okC.mono {bv bv':Nat→Option Bx} (hb:∀ k,(bv k).isSome=true→(bv' k).isSome=true) {c:AC} (h:okC bv c):okC bv' c:=fun k hk=>hb k (h k hk)
theorem okL.mono {bv bv':Nat→Option Bx} (hb:∀ k,(bv k).isSome=true→(bv' k).isSome=true) {c:List AC} (h:okL bv c):okL bv' c:=fun x hx=>(h x hx).mono hb
theorem okV.mono {bv bv':Nat→Option Bx} (hb:∀ k,(bv k).isSome=true→(bv' k).isSome=true) {x:AV} (h:okV bv x):okV bv' x:=by
 cases x with
 | c c=>exact okC.mono hb h
 | g cs=>exact okL.mono hb h
 | _=>trivial
theorem okX.mono {bv bv':Nat→Option Bx} (hb:∀ k,(bv k).isSome=true→(bv' k).isSome=true) {X:Bx} (h:okX bv X):okX bv' X:=fun T cs e=>(h T cs e).mono hb
theorem updB_some {bv:Nat→Option Bx} {k:Option (Nat×Bx)} (j:Nat) (h:(bv j).isSome=true):(updB bv k j).isSome=true:=by
 cases k with
 | none=>exact h
 | some p =>
  show (upd bv p.1 (some p.2) j).isSome=true
  by_cases e:j=p.1
  ·rw [e,upd_same];rfl
  ·rw [upd_ne _ _ e];exact h
theorem WF.app {o:Oper} {V:View} (W:WF V) {e:Eff} (h:e.fits o V):WF (V.app e o.dst):=by
 rw [app_eq];have out:∀ t,o.dst=some t→okV (updB V.bv (e.key o.dst)) (e.o t):=by
  intro t ht
  cases e with
  | val x=>exact okV.mono updB_some h
  | sto g X v=>exact okV.mono updB_some h.2.2.2.1
  | new X =>
   rw [ht]
   show okC (upd V.bv t (some X)) (X.ref t)
   intro k hk
   have:k=t:=by cases X<;>simp [Bx.ref,refC] at hk<;>exact hk.symm
   rw [this,upd_same];rfl
 refine ⟨fun u => ?_,fun k X hk => ?_⟩
 ·show okV (updB V.bv (e.key o.dst)) (updT V.tv o.dst e u)
  cases hd:o.dst with
  | none=>show okV _ (V.tv u);rw [←hd];exact okV.mono updB_some (W.tv u)
  | some t =>
   show okV _ (upd V.tv t (e.o t) u)
   rw [←hd]
   by_cases eu:u=t
   ·rw [eu,upd_same];exact out t hd
   ·rw [upd_ne _ _ eu];exact okV.mono updB_some (W.tv u)
 ·show okX (updB V.bv (e.key o.dst)) X
  cases hkey:e.key o.dst with
  | none=>rw [hkey] at hk;exact W.bv k X hk
  | some p =>
   rw [←hkey];have hp:okX V.bv p.2:=by
    cases e with
    | val x=>cases hd:o.dst<;>rw [hd] at hkey<;>cases hkey
    | sto g Y v =>
     have hkey:some (g,Y)=some p:=by rw [←hkey];cases o.dst<;>rfl
     cases hkey;exact h.2.2.1
    | new Y =>
     obtain ⟨_,h2,t,ht,_⟩:=h;rw [ht] at hkey;have hkey:some (t,Y)=some p:=hkey
     cases hkey;exact h2
   have hk:upd V.bv p.1 (some p.2) k=some X:=by rw [hkey] at hk;exact hk
   by_cases ek:k=p.1
   ·rw [ek,upd_same] at hk;cases hk;exact hp.mono updB_some
   ·rw [upd_ne _ _ ek] at hk;exact okX.mono updB_some (W.bv k X hk)
theorem mapK_eq {F G:AC→(AC→Prop)→Prop}:∀ (cs:List AC) (k:List AC→Prop),(∀ c∈cs,∀ k,F c k=G c k)→mapK F cs k=mapK G cs k
 | [],_,_=>rfl
 | c :: cs,k,h=>by
  simp only [mapK];rw [h c (by simp)]
  have:=fun k=>mapK_eq cs k (fun c hc=>h c (by simp [hc]))
  simp only [this]
theorem frzK_eq {bv bv':Nat→Option Bx} (hW:∀ k X,bv k=some X→okX bv X) (he:∀ h,(bv h).isSome=true→bv' h=bv h):∀ (fl:Bool) (f:Nat) (c:AC) (k:AC→Prop),okC bv c→frzK fl bv f c k=frzK fl bv' f c k
 | _,0,_,_,_=>rfl
 | fl,f+1,c,k,hc=>by
  have low:∀ (h:Nat) (X:Bx) (T:Nat) (cs:List AC) (k:List AC→Prop),bv h=some X→X.cells=some (T,cs)→∀ n,mapK (frzK fl bv f) (cs.take n) k=mapK (frzK fl bv' f) (cs.take n) k :=
   fun h X T cs k e1 e2 n=>mapK_eq _ k fun c hc' k=>frzK_eq hW he fl f c k (hW h X e1 T cs e2 c (List.mem_of_mem_take hc'))
  have low':∀ (h:Nat) (X:Bx) (T:Nat) (cs:List AC) (k:List AC→Prop),bv h=some X→X.cells=some (T,cs)→mapK (frzK fl bv f) cs k=mapK (frzK fl bv' f) cs k:=fun h X T cs k e1 e2=>by
   have:=low h X T cs k e1 e2 cs.length
   rwa [List.take_length] at this
  cases c with
  | p h off =>
   simp only [frzK];rw [he h (hc h rfl)]
   cases e:bv h with
   | none=>rfl
   | some X =>
    cases X with
    | b T cs =>
     obtain ⟨n,hn⟩:=cutM_take fl cs;simp only [hn]
     exact low h _ _ _ _ e rfl n
    | r T wd cs=>exact low' h _ _ _ _ e rfl
    | _=>rfl
  | pm h =>
   simp only [frzK];rw [he h (hc h rfl)]
  | os h n cap =>
   simp only [frzK];rw [he h (hc h rfl)]
   cases e:bv h with
   | none=>rfl
   | some X=>cases X<;>first | rfl | (simp only [];rw [low' h _ _ _ _ e rfl])
  | clp c h cs =>
   simp only [frzK];rw [he h (hc h rfl)]
   cases e:bv h with
   | none=>rfl
   | some X=>cases X<;>first | rfl | (simp only [];rw [low' h _ _ _ _ e rfl])
  | _=>rfl
theorem argsK_eq {ρ:Operand→AV} {bv bv':Nat→Option Bx} (hW:∀ k X,bv k=some X→okX bv X) (he:∀ h,(bv h).isSome=true→bv' h=bv h):∀ (fl:Bool) (l:List Operand) (k:List AV→Prop),(∀ x∈l,okV bv (ρ x))→argsK fl ρ bv l k=argsK fl ρ bv' l k
 | _,[],_,_=>rfl
 | fl,x :: r,k,h=>by
  have:=fun k=>argsK_eq hW he fl r k (fun y hy=>h y (by simp [hy]))
  simp only [argsK]
  cases hx:ρ x with
  | c c =>
   have hc:okC bv c:=by have:=h x (by simp);rw [hx] at this;exact this
   simp only [frzK_eq hW he fl 4 c _ hc,this]
  | g cs=>simp only [this]
  | _=>rfl
def neB:Option Nat→Option Nat→Bool
 | some a,some b => !Nat.beq a b
 | _,_=>false
def rdB (o:Op):Bool:=(addrOf o).isSome||mayLend o
def apartB (ops:Array Oper) (bi bj:Option Nat) (x y:Oper):Bool :=
 x.apart ops y&&(!(rdB x.op&&isSto y.op)||neB bi bj)&&(!(rdB y.op&&isSto x.op)||neB bi bj)
theorem neB_ne {bi bj:Option Nat} (h:neB bi bj=true):∃ p q,bi=some p∧bj=some q∧p≠q:=by
 cases bi with
 | none=>cases h
 | some p =>
  cases bj with
  | none=>cases h
  | some q=>exact ⟨p,q,rfl,rfl,fun e=>by subst e;simp [neB] at h⟩
def boxOK (V:View) (o:Oper) (b:Option Nat):Prop:=∀ k,b=some k→(∀ a,addrOf o.op=some a→∀ y h,V.ev a=.c y→refC y=some h→h=k)∧(mayLend o.op=true→lends V.ev (argsOf o.op)=false)
theorem addr_mem {op:Op} {a:Operand} (h:addrOf op=some a):a∈op.operands:=by
 cases op<;>simp only [addrOf] at h<;>try (cases h;done)
 case load=>cases h;simp [Op.operands]
 case store=>cases h;simp [Op.operands]
 case lookup=>cases h;simp [Op.operands]
 case mapUpdate=>cases h;simp [Op.operands]
 case call c =>
  have:c.args.toList.head?=some a:=by
   split at h
   ·exact h
   ·cases hi:ioC c.callee with
    | true=>rw [hi] at h;exact h
    | false=>rw [hi] at h;cases h
  have:=List.mem_of_head? this
  simp only [Op.operands,Go.Call.operands]
  simp
  exact .inr (by simpa using this)
theorem oper_looks {ops:Array Oper} {o:Oper} {t:Nat} (h:Operand.tmp t∈o.op.operands):t∈o.looksAt ops:=by
 simp only [Oper.looksAt,List.mem_append,List.mem_filterMap]
 exact .inl ⟨.tmp t,by simpa using h,rfl⟩
theorem args_mem {op:Op} {x:Operand} (h:x∈argsOf op):x∈op.operands:=by
 cases op<;>simp only [argsOf] at h<;>try (cases h;done)
 simp only [Op.operands,Go.Call.operands]
 simp
 exact .inr (by simpa using h)
theorem swap {ops:Array Oper} {bi bj:Option Nat} {x y:Oper} {V:View} (W:WF V) (TZ:ZOK T) {e f:Eff} (ha:apartB ops bi bj x y=true) (kx:boxOK V x bi) (ky:boxOK (V.app e x.dst) y bj) (hx:evG P O T ops x V (· = e)) (hy:evG P O T ops y (V.app e x.dst) (· = f)) :
  boxOK V y bj∧boxOK (V.app f y.dst) x bi∧evG P O T ops y V (· = f)∧evG P O T ops x (V.app f y.dst) (· = e)∧(V.app f y.dst).app e x.dst=(V.app e x.dst).app f y.dst:=by
 simp only [apartB,Bool.and_eq_true,Bool.or_eq_true,Bool.not_eq_true',Bool.and_eq_false_iff] at ha;obtain ⟨⟨hap,hm1⟩,hm2⟩:=ha;obtain ⟨a1,a2,a3⟩:=Oper.apart_spec hap;have fe:=fits_evG W TZ hx;have tv1:∀ {f:Nat→AV} {d:Option Nat} {e:Eff} {t:Nat},(∀ u,d=some u→u≠t)→updT f d e t=f t:=by
  intro f d e t h
  cases d with
  | none=>rfl
  | some u=>exact upd_ne _ _ (fun h'=>h u rfl h'.symm)
 have bvN:∀ {o:Oper} {e:Eff} {t:Nat},(updB V.bv (e.key o.dst)) t=none→V.bv t=none:=by
  intro o e t h
  cases hk:V.bv t with
  | none=>rfl
  | some X=>have:=updB_some (bv:=V.bv) (k:=e.key o.dst) t (by rw [hk];rfl);rw [h] at this;cases this
 have hev:∀ {o p:Oper} {g:Eff} {a:Operand},a∈p.op.operands→(∀ d,o.dst=some d→d ∉ p.looksAt ops)→(V.app g o.dst).ev a=V.ev a:=by
  intro o p g a haa hn
  cases a with
  | tmp t =>
   show (V.app g o.dst).tv t=V.tv t
   rw [app_eq]
   exact tv1 (fun u hu e=>hn u hu (e ▸ oper_looks haa))
  | const x=>cases x<;>rfl
  | global _=>rfl
  | func _=>rfl
 have hle:∀ {o p:Oper} {g:Eff},(∀ d,o.dst=some d→d ∉ p.looksAt ops)→lends (V.app g o.dst).ev (argsOf p.op)=lends V.ev (argsOf p.op):=fun hn=>lends_congr _ (fun x hx=>hev (args_mem hx) hn);have ky':boxOK V y bj:=fun k hk=>⟨fun a haa z h hv hr=>(ky k hk).1 a haa z h (by rw [hev (addr_mem haa) a1];exact hv) hr,fun hm=>by rw [←hle a1];exact (ky k hk).2 hm⟩;have kx':boxOK (V.app f y.dst) x bi:=fun k hk=>⟨fun a haa z h hv hr=>(kx k hk).1 a haa z h (by rw [hev (addr_mem haa) a3] at hv;exact hv) hr,fun hm=>by rw [hle a3];exact (kx k hk).2 hm⟩
 -- the second,first
 have A:evG P O T ops y V (· = f):=by
  refine evG_congr (V:=V.app e x.dst) (fun t ht => ?_) (fun hn t hd hv => ?_) (fun a haa z k hz hk => ?_) (fun hm fl k => ?_) hy
  ·rw [app_eq];exact tv1 (fun u hu e=>a1 u hu (e ▸ ht))
  ·rw [app_eq] at hv;exact bvN (o:=x) hv
  ·rw [hev (addr_mem haa) a1] at hz;have hs:=okC_of W hz hk;rw [app_eq]
   show updB V.bv (e.key x.dst) k=V.bv k
   cases e with
   | val _=>cases x.dst<;>rfl
   | new X =>
    obtain ⟨_,_,t,hd,hv⟩:=fe;rw [hd]
    show upd V.bv t _ k=_
    refine upd_ne _ _ (fun e => ?_);rw [e,hv] at hs;cases hs
   | sto b X v =>
    have hkey:(Eff.sto b X v).key x.dst=some (b,X):=by cases x.dst<;>rfl
    rw [hkey];have h1:=fe.1
    rcases hm2 with (h | h) | h
    ·simp [rdB,haa] at h
    ·rw [h1] at h;cases h
    ·obtain ⟨p,q,hp,hq,hpq⟩:=neB_ne h;obtain ⟨a',y',hx',hv',hr'⟩:=fe.2.2.2.2;have e1:=(kx p hp).1 a' hx' _ b hv' hr';have e2:=(ky' q hq).1 a haa _ k hz hk
     exact upd_ne _ _ (fun e=>hpq (by rw [←e1,←e2,e]))
  ·have hρ:∀ z∈argsOf y.op,(V.app e x.dst).ev z=V.ev z:=fun z hz=>hev (args_mem hz) a1;rw [argsK_congr _ _ hρ,argsK_congr _ _ hρ];rw [app_eq]
   show argsK fl V.ev (updB V.bv (e.key x.dst)) _ k=_
   cases e with
   | val _=>cases x.dst<;>rfl
   | new X =>
    obtain ⟨_,_,t,hd,hv⟩:=fe;rw [hd];refine (argsK_eq W.bv (fun h hs => ?_) _ _ _ (fun z _=>ev_ok W z)).symm
    show upd V.bv t _ h=_
    refine upd_ne _ _ (fun e => ?_);rw [e,hv] at hs;cases hs
   | sto b X v =>
    have h1:=fe.1
    rcases hm2 with (h | h) | h
    ·simp [rdB,hm] at h
    ·rw [h1] at h;cases h
    ·obtain ⟨p,q,hp,hq,hpq⟩:=neB_ne h
     exact argsK_nolend _ _ ((ky' q hq).2 hm)
 have ff:=fits_evG W TZ A;have B:evG P O T ops x (V.app f y.dst) (· = e):=by
  refine evG_congr (V:=V) (fun t ht => ?_) (fun hn t hd hv => ?_) (fun a haa z k hz hk => ?_) (fun hm fl k => ?_) hx
  ·rw [app_eq];exact (tv1 (fun u hu e=>a3 u hu (e ▸ ht))).symm
  ·rw [app_eq]
   show updB V.bv (f.key y.dst) t=none
   cases f with
   | val _=>cases y.dst<;>exact hv
   | new X =>
    obtain ⟨_,_,u,hu,_⟩:=ff;rw [hu]
    show upd V.bv u _ t=_
    rw [upd_ne _ _ (fun e=>a2 t hd (by rw [hu,e]))];exact hv
   | sto b X v =>
    have hkey:(Eff.sto b X v).key y.dst=some (b,X):=by cases y.dst<;>rfl
    rw [hkey]
    show upd V.bv b _ t=_
    rw [upd_ne];exact hv
    intro e;have f2:=ff.2.1;rw [←e,hv] at f2;cases f2
  ·have hs:=okC_of W hz hk;rw [app_eq]
   show V.bv k=updB V.bv (f.key y.dst) k
   cases f with
   | val _=>cases y.dst<;>rfl
   | new X =>
    obtain ⟨_,_,t,hd,hv⟩:=ff;rw [hd]
    show _=upd V.bv t _ k
    rw [upd_ne]
    intro e;rw [e,hv] at hs;cases hs
   | sto b X v =>
    have hkey:(Eff.sto b X v).key y.dst=some (b,X):=by cases y.dst<;>rfl
    rw [hkey];have h1:=ff.1
    rcases hm1 with (h | h) | h
    ·simp [rdB,haa] at h
    ·rw [h1] at h;cases h
    ·obtain ⟨p,q,hp,hq,hpq⟩:=neB_ne h;obtain ⟨a',y',hx',hv',hr'⟩:=ff.2.2.2.2;have e1:=(ky' q hq).1 a' hx' _ b hv' hr';have e2:=(kx p hp).1 a haa _ k hz hk
     exact (upd_ne _ _ (fun e=>hpq (by rw [←e1,←e2,e]))).symm
  ·rw [app_eq]
   show argsK fl V.ev V.bv _ k=argsK fl V.ev (updB V.bv (f.key y.dst)) _ k
   cases f with
   | val _=>cases y.dst<;>rfl
   | new X =>
    obtain ⟨_,_,t,hd,hv⟩:=ff;rw [hd];refine argsK_eq W.bv (fun h hs => ?_) _ _ _ (fun z _=>ev_ok W z)
    show upd V.bv t _ h=_
    refine upd_ne _ _ (fun e => ?_);rw [e,hv] at hs;cases hs
   | sto b X v =>
    have h1:=ff.1
    rcases hm1 with (h | h) | h
    ·simp [rdB,hm] at h
    ·rw [h1] at h;cases h
    ·obtain ⟨p,q,hp,hq,hpq⟩:=neB_ne h
     exact argsK_nolend _ _ ((kx p hp).2 hm)
 refine ⟨ky',kx',A,B,?_⟩;simp only [app_eq]
 congr 1
 ·cases hd:x.dst with
  | none=>rfl
  | some i =>
   cases hd':y.dst with
   | none=>rfl
   | some j=>exact upd_comm _ _ _ (fun e=>a2 i hd (by rw [hd',←e]))
 ·cases hk:e.key x.dst with
  | none=>rfl
  | some p =>
   cases hk':f.key y.dst with
   | none=>rfl
   | some q =>
    refine upd_comm _ _ _ (fun eq => ?_);have nw:∀ {o:Oper} {X:Bx} {p:Nat×Bx} {t:Nat},o.dst=some t→(Eff.new X).key o.dst=some p→p.1=t:=by
     intro o X p t hd h
     rw [hd] at h;have h:some (t,X)=some p:=h;cases h;rfl
    have st:∀ {o:Oper} {b:Nat} {X:Bx} {v:AV} {p:Nat×Bx},(Eff.sto b X v).key o.dst=some p→p.1=b:=by
     intro o b X v p h
     have h:some (b,X)=some p:=by rw [←h];cases o.dst<;>rfl
     cases h;rfl
    cases e with
    | val _=>cases hd:x.dst<;>rw [hd] at hk<;>cases hk
    | new X =>
     obtain ⟨_,_,t,hd,hv⟩:=fe;have e1:=nw hd hk
     cases f with
     | val _=>cases hd:y.dst<;>rw [hd] at hk'<;>cases hk'
     | new X' =>
      obtain ⟨_,_,u,hu,_⟩:=ff;have e2:=nw hu hk'
      exact a2 _ hd (by rw [hu,←e1,←e2,eq])
     | sto b X' v =>
      have e2:=st hk'
      have:=ff.2.1
      rw [←e2,eq,e1,hv] at this;cases this
    | sto b X v =>
     have e1:=st hk
     cases f with
     | val _=>cases hd:y.dst<;>rw [hd] at hk'<;>cases hk'
     | new X' =>
      obtain ⟨_,_,u,hu,hv⟩:=ff;have e2:=nw hu hk'
      have:=fe.2.1
      rw [←e1,←eq,e2,hv] at this;cases this
     | sto b' X' v' =>
      have e2:=st hk';obtain ⟨a',y',hx',hv',hr'⟩:=fe.2.2.2.2;obtain ⟨a'',y'',hx'',hv'',hr''⟩:=ff.2.2.2.2
      rcases hm1 with (h | h) | h
      ·simp [rdB,hx'] at h
      ·rw [ff.1] at h;cases h
      ·obtain ⟨p',q',hp,hq,hpq⟩:=neB_ne h
       exact hpq (by rw [←(kx p' hp).1 a' hx' _ b hv' hr',←(ky' q' hq).1 a'' hx'' _ b' hv'' hr'',←e1,←e2,eq])
end
end Go.Proofs.YtoaoebimjmjpeaaGreatDoor
