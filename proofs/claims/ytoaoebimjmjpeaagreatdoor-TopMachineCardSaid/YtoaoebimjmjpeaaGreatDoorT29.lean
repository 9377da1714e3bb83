/- Plain: decimal digits in groups of nine. -/
import Derived.Lib.ItoaNum
namespace Go.Proofs.YtoaoebimjmjpeaaGreatDoor
set_option maxRecDepth 100000
set_option maxHeartbeats 8000000
def padk:Nat→Nat→List UInt8
 | 0,_=>[]
 | k+1,r=>padk k (r/10)++[UInt8.ofNat (48+r%10)]
theorem dec_big {n:Nat} (h:¬ n<10):Lib.decDigits n=Lib.decDigits (n/10)++[UInt8.ofNat (48+n%10)]:=by
 rw [Lib.decDigits,dif_neg h]
theorem dec_split:∀ (k m r:Nat),0<m→r<10^k→Lib.decDigits (m*10^k+r)=Lib.decDigits m++padk k r
 | 0,m,r,_,hr=>by
  have:r=0:=by omega
  subst this
  simp [padk]
 | k+1,m,r,hm,hr=>by
  have e1:m*10^(k+1)=m*10^k*10:=by rw [Nat.pow_succ,Nat.mul_assoc]
  have h10:1≤m*10^k:=Nat.mul_pos hm (Nat.pow_pos (by decide));have e2:(m*10^(k+1)+r)/10=m*10^k+r/10:=by omega
  have e3:(m*10^(k+1)+r)%10=r%10:=by omega
  have hr2:r/10<10^k:=by rw [Nat.pow_succ] at hr;omega
  rw [dec_big (by omega),e2,e3,dec_split k m (r/10) hm hr2,padk,List.append_assoc]
theorem padk_zero:∀ k,padk k 0=List.replicate k 48
 | 0=>rfl
 | k+1=>by
  rw [padk,Nat.zero_div,padk_zero k,List.replicate_succ']
  rfl
theorem padk_eq:∀ (k r:Nat),1≤k→r<10^k→padk k r=List.replicate (k-(Lib.decDigits r).length) 48++Lib.decDigits r
 | 0,_,h,_=>by omega
 | k+1,r,_,hr=>by
  by_cases h:r<10
  ·rw [padk,show r/10=0 by omega,padk_zero,Lib.decDigits_one h,Nat.mod_eq_of_lt h]
   simp
  ·have hr2:r/10<10^k:=by rw [Nat.pow_succ] at hr;omega
   have hk:1≤k:=by
    rcases Nat.eq_zero_or_pos k with e | e
    ·subst e;omega
    ·exact e
   rw [padk,padk_eq k (r/10) hk hr2,dec_big h];rw [List.length_append,List.length_singleton,Nat.add_sub_add_right,List.append_assoc]
theorem dec_len_pow {r k:Nat} (hk:1≤k) (hr:r<10^k):(Lib.decDigits r).length≤k:=by
 rw [Lib.decDigits_length]
 rcases Nat.eq_zero_or_pos r with e | e
 ·subst e;rw [Lib.nDigits_small (by decide)];exact hk
 ·rcases Nat.lt_or_ge k (Lib.nDigits r) with h | h
  ·exfalso
   have h1:∀ (j u:Nat),0<u→u<10^j→Lib.nDigits u≤j:=by
    intro j
    induction j with
    | zero=>intro u h0 h1;omega
    | succ j ih =>
     intro u h0 h1
     by_cases h2:u<10
     ·rw [Lib.nDigits_small h2];omega
     ·rw [Lib.nDigits_big h2]
      have:=ih (u/10) (by omega) (by rw [Nat.pow_succ] at h1;omega)
      omega
   have:=h1 k r e hr
   omega
  ·exact h
def Groups (n m:Nat) (ds:List (List UInt8)):Prop :=
 (0<m→Lib.decDigits n=Lib.decDigits m++ds.reverse.flatten)∧(m=0→Lib.decDigits n=ds.reverse.flatten)
theorem Groups.start (n:Nat) (h:0<n):Groups n n []:=⟨fun _=>by simp,fun e=>by omega⟩
theorem Groups.last {n m:Nat} {ds:List (List UInt8)} (h:Groups n m ds) (hm:0<m) (hq:m/1000000000=0):Groups n 0 (ds++[Lib.decDigits (m%1000000000)]):=by
 refine ⟨fun h=>by omega,fun _ => ?_⟩;rw [h.1 hm,Nat.mod_eq_of_lt (by omega)]
 simp
theorem Groups.next {n m:Nat} {ds:List (List UInt8)} (h:Groups n m ds) (hq:0<m/1000000000) :
  Groups n (m/1000000000) (ds++[List.replicate (9-(Lib.decDigits (m%1000000000)).length) 48++Lib.decDigits (m%1000000000)]):=by
 refine ⟨fun _ => ?_,fun h=>by omega⟩;have hm:0<m:=by omega
 have e:=dec_split 9 (m/1000000000) (m%1000000000) hq (by omega);rw [show m/1000000000*10^9+m%1000000000=m by omega,padk_eq 9 _ (by decide) (by omega)] at e;rw [h.1 hm,e]
 simp
end Go.Proofs.YtoaoebimjmjpeaaGreatDoor
namespace Vn
set_option maxRecDepth 100000
set_option maxHeartbeats 8000000
abbrev El:=List (Int×Rat)
def getE:El→Int→Rat
 | [],_=>0
 | (k,q) :: E,i=>if k=i then q else getE E i
def memE:El→Int→Bool
 | [],_=>false
 | (k,_) :: E,i=>cond (decide (k=i)) true (memE E i)
def repE:El→Int→Rat→El
 | [],_,_=>[]
 | (k,q) :: E,i,x=>cond (decide (k=i)) ((k,x) :: E) ((k,q) :: repE E i x)
def insE:El→Int→Rat→El
 | [],i,x=>[(i,x)]
 | (k,q) :: E,i,x=>cond (decide (i<k)) ((i,x) :: (k,q) :: E) ((k,q) :: insE E i x)
def putE (E:El) (i:Int) (x:Rat):El:=cond (memE E i) (repE E i x) (insE E i x)
def delE:El→Int→El
 | [],_=>[]
 | (k,q) :: E,i=>cond (decide (k=i)) E ((k,q) :: delE E i)
def withE (E:El) (i:Int) (q:Rat):El:=if getE E i+q=0 then delE E i else putE E i (getE E i+q)
def CanE (E:El):Prop:=E.Pairwise (fun p q=>p.1<q.1)∧∀ p∈E,p.2≠0
theorem CanE.nil:CanE []:=⟨List.Pairwise.nil,by simp⟩
theorem getE_lo:∀ {E:El} {i:Int},(∀ p∈E,i<p.1)→getE E i=0
 | [],_,_=>rfl
 | (k,q) :: E,i,h=>by
  have:=h (k,q) (by simp)
  simp only [getE];rw [if_neg (by intro e;simp at this;omega),getE_lo (fun p hp=>h p (by simp [hp]))]
theorem CanE.tail {p:Int×Rat} {E:El} (h:CanE (p :: E)):CanE E:=⟨h.1.tail,fun q hq=>h.2 q (by simp [hq])⟩
theorem CanE.head {k:Int} {q:Rat} {E:El} (h:CanE ((k,q) :: E)):∀ p∈E,k<p.1:=(List.pairwise_cons.1 h.1).1
theorem CanE.ext:∀ {E F:El},CanE E→CanE F→(∀ i,getE E i=getE F i)→E=F
 | [],[],_,_,_=>rfl
 | [],(k,q) :: F,_,hF,h=>by
  have:=h k
  simp [getE] at this
  exact absurd this.symm (hF.2 (k,q) (by simp))
 | (k,q) :: E,[],hE,_,h=>by
  have:=h k
  simp [getE] at this
  exact absurd this (hE.2 (k,q) (by simp))
 | (k,q) :: E,(l,r) :: F,hE,hF,h=>by
  have hq:=hE.2 (k,q) (by simp);have hr:=hF.2 (l,r) (by simp);have hkl:k=l:=by
   rcases Int.lt_trichotomy k l with hlt | e | hlt
   ·have:=h k
    rw [getE_lo (E:=(l,r) :: F) (i:=k) (fun p hp=>by
     cases hp with
     | head=>exact hlt
     | tail _ hp=>have:=hF.head p hp;omega)] at this
    simp [getE] at this
    exact absurd this hq
   ·exact e
   ·have:=h l
    rw [getE_lo (E:=(k,q) :: E) (i:=l) (fun p hp=>by
     cases hp with
     | head=>exact hlt
     | tail _ hp=>have:=hE.head p hp;omega)] at this
    simp [getE] at this
    exact absurd this.symm hr
  subst hkl;have hqr:q=r:=by have:=h k;simpa [getE] using this
  subst hqr
  congr 1
  refine CanE.ext hE.tail hF.tail fun i => ?_
  by_cases e:k=i
  ·subst e;rw [getE_lo hE.head,getE_lo hF.head]
  ·have:=h i
   simpa [getE,e] using this
theorem del_mem {E:El} {i:Int} {p:Int×Rat}:p∈delE E i→p∈E:=by
 induction E with
 | nil=>intro h;exact h
 | cons x E ih =>
  obtain ⟨k,q⟩:=x;simp only [delE]
  cases decide (k=i) with
  | true=>intro h;exact List.mem_cons_of_mem _ h
  | false=>intro h;cases h with
   | head=>simp
   | tail _ h=>exact List.mem_cons_of_mem _ (ih h)
theorem rep_mem {E:El} {i:Int} {x:Rat} {p:Int×Rat}:p∈repE E i x→p∈E∨(p.2=x∧∃ q,(p.1,q)∈E):=by
 induction E with
 | nil=>intro h;cases h
 | cons y E ih =>
  obtain ⟨k,q⟩:=y;simp only [repE]
  cases decide (k=i) with
  | true=>intro h;cases h with
   | head=>exact .inr ⟨rfl,q,by simp⟩
   | tail _ h=>exact .inl (List.mem_cons_of_mem _ h)
  | false=>intro h;cases h with
   | head=>exact .inl (by simp)
   | tail _ h =>
    rcases ih h with h | ⟨h1,r,h2⟩
    ·exact .inl (by simp [h])
    ·exact .inr ⟨h1,r,by simp [h2]⟩
theorem ins_mem {E:El} {i:Int} {x:Rat} {p:Int×Rat}:p∈insE E i x→p∈E∨p=(i,x):=by
 induction E with
 | nil=>intro h;simp [insE] at h;exact .inr h
 | cons y E ih =>
  obtain ⟨k,q⟩:=y;simp only [insE]
  cases decide (i<k) with
  | true=>intro h;cases h with
   | head=>exact .inr rfl
   | tail _ h=>exact .inl h
  | false=>intro h;cases h with
   | head=>exact .inl (by simp)
   | tail _ h =>
    rcases ih h with h | h
    ·exact .inl (by simp [h])
    ·exact .inr h
theorem CanE.del {E:El} (h:CanE E) (i:Int):CanE (delE E i)∧∀ j,getE (delE E i) j=if i=j then 0 else getE E j:=by
 induction E with
 | nil=>exact ⟨CanE.nil,fun j=>by simp [delE,getE]⟩
 | cons x E ih =>
  obtain ⟨k,q⟩:=x
  by_cases e:k=i
  ·subst e;simp only [delE,decide_true,cond_true];refine ⟨h.tail,fun j => ?_⟩
   by_cases e:k=j
   ·subst e;rw [if_pos rfl,getE_lo h.head]
   ·simp [getE,e]
  ·have e':decide (k=i)=false:=by simp [e]
   simp only [delE,e',cond_false];obtain ⟨h1,h2⟩:=ih h.tail;refine ⟨⟨List.pairwise_cons.2 ⟨fun p hp=>h.head p (del_mem hp),h1.1⟩,fun p hp => ?_⟩,fun j => ?_⟩
   ·cases hp with
    | head=>exact h.2 _ (by simp)
    | tail _ hp=>exact h1.2 p hp
   ·simp only [getE,h2]
    by_cases ej:k=j
    ·subst ej;rw [if_pos rfl,if_pos rfl,if_neg (fun e'=>e e'.symm)]
    ·rw [if_neg ej,if_neg ej]
theorem CanE.rep {E:El} (h:CanE E) (i:Int) {x:Rat} (hx:x≠0) (hm:memE E i=true):CanE (repE E i x)∧∀ j,getE (repE E i x) j=if i=j then x else getE E j:=by
 induction E with
 | nil=>cases hm
 | cons y E ih =>
  obtain ⟨k,q⟩:=y
  by_cases e:k=i
  ·subst e;simp only [repE,decide_true,cond_true];refine ⟨⟨List.pairwise_cons.2 ⟨h.head,h.tail.1⟩,fun p hp => ?_⟩,fun j => ?_⟩
   ·cases hp with
    | head=>exact hx
    | tail _ hp=>exact h.2 p (List.mem_cons_of_mem _ hp)
   ·by_cases e:k=j
    ·subst e;simp [getE]
    ·simp [getE,e]
  ·have e':decide (k=i)=false:=by simp [e]
   simp only [memE,e',cond_false] at hm;simp only [repE,e',cond_false];obtain ⟨h1,h2⟩:=ih h.tail hm;refine ⟨⟨List.pairwise_cons.2 ⟨fun p hp => ?_,h1.1⟩,fun p hp => ?_⟩,fun j => ?_⟩
   ·rcases rep_mem hp with hp | ⟨_,r,hp⟩
    ·exact h.head p hp
    ·exact h.head (p.1,r) hp
   ·cases hp with
    | head=>exact h.2 _ (by simp)
    | tail _ hp=>exact h1.2 p hp
   ·simp only [getE,h2]
    by_cases ej:k=j
    ·subst ej;rw [if_pos rfl,if_pos rfl,if_neg (fun e'=>e e'.symm)]
    ·rw [if_neg ej,if_neg ej]
theorem CanE.ins {E:El} (h:CanE E) (i:Int) {x:Rat} (hx:x≠0) (hm:memE E i=false):CanE (insE E i x)∧∀ j,getE (insE E i x) j=if i=j then x else getE E j:=by
 induction E with
 | nil=>exact ⟨⟨by simp [insE],by simp [insE,hx]⟩,fun j=>by simp [insE,getE]⟩
 | cons y E ih =>
  obtain ⟨k,q⟩:=y
  by_cases e:k=i
  ·subst e;simp [memE] at hm
  have e':decide (k=i)=false:=by simp [e]
  simp only [memE,e',cond_false] at hm
  by_cases hlt:i<k
  ·simp only [insE,hlt,decide_true,cond_true];refine ⟨⟨List.pairwise_cons.2 ⟨fun p hp => ?_,h.1⟩,fun p hp => ?_⟩,fun j => ?_⟩
   ·cases hp with
    | head=>exact hlt
    | tail _ hp=>have:=h.head p hp;show i<p.1;omega
   ·cases hp with
    | head=>exact hx
    | tail _ hp=>exact h.2 p hp
   ·by_cases ej:i=j
    ·subst ej;simp [getE]
    ·simp [getE,ej]
  ·simp only [insE,hlt,decide_false,cond_false];obtain ⟨h1,h2⟩:=ih h.tail hm;refine ⟨⟨List.pairwise_cons.2 ⟨fun p hp => ?_,h1.1⟩,fun p hp => ?_⟩,fun j => ?_⟩
   ·rcases ins_mem hp with hp | rfl
    ·exact h.head p hp
    ·show k<i;omega
   ·cases hp with
    | head=>exact h.2 _ (by simp)
    | tail _ hp=>exact h1.2 p hp
   ·simp only [getE,h2]
    by_cases ej:k=j
    ·subst ej;rw [if_pos rfl,if_pos rfl,if_neg (fun e'=>e e'.symm)]
    ·rw [if_neg ej,if_neg ej]
theorem CanE.with {E:El} (h:CanE E) (i:Int) (q:Rat):CanE (withE E i q)∧∀ j,getE (withE E i q) j=getE E j+(if i=j then q else 0):=by
 have fin:∀ {F:El} {x:Rat},x=getE E i+q→(∀ j,getE F j=if i=j then x else getE E j)→∀ j,getE F j=getE E j+(if i=j then q else 0):=by
  intro F x hx h j
  rw [h j]
  by_cases e:i=j
  ·subst e;rw [if_pos rfl,if_pos rfl,hx]
  ·rw [if_neg e,if_neg e,Rat.add_zero]
 unfold withE
 by_cases h0:getE E i+q=0
 ·rw [if_pos h0];obtain ⟨h1,h2⟩:=h.del i
  exact ⟨h1,fin h0.symm h2⟩
 ·rw [if_neg h0];unfold putE
  cases hm:memE E i with
  | true =>
   obtain ⟨h1,h2⟩:=h.rep i h0 hm
   exact ⟨h1,fin rfl h2⟩
  | false =>
   obtain ⟨h1,h2⟩:=h.ins i h0 hm
   exact ⟨h1,fin rfl h2⟩
/-! ### sums over entries, in whatever order -/
def totE (f:Int×Rat→Int×Rat):El→Int→Rat
 | [],_=>0
 | p :: L,j=>(if (f p).1=j then (f p).2 else 0)+totE f L j
def foldE (f:Int×Rat→Int×Rat) (A:El) (L:El):El:=L.foldl (fun A p=>withE A (f p).1 (f p).2) A
theorem CanE.fold (f:Int×Rat→Int×Rat):∀ (L:El) {A:El},CanE A→CanE (foldE f A L)∧∀ j,getE (foldE f A L) j=getE A j+totE f L j
 | [],A,h=>⟨h,fun j=>by simp [foldE,totE,Rat.add_zero]⟩
 | p :: L,A,h=>by
  obtain ⟨h1,h2⟩:=h.with (f p).1 (f p).2;obtain ⟨h3,h4⟩:=CanE.fold f L h1;refine ⟨h3,fun j => ?_⟩
  show getE (foldE f (withE A (f p).1 (f p).2) L) j=_
  rw [h4,h2];simp only [totE];rw [Rat.add_assoc]
theorem totE_erase (f:Int×Rat→Int×Rat):∀ {L:El} {i:Nat} {p:Int×Rat},L[i]?=some p→∀ j,totE f L j=(if (f p).1=j then (f p).2 else 0)+totE f (L.eraseIdx i) j
 | [],_,_,h,_=>by simp at h
 | x :: L,0,p,h,j=>by simp at h;subst h;rfl
 | x :: L,i+1,p,h,j=>by
  have h:L[i]?=some p:=by simpa using h
  simp only [List.eraseIdx_cons_succ,totE];rw [totE_erase f h j];rw [←Rat.add_assoc,←Rat.add_assoc,Rat.add_comm (if (f x).1=j then (f x).2 else 0)]
end Vn
