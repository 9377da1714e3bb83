/- Plain facts on lists of digits to a base B: values, comparison, one digit changed. -/
import Derived.Below
namespace Vn
open Go.RowKit in
theorem _root_.Go.RowKit.Hid.o {p:Prop} (h:Hid p):p:=h
set_option maxRecDepth 100000
set_option maxHeartbeats 8000000
def dv (B:Nat):List Nat→Nat
 | []=>0
 | d :: l=>d+B*dv B l
theorem dv_nil (B:Nat):dv B []=0:=rfl
theorem dv_cons (B d:Nat) (l:List Nat):dv B (d :: l)=d+B*dv B l:=rfl
theorem dv_append (B:Nat) (l m:List Nat):dv B (l++m)=dv B l+B^l.length*dv B m:=by
 induction l with
 | nil=>simp [dv]
 | cons d l ih=>simp only [List.cons_append,dv,ih,List.length_cons,Nat.pow_succ];grind
def Dig (B:Nat) (l:List Nat):Prop:=∀ d∈l,d<B
theorem Dig.cons {B d:Nat} {l:List Nat} (h:Dig B (d :: l)):d<B∧Dig B l :=
 ⟨h d (by simp),fun x hx=>h x (by simp [hx])⟩
theorem Dig.mk {B d:Nat} {l:List Nat} (h:d<B) (hl:Dig B l):Dig B (d :: l):=by
 intro x hx;rcases List.mem_cons.1 hx with rfl | hx
 ·exact h
 ·exact hl x hx
theorem Dig.nil {B:Nat}:Dig B []:=fun _ h=>by cases h
theorem Dig.append {B:Nat} {l m:List Nat} (h:Dig B l) (h':Dig B m):Dig B (l++m):=by
 intro x hx;rcases List.mem_append.1 hx with hx | hx
 ·exact h x hx
 ·exact h' x hx
theorem Dig.take {B:Nat} {l:List Nat} (h:Dig B l) (k:Nat):Dig B (l.take k):=fun x hx=>h x (List.mem_of_mem_take hx)
theorem Dig.drop {B:Nat} {l:List Nat} (h:Dig B l) (k:Nat):Dig B (l.drop k):=fun x hx=>h x (List.mem_of_mem_drop hx)
theorem Dig.get {B:Nat} {l:List Nat} (h:Dig B l) (hB:0<B) (k:Nat):l.getD k 0<B:=by
 rw [List.getD_eq_getElem?_getD]
 by_cases hk:k<l.length
 ·simp [List.getElem?_eq_getElem hk];exact h _ (List.getElem_mem hk)
 ·simp [List.getElem?_eq_none (Nat.le_of_not_lt hk),hB]
theorem Dig.set {B:Nat} {l:List Nat} (h:Dig B l) {x:Nat} (hx:x<B) (k:Nat):Dig B (l.set k x):=by
 intro y hy
 rcases List.mem_or_eq_of_mem_set hy with h' | rfl
 ·exact h y h'
 ·exact hx
theorem Dig.replicate {B:Nat} (hB:0<B) (k:Nat):Dig B (List.replicate k 0):=by
 intro x hx;rw [(List.mem_replicate.1 hx).2];exact hB
theorem dv_lt {B:Nat} (hB:0<B):∀ {l:List Nat},Dig B l→dv B l<B^l.length
 | [],_=>by simp [dv]
 | d :: l,h=>by
  obtain ⟨h1,h2⟩:=h.cons
  have:=dv_lt hB h2
  simp only [dv,List.length_cons,Nat.pow_succ]
  have:B*dv B l+B≤B*B^l.length:=by
   have:=Nat.mul_le_mul_left B (Nat.succ_le_of_lt this)
   simpa [Nat.mul_succ] using this
  have e:B^l.length*B=B*B^l.length:=Nat.mul_comm _ _
  omega
theorem dv_replicate (B k:Nat):dv B (List.replicate k 0)=0:=by
 induction k with
 | zero=>rfl
 | succ k ih=>simp [List.replicate_succ,dv,ih]
theorem dv_set (B:Nat):∀ (l:List Nat) (k x:Nat),k<l.length→dv B (l.set k x)+l.getD k 0*B^k=dv B l+x*B^k
 | [],k,x,h=>by simp at h
 | d :: l,0,x,h=>by simp [dv];omega
 | d :: l,k+1,x,h=>by
  have:=dv_set B l k x (by simpa using h)
  simp only [List.set_cons_succ,dv,List.getD_cons_succ,Nat.pow_succ] at this ⊢
  grind
theorem dv_take_succ (B:Nat) (l:List Nat) (k:Nat) (h:k<l.length):dv B (l.take (k+1))=dv B (l.take k)+l.getD k 0*B^k:=by
 rw [List.take_succ_eq_append_getElem h,dv_append]
 simp [dv,List.getElem?_eq_getElem h,Nat.min_eq_left (Nat.le_of_lt h),Nat.mul_comm]
theorem dv_take_drop (B:Nat) (l:List Nat) (k:Nat) (h:k≤l.length):dv B l=dv B (l.take k)+B^k*dv B (l.drop k):=by
 conv=>lhs;rw [←List.take_append_drop k l]
 rw [dv_append];simp [Nat.min_eq_left h]
theorem dv_drop (B:Nat) (l:List Nat) (k:Nat) (h:k<l.length):dv B (l.drop k)=l.getD k 0+B*dv B (l.drop (k+1)):=by
 rw [List.drop_eq_getElem_cons h,dv];simp [List.getElem?_eq_getElem h]
def Trim (l:List Nat):Prop:=l=[]∨0<l.getD (l.length-1) 0
structure Norm (B:Nat) (l:List Nat):Prop where
 dig:Dig B l
 trim:Trim l
theorem Norm.nil {B:Nat}:Norm B []:=⟨Dig.nil,.inl rfl⟩
theorem Trim.tail {d:Nat} {l:List Nat} (h:Trim (d :: l)) (hl:l≠[]):Trim l:=by
 rcases h with h | h
 ·cases h
 ·right
  cases l with
  | nil=>exact absurd rfl hl
  | cons e l=>simpa using h
theorem Norm.tail {B d:Nat} {l:List Nat} (h:Norm B (d :: l)):Norm B l:=by
 refine ⟨h.dig.cons.2,?_⟩
 cases l with
 | nil=>exact .inl rfl
 | cons e l=>exact h.trim.tail (by simp)
theorem Trim.pos {B:Nat} (hB:0<B):∀ {l:List Nat},Trim l→l≠[]→B^(l.length-1)≤dv B l
 | [],_,h=>absurd rfl h
 | [d],h,_=>by
  rcases h with h | h
  ·cases h
  ·simp [dv] at h ⊢;omega
 | d :: e :: l,h,_=>by
  have:=Trim.pos hB (h.tail (by simp)) (by simp)
  simp only [List.length_cons,Nat.add_sub_cancel,dv_cons B d] at this ⊢;rw [Nat.pow_succ,Nat.mul_comm]
  exact Nat.le_trans (Nat.mul_le_mul_left B this) (Nat.le_add_left _ _)
theorem Norm.zero {B:Nat} (hB:0<B) {l:List Nat} (h:Norm B l) (h0:dv B l=0):l=[]:=by
 cases l with
 | nil=>rfl
 | cons d l =>
  have:=Trim.pos hB h.trim (by simp)
  have:0<B^((d :: l).length-1):=Nat.pow_pos hB
  omega
theorem Norm.dv_pos {B:Nat} (hB:0<B) {l:List Nat} (h:Norm B l) (hl:l≠[]):0<dv B l:=by
 rcases Nat.eq_zero_or_pos (dv B l) with h0 | h0
 ·exact absurd (h.zero hB h0) hl
 ·exact h0
theorem Norm.inj {B:Nat} (hB:0<B):∀ {l m:List Nat},Norm B l→Norm B m→dv B l=dv B m→l=m
 | [],m,_,hm,h=>(hm.zero hB (by rw [←h];rfl)).symm
 | d :: l,[],hl,_,h=>hl.zero hB (by rw [h];rfl)
 | d :: l,e :: m,hl,hm,h=>by
  have h1:=hl.dig.cons.1;have h2:=hm.dig.cons.1;simp only [dv] at h;have hd:d=e:=by
   have:=congrArg (· % B) h
   simpa [Nat.add_mul_mod_self_left,Nat.mod_eq_of_lt h1,Nat.mod_eq_of_lt h2] using this
  subst hd;have hv:dv B l=dv B m:=Nat.eq_of_mul_eq_mul_left hB (by omega);rw [Norm.inj hB hl.tail hm.tail hv]
theorem Norm.lt_of_len {B:Nat} (hB:0<B) {l m:List Nat} (hl:Dig B l) (hm:Norm B m) (h:l.length<m.length):dv B l<dv B m:=by
 have h1:=dv_lt hB hl;have h2:=Trim.pos hB hm.trim (by intro e;simp [e] at h);have h3:B^l.length≤B^(m.length-1):=Nat.pow_le_pow_right hB (by omega)
 omega
theorem dv_lt_at {B:Nat} (hB:0<B) {l m:List Nat} (hl:Dig B l) {k:Nat} (hk:k<l.length) (hk':k<m.length)
  (hs:dv B (l.drop (k+1))=dv B (m.drop (k+1))) (hlt:l.getD k 0<m.getD k 0):dv B l<dv B m:=by
 rw [dv_take_drop B l k (Nat.le_of_lt hk),dv_take_drop B m k (Nat.le_of_lt hk'),dv_drop B l k hk,dv_drop B m k hk',hs];have h1:dv B (l.take k)<B^k:=by
  have:=dv_lt hB (hl.take k)
  simpa [Nat.min_eq_left (Nat.le_of_lt hk)] using this
 have h2:B^k*(l.getD k 0+B*dv B (m.drop (k+1)))+B^k≤B^k*(m.getD k 0+B*dv B (m.drop (k+1))):=by
  rw [←Nat.mul_succ];exact Nat.mul_le_mul_left _ (by omega)
 omega
theorem Norm.len_le {B:Nat} (hB:0<B) {l:List Nat} (h:Norm B l) {k:Nat} (hk:dv B l<B^k):l.length≤k:=by
 rcases Nat.lt_or_ge k l.length with hlt | hge
 ·have hne:l≠[]:=by intro e;simp [e] at hlt
  have h2:=Trim.pos hB h.trim hne;have h3:B^k≤B^(l.length-1):=Nat.pow_le_pow_right hB (by omega)
  omega
 ·exact hge
theorem dv_take_zeros {B:Nat} {l:List Nat} {n:Nat} (hn:n≤l.length) (h:∀ k,n≤k→k<l.length→l.getD k 0=0):dv B (l.take n)=dv B l:=by
 rw [dv_take_drop B l n hn]
 have:l.drop n=List.replicate (l.length-n) 0:=by
  apply List.ext_getElem (by simp)
  intro i h1 h2
  have h1':n+i<l.length:=by simp at h1;omega
  have:=h (n+i) (by omega) h1'
  rw [List.getD_eq_getElem?_getD,List.getElem?_eq_getElem h1'] at this
  simpa using this
 rw [this,dv_replicate];simp
theorem getD_ge {l:List Nat} {k:Nat} (h:l.length≤k):l.getD k 0=0:=by
 rw [List.getD_eq_getElem?_getD,List.getElem?_eq_none h];rfl
theorem dv_take_succ' (B:Nat) (l:List Nat) (k:Nat):dv B (l.take (k+1))=dv B (l.take k)+l.getD k 0*B^k:=by
 rcases Nat.lt_or_ge k l.length with h | h
 ·exact dv_take_succ B l k h
 ·rw [getD_ge h,List.take_of_length_le h,List.take_of_length_le (by omega)];simp
theorem getD_set (l:List Nat) (k x j:Nat) (hk:k<l.length):(l.set k x).getD j 0=if j=k then x else l.getD j 0:=by
 simp only [List.getD_eq_getElem?_getD,List.getElem?_set]
 by_cases h:k=j
 ·subst h;simp [hk]
 ·have h':¬ j=k:=fun e=>h e.symm
  simp [h,h']
def Zero (l:List Nat) (k:Nat):Prop:=∀ j,k≤j→l.getD j 0=0
theorem Zero.set {l:List Nat} {k:Nat} (h:Zero l k) (x:Nat) (hk:k<l.length):Zero (l.set k x) (k+1):=by
 intro j hj
 rw [getD_set l k x j hk,if_neg (by omega)]
 exact h j (by omega)
theorem Zero.replicate (n k:Nat):Zero (List.replicate n 0) k:=by
 intro j _
 rw [List.getD_eq_getElem?_getD,List.getElem?_replicate]
 split<;>rfl
theorem dv_set_zero (B:Nat) {l:List Nat} {k:Nat} (h:Zero l k) (x:Nat) (hk:k<l.length):dv B (l.set k x)=dv B l+x*B^k:=by
 have:=dv_set B l k x hk
 rw [h k (Nat.le_refl _)] at this
 omega
theorem Zero.dv_lt {B:Nat} (hB:0<B) {l:List Nat} (hl:Dig B l) {k:Nat} (h:Zero l k):dv B l<B^k:=by
 rcases Nat.lt_or_ge k l.length with hk | hk
 ·rw [←dv_take_zeros (B:=B) (Nat.le_of_lt hk) (fun j h1 _=>h j h1)]
  have:=Vn.dv_lt hB (hl.take k)
  simpa [Nat.min_eq_left (Nat.le_of_lt hk)] using this
 ·exact Nat.lt_of_lt_of_le (Vn.dv_lt hB hl) (Nat.pow_le_pow_right hB hk)
theorem add_step {B k c d f s c' D X Y:Nat} (h:D+B^k*c=X+Y) (hs:c+d+f=s+B*c') :
  (D+s*B^k)+B^(k+1)*c'=(X+d*B^k)+(Y+f*B^k):=by
 rw [Nat.pow_succ]
 have:B^k*(c+d+f)=B^k*(s+B*c'):=by rw [hs]
 grind
theorem dif_step {B k c d f s c' D X Y:Nat} (h:D+Y=X+B^k*c) (hs:s+f+c=d+B*c') :
  (D+s*B^k)+(Y+f*B^k)=(X+d*B^k)+B^(k+1)*c':=by
 rw [Nat.pow_succ]
 have:B^k*(s+f+c)=B^k*(d+B*c'):=by rw [hs]
 grind
theorem mul_step {B i j c d f s c' D D' E F o:Nat} (h:D+c*B^(i+j)=E+d*F*B^i) (hs:c+d*f+o=s+B*c')
  (hset:D'+o*B^(i+j)=D+s*B^(i+j)):D'+c'*B^(i+j+1)=E+d*(F+f*B^j)*B^i:=by
 have h2:B^(i+j)*(c+d*f+o)=B^(i+j)*(s+B*c'):=by rw [hs]
 have h3:d*f*B^(i+j)=d*(f*B^j)*B^i:=by rw [Nat.pow_add];grind
 rw [Nat.pow_succ]
 grind
end Vn
namespace Vn
def IsRoot (a s:Nat):Prop:=s*s≤a∧a<(s+1)*(s+1)
theorem IsRoot.unique {a s t:Nat} (h:IsRoot a s) (k:IsRoot a t):s=t:=by
 rcases Nat.lt_trichotomy s t with h1 | h1 | h1
 ·have:=Nat.mul_le_mul (show s+1≤t from h1) (show s+1≤t from h1)
  have:=h.2;have:=k.1;omega
 ·exact h1
 ·have:=Nat.mul_le_mul (show t+1≤s from h1) (show t+1≤s from h1)
  have:=k.2;have:=h.1;omega
end Vn
namespace Vn
def bl (n:Nat):Nat:=if n=0 then 0 else n.log2+1
theorem bl_zero:bl 0=0:=rfl
theorem bl_lt (n:Nat):n<2^bl n:=by
 unfold bl
 split
 ·next h=>subst h;decide
 ·next h=>exact Nat.lt_log2_self
theorem bl_le {n:Nat} (h:0<n):2^(bl n-1)≤n:=by
 unfold bl;rw [if_neg (by omega),Nat.add_sub_cancel]
 exact Nat.log2_self_le (by omega)
theorem bl_pos {n:Nat} (h:0<n):0<bl n:=by
 unfold bl;rw [if_neg (by omega)];omega
theorem bl_unique {n k:Nat} (h1:2^k≤n) (h2:n<2^(k+1)):bl n=k+1:=by
 have hp:0<n:=Nat.lt_of_lt_of_le (Nat.pow_pos (by decide)) h1;have a1:=bl_lt n;have a2:=bl_le hp;have a3:=bl_pos hp;have b1:k<bl n:=by
  rcases Nat.lt_or_ge k (bl n) with h | h
  ·exact h
  ·have:=Nat.pow_le_pow_right (n:=2) (by decide) h;omega
 have b2:bl n-1<k+1:=by
  rcases Nat.lt_or_ge (bl n-1) (k+1) with h | h
  ·exact h
  ·have:=Nat.pow_le_pow_right (n:=2) (by decide) h;omega
 omega
theorem bl_le_of_lt {n k:Nat} (h:n<2^k):bl n≤k:=by
 rcases Nat.eq_zero_or_pos n with h0 | h0
 ·subst h0;exact Nat.zero_le _
 ·have a2:=bl_le h0;have a3:=bl_pos h0
  rcases Nat.lt_or_ge k (bl n) with hlt | hge
  ·have:=Nat.pow_le_pow_right (n:=2) (by decide) (show k≤bl n-1 by omega);omega
  ·exact hge
theorem bl_words {d k X low:Nat} (hd:0<d) (hl:low<4294967296^k) (hX:X=low+4294967296^k*d):bl X=32*k+bl d:=by
 have e:(4294967296:Nat)^k=2^(32*k):=by rw [Nat.pow_mul]
 rw [e] at hl hX;have h1:=bl_le hd;have h2:=bl_lt d;have h3:=bl_pos hd;have h4:bl X=32*k+(bl d-1)+1:=by
  apply bl_unique
  ·rw [Nat.pow_add,hX]
   have:=Nat.mul_le_mul_left (2^(32*k)) h1
   omega
  ·rw [hX,show 32*k+(bl d-1)+1=32*k+bl d by omega,Nat.pow_add]
   have:=Nat.mul_le_mul_left (2^(32*k)) (Nat.succ_le_of_lt h2)
   rw [Nat.mul_succ] at this
   omega
 omega
end Vn
