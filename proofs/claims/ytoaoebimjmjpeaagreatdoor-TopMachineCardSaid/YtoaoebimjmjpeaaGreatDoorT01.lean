/- Plain facts on lists of digits to a base B: values, comparison, one digit changed. -/
import Derived.Below
namespace Vn
open Go.RowKit in
theorem _root_.Go.RowKit.Hid.o {p:Prop} (h:Hid p):p:=h
set_option maxRecDepth 100000
set_option maxHeartbeats 8000000
def dv (B:Nat):List Nat→Nat
 | []=>0
 | d :: l=>d+B*dv B l
theorem dv_nil (B:Nat):dv B []=0:=rfl
theorem dv_cons (B d:Nat) (l:List Nat):dv B (d :: l)=d+B*dv B l:=rfl
theorem dv_append (B:Nat) (l m:List Nat):dv B (l++m)=dv B l+B^l.length*dv B m:=by
 induction l with
 | nil=>simp [dv]
 | cons d l ih=>simp only [List.cons_append,dv,ih,List.length_cons,Nat.pow_succ];grind
def Dig (B:Nat) (l:List Nat):Prop:=∀ d∈l,d<B
theorem Dig.cons {B d:Nat} {l:List Nat} (h:Dig B (d :: l)):d<B∧Dig B l :=
 ⟨h d (by simp),fun x hx=>h x (by simp [hx])⟩
theorem Dig.mk {B d:Nat} {l:List Nat} (h:d<B) (hl:Dig B l):Dig B (d :: l):=by
 intro x hx;rcases List.mem_cons.1 hx with rfl | hx
 ·exact h
 ·exact hl x hx
theorem Dig.nil {B:Nat}:Dig B []:=fun _ h=>by cases h
theorem Dig.append {B:Nat} {l m:List Nat} (h:Dig B l) (h':Dig B m):Dig B (l++m):=by
 intro x hx;rcases List.mem_append.1 hx with hx | hx
 ·exact h x hx
 ·exact h' x hx
theorem Dig.take {B:Nat} {l:List Nat} (h:Dig B l) (k:Nat):Dig B (l.take k):=fun x hx=>h x (List.mem_of_mem_take hx)
theorem Dig.drop {B:Nat} {l:List Nat} (h:Dig B l) (k:Nat):Dig B (l.drop k):=fun x hx=>h x (List.mem_of_mem_drop hx)
theorem Dig.get {B:Nat} {l:List Nat} (h:Dig B l) (hB:0<B) (k:Nat):l.getD k 0<B:=by
 rw [List.getD_eq_getElem?_getD]
 by_cases hk:k<l.length
 ·simp [List.getElem?_eq_getElem hk];exact h _ (List.getElem_mem hk)
 ·simp [List.getElem?_eq_none (Nat.le_of_not_lt hk),hB]
theorem Dig.set {B:Nat} {l:List Nat} (h:Dig B l) {x:Nat} (hx:x<B) (k:Nat):Dig B (l.set k x):=by
 intro y hy
 rcases List.mem_or_eq_of_mem_set hy with h' | rfl
 ·exact h y h'
 ·exact hx
theorem Dig.replicate {B:Nat} (hB:0<B) (k:Nat):Dig B (List.replicate k 0):=by
 intro x hx;rw [(List.mem_replicate.1 hx).2];exact hB
theorem dv_lt {B:Nat} (hB:0<B):∀ {l:List Nat},Dig B l→dv B l<B^l.length
 | [],_=>by simp [dv]
 | d :: l,h=>by
  obtain ⟨h1,h2⟩:=h.cons
  have:=dv_lt hB h2
  simp only [dv,List.length_cons,Nat.pow_succ]
  have:B*dv B l+B≤B*B^l.length:=by
   have:=Nat.mul_le_mul_left B (Nat.succ_le_of_lt this)
   simpa [Nat.mul_succ] using this
  have e:B^l.length*B=B*B^l.length:=Nat.mul_comm _ _
  omega
theorem dv_replicate (B k:Nat):dv B (List.replicate k 0)=0:=by
 induction k with
 | zero=>rfl
 | succ k ih=>simp [List.replicate_succ,dv,ih]
theorem dv_set (B:Nat):∀ (l:List Nat) (k x:Nat),k<l.length→dv B (l.set k x)+l.getD k 0*B^k=dv B l+x*B^k
 | [],k,x,h=>by simp at h
 | d :: l,0,x,h=>by simp [dv];omega
 | d :: l,k+1,x,h=>by
  have:=dv_set B l k x (by simpa using h)
  simp only [List.set_cons_succ,dv,List.getD_cons_succ,Nat.pow_succ] at this ⊢
  grind
theorem dv_take_succ (B:Nat) (l:List Nat) (k:Nat) (h:k<l.length):dv B (l.take (k+1))=dv B (l.take k)+l.getD k 0*B^k:=by
 rw [List.take_succ_eq_append_getElem h,dv_append]
 simp [dv,List.getElem?_eq_getElem h,Nat.min_eq_left (Nat.le_of_lt h),Nat.mul_comm]
theorem dv_take_drop (B:Nat) (l:List Nat) (k:Nat) (h:k≤l.length):dv B l=dv B (l.take k)+B^k*dv B (l.drop k):=by
 conv=>lhs;rw [←List.take_append_drop k l]
 rw [dv_append];simp [Nat.min_eq_left h]
theorem dv_drop (B:Nat) (l:List Nat) (k:Nat) (h:k<l.length):dv B (l.drop k)=l.getD k 0+B*dv B (l.drop (k+1)):=by
 rw [List.drop_eq_getElem_cons h,dv];simp [List.getElem?_eq_getElem h]
def Trim (l:List Nat):Prop:=l=[]∨0<l.getD (l.length-1) 0
structure Norm (B:Nat) (l:List Nat):Prop where
 dig:Dig B l
 trim:Trim l
theorem Norm.nil {B:Nat}:Norm B []:=⟨Dig.nil,.inl rfl⟩
theorem Trim.tail {d:Nat} {l:List Nat} (h:Trim (d :: l)) (hl:l≠[]):Trim l:=by
 rcases h with h | h
 ·cases h
 ·right
  cases l with
  | nil=>exact absurd rfl hl
  | cons e l=>simpa using h
theorem Norm.tail {B d:Nat} {l:List Nat} (h:Norm B (d :: l)):Norm B l:=by
 refine ⟨h.dig.cons.2,?_⟩
 cases l with
 | nil=>exact .inl rfl
 | cons e l=>exact h.trim.tail (by simp)
theorem Trim.pos {B:Nat} (hB:0<B):∀ {l:List Nat},Trim l→l≠[]→B^(l.length-1)≤dv B l
 | [],_,h=>absurd rfl h
 | [d],h,_=>by
  rcases h with h | h
  ·cases h
  ·simp [dv] at h ⊢;omega
 | d :: e :: l,h,_=>by
  have:=Trim.pos hB (h.tail (by simp)) (by simp)
  simp only [List.length_cons,Nat.add_sub_cancel,dv_cons B d] at this ⊢;rw [Nat.pow_succ,Nat.mul_comm]
  exact Nat.le_trans (Nat.mul_le_mul_left B this) (Nat.le_add_left _ _)
theorem Norm.zero {B:Nat} (hB:0<B) {l:List Nat} (h:Norm B l) (h0:dv B l=0):l=[]:=by
 cases l with
 | nil=>rfl
 | cons d l =>
  have:=Trim.pos hB h.trim (by simp)
  have:0<B^((d :: l).length-1):=Nat.pow_pos hB
  omega
theorem Norm.inj {B:Nat} (hB:0<B):∀ {l m:List Nat},Norm B l→Norm B m→dv B l=dv B m→l=m
 | [],m,_,hm,h=>(hm.zero hB (by rw [←h];rfl)).symm
 | d :: l,[],hl,_,h=>hl.zero hB (by rw [h];rfl)
 | d :: l,e :: m,hl,hm,h=>by
  have h1:=hl.dig.cons.1;have h2:=hm.dig.cons.1;simp only [dv] at h;have hd:d=e:=by
   have:=congrArg (· % B) h
   simpa [Nat.add_mul_mod_self_left,Nat.mod_eq_of_lt h1,Nat.mod_eq_of_lt h2] using this
  subst hd;have hv:dv B l=dv B m:=Nat.eq_of_mul_eq_mul_left hB (by omega);rw [Norm.inj hB hl.tail hm.tail hv]
theorem Norm.lt_of_len {B:Nat} (hB:0<B) {l m:List Nat} (hl:Dig B l) (hm:Norm B m) (h:l.length<m.length):dv B l<dv B m:=by
 have h1:=dv_lt hB hl;have h2:=Trim.pos hB hm.trim (by intro e;simp [e] at h);have h3:B^l.length≤B^(m.length-1):=Nat.pow_le_pow_right hB (by omega)
 omega
theorem dv_lt_at {B:Nat} (hB:0<B) {l m:List Nat} (hl:Dig B l) {k:Nat} (hk:k<l.length) (hk':k<m.length)
  (hs:dv B (l.drop (k+1))=dv B (m.drop (k+1))) (hlt:l.getD k 0<m.getD k 0):dv B l<dv B m:=by
 rw [dv_take_drop B l k (Nat.le_of_lt hk),dv_take_drop B m k (Nat.le_of_lt hk'),dv_drop B l k hk,dv_drop B m k hk',hs];have h1:dv B (l.take k)<B^k:=by
  have:=dv_lt hB (hl.take k)
  simpa [Nat.min_eq_left (Nat.le_of_lt hk)] using this
 have h2:B^k*(l.getD k 0+B*dv B (m.drop (k+1)))+B^k≤B^k*(m.getD k 0+B*dv B (m.drop (k+1))):=by
  rw [←Nat.mul_succ];exact Nat.mul_le_mul_left _ (by omega)
 omega
theorem Norm.len_le {B:Nat} (hB:0<B) {l:List Nat} (h:Norm B l) {k:Nat} (hk:dv B l<B^k):l.length≤k:=by
 rcases Nat.lt_or_ge k l.length with hlt | hge
 ·have hne:l≠[]:=by intro e;simp [e] at hlt
  have h2:=Trim.pos hB h.trim hne;have h3:B^k≤B^(l.length-1):=Nat.pow_le_pow_right hB (by omega)
  omega
 ·exact hge
theorem dv_take_zeros {B:Nat} {l:List Nat} {n:Nat} (hn:n≤l.length) (h:∀ k,n≤k→k<l.length→l.getD k 0=0):dv B (l.take n)=dv B l:=by
 rw [dv_take_drop B l n hn]
 have:l.drop n=List.replicate (l.length-n) 0:=by
  apply List.ext_getElem (by simp)
  intro i h1 h2
  have h1':n+i<l.length:=by simp at h1;omega
  have:=h (n+i) (by omega) h1'
  rw [List.getD_eq_getElem?_getD,List.getElem?_eq_getElem h1'] at this
  simpa using this
 rw [this,dv_replicate];simp
theorem getD_ge {l:List Nat} {k:Nat} (h:l.length≤k):l.getD k 0=0:=by
 rw [List.getD_eq_getElem?_getD,List.getElem?_eq_none h];rfl
theorem dv_take_succ' (B:Nat) (l:List Nat) (k:Nat):dv B (l.take (k+1))=dv B (l.take k)+l.getD k 0*B^k:=by
 rcases Nat.lt_or_ge k l.length with h | h
 ·exact dv_take_succ B l k h
 ·rw [getD_ge h,List.take_of_length_le h,List.take_of_length_le (by omega)];simp
theorem getD_set (l:List Nat) (k x j:Nat) (hk:k<l.length):(l.set k x).getD j 0=if j=k then x else l.getD j 0:=by
 simp only [List.getD_eq_getElem?_getD,List.getElem?_set]
 by_cases h:k=j
 ·subst h;simp [hk]
 ·have h':¬ j=k:=fun e=>h e.symm
  simp [h,h']
def Zero (l:List Nat) (k:Nat):Prop:=∀ j,k≤j→l.getD j 0=0
theorem Zero.set {l:List Nat} {k:Nat} (h:Zero l k) (x:Nat) (hk:k<l.length):Zero (l.set k x) (k+1):=by
 intro j hj
 rw [getD_set l k x j hk,if_neg (by omega)]
 exact h j (by omega)
theorem Zero.replicate (n k:Nat):Zero (List.replicate n 0) k:=by
 intro j _
 rw [List.getD_eq_getElem?_getD,List.getElem?_replicate]
 split<;>rfl
theorem dv_set_zero (B:Nat) {l:List Nat} {k:Nat} (h:Zero l k) (x:Nat) (hk:k<l.length):dv B (l.set k x)=dv B l+x*B^k:=by
 have:=dv_set B l k x hk
 rw [h k (Nat.le_refl _)] at this
 omega
theorem Zero.dv_lt {B:Nat} (hB:0<B) {l:List Nat} (hl:Dig B l) {k:Nat} (h:Zero l k):dv B l<B^k:=by
 rcases Nat.lt_or_ge k l.length with hk | hk
 ·rw [←dv_take_zeros (B:=B) (Nat.le_of_lt hk) (fun j h1 _=>h j h1)]
  have:=Vn.dv_lt hB (hl.take k)
  simpa [Nat.min_eq_left (Nat.le_of_lt hk)] using this
 ·exact Nat.lt_of_lt_of_le (Vn.dv_lt hB hl) (Nat.pow_le_pow_right hB hk)
theorem add_step {B k c d f s c' D X Y:Nat} (h:D+B^k*c=X+Y) (hs:c+d+f=s+B*c') :
  (D+s*B^k)+B^(k+1)*c'=(X+d*B^k)+(Y+f*B^k):=by
 rw [Nat.pow_succ]
 have:B^k*(c+d+f)=B^k*(s+B*c'):=by rw [hs]
 grind
theorem dif_step {B k c d f s c' D X Y:Nat} (h:D+Y=X+B^k*c) (hs:s+f+c=d+B*c') :
  (D+s*B^k)+(Y+f*B^k)=(X+d*B^k)+B^(k+1)*c':=by
 rw [Nat.pow_succ]
 have:B^k*(s+f+c)=B^k*(d+B*c'):=by rw [hs]
 grind
theorem mul_step {B i j c d f s c' D D' E F o:Nat} (h:D+c*B^(i+j)=E+d*F*B^i) (hs:c+d*f+o=s+B*c')
  (hset:D'+o*B^(i+j)=D+s*B^(i+j)):D'+c'*B^(i+j+1)=E+d*(F+f*B^j)*B^i:=by
 have h2:B^(i+j)*(c+d*f+o)=B^(i+j)*(s+B*c'):=by rw [hs]
 have h3:d*f*B^(i+j)=d*(f*B^j)*B^i:=by rw [Nat.pow_add];grind
 rw [Nat.pow_succ]
 grind
theorem or_low {L t d:Nat} (hL:L≤32) (ht:t<2^L):t ||| (d*2^L%4294967296)=t+d*2^L%4294967296∧t+d*2^L%4294967296<4294967296:=by
 have hQ:4294967296=2^L*2^(32-L):=by rw [←Nat.pow_add,show L+(32-L)=32 by omega]
 have e:d*2^L%4294967296=2^L*(d%2^(32-L)):=by rw [hQ,Nat.mul_comm d,Nat.mul_mod_mul_left]
 have h1:=Nat.two_pow_add_eq_or_of_lt ht (d%2^(32-L));have h2:2^L*(d%2^(32-L))+2^L≤4294967296:=by
  have:d%2^(32-L)<2^(32-L):=Nat.mod_lt _ (Nat.pow_pos (by decide))
  have:=Nat.mul_le_mul_left (2^L) (Nat.succ_le_of_lt this)
  rw [Nat.mul_succ,←hQ] at this
  exact this
 rw [e];refine ⟨?_,by omega⟩;rw [Nat.or_comm,←h1,Nat.add_comm]
theorem wide_lt {L d:Nat} (hL:L<32) (hd:d<4294967296):d*2^L<18446744073709551616∧d*2^L/4294967296<2^L:=by
 have h2:2^L≤2147483648:=by
  have:2^L≤2^31:=Nat.pow_le_pow_right (by decide) (by omega)
  exact this
 have hp:0<2^L:=Nat.pow_pos (by decide);have h3:d*2^L<4294967296*2^L:=Nat.mul_lt_mul_of_pos_right hd hp
 constructor
 ·have:4294967296*2^L≤4294967296*2147483648:=Nat.mul_le_mul_left _ h2
  omega
 ·exact Nat.div_lt_of_lt_mul h3
theorem shl_step {D X d P t lo hi C Bi B:Nat} (h:D=X*P*C) (hw:d*P=lo+B*hi) (D1:Nat) (h1:D1+t*(Bi*C)=D+(t+lo)*(Bi*C)) :
  D1+hi*(B*(Bi*C))=(X+d*Bi)*P*C:=by
 have h2:d*P*(Bi*C)=(lo+B*hi)*(Bi*C):=by rw [hw]
 grind
theorem dv_shr (l:List Nat) (hl:Dig 4294967296 l) (W L k:Nat) (hL:L<32) :
  (dv 4294967296 (l.drop W)/2^L)%4294967296^(k+1)=(dv 4294967296 (l.drop W)/2^L)%4294967296^k +
   ((l.getD (W+k) 0+4294967296*l.getD (W+k+1) 0)/2^L%4294967296)*4294967296^k:=by
 rw [Nat.mod_pow_succ,Nat.mul_comm (4294967296^k)]
 congr 2
 have drop2:∀ j,dv 4294967296 (l.drop j)=l.getD j 0+4294967296*dv 4294967296 (l.drop (j+1)):=by
  intro j
  rcases Nat.lt_or_ge j l.length with h | h
  ·exact dv_drop _ l j h
  ·rw [getD_ge h,List.drop_eq_nil_of_le h,List.drop_eq_nil_of_le (by omega)];rfl
 have e1:∀ k,dv 4294967296 (l.drop W)/4294967296^k=dv 4294967296 (l.drop (W+k)):=by
  intro k
  induction k with
  | zero=>simp
  | succ k ih =>
   rw [Nat.pow_succ,←Nat.div_div_eq_div_mul,ih,drop2 (W+k),Nat.add_mul_div_left _ _ (by decide),Nat.div_eq_of_lt (hl.get (by decide) _),Nat.zero_add]
   rfl
 rw [Nat.div_div_eq_div_mul,Nat.mul_comm (2^L),←Nat.div_div_eq_div_mul,e1,drop2 (W+k),drop2 (W+k+1)];have hQ:4294967296=2^L*2^(32-L):=by rw [←Nat.pow_add,show L+(32-L)=32 by omega]
 generalize l.getD (W+k) 0=a;generalize l.getD (W+k+1) 0=b;generalize dv 4294967296 (l.drop (W+k+1+1))=c;have e2:a+4294967296*(b+4294967296*c)=(a+4294967296*b)+2^L*(4294967296*(2^(32-L)*c)):=by
  have:4294967296*(4294967296*c)=2^L*2^(32-L)*(4294967296*c):=by rw [←hQ]
  grind
 rw [e2,Nat.add_mul_div_left _ _ (Nat.pow_pos (by decide)),Nat.add_mul_mod_self_left]
structure Win (B M U V u0 top v1 v2 Q:Nat):Prop where
 hu:∃ ul,ul<M∧U=ul+M*(u0+B*top)
 hv:∃ vl,vl<M∧V=vl+M*(v2+B*v1)
 hu0:u0<B
 hv2:v2<B
 hv1:0<v1
 hM:0<M
 lo:Q*V≤U
 hi:U<(Q+1)*V
theorem Win.q2 {B M U V u0 top v1 v2 Q:Nat} (h:Win B M U V u0 top v1 v2 Q):Q*(v2+B*v1)≤u0+B*top:=by
 obtain ⟨ul,hul,hU⟩:=h.hu;obtain ⟨vl,hvl,hV⟩:=h.hv;have h1:M*(Q*(v2+B*v1))≤U:=by
  have:M*(Q*(v2+B*v1))≤Q*V:=by
   rw [hV]
   have:M*(Q*(v2+B*v1))=Q*(M*(v2+B*v1)):=by grind
   rw [this];exact Nat.mul_le_mul_left _ (Nat.le_add_left _ _)
  exact Nat.le_trans this h.lo
 have h2:M*(Q*(v2+B*v1))<M*(u0+B*top+1):=by
  rw [Nat.mul_succ];omega
 have:=Nat.lt_of_mul_lt_mul_left h2
 omega
theorem Win.q1 {B M U V u0 top v1 v2 Q:Nat} (h:Win B M U V u0 top v1 v2 Q):Q*v1≤top:=by
 have h1:=h.q2;have h2:B*(Q*v1)<B*(top+1):=by
  have:Q*(v2+B*v1)=Q*v2+B*(Q*v1):=by grind
  have:=h.hu0
  rw [Nat.mul_succ];omega
 have:=Nat.lt_of_mul_lt_mul_left h2
 omega
theorem Win.le1 {B M U V u0 top v1 v2 Q g:Nat} (h:Win B M U V u0 top v1 v2 Q) (hg:g<B) (ht:g*(v2+B*v1)≤u0+B*top):g≤Q+1:=by
 obtain ⟨ul,hul,hU⟩:=h.hu;obtain ⟨vl,hvl,hV⟩:=h.hv;have h1:g*V≤U+g*vl:=by
  have e1:g*V=g*vl+M*(g*(v2+B*v1)):=by rw [hV];grind
  have:=Nat.mul_le_mul_left M ht
  omega
 have h2:g*vl≤V:=by
  have a1:g*vl≤B*M:=Nat.mul_le_mul (by omega) (by omega);have a2:B*M≤M*(v2+B*v1):=by
   rw [Nat.mul_comm]
   apply Nat.mul_le_mul_left
   have:=Nat.mul_le_mul_left B h.hv1
   omega
  omega
 have h3:g*V<(Q+2)*V:=by
  have:=h.hi
  have e:(Q+2)*V=(Q+1)*V+V:=by grind
  omega
 have:=Nat.lt_of_mul_lt_mul_right h3
 omega
structure Guess (B M U V u0 top v1 v2 Q g ov:Nat):Prop where
 win:Win B M U V u0 top v1 v2 Q
 eq:g*v1+ov=top
 ge:Q≤g
theorem Guess.start {B M U V u0 top v1 v2 Q:Nat} (h:Win B M U V u0 top v1 v2 Q):Guess B M U V u0 top v1 v2 Q (top/v1) (top%v1) :=
 ⟨h,by rw [Nat.mul_comm];exact Nat.div_add_mod _ _,by rw [Nat.le_div_iff_mul_le h.hv1];exact h.q1⟩
theorem Guess.down {B M U V u0 top v1 v2 Q g ov:Nat} (h:Guess B M U V u0 top v1 v2 Q g ov) (hQ:Q<B) (ht:B≤g∨ov*B+u0<g*v2):0<g∧Guess B M U V u0 top v1 v2 Q (g-1) (ov+v1):=by
 have hlt:Q<g:=by
  rcases ht with ht | ht
  ·omega
  ·rcases Nat.lt_or_ge Q g with h1 | h1
   ·exact h1
   ·exfalso
    have hq:Q=g:=Nat.le_antisymm h.ge h1;have h2:=h.win.q2;rw [hq,←h.eq] at h2;have e1:g*(v2+B*v1)=g*v2+B*(g*v1):=by grind
    have e2:u0+B*(g*v1+ov)=u0+ov*B+B*(g*v1):=by grind
    omega
 refine ⟨by omega,h.win,?_,by omega⟩;obtain ⟨k,rfl⟩:∃ k,g=k+1:=⟨g-1,by omega⟩;rw [←h.eq,Nat.add_sub_cancel];grind
theorem Guess.stay {B M U V u0 top v1 v2 Q g ov:Nat} (h:Guess B M U V u0 top v1 v2 Q g ov) (hg:g<B) (ht:g*v2≤ov*B+u0):g≤Q+1:=by
 refine h.win.le1 hg ?_;rw [←h.eq];have e1:g*(v2+B*v1)=g*v2+B*(g*v1):=by grind
 have e2:u0+B*(g*v1+ov)=u0+ov*B+B*(g*v1):=by grind
 omega
theorem Guess.over {B M U V u0 top v1 v2 Q g ov:Nat} (h:Guess B M U V u0 top v1 v2 Q g ov) (ho:B≤ov) (htop:top<(v1+1)*B):g<B∧g≤Q+1:=by
 have hg:g<B:=by
  have h1:g*v1<B*v1:=by
   have:=h.eq
   have e:(v1+1)*B=B*v1+B:=by grind
   omega
  exact Nat.lt_of_mul_lt_mul_right h1
 refine ⟨hg,h.stay hg ?_⟩;have a1:g*v2≤B*B:=Nat.mul_le_mul (Nat.le_of_lt hg) (Nat.le_of_lt h.win.hv2);have a2:B*B≤ov*B:=Nat.mul_le_mul_right B ho
 omega
theorem Guess.first {B M U V u0 top v1 v2 Q:Nat} (_h:Win B M U V u0 top v1 v2 Q) (htop:top<(v1+1)*B) (hv:B≤2*v1):top/v1≤B+1:=by
 have h1:top/v1<B+2:=by
  apply Nat.div_lt_of_lt_mul
  have e:(v1+1)*B=v1*B+B:=by grind
  have e2:v1*(B+2)=v1*B+2*v1:=by grind
  omega
 omega
theorem zero_of_lt {B:Nat} {l:List Nat} {k:Nat} (hB:0<B) (h:dv B l<B^k):Zero l k:=by
 intro j hj
 rcases Nat.lt_or_ge j l.length with hl | hl
 ·rcases Nat.eq_zero_or_pos (l.getD j 0) with h0 | h0
  ·exact h0
  ·exfalso
   rw [dv_take_drop B l j (Nat.le_of_lt hl),dv_drop B l j hl] at h;have h1:B^k≤B^j:=Nat.pow_le_pow_right hB hj;have h2:B^j*1≤B^j*(l.getD j 0+B*dv B (l.drop (j+1))):=Nat.mul_le_mul_left _ (by omega)
   omega
 ·exact getD_ge hl
theorem dv_top2 (B:Nat) (l:List Nat) (k:Nat) (h:k+2=l.length):dv B l=dv B (l.take k)+B^k*(l.getD k 0+B*l.getD (k+1) 0):=by
 rw [dv_take_drop B l k (by omega),dv_drop B l k (by omega),dv_drop B l (k+1) (by omega),List.drop_eq_nil_of_le (by omega)]
 simp [dv]
theorem dv_top3 (B:Nat) (l:List Nat) (k:Nat) (h:k+2<l.length) (hz:Zero l (k+3)) :
  dv B l=dv B (l.take k)+B^k*(l.getD k 0+B*(l.getD (k+1) 0+B*l.getD (k+2) 0)):=by
 have hz':dv B (l.drop (k+3))=0:=by
  have e:l.drop (k+3)=List.replicate (l.length-(k+3)) 0:=by
   apply List.ext_getElem (by simp)
   intro i h1 h2
   have h1':k+3+i<l.length:=by simp at h1;omega
   have:=hz (k+3+i) (by omega)
   rw [List.getD_eq_getElem?_getD,List.getElem?_eq_getElem h1'] at this
   simpa using this
  rw [e,dv_replicate]
 rw [dv_take_drop B l k (by omega),dv_drop B l k (by omega),dv_drop B l (k+1) (by omega),dv_drop B l (k+2) (by omega),show k+2+1=k+3 by omega,hz']
 simp
theorem win_of {B:Nat} (hB:0<B) {u v:List Nat} {n j:Nat} (hu:Dig B u) (hv:Dig B v) (hn:v.length=n) (h2:2≤n) (hl:j+n<u.length) (hlt:dv B u<dv B v*B^(j+1)) (hv1:0<v.getD (n-1) 0) :
  Win B (B^(j+n-2)) (dv B u) (dv B v*B^j) (u.getD (j+n-2) 0) (u.getD (j+n-1) 0+B*u.getD (j+n) 0) (v.getD (n-1) 0) (v.getD (n-2) 0) (dv B u/(dv B v*B^j)) ∧
  dv B u/(dv B v*B^j)<B∧u.getD (j+n-1) 0+B*u.getD (j+n) 0<(v.getD (n-1) 0+1)*B:=by
 obtain ⟨k,rfl⟩:∃ k,n=k+2:=⟨n-2,by omega⟩;have ev:=dv_top2 B v k (by omega);simp only [show k+2-1=k+1 by omega,show k+2-2=k by omega,show j+(k+2)=j+k+2 by omega,show j+k+2-2=j+k by omega,show j+k+2-1=j+k+1 by omega] at *
 have hvlt:=dv_lt hB hv;rw [hn] at hvlt;have hzu:Zero u (j+k+3):=by
  apply zero_of_lt hB
  have:dv B v*B^(j+1)≤B^(k+2)*B^(j+1):=Nat.mul_le_mul_right _ (Nat.le_of_lt hvlt)
  rw [←Nat.pow_add,show k+2+(j+1)=j+k+3 by omega] at this
  omega
 have eu:=dv_top3 B u (j+k) (by omega) hzu;have tlt:∀ (l:List Nat) (m:Nat),Dig B l→m≤l.length→dv B (l.take m)<B^m:=by
  intro l m hl hm
  have:=dv_lt hB (hl.take m)
  simpa [Nat.min_eq_left hm] using this
 have hul:=tlt u (j+k) hu (by omega);have hvl:=tlt v k hv (by omega);have hM:0<B^(j+k):=Nat.pow_pos hB;have hMj:0<B^j:=Nat.pow_pos hB;have hV:dv B v*B^j=dv B (v.take k)*B^j+B^(j+k)*(v.getD k 0+B*v.getD (k+1) 0):=by
  rw [ev,Nat.pow_add];grind
 have hvpos:0<dv B v*B^j:=by
  rw [hV];have h1:0<B*v.getD (k+1) 0:=Nat.mul_pos hB hv1
  have:0<B^(j+k)*(v.getD k 0+B*v.getD (k+1) 0):=Nat.mul_pos hM (by omega)
  omega
 have hQ:dv B u/(dv B v*B^j)<B:=by
  apply Nat.div_lt_of_lt_mul
  have:dv B v*B^(j+1)=dv B v*B^j*B:=by rw [Nat.pow_succ,Nat.mul_assoc]
  omega
 refine ⟨⟨⟨_,hul,eu⟩,⟨dv B (v.take k)*B^j,?_,hV⟩,hu.get hB _,hv.get hB _,hv1,hM,Nat.div_mul_le_self _ _,?_⟩,hQ,?_⟩
 ·rw [Nat.pow_add,Nat.mul_comm]
  exact Nat.mul_lt_mul_of_pos_left hvl hMj
 ·have:=Nat.lt_div_mul_add (a:=dv B u) hvpos
  rw [Nat.succ_mul];exact this
 ·have h1:B^(j+k)*(B*(u.getD (j+k+1) 0+B*u.getD (j+k+2) 0))<B^(j+k)*(B*((v.getD (k+1) 0+1)*B)):=by
   have a1:B^(j+k)*(B*(u.getD (j+k+1) 0+B*u.getD (j+k+2) 0))≤dv B u:=by
    rw [eu]
    have:B^(j+k)*(B*(u.getD (j+k+1) 0+B*u.getD (j+k+2) 0))≤B^(j+k)*(u.getD (j+k) 0+B*(u.getD (j+k+1) 0+B*u.getD (j+k+2) 0)):=Nat.mul_le_mul_left _ (Nat.le_add_left _ _)
    omega
   have a2:dv B v*B^(j+1)≤B^(j+k)*(B*((v.getD (k+1) 0+1)*B)):=by
    have b1:dv B v≤B^k*(B*(v.getD (k+1) 0+1)):=by
     rw [ev];have c1:dv B (v.take k)+B^k*v.getD k 0≤B^k*B:=by
      have:v.getD k 0+1≤B:=hv.get hB _
      have:=Nat.mul_le_mul_left (B^k) this
      rw [Nat.mul_succ] at this
      omega
     grind
    have:=Nat.mul_le_mul_right (B^(j+1)) b1
    have e:B^k*(B*(v.getD (k+1) 0+1))*B^(j+1)=B^(j+k)*(B*((v.getD (k+1) 0+1)*B)):=by
     rw [Nat.pow_add,Nat.pow_succ];grind
    rw [e] at this
    exact this
   omega
  have h2:=Nat.lt_of_mul_lt_mul_left h1
  exact Nat.lt_of_mul_lt_mul_left h2
theorem dv_top1 (B:Nat) (l:List Nat) (k:Nat) (h:k+1=l.length):dv B l=dv B (l.take k)+B^k*l.getD k 0:=by
 rw [dv_take_drop B l k (by omega),dv_drop B l k (by omega),List.drop_eq_nil_of_le (by omega)]
 simp [dv]
theorem norm_shift {y v:List Nat} {m L d:Nat} (hy:Norm 4294967296 y) (hm:y.length=m) (h1:1≤m) (hd:d=y.getD (m-1) 0) (hL:L<32) (h31:2147483648≤d*2^L) (h32:d*2^L<4294967296)
  (hv:Norm 4294967296 v) (e:dv 4294967296 v=dv 4294967296 y*2^L):v.length=m∧2147483648≤v.getD (m-1) 0:=by
 obtain ⟨k,rfl⟩:∃ k,m=k+1:=⟨m-1,by omega⟩;simp only [Nat.add_sub_cancel] at *
 have ey:=dv_top1 4294967296 y k (by omega);rw [←hd] at ey;have hlow:dv 4294967296 (y.take k)<4294967296^k:=by
  have:=dv_lt (B:=4294967296) (by decide) (hy.dig.take k)
  simpa [Nat.min_eq_left (show k≤y.length by omega)] using this
 have hQ:4294967296=2^L*2^(32-L):=by rw [←Nat.pow_add,show L+(32-L)=32 by omega]
 have hd1:(d+1)*2^L≤4294967296:=by
  have:d<2^(32-L):=by
   apply Nat.lt_of_mul_lt_mul_left (a:=2^L)
   rw [←hQ,Nat.mul_comm];exact h32
  have:=Nat.mul_le_mul_left (2^L) (Nat.succ_le_of_lt this)
  rw [←hQ,Nat.mul_comm] at this
  exact this
 have hP:0<4294967296^k:=Nat.pow_pos (by decide);have hup:dv 4294967296 v<4294967296^(k+1):=by
  rw [e,Nat.pow_succ];have h2:dv 4294967296 y<4294967296^k*(d+1):=by rw [ey,Nat.mul_succ];omega
  have h3:dv 4294967296 y*2^L<4294967296^k*(d+1)*2^L:=Nat.mul_lt_mul_of_pos_right h2 (Nat.pow_pos (by decide));have h4:4294967296^k*(d+1)*2^L≤4294967296^k*4294967296:=by rw [Nat.mul_assoc];exact Nat.mul_le_mul_left _ hd1
  omega
 have hlo:4294967296^k*2147483648≤dv 4294967296 v:=by
  rw [e,ey];have h2:4294967296^k*2147483648≤4294967296^k*(d*2^L):=Nat.mul_le_mul_left _ h31;have h3:(dv 4294967296 (y.take k)+4294967296^k*d)*2^L=dv 4294967296 (y.take k)*2^L+4294967296^k*(d*2^L):=by grind
  omega
 have l1:v.length≤k+1:=hv.len_le (by decide) hup;have l2:k<v.length:=by
  rcases Nat.lt_or_ge k v.length with h | h
  ·exact h
  ·have h5:=dv_lt (B:=4294967296) (by decide) hv.dig;have h6:4294967296^v.length≤4294967296^k:=Nat.pow_le_pow_right (by decide) h
   have:4294967296^k*1≤4294967296^k*2147483648:=Nat.mul_le_mul_left _ (by decide)
   omega
 refine ⟨by omega,?_⟩;have ev:=dv_top1 4294967296 v k (by omega);have hvl:dv 4294967296 (v.take k)<4294967296^k:=by
  have:=dv_lt (B:=4294967296) (by decide) (hv.dig.take k)
  simpa [Nat.min_eq_left (show k≤v.length by omega)] using this
 have h7:4294967296^k*2147483648<4294967296^k*(v.getD k 0+1):=by rw [Nat.mul_add (4294967296^k) (v.getD k 0) 1,Nat.mul_one];omega
 have:=Nat.lt_of_mul_lt_mul_left h7
 omega
theorem kn_start {v:List Nat} {n m M L:Nat} (hM:M<4294967296^n) (hL:L<32) (hm:v.length=m) (h1:1≤m) (hmn:m≤n) (h31:2147483648≤v.getD (m-1) 0):M*2^L<dv 4294967296 v*4294967296^(n-m+1):=by
 obtain ⟨k,rfl⟩:∃ k,m=k+1:=⟨m-1,by omega⟩;simp only [Nat.add_sub_cancel] at *
 have ev:=dv_top1 4294967296 v k (by omega);have h2:4294967296^k*2147483648≤dv 4294967296 v:=by
  rw [ev]
  have:=Nat.mul_le_mul_left (4294967296^k) h31
  omega
 have h3:2^L≤2147483648:=by
  have:2^L≤2^31:=Nat.pow_le_pow_right (by decide) (by omega)
  exact this
 have h4:M*2^L<4294967296^n*2147483648:=Nat.mul_lt_mul_of_lt_of_le hM h3 (by decide);have h5:=Nat.mul_le_mul_right (4294967296^(n-(k+1)+1)) h2;have h6:4294967296^k*2147483648*4294967296^(n-(k+1)+1)=4294967296^n*2147483648:=by
  have:4294967296^k*2147483648*4294967296^(n-(k+1)+1)=4294967296^k*4294967296^(n-(k+1)+1)*2147483648:=by grind
  rw [this,←Nat.pow_add,show k+(n-(k+1)+1)=n by omega]
 omega
theorem div_step {B D V q Q j:Nat} {u':Nat} (hQ:Q=D/(V*B^j)) (hV:0<V*B^j) (h:u'+Q*V*B^j=D) (_hq:q=Q):u'<V*B^j:=by
 have h1:u'=D%(V*B^j):=by
  have:=Nat.div_add_mod D (V*B^j)
  rw [←hQ,Nat.mul_comm] at this;rw [Nat.mul_assoc] at h
  omega
 rw [h1];exact Nat.mod_lt _ hV
end Vn
namespace Vn
def IsRoot (a s:Nat):Prop:=s*s≤a∧a<(s+1)*(s+1)
theorem IsRoot.unique {a s t:Nat} (h:IsRoot a s) (k:IsRoot a t):s=t:=by
 rcases Nat.lt_trichotomy s t with h1 | h1 | h1
 ·have:=Nat.mul_le_mul (show s+1≤t from h1) (show s+1≤t from h1)
  have:=h.2;have:=k.1;omega
 ·exact h1
 ·have:=Nat.mul_le_mul (show t+1≤s from h1) (show t+1≤s from h1)
  have:=k.2;have:=h.1;omega
theorem heron_ge {a x y:Nat} (hx:0<x) (hy:y=(x+a/x)/2):a<(y+1)*(y+1):=by
 have h1:x+a/x<2*(y+1):=by omega
 have h2:a<x*(a/x+1):=by
  have:=Nat.lt_mul_div_succ a hx
  exact this
 generalize a/x=q at *
 -- x*(q+1)≤((x+q+1)/2)^2
 have h3:x*(q+1)≤(y+1)*(y+1):=by
  have h4:x+(q+1)≤2*(y+1):=by omega
  generalize q+1=p at *
  generalize y+1=z at *
  -- x+p≤2 z  ⟹  x p≤z z
  rcases Nat.le_total x z with hxz | hxz
  ·obtain ⟨d,rfl⟩:=Nat.exists_eq_add_of_le hxz
   have:p≤x+d+d:=by omega
   have:=Nat.mul_le_mul_left x this
   have e:x*(x+d+d)+d*d=(x+d)*(x+d):=by grind
   omega
  ·obtain ⟨d,rfl⟩:=Nat.exists_eq_add_of_le hxz;have hp:p+d≤z:=by omega
   have h5:(z+d)*p+(z+d)*d≤(z+d)*z:=by
    have:=Nat.mul_le_mul_left (z+d) hp
    rwa [Nat.mul_add] at this
   have e:(z+d)*z=z*z+d*z:=by grind
   have e2:(z+d)*d=z*d+d*d:=by grind
   have e3:d*z=z*d:=Nat.mul_comm _ _
   omega
 omega
theorem heron_done {a x y:Nat} (hy:y=(x+a/x)/2) (hge:x≤y):x*x≤a:=by
 have h1:x≤a/x:=by omega
 have:=Nat.mul_le_mul_left x h1
 have:=Nat.mul_div_le a x
 omega
end Vn
namespace Vn
def bl (n:Nat):Nat:=if n=0 then 0 else n.log2+1
theorem bl_zero:bl 0=0:=rfl
theorem bl_lt (n:Nat):n<2^bl n:=by
 unfold bl
 split
 ·next h=>subst h;decide
 ·next h=>exact Nat.lt_log2_self
theorem bl_le {n:Nat} (h:0<n):2^(bl n-1)≤n:=by
 unfold bl;rw [if_neg (by omega),Nat.add_sub_cancel]
 exact Nat.log2_self_le (by omega)
theorem bl_pos {n:Nat} (h:0<n):0<bl n:=by
 unfold bl;rw [if_neg (by omega)];omega
theorem bl_unique {n k:Nat} (h1:2^k≤n) (h2:n<2^(k+1)):bl n=k+1:=by
 have hp:0<n:=Nat.lt_of_lt_of_le (Nat.pow_pos (by decide)) h1;have a1:=bl_lt n;have a2:=bl_le hp;have a3:=bl_pos hp;have b1:k<bl n:=by
  rcases Nat.lt_or_ge k (bl n) with h | h
  ·exact h
  ·have:=Nat.pow_le_pow_right (n:=2) (by decide) h;omega
 have b2:bl n-1<k+1:=by
  rcases Nat.lt_or_ge (bl n-1) (k+1) with h | h
  ·exact h
  ·have:=Nat.pow_le_pow_right (n:=2) (by decide) h;omega
 omega
theorem bl_le_of_lt {n k:Nat} (h:n<2^k):bl n≤k:=by
 rcases Nat.eq_zero_or_pos n with h0 | h0
 ·subst h0;exact Nat.zero_le _
 ·have a2:=bl_le h0;have a3:=bl_pos h0
  rcases Nat.lt_or_ge k (bl n) with hlt | hge
  ·have:=Nat.pow_le_pow_right (n:=2) (by decide) (show k≤bl n-1 by omega);omega
  ·exact hge
theorem bl_words {d k X low:Nat} (hd:0<d) (hl:low<4294967296^k) (hX:X=low+4294967296^k*d):bl X=32*k+bl d:=by
 have e:(4294967296:Nat)^k=2^(32*k):=by rw [Nat.pow_mul]
 rw [e] at hl hX;have h1:=bl_le hd;have h2:=bl_lt d;have h3:=bl_pos hd;have h4:bl X=32*k+(bl d-1)+1:=by
  apply bl_unique
  ·rw [Nat.pow_add,hX]
   have:=Nat.mul_le_mul_left (2^(32*k)) h1
   omega
  ·rw [hX,show 32*k+(bl d-1)+1=32*k+bl d by omega,Nat.pow_add]
   have:=Nat.mul_le_mul_left (2^(32*k)) (Nat.succ_le_of_lt h2)
   rw [Nat.mul_succ] at this
   omega
 omega
end Vn
namespace Vn
set_option maxRecDepth 100000
set_option maxHeartbeats 8000000
def sg (neg:Bool) (P:Nat):Int:=if neg then -(P:Int) else P
def mkq (neg:Bool) (P Q:Nat):Rat:=mkRat (sg neg P) Q
theorem sg_natAbs (neg:Bool) (P:Nat):(sg neg P).natAbs=P:=by unfold sg;split<;>omega
theorem mkq_num (neg:Bool) (P Q:Nat) (hQ:Q≠0):(mkq neg P Q).num=sg neg P/(Nat.gcd P Q:Int):=by
 unfold mkq;rw [Rat.mkRat_def,dif_neg hQ,Rat.normalize_eq];simp only [sg_natAbs]
theorem mkq_den (neg:Bool) (P Q:Nat) (hQ:Q≠0):(mkq neg P Q).den=Q/Nat.gcd P Q:=by
 unfold mkq;rw [Rat.mkRat_def,dif_neg hQ,Rat.normalize_eq];simp only [sg_natAbs]
theorem mkq_natAbs (neg:Bool) (P Q:Nat) (hQ:Q≠0):(mkq neg P Q).num.natAbs=P/Nat.gcd P Q:=by
 rw [mkq_num neg P Q hQ];have hg:Nat.gcd P Q∣P:=Nat.gcd_dvd_left P Q;obtain ⟨k,hk⟩:=hg;have hg0:0<Nat.gcd P Q:=Nat.gcd_pos_of_pos_right _ (Nat.pos_of_ne_zero hQ);generalize Nat.gcd P Q=g at *
 subst hk;have e:sg neg (g*k)=(g:Int)*sg neg k:=by unfold sg;split<;>simp [Int.natCast_mul,Int.mul_neg]
 rw [e,Int.mul_ediv_cancel_left _ (by omega),sg_natAbs,Nat.mul_div_cancel_left _ hg0]
theorem mkq_neg (neg:Bool) (P Q:Nat) (hQ:Q≠0):decide ((mkq neg P Q).num<0)=(neg&&decide (P≠0)):=by
 rw [mkq_num neg P Q hQ];have hg:Nat.gcd P Q∣P:=Nat.gcd_dvd_left P Q;obtain ⟨k,hk⟩:=hg;have hg0:0<Nat.gcd P Q:=Nat.gcd_pos_of_pos_right _ (Nat.pos_of_ne_zero hQ);generalize Nat.gcd P Q=g at *
 subst hk;have e:sg neg (g*k)=(g:Int)*sg neg k:=by unfold sg;split<;>simp [Int.natCast_mul,Int.mul_neg]
 rw [e,Int.mul_ediv_cancel_left _ (by omega)];have e2:(g*k≠0)↔k≠0:=by
  constructor
  ·intro h h2;subst h2;simp at h
  ·intro h h2
   rcases Nat.mul_eq_zero.1 h2 with h3 | h3
   ·omega
   ·exact h h3
 rw [Bool.eq_iff_iff];simp only [decide_eq_true_iff,Bool.and_eq_true,e2]
 cases neg<;>simp [sg]<;>omega
theorem mkq_zero (neg:Bool) (Q:Nat):mkq neg 0 Q=0:=by
 unfold mkq sg
 cases neg<;>simp [Rat.zero_mkRat]
theorem mkq_self (q:Rat):mkq (decide (q.num<0)) q.num.natAbs q.den=q:=by
 unfold mkq
 have:sg (decide (q.num<0)) q.num.natAbs=q.num:=by
  unfold sg
  by_cases h:q.num<0
  ·simp only [h,decide_true,if_true];omega
  ·simp only [h,decide_false];simp;omega
 rw [this,Rat.mkRat_self]
theorem sg_mul (m n:Bool) (a b:Nat):sg m a*sg n b=sg (m != n) (a*b):=by
 cases m<;>cases n<;>simp [sg,Int.natCast_mul,Int.mul_neg,Int.neg_mul]
theorem sg_scale (m:Bool) (a b:Nat):sg m a*(b:Int)=sg m (a*b):=by
 cases m<;>simp [sg,Int.natCast_mul,Int.neg_mul]
theorem mkq_add (m n:Bool) (a b c d:Nat) (hc:c≠0) (hd:d≠0):mkq m a c+mkq n b d=mkRat (sg m (a*d)+sg n (b*c)) (c*d):=by
 unfold mkq;rw [Rat.mkRat_add_mkRat _ _ hc hd,sg_scale,sg_scale]
theorem mkq_mul (m n:Bool) (a b c d:Nat):mkq m a c*mkq n b d=mkq (m != n) (a*b) (c*d):=by
 unfold mkq;rw [Rat.mkRat_mul_mkRat,sg_mul]
theorem mkq_inv (n:Bool) (b d:Nat) (hb:b≠0) (hd:d≠0):(mkq n b d)⁻¹ = mkq n d b:=by
 have h1:mkq n b d*mkq n d b=1:=by
  rw [mkq_mul];unfold mkq
  have:sg (n != n) (b*d)=((d*b:Nat):Int):=by cases n<;>simp [sg,Nat.mul_comm]
  rw [this,Rat.mkRat_eq_div];have hne:((d*b:Nat):Rat)≠0:=by
   intro h
   have:d*b=0:=by exact_mod_cast h
   rcases Nat.mul_eq_zero.1 this with h | h
   ·exact hd h
   ·exact hb h
  have:(((d*b:Nat):Int):Rat)=((d*b:Nat):Rat):=rfl
  rw [this,Rat.div_def,Rat.mul_inv_cancel _ hne]
 have h2:mkq n b d≠0:=by
  intro h
  rw [h,Rat.zero_mul] at h1
  exact absurd h1 (by decide)
 have h3:(mkq n b d)⁻¹ * (mkq n b d*mkq n d b)=(mkq n b d)⁻¹ := by rw [h1,Rat.mul_one]
 rw [←Rat.mul_assoc,Rat.inv_mul_cancel _ h2,Rat.one_mul] at h3
 exact h3.symm
theorem mkq_div (m n:Bool) (a b c d:Nat) (hb:b≠0) (hd:d≠0):mkq m a c/mkq n b d=mkq (m != n) (a*d) (c*b):=by
 rw [Rat.div_def,mkq_inv n b d hb hd,mkq_mul]
end Vn
namespace Go.Proofs.YtoaoebimjmjpeaaGreatDoor
open Vn
set_option maxRecDepth 100000
set_option maxHeartbeats 8000000
theorem two_pos:(0:Rat)<2:=by decide
theorem p2_pos (k:Int):(0:Rat)<(2:Rat)^k:=Rat.zpow_pos two_pos
theorem p2_add (m n:Int):(2:Rat)^(m+n)=(2:Rat)^m*(2:Rat)^n:=Rat.zpow_add (by decide) m n
theorem p2_succ (m:Int):(2:Rat)^(m+1)=(2:Rat)^m*2:=by rw [p2_add,Rat.zpow_one]
theorem p2_cancel (m:Int):(2:Rat)^(-m)*(2:Rat)^m=1:=by rw [←p2_add,Int.add_left_neg,Rat.zpow_zero]
theorem p2_nat (n:Nat):(2:Rat)^(n:Int)=((2^n:Nat):Rat):=by rw [Rat.zpow_natCast,Rat.natCast_pow];rfl
theorem p2_mono {m n:Int} (h:m≤n):(2:Rat)^m≤(2:Rat)^n:=by
 obtain ⟨k,rfl⟩:∃ k:Nat,n=m+k:=⟨(n-m).toNat,by omega⟩;rw [p2_add,p2_nat];have h1:(1:Rat)≤((2^k:Nat):Rat):=by
  have:1≤2^k:=Nat.pow_pos (by decide)
  exact_mod_cast this
 have:=Rat.mul_le_mul_of_nonneg_left h1 (Rat.le_of_lt (p2_pos m))
 rwa [Rat.mul_one] at this
theorem p2_lt {m n:Int} (h:m<n):(2:Rat)^m<(2:Rat)^n:=by
 have h1:=p2_mono (show m+1≤n by omega);rw [p2_succ] at h1
 have:=p2_pos m
 grind
theorem p2_lt_iff {m n:Int}:(2:Rat)^m<(2:Rat)^n↔m<n :=
 ⟨fun h=>by
  rcases Int.lt_or_le m n with k | k
  ·exact k
  ·exact absurd h (Rat.not_lt.2 (p2_mono k)),p2_lt⟩
theorem num_eq (q:Rat):(q.num:Rat)=q*q.den:=by
 have h:=Rat.mkRat_eq_div q.num q.den;rw [Rat.mkRat_self] at h;have hd:(q.den:Rat)≠0:=by
  have:=q.den_nz
  exact_mod_cast this
 have h2:(q.num:Rat)/q.den*q.den=q.num:=by rw [Rat.div_def,Rat.mul_assoc,Rat.inv_mul_cancel _ hd,Rat.mul_one]
 rw [←h] at h2
 exact h2.symm
def IsLog (q:Rat) (k:Int):Prop:=(2:Rat)^k≤q∧q<(2:Rat)^(k+1)
theorem IsLog.unique {q:Rat} {k l:Int} (h:IsLog q k) (h':IsLog q l):k=l:=by
 have h1:(2:Rat)^k<(2:Rat)^(l+1):=by have:=h.1;have:=h'.2;grind
 have h2:(2:Rat)^l<(2:Rat)^(k+1):=by have:=h'.1;have:=h.2;grind
 rw [p2_lt_iff] at h1 h2
 omega
theorem IsLog.pos {q:Rat} {k:Int} (h:IsLog q k):0<q:=by
 have:=h.1;have:=p2_pos k;grind
theorem lt_p2 {q:Rat} (h:0<q.num) (m n:Nat):q<(2:Rat)^((m:Int)-n)↔q.num.natAbs*2^n<q.den*2^m:=by
 have hd:(0:Rat)<q.den:=by have:=Nat.pos_of_ne_zero q.den_nz;exact_mod_cast this
 have hn:=p2_pos n;rw [←Rat.mul_lt_mul_right hn,←Rat.mul_lt_mul_right hd,←p2_add,show (m:Int)-n+n=m by omega,p2_nat,p2_nat];rw [show q*((2^n:Nat):Rat)*q.den=q*q.den*((2^n:Nat):Rat) by grind,←num_eq,show ((2^m:Nat):Rat)*q.den=(q.den:Rat)*((2^m:Nat):Rat) by grind];rw [show (q.num:Rat)=((q.num.natAbs:Nat):Rat) by
  have:q.num=((q.num.natAbs:Nat):Int):=by omega
  conv=>lhs;rw [this]
  rfl]
 rw [←Rat.natCast_mul,←Rat.natCast_mul,Rat.natCast_lt_natCast]
theorem p2_le {q:Rat} (h:0<q.num) (m n:Nat):(2:Rat)^((m:Int)-n)≤q↔q.den*2^m≤q.num.natAbs*2^n:=by
 rw [←Rat.not_lt,lt_p2 h];omega
theorem log_is {q:Rat} (h:0<q.num) (k:Int) (hk:k=(bl q.num.natAbs:Int)-bl q.den) :
  IsLog q (if q.num.natAbs*2^(max (-k) 0).toNat<q.den*2^(max k 0).toNat then k-1 else k):=by
 have hd:=Nat.pos_of_ne_zero q.den_nz;have hp:0<q.num.natAbs:=by omega
 have h1:=bl_lt q.num.natAbs;have h2:=bl_le hp;have h3:=bl_lt q.den;have h4:=bl_le hd;have h5:=bl_pos hp;have h6:=bl_pos hd;have he:((max k 0).toNat:Int)-((max (-k) 0).toNat:Int)=k:=by omega
 have hc:=lt_p2 h (max k 0).toNat (max (-k) 0).toNat;rw [he] at hc;have lo:(2:Rat)^(k-1)≤q:=by
  have e:k-1=((bl q.num.natAbs-1:Nat):Int)-(bl q.den:Int):=by omega
  rw [e,p2_le h,Nat.mul_comm q.num.natAbs]
  exact Nat.mul_le_mul (Nat.le_of_lt h3) h2
 have hi:q<(2:Rat)^(k+1):=by
  have e:k+1=(bl q.num.natAbs:Int)-((bl q.den-1:Nat):Int):=by omega
  rw [e,lt_p2 h,Nat.mul_comm q.den]
  exact Nat.mul_lt_mul_of_lt_of_le h1 h4 hd
 by_cases hl:q.num.natAbs*2^(max (-k) 0).toNat<q.den*2^(max k 0).toNat
 ·rw [if_pos hl]
  exact ⟨lo,by rw [show k-1+1=k by omega];exact hc.2 hl⟩
 ·rw [if_neg hl]
  exact ⟨Rat.not_lt.1 fun h=>hl (hc.1 h),hi⟩
end Go.Proofs.YtoaoebimjmjpeaaGreatDoor
namespace Vn
set_option maxRecDepth 100000
set_option maxHeartbeats 8000000
theorem Norm.of_ge {B:Nat} (hB:0<B) {l:List Nat} (h:Dig B l) (hv:l≠[]→B^(l.length-1)≤dv B l):Norm B l:=by
 refine ⟨h,?_⟩
 by_cases hl:l=[]
 ·exact .inl hl
 ·right
  have hlen:0<l.length:=List.length_pos_iff.2 hl
  rcases Nat.eq_zero_or_pos (l.getD (l.length-1) 0) with h0 | h0
  ·exfalso
   have h1:=hv hl;have h2:dv B (l.take (l.length-1))=dv B l:=dv_take_zeros (by omega) (fun k a b=>by
    obtain rfl:k=l.length-1:=by omega
    exact h0)
   have h3:=dv_lt hB (h.take (l.length-1));rw [h2,List.length_take,Nat.min_eq_left (by omega)] at h3
   omega
  ·exact h0
theorem dv_snoc (B:Nat) (o:List Nat) (s:Nat):dv B (o++[s])=dv B o+s*B^o.length:=by
 rw [dv_append,dv_cons,dv_nil,Nat.mul_comm];simp
structure SumR (B:Nat) (x y:List Nat) (k q:Nat) (o:List Nat):Prop where
 len:o.length=k
 dig:Dig B o
 hq:q≤1
 val:dv B o+B^k*q=dv B (x.take k)+dv B (y.take k)
 hk:k≤max x.length y.length∨(k=max x.length y.length+1∧q=0∧B^(max x.length y.length)≤dv B o)
theorem SumR.start (B:Nat) (x y:List Nat):SumR B x y 0 0 []:=⟨rfl,Dig.nil,by omega,by simp [dv],.inl (Nat.zero_le _)⟩
theorem SumR.step {B:Nat} (hB:2<B) {x y:List Nat} {k q:Nat} {o:List Nat} (h:SumR B x y k q o) (hx:Dig B x) (hy:Dig B y) (hc:k<max x.length y.length∨0<q) :
  SumR B x y (k+1) ((q+x.getD k 0+y.getD k 0)/B) (o++[(q+x.getD k 0+y.getD k 0)%B]):=by
 have hd:=hx.get (by omega) k;have hf:=hy.get (by omega) k;have hq:=h.hq;have hlen:=h.len;have hkk:=h.hk;have hm:=Nat.mod_add_div (q+x.getD k 0+y.getD k 0) B;have hq':(q+x.getD k 0+y.getD k 0)/B≤1:=by
  have:(q+x.getD k 0+y.getD k 0)/B<2:=Nat.div_lt_of_lt_mul (by omega)
  omega
 refine ⟨by simp [hlen],h.dig.append (Dig.mk (Nat.mod_lt _ (by omega)) Dig.nil),hq',?_,?_⟩
 ·rw [dv_snoc,hlen,dv_take_succ',dv_take_succ']
  exact add_step h.val hm.symm
 ·rcases Nat.lt_or_ge k (max x.length y.length) with hlt | hge
  ·exact .inl hlt
  ·right
   have h1:0<q:=by omega
   have h2:k=max x.length y.length:=by
    rcases hkk with h3 | ⟨_,h4,_⟩
    ·omega
    ·omega
   have hx0:x.getD k 0=0:=getD_ge (by omega);have hy0:y.getD k 0=0:=getD_ge (by omega);have hq1:q=1:=by omega
   rw [hx0,hy0,hq1];refine ⟨by omega,Nat.div_eq_of_lt (by omega),?_⟩;rw [dv_snoc,hlen,Nat.mod_eq_of_lt (by omega),←h2]
   omega
theorem SumR.finish {B:Nat} (hB:2<B) {x y:List Nat} {k:Nat} {o:List Nat} (h:SumR B x y k 0 o) (hx:Norm B x) (hy:Norm B y) (hk:max x.length y.length≤k):Norm B o∧dv B o=dv B x+dv B y:=by
 have hv:=h.val;rw [List.take_of_length_le (by omega),List.take_of_length_le (by omega),Nat.mul_zero,Nat.add_zero] at hv;refine ⟨Norm.of_ge (by omega) h.dig (fun hne => ?_),hv⟩;have hlen:=h.len;have hpos:0<o.length:=List.length_pos_iff.2 hne
 rcases h.hk with h1 | ⟨h1,_,h3⟩
 ·have hkm:k=max x.length y.length:=by omega
  rw [hlen,hv,hkm]
  rcases Nat.le_total x.length y.length with hle | hle
  ·have:=Trim.pos (B:=B) (by omega) hy.trim (by intro e;subst e;simp at hle;simp [hle] at hkm;omega)
   rw [Nat.max_eq_right hle];omega
  ·have:=Trim.pos (B:=B) (by omega) hx.trim (by intro e;subst e;simp at hle;simp [hle] at hkm;omega)
   rw [Nat.max_eq_left hle];omega
 ·rw [hlen,h1]
  exact h3
theorem SumR.last {B:Nat} {x y:List Nat} {k q:Nat} {o:List Nat} (h:SumR B x y k q o):k≤max x.length y.length+1:=by
 rcases h.hk with h1 | ⟨h1,_⟩<;>omega
structure DifR (B:Nat) (x y:List Nat) (k q:Nat) (o:List Nat):Prop where
 hk:k≤x.length
 len:o.length=k
 dig:Dig B o
 hq:q≤1
 val:dv B o+dv B (y.take k)=dv B (x.take k)+B^k*q
theorem DifR.start (B:Nat) (x y:List Nat):DifR B x y 0 0 []:=⟨Nat.zero_le _,rfl,Dig.nil,by omega,by simp [dv]⟩
theorem DifR.stay {B:Nat} {x y:List Nat} {k q:Nat} {o:List Nat} (h:DifR B x y k q o) (hk:k<x.length) (hx:Dig B x) (hB:0<B) (hc:q+y.getD k 0≤x.getD k 0) :
  DifR B x y (k+1) 0 (o++[x.getD k 0-(q+y.getD k 0)]):=by
 have hd:=hx.get hB k;have hlen:=h.len;refine ⟨hk,by simp [hlen],h.dig.append (Dig.mk (by omega) Dig.nil),by omega,?_⟩;rw [dv_snoc,hlen,dv_take_succ',dv_take_succ']
 exact dif_step h.val (by omega)
theorem DifR.lend {B:Nat} {x y:List Nat} {k q:Nat} {o:List Nat} (h:DifR B x y k q o) (hk:k<x.length) (hy:Dig B y) (hB:0<B) (hc:x.getD k 0<q+y.getD k 0) :
  DifR B x y (k+1) 1 (o++[x.getD k 0+B-(q+y.getD k 0)]):=by
 have hf:=hy.get hB k;have hq:=h.hq;have hlen:=h.len;refine ⟨hk,by simp [hlen],h.dig.append (Dig.mk (by omega) Dig.nil),by omega,?_⟩;rw [dv_snoc,hlen,dv_take_succ',dv_take_succ']
 exact dif_step h.val (by omega)
theorem DifR.finish {B:Nat} {x y:List Nat} {k q:Nat} {o:List Nat} (h:DifR B x y k q o) (hB:0<B) (hk:k=x.length) (hl:y.length≤x.length) (hle:dv B y≤dv B x):dv B o=dv B x-dv B y:=by
 have hv:=h.val;rw [List.take_of_length_le (by omega),List.take_of_length_le (by omega)] at hv;have hlt:=dv_lt hB h.dig;rw [h.len] at hlt;have hq:=h.hq
 rcases (show q=0∨q=1 by omega) with rfl | rfl<;>omega
theorem guess_low {p t u x y b r:Nat} (h0:0<b) (hb:b=u*p+t) (ht:t<p) (hr:r=x*p+y) (_hy:y<p):x/(u+1)≤r/b:=by
 rw [Nat.le_div_iff_mul_le h0];have h1:x/(u+1)*(u+1)≤x:=Nat.div_mul_le_self _ _;have h2:x/(u+1)*b≤x/(u+1)*((u+1)*p):=Nat.mul_le_mul_left _ (by rw [Nat.add_mul];omega);have h3:x/(u+1)*((u+1)*p)≤x*p:=by rw [←Nat.mul_assoc];exact Nat.mul_le_mul_right _ h1
 omega
theorem guess_high {p t u x y b r:Nat} (hb:b=u*p+t) (hu:0<u) (hp:0<p) (hr:r=x*p+y) (hy:y<p):r/b≤(x+1)/u:=by
 have h0:0<b:=by have:=Nat.mul_pos hu hp;omega
 rw [Nat.le_div_iff_mul_le hu];have h1:r/b*b≤r:=Nat.div_mul_le_self _ _;have h2:r/b*(u*p)≤r/b*b:=Nat.mul_le_mul_left _ (by omega);have h3:r/b*u*p<(x+1)*p:=by rw [Nat.mul_assoc,Nat.add_mul];omega
 have:=Nat.lt_of_mul_lt_mul_right h3
 omega
theorem dv_top {B:Nat} {y:List Nat} {m:Nat} (hm0:0<m) (hm:m≤y.length) (h1:y.length≤m+1):dv B y=(y.getD (m-1) 0+B*y.getD m 0)*B^(m-1)+dv B (y.take (m-1)):=by
 rw [dv_take_drop B y (m-1) (by omega),dv_drop B y (m-1) (by omega),show m-1+1=m by omega];have e:dv B (y.drop m)=y.getD m 0:=by
  rcases Nat.lt_or_ge m y.length with h | h
  ·rw [dv_drop B y m h,List.drop_eq_nil_of_le (by omega),dv_nil,Nat.mul_zero,Nat.add_zero]
  ·rw [List.drop_eq_nil_of_le h,getD_ge h,dv_nil]
 rw [e,Nat.mul_comm (B^(m-1))]
 omega
theorem guess {B:Nat} (hB:1<B) {y l:List Nat} {m:Nat} (hy:Norm B y) (hm:y.length=m) (hm0:0<m) (hl:Norm B l) (hM:dv B y≤dv B l) (hN:dv B l<B*dv B y) :
  m≤l.length∧l.length≤m+1∧0<y.getD (m-1) 0∧(l.getD (m-1) 0+B*l.getD m 0)/(y.getD (m-1) 0+1)≤dv B l/dv B y∧dv B l/dv B y≤(l.getD (m-1) 0+B*l.getD m 0+1)/y.getD (m-1) 0∧dv B l/dv B y<B:=by
 have hB0:0<B:=by omega
 have h1:m≤l.length:=by
  rcases Nat.lt_or_ge l.length m with h | h
  ·have:=Norm.lt_of_len hB0 hl.dig hy (by omega);omega
  ·exact h
 have hyl:=dv_lt hB0 hy.dig;rw [hm] at hyl;have h2:l.length≤m+1:=by
  refine hl.len_le hB0 (Nat.lt_trans hN ?_);rw [Nat.pow_succ,Nat.mul_comm]
  exact Nat.mul_lt_mul_of_pos_right hyl hB0
 have h3:0<y.getD (m-1) 0:=by
  rcases hy.trim with h | h
  ·rw [h] at hm;simp at hm;omega
  ·rwa [hm] at h
 have hp:0<B^(m-1):=Nat.pow_pos hB0;have ey:=dv_top (B:=B) hm0 (show m≤y.length by omega) (by omega);rw [getD_ge (show y.length≤m by omega),Nat.mul_zero,Nat.add_zero] at ey;have el:=dv_top (B:=B) hm0 h1 h2;have ty:=dv_lt hB0 (hy.dig.take (m-1));have tl:=dv_lt hB0 (hl.dig.take (m-1));rw [List.length_take,Nat.min_eq_left (by omega)] at ty tl;have h0:0<dv B y:=by
  have:=Nat.mul_pos h3 hp
  omega
 exact ⟨h1,h2,h3,guess_low h0 ey ty el tl,guess_high ey h3 hp el tl,Nat.div_lt_of_lt_mul (by rw [Nat.mul_comm];exact hN)⟩
theorem gcd_halves {a b:Nat} (ha:a%2=0) (hb:b%2=0):Nat.gcd a b=2*Nat.gcd (a/2) (b/2):=by
 have e1:a=2*(a/2):=by omega
 have e2:b=2*(b/2):=by omega
 conv=>lhs;rw [e1,e2]
 rw [Nat.gcd_mul_left]
theorem odd_of_dvd {d n:Nat} (h:d∣n) (hn:n%2=1):d%2=1:=by
 obtain ⟨c,rfl⟩:=h
 rcases Nat.mod_two_eq_zero_or_one d with h0 | h1
 ·rw [Nat.mul_mod,h0] at hn;simp at hn
 ·exact h1
theorem gcd_less {a b:Nat} (h:b≤a):Nat.gcd (a-b) b=Nat.gcd a b:=by
 obtain ⟨c,rfl⟩:∃ c,a=c+b:=⟨a-b,by omega⟩;rw [Nat.add_sub_cancel,Nat.gcd_add_self_left]
end Vn
