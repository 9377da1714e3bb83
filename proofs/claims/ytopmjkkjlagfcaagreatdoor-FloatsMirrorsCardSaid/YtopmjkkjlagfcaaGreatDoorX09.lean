/- Plain facts behind long division by words: how the digits are guessed. -/
import Derived.Test.YtopmjkkjlagfcaaGreatDoorX01
namespace Vn
set_option maxRecDepth 100000
set_option maxHeartbeats 8000000
structure Win (B M U V u0 top v1 v2 Q:Nat):Prop where
 hu:∃ ul,ul<M∧U=ul+M*(u0+B*top)
 hv:∃ vl,vl<M∧V=vl+M*(v2+B*v1)
 hu0:u0<B
 hv2:v2<B
 hv1:0<v1
 hM:0<M
 lo:Q*V≤U
 hi:U<(Q+1)*V
theorem Win.q2 {B M U V u0 top v1 v2 Q:Nat} (h:Win B M U V u0 top v1 v2 Q):Q*(v2+B*v1)≤u0+B*top:=by
 obtain ⟨ul,hul,hU⟩:=h.hu;obtain ⟨vl,hvl,hV⟩:=h.hv;have h1:M*(Q*(v2+B*v1))≤U:=by
  have:M*(Q*(v2+B*v1))≤Q*V:=by
   rw [hV]
   have:M*(Q*(v2+B*v1))=Q*(M*(v2+B*v1)):=by grind
   rw [this];exact Nat.mul_le_mul_left _ (Nat.le_add_left _ _)
  exact Nat.le_trans this h.lo
 have h2:M*(Q*(v2+B*v1))<M*(u0+B*top+1):=by
  rw [Nat.mul_succ];omega
 have:=Nat.lt_of_mul_lt_mul_left h2
 omega
theorem Win.q1 {B M U V u0 top v1 v2 Q:Nat} (h:Win B M U V u0 top v1 v2 Q):Q*v1≤top:=by
 have h1:=h.q2;have h2:B*(Q*v1)<B*(top+1):=by
  have:Q*(v2+B*v1)=Q*v2+B*(Q*v1):=by grind
  have:=h.hu0
  rw [Nat.mul_succ];omega
 have:=Nat.lt_of_mul_lt_mul_left h2
 omega
theorem Win.le1 {B M U V u0 top v1 v2 Q g:Nat} (h:Win B M U V u0 top v1 v2 Q) (hg:g<B) (ht:g*(v2+B*v1)≤u0+B*top):g≤Q+1:=by
 obtain ⟨ul,hul,hU⟩:=h.hu;obtain ⟨vl,hvl,hV⟩:=h.hv;have h1:g*V≤U+g*vl:=by
  have e1:g*V=g*vl+M*(g*(v2+B*v1)):=by rw [hV];grind
  have:=Nat.mul_le_mul_left M ht
  omega
 have h2:g*vl≤V:=by
  have a1:g*vl≤B*M:=Nat.mul_le_mul (by omega) (by omega);have a2:B*M≤M*(v2+B*v1):=by
   rw [Nat.mul_comm]
   apply Nat.mul_le_mul_left
   have:=Nat.mul_le_mul_left B h.hv1
   omega
  omega
 have h3:g*V<(Q+2)*V:=by
  have:=h.hi
  have e:(Q+2)*V=(Q+1)*V+V:=by grind
  omega
 have:=Nat.lt_of_mul_lt_mul_right h3
 omega
structure Guess (B M U V u0 top v1 v2 Q g ov:Nat):Prop where
 win:Win B M U V u0 top v1 v2 Q
 eq:g*v1+ov=top
 ge:Q≤g
theorem Guess.start {B M U V u0 top v1 v2 Q:Nat} (h:Win B M U V u0 top v1 v2 Q):Guess B M U V u0 top v1 v2 Q (top/v1) (top%v1) :=
 ⟨h,by rw [Nat.mul_comm];exact Nat.div_add_mod _ _,by rw [Nat.le_div_iff_mul_le h.hv1];exact h.q1⟩
theorem Guess.down {B M U V u0 top v1 v2 Q g ov:Nat} (h:Guess B M U V u0 top v1 v2 Q g ov) (hQ:Q<B) (ht:B≤g∨ov*B+u0<g*v2):0<g∧Guess B M U V u0 top v1 v2 Q (g-1) (ov+v1):=by
 have hlt:Q<g:=by
  rcases ht with ht | ht
  ·omega
  ·rcases Nat.lt_or_ge Q g with h1 | h1
   ·exact h1
   ·exfalso
    have hq:Q=g:=Nat.le_antisymm h.ge h1;have h2:=h.win.q2;rw [hq,←h.eq] at h2;have e1:g*(v2+B*v1)=g*v2+B*(g*v1):=by grind
    have e2:u0+B*(g*v1+ov)=u0+ov*B+B*(g*v1):=by grind
    omega
 refine ⟨by omega,h.win,?_,by omega⟩;obtain ⟨k,rfl⟩:∃ k,g=k+1:=⟨g-1,by omega⟩;rw [←h.eq,Nat.add_sub_cancel];grind
theorem Guess.stay {B M U V u0 top v1 v2 Q g ov:Nat} (h:Guess B M U V u0 top v1 v2 Q g ov) (hg:g<B) (ht:g*v2≤ov*B+u0):g≤Q+1:=by
 refine h.win.le1 hg ?_;rw [←h.eq];have e1:g*(v2+B*v1)=g*v2+B*(g*v1):=by grind
 have e2:u0+B*(g*v1+ov)=u0+ov*B+B*(g*v1):=by grind
 omega
theorem Guess.over {B M U V u0 top v1 v2 Q g ov:Nat} (h:Guess B M U V u0 top v1 v2 Q g ov) (ho:B≤ov) (htop:top<(v1+1)*B):g<B∧g≤Q+1:=by
 have hg:g<B:=by
  have h1:g*v1<B*v1:=by
   have:=h.eq
   have e:(v1+1)*B=B*v1+B:=by grind
   omega
  exact Nat.lt_of_mul_lt_mul_right h1
 refine ⟨hg,h.stay hg ?_⟩;have a1:g*v2≤B*B:=Nat.mul_le_mul (Nat.le_of_lt hg) (Nat.le_of_lt h.win.hv2);have a2:B*B≤ov*B:=Nat.mul_le_mul_right B ho
 omega
theorem Guess.first {B M U V u0 top v1 v2 Q:Nat} (_h:Win B M U V u0 top v1 v2 Q) (htop:top<(v1+1)*B) (hv:B≤2*v1):top/v1≤B+1:=by
 have h1:top/v1<B+2:=by
  apply Nat.div_lt_of_lt_mul
  have e:(v1+1)*B=v1*B+B:=by grind
  have e2:v1*(B+2)=v1*B+2*v1:=by grind
  omega
 omega
theorem zero_of_lt {B:Nat} {l:List Nat} {k:Nat} (hB:0<B) (h:dv B l<B^k):Zero l k:=by
 intro j hj
 rcases Nat.lt_or_ge j l.length with hl | hl
 ·rcases Nat.eq_zero_or_pos (l.getD j 0) with h0 | h0
  ·exact h0
  ·exfalso
   rw [dv_take_drop B l j (Nat.le_of_lt hl),dv_drop B l j hl] at h;have h1:B^k≤B^j:=Nat.pow_le_pow_right hB hj;have h2:B^j*1≤B^j*(l.getD j 0+B*dv B (l.drop (j+1))):=Nat.mul_le_mul_left _ (by omega)
   omega
 ·exact getD_ge hl
theorem dv_top2 (B:Nat) (l:List Nat) (k:Nat) (h:k+2=l.length):dv B l=dv B (l.take k)+B^k*(l.getD k 0+B*l.getD (k+1) 0):=by
 rw [dv_take_drop B l k (by omega),dv_drop B l k (by omega),dv_drop B l (k+1) (by omega),List.drop_eq_nil_of_le (by omega)]
 simp [dv]
theorem dv_top3 (B:Nat) (l:List Nat) (k:Nat) (h:k+2<l.length) (hz:Zero l (k+3)) :
  dv B l=dv B (l.take k)+B^k*(l.getD k 0+B*(l.getD (k+1) 0+B*l.getD (k+2) 0)):=by
 have hz':dv B (l.drop (k+3))=0:=by
  have e:l.drop (k+3)=List.replicate (l.length-(k+3)) 0:=by
   apply List.ext_getElem (by simp)
   intro i h1 h2
   have h1':k+3+i<l.length:=by simp at h1;omega
   have:=hz (k+3+i) (by omega)
   rw [List.getD_eq_getElem?_getD,List.getElem?_eq_getElem h1'] at this
   simpa using this
  rw [e,dv_replicate]
 rw [dv_take_drop B l k (by omega),dv_drop B l k (by omega),dv_drop B l (k+1) (by omega),dv_drop B l (k+2) (by omega),show k+2+1=k+3 by omega,hz']
 simp
theorem win_of {B:Nat} (hB:0<B) {u v:List Nat} {n j:Nat} (hu:Dig B u) (hv:Dig B v) (hn:v.length=n) (h2:2≤n) (hl:j+n<u.length) (hlt:dv B u<dv B v*B^(j+1)) (hv1:0<v.getD (n-1) 0) :
  Win B (B^(j+n-2)) (dv B u) (dv B v*B^j) (u.getD (j+n-2) 0) (u.getD (j+n-1) 0+B*u.getD (j+n) 0) (v.getD (n-1) 0) (v.getD (n-2) 0) (dv B u/(dv B v*B^j)) ∧
  dv B u/(dv B v*B^j)<B∧u.getD (j+n-1) 0+B*u.getD (j+n) 0<(v.getD (n-1) 0+1)*B:=by
 obtain ⟨k,rfl⟩:∃ k,n=k+2:=⟨n-2,by omega⟩;have ev:=dv_top2 B v k (by omega);simp only [show k+2-1=k+1 by omega,show k+2-2=k by omega,show j+(k+2)=j+k+2 by omega,show j+k+2-2=j+k by omega,show j+k+2-1=j+k+1 by omega] at *
 have hvlt:=dv_lt hB hv;rw [hn] at hvlt;have hzu:Zero u (j+k+3):=by
  apply zero_of_lt hB
  have:dv B v*B^(j+1)≤B^(k+2)*B^(j+1):=Nat.mul_le_mul_right _ (Nat.le_of_lt hvlt)
  rw [←Nat.pow_add,show k+2+(j+1)=j+k+3 by omega] at this
  omega
 have eu:=dv_top3 B u (j+k) (by omega) hzu;have tlt:∀ (l:List Nat) (m:Nat),Dig B l→m≤l.length→dv B (l.take m)<B^m:=by
  intro l m hl hm
  have:=dv_lt hB (hl.take m)
  simpa [Nat.min_eq_left hm] using this
 have hul:=tlt u (j+k) hu (by omega);have hvl:=tlt v k hv (by omega);have hM:0<B^(j+k):=Nat.pow_pos hB;have hMj:0<B^j:=Nat.pow_pos hB;have hV:dv B v*B^j=dv B (v.take k)*B^j+B^(j+k)*(v.getD k 0+B*v.getD (k+1) 0):=by
  rw [ev,Nat.pow_add];grind
 have hvpos:0<dv B v*B^j:=by
  rw [hV];have h1:0<B*v.getD (k+1) 0:=Nat.mul_pos hB hv1
  have:0<B^(j+k)*(v.getD k 0+B*v.getD (k+1) 0):=Nat.mul_pos hM (by omega)
  omega
 have hQ:dv B u/(dv B v*B^j)<B:=by
  apply Nat.div_lt_of_lt_mul
  have:dv B v*B^(j+1)=dv B v*B^j*B:=by rw [Nat.pow_succ,Nat.mul_assoc]
  omega
 refine ⟨⟨⟨_,hul,eu⟩,⟨dv B (v.take k)*B^j,?_,hV⟩,hu.get hB _,hv.get hB _,hv1,hM,Nat.div_mul_le_self _ _,?_⟩,hQ,?_⟩
 ·rw [Nat.pow_add,Nat.mul_comm]
  exact Nat.mul_lt_mul_of_pos_left hvl hMj
 ·have:=Nat.lt_div_mul_add (a:=dv B u) hvpos
  rw [Nat.succ_mul];exact this
 ·have h1:B^(j+k)*(B*(u.getD (j+k+1) 0+B*u.getD (j+k+2) 0))<B^(j+k)*(B*((v.getD (k+1) 0+1)*B)):=by
   have a1:B^(j+k)*(B*(u.getD (j+k+1) 0+B*u.getD (j+k+2) 0))≤dv B u:=by
    rw [eu]
    have:B^(j+k)*(B*(u.getD (j+k+1) 0+B*u.getD (j+k+2) 0))≤B^(j+k)*(u.getD (j+k) 0+B*(u.getD (j+k+1) 0+B*u.getD (j+k+2) 0)):=Nat.mul_le_mul_left _ (Nat.le_add_left _ _)
    omega
   have a2:dv B v*B^(j+1)≤B^(j+k)*(B*((v.getD (k+1) 0+1)*B)):=by
    have b1:dv B v≤B^k*(B*(v.getD (k+1) 0+1)):=by
     rw [ev];have c1:dv B (v.take k)+B^k*v.getD k 0≤B^k*B:=by
      have:v.getD k 0+1≤B:=hv.get hB _
      have:=Nat.mul_le_mul_left (B^k) this
      rw [Nat.mul_succ] at this
      omega
     grind
    have:=Nat.mul_le_mul_right (B^(j+1)) b1
    have e:B^k*(B*(v.getD (k+1) 0+1))*B^(j+1)=B^(j+k)*(B*((v.getD (k+1) 0+1)*B)):=by
     rw [Nat.pow_add,Nat.pow_succ];grind
    rw [e] at this
    exact this
   omega
  have h2:=Nat.lt_of_mul_lt_mul_left h1
  exact Nat.lt_of_mul_lt_mul_left h2
theorem dv_top1 (B:Nat) (l:List Nat) (k:Nat) (h:k+1=l.length):dv B l=dv B (l.take k)+B^k*l.getD k 0:=by
 rw [dv_take_drop B l k (by omega),dv_drop B l k (by omega),List.drop_eq_nil_of_le (by omega)]
 simp [dv]
theorem norm_shift {y v:List Nat} {m L d:Nat} (hy:Norm 4294967296 y) (hm:y.length=m) (h1:1≤m) (hd:d=y.getD (m-1) 0) (hL:L<32) (h31:2147483648≤d*2^L) (h32:d*2^L<4294967296)
  (hv:Norm 4294967296 v) (e:dv 4294967296 v=dv 4294967296 y*2^L):v.length=m∧2147483648≤v.getD (m-1) 0:=by
 obtain ⟨k,rfl⟩:∃ k,m=k+1:=⟨m-1,by omega⟩;simp only [Nat.add_sub_cancel] at *
 have ey:=dv_top1 4294967296 y k (by omega);rw [←hd] at ey;have hlow:dv 4294967296 (y.take k)<4294967296^k:=by
  have:=dv_lt (B:=4294967296) (by decide) (hy.dig.take k)
  simpa [Nat.min_eq_left (show k≤y.length by omega)] using this
 have hQ:4294967296=2^L*2^(32-L):=by rw [←Nat.pow_add,show L+(32-L)=32 by omega]
 have hd1:(d+1)*2^L≤4294967296:=by
  have:d<2^(32-L):=by
   apply Nat.lt_of_mul_lt_mul_left (a:=2^L)
   rw [←hQ,Nat.mul_comm];exact h32
  have:=Nat.mul_le_mul_left (2^L) (Nat.succ_le_of_lt this)
  rw [←hQ,Nat.mul_comm] at this
  exact this
 have hP:0<4294967296^k:=Nat.pow_pos (by decide);have hup:dv 4294967296 v<4294967296^(k+1):=by
  rw [e,Nat.pow_succ];have h2:dv 4294967296 y<4294967296^k*(d+1):=by rw [ey,Nat.mul_succ];omega
  have h3:dv 4294967296 y*2^L<4294967296^k*(d+1)*2^L:=Nat.mul_lt_mul_of_pos_right h2 (Nat.pow_pos (by decide));have h4:4294967296^k*(d+1)*2^L≤4294967296^k*4294967296:=by rw [Nat.mul_assoc];exact Nat.mul_le_mul_left _ hd1
  omega
 have hlo:4294967296^k*2147483648≤dv 4294967296 v:=by
  rw [e,ey];have h2:4294967296^k*2147483648≤4294967296^k*(d*2^L):=Nat.mul_le_mul_left _ h31;have h3:(dv 4294967296 (y.take k)+4294967296^k*d)*2^L=dv 4294967296 (y.take k)*2^L+4294967296^k*(d*2^L):=by grind
  omega
 have l1:v.length≤k+1:=hv.len_le (by decide) hup;have l2:k<v.length:=by
  rcases Nat.lt_or_ge k v.length with h | h
  ·exact h
  ·have h5:=dv_lt (B:=4294967296) (by decide) hv.dig;have h6:4294967296^v.length≤4294967296^k:=Nat.pow_le_pow_right (by decide) h
   have:4294967296^k*1≤4294967296^k*2147483648:=Nat.mul_le_mul_left _ (by decide)
   omega
 refine ⟨by omega,?_⟩;have ev:=dv_top1 4294967296 v k (by omega);have hvl:dv 4294967296 (v.take k)<4294967296^k:=by
  have:=dv_lt (B:=4294967296) (by decide) (hv.dig.take k)
  simpa [Nat.min_eq_left (show k≤v.length by omega)] using this
 have h7:4294967296^k*2147483648<4294967296^k*(v.getD k 0+1):=by rw [Nat.mul_add (4294967296^k) (v.getD k 0) 1,Nat.mul_one];omega
 have:=Nat.lt_of_mul_lt_mul_left h7
 omega
theorem kn_start {v:List Nat} {n m M L:Nat} (hM:M<4294967296^n) (hL:L<32) (hm:v.length=m) (h1:1≤m) (hmn:m≤n) (h31:2147483648≤v.getD (m-1) 0):M*2^L<dv 4294967296 v*4294967296^(n-m+1):=by
 obtain ⟨k,rfl⟩:∃ k,m=k+1:=⟨m-1,by omega⟩;simp only [Nat.add_sub_cancel] at *
 have ev:=dv_top1 4294967296 v k (by omega);have h2:4294967296^k*2147483648≤dv 4294967296 v:=by
  rw [ev]
  have:=Nat.mul_le_mul_left (4294967296^k) h31
  omega
 have h3:2^L≤2147483648:=by
  have:2^L≤2^31:=Nat.pow_le_pow_right (by decide) (by omega)
  exact this
 have h4:M*2^L<4294967296^n*2147483648:=Nat.mul_lt_mul_of_lt_of_le hM h3 (by decide);have h5:=Nat.mul_le_mul_right (4294967296^(n-(k+1)+1)) h2;have h6:4294967296^k*2147483648*4294967296^(n-(k+1)+1)=4294967296^n*2147483648:=by
  have:4294967296^k*2147483648*4294967296^(n-(k+1)+1)=4294967296^k*4294967296^(n-(k+1)+1)*2147483648:=by grind
  rw [this,←Nat.pow_add,show k+(n-(k+1)+1)=n by omega]
 omega
theorem div_step {B D V q Q j:Nat} {u':Nat} (hQ:Q=D/(V*B^j)) (hV:0<V*B^j) (h:u'+Q*V*B^j=D) (_hq:q=Q):u'<V*B^j:=by
 have h1:u'=D%(V*B^j):=by
  have:=Nat.div_add_mod D (V*B^j)
  rw [←hQ,Nat.mul_comm] at this;rw [Nat.mul_assoc] at h
  omega
 rw [h1];exact Nat.mod_lt _ hV
end Vn
