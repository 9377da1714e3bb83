/- Plain facts behind the reference's natural numbers: what makes a list of digits normal, sums and differences digit by digit, a digit of a quotient by halves, divisors by halves. -/
import Derived.Test.YtopmjkkjlagfcaaGreatDoorO01
namespace Vn
set_option maxRecDepth 100000
set_option maxHeartbeats 8000000
theorem Norm.of_ge {B:Nat} (hB:0<B) {l:List Nat} (h:Dig B l) (hv:l≠[]→B^(l.length-1)≤dv B l):Norm B l:=by
 refine ⟨h,?_⟩
 by_cases hl:l=[]
 ·exact .inl hl
 ·right
  have hlen:0<l.length:=List.length_pos_iff.2 hl
  rcases Nat.eq_zero_or_pos (l.getD (l.length-1) 0) with h0 | h0
  ·exfalso
   have h1:=hv hl;have h2:dv B (l.take (l.length-1))=dv B l:=dv_take_zeros (by omega) (fun k a b=>by
    obtain rfl:k=l.length-1:=by omega
    exact h0)
   have h3:=dv_lt hB (h.take (l.length-1));rw [h2,List.length_take,Nat.min_eq_left (by omega)] at h3
   omega
  ·exact h0
theorem dv_snoc (B:Nat) (o:List Nat) (s:Nat):dv B (o++[s])=dv B o+s*B^o.length:=by
 rw [dv_append,dv_cons,dv_nil,Nat.mul_comm];simp
structure SumR (B:Nat) (x y:List Nat) (k q:Nat) (o:List Nat):Prop where
 len:o.length=k
 dig:Dig B o
 hq:q≤1
 val:dv B o+B^k*q=dv B (x.take k)+dv B (y.take k)
 hk:k≤max x.length y.length∨(k=max x.length y.length+1∧q=0∧B^(max x.length y.length)≤dv B o)
theorem SumR.start (B:Nat) (x y:List Nat):SumR B x y 0 0 []:=⟨rfl,Dig.nil,by omega,by simp [dv],.inl (Nat.zero_le _)⟩
theorem SumR.step {B:Nat} (hB:2<B) {x y:List Nat} {k q:Nat} {o:List Nat} (h:SumR B x y k q o) (hx:Dig B x) (hy:Dig B y) (hc:k<max x.length y.length∨0<q) :
  SumR B x y (k+1) ((q+x.getD k 0+y.getD k 0)/B) (o++[(q+x.getD k 0+y.getD k 0)%B]):=by
 have hd:=hx.get (by omega) k;have hf:=hy.get (by omega) k;have hq:=h.hq;have hlen:=h.len;have hkk:=h.hk;have hm:=Nat.mod_add_div (q+x.getD k 0+y.getD k 0) B;have hq':(q+x.getD k 0+y.getD k 0)/B≤1:=by
  have:(q+x.getD k 0+y.getD k 0)/B<2:=Nat.div_lt_of_lt_mul (by omega)
  omega
 refine ⟨by simp [hlen],h.dig.append (Dig.mk (Nat.mod_lt _ (by omega)) Dig.nil),hq',?_,?_⟩
 ·rw [dv_snoc,hlen,dv_take_succ',dv_take_succ']
  exact add_step h.val hm.symm
 ·rcases Nat.lt_or_ge k (max x.length y.length) with hlt | hge
  ·exact .inl hlt
  ·right
   have h1:0<q:=by omega
   have h2:k=max x.length y.length:=by
    rcases hkk with h3 | ⟨_,h4,_⟩
    ·omega
    ·omega
   have hx0:x.getD k 0=0:=getD_ge (by omega);have hy0:y.getD k 0=0:=getD_ge (by omega);have hq1:q=1:=by omega
   rw [hx0,hy0,hq1];refine ⟨by omega,Nat.div_eq_of_lt (by omega),?_⟩;rw [dv_snoc,hlen,Nat.mod_eq_of_lt (by omega),←h2]
   omega
theorem SumR.finish {B:Nat} (hB:2<B) {x y:List Nat} {k:Nat} {o:List Nat} (h:SumR B x y k 0 o) (hx:Norm B x) (hy:Norm B y) (hk:max x.length y.length≤k):Norm B o∧dv B o=dv B x+dv B y:=by
 have hv:=h.val;rw [List.take_of_length_le (by omega),List.take_of_length_le (by omega),Nat.mul_zero,Nat.add_zero] at hv;refine ⟨Norm.of_ge (by omega) h.dig (fun hne => ?_),hv⟩;have hlen:=h.len;have hpos:0<o.length:=List.length_pos_iff.2 hne
 rcases h.hk with h1 | ⟨h1,_,h3⟩
 ·have hkm:k=max x.length y.length:=by omega
  rw [hlen,hv,hkm]
  rcases Nat.le_total x.length y.length with hle | hle
  ·have:=Trim.pos (B:=B) (by omega) hy.trim (by intro e;subst e;simp at hle;simp [hle] at hkm;omega)
   rw [Nat.max_eq_right hle];omega
  ·have:=Trim.pos (B:=B) (by omega) hx.trim (by intro e;subst e;simp at hle;simp [hle] at hkm;omega)
   rw [Nat.max_eq_left hle];omega
 ·rw [hlen,h1]
  exact h3
theorem SumR.last {B:Nat} {x y:List Nat} {k q:Nat} {o:List Nat} (h:SumR B x y k q o):k≤max x.length y.length+1:=by
 rcases h.hk with h1 | ⟨h1,_⟩<;>omega
structure DifR (B:Nat) (x y:List Nat) (k q:Nat) (o:List Nat):Prop where
 hk:k≤x.length
 len:o.length=k
 dig:Dig B o
 hq:q≤1
 val:dv B o+dv B (y.take k)=dv B (x.take k)+B^k*q
theorem DifR.start (B:Nat) (x y:List Nat):DifR B x y 0 0 []:=⟨Nat.zero_le _,rfl,Dig.nil,by omega,by simp [dv]⟩
theorem DifR.stay {B:Nat} {x y:List Nat} {k q:Nat} {o:List Nat} (h:DifR B x y k q o) (hk:k<x.length) (hx:Dig B x) (hB:0<B) (hc:q+y.getD k 0≤x.getD k 0) :
  DifR B x y (k+1) 0 (o++[x.getD k 0-(q+y.getD k 0)]):=by
 have hd:=hx.get hB k;have hlen:=h.len;refine ⟨hk,by simp [hlen],h.dig.append (Dig.mk (by omega) Dig.nil),by omega,?_⟩;rw [dv_snoc,hlen,dv_take_succ',dv_take_succ']
 exact dif_step h.val (by omega)
theorem DifR.lend {B:Nat} {x y:List Nat} {k q:Nat} {o:List Nat} (h:DifR B x y k q o) (hk:k<x.length) (hy:Dig B y) (hB:0<B) (hc:x.getD k 0<q+y.getD k 0) :
  DifR B x y (k+1) 1 (o++[x.getD k 0+B-(q+y.getD k 0)]):=by
 have hf:=hy.get hB k;have hq:=h.hq;have hlen:=h.len;refine ⟨hk,by simp [hlen],h.dig.append (Dig.mk (by omega) Dig.nil),by omega,?_⟩;rw [dv_snoc,hlen,dv_take_succ',dv_take_succ']
 exact dif_step h.val (by omega)
theorem DifR.finish {B:Nat} {x y:List Nat} {k q:Nat} {o:List Nat} (h:DifR B x y k q o) (hB:0<B) (hk:k=x.length) (hl:y.length≤x.length) (hle:dv B y≤dv B x):dv B o=dv B x-dv B y:=by
 have hv:=h.val;rw [List.take_of_length_le (by omega),List.take_of_length_le (by omega)] at hv;have hlt:=dv_lt hB h.dig;rw [h.len] at hlt;have hq:=h.hq
 rcases (show q=0∨q=1 by omega) with rfl | rfl<;>omega
theorem guess_low {p t u x y b r:Nat} (h0:0<b) (hb:b=u*p+t) (ht:t<p) (hr:r=x*p+y) (_hy:y<p):x/(u+1)≤r/b:=by
 rw [Nat.le_div_iff_mul_le h0];have h1:x/(u+1)*(u+1)≤x:=Nat.div_mul_le_self _ _;have h2:x/(u+1)*b≤x/(u+1)*((u+1)*p):=Nat.mul_le_mul_left _ (by rw [Nat.add_mul];omega);have h3:x/(u+1)*((u+1)*p)≤x*p:=by rw [←Nat.mul_assoc];exact Nat.mul_le_mul_right _ h1
 omega
theorem guess_high {p t u x y b r:Nat} (hb:b=u*p+t) (hu:0<u) (hp:0<p) (hr:r=x*p+y) (hy:y<p):r/b≤(x+1)/u:=by
 have h0:0<b:=by have:=Nat.mul_pos hu hp;omega
 rw [Nat.le_div_iff_mul_le hu];have h1:r/b*b≤r:=Nat.div_mul_le_self _ _;have h2:r/b*(u*p)≤r/b*b:=Nat.mul_le_mul_left _ (by omega);have h3:r/b*u*p<(x+1)*p:=by rw [Nat.mul_assoc,Nat.add_mul];omega
 have:=Nat.lt_of_mul_lt_mul_right h3
 omega
theorem dv_top {B:Nat} {y:List Nat} {m:Nat} (hm0:0<m) (hm:m≤y.length) (h1:y.length≤m+1):dv B y=(y.getD (m-1) 0+B*y.getD m 0)*B^(m-1)+dv B (y.take (m-1)):=by
 rw [dv_take_drop B y (m-1) (by omega),dv_drop B y (m-1) (by omega),show m-1+1=m by omega];have e:dv B (y.drop m)=y.getD m 0:=by
  rcases Nat.lt_or_ge m y.length with h | h
  ·rw [dv_drop B y m h,List.drop_eq_nil_of_le (by omega),dv_nil,Nat.mul_zero,Nat.add_zero]
  ·rw [List.drop_eq_nil_of_le h,getD_ge h,dv_nil]
 rw [e,Nat.mul_comm (B^(m-1))]
 omega
theorem guess {B:Nat} (hB:1<B) {y l:List Nat} {m:Nat} (hy:Norm B y) (hm:y.length=m) (hm0:0<m) (hl:Norm B l) (hM:dv B y≤dv B l) (hN:dv B l<B*dv B y) :
  m≤l.length∧l.length≤m+1∧0<y.getD (m-1) 0∧(l.getD (m-1) 0+B*l.getD m 0)/(y.getD (m-1) 0+1)≤dv B l/dv B y∧dv B l/dv B y≤(l.getD (m-1) 0+B*l.getD m 0+1)/y.getD (m-1) 0∧dv B l/dv B y<B:=by
 have hB0:0<B:=by omega
 have h1:m≤l.length:=by
  rcases Nat.lt_or_ge l.length m with h | h
  ·have:=Norm.lt_of_len hB0 hl.dig hy (by omega);omega
  ·exact h
 have hyl:=dv_lt hB0 hy.dig;rw [hm] at hyl;have h2:l.length≤m+1:=by
  refine hl.len_le hB0 (Nat.lt_trans hN ?_);rw [Nat.pow_succ,Nat.mul_comm]
  exact Nat.mul_lt_mul_of_pos_right hyl hB0
 have h3:0<y.getD (m-1) 0:=by
  rcases hy.trim with h | h
  ·rw [h] at hm;simp at hm;omega
  ·rwa [hm] at h
 have hp:0<B^(m-1):=Nat.pow_pos hB0;have ey:=dv_top (B:=B) hm0 (show m≤y.length by omega) (by omega);rw [getD_ge (show y.length≤m by omega),Nat.mul_zero,Nat.add_zero] at ey;have el:=dv_top (B:=B) hm0 h1 h2;have ty:=dv_lt hB0 (hy.dig.take (m-1));have tl:=dv_lt hB0 (hl.dig.take (m-1));rw [List.length_take,Nat.min_eq_left (by omega)] at ty tl;have h0:0<dv B y:=by
  have:=Nat.mul_pos h3 hp
  omega
 exact ⟨h1,h2,h3,guess_low h0 ey ty el tl,guess_high ey h3 hp el tl,Nat.div_lt_of_lt_mul (by rw [Nat.mul_comm];exact hN)⟩
theorem gcd_halves {a b:Nat} (ha:a%2=0) (hb:b%2=0):Nat.gcd a b=2*Nat.gcd (a/2) (b/2):=by
 have e1:a=2*(a/2):=by omega
 have e2:b=2*(b/2):=by omega
 conv=>lhs;rw [e1,e2]
 rw [Nat.gcd_mul_left]
theorem odd_of_dvd {d n:Nat} (h:d∣n) (hn:n%2=1):d%2=1:=by
 obtain ⟨c,rfl⟩:=h
 rcases Nat.mod_two_eq_zero_or_one d with h0 | h1
 ·rw [Nat.mul_mod,h0] at hn;simp at hn
 ·exact h1
theorem gcd_half_odd {a b:Nat} (ha:a%2=0) (hb:Nat.gcd a b%2=1):Nat.gcd (a/2) b=Nat.gcd a b:=by
 have e1:a=2*(a/2):=by omega
 apply Nat.dvd_antisymm
 ·exact Nat.dvd_gcd (Nat.dvd_trans (Nat.gcd_dvd_left _ _) ⟨2,by omega⟩) (Nat.gcd_dvd_right _ _)
 ·refine Nat.dvd_gcd ?_ (Nat.gcd_dvd_right _ _);have hc:Nat.Coprime (Nat.gcd a b) 2:=by
   have h2:Nat.gcd (Nat.gcd a b) 2∣2:=Nat.gcd_dvd_right _ _;have h3:Nat.gcd (Nat.gcd a b) 2%2=1:=odd_of_dvd (Nat.gcd_dvd_left _ _) hb;have h4:Nat.gcd (Nat.gcd a b) 2≤2:=Nat.le_of_dvd (by decide) h2;unfold Nat.Coprime
   omega
  exact hc.dvd_of_dvd_mul_left (by rw [←e1];exact Nat.gcd_dvd_left _ _)
theorem gcd_less {a b:Nat} (h:b≤a):Nat.gcd (a-b) b=Nat.gcd a b:=by
 obtain ⟨c,rfl⟩:∃ c,a=c+b:=⟨a-b,by omega⟩;rw [Nat.add_sub_cancel,Nat.gcd_add_self_left]
end Vn
