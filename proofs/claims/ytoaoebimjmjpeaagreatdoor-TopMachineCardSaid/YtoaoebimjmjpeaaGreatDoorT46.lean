/- The reference's natural numbers: divided, the state of its rounds. -/
import Derived.Laws.OwnMore
import Derived.Test.YtoaoebimjmjpeaaGreatDoorT24
import Derived.Test.YtoaoebimjmjpeaaGreatDoorT15
namespace Go.Proofs.YtoaoebimjmjpeaaGreatDoor
open Go.RowKit Vn
set_option maxRecDepth 100000
set_option maxHeartbeats 8000000
def Fresh (w0:World) (N:Nat) (g k cp:Nat) (wx:World):Prop:=w0.heap.size≤g∧Ext w0 wx∧k≤cp∧cp≤maxLen ∧
 ∃ l cur,Norm 1000000000 l∧dv 1000000000 l=N∧l.length=k∧wx.heap[g]?=some (.cells cur 2 (0,0))∧∀ i,i<k→cur[i]?=some (.int .i64 (l.getD i 0:Nat))
theorem Fresh.ext {w0 wx w':World} {N g k cp:Nat} (h:Fresh w0 N g k cp wx) (k':Ext wx w'):Fresh w0 N g k cp w':=by
 obtain ⟨h1,h2,h3,h4,l,cur,h5,h6,h7,h8,h9⟩:=h
 exact ⟨h1,h2.trans k',h3,h4,l,cur,h5,h6,h7,k'.heap h8,h9⟩
theorem Fresh.cell {w0 wx:World} {N g k cp:Nat} (h:Fresh w0 N g k cp wx):∃ l,Norm 1000000000 l∧dv 1000000000 l=N∧l.length=k∧∀ i,i<k→wx.cell? ⟨g,i,none⟩=some (.int .i64 (l.getD i 0:Nat)):=by
 obtain ⟨h1,h2,h3,h4,l,cur,h5,h6,h7,h8,h9⟩:=h
 exact ⟨l,h5,h6,h7,fun i hi=>by simp [World.cell?,h8,h9 i hi]⟩
theorem Fresh.setCell {w0 wx:World} {N g k cp b i:Nat} (h:Fresh w0 N g k cp wx) (hb:b<w0.heap.size) (x:Value):RefV (wx.setCell ⟨b,i,none⟩ x) (.slice (some ⟨g,0,none⟩) k cp) N:=by
 obtain ⟨h1,h2,h3,h4,l,cur,h5,h6,h7,h8,h9⟩:=h;refine ⟨l,h5,h6,?_⟩;subst h7;refine ⟨some ⟨g,0,none⟩,g,0,cp,rfl,h3,h4,fun _=>rfl,cur,(0,0),fun _ => ?_,fun j hj=>by rw [Nat.zero_add];exact h9 j hj⟩;rw [Below.heap_setCell _ _ _ _ (show g≠(⟨b,i,none⟩:Addr).block from by show g≠b;omega)]
 exact h8
structure DivRel (x:List Nat) (n M:Nat) (w:World) (k R:Nat) (o:List Nat) (wr:World):Prop where
 hk:k≤n
 hr:R<M
 val:dv 1000000000 (x.drop k)=dv 1000000000 (o.drop k)*M+R
 low:∀ i,i<k→o.getD i 0=0
 own:ROwn w wr w.heap.size o n
theorem DivRel.stay {x:List Nat} {n M:Nat} {w:World} {j R:Nat} {o:List Nat} {wr w':World} (h:DivRel x n M w (j+1) R o wr) (hE:Ext wr w') (hn:x.length=n) {d:Nat} (hd:d=x.getD j 0) (hlt:d+1000000000*R<M) :
  DivRel x n M w j (d+1000000000*R) o w':=by
 have hk:=h.hk;have hl:j<o.length:=by rw [h.own.len];omega
 refine ⟨by omega,hlt,?_,fun i hi=>h.low i (by omega),h.own.ext' hE⟩;rw [dv_drop _ x j (by omega),←hd,dv_drop _ o j hl,h.low j (by omega),h.val,Nat.zero_add,Nat.mul_add,Nat.mul_assoc]
 omega
theorem DivRel.step {x:List Nat} {n M:Nat} {w:World} {j R:Nat} {o:List Nat} {wr w':World} (h:DivRel x n M w (j+1) R o wr) (hE:Ext wr w') (hn:x.length=n) {d:Nat} (hd:d=x.getD j 0) (hd':d<1000000000) (e:Int) (he:e=(((d+1000000000*R)/M:Nat):Int)) :
  DivRel x n M w j ((d+1000000000*R)%M) (o.set j ((d+1000000000*R)/M)) (w'.setCell ⟨w.heap.size,j,none⟩ (.int .i64 e)):=by
 have hk:=h.hk;have hr:=h.hr;have hl:j<o.length:=by rw [h.own.len];omega
 have hq:(d+1000000000*R)/M<1000000000:=by
  apply Nat.div_lt_of_lt_mul
  have:1000000000*(R+1)≤1000000000*M:=Nat.mul_le_mul_left _ hr
  rw [Nat.mul_comm M]
  omega
 refine ⟨by omega,Nat.mod_lt _ (by omega),?_,fun i hi => ?_,(h.own.ext' hE).set (Nat.le_refl _) j _ e he hq⟩
 ·rw [dv_drop _ x j (by omega),←hd,rdrop_set_self _ _ _ hl,dv_cons,h.val]
  have:=Nat.div_add_mod (d+1000000000*R) M
  generalize (d+1000000000*R)/M=q at *
  generalize (d+1000000000*R)%M=s at *
  generalize dv 1000000000 (o.drop (j+1))=D at *
  grind
 ·rw [getD_set _ _ _ _ hl,if_neg (by omega)]
  exact h.low i (by omega)
theorem DivRel.ext {x:List Nat} {n M:Nat} {w:World} {k R:Nat} {o:List Nat} {wr w':World} (h:DivRel x n M w k R o wr) (hE:Ext wr w'):DivRel x n M w k R o w' :=
 ⟨h.hk,h.hr,h.val,h.low,h.own.ext' hE⟩
section
variable {P:Program}
end

structure DvA (A B x y t:Nat):Prop where
 x0:0<x
 y0:0<y
 g:Nat.gcd A B=2^t*Nat.gcd x y
 xa:x*2^t≤A
 yb:y≤B
theorem DvA.step {A B x y t:Nat} (h:DvA A B x y t) (hx:x%2=0) (hy:y%2=0):DvA A B (x/2) (y/2) (t+1):=by
 have h1:=h.x0;have h2:=h.y0;have h3:=h.yb;refine ⟨by omega,by omega,?_,?_,by omega⟩
 ·rw [h.g,gcd_halves hx hy,Nat.pow_succ,Nat.mul_assoc]
 ·have h4:=h.xa;have h5:x/2*2*2^t≤x*2^t:=Nat.mul_le_mul_right _ (by omega);rw [Nat.pow_succ',←Nat.mul_assoc];omega
structure DvB (K G x y:Nat):Prop where
 y0:0<y
 g:Nat.gcd x y=G
 xk:x<2^K
 yk:y<2^K
 odd:G%2=1
theorem DvB.less {K G x y:Nat} (h:DvB K G x y) (hle:y≤x):DvB K G (x-y) y:=by
 have h1:=h.xk
 exact ⟨h.y0,by rw [gcd_less hle,h.g],by omega,h.yk,h.odd⟩
theorem DvB.one {K G x:Nat} (h:DvB K G x 1):1=G:=by rw [←h.g];exact (Nat.gcd_one_right x).symm
theorem DvA.to {A B x y t K:Nat} (h:DvA A B x y t) (ho:x%2=1∨y%2=1) (hA:A<2^K) (hB:B<2^K):DvB K (Nat.gcd x y) x y:=by
 have h1:=h.yb;have h2:=h.xa;have h3:x*1≤x*2^t:=Nat.mul_le_mul_left _ (Nat.pow_pos (by decide));refine ⟨h.y0,rfl,by omega,by omega,?_⟩
 rcases ho with h4 | h4
 ·exact odd_of_dvd (Nat.gcd_dvd_left _ _) h4
 ·exact odd_of_dvd (Nat.gcd_dvd_right _ _) h4
theorem RefV.n1 {w:World} {a:Option Addr} {n c:Nat} (h:RefV w (.slice a n c) 1):n=1:=by
 have h0:=h.len0;obtain ⟨a',b,off,n',cap,l,h1,_,_,h4,_,h6,h7,_,_⟩:=h.open;obtain ⟨rfl,rfl,rfl⟩:a=a'∧n=n'∧c=cap:=by simpa using h1
 have h8:l.length≤1:=rlen_le h6.o (by rw [h7.o];decide);have h9:=h4.o
 omega

theorem sgn3 (q:Rat):q.num.sign=1∨q.num.sign = -1∨q.num.sign=0:=by
 rcases Int.lt_trichotomy q.num 0 with h | h | h
 ·exact .inr (.inl (Int.sign_eq_neg_one_of_neg h))
 ·exact .inr (.inr (by rw [h];rfl))
 ·exact .inl (Int.sign_eq_one_of_pos h)
theorem RNumV.same {w:World} {v:Value} {q r:Rat} (h:RNumV w v q) (e:q=r):RNumV w v r:=e ▸ h
theorem RNumV.neg {w:World} {s:Int} {a:Option Addr} {n c:Nat} {a':Option Addr} {n' c':Nat} {q:Rat} (h:RNumV w (.agg #[.int .i64 s,.slice a n c,.slice a' n' c']) q):RNumV w (.agg #[.int .i64 (-s),.slice a n c,.slice a' n' c']) (-q):=by
 refine ⟨a,n,c,a',n',c',?_,?_,?_⟩
 ·rw [h.sign,Rat.neg_num,Int.sign_neg]
 ·rw [Rat.neg_num,Int.natAbs_neg];exact h.top
 ·have:=h.den
  by_cases h0:q=0
  ·subst h0;rw [if_pos rfl] at this;rw [if_pos (by simp)];exact this
  ·rw [if_neg h0] at this;rw [if_neg (fun e=>h0 (by have:=congrArg (- ·) e;simpa using this)),Rat.neg_den];exact this
theorem RNumV.abs {w:World} {s:Int} {a:Option Addr} {n c:Nat} {a':Option Addr} {n' c':Nat} {q:Rat} (h:RNumV w (.agg #[.int .i64 s,.slice a n c,.slice a' n' c']) q):RNumV w (.agg #[.int .i64 (s*s),.slice a n c,.slice a' n' c']) (absQ q):=by
 rcases Int.lt_or_le q.num 0 with h0 | h0
 ·have e:absQ q = -q:=by rw [absQ_eq,if_pos h0]
  have hs:s = -1:=by rw [h.sign];exact Int.sign_eq_neg_one_of_neg h0
  rw [e]
  have:=h.neg
  rw [hs] at this ⊢
  exact this
 ·have e:absQ q=q:=by rw [absQ_eq,if_neg (by omega)]
  rw [e]
  rcases sgn3 q with k | k | k
  ·rw [h.sign,k];have h2:=h;rw [h.sign,k] at h2;exact h2
  ·have h4:=Int.sign_eq_neg_one_iff_neg.1 k;omega
  ·rw [h.sign,k];have h2:=h;rw [h.sign,k] at h2;exact h2



end Go.Proofs.YtoaoebimjmjpeaaGreatDoor
