/- The reference's natural numbers, digits to the base 10^9 in words of 64 bits: how a slice reads as one; trim returns what it is named for. -/
import Derived.Laws.AppendOwn
import Derived.Maps.AppendAt
import Derived.Laws.MakeOwn
import Derived.Test.YtoaoebimjmjpeaaGreatDoorT03
namespace Go.Proofs.YtoaoebimjmjpeaaGreatDoor
open Go.RowKit Vn
set_option maxRecDepth 100000
set_option maxHeartbeats 8000000
def RefV (w:World) (v:Value) (n:Nat):Prop:=∃ l,Norm 1000000000 l∧dv 1000000000 l=n∧SlAt 2 .i64 w v l
theorem RefV.ext {w w':World} {v:Value} {n:Nat} (h:RefV w v n) (hb:Ext w w'):RefV w' v n:=by
 obtain ⟨l,h1,h2,h3⟩:=h;exact ⟨l,h1,h2,h3.ext hb⟩
theorem RefV.nil (w:World):RefV w (.slice none 0 0) 0:=⟨[],Norm.nil,rfl,SlAt.nil _ _ _⟩
abbrev RCells (w:World) (b off n:Nat) (l:List Nat):Prop:=Hid (∀ i,i<n→w.cell? ⟨b,off+i,none⟩=some (.int .i64 (l.getD i 0:Nat)))
theorem RefV.open {w:World} {v:Value} {N:Nat} (h:RefV w v N):∃ (a:Option Addr) (b off n cap:Nat) (l:List Nat),v=.slice a n cap∧n≤cap∧cap≤maxLen∧Hid (l.length=n) ∧
  Hid (0<n→a=some ⟨b,off,none⟩)∧Hid (Norm 1000000000 l)∧Hid (dv 1000000000 l=N)∧RCells w b off n l∧Hid (SlAt 2 .i64 w v l):=by
 obtain ⟨l,h1,h2,h3⟩:=h;obtain ⟨a,b,off,cap,h4,h5,h6,h7,h8⟩:=h3.open
 exact ⟨a,b,off,l.length,cap,l,h4,h5,h6,hid rfl,hid h7,hid h1,hid h2,hid h8,hid h3⟩
theorem RefV.shape {w:World} {v:Value} {N:Nat} (h:RefV w v N):∃ a n c,v=.slice a n c:=by
 obtain ⟨a,b,off,n,cap,l,rfl,_⟩:=h.open;exact ⟨_,_,_,rfl⟩
theorem rlen_le {l:List Nat} {K:Nat} (h:Norm 1000000000 l) (hK:dv 1000000000 l<2^(29*K)):l.length≤K:=by
 refine h.len_le (by decide) (Nat.lt_of_lt_of_le hK ?_);rw [Nat.pow_mul]
 exact Nat.pow_le_pow_left (by decide) K
theorem RefV.len0 {w:World} {a:Option Addr} {n c N:Nat} (h:RefV w (.slice a n c) N):n=0↔N=0:=by
 obtain ⟨a',b,off,n',cap,l,h1,_,_,h4,_,h6,h7,_,_⟩:=h.open;obtain ⟨rfl,rfl,rfl⟩:a=a'∧n=n'∧c=cap:=by simpa using h1
 constructor
 ·intro e
  have:=h4.o
  rw [e] at this;rw [←h7.o,List.eq_nil_of_length_eq_zero this]
  rfl
 ·intro e
  have:=h6.o.zero (by decide) (by rw [h7.o,e])
  rw [←h4.o,this];rfl
structure ROwn (w wr:World) (b:Nat) (o:List Nat) (n:Nat):Prop where
 row:wr.heap[b]?=some (.cells (rowOf .i64 o) 2 (0,0))
 len:o.length=n
 dig:Dig 1000000000 o
 ext:Ext w wr
theorem ROwn.cell {w wr:World} {b n:Nat} {o:List Nat} (h:ROwn w wr b o n) {k:Nat} (hk:k<n):wr.cell? ⟨b,k,none⟩=some (.int .i64 (o.getD k 0:Nat)) :=
 row_cell h.row k (by rw [h.len];exact hk)
theorem ROwn.free {w wr:World} {b n:Nat} {o:List Nat} (h:ROwn w wr b o n) (k:Nat):wr.frozen? ⟨b,k,none⟩=false:=row_free h.row k
theorem ROwn.set {w wr:World} {b n:Nat} {o:List Nat} (h:ROwn w wr b o n) (hb:w.heap.size≤b) (k x:Nat) (e:Int) (he:e=(x:Int)) (hx:x<1000000000) :
  ROwn w (wr.setCell ⟨b,k,none⟩ (.int .i64 e)) b (o.set k x) n:=by
 subst he
 exact ⟨row_set h.row k x,by rw [List.length_set];exact h.len,h.dig.set hx k,h.ext.setCell (p:=⟨b,k,none⟩) hb _⟩
theorem ROwn.init (w:World) (n:Nat):ROwn w (w.alloc (.cells (rowOf .i64 (List.replicate n 0)) 2)) w.heap.size (List.replicate n 0) n :=
 ⟨heap_alloc_new w _,by simp,Dig.replicate (by decide) n,(Below.refl _ w).alloc (Nat.le_refl _) _⟩
theorem ROwn.slat {w wr:World} {b n:Nat} {o:List Nat} (h:ROwn w wr b o n) (hn:n≤maxLen):SlAt 2 .i64 wr (.slice (some ⟨b,0,none⟩) n n) o:=by
 have:=SlAt.row h.row n n (by rw [h.len];exact Nat.le_refl _) (Nat.le_refl _) hn
 rwa [List.take_of_length_le (by rw [h.len];exact Nat.le_refl _)] at this
theorem ROwn.ext' {w wr wr':World} {b n:Nat} {o:List Nat} (h:ROwn w wr b o n) (hb:Ext wr wr'):ROwn w wr' b o n:=⟨hb.heap h.row,h.len,h.dig,h.ext.trans hb⟩
theorem ROwn.drew {w wr:World} {b n:Nat} {o:List Nat} (h:ROwn w wr b o n):ROwn w wr.drew b o n:=⟨h.row,h.len,h.dig,h.ext.drew⟩
def digs (l:List Nat):List Value:=l.map fun n=>Value.int .i64 (n:Nat)
theorem digs_snoc (l:List Nat) (x:Nat):digs l++[.int .i64 (x:Nat)]=digs (l++[x]):=by simp [digs]
theorem rows_ext {w w':World} {base:Nat} {e:TypeId} {size:Nat} {v:Value} {n:Nat} {xs:List Value} (h:w.ownsRow base e size v n xs) (g:Ext w w'):w'.ownsRow base e size v n xs:=by
 refine ⟨h.1,?_⟩
 rcases h.2 with h0 | ⟨b,cap,cur,h1,h2,h3,h4⟩
 ·exact .inl h0
 ·exact .inr ⟨b,cap,cur,h1,h2,g.heap h3,h4⟩
theorem rows_grown {w w2 w3:World} {e:TypeId} {size:Nat} {v:Value} {n:Nat} {xs:List Value} {o:Obj} (HE:Ext w w2) (HO:w2.ownsRow w.heap.size e size v n xs) (hg:(w2.alloc o).grownBy w3 v.ownBlock):Ext w w3:=by
 have ho2:=rows_ext HO (Below.alloc (Below.refl _ w2) (Nat.le_refl _) o)
 exact Below.grown (HE.trans (Below.alloc (Below.refl _ w2) (Nat.le_refl _) o)) hg (by have:=HE.size;simp;omega) (fun k hk=>(ho2.lt k hk).1)

theorem rowsRoom (w:World) (n:Nat) (hn:n≤1000000000000):(w.alloc (.cells (rowOf .i64 (List.replicate n 0)) 2)).ownsRow w.heap.size 2 1 (.slice (some ⟨w.heap.size,0,none⟩) 0 n) 0 (digs []) :=
 World.ownsRow_made w _ n (Nat.le_refl _) (by unfold maxLen;omega) (by rw [rowOf_size];simp)
def SumS (w:World) (x y:List Nat) (k q:Nat) (v:Value) (wr:World):Prop:=∃ o,SumR 1000000000 x y k q o∧wr.ownsRow w.heap.size 2 1 v k (digs o)∧Ext w wr
theorem SumS.start (w:World) (x y:List Nat) (c:Nat) (hc:c≤1000000000000):SumS w x y 0 0 (.slice (some ⟨w.heap.size,0,none⟩) 0 c) (w.alloc (.cells (rowOf .i64 (List.replicate c 0)) 2)) :=
 ⟨[],SumR.start _ _ _,rowsRoom w c hc,Below.alloc (Below.refl _ w) (Nat.le_refl _) _⟩
theorem SumS.next {w w2 w3:World} {x y:List Nat} {k q:Nat} {v v':Value} {o:List Nat} (h:SumR 1000000000 x y k q o) (HE:Ext w w2) (hx:Dig 1000000000 x) (hy:Dig 1000000000 y) (hc:k<max x.length y.length∨0<q) (z:Nat)
  (hz:z=q+x.getD k 0+y.getD k 0) (t:Int) (ht:t=((z%1000000000:Nat):Int))
  (HO:w2.ownsRow w.heap.size 2 1 v k (digs o)) (hg:(w2.alloc (.cells #[.int .i64 t] 2)).grownBy w3 v.ownBlock)
  (hown:w3.ownsRow w.heap.size 2 1 v' (k+1) (digs o++[.int .i64 t])):SumS w x y (k+1) (z/1000000000) v' w3:=by
 subst ht hz;rw [digs_snoc] at hown
 exact ⟨_,h.step (by decide) hx hy hc,hown,rows_grown HE HO hg⟩
def DifS (w:World) (x y:List Nat) (k q:Nat) (v:Value) (wr:World):Prop:=∃ o,DifR 1000000000 x y k q o∧wr.ownsRow w.heap.size 2 1 v k (digs o)∧Ext w wr
theorem DifS.next {w w2 w3:World} {x y:List Nat} {k q:Nat} {v v':Value} {o:List Nat} (h:DifR 1000000000 x y k q o) (HE:Ext w w2) (hx:Dig 1000000000 x) (hy:Dig 1000000000 y) (hk:k<x.length) (t:Int)
  (q':Nat) (ht:(q+y.getD k 0≤x.getD k 0∧q'=0∧t=((x.getD k 0:Nat):Int)-q-((y.getD k 0:Nat):Int))∨(x.getD k 0<q+y.getD k 0∧q'=1∧t=((x.getD k 0:Nat):Int)-q-((y.getD k 0:Nat):Int)+1000000000))
  (HO:w2.ownsRow w.heap.size 2 1 v k (digs o)) (hg:(w2.alloc (.cells #[.int .i64 t] 2)).grownBy w3 v.ownBlock)
  (hown:w3.ownsRow w.heap.size 2 1 v' (k+1) (digs o++[.int .i64 t])):DifS w x y (k+1) q' v' w3:=by
 have hf:=hy.get (by decide) k;have hq:=h.hq
 rcases ht with ⟨h1,rfl,rfl⟩ | ⟨h1,rfl,rfl⟩
 ·have e:((x.getD k 0:Nat):Int)-q-((y.getD k 0:Nat):Int)=((x.getD k 0-(q+y.getD k 0):Nat):Int):=by omega
  rw [e,digs_snoc] at hown
  exact ⟨_,h.stay hk hx (by decide) h1,hown,rows_grown HE HO hg⟩
 ·have e:((x.getD k 0:Nat):Int)-q-((y.getD k 0:Nat):Int)+1000000000=((x.getD k 0+1000000000-(q+y.getD k 0):Nat):Int):=by omega
  rw [e,digs_snoc] at hown
  exact ⟨_,h.lend hk hy (by decide) h1,hown,rows_grown HE HO hg⟩
structure RMulRel (x y:List Nat) (n m:Nat) (w:World) (k:Nat) (o:List Nat) (wr:World):Prop where
 hk:k≤n
 zero:Zero o (k+m)
 val:dv 1000000000 o=dv 1000000000 (x.take k)*dv 1000000000 y
 own:ROwn w wr w.heap.size o (n+m)
structure RMulIn (x y:List Nat) (n m:Nat) (w:World) (k d:Nat) (j c:Nat) (o:List Nat) (wr:World):Prop where
 hj:j≤m
 hc:c<1000000000
 zero:Zero o (k+m)
 val:dv 1000000000 o+c*1000000000^(k+j)=dv 1000000000 (x.take k)*dv 1000000000 y+d*dv 1000000000 (y.take j)*1000000000^k
 own:ROwn w wr w.heap.size o (n+m)
theorem rmulBound {c d f o:Nat} (hc:c<1000000000) (hd:d<1000000000) (hf:f<1000000000) (ho:o<1000000000):c+d*f+o<1000000000000000000:=by
 have:d*f≤999999999*999999999:=Nat.mul_le_mul (by omega) (by omega)
 omega
theorem RMulIn.step {x y:List Nat} {n m:Nat} {w:World} {k d j c:Nat} {o:List Nat} {wr:World} (h:RMulIn x y n m w k d j c o wr) (hk:k<n) (hj:j<m) (hd:d<1000000000) {f:Nat}
  (hf:f=y.getD j 0) (hf':f<1000000000) (e:Int) (he:e=(((c+d*f+o.getD (k+j) 0)%1000000000:Nat):Int)) :
  RMulIn x y n m w k d (j+1) ((c+d*f+o.getD (k+j) 0)/1000000000) (o.set (k+j) ((c+d*f+o.getD (k+j) 0)%1000000000)) (wr.setCell ⟨w.heap.size,k+j,none⟩ (.int .i64 e)):=by
 have hl:k+j<o.length:=by rw [h.own.len];omega
 have ho:o.getD (k+j) 0<1000000000:=h.own.dig.get (by decide) _;have hb:=rmulBound h.hc hd hf' ho;refine ⟨by omega,by omega,?_,?_,h.own.set (Nat.le_refl _) _ _ e he (by omega)⟩
 ·intro i hi
  rw [getD_set _ _ _ _ hl,if_neg (by omega)]
  exact h.zero i hi
 ·rw [dv_take_succ',←hf]
  exact mul_step h.val (Nat.mod_add_div _ _).symm (dv_set _ o _ _ hl)
theorem RMulIn.start {x y:List Nat} {n m:Nat} {w:World} {k:Nat} {o:List Nat} {wr:World} (h:RMulRel x y n m w k o wr) (d:Nat):RMulIn x y n m w k d 0 0 o wr :=
 ⟨Nat.zero_le _,by decide,h.zero,by simp [h.val,dv],h.own⟩
theorem RMulIn.finish {x y:List Nat} {n m:Nat} {w:World} {k d c:Nat} {o:List Nat} {wr:World} (h:RMulIn x y n m w k d m c o wr) (hk:k<n) (hd:d=x.getD k 0) (hm:y.length=m) (e:Int) (he:e=(c:Int)) :
  RMulRel x y n m w (k+1) (o.set (k+m) c) (wr.setCell ⟨w.heap.size,k+m,none⟩ (.int .i64 e)):=by
 have hl:k+m<o.length:=by rw [h.own.len];omega
 refine ⟨by omega,?_,?_,h.own.set (Nat.le_refl _) _ _ e he h.hc⟩
 ·have:=h.zero.set c hl
  rwa [show k+1+m=k+m+1 by omega]
 ·rw [dv_set_zero _ h.zero _ hl,h.val,dv_take_succ',←hd,List.take_of_length_le (Nat.le_of_eq hm)]
  grind
theorem RMulIn.drewN {x y:List Nat} {n m:Nat} {w:World} {k d j c:Nat} {o:List Nat} {wr:World} (h:RMulIn x y n m w k d j c o wr) (q:Nat):RMulIn x y n m w k d j c o (wr.drewN q) :=
 ⟨h.hj,h.hc,h.zero,h.val,h.own.ext' (below_drewN (Below.refl _ _) q)⟩
structure HalfRel (x:List Nat) (n:Nat) (w:World) (k r:Nat) (o:List Nat) (wr:World):Prop where
 hk:k≤n
 hr:r<2
 val:dv 1000000000 (x.drop k)=dv 1000000000 (o.drop k)*2+r
 own:ROwn w wr w.heap.size o n
theorem rdrop_set_self (l:List Nat) (k x:Nat) (h:k<l.length):(l.set k x).drop k=x :: l.drop (k+1):=by
 rw [List.drop_eq_getElem_cons (by simpa using h),List.getElem_set_self,List.drop_set_of_lt (by omega)]
theorem HalfRel.step {x:List Nat} {n:Nat} {w:World} {k r:Nat} {o:List Nat} {wr:World} (h:HalfRel x n w (k+1) r o wr) (hn:x.length=n) {d:Nat}
  (hd:d=x.getD k 0) (hd':d<1000000000) (z:Nat) (hz:z=1000000000*r+d) (e:Int) (he:e=((z/2:Nat):Int)) :
  HalfRel x n w k (z%2) (o.set k (z/2)) (wr.setCell ⟨w.heap.size,k,none⟩ (.int .i64 e)):=by
 have hk:=h.hk;have hr:=h.hr;have hl:k<o.length:=by rw [h.own.len];omega
 have hq:z/2<1000000000:=by omega
 refine ⟨by omega,Nat.mod_lt _ (by omega),?_,h.own.set (Nat.le_refl _) k _ e he hq⟩;rw [dv_drop _ x k (by omega),←hd,rdrop_set_self _ _ _ hl,dv_cons,h.val]
 have:=Nat.div_add_mod z 2
 generalize z/2=q at *
 generalize z%2=s at *
 generalize dv 1000000000 (o.drop (k+1))=D at *
 omega
structure NatlR (n:Nat) (o:List Nat) (m:Nat):Prop where
 val:dv 1000000000 o+1000000000^o.length*m=n
 dig:Dig 1000000000 o
 last:m=0→Norm 1000000000 o
 pow:m*2^o.length≤n
theorem NatlR.start (n:Nat):NatlR n [] n:=⟨by simp [dv],Dig.nil,fun _=>Norm.nil,by simp⟩
theorem NatlR.step {n:Nat} {o:List Nat} {m:Nat} (h:NatlR n o m) (hm:0<m):NatlR n (o++[m%1000000000]) (m/1000000000):=by
 have hd:Dig 1000000000 (o++[m%1000000000]):=h.dig.append (Dig.mk (Nat.mod_lt _ (by decide)) Dig.nil);refine ⟨?_,hd,fun h0=>Norm.of_ge (by decide) hd (fun _ => ?_),?_⟩
 ·have h1:=h.val;rw [dv_snoc,List.length_append,List.length_singleton,Nat.pow_succ];have h2:=Nat.div_add_mod m 1000000000;generalize m/1000000000=q at *
  generalize m%1000000000=s at *
  generalize dv 1000000000 o=D at *
  generalize 1000000000^o.length=p at *
  subst h1;rw [←h2]
  grind
 ·have h2:m%1000000000=m:=by omega
  rw [dv_snoc,h2,List.length_append,List.length_singleton,Nat.add_sub_cancel]
  have:1*1000000000^o.length≤m*1000000000^o.length:=Nat.mul_le_mul_right _ hm
  omega
 ·have h1:=h.pow;have h2:m/1000000000*2≤m:=by omega
  have h3:m/1000000000*2*2^o.length≤m*2^o.length:=Nat.mul_le_mul_right _ h2;rw [List.length_append,List.length_singleton,Nat.pow_succ',←Nat.mul_assoc]
  omega
end Go.Proofs.YtoaoebimjmjpeaaGreatDoor
