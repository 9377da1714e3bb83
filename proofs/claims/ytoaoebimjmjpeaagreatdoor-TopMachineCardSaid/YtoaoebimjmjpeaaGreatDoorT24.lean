/- The reference's numbers in memory: how a value reads as one; what stays when cells of other types are stored. -/
import Derived.Test.YtoaoebimjmjpeaaGreatDoorT23
import Derived.Test.YtoaoebimjmjpeaaGreatDoorT08
namespace Go.Proofs.YtoaoebimjmjpeaaGreatDoor
open Go.RowKit Vn
set_option maxRecDepth 100000
set_option maxHeartbeats 8000000
def RNumV (w:World) (v:Value) (q:Rat):Prop:=∃ (a:Option Addr) (n c:Nat) (a':Option Addr) (n' c':Nat),v=.agg #[.int .i64 q.num.sign,.slice a n c,.slice a' n' c'] ∧
 RefV w (.slice a n c) q.num.natAbs∧RefV w (.slice a' n' c') (if q=0 then 0 else q.den)
def KeepR (w w':World):Prop:=Keep w w'∧∀ v l,SlAt 2 .i64 w v l→SlAt 2 .i64 w' v l
theorem KeepR.of_ext {w w':World} (h:Ext w w'):KeepR w w':=⟨Keep.of_ext h,fun _ _ k=>k.ext h⟩
theorem KeepR.trans {a b c:World} (h:KeepR a b) (k:KeepR b c):KeepR a c:=⟨h.1.trans k.1,fun v l x=>k.2 v l (h.2 v l x)⟩
theorem KeepR.setCell {w:World} {p:Addr} {c:Array Value} {U:TypeId} {fr:Nat×Nat} (hp:w.heap[p.block]?=some (.cells c U fr)) (hU:U≠240) (hV:U≠2) (x:Value):KeepR w (w.setCell p x) :=
 ⟨Keep.setCell hp hU x,fun _ _ k=>k.setCell hp hV x⟩
theorem RefV.keepR {w w':World} {v:Value} {n:Nat} (h:RefV w v n) (k:KeepR w w'):RefV w' v n:=by
 obtain ⟨l,h1,h2,h3⟩:=h;exact ⟨l,h1,h2,k.2 _ _ h3⟩
theorem RNumV.keepR {w w':World} {v:Value} {q:Rat} (h:RNumV w v q) (k:KeepR w w'):RNumV w' v q:=by
 obtain ⟨a,n,c,a',n',c',h1,h2,h3⟩:=h
 exact ⟨a,n,c,a',n',c',h1,h2.keepR k,h3.keepR k⟩
theorem RNumV.ext {w w':World} {v:Value} {q:Rat} (h:RNumV w v q) (k:Ext w w'):RNumV w' v q:=h.keepR (KeepR.of_ext k)
theorem NumV.keepR {w w':World} {v:Value} {q:Rat} (h:NumV w v q) (k:KeepR w w'):NumV w' v q:=h.keep k.1
theorem NatV.keepR {w w':World} {v:Value} {n:Nat} (h:NatV w v n) (k:KeepR w w'):NatV w' v n:=h.keep k.1
theorem RNumV.shape {w:World} {v:Value} {q:Rat} (h:RNumV w v q):∃ (s:Int) (a:Option Addr) (n c:Nat) (a':Option Addr) (n' c':Nat),v=.agg #[.int .i64 s,.slice a n c,.slice a' n' c']:=by
 obtain ⟨a,n,c,a',n',c',h1,_,_⟩:=h;exact ⟨_,a,n,c,a',n',c',h1⟩
theorem RNumV.sign {w:World} {s:Int} {x y:Value} {q:Rat} (h:RNumV w (.agg #[.int .i64 s,x,y]) q):s=q.num.sign:=by
 obtain ⟨a,n,c,a',n',c',h1,_,_⟩:=h;have h2:s=q.num.sign∧x=.slice a n c∧y=.slice a' n' c':=by simpa using h1
 exact h2.1
theorem RNumV.top {w:World} {s:Int} {x y:Value} {q:Rat} (h:RNumV w (.agg #[.int .i64 s,x,y]) q):RefV w x q.num.natAbs:=by
 obtain ⟨a,n,c,a',n',c',h1,h2,_⟩:=h;have h3:s=q.num.sign∧x=.slice a n c∧y=.slice a' n' c':=by simpa using h1
 rw [h3.2.1];exact h2
theorem RNumV.den {w:World} {s:Int} {x y:Value} {q:Rat} (h:RNumV w (.agg #[.int .i64 s,x,y]) q):RefV w y (if q=0 then 0 else q.den):=by
 obtain ⟨a,n,c,a',n',c',h1,_,h2⟩:=h;have h3:s=q.num.sign∧x=.slice a n c∧y=.slice a' n' c':=by simpa using h1
 rw [h3.2.2];exact h2
theorem RNumV.zero (w:World):RNumV w (.agg #[.int .i64 0,.slice none 0 0,.slice none 0 0]) 0 :=
 ⟨none,0,0,none,0,0,rfl,RefV.nil w,RefV.nil w⟩
/-! ### plain: numbers made of a sign, a numerator and a denominator -/
theorem mkRat_sgn {s:Int} {P Q:Nat} (hs:s=1∨s = -1):mkRat (s*P) Q=mkq (decide (s<0)) P Q:=by
 unfold mkq sg
 rcases hs with rfl | rfl<;>simp
theorem RNumV.made {w:World} {s:Int} {a a':Option Addr} {n c n' c' P Q:Nat} (hs:s=1∨s = -1) (hP:0<P) (hQ:Q≠0) (h1:RefV w (.slice a n c) (P/Nat.gcd P Q)) (h2:RefV w (.slice a' n' c') (Q/Nat.gcd P Q)) :
  RNumV w (.agg #[.int .i64 s,.slice a n c,.slice a' n' c']) (mkRat (s*P) Q):=by
 rw [mkRat_sgn hs];have hg:0<Nat.gcd P Q:=Nat.gcd_pos_of_pos_left _ hP;have hp:0<P/Nat.gcd P Q:=Nat.div_pos (Nat.le_of_dvd hP (Nat.gcd_dvd_left P Q)) hg;have hn:=mkq_natAbs (decide (s<0)) P Q hQ;have hneg:=mkq_neg (decide (s<0)) P Q hQ;have hz:mkq (decide (s<0)) P Q≠0:=fun e=>by rw [e] at hn;simp at hn;omega
 refine ⟨a,n,c,a',n',c',?_,?_,?_⟩
 ·have:s=(mkq (decide (s<0)) P Q).num.sign:=by
   rw [decide_eq_true (show P≠0 by omega),Bool.and_true,decide_eq_decide] at hneg
   rcases hs with rfl | rfl
   ·have h3:¬ (mkq (decide ((1:Int)<0)) P Q).num<0:=fun h=>by have:=hneg.1 h;omega
    exact (Int.sign_eq_one_of_pos (by omega)).symm
   ·have h3:(mkq (decide ((-1:Int)<0)) P Q).num<0:=hneg.2 (by decide)
    exact (Int.sign_eq_neg_one_of_neg h3).symm
  rw [←this]
 ·rw [hn];exact h1
 ·rw [if_neg hz,mkq_den _ P Q hQ];exact h2



end Go.Proofs.YtoaoebimjmjpeaaGreatDoor
namespace Go
section
variable {P:Program} {ops:Array Oper} {Q:Exit→Act→World→Prop} {md:Region.Mode} {S:World→Prop}
end
end Go
namespace Go.Proofs.YtoaoebimjmjpeaaGreatDoor
open Go.RowKit Vn
theorem Box.a1 {w:World} {b:Nat} {x0:Value} {t:TypeId} (h:Box w b #[x0] t):∀ w',Ext w w'→w'.cell? ⟨b,0,none⟩=some x0:=fun _ k=>(h.ext k).cell 0
theorem Box.a2 {w:World} {b:Nat} {x0 x1:Value} {t:TypeId} (h:Box w b #[x0,x1] t):∀ w',Ext w w'→w'.cell? ⟨b,0,none⟩=some x0∧w'.cell? ⟨b,1,none⟩=some x1:=fun _ k=>(h.ext k).c2
theorem Box.a3 {w:World} {b:Nat} {x0 x1 x2:Value} {t:TypeId} (h:Box w b #[x0,x1,x2] t):∀ w',Ext w w'→w'.cell? ⟨b,0,none⟩=some x0∧w'.cell? ⟨b,1,none⟩=some x1∧w'.cell? ⟨b,2,none⟩=some x2:=fun _ k=>(h.ext k).c3
theorem Box.a4 {w:World} {b:Nat} {x0 x1 x2 x3:Value} {t:TypeId} (h:Box w b #[x0,x1,x2,x3] t):∀ w',Ext w w'→w'.cell? ⟨b,0,none⟩=some x0∧w'.cell? ⟨b,1,none⟩=some x1∧w'.cell? ⟨b,2,none⟩=some x2∧w'.cell? ⟨b,3,none⟩=some x3:=fun _ k=>(h.ext k).c4
theorem Box.a5 {w:World} {b:Nat} {x0 x1 x2 x3 x4:Value} {t:TypeId} (h:Box w b #[x0,x1,x2,x3,x4] t):∀ w',Ext w w'→w'.cell? ⟨b,0,none⟩=some x0∧w'.cell? ⟨b,1,none⟩=some x1∧w'.cell? ⟨b,2,none⟩=some x2∧w'.cell? ⟨b,3,none⟩=some x3∧w'.cell? ⟨b,4,none⟩=some x4:=fun _ k=>(h.ext k).c5
theorem Box.a9 {w:World} {b:Nat} {x0 x1 x2 x3 x4 x5 x6 x7 x8:Value} {t:TypeId} (h:Box w b #[x0,x1,x2,x3,x4,x5,x6,x7,x8] t):∀ w',Ext w w'→w'.cell? ⟨b,0,none⟩=some x0∧w'.cell? ⟨b,1,none⟩=some x1∧w'.cell? ⟨b,2,none⟩=some x2∧w'.cell? ⟨b,3,none⟩=some x3∧w'.cell? ⟨b,4,none⟩=some x4 ∧
  w'.cell? ⟨b,5,none⟩=some x5∧w'.cell? ⟨b,6,none⟩=some x6∧w'.cell? ⟨b,7,none⟩=some x7∧w'.cell? ⟨b,8,none⟩=some x8:=fun _ k=>⟨(h.ext k).cell 0,(h.ext k).cell 1,(h.ext k).cell 2,(h.ext k).cell 3,(h.ext k).cell 4,(h.ext k).cell 5,(h.ext k).cell 6,(h.ext k).cell 7,(h.ext k).cell 8⟩
theorem Ext.cl {W W1:World} {P:World→Prop} (g:Ext W W1) (h:∀ w',Ext W w'→P w'):∀ w',Ext W1 w'→P w':=fun w' k=>h w' (g.trans k)
def But (W:World) (z:Nat) (w':World):Prop:=∀ b cs t,b≠z→Box W b cs t→Box w' b cs t
theorem Ext.but {W w':World} {z:Nat} (h:Ext W w'):But W z w':=fun _ _ _ _ k=>k.ext h
theorem But.sto {W wk W1:World} {z:Nat} (h:But W z wk) (ho:∀ b' cs' t',b'≠z→Box wk b' cs' t'→Box W1 b' cs' t'):But W z W1:=fun b cs t hne k=>ho b cs t hne (h b cs t hne k)
theorem Box.bt {w:World} {b z:Nat} {cs:Array Value} {t:TypeId} (h:Box w b cs t) (hne:b≠z) {P:World→Prop} (k:∀ w,Box w b cs t→P w):∀ w',But w z w'→P w':=fun w' j=>k w' (j b cs t hne h)
theorem Box.n1 {b:Nat} {x0:Value} {t:TypeId}:∀ w,Box w b #[x0] t→w.cell? ⟨b,0,none⟩=some x0:=fun _ h=>h.cell 0
theorem Box.n2 {b:Nat} {x0 x1:Value} {t:TypeId}:∀ w,Box w b #[x0,x1] t→w.cell? ⟨b,0,none⟩=some x0∧w.cell? ⟨b,1,none⟩=some x1:=fun _ h=>h.c2
theorem Box.n3 {b:Nat} {x0 x1 x2:Value} {t:TypeId}:∀ w,Box w b #[x0,x1,x2] t→w.cell? ⟨b,0,none⟩=some x0∧w.cell? ⟨b,1,none⟩=some x1∧w.cell? ⟨b,2,none⟩=some x2:=fun _ h=>h.c3
theorem Box.n4 {b:Nat} {x0 x1 x2 x3:Value} {t:TypeId}:∀ w,Box w b #[x0,x1,x2,x3] t→w.cell? ⟨b,0,none⟩=some x0∧w.cell? ⟨b,1,none⟩=some x1∧w.cell? ⟨b,2,none⟩=some x2∧w.cell? ⟨b,3,none⟩=some x3:=fun _ h=>h.c4
theorem Box.n5 {b:Nat} {x0 x1 x2 x3 x4:Value} {t:TypeId}:∀ w,Box w b #[x0,x1,x2,x3,x4] t→w.cell? ⟨b,0,none⟩=some x0∧w.cell? ⟨b,1,none⟩=some x1∧w.cell? ⟨b,2,none⟩=some x2∧w.cell? ⟨b,3,none⟩=some x3∧w.cell? ⟨b,4,none⟩=some x4:=fun _ h=>h.c5
end Go.Proofs.YtoaoebimjmjpeaaGreatDoor
