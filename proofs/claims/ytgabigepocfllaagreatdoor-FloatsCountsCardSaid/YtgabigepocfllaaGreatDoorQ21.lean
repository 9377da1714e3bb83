/- The reference's numbers in memory: how a value reads as one; what stays when cells of other types are stored. -/
import Derived.Test.YtgabigepocfllaaGreatDoorQ20
import Derived.Test.YtgabigepocfllaaGreatDoorQ09
namespace Go.Proofs.YtgabigepocfllaaGreatDoor
open Go.RowKit Vn
set_option maxRecDepth 100000
set_option maxHeartbeats 8000000
def RNumV (w:World) (v:Value) (q:Rat):Prop:=∃ (a:Option Addr) (n c:Nat) (a':Option Addr) (n' c':Nat),v=.agg #[.int .i64 q.num.sign,.slice a n c,.slice a' n' c'] ∧
 RefV w (.slice a n c) q.num.natAbs∧RefV w (.slice a' n' c') (if q=0 then 0 else q.den)
def KeepR (w w':World):Prop:=Keep w w'∧∀ v l,SlAt 2 .i64 w v l→SlAt 2 .i64 w' v l
theorem KeepR.of_ext {w w':World} (h:Ext w w'):KeepR w w':=⟨Keep.of_ext h,fun _ _ k=>k.ext h⟩
theorem KeepR.trans {a b c:World} (h:KeepR a b) (k:KeepR b c):KeepR a c:=⟨h.1.trans k.1,fun v l x=>k.2 v l (h.2 v l x)⟩
theorem KeepR.setCell {w:World} {p:Addr} {c:Array Value} {U:TypeId} {fr:Nat×Nat} (hp:w.heap[p.block]?=some (.cells c U fr)) (hU:U≠195) (hV:U≠2) (x:Value):KeepR w (w.setCell p x) :=
 ⟨Keep.setCell hp hU x,fun _ _ k=>k.setCell hp hV x⟩
theorem RefV.keepR {w w':World} {v:Value} {n:Nat} (h:RefV w v n) (k:KeepR w w'):RefV w' v n:=by
 obtain ⟨l,h1,h2,h3⟩:=h;exact ⟨l,h1,h2,k.2 _ _ h3⟩
theorem RNumV.keepR {w w':World} {v:Value} {q:Rat} (h:RNumV w v q) (k:KeepR w w'):RNumV w' v q:=by
 obtain ⟨a,n,c,a',n',c',h1,h2,h3⟩:=h
 exact ⟨a,n,c,a',n',c',h1,h2.keepR k,h3.keepR k⟩
theorem RNumV.ext {w w':World} {v:Value} {q:Rat} (h:RNumV w v q) (k:Ext w w'):RNumV w' v q:=h.keepR (KeepR.of_ext k)
theorem NumV.keepR {w w':World} {v:Value} {q:Rat} (h:NumV w v q) (k:KeepR w w'):NumV w' v q:=h.keep k.1
theorem NatV.keepR {w w':World} {v:Value} {n:Nat} (h:NatV w v n) (k:KeepR w w'):NatV w' v n:=h.keep k.1
theorem RNumV.shape {w:World} {v:Value} {q:Rat} (h:RNumV w v q):∃ (s:Int) (a:Option Addr) (n c:Nat) (a':Option Addr) (n' c':Nat),v=.agg #[.int .i64 s,.slice a n c,.slice a' n' c']:=by
 obtain ⟨a,n,c,a',n',c',h1,_,_⟩:=h;exact ⟨_,a,n,c,a',n',c',h1⟩
theorem RNumV.sign {w:World} {s:Int} {x y:Value} {q:Rat} (h:RNumV w (.agg #[.int .i64 s,x,y]) q):s=q.num.sign:=by
 obtain ⟨a,n,c,a',n',c',h1,_,_⟩:=h;have h2:s=q.num.sign∧x=.slice a n c∧y=.slice a' n' c':=by simpa using h1
 exact h2.1
theorem RNumV.top {w:World} {s:Int} {x y:Value} {q:Rat} (h:RNumV w (.agg #[.int .i64 s,x,y]) q):RefV w x q.num.natAbs:=by
 obtain ⟨a,n,c,a',n',c',h1,h2,_⟩:=h;have h3:s=q.num.sign∧x=.slice a n c∧y=.slice a' n' c':=by simpa using h1
 rw [h3.2.1];exact h2
theorem RNumV.den {w:World} {s:Int} {x y:Value} {q:Rat} (h:RNumV w (.agg #[.int .i64 s,x,y]) q):RefV w y (if q=0 then 0 else q.den):=by
 obtain ⟨a,n,c,a',n',c',h1,_,h2⟩:=h;have h3:s=q.num.sign∧x=.slice a n c∧y=.slice a' n' c':=by simpa using h1
 rw [h3.2.2];exact h2
theorem RNumV.zero (w:World):RNumV w (.agg #[.int .i64 0,.slice none 0 0,.slice none 0 0]) 0 :=
 ⟨none,0,0,none,0,0,rfl,RefV.nil w,RefV.nil w⟩
def StoredR (w wk W1:World) (b:Nat) (cs:Array Value) (t:TypeId):Prop :=
 Ext w W1∧KeepR wk W1∧Box W1 b cs t∧wk.heap.size≤W1.heap.size∧∀ b' cs' t',b'≠b→Box wk b' cs' t'→Box W1 b' cs' t'
theorem putCells_keepR:∀ (l:List Value) (i:Nat) (wk:World) (b:Nat) (cs:Array Value) (t:TypeId),Box wk b cs t→t≠195→t≠2→KeepR wk (putCells wk b i l)
 | [],_,wk,_,_,_,_,_,_=>KeepR.of_ext (Below.refl _ wk)
 | v :: l,i,_,b,_,t,hB,ht,hu=>(KeepR.setCell (p:=⟨b,i,none⟩) hB ht hu v).trans (putCells_keepR l (i+1) _ b _ t (hB.set i v) ht hu)
theorem putCells_R (w:World) (l:List Value) (i:Nat) (wk:World) (b:Nat) (cs:Array Value) (t:TypeId) (hE:Ext w wk) (hle:w.heap.size≤b) (hB:Box wk b cs t) (ht:t≠195∧t≠2) :
  StoredR w wk (putCells wk b i l) b (putArr cs i l) t:=by
 obtain ⟨h1,h2,h3,h4,h5⟩:=putCells_law w l i wk b cs t hE hle hB ht.1
 exact ⟨h1,putCells_keepR l i wk b cs t hB ht.1 ht.2,h3,h4,h5⟩
theorem rsto2 {w wk:World} {b:Nat} {x y:Value} {t:TypeId} (hE:Ext w wk) (hle:w.heap.size≤b) (hB:Box wk b #[x,y] t) (ht:t≠195∧t≠2) (x' y':Value) :
  ∃ W1,W1=(wk.setCell ⟨b,0,none⟩ x').setCell ⟨b,1,none⟩ y'∧StoredR w wk W1 b #[x',y'] t:=⟨_,rfl,putCells_R w [x',y'] 0 wk b _ t hE hle hB ht⟩
theorem rsto3 {w wk:World} {b:Nat} {x y z:Value} {t:TypeId} (hE:Ext w wk) (hle:w.heap.size≤b) (hB:Box wk b #[x,y,z] t) (ht:t≠195∧t≠2) (x' y' z':Value) :
  ∃ W1,W1=((wk.setCell ⟨b,0,none⟩ x').setCell ⟨b,1,none⟩ y').setCell ⟨b,2,none⟩ z'∧StoredR w wk W1 b #[x',y',z'] t:=⟨_,rfl,putCells_R w [x',y',z'] 0 wk b _ t hE hle hB ht⟩
/-! ### plain: numbers made of a sign, a numerator and a denominator -/
theorem mkRat_sgn {s:Int} {P Q:Nat} (hs:s=1∨s = -1):mkRat (s*P) Q=mkq (decide (s<0)) P Q:=by
 unfold mkq sg
 rcases hs with rfl | rfl<;>simp
theorem RNumV.made {w:World} {s:Int} {a a':Option Addr} {n c n' c' P Q:Nat} (hs:s=1∨s = -1) (hP:0<P) (hQ:Q≠0) (h1:RefV w (.slice a n c) (P/Nat.gcd P Q)) (h2:RefV w (.slice a' n' c') (Q/Nat.gcd P Q)) :
  RNumV w (.agg #[.int .i64 s,.slice a n c,.slice a' n' c']) (mkRat (s*P) Q):=by
 rw [mkRat_sgn hs];have hg:0<Nat.gcd P Q:=Nat.gcd_pos_of_pos_left _ hP;have hp:0<P/Nat.gcd P Q:=Nat.div_pos (Nat.le_of_dvd hP (Nat.gcd_dvd_left P Q)) hg;have hn:=mkq_natAbs (decide (s<0)) P Q hQ;have hneg:=mkq_neg (decide (s<0)) P Q hQ;have hz:mkq (decide (s<0)) P Q≠0:=fun e=>by rw [e] at hn;simp at hn;omega
 refine ⟨a,n,c,a',n',c',?_,?_,?_⟩
 ·have:s=(mkq (decide (s<0)) P Q).num.sign:=by
   rw [decide_eq_true (show P≠0 by omega),Bool.and_true,decide_eq_decide] at hneg
   rcases hs with rfl | rfl
   ·have h3:¬ (mkq (decide ((1:Int)<0)) P Q).num<0:=fun h=>by have:=hneg.1 h;omega
    exact (Int.sign_eq_one_of_pos (by omega)).symm
   ·have h3:(mkq (decide ((-1:Int)<0)) P Q).num<0:=hneg.2 (by decide)
    exact (Int.sign_eq_neg_one_of_neg h3).symm
  rw [←this]
 ·rw [hn];exact h1
 ·rw [if_neg hz,mkq_den _ P Q hQ];exact h2
end Go.Proofs.YtgabigepocfllaaGreatDoor
namespace Go
section
variable {P:Program} {ops:Array Oper} {Q:Exit→Act→World→Prop} {md:Region.Mode} {S:World→Prop}
theorem wtk (i:Nat) (d:Option Nat) {oi:Oper} {v:Value} {fuel:Nat} {listed:Array Bool} {a:Act} {w:World} (hi:ops[i]?=some oi) (hd:oi.dst=d)
  (hb:(Region.noSelect ops&&Region.free md ops listed i&&(Region.ready md ops listed).contains i)=true)
  (hQ:∀ c a w,Q (.panic c) (a.put d v) w→Q (.panic c) a w) (hy:YieldsIf P ops S oi v a) (hS:S w)
  (h:wpAnyH P md ops Q S fuel (listed.setIfInBounds i true) (a.put d v) w):wpAnyH P md ops Q S (fuel+1) listed a w:=by
 subst hd;rw [Bool.and_eq_true,Bool.and_eq_true] at hb
 exact wpAnyH_take hi hb.1.1 hb.1.2 hb.2 hQ hy hS h
theorem wts (i d:Nat) {oi:Oper} {v:Value} {fuel:Nat} {listed:Array Bool} {a:Act} {w:World} (hi:ops[i]?=some oi) (hd:oi.dst=some d)
  (hb:(Region.noSelect ops&&Region.free md ops listed i&&(Region.ready md ops listed).contains i&&Region.wanted oi (yielded ops a.tmps))=true)
  (hQ:∀ c a w,Q (.panic c) (a.put (some d) v) w→Q (.panic c) a w) (hS:S w) (hy:∀ w',S w'→(execOp a.eval oi).run P w'=.ok (.value v) w')
  (h:wpAnyH P md ops Q S fuel (listed.setIfInBounds i true) (a.put (some d) v) w):wpAnyH P md ops Q S (fuel+1) listed a w:=by
 rw [Bool.and_eq_true] at hb
 exact wtk i (some d) hi hd hb.1 hQ (Or.inl ⟨hb.2,hy⟩) hS h
def bareOp (o:Oper):Oper := { o with pos := "",after:=#[] }
theorem consb {fuel:Nat} {listed:Array Bool} {a:Act} {w:World} (i:Nat) (b:Oper) {o:Oper} {rs:List Nat} (ho:ops[i]?=some o) (hb:bareOp o=b)
  (h:∀ K':Act→World→Prop,Shut (∀ a w,S w→(S w→wpAnyH P md ops Q S fuel (listed.setIfInBounds i true) a w)→K' a w)→if Region.wanted b (yielded ops a.tmps)=true then Oper.wp P b a w K' Q else K' (a.put b.dst undef) w)
  (hs:AllReadyH P md ops Q S fuel listed a w rs):AllReadyH P md ops Q S fuel listed a w (i :: rs):=by
 subst hb
 exact AllReadyH.cons ho h hs
theorem won (i:Nat) (b:Oper) {o:Oper} {fuel:Nat} {listed:Array Bool} {a:Act} {w:World} (hr:Region.ready md ops listed=[i]) (ho:ops[i]?=some o) (hb:bareOp o=b)
  (h:∀ K':Act→World→Prop,Shut (∀ a w,S w→(S w→wpAnyH P md ops Q S fuel (listed.setIfInBounds i true) a w)→K' a w)→if Region.wanted b (yielded ops a.tmps)=true then Oper.wp P b a w K' Q else K' (a.put b.dst undef) w) :
  wpAnyH P md ops Q S (fuel+1) listed a w :=
 wpAnyH_ready hr (by simp) (consb i b ho hb h AllReadyH.nil)
theorem wonc (i d f:Nat) (xs:Array Operand) (ts:Array TypeId) (t:TypeId) {o:Oper} {fuel:Nat} {listed:Array Bool} {a:Act} {w:World} (hr:Region.ready md ops listed=[i]) (ho:ops[i]?=some o)
  (hb:bareOp o = { dst:=some d,op:=Op.call { callee:=Callee.value (Operand.func f),args:=xs,argTypes:=ts },type:=t,pos := "",after:=#[],guard:=none })
  (h:∀ K':Act→World→Prop,Shut (∀ a w,S w→(S w→wpAnyH P md ops Q S fuel (listed.setIfInBounds i true) a w)→K' a w)→if Region.wanted { dst:=some d,op:=Op.call { callee:=Callee.value (Operand.func f),args:=xs,argTypes:=ts },type:=t,pos := "",after:=#[],guard:=none } (yielded ops a.tmps)=true then Oper.wp P { dst:=some d,op:=Op.call { callee:=Callee.value (Operand.func f),args:=xs,argTypes:=ts },type:=t,pos := "",after:=#[],guard:=none } a w K' Q else K' (a.put (some d) undef) w) :
  wpAnyH P md ops Q S (fuel+1) listed a w:=won i _ hr ho hb h
theorem wons (i t p v:Nat) {o:Oper} {fuel:Nat} {listed:Array Bool} {a:Act} {w:World} (hr:Region.ready md ops listed=[i]) (ho:ops[i]?=some o)
  (hb:bareOp o = { dst:=none,op:=Op.store t (Operand.tmp p) (Operand.tmp v),type:=0,pos := "",after:=#[],guard:=none })
  (h:∀ K':Act→World→Prop,Shut (∀ a w,S w→(S w→wpAnyH P md ops Q S fuel (listed.setIfInBounds i true) a w)→K' a w)→if Region.wanted { dst:=none,op:=Op.store t (Operand.tmp p) (Operand.tmp v),type:=0,pos := "",after:=#[],guard:=none } (yielded ops a.tmps)=true then Oper.wp P { dst:=none,op:=Op.store t (Operand.tmp p) (Operand.tmp v),type:=0,pos := "",after:=#[],guard:=none } a w K' Q else K' (a.put none undef) w) :
  wpAnyH P md ops Q S (fuel+1) listed a w:=won i _ hr ho hb h
end
end Go
namespace Go.Proofs.YtgabigepocfllaaGreatDoor
open Go.RowKit Vn
theorem pA {α:Type} (xs:List α) (i:Nat) (a:α):xs.toArray.setIfInBounds i a=(xs.set i a).toArray:=List.setIfInBounds_toArray ..
theorem pB {α:Type} (x a:α) (xs:List α):(x :: xs).set 0 a=a :: xs:=List.set_cons_zero
theorem pC {α:Type} (x a:α) (xs:List α) (n:Nat):(x :: xs).set (n+1) a=x :: xs.set n a:=List.set_cons_succ
theorem Box.a1 {w:World} {b:Nat} {x0:Value} {t:TypeId} (h:Box w b #[x0] t):∀ w',Ext w w'→w'.cell? ⟨b,0,none⟩=some x0:=fun _ k=>(h.ext k).cell 0
theorem Box.a2 {w:World} {b:Nat} {x0 x1:Value} {t:TypeId} (h:Box w b #[x0,x1] t):∀ w',Ext w w'→w'.cell? ⟨b,0,none⟩=some x0∧w'.cell? ⟨b,1,none⟩=some x1:=fun _ k=>(h.ext k).c2
theorem Box.a3 {w:World} {b:Nat} {x0 x1 x2:Value} {t:TypeId} (h:Box w b #[x0,x1,x2] t):∀ w',Ext w w'→w'.cell? ⟨b,0,none⟩=some x0∧w'.cell? ⟨b,1,none⟩=some x1∧w'.cell? ⟨b,2,none⟩=some x2:=fun _ k=>(h.ext k).c3
theorem Box.a4 {w:World} {b:Nat} {x0 x1 x2 x3:Value} {t:TypeId} (h:Box w b #[x0,x1,x2,x3] t):∀ w',Ext w w'→w'.cell? ⟨b,0,none⟩=some x0∧w'.cell? ⟨b,1,none⟩=some x1∧w'.cell? ⟨b,2,none⟩=some x2∧w'.cell? ⟨b,3,none⟩=some x3:=fun _ k=>(h.ext k).c4
theorem Box.a5 {w:World} {b:Nat} {x0 x1 x2 x3 x4:Value} {t:TypeId} (h:Box w b #[x0,x1,x2,x3,x4] t):∀ w',Ext w w'→w'.cell? ⟨b,0,none⟩=some x0∧w'.cell? ⟨b,1,none⟩=some x1∧w'.cell? ⟨b,2,none⟩=some x2∧w'.cell? ⟨b,3,none⟩=some x3∧w'.cell? ⟨b,4,none⟩=some x4:=fun _ k=>(h.ext k).c5
theorem Box.a9 {w:World} {b:Nat} {x0 x1 x2 x3 x4 x5 x6 x7 x8:Value} {t:TypeId} (h:Box w b #[x0,x1,x2,x3,x4,x5,x6,x7,x8] t):∀ w',Ext w w'→w'.cell? ⟨b,0,none⟩=some x0∧w'.cell? ⟨b,1,none⟩=some x1∧w'.cell? ⟨b,2,none⟩=some x2∧w'.cell? ⟨b,3,none⟩=some x3∧w'.cell? ⟨b,4,none⟩=some x4 ∧
  w'.cell? ⟨b,5,none⟩=some x5∧w'.cell? ⟨b,6,none⟩=some x6∧w'.cell? ⟨b,7,none⟩=some x7∧w'.cell? ⟨b,8,none⟩=some x8:=fun _ k=>⟨(h.ext k).cell 0,(h.ext k).cell 1,(h.ext k).cell 2,(h.ext k).cell 3,(h.ext k).cell 4,(h.ext k).cell 5,(h.ext k).cell 6,(h.ext k).cell 7,(h.ext k).cell 8⟩
theorem Ext.cl {W W1:World} {P:World→Prop} (g:Ext W W1) (h:∀ w',Ext W w'→P w'):∀ w',Ext W1 w'→P w':=fun w' k=>h w' (g.trans k)
theorem cland {R P Q:World→Prop} (h:∀ w',R w'→P w') (k:∀ w',R w'→Q w'):∀ w',R w'→P w'∧Q w':=fun w' j=>⟨h w' j,k w' j⟩
def But (W:World) (z:Nat) (w':World):Prop:=∀ b cs t,b≠z→Box W b cs t→Box w' b cs t
theorem Ext.but {W w':World} {z:Nat} (h:Ext W w'):But W z w':=fun _ _ _ _ k=>k.ext h
theorem But.sto {W wk W1:World} {z:Nat} (h:But W z wk) (ho:∀ b' cs' t',b'≠z→Box wk b' cs' t'→Box W1 b' cs' t'):But W z W1:=fun b cs t hne k=>ho b cs t hne (h b cs t hne k)
theorem Box.bt {w:World} {b z:Nat} {cs:Array Value} {t:TypeId} (h:Box w b cs t) (hne:b≠z) {P:World→Prop} (k:∀ w,Box w b cs t→P w):∀ w',But w z w'→P w':=fun w' j=>k w' (j b cs t hne h)
theorem Box.n1 {b:Nat} {x0:Value} {t:TypeId}:∀ w,Box w b #[x0] t→w.cell? ⟨b,0,none⟩=some x0:=fun _ h=>h.cell 0
theorem Box.n2 {b:Nat} {x0 x1:Value} {t:TypeId}:∀ w,Box w b #[x0,x1] t→w.cell? ⟨b,0,none⟩=some x0∧w.cell? ⟨b,1,none⟩=some x1:=fun _ h=>h.c2
theorem Box.n3 {b:Nat} {x0 x1 x2:Value} {t:TypeId}:∀ w,Box w b #[x0,x1,x2] t→w.cell? ⟨b,0,none⟩=some x0∧w.cell? ⟨b,1,none⟩=some x1∧w.cell? ⟨b,2,none⟩=some x2:=fun _ h=>h.c3
theorem Box.n4 {b:Nat} {x0 x1 x2 x3:Value} {t:TypeId}:∀ w,Box w b #[x0,x1,x2,x3] t→w.cell? ⟨b,0,none⟩=some x0∧w.cell? ⟨b,1,none⟩=some x1∧w.cell? ⟨b,2,none⟩=some x2∧w.cell? ⟨b,3,none⟩=some x3:=fun _ h=>h.c4
theorem Box.n5 {b:Nat} {x0 x1 x2 x3 x4:Value} {t:TypeId}:∀ w,Box w b #[x0,x1,x2,x3,x4] t→w.cell? ⟨b,0,none⟩=some x0∧w.cell? ⟨b,1,none⟩=some x1∧w.cell? ⟨b,2,none⟩=some x2∧w.cell? ⟨b,3,none⟩=some x3∧w.cell? ⟨b,4,none⟩=some x4:=fun _ h=>h.c5
end Go.Proofs.YtgabigepocfllaaGreatDoor
namespace Go.Proofs.YtgabigepocfllaaGreatDoor
open Go.RowKit Vn
set_option maxRecDepth 100000
set_option maxHeartbeats 8000000
theorem rbottom_zero (x y:Value) (w:World):Calls Tryz.prog 178 #[.agg #[.int .i64 0,x,y]] w fun e w'=>∃ a k c,e=.returned (.slice a k c)∧RefV w' (.slice a k c) 1∧Ext w w':=by
 go_enter Tryz.func178,Tryz.ntmps178
 go_wp2_with (go_at_call 179;refine (rone_c _).mono ?_;rintro e w1 ⟨a1,n1,c1,rfl,h1,hb1⟩)
 go_ret
 exact ⟨a1,n1,c1,rfl,h1,(Below.alloc (Below.refl _ w) (Nat.le_refl _) _).trans (hb1.mono (by simp))⟩
theorem rbottom_some (s:Int) (hs:(s==0)=false) (x:Value) (a:Option Addr) (n c:Nat) (w:World):Calls Tryz.prog 178 #[.agg #[.int .i64 s,x,.slice a n c]] w fun e w'=>e=.returned (.slice a n c)∧Ext w w':=by
 go_enter Tryz.func178,Tryz.ntmps178
 go_wp2_with fail;go_ret
 exact ⟨rfl,Below.alloc (Below.refl _ w) (Nat.le_refl _) _⟩
theorem rbottom_c (v:Value) (q:Rat) (w:World) (h:RNumV w v q):Calls Tryz.prog 178 #[v] w fun e w'=>∃ a k c,e=.returned (.slice a k c)∧RefV w' (.slice a k c) q.den∧Ext w w':=by
 obtain ⟨a,n,c,a',n',c',rfl,h2,h3⟩:=h
 by_cases h0:q=0
 ·subst h0
  exact rbottom_zero _ _ w
 ·rw [if_neg h0] at h3;have hs:(q.num.sign==0)=false:=beq_eq_false_iff_ne.2 (fun e=>h0 (Rat.num_eq_zero.1 (Int.sign_eq_zero_iff_zero.1 e)));refine (rbottom_some q.num.sign hs _ a' n' c' w).mono ?_;rintro e w' ⟨rfl,hb⟩
  exact ⟨_,_,_,rfl,h3.ext hb,hb⟩
theorem sm_pow (k:Nat):Sm (k+1) (2^k):=Nat.pow_lt_pow_right (by decide) (by omega)
theorem rpower_step (k:Nat) (w:World) (h0:0<k) (hk:k≤10000000) (IH:Hid (∀ w,Calls Tryz.prog 213 #[.int .i64 ((k/2:Nat):Int)] w fun e w'=>∃ a k' c,e=.returned (.slice a k' c)∧Hid (RefV w' (.slice a k' c) (2^(k/2)))∧Ext w w')) :
  Calls Tryz.prog 213 #[.int .i64 (k:Nat)] w fun e w'=>∃ a k' c,e=.returned (.slice a k' c)∧Hid (RefV w' (.slice a k' c) (2^k))∧Ext w w':=by
 have hz:((k:Int)==0)=false:=by simp;omega
 have CP:Hid (∀ w v,RefV w v (2^(k/2))→Calls Tryz.prog 180 #[v,v] w fun e w'=>∃ a k' c,e=.returned (.slice a k' c)∧Hid (RefV w' (.slice a k' c) (2^(k/2)*2^(k/2)))∧Ext w w'):=hid fun w v h=>rmul_c v v _ _ (k/2+1) w h h (sm_pow _) (sm_pow _) (by omega);have CS:Hid (∀ w v,RefV w v (2^(k/2)*2^(k/2))→Calls Tryz.prog 181 #[v,v] w fun e w'=>∃ a k' c,e=.returned (.slice a k' c)∧Hid (RefV w' (.slice a k' c) (2^(k/2)*2^(k/2)+2^(k/2)*2^(k/2)))∧Ext w w'):=hid fun w v h=>by
  have hs:Sm (k/2+k/2+1) (2^(k/2)*2^(k/2)):=by rw [←Nat.pow_add];exact sm_pow _
  exact rsum_c v v _ _ _ w h h hs hs (by omega)
 have HE:Hid (2^(k/2)*2^(k/2)=2^(k/2+k/2)):=hid (Nat.pow_add _ _ _).symm;obtain ⟨H,hH⟩:∃ H,H=k/2:=⟨_,rfl⟩;rw [←hH] at IH CP CS HE;have hq:((k:Int)/2)=((H:Nat):Int):=by omega
 have HH:=hid hH;clear hH
 rcases (show k%2=1∨k%2=0 by omega) with hp | hp
 ·have hm:((k:Int)%2==1)=true:=by simp;omega
  have HP:=hid hp;clear hp
  go_enter Tryz.func213,Tryz.ntmps213
  go_wp2_with (first | (go_at_call 213;refine (IH.o _).mono ?_;rintro e w1 ⟨a1,n1,c1,rfl,h1,hb1⟩;have HB1:=hid hb1;clear hb1) | (go_at_call 180;refine (CP.o _ _ h1.o).mono ?_;rintro e w2 ⟨a2,n2,c2,rfl,h2,hb2⟩;have HB2:=hid hb2;clear hb2) | (go_at_call 181;refine (CS.o _ _ h2.o).mono ?_;rintro e w3 ⟨a3,n3,c3,rfl,h3,hb3⟩;have HB3:=hid hb3;clear hb3))
  go_ret;refine ⟨_,_,_,rfl,hid ?_,HB1.o.trans (HB2.o.trans HB3.o)⟩;have e:2^k=2^H*2^H+2^H*2^H:=by
   rw [HE.o,←Nat.two_mul,←Nat.pow_succ'];congr 1;have:=HP.o;have:=HH.o;omega
  rw [e];exact h3.o
 ·have hm:((k:Int)%2==1)=false:=by simp;omega
  have HP:=hid hp;clear hp
  go_enter Tryz.func213,Tryz.ntmps213
  go_wp2_with (first | (go_at_call 213;refine (IH.o _).mono ?_;rintro e w1 ⟨a1,n1,c1,rfl,h1,hb1⟩;have HB1:=hid hb1;clear hb1) | (go_at_call 180;refine (CP.o _ _ h1.o).mono ?_;rintro e w2 ⟨a2,n2,c2,rfl,h2,hb2⟩;have HB2:=hid hb2;clear hb2))
  go_ret;refine ⟨_,_,_,rfl,hid ?_,HB1.o.trans HB2.o⟩;have e:2^k=2^H*2^H:=by
   rw [HE.o];congr 1;have:=HP.o;have:=HH.o;omega
  rw [e];exact h2.o
theorem rpower_zero (w:World):Calls Tryz.prog 213 #[.int .i64 0] w fun e w'=>∃ a k' c,e=.returned (.slice a k' c)∧Hid (RefV w' (.slice a k' c) 1)∧Ext w w':=by
 go_enter Tryz.func213,Tryz.ntmps213
 go_wp2_with (go_at_call 179;refine (rone_c _).mono ?_;rintro e w1 ⟨a1,n1,c1,rfl,h1,hb1⟩)
 go_ret
 exact ⟨a1,n1,c1,rfl,hid h1,hb1⟩
theorem rpower_c (k:Nat):∀ (w:World),k≤10000000→Calls Tryz.prog 213 #[.int .i64 (k:Nat)] w fun e w'=>∃ a k' c,e=.returned (.slice a k' c)∧Hid (RefV w' (.slice a k' c) (2^k))∧Ext w w':=by
 induction k using Nat.strongRecOn with
 | ind k ih =>
  intro w hk
  rcases Nat.eq_zero_or_pos k with h0 | h0
  ·subst h0;exact rpower_zero w
  ·exact rpower_step k w h0 hk (hid fun w=>ih (k/2) (Nat.div_lt_self h0 (by decide)) w (by omega))
theorem bl_iff {N m:Nat}:N<2^m↔bl N≤m:=by
 constructor
 ·exact bl_le_of_lt
 ·intro h;exact Nat.lt_of_lt_of_le (bl_lt N) (Nat.pow_le_pow_right (by decide) h)
theorem bl_low {l:List Nat} (h:Norm 1000000000 l):29*(l.length-1)≤bl (dv 1000000000 l):=by
 rcases Nat.eq_zero_or_pos l.length with h0 | h0
 ·omega
 ·have h1:=Trim.pos (B:=1000000000) (by decide) h.trim (by intro e;rw [e] at h0;simp at h0);have h2:2^(29*(l.length-1))≤1000000000^(l.length-1):=by rw [Nat.pow_mul];exact Nat.pow_le_pow_left (by decide) _
  rcases Nat.lt_or_ge (bl (dv 1000000000 l)) (29*(l.length-1)) with h3 | h3
  ·have:=bl_iff.2 (Nat.le_of_lt h3);omega
  ·exact h3
theorem bl_high {l:List Nat} (h:Norm 1000000000 l):bl (dv 1000000000 l)≤30*l.length:=by
 refine bl_iff.1 (Nat.lt_of_lt_of_le (dv_lt (by decide) h.dig) ?_);rw [Nat.pow_mul];exact Nat.pow_le_pow_left (by decide) _
theorem rlength_core (a:Option Addr) (n c N K:Nat) (w:World) (L:Nat) (hn:n≤300000) (HV:Hid (RefV w (.slice a n c) N)) (SN:Hid (Sm K N)) (HK:Hid (K≤10000000)) (HL:Hid (L=bl N)) (hlo:29*(n-1)≤L) (hhi:L≤30*n) :
  Calls Tryz.prog 228 #[.slice a n c] w fun e w'=>e=.returned (.int .i64 (L:Nat))∧Ext w w':=by
 obtain ⟨lo0,hlo0⟩:∃ x,x=29*(n-1):=⟨_,rfl⟩;have hmx:(max (0:Int) (29*((n:Int)-1)))=((lo0:Nat):Int):=by omega
 have CC:Hid (∀ w m v,RefV w v (2^m)→m≤10000000→RefV w (.slice a n c) N→Calls Tryz.prog 177 #[.slice a n c,v] w fun e w'=>e=.returned (.int .i64 (cmpN N (2^m)))∧Ext w w'):=hid fun w m v h1 hm h2=>rcmp_c _ v N (2^m) (K+m+1) w h2 h1 (SN.o.mono (by omega)) ((sm_pow m).mono (by omega)) (by have:=HK.o;omega);have HMX:=hid hmx;clear hmx
 go_enter Tryz.func228,Tryz.ntmps228
 go_upto_region 1 with (fail)
 go_cut [3,4] (fun x y wx=>x=.int .i64 ((lo0:Nat):Int)∧y=.int .i64 ((30*n:Nat):Int)∧Hid (Ext w wx))
 case first =>
  go_wp2_with fail
  all_goals
   go_meet
   exact ⟨vint (by have:=HMX.o;omega),vint (by omega),hid (Below.refl _ _)⟩
 case rest =>
  obtain ⟨rfl,rfl,HE0⟩:=hcut;clear HMX;go_wp2_with fail
  go_loopg [3,4] (30*n-lo0) (fun z x y wx=>∃ lo hi:Nat,x=.int .i64 (lo:Nat)∧y=.int .i64 (hi:Nat)∧lo≤L∧L≤hi∧hi≤30*n∧z=hi-lo∧Hid (Ext w wx))
  case atStart=>exact ⟨lo0,30*n,rfl,rfl,by omega,hhi,Nat.le_refl _,rfl,HE0⟩
  case round =>
   obtain ⟨lo,hi,rfl,rfl,l1,l2,l3,hz,HE⟩:=hrel
   rcases Nat.lt_or_ge lo hi with hlh | hlh
   ·have hd:decide ((lo:Int)<(hi:Int))=true:=decide_eq_true (by omega);obtain ⟨m,hm⟩:∃ m,m=(lo+hi)/2:=⟨_,rfl⟩;have hmi:((lo:Int)+(hi:Int))/2=((m:Nat):Int):=by omega
    have hm1:lo≤m:=by omega
    have hm2:m<hi:=by omega
    have hm3:m≤10000000:=by omega
    obtain ⟨cc,hcc⟩:∃ x,x=cmpN N (2^m):=⟨_,rfl⟩;have CC3:Hid (∀ w v,RefV w v (2^m)→RefV w (.slice a n c) N→Calls Tryz.prog 177 #[.slice a n c,v] w fun e w'=>e=.returned (.int .i64 cc)∧Ext w w'):=hid fun w v h1 h2=>by rw [hcc];exact CC.o w m v h1 hm3 h2
    have hcl:cc<0↔L≤m:=by
     rw [HL.o,←bl_iff,hcc];unfold cmpN
     split
     ·omega
     ·split<;>omega
    clear hcc hm
    rcases Nat.lt_or_ge m L with hml | hml
    ·have hd2:decide (cc<0)=false:=decide_eq_false (fun h=>by have:=hcl.1 h;omega);clear hcl
     go_wp2_with (first | (go_at_call 213;refine (rpower_c m _ (by omega)).mono ?_;rintro e w1 ⟨a1,n1,c1,rfl,h1,hb1⟩;have HB1:=hid hb1;clear hb1) | (go_at_call 177;refine (CC3.o _ _ h1.o (HV.o.ext (HE.o.trans HB1.o))).mono ?_;rintro e w2 ⟨rfl,hb2⟩;have HB2:=hid hb2;clear hb2))
     go_roundg (hi-(m+1))
     case measure=>omega
     case rel=>exact ⟨m+1,hi,by go_num,rfl,by omega,l2,l3,rfl,hid (HE.o.trans (HB1.o.trans HB2.o))⟩
    ·have hd2:decide (cc<0)=true:=decide_eq_true (hcl.2 hml);clear hcl
     go_wp2_with (first | (go_at_call 213;refine (rpower_c m _ (by omega)).mono ?_;rintro e w1 ⟨a1,n1,c1,rfl,h1,hb1⟩;have HB1:=hid hb1;clear hb1) | (go_at_call 177;refine (CC3.o _ _ h1.o (HV.o.ext (HE.o.trans HB1.o))).mono ?_;rintro e w2 ⟨rfl,hb2⟩;have HB2:=hid hb2;clear hb2))
     go_roundg (m-lo)
     case measure=>omega
     case rel=>exact ⟨lo,m,rfl,rfl,l1,hml,by omega,rfl,hid (HE.o.trans (HB1.o.trans HB2.o))⟩
   ·have hd:decide ((lo:Int)<(hi:Int))=false:=decide_eq_false (by omega);obtain rfl:lo=L:=by omega
    go_wp2_with fail;go_ret
    exact ⟨rfl,HE.o⟩
theorem rlength_c (x:Value) (N K:Nat) (w:World) (hx:RefV w x N) (sx:Sm K N) (hK:K≤300000) :
  Calls Tryz.prog 228 #[x] w fun e w'=>e=.returned (.int .i64 (bl N:Nat))∧Ext w w':=by
 have hx0:=hx;obtain ⟨a,b,off,n,cap,l,rfl,h1,h2,h3,h4,h5,h6,h7,h8⟩:=hx.open;have e1:=sx.rlen h5.o h6.o;have e2:=bl_low h5.o;have e3:=bl_high h5.o;rw [h6.o,h3.o] at e2 e3;rw [h3.o] at e1
 exact rlength_core a n cap N K w (bl N) (by omega) (hid hx0) (hid sx) (hid (by omega)) (hid rfl) e2 e3
end Go.Proofs.YtgabigepocfllaaGreatDoor
