/- What the short walks over boxes lean on: facts that hold in every later world; drawn regions, one operation after the other. -/
import Derived.Test.YtopmjkkjlagfcaaGreatDoorX26
namespace Go
section
variable {P:Program} {ops:Array Oper} {Q:Exit→Act→World→Prop} {md:Region.Mode} {S:World→Prop}
theorem wtk (i:Nat) (d:Option Nat) {oi:Oper} {v:Value} {fuel:Nat} {listed:Array Bool} {a:Act} {w:World} (hi:ops[i]?=some oi) (hd:oi.dst=d)
  (hb:(Region.noSelect ops&&Region.free md ops listed i&&(Region.ready md ops listed).contains i)=true)
  (hQ:∀ c a w,Q (.panic c) (a.put d v) w→Q (.panic c) a w) (hy:YieldsIf P ops S oi v a) (hS:S w)
  (h:wpAnyH P md ops Q S fuel (listed.setIfInBounds i true) (a.put d v) w):wpAnyH P md ops Q S (fuel+1) listed a w:=by
 subst hd;rw [Bool.and_eq_true,Bool.and_eq_true] at hb
 exact wpAnyH_take hi hb.1.1 hb.1.2 hb.2 hQ hy hS h
theorem wts (i d:Nat) {oi:Oper} {v:Value} {fuel:Nat} {listed:Array Bool} {a:Act} {w:World} (hi:ops[i]?=some oi) (hd:oi.dst=some d)
  (hb:(Region.noSelect ops&&Region.free md ops listed i&&(Region.ready md ops listed).contains i&&Region.wanted oi (yielded ops a.tmps))=true)
  (hQ:∀ c a w,Q (.panic c) (a.put (some d) v) w→Q (.panic c) a w) (hS:S w) (hy:∀ w',S w'→(execOp a.eval oi).run P w'=.ok (.value v) w')
  (h:wpAnyH P md ops Q S fuel (listed.setIfInBounds i true) (a.put (some d) v) w):wpAnyH P md ops Q S (fuel+1) listed a w:=by
 rw [Bool.and_eq_true] at hb
 exact wtk i (some d) hi hd hb.1 hQ (Or.inl ⟨hb.2,hy⟩) hS h
def bareOp (o:Oper):Oper := { o with pos := "",after:=#[] }
theorem consb {fuel:Nat} {listed:Array Bool} {a:Act} {w:World} (i:Nat) (b:Oper) {o:Oper} {rs:List Nat} (ho:ops[i]?=some o) (hb:bareOp o=b)
  (h:∀ K':Act→World→Prop,Shut (∀ a w,S w→(S w→wpAnyH P md ops Q S fuel (listed.setIfInBounds i true) a w)→K' a w)→if Region.wanted b (yielded ops a.tmps)=true then Oper.wp P b a w K' Q else K' (a.put b.dst undef) w)
  (hs:AllReadyH P md ops Q S fuel listed a w rs):AllReadyH P md ops Q S fuel listed a w (i :: rs):=by
 subst hb
 exact AllReadyH.cons ho h hs
theorem won (i:Nat) (b:Oper) {o:Oper} {fuel:Nat} {listed:Array Bool} {a:Act} {w:World} (hr:Region.ready md ops listed=[i]) (ho:ops[i]?=some o) (hb:bareOp o=b)
  (h:∀ K':Act→World→Prop,Shut (∀ a w,S w→(S w→wpAnyH P md ops Q S fuel (listed.setIfInBounds i true) a w)→K' a w)→if Region.wanted b (yielded ops a.tmps)=true then Oper.wp P b a w K' Q else K' (a.put b.dst undef) w) :
  wpAnyH P md ops Q S (fuel+1) listed a w :=
 wpAnyH_ready hr (by simp) (consb i b ho hb h AllReadyH.nil)
theorem wonc (i d f:Nat) (xs:Array Operand) (ts:Array TypeId) (t:TypeId) {o:Oper} {fuel:Nat} {listed:Array Bool} {a:Act} {w:World} (hr:Region.ready md ops listed=[i]) (ho:ops[i]?=some o)
  (hb:bareOp o = { dst:=some d,op:=Op.call { callee:=Callee.value (Operand.func f),args:=xs,argTypes:=ts },type:=t,pos := "",after:=#[],guard:=none })
  (h:∀ K':Act→World→Prop,Shut (∀ a w,S w→(S w→wpAnyH P md ops Q S fuel (listed.setIfInBounds i true) a w)→K' a w)→if Region.wanted { dst:=some d,op:=Op.call { callee:=Callee.value (Operand.func f),args:=xs,argTypes:=ts },type:=t,pos := "",after:=#[],guard:=none } (yielded ops a.tmps)=true then Oper.wp P { dst:=some d,op:=Op.call { callee:=Callee.value (Operand.func f),args:=xs,argTypes:=ts },type:=t,pos := "",after:=#[],guard:=none } a w K' Q else K' (a.put (some d) undef) w) :
  wpAnyH P md ops Q S (fuel+1) listed a w:=won i _ hr ho hb h
theorem wons (i t p v:Nat) {o:Oper} {fuel:Nat} {listed:Array Bool} {a:Act} {w:World} (hr:Region.ready md ops listed=[i]) (ho:ops[i]?=some o)
  (hb:bareOp o = { dst:=none,op:=Op.store t (Operand.tmp p) (Operand.tmp v),type:=0,pos := "",after:=#[],guard:=none })
  (h:∀ K':Act→World→Prop,Shut (∀ a w,S w→(S w→wpAnyH P md ops Q S fuel (listed.setIfInBounds i true) a w)→K' a w)→if Region.wanted { dst:=none,op:=Op.store t (Operand.tmp p) (Operand.tmp v),type:=0,pos := "",after:=#[],guard:=none } (yielded ops a.tmps)=true then Oper.wp P { dst:=none,op:=Op.store t (Operand.tmp p) (Operand.tmp v),type:=0,pos := "",after:=#[],guard:=none } a w K' Q else K' (a.put none undef) w) :
  wpAnyH P md ops Q S (fuel+1) listed a w:=won i _ hr ho hb h
end
end Go
namespace Go.Proofs.YtopmjkkjlagfcaaGreatDoor
open Go.RowKit Vn
theorem pA {α:Type} (xs:List α) (i:Nat) (a:α):xs.toArray.setIfInBounds i a=(xs.set i a).toArray:=List.setIfInBounds_toArray ..
theorem pB {α:Type} (x a:α) (xs:List α):(x :: xs).set 0 a=a :: xs:=List.set_cons_zero
theorem pC {α:Type} (x a:α) (xs:List α) (n:Nat):(x :: xs).set (n+1) a=x :: xs.set n a:=List.set_cons_succ
theorem Box.a1 {w:World} {b:Nat} {x0:Value} {t:TypeId} (h:Box w b #[x0] t):∀ w',Ext w w'→w'.cell? ⟨b,0,none⟩=some x0:=fun _ k=>(h.ext k).cell 0
theorem Box.a2 {w:World} {b:Nat} {x0 x1:Value} {t:TypeId} (h:Box w b #[x0,x1] t):∀ w',Ext w w'→w'.cell? ⟨b,0,none⟩=some x0∧w'.cell? ⟨b,1,none⟩=some x1:=fun _ k=>(h.ext k).c2
theorem Box.a3 {w:World} {b:Nat} {x0 x1 x2:Value} {t:TypeId} (h:Box w b #[x0,x1,x2] t):∀ w',Ext w w'→w'.cell? ⟨b,0,none⟩=some x0∧w'.cell? ⟨b,1,none⟩=some x1∧w'.cell? ⟨b,2,none⟩=some x2:=fun _ k=>(h.ext k).c3
theorem Box.a4 {w:World} {b:Nat} {x0 x1 x2 x3:Value} {t:TypeId} (h:Box w b #[x0,x1,x2,x3] t):∀ w',Ext w w'→w'.cell? ⟨b,0,none⟩=some x0∧w'.cell? ⟨b,1,none⟩=some x1∧w'.cell? ⟨b,2,none⟩=some x2∧w'.cell? ⟨b,3,none⟩=some x3:=fun _ k=>(h.ext k).c4
theorem Box.a5 {w:World} {b:Nat} {x0 x1 x2 x3 x4:Value} {t:TypeId} (h:Box w b #[x0,x1,x2,x3,x4] t):∀ w',Ext w w'→w'.cell? ⟨b,0,none⟩=some x0∧w'.cell? ⟨b,1,none⟩=some x1∧w'.cell? ⟨b,2,none⟩=some x2∧w'.cell? ⟨b,3,none⟩=some x3∧w'.cell? ⟨b,4,none⟩=some x4:=fun _ k=>(h.ext k).c5
theorem Box.a9 {w:World} {b:Nat} {x0 x1 x2 x3 x4 x5 x6 x7 x8:Value} {t:TypeId} (h:Box w b #[x0,x1,x2,x3,x4,x5,x6,x7,x8] t):∀ w',Ext w w'→w'.cell? ⟨b,0,none⟩=some x0∧w'.cell? ⟨b,1,none⟩=some x1∧w'.cell? ⟨b,2,none⟩=some x2∧w'.cell? ⟨b,3,none⟩=some x3∧w'.cell? ⟨b,4,none⟩=some x4 ∧
  w'.cell? ⟨b,5,none⟩=some x5∧w'.cell? ⟨b,6,none⟩=some x6∧w'.cell? ⟨b,7,none⟩=some x7∧w'.cell? ⟨b,8,none⟩=some x8:=fun _ k=>⟨(h.ext k).cell 0,(h.ext k).cell 1,(h.ext k).cell 2,(h.ext k).cell 3,(h.ext k).cell 4,(h.ext k).cell 5,(h.ext k).cell 6,(h.ext k).cell 7,(h.ext k).cell 8⟩
theorem Ext.cl {W W1:World} {P:World→Prop} (g:Ext W W1) (h:∀ w',Ext W w'→P w'):∀ w',Ext W1 w'→P w':=fun w' k=>h w' (g.trans k)
theorem cland {R P Q:World→Prop} (h:∀ w',R w'→P w') (k:∀ w',R w'→Q w'):∀ w',R w'→P w'∧Q w':=fun w' j=>⟨h w' j,k w' j⟩
def But (W:World) (z:Nat) (w':World):Prop:=∀ b cs t,b≠z→Box W b cs t→Box w' b cs t
theorem Ext.but {W w':World} {z:Nat} (h:Ext W w'):But W z w':=fun _ _ _ _ k=>k.ext h
theorem But.sto {W wk W1:World} {z:Nat} (h:But W z wk) (ho:∀ b' cs' t',b'≠z→Box wk b' cs' t'→Box W1 b' cs' t'):But W z W1:=fun b cs t hne k=>ho b cs t hne (h b cs t hne k)
theorem Box.bt {w:World} {b z:Nat} {cs:Array Value} {t:TypeId} (h:Box w b cs t) (hne:b≠z) {P:World→Prop} (k:∀ w,Box w b cs t→P w):∀ w',But w z w'→P w':=fun w' j=>k w' (j b cs t hne h)
theorem Box.n1 {b:Nat} {x0:Value} {t:TypeId}:∀ w,Box w b #[x0] t→w.cell? ⟨b,0,none⟩=some x0:=fun _ h=>h.cell 0
theorem Box.n2 {b:Nat} {x0 x1:Value} {t:TypeId}:∀ w,Box w b #[x0,x1] t→w.cell? ⟨b,0,none⟩=some x0∧w.cell? ⟨b,1,none⟩=some x1:=fun _ h=>h.c2
theorem Box.n3 {b:Nat} {x0 x1 x2:Value} {t:TypeId}:∀ w,Box w b #[x0,x1,x2] t→w.cell? ⟨b,0,none⟩=some x0∧w.cell? ⟨b,1,none⟩=some x1∧w.cell? ⟨b,2,none⟩=some x2:=fun _ h=>h.c3
theorem Box.n4 {b:Nat} {x0 x1 x2 x3:Value} {t:TypeId}:∀ w,Box w b #[x0,x1,x2,x3] t→w.cell? ⟨b,0,none⟩=some x0∧w.cell? ⟨b,1,none⟩=some x1∧w.cell? ⟨b,2,none⟩=some x2∧w.cell? ⟨b,3,none⟩=some x3:=fun _ h=>h.c4
theorem Box.n5 {b:Nat} {x0 x1 x2 x3 x4:Value} {t:TypeId}:∀ w,Box w b #[x0,x1,x2,x3,x4] t→w.cell? ⟨b,0,none⟩=some x0∧w.cell? ⟨b,1,none⟩=some x1∧w.cell? ⟨b,2,none⟩=some x2∧w.cell? ⟨b,3,none⟩=some x3∧w.cell? ⟨b,4,none⟩=some x4:=fun _ h=>h.c5
end Go.Proofs.YtopmjkkjlagfcaaGreatDoor
