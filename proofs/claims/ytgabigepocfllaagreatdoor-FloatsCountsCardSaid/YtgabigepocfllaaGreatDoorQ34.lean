/- floats: the operations of whatever format, mode and words; the law's helpers. -/
import Derived.Test.YtgabigepocfllaaGreatDoorQ30
import Derived.Test.YtgabigepocfllaaGreatDoorQ33
namespace Go.Proofs.YtgabigepocfllaaGreatDoor
open Go.RowKit Vn
set_option maxRecDepth 100000
set_option maxHeartbeats 8000000
abbrev z3 (r:Nat×Int×Int):AV:=.t [wA r.1,iA r.2.1,iA r.2.2]
def opZ (E P M:Int) (i j:Nat) (R:Nat→Nat→Nat→Nat×Nat):Nat×Int×Int :=
 if ¬ ((0≤M∧M≤4)∧Fmt E P) then (0,0,2) else if ¬ (i<2^(E+P).toNat∧j<2^(E+P).toNat) then (0,0,6)
 else ((opnR E.toNat P.toNat i j (R E.toNat P.toNat M.toNat)).1,((opnR E.toNat P.toNat i j (R E.toNat P.toNat M.toNat)).2:Nat),0)
theorem opZ_good {E P m i j:Nat} {R:Nat→Nat→Nat→Nat×Nat} (hF:Fmt E P) (hm:m≤4) (hi:i<2^(E+P)) (hj:j<2^(E+P)) :
  opZ E P m i j R=((opnR E P i j (R E P m)).1,(((opnR E P i j (R E P m)).2:Nat):Int),0):=by
 have e:((E:Int)+P).toNat=E+P:=by omega
 unfold opZ;rw [if_neg (fun h=>h ⟨⟨by omega,by omega⟩,hF⟩),e,if_neg (fun h=>h ⟨hi,hj⟩)]
 simp
theorem fmt_cases {E P M:Int} (h:(0≤M∧M≤4)∧Fmt E P):∃ e p m:Nat,E=e∧P=p∧M=m∧m≤4∧Fmt (e:Int) (p:Int):=by
 have hF:=h.2;obtain ⟨h1,h2,h3,h4,h5⟩:=hF
 exact ⟨E.toNat,P.toNat,M.toNat,by omega,by omega,by omega,by omega,by rw [show ((E.toNat:Nat):Int)=E by omega,show ((P.toNat:Nat):Int)=P by omega];exact h.2⟩
theorem cOpZ {f:FuncId} {E P M:Int} {i j:Nat} {R:Nat→Nat→Nat→Nat×Nat} (h1:W128 i) (h2:W128 j)
  (hf:∀ E P m:Nat,Fmt E P→m≤4→i<2^(E+P)→j<2^(E+P)→¬ 4≤kd E P i→¬ 4≤kd E P j→Cal Tryz.prog OQ f [mA E P m (bias E:Nat),oA (kd E P i) (wn E P i) (vl E P i),oA (kd E P j) (wn E P j) (vl E P j)] (resA (R E P m))) :
  Cal Tryz.prog OQ 143 [fA E P,iA M,wA i,wA j,fnA f] (z3 (opZ E P M i j R)):=by
 by_cases h:(0≤M∧M≤4)∧Fmt E P
 ·obtain ⟨e,p,m,rfl,rfl,rfl,hm,hF⟩:=fmt_cases h
  by_cases hw:i<2^(e+p)∧j<2^(e+p)
  ·rw [opZ_good hF hm hw.1 hw.2]
   exact cOperate hF hm hw.1 hw.2 (hf e p m hF hm hw.1 hw.2)
  ·have:opZ e p m i j R=(0,0,6):=by
    have e':((e:Int)+p).toNat=e+p:=by omega
    unfold opZ;rw [if_neg (fun k=>k h),e',if_pos hw]
   rw [this]
   exact cOperateForm hF hm h1 h2 hw
 ·rw [show opZ E P M i j R=_ from if_pos h]
  exact cOperateBad h
section
variable {E P M:Int} {i j:Nat}
def addZ (E P M:Int) (i j:Nat):=opZ E P M i j fun e p m=>sumR e p m (kd e p i) (wn e p i) (vl e p i) (kd e p j) (wn e p j) (vl e p j)
def mulZ (E P M:Int) (i j:Nat):=opZ E P M i j fun e p m=>mulR e p m (kd e p i) (wn e p i) (vl e p i) (kd e p j) (wn e p j) (vl e p j)
def divZ (E P M:Int) (i j:Nat):=opZ E P M i j fun e p m=>quoR e p m (kd e p i) (wn e p i) (vl e p i) (kd e p j) (wn e p j) (vl e p j)
theorem cAddZ (h1:W128 i) (h2:W128 j):Cal Tryz.prog OQ 57 [fA E P,iA M,wA i,wA j] (z3 (addZ E P M i j)):=by
 refine fn_call TK MX Tryz.func57 rfl (by kernel_rfl) (by kernel_rfl) (by kernel_rfl) rfl rfl ?_
 conv=>whnf
 refine ⟨_,cOpZ h1 h2 fun E P m hF hm hi hj _ _=>cAddM hF hm (sm_word hF) (sm_word hF) (by decide),?_⟩
 conv=>whnf
 rfl
theorem cMulZ (h1:W128 i) (h2:W128 j):Cal Tryz.prog OQ 61 [fA E P,iA M,wA i,wA j] (z3 (mulZ E P M i j)):=by
 refine fn_call TK MX Tryz.func61 rfl (by kernel_rfl) (by kernel_rfl) (by kernel_rfl) rfl rfl ?_
 conv=>whnf
 refine ⟨_,cOpZ h1 h2 fun E P m hF hm hi hj _ _=>cMulM hF hm (sm_word hF) (sm_word hF) (by decide),?_⟩
 conv=>whnf
 rfl
theorem cDivZ (h1:W128 i) (h2:W128 j):Cal Tryz.prog OQ 63 [fA E P,iA M,wA i,wA j] (z3 (divZ E P M i j)):=by
 refine fn_call TK MX Tryz.func63 rfl (by kernel_rfl) (by kernel_rfl) (by kernel_rfl) rfl rfl ?_
 conv=>whnf
 refine ⟨_,cOpZ h1 h2 fun E P m hF hm hi hj k1 k2=>cDivM hF hm (sm_word hF) (sm_word hF) (by decide) (by have:=kd_cases E P i;omega) (by have:=kd_cases E P j;omega) (fun h=>vlNe h),?_⟩
 conv=>whnf
 rfl
end
def casR (E P E' P' m n:Nat):Nat×Nat:=if 4≤kd E P n then (nanw E' P',if kd E P n=5 then 1 else 0) else exaR E' P' m (kd E P n) (wn E P n) (vl E P n)
theorem cCast {E P E' P' m n:Nat} (hF:Fmt E P) (hF':Fmt E' P') (hm:m≤4) (hn:n<2^(E+P)):Cal Tryz.prog OQ 37 [fA E P,fA E' P',iA (m:Nat),wA n] (res3 (casR E P E' P' m n)):=by
 refine fn_call TK MX Tryz.func37 rfl (by kernel_rfl) (by kernel_rfl) (by kernel_rfl) rfl rfl ?_
 conv=>whnf
 refine ⟨_,cWith0 hF' hm,?_⟩
 conv=>whnf
 refine ⟨_,cWith1 hF hm (w128 hF hn),?_⟩;rw [if_pos hn]
 conv=>whnf
 refine ⟨_,cLook hF (fmt_n hF).2.2.2.2.2 (w128 hF hn),?_⟩
 conv=>whnf
 refine ⟨_,cSpecial1 hF' _ _ _,?_⟩
 conv=>whnf
 by_cases h:4≤kd E P n
 ·rw [show casR E P E' P' m n=_ from if_pos h,show decide (4≤wkind E P n)=true from dT h]
  conv=>whnf
  split<;>rfl
 ·rw [show casR E P E' P' m n=_ from if_neg h,show decide (4≤wkind E P n)=false from dF h]
  conv=>whnf
  refine ⟨_,cExactly hF' hm (sm_word hF) (by decide),?_⟩
  conv=>whnf
  rfl
theorem cDecode {E P n:Nat} (hF:Fmt E P) (hn:n<2^(E+P)):Cal Tryz.prog OQ 26 [fA E P,wA n] (.t [.g [.v (.int .i64 (kd E P n)),.v (.bool (wn E P n)),.v (.string (numText (vl E P n)))],iA 0]):=by
 refine fn_call TK MX Tryz.func26 rfl (by kernel_rfl) (by kernel_rfl) (by kernel_rfl) rfl rfl ?_
 conv=>whnf
 refine ⟨_,cWith1 (m:=0) hF (by decide) (w128 hF hn),?_⟩;rw [if_pos hn]
 conv=>whnf
 refine ⟨_,cLook hF (fmt_n hF).2.2.2.2.2 (w128 hF hn),?_⟩
 conv=>whnf
 refine ⟨_,cText (sm_word hF) (by decide),?_⟩
 conv=>whnf
 rfl
theorem cFlip {E P n:Nat} (hF:Fmt E P) (hn:n<2^(E+P)):Cal Tryz.prog OQ 147 [fA E P,wA n] (wA (flipW E P n)) :=
 calA [.m [.int .i64 (E:Nat),.int .i64 (P:Nat)],.w n] (r:=.w _) (by kernel_rfl) rfl fun w vs _ hv=>by
  obtain ⟨x,y,rfl,rfl,rfl⟩:=two_args hv;exact (rflip_c E P n w hF hn).mono fun _ _ ⟨h1,h2⟩=>⟨_,h1,rfl,h2⟩
def rsC (n:Nat) (y z:Int):List AC:=wdC n++[.v (.int .i64 y),.v (.int .i64 z)]
theorem cGot {n:Nat} {y z:Int}:Cal Tryz.prog OQ 36 [wA n,iA y,iA z] (.g (rsC n y z)):=by
 refine fn_call TK MX Tryz.func36 rfl (by kernel_rfl) (by kernel_rfl) (by kernel_rfl) rfl rfl ?_
 conv=>whnf
 rfl
theorem cSix:Cal Tryz.prog OQ 92 [] (fA 3 3):=by
 refine fn_call TK MX Tryz.func92 rfl (by kernel_rfl) (by kernel_rfl) (by kernel_rfl) rfl rfl ?_
 conv=>whnf
 rfl
theorem beq_t (a:Int):(a==a)=true:=by simp
theorem w_cells {a b:Nat} (ha:a<18446744073709551616) (hb:b<18446744073709551616):W128 (a*18446744073709551616+b)∧wdC (a*18446744073709551616+b)=[.v (.int .u64 (a:Nat)),.v (.int .u64 (b:Nat))]:=by
 refine ⟨by unfold W128;omega,?_⟩;unfold wdC;rw [show (a*18446744073709551616+b)/18446744073709551616=a by omega,show (a*18446744073709551616+b)%18446744073709551616=b by omega]
def Arg.val:Arg→Value
 | .s v=>v
 | .m vs=>.agg vs.toArray
 | _=>.bool false
def Arg.plain:Arg→Bool
 | .s v=>v.oneCell'
 | .m vs=>vs.all (·.oneCell')
 | _=>false
theorem of_args {S:Nat→Prop} {w:World}:∀ {xs:List Arg},xs.all Arg.plain=true→All2 (RepW OQ (fun _=>none) S w) (xs.map Arg.val) (xs.map Arg.av)
 | [],_=>trivial
 | a :: xs,h=>by
  rw [List.all_cons,Bool.and_eq_true] at h;refine ⟨?_,of_args h.2⟩
  match a,h.1 with
  | .s v,h=>exact ⟨rfl,h⟩
  | .m vs,h=>exact ⟨vs,rfl,of_scs h⟩
theorem cal_lawA {f:FuncId} (xs:List Arg) (h:Cal Tryz.prog OQ f (xs.map Arg.av) (bA true)) (hk:xs.all Arg.plain=true) (w:World) (hw:WM w) (hT:Tabs w) :
  Calls Tryz.prog f (xs.map Arg.val).toArray w fun e w'=>e=.returned (.bool true)∧Ext w w' :=
 (h.run (fun _=>False) w (xs.map Arg.val) (fun _ h=>h.elim) ⟨hw,hT⟩ (of_args hk)).mono fun _ _ ⟨_,h1,h2,h3⟩=>by
  subst h1;exact ⟨congrArg _ (show _=Value.bool true from h3.1),h2⟩
end Go.Proofs.YtgabigepocfllaaGreatDoor
