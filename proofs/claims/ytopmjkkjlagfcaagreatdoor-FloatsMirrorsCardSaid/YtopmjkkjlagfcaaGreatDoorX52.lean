/- FloatsMirrors: the law's walk, by reckoning. -/
import Derived.Test.YtopmjkkjlagfcaaGreatDoorX48
import Derived.Test.YtopmjkkjlagfcaaGreatDoorX51
namespace Go.Proofs.YtopmjkkjlagfcaaGreatDoor
open Go.RowKit Vn
set_option maxRecDepth 100000
set_option maxHeartbeats 8000000
theorem cAwake:Cal Tryz.prog OQ 11 [] (bA true) :=
 calA [] (r:=.s (.bool true)) (by kernel_rfl) rfl fun w vs hi hv=>by
  match vs,hv with
  | [],_=>exact (awake_c w hi.1 hi.2).mono fun _ _ ⟨h1,h2⟩=>⟨_,h1,rfl,h2⟩
def opA (E P M:Int) (i j:Nat) (c0 c1:Int):List AC:=[.v (.int .i64 E),.v (.int .i64 P),.v (.int .i64 M)]++wdC i++wdC j++[.v (.int .u64 c0),.v (.int .u64 c1)]
theorem sum_cases {E P m i j:Nat} (hF:Fmt E P) (hi:i<2^(E+P)) (hj:j<2^(E+P)) :
  let R:=opnR E P i j (sumR E P m (kd E P i) (wn E P i) (vl E P i) (kd E P j) (wn E P j) (vl E P j))
  let i':=flipW E P i
  let j':=flipW E P j
  Opp E P R (opnR E P i' j' (sumR E P (mirM m) (kd E P i') (wn E P i') (vl E P i') (kd E P j') (wn E P j') (vl E P j')))∨(R.1<2^(E+P)∧valR E P R.1=.t [nA 0,iA 0]):=by
 obtain ⟨hE,_,hP,_⟩:=fmt_n hF
 intro R i' j'
 by_cases h:¬ 4≤kd E P i→¬ 4≤kd E P j→vl E P i+vl E P j≠0∨kd E P i=3∨kd E P j=3
 ·left
  refine opnR_opp hF (flip_kd (by omega) (by omega) hi) (flip_kd (by omega) (by omega) hj) fun a b => ?_
  show Opp E P _ (sumR E P (mirM m) (kd E P (flipW E P i)) (wn E P (flipW E P i)) (vl E P (flipW E P i)) (kd E P (flipW E P j)) (wn E P (flipW E P j)) (vl E P (flipW E P j)))
  rw [flip_kd (by omega) (by omega) hi,flip_kd (by omega) (by omega) hj,(flip_p (by omega) hi).2.2,(flip_p (by omega) hj).2.2,flip_vl (by omega) (by omega) hi (by omega),flip_vl (by omega) (by omega) hj (by omega)]
  exact sumR_opp hF (h a b) fun _ _=>by grind
 ·right
  have ha:¬ 4≤kd E P i:=fun c=>h fun c'=>absurd c c';have hb:¬ 4≤kd E P j:=fun c=>h fun _ c'=>absurd c c';have hz:¬ (vl E P i+vl E P j≠0∨kd E P i=3∨kd E P j=3):=fun c=>h fun _ _=>c
  have:∃ s f,R=(sgb E P s,f):=by
   show ∃ s f,opnR E P i j _=_
   unfold opnR sumR;rw [if_neg (by omega),if_neg (fun c=>hz (.inr (.inl c.1))),if_neg (fun c=>hz (.inr (.inl c))),if_neg (fun c=>hz (.inr (.inr c))),if_neg (fun c=>hz (.inl c))]
   split<;>exact ⟨_,_,rfl⟩
  obtain ⟨s,f,e⟩:=this;rw [e];have h1:=sgb_ok hE (by omega) (P:=P) s;refine ⟨h1.1,?_⟩;have h2:=h1.2;unfold valueR at h2;rw [if_neg (fun c=>c h1.1)] at h2
  by_cases c:2<wkind E P (sgb E P s)
  ·rw [if_pos c] at h2;simp at h2
  ·rw [if_neg c] at h2
   show valR E P (sgb E P s)=_
   unfold valR;rw [if_pos (by omega),(Prod.mk.inj h2).1]
theorem mul_ne {q s:Rat} (h1:q≠0) (h2:s≠0):q*s≠0:=fun h=>(Rat.mul_eq_zero.1 h).elim h1 h2
theorem inv_ne {q:Rat} (h:q≠0):q⁻¹ ≠ 0:=fun e=>by
 have h1:=Rat.mul_inv_cancel q h;rw [e,Rat.mul_zero] at h1
 exact absurd h1 (by decide)
theorem mirM_le {m:Nat} (h:m≤4):mirM m≤4:=by unfold mirM;split<;>(try split)<;>omega
section
variable {E P m i j:Nat}
theorem mul_opp (hF:Fmt E P) {i' j':Nat} (hi:kd E P i'=kd E P i) (hj:kd E P j'=kd E P j) (hn:(wn E P i' != wn E P j') = !(wn E P i != wn E P j)) (hv:kd E P i≤3→kd E P j≤3→vl E P i'*vl E P j' = -(vl E P i*vl E P j)) :
  Opp E P (opnR E P i j (mulR E P m (kd E P i) (wn E P i) (vl E P i) (kd E P j) (wn E P j) (vl E P j))) (opnR E P i' j' (mulR E P (mirM m) (kd E P i') (wn E P i') (vl E P i') (kd E P j') (wn E P j') (vl E P j'))):=by
 refine opnR_opp hF hi hj fun a b => ?_;rw [hi,hj];refine mulR_opp hF hn (fun _=>hv (by omega) (by omega)) fun h1 h2 => ?_;have e1:kd E P i=2:=by have:=kd_cases E P i;have:=kd_cases E P j;unfold minK at h1;unfold maxK at h2;split at h1<;>split at h2<;>omega
 have e2:kd E P j=2:=by have:=kd_cases E P i;have:=kd_cases E P j;unfold minK at h1;unfold maxK at h2;split at h1<;>split at h2<;>omega
 exact mul_ne (vlNe e1) (vlNe e2)
theorem div_opp (hF:Fmt E P) {i' j':Nat} (hi:kd E P i'=kd E P i) (hj:kd E P j'=kd E P j) (hn:(wn E P i' != wn E P j') = !(wn E P i != wn E P j)) (hv:kd E P i≤3→kd E P j≤3→vl E P i'/vl E P j' = -(vl E P i/vl E P j)) :
  Opp E P (opnR E P i j (quoR E P m (kd E P i) (wn E P i) (vl E P i) (kd E P j) (wn E P j) (vl E P j))) (opnR E P i' j' (quoR E P (mirM m) (kd E P i') (wn E P i') (vl E P i') (kd E P j') (wn E P j') (vl E P j'))):=by
 refine opnR_opp hF hi hj fun a b => ?_;rw [hi,hj];refine quoR_opp hF hn (fun h1 h2=>⟨hv (by omega) (by omega),?_⟩) (by have:=kd_cases E P i;omega) (by have:=kd_cases E P j;omega);rw [Rat.div_def]
 exact mul_ne (vlNe h1) (inv_ne (vlNe h2))
theorem cas_opp {E' P':Nat} (hF:Fmt E P) (hF':Fmt E' P') (hi:i<2^(E+P)):Opp E' P' (casR E P E' P' m i) (casR E P E' P' (mirM m) (flipW E P i)):=by
 obtain ⟨hE,_,hP,_⟩:=fmt_n hF;obtain ⟨hE',_,hP',_⟩:=fmt_n hF';unfold casR;rw [flip_kd (by omega) (by omega) hi]
 by_cases h:4≤kd E P i
 ·rw [if_pos h,if_pos h];exact opp_nan (by omega) hP'
 ·rw [if_neg h,if_neg h,(flip_p (by omega) hi).2.2,flip_vl (by omega) (by omega) hi (by omega)]
  exact exaR_opp hF' fun h1 h3=>vlNe (by have:=kd_cases E P i;omega)
end
theorem addZ_ok {E P M:Int} {i j:Nat} (h:(addZ E P M i j).2.2=0):∃ e p m:Nat,E=e∧P=p∧M=m∧m≤4∧Fmt (e:Int) (p:Int)∧i<2^(e+p)∧j<2^(e+p):=by
 by_cases c:(0≤M∧M≤4)∧Fmt E P
 ·obtain ⟨e,p,m,rfl,rfl,rfl,hm,hF⟩:=fmt_cases c
  by_cases d:i<2^(e+p)∧j<2^(e+p)
  ·exact ⟨e,p,m,rfl,rfl,rfl,hm,hF,d⟩
  ·unfold addZ opZ at h;have e':((e:Int)+p).toNat=e+p:=by omega
   rw [if_neg (fun k=>k c),e',if_pos d] at h
   simp at h
 ·unfold addZ opZ at h;rw [if_pos c] at h
  simp at h
theorem othZ_nat (m:Nat):othZ m=(mirM m:Nat):=by
 unfold othZ mirM
 by_cases h3:m=3
 ·subst h3;rfl
 ·by_cases h4:m=4
  ·subst h4;rfl
  ·rw [if_neg (by omega),if_neg (by omega),if_neg h3,if_neg h4]
theorem rs_same (a b c d:Int):(!(a==a&&(b==b&&(c==c&&(d==d&&true)))))=false:=by simp
theorem cMirrors {E P M:Int} {i j:Nat} {c0 c1:Int} (h1:W128 i) (h2:W128 j):Cal Tryz.prog OQ 7 [.g (opA E P M i j c0 c1)] (bA true):=by
 have hA:=cAddZ (E:=E) (P:=P) (M:=M) h1 h2;have hA':=cAddZ (E:=E) (P:=P) (M:=M) h2 h1;have hM:=cMulZ (E:=E) (P:=P) (M:=M) h1 h2;have hM':=cMulZ (E:=E) (P:=P) (M:=M) h2 h1;rw [addZ_comm] at hA';rw [mulZ_comm] at hM';refine fn_callB [(1,[(1,1),(3,1),(5,1),(8,3)])] TK MX Tryz.func7 rfl (by kernel_rfl) (by kernel_rfl) (by kernel_rfl) rfl rfl ?_
 conv=>whnf
 refine ⟨_,cOther,?_⟩
 conv=>whnf
 refine ⟨_,hA,?_⟩
 conv=>whnf
 refine ⟨_,cGot,?_⟩
 conv=>whnf
 refine ⟨_,hM,?_⟩
 conv=>whnf
 refine ⟨_,cGot,?_⟩
 conv=>whnf
 refine ⟨_,hA',?_⟩
 conv=>whnf
 refine ⟨_,cGot,?_⟩
 conv=>whnf
 rw [rs_same]
 conv=>whnf
 refine ⟨_,hM',?_⟩
 conv=>whnf
 refine ⟨_,cGot,?_⟩
 conv=>whnf
 rw [rs_same]
 conv=>whnf
 by_cases hz:(addZ E P M i j).2.2=0
 ·rw [show ((addZ E P M i j).2.2 != 0)=false by simpa using hz]
  conv=>whnf
  obtain ⟨e,p,m,rfl,rfl,rfl,hm,hF,hi,hj⟩:=addZ_ok hz;have hF':=fmt_n hF;refine ⟨_,cFlip hF hi,?_⟩
  conv=>whnf
  refine ⟨_,cFlip hF hj,?_⟩
  conv=>whnf
  have hs:=sum_cases (m:=m) hF hi hj;have ea:addZ e p m i j=_:=opZ_good hF hm hi hj;have em:mulZ e p m i j=_:=opZ_good hF hm hi hj;have hi':=(flip_p (show 1≤e by omega) hi).1;have hj':=(flip_p (show 1≤e by omega) hj).1;have hA2:=cAddZ (E:=e) (P:=p) (M:=mirM m) (w128 hF hi') (w128 hF hj');have ea2:addZ e p (mirM m) (flipW e p i) (flipW e p j)=_:=opZ_good hF (mirM_le hm) hi' hj';rw [ea2] at hA2;rw [ea,em];simp only [othZ_nat];have hlt:=hs.elim (·.1) (·.1);refine ⟨_,cValue hF hlt,?_⟩
  conv=>whnf
  have key:Opp e p (opnR e p i j (sumR e p m (kd e p i) (wn e p i) (vl e p i) (kd e p j) (wn e p j) (vl e p j))) (opnR e p (flipW e p i) (flipW e p j) (sumR e p (mirM m) (kd e p (flipW e p i)) (wn e p (flipW e p i)) (vl e p (flipW e p i)) (kd e p (flipW e p j)) (wn e p (flipW e p j)) (vl e p (flipW e p j))))∨valR e p (opnR e p i j (sumR e p m (kd e p i) (wn e p i) (vl e p i) (kd e p j) (wn e p j) (vl e p j))).1=.t [nA 0,iA 0]:=hs.imp id (·.2);clear hs;have h3:Fmt (3:Nat) (3:Nat):=by unfold Fmt;decide
  have hm':=mirM_le hm;have ki:=flip_kd (show 1≤e by omega) (show 1≤p by omega) hi;have kj:=flip_kd (show 1≤e by omega) (show 1≤p by omega) hj;have ni:=(flip_p (show 1≤e by omega) hi).2.2;have nj:=(flip_p (show 1≤e by omega) hj).2.2;have vi:kd e p i≤3→vl e p (flipW e p i) = -vl e p i:=flip_vl (by omega) (by omega) hi;have vj:kd e p j≤3→vl e p (flipW e p j) = -vl e p j:=flip_vl (by omega) (by omega) hj;have hM2:=cMulZ (E:=e) (P:=p) (M:=mirM m) (w128 hF hi') (w128 hF hj);have em2:mulZ e p (mirM m) (flipW e p i) j=_:=opZ_good hF hm' hi' hj;rw [em2] at hM2;have hM3:=cMulZ (E:=e) (P:=p) (M:=mirM m) (w128 hF hi) (w128 hF hj');have em3:mulZ e p (mirM m) i (flipW e p j)=_:=opZ_good hF hm' hi hj';rw [em3] at hM3;have hD:=cDivZ (E:=e) (P:=p) (M:=m) (w128 hF hi) (w128 hF hj);have ed:divZ e p m i j=_:=opZ_good hF hm hi hj;rw [ed] at hD;have hD2:=cDivZ (E:=e) (P:=p) (M:=mirM m) (w128 hF hi') (w128 hF hj);have ed2:divZ e p (mirM m) (flipW e p i) j=_:=opZ_good hF hm' hi' hj;rw [ed2] at hD2;have o2:=mul_opp (m:=m) (i:=i) (j:=j) (i':=flipW e p i) (j':=j) hF ki rfl (by rw [ni];cases wn e p i<;>cases wn e p j<;>rfl) (fun a _=>by rw [vi a];grind);have o3:=mul_opp (m:=m) (i:=i) (j:=j) (i':=i) (j':=flipW e p j) hF rfl kj (by rw [nj];cases wn e p i<;>cases wn e p j<;>rfl) (fun _ b=>by rw [vj b];grind);have o4:=div_opp (m:=m) (i:=i) (j:=j) (i':=flipW e p i) (j':=j) hF ki rfl (by rw [ni];cases wn e p i<;>cases wn e p j<;>rfl) (fun a _=>by rw [vi a,Rat.div_def,Rat.div_def];grind);have o5:=cas_opp (m:=m) hF h3 hi
  rcases key with ho | hv
  ·unfold valR
   by_cases hk:wkind e p (opnR e p i j (sumR e p m (kd e p i) (wn e p i) (vl e p i) (kd e p j) (wn e p j) (vl e p j))).1≤2
   ·rw [if_pos hk]
    conv=>whnf
    refine ⟨_,cSign,?_⟩
    conv=>whnf
    by_cases hs:(wvalK e p (bias e) (opnR e p i j (sumR e p m (kd e p i) (wn e p i) (vl e p i) (kd e p j) (wn e p j) (vl e p j))).1).num.sign=0
    ·rw [show ((wvalK e p (bias e) (opnR e p i j (sumR e p m (kd e p i) (wn e p i) (vl e p i) (kd e p j) (wn e p j) (vl e p j))).1).num.sign != 0)=false by simpa using hs]
     conv=>whnf
     refine ⟨_,hM2,?_⟩
     conv=>whnf
     refine ⟨_,cGot,?_⟩
     conv=>whnf
     refine ⟨_,cOpposite hF o2,?_⟩
     conv=>whnf
     refine ⟨_,hM3,?_⟩
     conv=>whnf
     refine ⟨_,cGot,?_⟩
     conv=>whnf
     refine ⟨_,cOpposite hF o3,?_⟩
     conv=>whnf
     refine ⟨_,hD,?_⟩
     conv=>whnf
     refine ⟨_,cGot,?_⟩
     conv=>whnf
     refine ⟨_,hD2,?_⟩
     conv=>whnf
     refine ⟨_,cGot,?_⟩
     conv=>whnf
     refine ⟨_,cOpposite hF o4,?_⟩
     conv=>whnf
     refine ⟨_,cSix,?_⟩
     conv=>whnf
     refine ⟨_,cSix,?_⟩
     conv=>whnf
     refine ⟨_,cCast hF h3 hm hi,?_⟩
     conv=>whnf
     refine ⟨_,cGot,?_⟩
     conv=>whnf
     refine ⟨_,cSix,?_⟩
     conv=>whnf
     refine ⟨_,cCast hF h3 hm' hi',?_⟩
     conv=>whnf
     refine ⟨_,cGot,?_⟩
     conv=>whnf
     refine ⟨_,cOpposite h3 o5,?_⟩
     conv=>whnf
     refine ⟨_,cAwake,?_⟩
     conv=>whnf
     rfl
    ·rw [show ((wvalK e p (bias e) (opnR e p i j (sumR e p m (kd e p i) (wn e p i) (vl e p i) (kd e p j) (wn e p j) (vl e p j))).1).num.sign != 0)=true by simpa using hs]
     conv=>whnf
     refine ⟨_,hA2,?_⟩
     conv=>whnf
     refine ⟨_,cGot,?_⟩
     conv=>whnf
     refine ⟨_,cOpposite hF ho,?_⟩
     conv=>whnf
     refine ⟨_,hM2,?_⟩
     conv=>whnf
     refine ⟨_,cGot,?_⟩
     conv=>whnf
     refine ⟨_,cOpposite hF o2,?_⟩
     conv=>whnf
     refine ⟨_,hM3,?_⟩
     conv=>whnf
     refine ⟨_,cGot,?_⟩
     conv=>whnf
     refine ⟨_,cOpposite hF o3,?_⟩
     conv=>whnf
     refine ⟨_,hD,?_⟩
     conv=>whnf
     refine ⟨_,cGot,?_⟩
     conv=>whnf
     refine ⟨_,hD2,?_⟩
     conv=>whnf
     refine ⟨_,cGot,?_⟩
     conv=>whnf
     refine ⟨_,cOpposite hF o4,?_⟩
     conv=>whnf
     refine ⟨_,cSix,?_⟩
     conv=>whnf
     refine ⟨_,cSix,?_⟩
     conv=>whnf
     refine ⟨_,cCast hF h3 hm hi,?_⟩
     conv=>whnf
     refine ⟨_,cGot,?_⟩
     conv=>whnf
     refine ⟨_,cSix,?_⟩
     conv=>whnf
     refine ⟨_,cCast hF h3 hm' hi',?_⟩
     conv=>whnf
     refine ⟨_,cGot,?_⟩
     conv=>whnf
     refine ⟨_,cOpposite h3 o5,?_⟩
     conv=>whnf
     refine ⟨_,cAwake,?_⟩
     conv=>whnf
     rfl
   ·rw [if_neg hk]
    conv=>whnf
    refine ⟨_,hA2,?_⟩
    conv=>whnf
    refine ⟨_,cGot,?_⟩
    conv=>whnf
    refine ⟨_,cOpposite hF ho,?_⟩
    conv=>whnf
    refine ⟨_,hM2,?_⟩
    conv=>whnf
    refine ⟨_,cGot,?_⟩
    conv=>whnf
    refine ⟨_,cOpposite hF o2,?_⟩
    conv=>whnf
    refine ⟨_,hM3,?_⟩
    conv=>whnf
    refine ⟨_,cGot,?_⟩
    conv=>whnf
    refine ⟨_,cOpposite hF o3,?_⟩
    conv=>whnf
    refine ⟨_,hD,?_⟩
    conv=>whnf
    refine ⟨_,cGot,?_⟩
    conv=>whnf
    refine ⟨_,hD2,?_⟩
    conv=>whnf
    refine ⟨_,cGot,?_⟩
    conv=>whnf
    refine ⟨_,cOpposite hF o4,?_⟩
    conv=>whnf
    refine ⟨_,cSix,?_⟩
    conv=>whnf
    refine ⟨_,cSix,?_⟩
    conv=>whnf
    refine ⟨_,cCast hF h3 hm hi,?_⟩
    conv=>whnf
    refine ⟨_,cGot,?_⟩
    conv=>whnf
    refine ⟨_,cSix,?_⟩
    conv=>whnf
    refine ⟨_,cCast hF h3 hm' hi',?_⟩
    conv=>whnf
    refine ⟨_,cGot,?_⟩
    conv=>whnf
    refine ⟨_,cOpposite h3 o5,?_⟩
    conv=>whnf
    refine ⟨_,cAwake,?_⟩
    conv=>whnf
    rfl
  ·rw [hv]
   conv=>whnf
   refine ⟨_,cSign,?_⟩
   conv=>whnf
   refine ⟨_,hM2,?_⟩
   conv=>whnf
   refine ⟨_,cGot,?_⟩
   conv=>whnf
   refine ⟨_,cOpposite hF o2,?_⟩
   conv=>whnf
   refine ⟨_,hM3,?_⟩
   conv=>whnf
   refine ⟨_,cGot,?_⟩
   conv=>whnf
   refine ⟨_,cOpposite hF o3,?_⟩
   conv=>whnf
   refine ⟨_,hD,?_⟩
   conv=>whnf
   refine ⟨_,cGot,?_⟩
   conv=>whnf
   refine ⟨_,hD2,?_⟩
   conv=>whnf
   refine ⟨_,cGot,?_⟩
   conv=>whnf
   refine ⟨_,cOpposite hF o4,?_⟩
   conv=>whnf
   refine ⟨_,cSix,?_⟩
   conv=>whnf
   refine ⟨_,cSix,?_⟩
   conv=>whnf
   refine ⟨_,cCast hF h3 hm hi,?_⟩
   conv=>whnf
   refine ⟨_,cGot,?_⟩
   conv=>whnf
   refine ⟨_,cSix,?_⟩
   conv=>whnf
   refine ⟨_,cCast hF h3 hm' hi',?_⟩
   conv=>whnf
   refine ⟨_,cGot,?_⟩
   conv=>whnf
   refine ⟨_,cOpposite h3 o5,?_⟩
   conv=>whnf
   refine ⟨_,cAwake,?_⟩
   conv=>whnf
   rfl
 ·rw [show ((addZ E P M i j).2.2 != 0)=true by simpa using hz]
  conv=>whnf
  refine ⟨_,cAwake,?_⟩
  conv=>whnf
  rfl
theorem cal_law {f:FuncId} {cs:List Value} (h:Cal Tryz.prog OQ f [.g (cs.map AC.v)] (bA true)) (hk:(cs.all (·.oneCell'))=true) (w:World) (hw:WM w) (hT:Tabs w) :
  Calls Tryz.prog f #[.agg cs.toArray] w fun e w'=>e=.returned (.bool true)∧Ext w w' :=
 (h.run (fun _=>False) w [.agg cs.toArray] (fun _ h=>h.elim) ⟨hw,hT⟩ ⟨⟨cs,rfl,of_scs hk⟩,trivial⟩).mono fun _ _ ⟨_,h1,h2,h3⟩=>by
  subst h1;exact ⟨congrArg _ (show _=Value.bool true from h3.1),h2⟩
theorem w_cells {a b:Nat} (ha:a<18446744073709551616) (hb:b<18446744073709551616):W128 (a*18446744073709551616+b)∧wdC (a*18446744073709551616+b)=[.v (.int .u64 (a:Nat)),.v (.int .u64 (b:Nat))]:=by
 refine ⟨by unfold W128;omega,?_⟩;unfold wdC;rw [show (a*18446744073709551616+b)/18446744073709551616=a by omega,show (a*18446744073709551616+b)%18446744073709551616=b by omega]
theorem mirrors_c (E P M:Int) (i0 i1 j0 j1:Nat) (c0 c1:Int) (w:World) (hi0:i0<18446744073709551616) (hi1:i1<18446744073709551616) (hj0:j0<18446744073709551616) (hj1:j1<18446744073709551616) (hw:WM w) (hT:Tabs w) :
  Calls Tryz.prog 7 #[.agg #[.int .i64 E,.int .i64 P,.int .i64 M,.int .u64 (i0:Nat),.int .u64 (i1:Nat),.int .u64 (j0:Nat),.int .u64 (j1:Nat),.int .u64 c0,.int .u64 c1]] w fun e w'=>e=.returned (.bool true)∧Ext w w':=by
 have hi:=w_cells hi0 hi1;have hj:=w_cells hj0 hj1;have h:=cMirrors (E:=E) (P:=P) (M:=M) (c0:=c0) (c1:=c1) hi.1 hj.1;unfold opA at h;rw [hi.2,hj.2] at h
 exact cal_law (cs:=[.int .i64 E,.int .i64 P,.int .i64 M,.int .u64 (i0:Nat),.int .u64 (i1:Nat),.int .u64 (j0:Nat),.int .u64 (j1:Nat),.int .u64 c0,.int .u64 c1]) h rfl w hw hT
end Go.Proofs.YtopmjkkjlagfcaaGreatDoor
