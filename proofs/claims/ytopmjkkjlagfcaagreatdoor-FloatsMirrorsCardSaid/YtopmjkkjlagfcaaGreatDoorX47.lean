/- floats: the operations of whatever format, mode and words; the law's helpers. -/
import Derived.Test.YtopmjkkjlagfcaaGreatDoorX40
import Derived.Test.YtopmjkkjlagfcaaGreatDoorX46
namespace Go.Proofs.YtopmjkkjlagfcaaGreatDoor
open Go.RowKit Vn
set_option maxRecDepth 100000
set_option maxHeartbeats 8000000
abbrev z3 (r:Nat×Int×Int):AV:=.t [wA r.1,iA r.2.1,iA r.2.2]
def opZ (E P M:Int) (i j:Nat) (R:Nat→Nat→Nat→Nat×Nat):Nat×Int×Int :=
 if ¬ ((0≤M∧M≤4)∧Fmt E P) then (0,0,2) else if ¬ (i<2^(E+P).toNat∧j<2^(E+P).toNat) then (0,0,6)
 else ((opnR E.toNat P.toNat i j (R E.toNat P.toNat M.toNat)).1,((opnR E.toNat P.toNat i j (R E.toNat P.toNat M.toNat)).2:Nat),0)
theorem opZ_good {E P m i j:Nat} {R:Nat→Nat→Nat→Nat×Nat} (hF:Fmt E P) (hm:m≤4) (hi:i<2^(E+P)) (hj:j<2^(E+P)) :
  opZ E P m i j R=((opnR E P i j (R E P m)).1,(((opnR E P i j (R E P m)).2:Nat):Int),0):=by
 have e:((E:Int)+P).toNat=E+P:=by omega
 unfold opZ;rw [if_neg (fun h=>h ⟨⟨by omega,by omega⟩,hF⟩),e,if_neg (fun h=>h ⟨hi,hj⟩)]
 simp
theorem fmt_cases {E P M:Int} (h:(0≤M∧M≤4)∧Fmt E P):∃ e p m:Nat,E=e∧P=p∧M=m∧m≤4∧Fmt (e:Int) (p:Int):=by
 have hF:=h.2;obtain ⟨h1,h2,h3,h4,h5⟩:=hF
 exact ⟨E.toNat,P.toNat,M.toNat,by omega,by omega,by omega,by omega,by rw [show ((E.toNat:Nat):Int)=E by omega,show ((P.toNat:Nat):Int)=P by omega];exact h.2⟩
theorem cOpZ {f:FuncId} {E P M:Int} {i j:Nat} {R:Nat→Nat→Nat→Nat×Nat} (h1:W128 i) (h2:W128 j)
  (hf:∀ E P m:Nat,Fmt E P→m≤4→i<2^(E+P)→j<2^(E+P)→¬ 4≤kd E P i→¬ 4≤kd E P j→Cal Tryz.prog OQ f [mA E P m (bias E:Nat),oA (kd E P i) (wn E P i) (vl E P i),oA (kd E P j) (wn E P j) (vl E P j)] (resA (R E P m))) :
  Cal Tryz.prog OQ 93 [fA E P,iA M,wA i,wA j,fnA f] (z3 (opZ E P M i j R)):=by
 by_cases h:(0≤M∧M≤4)∧Fmt E P
 ·obtain ⟨e,p,m,rfl,rfl,rfl,hm,hF⟩:=fmt_cases h
  by_cases hw:i<2^(e+p)∧j<2^(e+p)
  ·rw [opZ_good hF hm hw.1 hw.2]
   exact cOperate hF hm hw.1 hw.2 (hf e p m hF hm hw.1 hw.2)
  ·have:opZ e p m i j R=(0,0,6):=by
    have e':((e:Int)+p).toNat=e+p:=by omega
    unfold opZ;rw [if_neg (fun k=>k h),e',if_pos hw]
   rw [this]
   exact cOperateForm hF hm h1 h2 hw
 ·rw [show opZ E P M i j R=_ from if_pos h]
  exact cOperateBad h
section
variable {E P M:Int} {i j:Nat}
def addZ (E P M:Int) (i j:Nat):=opZ E P M i j fun e p m=>sumR e p m (kd e p i) (wn e p i) (vl e p i) (kd e p j) (wn e p j) (vl e p j)
def mulZ (E P M:Int) (i j:Nat):=opZ E P M i j fun e p m=>mulR e p m (kd e p i) (wn e p i) (vl e p i) (kd e p j) (wn e p j) (vl e p j)
def divZ (E P M:Int) (i j:Nat):=opZ E P M i j fun e p m=>quoR e p m (kd e p i) (wn e p i) (vl e p i) (kd e p j) (wn e p j) (vl e p j)
theorem cAddZ (h1:W128 i) (h2:W128 j):Cal Tryz.prog OQ 30 [fA E P,iA M,wA i,wA j] (z3 (addZ E P M i j)):=by
 refine fn_call TK MX Tryz.func30 rfl (by kernel_rfl) (by kernel_rfl) (by kernel_rfl) rfl rfl ?_
 conv=>whnf
 refine ⟨_,cOpZ h1 h2 fun E P m hF hm hi hj _ _=>cAddM hF hm (sm_word hF) (sm_word hF) (by decide),?_⟩
 conv=>whnf
 rfl
theorem cMulZ (h1:W128 i) (h2:W128 j):Cal Tryz.prog OQ 31 [fA E P,iA M,wA i,wA j] (z3 (mulZ E P M i j)):=by
 refine fn_call TK MX Tryz.func31 rfl (by kernel_rfl) (by kernel_rfl) (by kernel_rfl) rfl rfl ?_
 conv=>whnf
 refine ⟨_,cOpZ h1 h2 fun E P m hF hm hi hj _ _=>cMulM hF hm (sm_word hF) (sm_word hF) (by decide),?_⟩
 conv=>whnf
 rfl
theorem cDivZ (h1:W128 i) (h2:W128 j):Cal Tryz.prog OQ 34 [fA E P,iA M,wA i,wA j] (z3 (divZ E P M i j)):=by
 refine fn_call TK MX Tryz.func34 rfl (by kernel_rfl) (by kernel_rfl) (by kernel_rfl) rfl rfl ?_
 conv=>whnf
 refine ⟨_,cOpZ h1 h2 fun E P m hF hm hi hj k1 k2=>cDivM hF hm (sm_word hF) (sm_word hF) (by decide) (by have:=kd_cases E P i;omega) (by have:=kd_cases E P j;omega) (fun h=>vlNe h),?_⟩
 conv=>whnf
 rfl
end
def casR (E P E' P' m n:Nat):Nat×Nat:=if 4≤kd E P n then (nanw E' P',if kd E P n=5 then 1 else 0) else exaR E' P' m (kd E P n) (wn E P n) (vl E P n)
theorem cCast {E P E' P' m n:Nat} (hF:Fmt E P) (hF':Fmt E' P') (hm:m≤4) (hn:n<2^(E+P)):Cal Tryz.prog OQ 36 [fA E P,fA E' P',iA (m:Nat),wA n] (res3 (casR E P E' P' m n)):=by
 refine fn_call TK MX Tryz.func36 rfl (by kernel_rfl) (by kernel_rfl) (by kernel_rfl) rfl rfl ?_
 conv=>whnf
 refine ⟨_,cWith0 hF' hm,?_⟩
 conv=>whnf
 refine ⟨_,cWith1 hF hm (w128 hF hn),?_⟩;rw [if_pos hn]
 conv=>whnf
 refine ⟨_,cLook hF (fmt_n hF).2.2.2.2.2 (w128 hF hn),?_⟩
 conv=>whnf
 refine ⟨_,cSpecial1 hF' _ _ _,?_⟩
 conv=>whnf
 by_cases h:4≤kd E P n
 ·rw [show casR E P E' P' m n=_ from if_pos h,show decide (4≤wkind E P n)=true from dT h]
  conv=>whnf
  split<;>rfl
 ·rw [show casR E P E' P' m n=_ from if_neg h,show decide (4≤wkind E P n)=false from dF h]
  conv=>whnf
  refine ⟨_,cExactly hF' hm (sm_word hF) (by decide),?_⟩
  conv=>whnf
  rfl
theorem cDecode {E P n:Nat} (hF:Fmt E P) (hn:n<2^(E+P)):Cal Tryz.prog OQ 37 [fA E P,wA n] (.t [.g [.v (.int .i64 (kd E P n)),.v (.bool (wn E P n)),.v (.string (numText (vl E P n)))],iA 0]):=by
 refine fn_call TK MX Tryz.func37 rfl (by kernel_rfl) (by kernel_rfl) (by kernel_rfl) rfl rfl ?_
 conv=>whnf
 refine ⟨_,cWith1 (m:=0) hF (by decide) (w128 hF hn),?_⟩;rw [if_pos hn]
 conv=>whnf
 refine ⟨_,cLook hF (fmt_n hF).2.2.2.2.2 (w128 hF hn),?_⟩
 conv=>whnf
 refine ⟨_,cText (sm_word hF) (by decide),?_⟩
 conv=>whnf
 rfl
theorem cFlip {E P n:Nat} (hF:Fmt E P) (hn:n<2^(E+P)):Cal Tryz.prog OQ 32 [fA E P,wA n] (wA (flipW E P n)) :=
 calA [.m [.int .i64 (E:Nat),.int .i64 (P:Nat)],.w n] (r:=.w _) (by kernel_rfl) rfl fun w vs _ hv=>by
  obtain ⟨x,y,rfl,rfl,rfl⟩:=two_args hv;exact (rflip_c E P n w hF hn).mono fun _ _ ⟨h1,h2⟩=>⟨_,h1,rfl,h2⟩
def rsC (n:Nat) (y z:Int):List AC:=wdC n++[.v (.int .i64 y),.v (.int .i64 z)]
theorem cGot {n:Nat} {y z:Int}:Cal Tryz.prog OQ 29 [wA n,iA y,iA z] (.g (rsC n y z)):=by
 refine fn_call TK MX Tryz.func29 rfl (by kernel_rfl) (by kernel_rfl) (by kernel_rfl) rfl rfl ?_
 conv=>whnf
 rfl
theorem cSix:Cal Tryz.prog OQ 35 [] (fA 3 3):=by
 refine fn_call TK MX Tryz.func35 rfl (by kernel_rfl) (by kernel_rfl) (by kernel_rfl) rfl rfl ?_
 conv=>whnf
 rfl
def othZ (M:Int):Int:=if M=3 then 4 else if M=4 then 3 else M
theorem cOther {M:Int}:Cal Tryz.prog OQ 28 [iA M] (iA (othZ M)):=by
 refine fn_call TK MX Tryz.func28 rfl (by kernel_rfl) (by kernel_rfl) (by kernel_rfl) rfl rfl ?_;unfold othZ
 conv=>whnf
 cases h:M==3
 ·rw [if_neg (show ¬ M=3 by simpa using h)]
  conv=>whnf
  cases h':M==4
  ·rw [if_neg (show ¬ M=4 by simpa using h')]
   conv=>whnf
   rfl
  ·rw [if_pos (show M=4 by simpa using h')]
   conv=>whnf
   rfl
 ·rw [if_pos (show M=3 by simpa using h)]
  conv=>whnf
  rfl
def Opp (E P:Nat) (r s:Nat×Nat):Prop:=r.1<2^(E+P)∧r.2=s.2∧(kd E P r.1=4∧s.1=r.1∨kd E P r.1≠4∧s.1=flipW E P r.1)
theorem beq_t (a:Int):(a==a)=true:=by simp
theorem cOpposite {E P:Nat} {r s:Nat×Nat} (hF:Fmt E P) (h:Opp E P r s):Cal Tryz.prog OQ 33 [fA E P,.g (rsC r.1 (r.2:Nat) 0),.g (rsC s.1 (s.2:Nat) 0)] (bA true):=by
 obtain ⟨r1,r2⟩:=r;obtain ⟨s1,s2⟩:=s;obtain ⟨hn,h2,h⟩:=h;have h2:r2=s2:=h2;subst h2;refine fn_call TK MX Tryz.func33 rfl (by kernel_rfl) (by kernel_rfl) (by kernel_rfl) rfl rfl ?_
 conv=>whnf
 refine ⟨_,cDecode hF hn,?_⟩
 conv=>whnf
 rcases h with ⟨hk,h⟩ | ⟨hk,h⟩
 ·have h:s1=r1:=h;subst h;have e:(wkind E P s1==4)=true:=by simpa using hk
  rw [e]
  conv=>whnf
  simp only [joinR,beq_t,Bool.and_true]
 ·have h:s1=flipW E P r1:=h;subst h;have e:(wkind E P r1==4)=false:=by simpa using hk
  rw [e]
  conv=>whnf
  refine ⟨_,cFlip hF hn,?_⟩
  conv=>whnf
  simp only [beq_t,Bool.and_true]
  conv=>whnf
  simp only [joinR,beq_t]
theorem num_flip {q:Rat} (h:q≠0):decide ((-q).num<0) = !decide (q.num<0):=by
 rw [Bool.eq_iff_iff];simp only [decide_eq_true_eq,Bool.not_eq_true',decide_eq_false_iff_not,num_neg_iff]
 grind
theorem mode_flip {m:Nat} (neg:Bool):modeN (mirM m) (!neg)=modeN m neg:=by
 unfold modeN mirM
 cases neg
 ·by_cases h3:m=3
  ·subst h3;rfl
  ·by_cases h4:m=4
   ·subst h4;rfl
   ·simp [h3,h4]
 ·simp
theorem flip_word {E P n f:Nat} (neg:Bool) (h:n+f*2^(P-1)<2^(E+P-1)):flipW E P (wordN E P neg n f)=wordN E P (!neg) n f:=by
 rw [wordN_eq neg h,wordN_eq (!neg) h];unfold flipW
 cases neg
 ·rw [if_neg (by simp;omega)];simp
 ·rw [if_pos (by simp)];simp
theorem kind_inf {E P:Nat} (hP:1≤P) (s:Bool):wkind E P (infw E P s)=3:=by
 have hp:0<2^(P-1):=Nat.pow_pos (by decide);have h0:0+(2^E-1)*2^(P-1)<2^(E+P-1):=by
  rw [pow_EP hP,Nat.mul_comm (2^(P-1))]
  have:0<2^E:=Nat.pow_pos (by decide)
  have:=Nat.mul_lt_mul_of_pos_right (show 2^E-1<2^E by omega) hp
  omega
 have e1:wf E P (infw E P s)=2^E-1:=by rw [inf_word,wordN_wf hP s h0,Nat.zero_add,Nat.mul_div_cancel _ hp]
 have e2:wr P (infw E P s)=0:=by rw [inf_word,wordN_wr hP s h0,Nat.zero_mod]
 unfold wkind;rw [if_pos e1,if_pos e2]
theorem inf_flip {E P:Nat} (hP:1≤P) (s:Bool):flipW E P (infw E P s)=infw E P (!s):=by
 have hp:0<2^(P-1):=Nat.pow_pos (by decide);have h0:0+(2^E-1)*2^(P-1)<2^(E+P-1):=by
  rw [pow_EP hP,Nat.mul_comm (2^(P-1))]
  have:0<2^E:=Nat.pow_pos (by decide)
  have:=Nat.mul_lt_mul_of_pos_right (show 2^E-1<2^E by omega) hp
  omega
 rw [inf_word,inf_word,flip_word s h0]
theorem sgb_flip {E P:Nat} (s:Bool):flipW E P (sgb E P s)=sgb E P (!s):=by
 rw [sgb_word,sgb_word,flip_word s (by simp;exact Nat.pow_pos (by decide))]
theorem sgb_kind {E P:Nat} (hE:2≤E) (hP:1≤P) (s:Bool):wkind E P (sgb E P s)≤2:=by
 refine kind_of_le hE hP ?_;have h0:0+0*2^(P-1)<2^(E+P-1):=by simp;exact Nat.pow_pos (by decide)
 rw [sgb_word,wordN_val hP s h0 (Nat.zero_le _) (.inl rfl),absQ_signed (steps_nonneg _ _)]
 have:(((0:Nat):Rat))=0:=rfl
 rw [this,Rat.zero_mul];exact grQ_nonneg _ _
def OppF (E P:Nat) (r s:Nat×Nat):Prop:=r.1<2^(E+P)∧r.2=s.2∧wkind E P r.1≠4∧s.1=flipW E P r.1
theorem OppF.opp {E P:Nat} {r s:Nat×Nat} (h:OppF E P r s):Opp E P r s:=⟨h.1,h.2.1,.inr ⟨h.2.2.1,h.2.2.2⟩⟩
theorem opp_inf {E P f:Nat} (hP:1≤P) (s:Bool):OppF E P (infw E P s,f) (infw E P (!s),f) :=
 ⟨(inf_ok hP s).1,rfl,by show wkind E P (infw E P s)≠4;rw [kind_inf hP s];decide,(inf_flip hP s).symm⟩
theorem opp_sgb {E P f:Nat} (hE:2≤E) (hP:1≤P) (s:Bool):OppF E P (sgb E P s,f) (sgb E P (!s),f) :=
 ⟨(sgb_ok hE hP s).1,rfl,by have:=sgb_kind hE hP s;show wkind E P (sgb E P s)≠4;omega,(sgb_flip s).symm⟩
theorem opp_word {E P n f g:Nat} (hE:2≤E) (hP:1≤P) (s:Bool) (h:n+f*2^(P-1)<2^(E+P-1)) (hn:n≤2^P) (hf:f=0∨2^(P-1)≤n)
  (hg:((n:Nat):Rat)*(2:Rat)^(2-(bias E:Int)-P+(f:Nat))≤grQ P (bias E)):OppF E P (wordN E P s n f,g) (wordN E P (!s) n f,g):=by
 refine ⟨wordN_lt (by omega) s h,rfl,?_,(flip_word s h).symm⟩
 have:wkind E P (wordN E P s n f)≤2:=by
  refine kind_of_le hE hP ?_;rw [wordN_val hP s h hn hf,absQ_signed (steps_nonneg _ _)];exact hg
 show wkind E P (wordN E P s n f)≠4
 omega
theorem lgQ_neg (q:Rat):lgQ (-q)=lgQ q:=by unfold lgQ;rw [absQ_neg]
theorem rq_opp {E P m:Nat} (hF:Fmt E P) {q:Rat} (h0:q≠0):OppF E P (rq E P m q) (rq E P (mirM m) (-q)):=by
 obtain ⟨hE,_,hP,_⟩:=fmt_n hF;have hq : -q≠0:=fun e=>h0 (by have:=congrArg (fun x => -x) e;simpa using this);have hl:=lg_is h0;have hN:=endN_le (P:=P) (b:=bias E) (m:=m) hl (decide (q.num<0)) (decide ((rdT P (bias E) (lgQ q) q).den=1)) (cmpQ ((rdT P (bias E) (lgQ q) q-(rdN P (bias E) (lgQ q) q:Nat))*2) 1);have hge:rdF (bias E) (lgQ q)=0∨2^(P-1)≤endN m (decide (q.num<0)) (rdN P (bias E) (lgQ q) q) (decide ((rdT P (bias E) (lgQ q) q).den=1)) (cmpQ ((rdT P (bias E) (lgQ q) q-(rdN P (bias E) (lgQ q) q:Nat))*2) 1):=by
  rcases rdN_ge (b:=bias E) (show 1≤P by omega) hl with h | h
  ·exact .inl h
  ·exact .inr (Nat.le_trans h hN.2)
 have eT:rdT P (bias E) (lgQ q) (-q)=rdT P (bias E) (lgQ q) q:=by unfold rdT;rw [absQ_neg]
 have eN:rdN P (bias E) (lgQ q) (-q)=rdN P (bias E) (lgQ q) q:=by unfold rdN;rw [eT]
 have e1:rq E P m q=roundR E P (bias E) m q (lgQ q):=if_neg h0;have e2:rq E P (mirM m) (-q)=roundR E P (bias E) (mirM m) (-q) (lgQ q):=by
  show rnd E P (bias E) (mirM m) (-q) (lgQ (-q))=_
  rw [lgQ_neg];exact if_neg hq
 rw [e1,e2];unfold roundR;rw [eT,eN,num_flip h0];generalize decide (q.num<0)=s at *
 generalize decide ((rdT P (bias E) (lgQ q) q).den=1)=is at *
 generalize cmpQ ((rdT P (bias E) (lgQ q) q-(rdN P (bias E) (lgQ q) q:Nat))*2) 1=c at *
 unfold endR;have eE:endN (mirM m) (!s) (rdN P (bias E) (lgQ q) q) is c=endN m s (rdN P (bias E) (lgQ q) q) is c:=by unfold endN;rw [mode_flip]
 rw [eE,mode_flip]
 split
 ·rename_i hg
  exact opp_word hE (by omega) s (end_fits (by omega) (by omega) hN.1 hge hg) hN.1 hge hg
 ·split
  ·have hb:1≤bias E:=by
    have h4:=two_bias (E:=E) (by omega)
    have:2^2≤2^E:=Nat.pow_le_pow_right (by decide) hE
    omega
   have hp:2^P=2*2^(P-1):=by rw [←Nat.pow_succ'];congr 1;omega
   have hp0:0<2^(P-1):=Nat.pow_pos (by decide);refine opp_word hE (by omega) s (great_fits hE (by omega)) (by omega) (.inr (by omega)) ?_;unfold grQ;rw [show (2:Int)-(bias E:Int)-P+((2*bias E-1:Nat):Int)=(bias E:Int)-P+1 by omega]
   exact Rat.le_refl
  ·exact opp_inf (by omega) s
/-! ### the parts of a word with the other sign -/
theorem flip_p {E P n:Nat} (hE:1≤E) (hn:n<2^(E+P)):flipW E P n<2^(E+P)∧mag E P (flipW E P n)=mag E P n∧wn E P (flipW E P n) = !(wn E P n):=by
 have h:=word_split (E:=E) (P:=P) (by omega) hn;have hm:=mag_lt E P n;have hm':mag E P n+0*2^(P-1)<2^(E+P-1):=by simpa using hm
 have hf:flipW E P n=wordN E P (!(wn E P n)) (mag E P n) 0:=by
  conv=>lhs;rw [h]
  exact flip_word _ hm'
 rw [hf];refine ⟨wordN_lt (by omega) _ hm',?_,wordN_wn _ hm'⟩;rw [wordN_mag _ hm];unfold mag at *
 cases wn E P n
 ·simp [Nat.mod_eq_of_lt,hm]
 ·simp
theorem flip_kd {E P n:Nat} (hE:1≤E) (hP:1≤P) (hn:n<2^(E+P)):kd E P (flipW E P n)=kd E P n:=by
 show wkind E P _=wkind E P _
 rw [←wkind_mag hP,(flip_p hE hn).2.1,wkind_mag hP]
theorem flip_vl {E P n:Nat} (hE:1≤E) (hP:1≤P) (hn:n<2^(E+P)) (hk:kd E P n≤3):vl E P (flipW E P n) = -vl E P n:=by
 have ek:=flip_kd hE hP hn
 by_cases h:kd E P n≤2
 ·show wvalK E P (bias E) _ = -wvalK E P (bias E) _
  rw [wvalK_fin (show wkind E P _≤2 by rw [show wkind E P (flipW E P n)=_ from ek];exact h),wvalK_fin h,wval_mag hP (n:=n),wval_mag hP (n:=flipW E P n),(flip_p hE hn).2.1,(flip_p hE hn).2.2]
  cases wn E P n<;>simp<;>grind
 ·have h3:kd E P n=3:=by omega
  have z:∀ x,kd E P x=3→vl E P x=0:=by
   intro x hx
   have hx:wkind E P x=3:=hx
   show wvalK E P (bias E) x=0
   unfold wvalK;rw [hx];simp
  rw [z _ h3,z _ (ek.trans h3)];simp
end Go.Proofs.YtopmjkkjlagfcaaGreatDoor
