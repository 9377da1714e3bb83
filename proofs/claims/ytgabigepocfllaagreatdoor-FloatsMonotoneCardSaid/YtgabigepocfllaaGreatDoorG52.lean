/- the law's read, by reckoning; FloatsMonotone. -/
import Derived.Test.YtgabigepocfllaaGreatDoorG50
import Derived.Test.YtgabigepocfllaaGreatDoorG51
namespace Go.Proofs.YtgabigepocfllaaGreatDoor
open Go.RowKit Vn
set_option maxRecDepth 100000
set_option maxHeartbeats 8000000
def askC (E P M:Int) (S T:List UInt8):List AC:=[.v (.int .i64 E),.v (.int .i64 P),.v (.int .i64 M),.v (.string (ba S)),.v (.string (ba T))]
def okP (l:List UInt8):Bool:=(parseV l).2==0
theorem cRead {l:List UInt8} (hl:l.length≤9223372036854775807):Cal Tryz.prog OQ 13 [sA (ba l)] (.t [nA (parseV l).1,rA (parseV l).1,bA (okP l)]):=by
 refine fn_callB [(3,[(0,5),(1,7),(8,2),(9,3)])] TK MX Tryz.func13 rfl (by kernel_rfl) (by kernel_rfl) (by kernel_rfl) rfl rfl ?_;unfold okP
 conv=>whnf
 refine ⟨_,cParse hl,?_⟩
 conv=>whnf
 refine ⟨_,cRParse hl,?_⟩
 conv=>whnf
 cases h:(parseV l).2==0
 ·conv=>whnf
  rfl
 ·conv=>whnf
  rw [h]
  rfl
section
variable {E P m:Nat} {q r:Rat}
theorem rq_eq (h0:q≠0):rq E P m q=endR E P (bias E) m (decide (q.num<0)) (rdN P (bias E) (lgQ q) q) (rdF (bias E) (lgQ q)) (decide ((rdT P (bias E) (lgQ q) q).den=1)) (cmpQ ((rdT P (bias E) (lgQ q) q-(rdN P (bias E) (lgQ q) q:Nat))*2) 1) (decide (lgQ q<1-((bias E:Nat):Int))):=by
 unfold rq rnd;rw [if_neg h0];rfl
theorem szR_eq (l:Int):szR P (bias E) (modeN m (decide (q.num<0))) q l=((endN m (decide (q.num<0)) (rdN P (bias E) l q) (decide ((rdT P (bias E) l q).den=1)) (cmpQ ((rdT P (bias E) l q-(rdN P (bias E) l q:Nat))*2) 1):Nat):Rat)*(2:Rat)^(2-((bias E:Nat):Int)-P+(rdF (bias E) l:Nat)):=by
 unfold szR;rw [endN_st];rfl
abbrev szQ (E P m:Nat) (q:Rat):Rat:=szR P (bias E) (modeN m (decide (q.num<0))) q (lgQ q)
theorem rq_fin (h0:q≠0) (h:szQ E P m q≤grQ P (bias E)):(rq E P m q).2=endF (decide ((rdT P (bias E) (lgQ q) q).den=1)) (decide (lgQ q<1-((bias E:Nat):Int))):=by
 rw [rq_eq h0];unfold endR;have h:=h;rw [szQ,szR_eq] at h;rw [if_pos h]
theorem rq_big (h0:q≠0) (h:¬ szQ E P m q≤grQ P (bias E)):(rq E P m q).2=20∧(¬ (modeN m (decide (q.num<0))=2∨modeN m (decide (q.num<0))=4)→(rq E P m q).1=infw E P (decide (q.num<0))):=by
 rw [rq_eq h0];unfold endR;rw [szQ,szR_eq] at h;rw [if_neg h]
 by_cases c:modeN m (decide (q.num<0))=2∨modeN m (decide (q.num<0))=4
 ·rw [if_pos c];exact ⟨rfl,fun k=>absurd c k⟩
 ·rw [if_neg c];exact ⟨rfl,fun _=>rfl⟩
theorem sgn_abs {x:Rat} (h:0≤x) (s:Bool):absQ ((if s=true then -1 else 1)*x)=x:=absQ_signed h s
theorem rq_kind (hE:2≤E) (hP:1≤P) (h:q=0∨szQ E P m q≤grQ P (bias E)∨modeN m (decide (q.num<0))=2∨modeN m (decide (q.num<0))=4):wkind E P (rq E P m q).1≤2:=by
 by_cases h0:q=0
 ·subst h0;rw [rq_zero];refine kind_of_le hE hP ?_;rw [wval_zero,absQ_nonneg Rat.le_refl];exact grQ_nonneg _ _
 ·refine kind_of_le hE hP ?_;rw [rq_wval hE hP h0,sgn_abs (vR_nonneg _ _ _ _ _)];unfold vR
  split
  ·assumption
  ·rename_i c
   rcases h with h | h | h
   ·exact absurd h h0
   ·exact absurd h c
   ·rw [if_pos h];exact Rat.le_refl
theorem rq_kd (hE:2≤E) (hP:1≤P):wkind E P (rq E P m q).1≤3:=by
 by_cases h:q=0∨szQ E P m q≤grQ P (bias E)∨modeN m (decide (q.num<0))=2∨modeN m (decide (q.num<0))=4
 ·have:=rq_kind hE hP h;omega
 ·have h0:q≠0:=fun e=>h (.inl e);rw [(rq_big h0 (fun k=>h (.inr (.inl k)))).2 (fun k=>h (.inr (.inr k))),inf_kind hP]
  exact Int.le_refl _
theorem rq_has (hE:2≤E) (hP:1≤P) (h:hasB E P q=true):(rq E P m q).2=0∧wkind E P (rq E P m q).1≤2∧wvalK E P (bias E) (rq E P m q).1=q:=by
 rw [hasB_iff] at h
 by_cases h0:q=0
 ·subst h0
  have:=rq_kind (m:=m) (q:=0) hE hP (.inl rfl)
  rw [rq_zero] at this ⊢
  exact ⟨rfl,this,by rw [wvalK_fin this,wval_zero]⟩
 ·have hv:=round_value (m:=m) (by omega) hP (lg_is h0) h.1 h.2;have e:rq E P m q=roundR E P (bias E) m q (lgQ q):=by unfold rq rnd;rw [if_neg h0]
  rw [e];have hk:wkind E P (roundR E P (bias E) m q (lgQ q)).1≤2:=kind_of_le hE hP (by rw [hv.2];exact h.2)
  exact ⟨hv.1,hk,by rw [wvalK_fin hk,hv.2]⟩
theorem rq_flag (h:¬ hasB E P q=true):(rq E P m q).2≠0:=by
 rw [hasB_iff] at h;have h0:q≠0:=by
  rintro rfl
  exact h ⟨IsVal.zero _ _,by rw [absQ_nonneg Rat.le_refl];exact grQ_nonneg _ _⟩
 by_cases c:szQ E P m q≤grQ P (bias E)
 ·rw [rq_fin h0 c]
  by_cases d:(rdT P (bias E) (lgQ q) q).den=1
  ·exfalso
   have hn:=rdN_lt (P:=P) (b:=bias E) (lg_is h0);have e:=den_one d;rw [rdN_floor] at e;have e:((rdN P (bias E) (lgQ q) q:Nat):Rat)=rdT P (bias E) (lgQ q) q:=e;have ea:absQ q=((rdN P (bias E) (lgQ q) q:Nat):Rat)*(2:Rat)^(rdK P (bias E) (lgQ q)):=by rw [e];exact absQ_back _ _ _ _
   refine h ⟨⟨_,rdK P (bias E) (lgQ q),by unfold rdK;omega,hn,ea⟩,?_⟩;have es:szQ E P m q=absQ q:=by
    rw [ea];unfold szQ szR stN endN;rw [if_pos (decide_eq_true d)]
   rw [←es];exact c
  ·unfold endF;rw [if_neg (by rw [decide_eq_false d];decide)]
   split<;>decide
 ·rw [(rq_big h0 c).1];decide
theorem rank_mono (hE:2≤E) (hP:1≤P) (h:q≤r):rankZ E P (rq E P m q).1≤rankZ E P (rq E P m r).1:=(rank_le_iff hP).1 (rq_mono hE hP h)
end
theorem cmp_le_cases {q r:Rat} (h:q≤r):cmpQ q r=0∨cmpQ q r = -1:=by
 have h1:=cmpQ_three q r;have h2:=cmpQ_iff.2 h
 omega
theorem cMonotone {E P M:Int} {S T:List UInt8} (hS:S.length≤9223372036854775807) (hT:T.length≤9223372036854775807):Cal Tryz.prog OQ 4 [.g (askC E P M S T)] (bA true):=by
 refine fn_callB [(5,[(0,3),(1,6),(3,3),(4,6),(8,9),(9,10)])] TK MX Tryz.func4 rfl (by kernel_rfl) (by kernel_rfl) (by kernel_rfl) rfl rfl ?_
 conv=>whnf
 refine ⟨_,cRead hS,?_⟩
 conv=>whnf
 refine ⟨_,cRead hT,?_⟩
 conv=>whnf
 cases h1:okP S
 ·conv=>whnf
  refine ⟨_,cAwakeE,?_⟩
  conv=>whnf
  rfl
 conv=>whnf
 cases h2:okP T
 ·conv=>whnf
  refine ⟨_,cAwakeE,?_⟩
  conv=>whnf
  rfl
 conv=>whnf
 have sq:=parse_sm S;have sr:=parse_sm T;generalize (parseV S).1=q at *
 generalize (parseV T).1=r at *
 refine ⟨_,cMinN sq sr (by decide),?_⟩
 conv=>whnf
 refine ⟨_,cMaxN sq sr (by decide),?_⟩
 conv=>whnf
 have hle:(if cmpQ q r<0 then q else r)≤(if cmpQ q r<0 then r else q):=by
  split
  ·rename_i h;exact Rat.le_of_lt (cmpQ_lt.1 h)
  ·rename_i h;exact Rat.not_lt.1 (fun k=>h (cmpQ_lt.2 k))
 have s1:SmQ 8000 (if cmpQ q r<0 then q else r):=by split<;>assumption
 have s2:SmQ 8000 (if cmpQ q r<0 then r else q):=by split<;>assumption
 generalize (if cmpQ q r<0 then q else r)=lo at *
 generalize (if cmpQ q r<0 then r else q)=hi at *
 by_cases hf:(0≤M∧M≤4)∧Fmt E P
 ·obtain ⟨e,p,m,rfl,rfl,rfl,hm,hF⟩:=fmt_cases hf;have hE:=(fmt_n hF).1;have hP:1≤p:=by have:=(fmt_n hF).2.2.1;omega
  refine ⟨_,cRoundF hF hm s1 (by decide),?_⟩
  conv=>whnf
  refine ⟨_,cRoundF hF hm s2 (by decide),?_⟩
  conv=>whnf
  refine ⟨_,cCmpF hF (rq_lt hF) (rq_lt hF) (rq_kd hE hP) (rq_kd hE hP),?_⟩
  conv=>whnf
  have hc:=cmp_le_cases (show ((rankZ e p (rq e p m lo).1:Int):Rat)≤((rankZ e p (rq e p m hi).1:Int):Rat) by rw [Rat.intCast_le_intCast];exact rank_mono hE hP hle);generalize cmpQ ((rankZ e p (rq e p m lo).1:Int):Rat) ((rankZ e p (rq e p m hi).1:Int):Rat)=c at *
  rcases hc with rfl | rfl
  ·conv=>whnf
   refine ⟨_,cHasF hF s1 (by decide),?_⟩
   conv=>whnf
   cases hh:hasB e p lo
   ·conv=>whnf
    have hfl:(((rq e p m lo).2:Nat):Int)≠0:=fun k=>rq_flag (m:=m) (show ¬ hasB e p lo=true by rw [hh];decide) (by omega);rw [show ((((rq e p m lo).2:Nat):Int) != 0)=true from bne_iff_ne.2 hfl]
    conv=>whnf
    refine ⟨_,cAwakeE,?_⟩
    conv=>whnf
    rfl
   ·conv=>whnf
    obtain ⟨g1,g2,g3⟩:=rq_has (m:=m) hE hP hh;have hv:=cValue hF (rq_lt (m:=m) (q:=lo) hF);unfold valR at hv;rw [if_pos g2,g3] at hv;refine ⟨_,hv,?_⟩
    conv=>whnf
    rw [g1]
    conv=>whnf
    refine ⟨_,cCmp s1 s1 (by decide),?_⟩;rw [cmpQ_self]
    conv=>whnf
    refine ⟨_,cAwakeE,?_⟩
    conv=>whnf
    rfl
  ·conv=>whnf
   refine ⟨_,cHasF hF s1 (by decide),?_⟩
   conv=>whnf
   cases hh:hasB e p lo
   ·conv=>whnf
    have hfl:(((rq e p m lo).2:Nat):Int)≠0:=fun k=>rq_flag (m:=m) (show ¬ hasB e p lo=true by rw [hh];decide) (by omega);rw [show ((((rq e p m lo).2:Nat):Int) != 0)=true from bne_iff_ne.2 hfl]
    conv=>whnf
    refine ⟨_,cAwakeE,?_⟩
    conv=>whnf
    rfl
   ·conv=>whnf
    obtain ⟨g1,g2,g3⟩:=rq_has (m:=m) hE hP hh;have hv:=cValue hF (rq_lt (m:=m) (q:=lo) hF);unfold valR at hv;rw [if_pos g2,g3] at hv;refine ⟨_,hv,?_⟩
    conv=>whnf
    rw [g1]
    conv=>whnf
    refine ⟨_,cCmp s1 s1 (by decide),?_⟩;rw [cmpQ_self]
    conv=>whnf
    refine ⟨_,cAwakeE,?_⟩
    conv=>whnf
    rfl
 ·refine ⟨_,cRoundBad hf,?_⟩
  conv=>whnf
  refine ⟨_,cRoundBad hf,?_⟩
  conv=>whnf
  refine ⟨_,cAwakeE,?_⟩
  conv=>whnf
  rfl
theorem monotone_c (E P M:Int) (S T:List UInt8) (w:World) (hS:S.length≤9223372036854775807) (hT:T.length≤9223372036854775807) (hw:WM w) (hTb:Tabs w) :
  Calls Tryz.prog 4 #[.agg #[.int .i64 E,.int .i64 P,.int .i64 M,.string (ba S),.string (ba T)]] w fun e w'=>e=.returned (.bool true)∧Ext w w' :=
 cal_law (cs:=[.int .i64 E,.int .i64 P,.int .i64 M,.string (ba S),.string (ba T)]) (cMonotone hS hT) rfl w hw hTb
end Go.Proofs.YtgabigepocfllaaGreatDoor
