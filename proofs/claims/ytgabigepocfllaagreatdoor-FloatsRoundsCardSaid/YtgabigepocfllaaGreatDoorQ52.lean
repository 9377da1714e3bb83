/- the law's read, by reckoning; FloatsMonotone. -/
import Derived.Test.YtgabigepocfllaaGreatDoorQ51
import Derived.Test.YtgabigepocfllaaGreatDoorQ43
namespace Go.Proofs.YtgabigepocfllaaGreatDoor
open Go.RowKit Vn
set_option maxRecDepth 100000
set_option maxHeartbeats 8000000
def okP (l:List UInt8):Bool:=(parseV l).2==0
theorem cRead {l:List UInt8} (hl:l.length≤9223372036854775807):Cal Tryz.prog OQ 13 [sA (ba l)] (.t [nA (parseV l).1,rA (parseV l).1,bA (okP l)]):=by
 refine fn_callB [(3,[(0,5),(1,7),(8,2),(9,3)])] TK MX Tryz.func13 rfl (by kernel_rfl) (by kernel_rfl) (by kernel_rfl) rfl rfl ?_;unfold okP
 conv=>whnf
 refine ⟨_,cParse hl,?_⟩
 conv=>whnf
 refine ⟨_,cRParse hl,?_⟩
 conv=>whnf
 cases h:(parseV l).2==0
 ·conv=>whnf
  rfl
 ·conv=>whnf
  rw [h]
  rfl
section
variable {E P m n f:Nat} {q:Rat} {K:Nat}
theorem resW_lt (hF:Fmt E P) {neg ex tiny:Bool} (hn:n≤2^P) (h:f=0∨2^(P-1)≤n):(resW E P m neg n f ex tiny).1<2^(E+P):=by
 have hE:=(fmt_n hF).1;have hP:1≤P:=by have:=(fmt_n hF).2.2.1;omega
 unfold resW
 split
 ·rename_i hg
  exact wordN_lt (by omega) neg (end_fits (by omega) hP hn h hg)
 ·split
  ·exact wordN_lt (by omega) neg (great_fits hE hP)
  ·exact (inf_ok hP neg).1
theorem rq_res (h0:q≠0):resW E P m (decide (q.num<0)) (stN (modeN m (decide (q.num<0))) (rdN P (bias E) (lgQ q) q) (rdT P (bias E) (lgQ q) q)) (rdF (bias E) (lgQ q)) (decide ((rdT P (bias E) (lgQ q) q).den=1)) (decide (lgQ q<1-((bias E:Nat):Int)))=rq E P m q:=by
 rw [rq_eq h0];unfold resW endR wv;rw [endN_st]
theorem zero_res:resW E P m false 0 0 true true=(0,0):=by
 unfold resW wv;have hz:((0:Nat):Rat)*(2:Rat)^(2-((bias E:Nat):Int)-P+((0:Nat):Int))=0:=by
  have:((0:Nat):Rat)=0:=rfl
  rw [this,Rat.zero_mul]
 rw [hz,if_pos (grQ_nonneg _ _)]
 have:wordN E P false 0 0=0:=by rw [wordN_eq false (by simp;exact Nat.pow_pos (by decide))];simp
 rw [this];rfl
theorem zero_wv {P b:Nat}:sgnQ false*wv P b 0 0=0:=by
 unfold wv
 have:((0:Nat):Rat)=0:=rfl
 rw [this,Rat.zero_mul,Rat.mul_zero]
theorem kept_zero {neg:Bool} (h:(keptV E P m neg n f).2=false):(keptV E P m neg n f).1=0:=by
 unfold keptV at h ⊢
 split at h
 ·cases h
 ·split at h
  ·cases h
  ·rename_i h1 h2
   rw [if_neg h1,if_neg h2]
theorem cNumberErr {E P:Int} {n:Nat} {e:Int} (he:e≠0):Cal Tryz.prog OQ 120 [fA E P,wA n,iA e] (.t [nA 0,iA e]):=by
 refine fn_call TK MX Tryz.func120 rfl (by kernel_rfl) (by kernel_rfl) (by kernel_rfl) rfl rfl ?_
 conv=>whnf
 rw [show (e != 0)=true from bne_iff_ne.2 he]
 conv=>whnf
 rfl
theorem cRNearG {neg:Bool} (hF:Fmt E P) (hm:m≤4) (sx:SmQ K q) (hK:K≤12000) (e:mulQ m q ((2:Rat)^(stE E P q))=sgnQ neg*wv P (bias E) n f) (sy:SmQ 40000 (sgnQ neg*wv P (bias E) n f)) :
  Cal Tryz.prog OQ 43 [fA E P,iA (m:Nat),rA q] (.t [rA (keptV E P m neg n f).1,bA (keptV E P m neg n f).2]):=by
 refine fn_call TK MX Tryz.func43 rfl (by kernel_rfl) (by kernel_rfl) (by kernel_rfl) rfl rfl ?_
 conv=>whnf
 refine ⟨_,cRMultiple hF hm sx hK,?_⟩;rw [e]
 conv=>whnf
 refine ⟨_,cRKept hF hm sy,?_⟩
 conv=>whnf
 rfl
theorem cRNearRootG {neg:Bool} (hF:Fmt E P) (hm:m≤4) (sx:SmQ K q) (h:0≤q) (hK:K≤12000) (e:rmQ E P m q=sgnQ neg*wv P (bias E) n f) (sy:SmQ 40000 (sgnQ neg*wv P (bias E) n f)) :
  Cal Tryz.prog OQ 45 [fA E P,iA (m:Nat),rA q] (.t [rA (keptV E P m neg n f).1,bA (keptV E P m neg n f).2]):=by
 refine fn_call TK MX Tryz.func45 rfl (by kernel_rfl) (by kernel_rfl) (by kernel_rfl) rfl rfl ?_
 conv=>whnf
 refine ⟨_,cRRootMultiple hF hm sx h hK,?_⟩;rw [e]
 conv=>whnf
 refine ⟨_,cRKept hF hm sy,?_⟩
 conv=>whnf
 rfl
theorem cNearBad {E P M:Int} (h:¬ ((0≤M∧M≤4)∧Fmt E P)):Cal Tryz.prog OQ 42 [fA E P,iA M,nA q] (.t [nA 0,iA 2]):=by
 refine fn_call TK MX Tryz.func42 rfl (by kernel_rfl) (by kernel_rfl) (by kernel_rfl) rfl rfl ?_
 conv=>whnf
 refine ⟨_,cRoundBad h,?_⟩
 conv=>whnf
 refine ⟨_,cNumberErr (e:=2) (by decide),?_⟩
 conv=>whnf
 rfl
theorem cNearRootBad {E P M:Int} (h:¬ ((0≤M∧M≤4)∧Fmt E P)):Cal Tryz.prog OQ 44 [fA E P,iA M,nA q] (.t [nA 0,iA 2]):=by
 refine fn_call TK MX Tryz.func44 rfl (by kernel_rfl) (by kernel_rfl) (by kernel_rfl) rfl rfl ?_
 conv=>whnf
 refine ⟨_,cRootBad h,?_⟩
 conv=>whnf
 refine ⟨_,cNumberErr (e:=2) (by decide),?_⟩
 conv=>whnf
 rfl
theorem cNearRootF (hF:Fmt E P) (hm:m≤4) (sx:SmQ K q) (h:0≤q) (hK:K≤12000) (hw:(rootR E P m q).1<2^(E+P)) {b:Rat×Bool} (e:numAV E P (rootR E P m q).1=.t [nA b.1,iA (if b.2=true then 0 else 7)]) :
  Cal Tryz.prog OQ 44 [fA E P,iA (m:Nat),nA q] (.t [nA b.1,iA (if b.2=true then 0 else 7)]):=by
 have hr:=cRootF hF hm sx hK;rw [if_neg (Rat.not_lt.2 h)] at hr;refine fn_call TK MX Tryz.func44 rfl (by kernel_rfl) (by kernel_rfl) (by kernel_rfl) rfl rfl ?_
 conv=>whnf
 refine ⟨_,hr,?_⟩
 conv=>whnf
 refine ⟨_,cNumber hF hw,?_⟩;rw [e]
 conv=>whnf
 rfl
theorem cNearRootNeg (hF:Fmt E P) (hm:m≤4) (sx:SmQ K q) (h:q<0) (hK:K≤12000):Cal Tryz.prog OQ 44 [fA E P,iA (m:Nat),nA q] (.t [nA 0,iA 9]):=by
 have hr:=cRootF hF hm sx hK;rw [if_pos h] at hr;refine fn_call TK MX Tryz.func44 rfl (by kernel_rfl) (by kernel_rfl) (by kernel_rfl) rfl rfl ?_
 conv=>whnf
 refine ⟨_,hr,?_⟩
 conv=>whnf
 refine ⟨_,cNumberErr (e:=9) (by decide),?_⟩
 conv=>whnf
 rfl
def RndS (R R' N N':FuncId) (E P M:Int) (q:Rat):Prop:=∃ (w:Nat) (fl e:Int),Cal Tryz.prog OQ R [fA E P,iA M,nA q] (.t [wA w,iA fl,iA e])∧Cal Tryz.prog OQ R' [fA E P,iA M,rA q] (.t [wA w,iA fl,iA e]) ∧
 ((e=0∧∃ (v:Rat) (b:Bool),SmQ 40000 v∧(b=false→v=0)∧Cal Tryz.prog OQ N [fA E P,iA M,nA q] (.t [nA v,iA (if b=true then 0 else 7)])∧Cal Tryz.prog OQ N' [fA E P,iA M,rA q] (.t [rA v,bA b])) ∨
  (e≠0∧Cal Tryz.prog OQ N [fA E P,iA M,nA q] (.t [nA 0,iA e])))
theorem rndS {E P M:Int} (sx:SmQ K q) (hK:K≤12000):RndS 16 39 42 43 E P M q:=by
 by_cases h:(0≤M∧M≤4)∧Fmt E P
 ·obtain ⟨e,p,m,rfl,rfl,rfl,hm,hF⟩:=fmt_cases h;refine ⟨_,_,0,cRoundF hF hm sx hK,cRRound hF hm sx hK,.inl ⟨rfl,?_⟩⟩
  by_cases h0:q=0
  ·subst h0;have hk:=cRNearG (neg:=false) (n:=0) (f:=0) hF hm sx hK (by rw [mulQ_zero,zero_wv]) (by rw [zero_wv];exact SmQ.zero _ (by decide));have hn:=cNear hF hm sx hK;have hr:=near_res (m:=m) (ex:=true) (tiny:=true) (neg:=false) (n:=0) (f:=0) hF (Nat.zero_le _) (.inl rfl);rw [zero_res] at hr;rw [rq_zero,hr] at hn
   exact ⟨_,_,keptV_sm hF (by rw [zero_wv];exact SmQ.zero _ (by decide)),kept_zero,hn,hk⟩
  ·have hst:=stN_le (modeN m (decide (q.num<0))) (rdN p (bias e) (lgQ q) q) (rdT p (bias e) (lgQ q) q);have hlt:=rdN_lt (P:=p) (b:=bias e) (lg_is h0);have hP:1≤p:=by have:=(fmt_n hF).2.2.1;omega
   have hn2:stN (modeN m (decide (q.num<0))) (rdN p (bias e) (lgQ q) q) (rdT p (bias e) (lgQ q) q)≤2^p:=by omega
   have hf2:rdF (bias e) (lgQ q)=0∨2^(p-1)≤stN (modeN m (decide (q.num<0))) (rdN p (bias e) (lgQ q) q) (rdT p (bias e) (lgQ q) q):=by
    rcases rdN_ge (b:=bias e) hP (lg_is h0) with h | h
    ·exact .inl h
    ·exact .inr (by omega)
   have sz:=szQ_sm (m:=m) hF sx hK h0;rw [szQ_wv] at sz;have sz:=sz.mono (show 30000≤40000 by decide);have hk:=cRNearG hF hm sx hK (by rw [mulQ_sz hm h0,szQ_wv]) sz;have hn:=cNear hF hm sx hK;have hr:=near_res (m:=m) (neg:=decide (q.num<0)) (ex:=decide ((rdT p (bias e) (lgQ q) q).den=1)) (tiny:=decide (lgQ q<1-((bias e:Nat):Int))) hF hn2 hf2;rw [rq_res h0] at hr;rw [hr] at hn
   exact ⟨_,_,keptV_sm hF sz,kept_zero,hn,hk⟩
 ·exact ⟨_,_,_,cRoundBad h,cRRoundBad h,.inr ⟨by decide,cNearBad h⟩⟩
theorem rootS {E P M:Int} (sx:SmQ K q) (hK:K≤12000):RndS 40 41 44 45 E P M q:=by
 by_cases h:(0≤M∧M≤4)∧Fmt E P
 ·obtain ⟨e,p,m,rfl,rfl,rfl,hm,hF⟩:=fmt_cases h;have h1:=cRootF hF hm sx hK;have h2:=cRRootF hF hm sx hK
  by_cases hq:q<0
  ·rw [if_pos hq] at h1 h2
   exact ⟨_,_,_,h1,h2,.inr ⟨by decide,cNearRootNeg hF hm sx hq hK⟩⟩
  ·have hq0:0≤q:=Rat.not_lt.1 hq;rw [if_neg hq] at h1 h2;refine ⟨_,_,0,h1,h2,.inl ⟨rfl,?_⟩⟩;have sy:=(rmQ_sm (m:=m) hF sx hq0 hK).mono (show 20000≤40000 by decide)
   by_cases h0:q=0
   ·subst h0;have e0:rmQ e p m 0=sgnQ false*wv p (bias e) 0 0:=by rw [zero_wv];exact if_pos rfl
    have er:rootR e p m 0=(0,0):=by
     have:rootR e p m 0=(sgb e p false,0):=if_pos rfl
     rw [this];rfl
    have hr:=near_res (m:=m) (ex:=true) (tiny:=true) (neg:=false) (n:=0) (f:=0) hF (Nat.zero_le _) (.inl rfl);rw [zero_res,←er] at hr
    exact ⟨_,_,keptV_sm hF (e0 ▸ sy),kept_zero,cNearRootF hF hm sx hq0 hK (by rw [er];exact Nat.pow_pos (by decide)) hr,cRNearRootG hF hm sx hq0 hK e0 (e0 ▸ sy)⟩
   ·have hp:0<q:=by grind
    have hh:=rt_hyps (m:=m) hF hp;have e0:=rmQ_wv (E:=e) (P:=p) (m:=m) h0;have hr:=near_res (m:=m) (neg:=false) (ex:=rtE p (bias e) (lgQ q/2) q) (tiny:=decide (lgQ q/2<1-((bias e:Nat):Int))) hF hh.1 hh.2;have hw:=resW_lt (m:=m) (neg:=false) (ex:=rtE p (bias e) (lgQ q/2) q) (tiny:=decide (lgQ q/2<1-((bias e:Nat):Int))) hF hh.1 hh.2;rw [rootR_res h0] at hr hw
    exact ⟨_,_,keptV_sm hF (e0 ▸ sy),kept_zero,cNearRootF hF hm sx hq0 hK hw hr,cRNearRootG hF hm sx hq0 hK e0 (e0 ▸ sy)⟩
 ·exact ⟨_,_,_,cRootBad h,cRRootBad h,.inr ⟨by decide,cNearRootBad h⟩⟩
end


end Go.Proofs.YtgabigepocfllaaGreatDoor
