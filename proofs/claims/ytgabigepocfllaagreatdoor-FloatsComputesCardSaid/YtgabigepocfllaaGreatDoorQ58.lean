/- Plain: results of operands with other signs, with the other mode, have other signs. -/
import Derived.Test.YtgabigepocfllaaGreatDoorQ34
import Derived.Test.YtgabigepocfllaaGreatDoorQ37
namespace Go.Proofs.YtgabigepocfllaaGreatDoor
open Go.RowKit Vn
set_option maxRecDepth 100000
set_option maxHeartbeats 8000000
theorem num_flip {q:Rat} (h:q≠0):decide ((-q).num<0) = !decide (q.num<0):=by
 rw [Bool.eq_iff_iff];simp only [decide_eq_true_eq,Bool.not_eq_true',decide_eq_false_iff_not,num_neg_iff]
 grind
theorem mode_flip {m:Nat} (neg:Bool):modeN (mirM m) (!neg)=modeN m neg:=by
 unfold modeN mirM
 cases neg
 ·by_cases h3:m=3
  ·subst h3;rfl
  ·by_cases h4:m=4
   ·subst h4;rfl
   ·simp [h3,h4]
 ·simp
theorem flip_word {E P n f:Nat} (neg:Bool) (h:n+f*2^(P-1)<2^(E+P-1)):flipW E P (wordN E P neg n f)=wordN E P (!neg) n f:=by
 rw [wordN_eq neg h,wordN_eq (!neg) h];unfold flipW
 cases neg
 ·rw [if_neg (by simp;omega)];simp
 ·rw [if_pos (by simp)];simp
theorem inf_flip {E P:Nat} (hP:1≤P) (s:Bool):flipW E P (infw E P s)=infw E P (!s):=by
 have hp:0<2^(P-1):=Nat.pow_pos (by decide);have h0:0+(2^E-1)*2^(P-1)<2^(E+P-1):=by
  rw [pow_EP hP,Nat.mul_comm (2^(P-1))]
  have:0<2^E:=Nat.pow_pos (by decide)
  have:=Nat.mul_lt_mul_of_pos_right (show 2^E-1<2^E by omega) hp
  omega
 rw [inf_word,inf_word,flip_word s h0]
def OppF (E P:Nat) (r s:Nat×Nat):Prop:=r.1<2^(E+P)∧r.2=s.2∧wkind E P r.1≠4∧s.1=flipW E P r.1
theorem opp_inf {E P f:Nat} (hP:1≤P) (s:Bool):OppF E P (infw E P s,f) (infw E P (!s),f) :=
 ⟨(inf_ok hP s).1,rfl,by show wkind E P (infw E P s)≠4;rw [inf_kind hP s];decide,(inf_flip hP s).symm⟩
theorem opp_word {E P n f g:Nat} (hE:2≤E) (hP:1≤P) (s:Bool) (h:n+f*2^(P-1)<2^(E+P-1)) (hn:n≤2^P) (hf:f=0∨2^(P-1)≤n)
  (hg:((n:Nat):Rat)*(2:Rat)^(2-(bias E:Int)-P+(f:Nat))≤grQ P (bias E)):OppF E P (wordN E P s n f,g) (wordN E P (!s) n f,g):=by
 refine ⟨wordN_lt (by omega) s h,rfl,?_,(flip_word s h).symm⟩
 have:wkind E P (wordN E P s n f)≤2:=by
  refine kind_of_le hE hP ?_;rw [wordN_val hP s h hn hf,absQ_signed (steps_nonneg _ _)];exact hg
 show wkind E P (wordN E P s n f)≠4
 omega
theorem lgQ_neg (q:Rat):lgQ (-q)=lgQ q:=by unfold lgQ;rw [absQ_neg]
theorem rq_opp {E P m:Nat} (hF:Fmt E P) {q:Rat} (h0:q≠0):OppF E P (rq E P m q) (rq E P (mirM m) (-q)):=by
 obtain ⟨hE,_,hP,_⟩:=fmt_n hF;have hq : -q≠0:=fun e=>h0 (by have:=congrArg (fun x => -x) e;simpa using this);have hl:=lg_is h0;have hN:=endN_le (P:=P) (b:=bias E) (m:=m) hl (decide (q.num<0)) (decide ((rdT P (bias E) (lgQ q) q).den=1)) (cmpQ ((rdT P (bias E) (lgQ q) q-(rdN P (bias E) (lgQ q) q:Nat))*2) 1);have hge:rdF (bias E) (lgQ q)=0∨2^(P-1)≤endN m (decide (q.num<0)) (rdN P (bias E) (lgQ q) q) (decide ((rdT P (bias E) (lgQ q) q).den=1)) (cmpQ ((rdT P (bias E) (lgQ q) q-(rdN P (bias E) (lgQ q) q:Nat))*2) 1):=by
  rcases rdN_ge (b:=bias E) (show 1≤P by omega) hl with h | h
  ·exact .inl h
  ·exact .inr (Nat.le_trans h hN.2)
 have eT:rdT P (bias E) (lgQ q) (-q)=rdT P (bias E) (lgQ q) q:=by unfold rdT;rw [absQ_neg]
 have eN:rdN P (bias E) (lgQ q) (-q)=rdN P (bias E) (lgQ q) q:=by unfold rdN;rw [eT]
 have e1:rq E P m q=roundR E P (bias E) m q (lgQ q):=if_neg h0;have e2:rq E P (mirM m) (-q)=roundR E P (bias E) (mirM m) (-q) (lgQ q):=by
  show rnd E P (bias E) (mirM m) (-q) (lgQ (-q))=_
  rw [lgQ_neg];exact if_neg hq
 rw [e1,e2];unfold roundR;rw [eT,eN,num_flip h0];generalize decide (q.num<0)=s at *
 generalize decide ((rdT P (bias E) (lgQ q) q).den=1)=is at *
 generalize cmpQ ((rdT P (bias E) (lgQ q) q-(rdN P (bias E) (lgQ q) q:Nat))*2) 1=c at *
 unfold endR;have eE:endN (mirM m) (!s) (rdN P (bias E) (lgQ q) q) is c=endN m s (rdN P (bias E) (lgQ q) q) is c:=by unfold endN;rw [mode_flip]
 rw [eE,mode_flip]
 split
 ·rename_i hg
  exact opp_word hE (by omega) s (end_fits (by omega) (by omega) hN.1 hge hg) hN.1 hge hg
 ·split
  ·have hb:1≤bias E:=by
    have h4:=two_bias (E:=E) (by omega)
    have:2^2≤2^E:=Nat.pow_le_pow_right (by decide) hE
    omega
   have hp:2^P=2*2^(P-1):=by rw [←Nat.pow_succ'];congr 1;omega
   have hp0:0<2^(P-1):=Nat.pow_pos (by decide);refine opp_word hE (by omega) s (great_fits hE (by omega)) (by omega) (.inr (by omega)) ?_;unfold grQ;rw [show (2:Int)-(bias E:Int)-P+((2*bias E-1:Nat):Int)=(bias E:Int)-P+1 by omega]
   exact Rat.le_refl
  ·exact opp_inf (by omega) s
/-! ### the parts of a word with the other sign -/
theorem flip_p {E P n:Nat} (hE:1≤E) (hn:n<2^(E+P)):flipW E P n<2^(E+P)∧mag E P (flipW E P n)=mag E P n∧wn E P (flipW E P n) = !(wn E P n):=by
 have h:=word_split (E:=E) (P:=P) (by omega) hn;have hm:=mag_lt E P n;have hm':mag E P n+0*2^(P-1)<2^(E+P-1):=by simpa using hm
 have hf:flipW E P n=wordN E P (!(wn E P n)) (mag E P n) 0:=by
  conv=>lhs;rw [h]
  exact flip_word _ hm'
 rw [hf];refine ⟨wordN_lt (by omega) _ hm',?_,wordN_wn _ hm'⟩;rw [wordN_mag _ hm];unfold mag at *
 cases wn E P n
 ·simp [Nat.mod_eq_of_lt,hm]
 ·simp
theorem flip_kd {E P n:Nat} (hE:1≤E) (hP:1≤P) (hn:n<2^(E+P)):kd E P (flipW E P n)=kd E P n:=by
 show wkind E P _=wkind E P _
 rw [←wkind_mag hP,(flip_p hE hn).2.1,wkind_mag hP]
theorem flip_vl {E P n:Nat} (hE:1≤E) (hP:1≤P) (hn:n<2^(E+P)) (hk:kd E P n≤3):vl E P (flipW E P n) = -vl E P n:=by
 have ek:=flip_kd hE hP hn
 by_cases h:kd E P n≤2
 ·show wvalK E P (bias E) _ = -wvalK E P (bias E) _
  rw [wvalK_fin (show wkind E P _≤2 by rw [show wkind E P (flipW E P n)=_ from ek];exact h),wvalK_fin h,wval_mag hP (n:=n),wval_mag hP (n:=flipW E P n),(flip_p hE hn).2.1,(flip_p hE hn).2.2]
  cases wn E P n<;>simp<;>grind
 ·have h3:kd E P n=3:=by omega
  have z:∀ x,kd E P x=3→vl E P x=0:=by
   intro x hx
   have hx:wkind E P x=3:=hx
   show wvalK E P (bias E) x=0
   unfold wvalK;rw [hx];simp
  rw [z _ h3,z _ (ek.trans h3)];simp
end Go.Proofs.YtgabigepocfllaaGreatDoor
