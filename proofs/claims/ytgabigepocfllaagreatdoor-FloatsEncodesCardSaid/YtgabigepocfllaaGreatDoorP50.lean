/- The reference: Has, words, Decode, by reckoning. -/
import Derived.Test.YtgabigepocfllaaGreatDoorP45
import Derived.Test.YtgabigepocfllaaGreatDoorP49
namespace Go.Proofs.YtgabigepocfllaaGreatDoor
open Go.RowKit Vn
set_option maxRecDepth 100000
set_option maxHeartbeats 8000000
section
variable {E P m n k:Nat} {q:Rat} {K:Nat}
theorem has_step (h0:q≠0):q/(2:Rat)^(stE E P q)=q*(2:Rat)^(-(max (lgQ q) (1-(bias E:Int))-P+1)):=by
 have e:stE E P q=max (lgQ q) (1-(bias E:Int))-P+1:=by
  unfold stE lg0 rdK rdF;rw [if_neg h0];omega
 rw [e,Rat.div_def,←Rat.zpow_neg]
theorem cRHas (hF:Fmt E P) (sx:SmQ K q) (hK:K≤12000):Cal Tryz.prog OQ 52 [fA E P,rA q] (bA (hasB E P q)):=by
 have ss:SmQ 20000 ((2:Rat)^(stE E P q)):=(p2_sm (stE_sm hF sx (by omega))).mono (by omega);have sx':SmQ 20000 q:=sx.mono (by omega);have hs:=p2_pos (stE E P q);have hs0:(2:Rat)^(stE E P q)≠0:=by grind
 refine fn_call TK MX Tryz.func52 rfl (by kernel_rfl) (by kernel_rfl) (by kernel_rfl) rfl rfl ?_
 conv=>whnf
 refine ⟨_,cRCheck,?_⟩;rw [show fmtZ E P=0 from if_pos hF]
 conv=>whnf
 refine ⟨_,cRBeyond hF sx' (by decide),?_⟩;have hc:decide (cmpQ (absQ q) (grQ P (bias E))≤0) = !decide (grQ P (bias E)<absQ q):=by
  rw [Bool.eq_iff_iff];simp only [decide_eq_true_iff,Bool.not_eq_true',decide_eq_false_iff_not,cmpQ_iff,Rat.not_lt]
 have h1:q=0→hasB E P q=true:=fun h=>by unfold hasB;rw [if_pos h]
 have h2:q≠0→hasB E P q=(hasI E P q && !decide (grQ P (bias E)<absQ q)):=fun h=>by unfold hasB;rw [if_neg h,hc]
 have h3:q=0→decide (grQ P (bias E)<absQ q)=false:=fun h=>by
  rw [h,absQ_nonneg Rat.le_refl];exact decide_eq_false (Rat.not_lt.2 (grQ_nonneg P (bias E)))
 by_cases h0:q=0
 ·rw [h3 h0,h1 h0]
  conv=>whnf
  refine ⟨_,cRStep hF sx (by omega),?_⟩
  conv=>whnf
  refine ⟨_,cROver sx' ss (by decide) hs0,?_⟩
  conv=>whnf
  refine ⟨_,cRIsInt (sx'.div ss hs0) (by decide),?_⟩;subst h0;rw [show (0:Rat)/(2:Rat)^(stE E P 0)=0 by rw [Rat.div_def,Rat.zero_mul]]
  conv=>whnf
  rfl
 ·rw [h2 h0]
  cases hg:decide (grQ P (bias E)<absQ q)
  ·conv=>whnf
   refine ⟨_,cRStep hF sx (by omega),?_⟩
   conv=>whnf
   refine ⟨_,cROver sx' ss (by decide) hs0,?_⟩
   conv=>whnf
   refine ⟨_,cRIsInt (sx'.div ss hs0) (by decide),?_⟩;rw [has_step h0,show decide ((q*(2:Rat)^(-(max (lgQ q) (1-(bias E:Int))-P+1))).den=1)=hasI E P q from rfl]
   cases hasI E P q<;>(conv=>whnf)<;>rfl
  ·conv=>whnf
   cases hasI E P q<;>rfl
theorem cRWords1 (hF:Fmt E P) (hm:m≤4) (hn:W128 n):Cal Tryz.prog OQ 108 [fA E P,iA (m:Nat),.c (.sl 2 [wdC n])] (iA (if n<2^(E+P) then 0 else 6)):=by
 refine fn_call TK MX Tryz.func108 rfl (by kernel_rfl) (by kernel_rfl) (by kernel_rfl) rfl rfl ?_
 conv=>whnf
 refine ⟨_,cRAsked,?_⟩;rw [ask_good ⟨⟨by omega,by omega⟩,hF⟩]
 conv=>whnf
 refine ⟨2,?_⟩
 conv=>whnf
 refine ⟨_,cRIs hF hn,?_⟩
 conv=>whnf
 by_cases h:n<2^(E+P)
 ·rw [dT h,if_pos h]
  conv=>whnf
  rfl
 ·rw [dF h,if_neg h]
  conv=>whnf
  rfl
theorem cRDecode (hF:Fmt E P) (hn:n<2^(E+P)):Cal Tryz.prog OQ 27 [fA E P,wA n] (.t [.g [.v (.int .i64 (kd E P n)),.v (.bool (wn E P n)),.v (.string (numText (vl E P n)))],iA 0]):=by
 refine fn_callB [(5,[(1,7),(3,7),(5,7),(8,4)])] TK MX Tryz.func27 rfl (by kernel_rfl) (by kernel_rfl) (by kernel_rfl) rfl rfl ?_
 conv=>whnf
 refine ⟨_,cRWords1 (m:=0) hF (by decide) (w128 hF hn),?_⟩;rw [if_pos hn]
 conv=>whnf
 refine ⟨_,cRLook hF hn,?_⟩
 conv=>whnf
 refine ⟨_,cRText (sm_word hF) (by decide),?_⟩
 conv=>whnf
 rfl
end
theorem or_split {k A T n m:Nat} (hn:n<2^k) (hm:m<2^k):(2^k*A+n) ||| (2^k*T+m)=2^k*(A ||| T)+(n ||| m):=by
 apply Nat.eq_of_testBit_eq
 intro j
 rw [Nat.testBit_or,Nat.testBit_two_pow_mul_add _ hn,Nat.testBit_two_pow_mul_add _ hm,Nat.testBit_two_pow_mul_add _ (Nat.or_lt_two_pow hn hm),Nat.testBit_or,Nat.testBit_or]
 split<;>rfl
def infA (E:Nat) (neg:Bool):Nat:=(2^E-1)+2^E*(if neg=true then 1 else 0)
section
variable {E P n:Nat} {neg:Bool}
theorem infw_A (hP:1≤P):infw E P neg=2^(P-1)*infA E neg:=by
 have e:infw E P neg=wordN E P neg 0 (2^E-1):=by unfold infw wordN;rw [Nat.zero_add]
 have h:=infZ_lt (E:=E) hP;unfold infZ at h;rw [e,wordN_eq neg (by omega),pow_EP hP];unfold infA;rw [Nat.mul_add,Nat.zero_add,Nat.mul_assoc,Nat.mul_comm (2^E-1)]
theorem codeN_A (hP:1≤P):codeN E P neg (2^E-1) n=2^(P-1)*infA E neg+n:=by
 unfold codeN infA;rw [pow_EP hP,Nat.mul_add,Nat.mul_comm (2^E-1)]
 cases neg
 ·rw [if_neg (by decide),if_neg (by decide)];omega
 ·rw [if_pos rfl,if_pos rfl,Nat.mul_one];omega
theorem infA_or:infA E neg ||| (2^E-1)=infA E neg:=by
 have hp:0<2^E:=Nat.pow_pos (by decide);have h:=or_split (k:=E) (A:=if neg=true then 1 else 0) (T:=0) (n:=2^E-1) (m:=2^E-1) (by omega) (by omega);rw [Nat.mul_zero,Nat.zero_add,Nat.or_zero,Nat.or_self] at h;unfold infA;rw [Nat.add_comm,h]
theorem infw_or (hP:1≤P) (hn:n<2^(P-1)):infw E P neg ||| n=codeN E P neg (2^E-1) n:=by
 have h:=or_split (k:=P-1) (A:=infA E neg) (T:=0) (n:=0) (m:=n) (Nat.pow_pos (by decide)) hn;rw [Nat.mul_zero,Nat.zero_add,Nat.add_zero,Nat.or_zero,Nat.zero_or] at h;rw [infw_A hP,h,codeN_A hP]
theorem quiet_or (hP:2≤P) (hn:n<2^(P-2)):codeN E P neg (2^E-1) n ||| nanw E P=codeN E P neg (2^E-1) (n+2^(P-2)):=by
 have h2:2^(P-1)=2*2^(P-2):=by rw [←Nat.pow_succ'];congr 1;omega
 have hq:nanw E P=2^(P-1)*(2^E-1)+2^(P-2):=by
  unfold nanw;rw [infw_or (by omega) (by omega),codeN_A (by omega)];unfold infA;rw [if_neg (by decide)];simp
 have hl:n ||| 2^(P-2)=n+2^(P-2):=by
  have h:=or_split (k:=P-2) (A:=0) (T:=1) (n:=n) (m:=0) hn (Nat.pow_pos (by decide));rw [Nat.mul_zero,Nat.zero_add,Nat.zero_or,Nat.mul_one,Nat.add_zero,Nat.or_zero] at h;rw [h];omega
 rw [codeN_A (by omega),hq,or_split (by omega) (by omega),infA_or,hl,codeN_A (by omega)]
theorem code_lt (hP:1≤P) (hn:n<2^(P-1)):codeN E P neg (2^E-1) n<2^(E+P):=by
 have hp:0<2^E:=Nat.pow_pos (by decide);have h1:infA E neg+1≤2*2^E:=by unfold infA;split<;>omega
 have h2:2^(E+P)=2^(P-1)*(2*2^E):=by
  rw [←Nat.pow_succ',←Nat.pow_add];congr 1;omega
 have h3:2^(P-1)*(infA E neg+1)≤2^(P-1)*(2*2^E):=Nat.mul_le_mul_left _ h1;rw [codeN_A hP,h2];rw [Nat.mul_add,Nat.mul_one] at h3
 omega
end
def nanOk (P:Nat) (q:Rat):Bool:=decide (q.den=1)&&(!decide (q.num.sign<0) && !decide (cmpQ q ((2:Rat)^((P-2:Nat):Int))≥0))
theorem nanOk_nat {P:Nat} {q:Rat} (h:nanOk P q=true):∃ n:Nat,q=((n:Nat):Rat)∧n<2^(P-2):=by
 unfold nanOk at h;simp only [Bool.and_eq_true,decide_eq_true_iff,Bool.not_eq_true',decide_eq_false_iff_not] at h;obtain ⟨h1,h2,h3⟩:=h;have hn:0≤q.num:=by
  have:¬ q.num<0:=fun k=>h2 (Int.sign_neg_iff.2 k)
  omega
 have e:q=((q.num.toNat:Nat):Rat):=by
  have:=num_eq q
  rw [h1] at this;have e2:((q.num.toNat:Nat):Rat)=((q.num:Int):Rat):=by
   have:((q.num.toNat:Nat):Int)=q.num:=by omega
   rw [←this];rfl
  rw [e2,this];grind
 refine ⟨_,e,?_⟩;have h4:q<(2:Rat)^((P-2:Nat):Int):=cmpQ_lt.1 (by omega);rw [p2_nat,e,Rat.natCast_lt_natCast] at h4
 exact h4
def encB (E P w:Nat) (k:Int) (neg:Bool) (l:List UInt8):Bool:=(kd E P w==k&&(wn E P w==neg&&((numText (vl E P w)).toList==(ba l).toList&&true)))
def encV (E P w:Nat) (k:Int) (neg:Bool) (l:List UInt8):Nat×Int:=if encB E P w k neg l=true then (w,0) else (0,6)
abbrev z2 (r:Nat×Int):AV:=.t [wA r.1,iA r.2]
def nanV (E P:Nat) (k:Int) (neg:Bool) (n:Nat):Nat:=codeN E P neg (2^E-1) (if k=4 then n+2^(P-2) else n)
def encOf (E P:Nat) (k:Int) (neg:Bool) (l:List UInt8) (fin:Nat×Int):Nat×Int :=
 if (parseV l).2≠0 then (0,6)
 else if k=1∨k=2 then fin
 else if k=3 then encV E P (infw E P neg) k neg l
 else if k=4∨k=5 then (if nanOk P (parseV l).1=true then encV E P (nanV E P k neg (parseV l).1.num.toNat) k neg l else (0,6))
 else encV E P 0 k neg l
def encP (E P:Nat) (k:Int) (neg:Bool) (l:List UInt8):Nat×Int:=encV E P (if k=1 then sgb E P neg else (rq E P 0 (parseV l).1).1) k neg l
theorem zero_lt (E P:Nat):0<2^(E+P):=Nat.pow_pos (by decide)
theorem nanV_lt {E P n:Nat} {k:Int} {neg:Bool} (hP:2≤P) (hn:n<2^(P-2)):nanV E P k neg n<2^(E+P):=by
 have h2:2^(P-1)=2*2^(P-2):=by rw [←Nat.pow_succ'];congr 1;omega
 unfold nanV;refine code_lt (by omega) ?_
 split<;>omega
theorem pne {k c:Int} (h:k≠c):(k==c)=false:=beq_eq_false_iff_ne.2 h
theorem nne {k c:Int} (h:k≠c):(k != c)=true:=bne_iff_ne.2 h
section
variable {E P:Nat} {k:Int} {neg:Bool} {l:List UInt8}
theorem nanw_okE (hE:2≤E) (hP:2≤P):nanw E P<2^(E+P):=by
 have _h:=hE;have e:nanw E P=codeN E P false (2^E-1) (2^(P-2)):=by
  unfold nanw
  exact infw_or (by omega) (Nat.pow_lt_pow_right (by decide) (by omega))
 rw [e]
 exact code_lt (by omega) (Nat.pow_lt_pow_right (by decide) (by omega))
theorem cEncodeF (hF:Fmt E P) (hl:l.length≤9223372036854775807):Cal Tryz.prog OQ 10 [fA E P,flA k neg (ba l)] (z2 (encOf E P k neg l (encP E P k neg l))):=by
 have hP:=(fmt_n hF).2.2.1;have hE:=(fmt_n hF).1;have hP1:1≤P:=by omega
 refine fn_call TK MX Tryz.func10 rfl (by kernel_rfl) (by kernel_rfl) (by kernel_rfl) rfl rfl ?_;have sq:=parse_sm l;unfold encOf encP
 conv=>whnf
 refine ⟨_,cWith0 (m:=0) hF (by decide),?_⟩
 conv=>whnf
 refine ⟨_,cParse hl,?_⟩
 conv=>whnf
 by_cases hz:(parseV l).2=0
 ·rw [hz,if_neg (show ¬ (0:Int)≠0 by decide)];generalize (parseV l).1=q at *
  conv=>whnf
  by_cases h1:k=1
  ·subst h1;rw [if_pos (.inl rfl),if_pos rfl]
   conv=>whnf
   refine ⟨_,cZero hF,?_⟩
   conv=>whnf
   unfold encV;have hbb:(kd E P (sgb E P neg)==1&&(wn E P (sgb E P neg)==neg&&((numText (vl E P (sgb E P neg))).toList==(ba l).toList&&true)))=encB E P (sgb E P neg) 1 neg l:=rfl;refine ⟨_,cDecode hF (sgb_ok hE hP1 neg).1,?_⟩
   conv=>whnf
   rw [hbb]
   cases hb:encB E P (sgb E P neg) 1 neg l
   ·rw [if_neg (by decide)]
    conv=>whnf
    rfl
   ·rw [if_pos rfl]
    conv=>whnf
    rfl
  by_cases h2:k=2
  ·subst h2;rw [if_pos (.inr rfl),if_neg (show ¬ (2:Int)=1 by decide)]
   conv=>whnf
   refine ⟨_,cRoundQ hF (by decide) sq (by decide),?_⟩
   conv=>whnf
   unfold encV;have hbb:(kd E P (rq E P 0 q).1==2&&(wn E P (rq E P 0 q).1==neg&&((numText (vl E P (rq E P 0 q).1)).toList==(ba l).toList&&true)))=encB E P (rq E P 0 q).1 2 neg l:=rfl;refine ⟨_,cDecode hF (rq_lt hF),?_⟩
   conv=>whnf
   rw [hbb]
   cases hb:encB E P (rq E P 0 q).1 2 neg l
   ·rw [if_neg (by decide)]
    conv=>whnf
    rfl
   ·rw [if_pos rfl]
    conv=>whnf
    rfl
  rw [if_neg (show ¬ (k=1∨k=2) from fun h=>h.elim h1 h2)]
  by_cases h3:k=3
  ·subst h3;rw [if_pos rfl]
   conv=>whnf
   refine ⟨_,cInf hF,?_⟩
   conv=>whnf
   unfold encV;have hbb:(kd E P (infw E P neg)==3&&(wn E P (infw E P neg)==neg&&((numText (vl E P (infw E P neg))).toList==(ba l).toList&&true)))=encB E P (infw E P neg) 3 neg l:=rfl;refine ⟨_,cDecode hF (inf_ok hP1 neg).1,?_⟩
   conv=>whnf
   rw [hbb]
   cases hb:encB E P (infw E P neg) 3 neg l
   ·rw [if_neg (by decide)]
    conv=>whnf
    rfl
   ·rw [if_pos rfl]
    conv=>whnf
    rfl
  rw [if_neg h3];have key:∀ {n:Nat},n<2^(P-2)→(infw E P neg ||| n)=codeN E P neg (2^E-1) n:=fun h=>infw_or hP1 (by
   have h2:2^(P-1)=2*2^(P-2):=by rw [←Nat.pow_succ'];congr 1;omega
   omega)
  have wl:∀ {n:Nat},n<2^(P-2)→W128 n:=fun h=>Nat.lt_of_lt_of_le h (Nat.le_trans (Nat.pow_le_pow_right (by decide) (show P-2≤111 by have:=(fmt_n hF).2.2.2.1;omega)) (by decide));have wi:W128 (infw E P neg):=w128 hF (inf_ok hP1 neg).1
  by_cases h4:k=4
  ·subst h4;rw [if_pos (.inl rfl)]
   conv=>whnf
   refine ⟨_,cIsInt,?_⟩;unfold nanOk
   cases hd:decide (q.den=1)
   ·rw [Bool.false_and,if_neg (by decide)]
    conv=>whnf
    rfl
   conv=>whnf
   refine ⟨_,cSign,?_⟩
   conv=>whnf
   cases hs:decide (q.num.sign<0)
   case true =>
    rw [Bool.not_true,Bool.false_and,Bool.and_false,if_neg (by decide)]
    conv=>whnf
    rfl
   conv=>whnf
   rw [IntWalk.i64_in ((P:Int)-2) (by have:=(fmt_n hF).2.2.2.1;omega),show (P:Int)-2=((P-2:Nat):Int) by omega];refine ⟨_,cTwoF (by omega) (by have:=(fmt_n hF).2.2.2.1;omega),?_⟩
   conv=>whnf
   have s2:SmQ 8000 ((2:Rat)^((P-2:Nat):Int)):=(SmQ.p2 (K:=200) (by have:=(fmt_n hF).2.2.2.1;omega)).mono (by decide);refine ⟨_,cCmp sq s2 (by decide),?_⟩
   conv=>whnf
   cases hc:decide (cmpQ q ((2:Rat)^((P-2:Nat):Int))≥0)
   case true =>
    rw [Bool.not_true,Bool.and_false,Bool.and_false,if_neg (by decide)]
    conv=>whnf
    rfl
   rw [if_pos (by rfl)]
   conv=>whnf
   have hok:nanOk P q=true:=by unfold nanOk;rw [hd,hs,hc];rfl
   obtain ⟨n,rfl,hn⟩:=nanOk_nat hok;have en:(((n:Nat):Rat).num).toNat=n:=by
    show ((n:Nat):Int).toNat=n
    exact Int.toNat_natCast n
   rw [en];refine ⟨_,cInf hF,?_⟩
   conv=>whnf
   refine ⟨_,cPacked (wl hn),?_⟩
   conv=>whnf
   refine ⟨_,cBoth wi (wl hn),?_⟩;rw [key hn]
   conv=>whnf
   refine ⟨_,cNanF hF,?_⟩
   conv=>whnf
   refine ⟨_,cBoth (w128 hF (code_lt hP1 (by
    have h2:2^(P-1)=2*2^(P-2):=by rw [←Nat.pow_succ'];congr 1;omega
    omega))) (w128 hF (nanw_okE hE hP)),?_⟩
   rw [quiet_or hP hn]
   conv=>whnf
   have ew:nanV E P 4 neg n=codeN E P neg (2^E-1) (n+2^(P-2)):=by unfold nanV;rw [if_pos rfl]
   have hlt:=nanV_lt (E:=E) (k:=4) (neg:=neg) hP hn;rw [ew] at hlt ⊢;unfold encV;have hbb:(kd E P (codeN E P neg (2^E-1) (n+2^(P-2)))==4&&(wn E P (codeN E P neg (2^E-1) (n+2^(P-2)))==neg&&((numText (vl E P (codeN E P neg (2^E-1) (n+2^(P-2))))).toList==(ba l).toList&&true)))=encB E P (codeN E P neg (2^E-1) (n+2^(P-2))) 4 neg l:=rfl;refine ⟨_,cDecode hF hlt,?_⟩
   conv=>whnf
   rw [hbb]
   cases hb:encB E P (codeN E P neg (2^E-1) (n+2^(P-2))) 4 neg l
   ·rw [if_neg (by decide)]
    conv=>whnf
    rfl
   ·rw [if_pos rfl]
    conv=>whnf
    rfl
  by_cases h5:k=5
  ·subst h5;rw [if_pos (.inr rfl)]
   conv=>whnf
   refine ⟨_,cIsInt,?_⟩;unfold nanOk
   cases hd:decide (q.den=1)
   ·rw [Bool.false_and,if_neg (by decide)]
    conv=>whnf
    rfl
   conv=>whnf
   refine ⟨_,cSign,?_⟩
   conv=>whnf
   cases hs:decide (q.num.sign<0)
   case true =>
    rw [Bool.not_true,Bool.false_and,Bool.and_false,if_neg (by decide)]
    conv=>whnf
    rfl
   conv=>whnf
   rw [IntWalk.i64_in ((P:Int)-2) (by have:=(fmt_n hF).2.2.2.1;omega),show (P:Int)-2=((P-2:Nat):Int) by omega];refine ⟨_,cTwoF (by omega) (by have:=(fmt_n hF).2.2.2.1;omega),?_⟩
   conv=>whnf
   have s2:SmQ 8000 ((2:Rat)^((P-2:Nat):Int)):=(SmQ.p2 (K:=200) (by have:=(fmt_n hF).2.2.2.1;omega)).mono (by decide);refine ⟨_,cCmp sq s2 (by decide),?_⟩
   conv=>whnf
   cases hc:decide (cmpQ q ((2:Rat)^((P-2:Nat):Int))≥0)
   case true =>
    rw [Bool.not_true,Bool.and_false,Bool.and_false,if_neg (by decide)]
    conv=>whnf
    rfl
   rw [if_pos (by rfl)]
   conv=>whnf
   have hok:nanOk P q=true:=by unfold nanOk;rw [hd,hs,hc];rfl
   obtain ⟨n,rfl,hn⟩:=nanOk_nat hok;have en:(((n:Nat):Rat).num).toNat=n:=by
    show ((n:Nat):Int).toNat=n
    exact Int.toNat_natCast n
   rw [en];refine ⟨_,cInf hF,?_⟩
   conv=>whnf
   refine ⟨_,cPacked (wl hn),?_⟩
   conv=>whnf
   refine ⟨_,cBoth wi (wl hn),?_⟩;rw [key hn]
   conv=>whnf
   have ew:nanV E P 5 neg n=codeN E P neg (2^E-1) n:=by unfold nanV;rw [if_neg (by decide)]
   have hlt:=nanV_lt (E:=E) (k:=5) (neg:=neg) hP hn;rw [ew] at hlt ⊢;unfold encV;have hbb:(kd E P (codeN E P neg (2^E-1) n)==5&&(wn E P (codeN E P neg (2^E-1) n)==neg&&((numText (vl E P (codeN E P neg (2^E-1) n))).toList==(ba l).toList&&true)))=encB E P (codeN E P neg (2^E-1) n) 5 neg l:=rfl;refine ⟨_,cDecode hF hlt,?_⟩
   conv=>whnf
   rw [hbb]
   cases hb:encB E P (codeN E P neg (2^E-1) n) 5 neg l
   ·rw [if_neg (by decide)]
    conv=>whnf
    rfl
   ·rw [if_pos rfl]
    conv=>whnf
    rfl
  rw [if_neg (show ¬ (k=4∨k=5) from fun h=>h.elim h4 h5)];rw [pne h1]
  conv=>whnf
  rw [pne h2]
  conv=>whnf
  rw [pne h3]
  conv=>whnf
  rw [pne h4]
  conv=>whnf
  rw [pne h5]
  conv=>whnf
  unfold encV;have hbb:(kd E P 0==k&&(wn E P 0==neg&&((numText (vl E P 0)).toList==(ba l).toList&&true)))=encB E P 0 k neg l:=rfl;refine ⟨_,cDecode hF (zero_lt E P),?_⟩
  conv=>whnf
  rw [hbb]
  cases hb:encB E P 0 k neg l
  ·rw [if_neg (by decide)]
   conv=>whnf
   rfl
  ·rw [if_pos rfl]
   conv=>whnf
   rfl
 ·rw [if_pos hz,nne hz]
  conv=>whnf
  rfl
end
section
variable {E P:Nat} {k:Int} {neg:Bool} {l:List UInt8} {q:Rat}
def hasN (E P:Nat) (q:Rat):Nat:=if q=0 then 0 else rdN P (bias E) (lgQ q) q
def hasF (E:Nat) (q:Rat):Nat:=if q=0 then 0 else rdF (bias E) (lgQ q)
def hasW (E P:Nat) (neg:Bool) (q:Rat):Nat:=wordN E P neg (hasN E P q) (hasF E q)
theorem has_wv (hE:2≤E) (hP:1≤P) (h:hasB E P q=true):absQ q=wv P (bias E) (hasN E P q) (hasF E q)∧hasN E P q≤2^P∧(hasF E q=0∨2^(P-1)≤hasN E P q)∧hasN E P q+hasF E q*2^(P-1)<2^(E+P-1):=by
 rw [hasB_iff] at h;have hf:absQ q=wv P (bias E) (hasN E P q) (hasF E q)∧hasN E P q≤2^P∧(hasF E q=0∨2^(P-1)≤hasN E P q):=by
  unfold hasN hasF
  by_cases h0:q=0
  ·rw [if_pos h0,if_pos h0,h0];refine ⟨?_,Nat.zero_le _,.inl rfl⟩;rw [absQ_nonneg Rat.le_refl];unfold wv
   have:((0:Nat):Rat)=0:=rfl
   rw [this,Rat.zero_mul]
  ·rw [if_neg h0,if_neg h0];have hl:=lg_is h0;obtain ⟨N,h1,h2⟩:=isVal_step hl h.1;have hN:=rdN_of h1;refine ⟨?_,Nat.le_of_lt (rdN_lt hl),rdN_ge hP hl⟩;rw [hN];exact h2
 refine ⟨hf.1,hf.2.1,hf.2.2,end_fits (by omega) hP hf.2.1 hf.2.2 ?_⟩
 have:=h.2
 rw [hf.1] at this
 exact this
def encR (E P:Nat) (k:Int) (neg:Bool) (l:List UInt8):Nat×Int:=if hasB E P (parseV l).1=true then encV E P (hasW E P neg (parseV l).1) k neg l else (0,6)
theorem hasW_lt (hE:2≤E) (hP:1≤P) (h:hasB E P q=true):hasW E P neg q<2^(E+P):=wordN_lt (by omega) _ (has_wv hE hP h).2.2.2
theorem cREncode (hF:Fmt E P) (hl:l.length≤9223372036854775807):Cal Tryz.prog OQ 11 [fA E P,flA k neg (ba l)] (z2 (encOf E P k neg l (encR E P k neg l))):=by
 have hP:=(fmt_n hF).2.2.1;have hP':=(fmt_n hF).2.2.2.1;have hE:=(fmt_n hF).1;have hP1:1≤P:=by omega
 refine fn_callB [(12,[(0,2),(2,3),(3,6),(6,8)]),(20,[(0,6),(2,2),(6,6)]),(21,[(0,2),(2,3),(3,2),(5,6),(7,8)])] TK MX Tryz.func11 rfl (by kernel_rfl) (by kernel_rfl) (by kernel_rfl) rfl rfl ?_;have sq:=parse_sm l;unfold encOf encR
 conv=>whnf
 refine ⟨_,cRCheck,?_⟩;rw [show fmtZ E P=0 from if_pos hF]
 conv=>whnf
 refine ⟨_,cRParse hl,?_⟩
 conv=>whnf
 by_cases hz:(parseV l).2=0
 ·rw [hz,if_neg (show ¬ (0:Int)≠0 by decide)];generalize (parseV l).1=q at *
  conv=>whnf
  by_cases h1:k=1
  ·subst h1;rw [if_pos (show (1:Int)=1∨(1:Int)=2 from .inl rfl)]
   conv=>whnf
   refine ⟨_,cRHas hF sq (by decide),?_⟩
   cases hh:hasB E P q
   ·rw [if_neg (show ¬ false=true by decide)]
    conv=>whnf
    rfl
   rw [if_pos (show true=true from rfl)]
   conv=>whnf
   refine ⟨_,cRAbs,?_⟩;obtain ⟨w1,w2,w3,w4⟩:=has_wv hE hP1 hh;rw [w1]
   conv=>whnf
   have hw:=cRWordV (neg:=neg) hF w2 w3 w4;rw [show wordN E P neg (hasN E P q) (hasF E q)=hasW E P neg q from rfl] at hw;refine ⟨_,hw,?_⟩
   conv=>whnf
   unfold encV;have hbb:(kd E P (hasW E P neg q)==1&&(wn E P (hasW E P neg q)==neg&&((numText (vl E P (hasW E P neg q))).toList==(ba l).toList&&true)))=encB E P (hasW E P neg q) 1 neg l:=rfl;refine ⟨_,cRDecode hF (hasW_lt (neg:=neg) hE hP1 hh),?_⟩
   conv=>whnf
   rw [hbb]
   cases hb:encB E P (hasW E P neg q) 1 neg l
   ·rw [if_neg (show ¬ false=true by decide)]
    conv=>whnf
    rfl
   ·rw [if_pos (show true=true from rfl)]
    conv=>whnf
    rfl
  by_cases h2:k=2
  ·subst h2;rw [if_pos (show (2:Int)=1∨(2:Int)=2 from .inr rfl)]
   conv=>whnf
   refine ⟨_,cRHas hF sq (by decide),?_⟩
   cases hh:hasB E P q
   ·rw [if_neg (show ¬ false=true by decide)]
    conv=>whnf
    rfl
   rw [if_pos (show true=true from rfl)]
   conv=>whnf
   refine ⟨_,cRAbs,?_⟩;obtain ⟨w1,w2,w3,w4⟩:=has_wv hE hP1 hh;rw [w1]
   conv=>whnf
   have hw:=cRWordV (neg:=neg) hF w2 w3 w4;rw [show wordN E P neg (hasN E P q) (hasF E q)=hasW E P neg q from rfl] at hw;refine ⟨_,hw,?_⟩
   conv=>whnf
   unfold encV;have hbb:(kd E P (hasW E P neg q)==2&&(wn E P (hasW E P neg q)==neg&&((numText (vl E P (hasW E P neg q))).toList==(ba l).toList&&true)))=encB E P (hasW E P neg q) 2 neg l:=rfl;refine ⟨_,cRDecode hF (hasW_lt (neg:=neg) hE hP1 hh),?_⟩
   conv=>whnf
   rw [hbb]
   cases hb:encB E P (hasW E P neg q) 2 neg l
   ·rw [if_neg (show ¬ false=true by decide)]
    conv=>whnf
    rfl
   ·rw [if_pos (show true=true from rfl)]
    conv=>whnf
    rfl
  rw [if_neg (show ¬ (k=1∨k=2) from fun h=>h.elim h1 h2)]
  by_cases h3:k=3
  ·subst h3;rw [if_pos (show (3:Int)=3 from rfl)]
   conv=>whnf
   refine ⟨_,cRInf hF,?_⟩
   conv=>whnf
   unfold encV;have hbb:(kd E P (infw E P neg)==3&&(wn E P (infw E P neg)==neg&&((numText (vl E P (infw E P neg))).toList==(ba l).toList&&true)))=encB E P (infw E P neg) 3 neg l:=rfl;refine ⟨_,cRDecode hF (inf_ok hP1 neg).1,?_⟩
   conv=>whnf
   rw [hbb]
   cases hb:encB E P (infw E P neg) 3 neg l
   ·rw [if_neg (show ¬ false=true by decide)]
    conv=>whnf
    rfl
   ·rw [if_pos (show true=true from rfl)]
    conv=>whnf
    rfl
  rw [if_neg h3];have q1:2^(P-2)≤2^111:=Nat.pow_le_pow_right (by decide) (by omega);have q2:2^(P-1)=2*2^(P-2):=by rw [←Nat.pow_succ'];congr 1;omega
  have hT:2^E-1≤4096:=by
   have:2^E≤2^11:=Nat.pow_le_pow_right (by decide) (fmt_n hF).2.1
   omega
  by_cases h4:k=4
  ·subst h4;rw [if_pos (show (4:Int)=4∨(4:Int)=5 from .inl rfl)]
   conv=>whnf
   refine ⟨_,cRIsInt sq (by decide),?_⟩;unfold nanOk
   cases hd:decide (q.den=1)
   ·rw [Bool.false_and,if_neg (show ¬ false=true by decide)]
    conv=>whnf
    rfl
   conv=>whnf
   refine ⟨_,cRSign,?_⟩
   conv=>whnf
   cases hs:decide (q.num.sign<0)
   case true =>
    rw [Bool.not_true,Bool.false_and,Bool.and_false,if_neg (show ¬ false=true by decide)]
    conv=>whnf
    rfl
   conv=>whnf
   rw [IntWalk.i64_in ((P:Int)-2) (by omega),show (P:Int)-2=((P-2:Nat):Int) by omega];refine ⟨_,cRTwo (by omega) (by omega),?_⟩
   conv=>whnf
   have s2:SmQ 8000 ((2:Rat)^((P-2:Nat):Int)):=(SmQ.p2 (K:=200) (by omega)).mono (by decide);refine ⟨_,cRCmp sq s2 (by decide),?_⟩
   conv=>whnf
   cases hc:decide (cmpQ q ((2:Rat)^((P-2:Nat):Int))≥0)
   case true =>
    rw [Bool.not_true,Bool.and_false,Bool.and_false,if_neg (show ¬ false=true by decide)]
    conv=>whnf
    rfl
   rw [if_pos (show (true&&(!false && !false))=true from rfl)];have hok:nanOk P q=true:=by unfold nanOk;rw [hd,hs,hc];rfl
   obtain ⟨n,rfl,hn⟩:=nanOk_nat hok;have en:(((n:Nat):Rat).num).toNat=n:=by
    show ((n:Nat):Int).toNat=n
    exact Int.toNat_natCast n
   rw [en]
   conv=>whnf
   rw [IntWalk.i64_in ((P:Int)-2) (by omega),show (P:Int)-2=((P-2:Nat):Int) by omega];refine ⟨_,cRTwo (by omega) (by omega),?_⟩
   conv=>whnf
   refine ⟨_,cRAdd sq s2 (by decide),?_⟩;rw [show ((n:Nat):Rat)+(2:Rat)^((P-2:Nat):Int)=((n+2^(P-2):Nat):Rat) by rw [p2_nat,Rat.natCast_add]]
   conv=>whnf
   refine ⟨_,cRTop hF,?_⟩
   conv=>whnf
   have hlt:=nanV_lt (E:=E) (k:=4) (neg:=neg) hP hn;have ew:nanV E P 4 neg n=codeN E P neg (2^E-1) (n+2^(P-2)):=by unfold nanV;rw [if_pos rfl]
   rw [ew] at hlt ⊢;refine ⟨_,cRCoded (neg:=neg) hF hT (by omega) (w128 hF hlt),?_⟩
   conv=>whnf
   unfold encV;have hbb:(kd E P (codeN E P neg (2^E-1) (n+2^(P-2)))==4&&(wn E P (codeN E P neg (2^E-1) (n+2^(P-2)))==neg&&((numText (vl E P (codeN E P neg (2^E-1) (n+2^(P-2))))).toList==(ba l).toList&&true)))=encB E P (codeN E P neg (2^E-1) (n+2^(P-2))) 4 neg l:=rfl;refine ⟨_,cRDecode hF hlt,?_⟩
   conv=>whnf
   rw [hbb]
   cases hb:encB E P (codeN E P neg (2^E-1) (n+2^(P-2))) 4 neg l
   ·rw [if_neg (show ¬ false=true by decide)]
    conv=>whnf
    rfl
   ·rw [if_pos (show true=true from rfl)]
    conv=>whnf
    rfl
  by_cases h5:k=5
  ·subst h5;rw [if_pos (show (5:Int)=4∨(5:Int)=5 from .inr rfl)]
   conv=>whnf
   refine ⟨_,cRIsInt sq (by decide),?_⟩;unfold nanOk
   cases hd:decide (q.den=1)
   ·rw [Bool.false_and,if_neg (show ¬ false=true by decide)]
    conv=>whnf
    rfl
   conv=>whnf
   refine ⟨_,cRSign,?_⟩
   conv=>whnf
   cases hs:decide (q.num.sign<0)
   case true =>
    rw [Bool.not_true,Bool.false_and,Bool.and_false,if_neg (show ¬ false=true by decide)]
    conv=>whnf
    rfl
   conv=>whnf
   rw [IntWalk.i64_in ((P:Int)-2) (by omega),show (P:Int)-2=((P-2:Nat):Int) by omega];refine ⟨_,cRTwo (by omega) (by omega),?_⟩
   conv=>whnf
   have s2:SmQ 8000 ((2:Rat)^((P-2:Nat):Int)):=(SmQ.p2 (K:=200) (by omega)).mono (by decide);refine ⟨_,cRCmp sq s2 (by decide),?_⟩
   conv=>whnf
   cases hc:decide (cmpQ q ((2:Rat)^((P-2:Nat):Int))≥0)
   case true =>
    rw [Bool.not_true,Bool.and_false,Bool.and_false,if_neg (show ¬ false=true by decide)]
    conv=>whnf
    rfl
   rw [if_pos (show (true&&(!false && !false))=true from rfl)];have hok:nanOk P q=true:=by unfold nanOk;rw [hd,hs,hc];rfl
   obtain ⟨n,rfl,hn⟩:=nanOk_nat hok;have en:(((n:Nat):Rat).num).toNat=n:=by
    show ((n:Nat):Int).toNat=n
    exact Int.toNat_natCast n
   rw [en]
   conv=>whnf
   refine ⟨_,cRTop hF,?_⟩
   conv=>whnf
   have hlt:=nanV_lt (E:=E) (k:=5) (neg:=neg) hP hn;have ew:nanV E P 5 neg n=codeN E P neg (2^E-1) n:=by unfold nanV;rw [if_neg (by decide)]
   rw [ew] at hlt ⊢;refine ⟨_,cRCoded (neg:=neg) hF hT (by omega) (w128 hF hlt),?_⟩
   conv=>whnf
   unfold encV;have hbb:(kd E P (codeN E P neg (2^E-1) n)==5&&(wn E P (codeN E P neg (2^E-1) n)==neg&&((numText (vl E P (codeN E P neg (2^E-1) n))).toList==(ba l).toList&&true)))=encB E P (codeN E P neg (2^E-1) n) 5 neg l:=rfl;refine ⟨_,cRDecode hF hlt,?_⟩
   conv=>whnf
   rw [hbb]
   cases hb:encB E P (codeN E P neg (2^E-1) n) 5 neg l
   ·rw [if_neg (show ¬ false=true by decide)]
    conv=>whnf
    rfl
   ·rw [if_pos (show true=true from rfl)]
    conv=>whnf
    rfl
  rw [if_neg (show ¬ (k=4∨k=5) from fun h=>h.elim h4 h5)];rw [pne h1]
  conv=>whnf
  rw [pne h2]
  conv=>whnf
  rw [pne h3]
  conv=>whnf
  rw [pne h4]
  conv=>whnf
  rw [pne h5]
  conv=>whnf
  unfold encV;have hbb:(kd E P 0==k&&(wn E P 0==neg&&((numText (vl E P 0)).toList==(ba l).toList&&true)))=encB E P 0 k neg l:=rfl;refine ⟨_,cRDecode hF (zero_lt E P),?_⟩
  conv=>whnf
  rw [hbb]
  cases hb:encB E P 0 k neg l
  ·rw [if_neg (show ¬ false=true by decide)]
   conv=>whnf
   rfl
  ·rw [if_pos (show true=true from rfl)]
   conv=>whnf
   rfl
 ·rw [if_pos hz,nne hz]
  conv=>whnf
  rfl
end
theorem parse_back {l:List UInt8} (h:(parseV l).2=0):numText (parseV l).1=ba l:=by
 cases hb:parseBad (pNeg l) (pCut l).2.2 (pCut l).1 (pCut l).2.1
 ·by_cases hm:2000<max (pCut l).1.length (pCut l).2.1.length
  ·have e:parseV l=(0,3):=by unfold parseV;rw [hb,if_neg (by decide),if_pos hm]
   rw [e] at h;exact absurd h (by decide)
  ·rcases rparse_same hb (by omega) (by omega) with ⟨e1,e2⟩ | ⟨e1,_⟩
   ·rw [e1];exact e2
   ·rw [e1] at h;exact absurd h (by decide)
 ·have e:parseV l=(0,6):=by unfold parseV;rw [hb,if_pos rfl]
  rw [e] at h;exact absurd h (by decide)
theorem pow_25 (k:Nat):2^(5*k)≤10^(2*k):=by
 rw [Nat.pow_mul,Nat.pow_mul];exact Nat.pow_le_pow_left (by decide) k
theorem dec_small {K n:Nat} (h:Sm K n) (k:Nat) (hk:K=5*k) (h1:1≤k):(Lib.decDigits n).length≤2*k:=by
 subst hk
 exact dec_len_pow (by omega) (Nat.lt_of_lt_of_le h (pow_25 k))
theorem text_read {q:Rat} {l:List UInt8} (s:SmQ 5000 q) (h:numText q=ba l):parseV l=(q,0):=by
 have:=parse_text q (dec_small s.1 1000 rfl (by decide)) (dec_small s.2 1000 rfl (by decide))
 rw [h] at this
 exact this
section
variable {E P w:Nat} {k:Int} {neg:Bool} {l:List UInt8} {q:Rat}
theorem encB_iff:encB E P w k neg l=true↔kd E P w=k∧wn E P w=neg∧numText (vl E P w)=ba l:=by
 unfold encB;rw [Bool.and_true,Bool.and_eq_true,Bool.and_eq_true,beq_iff_eq,beq_iff_eq,toList_eq_iff,decide_eq_true_iff]
theorem encB_val (hF:Fmt E P) (h:encB E P w k neg l=true):parseV l=(vl E P w,0):=text_read (sm_word hF) (encB_iff.1 h).2.2
theorem hasW_rq (h:hasB E P q=true) (h0:q≠0):hasW E P (decide (q.num<0)) q=(rq E P 0 q).1:=by
 rw [hasB_iff] at h
 have:=(round_exact (E:=E) (m:=0) (lg_is h0) h.1 h.2).1
 unfold rq rnd hasW hasN hasF;rw [if_neg h0,if_neg h0,if_neg h0,this]
theorem vl_one (h:kd E P w=1):vl E P w=0:=by
 have h:wkind E P w=1:=h;unfold vl wvalK;rw [if_neg (by omega),if_neg (by omega),if_neg (by omega)]
theorem kd2_has (hE:2≤E) (hP:1≤P) (h:kd E P w=2):hasB E P (vl E P w)=true:=by
 have h:wkind E P w=2:=h;rw [hasB_iff];have e:vl E P w=wval E P (bias E) w:=wvalK_fin (by omega);rw [e]
 exact ⟨wval_isVal hP,wval_le hE hP (fin_wf (by omega))⟩
theorem sgn_inj {a:Rat} {s t:Bool} (h0:a≠0) (h:(if s=true then -1 else 1)*a=(if t=true then -1 else 1)*a):s=t:=by
 cases s<;>cases t<;>simp at h ⊢ <;> exact h0 (by grind)
theorem hasW_neg (hE:2≤E) (hP:1≤P) (h:hasB E P q=true) (h0:q≠0) (hk:kd E P (hasW E P neg q)=2) (hv:vl E P (hasW E P neg q)=q):neg=decide (q.num<0):=by
 obtain ⟨w1,w2,w3,w4⟩:=has_wv hE hP h;have hk:wkind E P (hasW E P neg q)=2:=hk;have e:vl E P (hasW E P neg q)=wval E P (bias E) (hasW E P neg q):=wvalK_fin (by omega);have e2:wval E P (bias E) (hasW E P neg q)=(if neg=true then -1 else 1)*absQ q:=by
  unfold hasW;rw [wordN_val hP neg w4 w2 w3,w1];rfl
 rw [hv,e2] at e;have e3:=absQ_sign q;have ha:absQ q≠0:=fun k=>h0 (by rw [←e3,k];grind);refine sgn_inj ha ?_;rw [←e,e3]
theorem enc_same (hF:Fmt E P) (hz:(parseV l).2=0) (hk:k=1∨k=2):encP E P k neg l=encR E P k neg l:=by
 have hE:=(fmt_n hF).1;have hP:1≤P:=by have:=(fmt_n hF).2.2.1;omega
 have hq:=parse_back hz;unfold encP encR
 rcases hk with rfl | rfl
 ·rw [if_pos rfl]
  by_cases h0:(parseV l).1=0
  ·have hh:hasB E P (parseV l).1=true:=by unfold hasB;rw [if_pos h0]
   rw [if_pos hh]
   have:hasW E P neg (parseV l).1=sgb E P neg:=by
    unfold hasW hasN hasF;rw [if_pos h0,if_pos h0,sgb_word]
   rw [this]
  ·have key:∀ w,¬ encB E P w 1 neg l=true:=fun w h=>by
    have h1:=encB_val hF h;rw [vl_one (encB_iff.1 h).1] at h1
    exact h0 (by rw [h1])
   unfold encV;rw [if_neg (key _),if_neg (key _)]
   split<;>rfl
 ·rw [if_neg (by decide)]
  by_cases hb:encB E P (rq E P 0 (parseV l).1).1 2 neg l=true
  ·have h1:=encB_val hF hb;obtain ⟨b1,b2,b3⟩:=encB_iff.1 hb;have hv:vl E P (rq E P 0 (parseV l).1).1=(parseV l).1:=(congrArg Prod.fst h1).symm;have h0:(parseV l).1≠0:=by rw [←hv];exact vlNe b1
   have hh:hasB E P (parseV l).1=true:=by rw [←hv];exact kd2_has hE hP b1
   rw [if_pos hh];have hr:=hasW_rq hh h0;have hn:neg=decide ((parseV l).1.num<0):=by
    rw [←b2,←hr];unfold hasW
    exact wordN_wn _ (has_wv hE hP hh).2.2.2
   rw [hn,hr]
  ·have e:encV E P (rq E P 0 (parseV l).1).1 2 neg l=(0,6):=by unfold encV;rw [if_neg hb]
   rw [e]
   split
   ·rename_i hh
    unfold encV;rw [if_neg]
    intro hc
    have h1:=encB_val hF hc;obtain ⟨b1,b2,b3⟩:=encB_iff.1 hc;have hv:vl E P (hasW E P neg (parseV l).1)=(parseV l).1:=(congrArg Prod.fst h1).symm;have h0:(parseV l).1≠0:=by rw [←hv];exact vlNe b1
    have hn:=hasW_neg hE hP hh h0 b1 hv
    apply hb
    have hr:=hasW_rq hh h0;rw [←hr,←hn]
    exact hc
   ·rfl
theorem encOf_same (hF:Fmt E P):encOf E P k neg l (encP E P k neg l)=encOf E P k neg l (encR E P k neg l):=by
 unfold encOf
 by_cases hz:(parseV l).2=0
 ·rw [if_neg (show ¬ (parseV l).2≠0 from fun h=>h hz),if_neg (show ¬ (parseV l).2≠0 from fun h=>h hz)]
  by_cases hk:k=1∨k=2
  ·rw [if_pos hk,if_pos hk,enc_same hF hz hk]
  ·rw [if_neg hk,if_neg hk]
 ·rw [if_pos hz,if_pos hz]
end
theorem cEncodeBad {E P:Int} {k:Int} {neg:Bool} {S:ByteArray} (hF:¬ Fmt E P):Cal Tryz.prog OQ 10 [fA E P,flA k neg S] (.t [wA 0,iA 2]):=by
 refine fn_call TK MX Tryz.func10 rfl (by kernel_rfl) (by kernel_rfl) (by kernel_rfl) rfl rfl ?_
 conv=>whnf
 refine ⟨_,cWithBad (M:=0) (a:=.c (.v (.slice none 0 0))) rfl (fun h=>hF h.2),?_⟩
 conv=>whnf
 rfl
theorem cREncodeBad {E P:Int} {k:Int} {neg:Bool} {S:ByteArray} (hF:¬ Fmt E P):Cal Tryz.prog OQ 11 [fA E P,flA k neg S] (.t [wA 0,iA 2]):=by
 refine fn_callB [(12,[(0,2),(2,3),(3,6),(6,8)]),(20,[(0,6),(2,2),(6,6)]),(21,[(0,2),(2,3),(3,2),(5,6),(7,8)])] TK MX Tryz.func11 rfl (by kernel_rfl) (by kernel_rfl) (by kernel_rfl) rfl rfl ?_
 conv=>whnf
 refine ⟨_,cRCheck,?_⟩;rw [show fmtZ E P=2 from if_neg hF]
 conv=>whnf
 rfl
theorem wd_same (a b:Int):(a==a&&(b==b&&true))=true:=by simp
theorem cEncodes {E P:Int} {k:Int} {neg:Bool} {l:List UInt8} (hl:l.length≤9223372036854775807):Cal Tryz.prog OQ 3 [fA E P,flA k neg (ba l)] (bA true):=by
 refine fn_call TK MX Tryz.func3 rfl (by kernel_rfl) (by kernel_rfl) (by kernel_rfl) rfl rfl ?_
 by_cases hf:Fmt E P
 ·obtain ⟨e,p,m,rfl,rfl,_,_,hF⟩:=fmt_cases (M:=0) ⟨by omega,hf⟩;have h1:=cEncodeF (k:=k) (neg:=neg) hF hl;have h2:=cREncode (k:=k) (neg:=neg) hF hl;rw [encOf_same hF] at h1
  conv=>whnf
  refine ⟨_,h1,?_⟩
  conv=>whnf
  refine ⟨_,h2,?_⟩
  conv=>whnf
  rw [wd_same]
  conv=>whnf
  rw [beq_t]
  conv=>whnf
  refine ⟨_,cAwakeE,?_⟩
  conv=>whnf
  rfl
 ·conv=>whnf
  refine ⟨_,cEncodeBad hf,?_⟩
  conv=>whnf
  refine ⟨_,cREncodeBad hf,?_⟩
  conv=>whnf
  refine ⟨_,cAwakeE,?_⟩
  conv=>whnf
  rfl
end Go.Proofs.YtgabigepocfllaaGreatDoor
