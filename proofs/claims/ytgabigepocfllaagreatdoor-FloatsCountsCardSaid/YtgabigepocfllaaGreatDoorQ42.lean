/- exact: Parse, by reckoning. -/
import Derived.Test.YtgabigepocfllaaGreatDoorQ38
import Derived.Test.YtgabigepocfllaaGreatDoorQ41
namespace Go.Proofs.YtgabigepocfllaaGreatDoor
open Go.RowKit Vn
set_option maxRecDepth 100000
set_option maxHeartbeats 8000000
abbrev sA (S:ByteArray):AV:=.c (.v (.string S))
theorem cParse {l:List UInt8} (hl:l.length≤9223372036854775807):Cal Tryz.prog OQ 72 [sA (ba l)] (.t [nA (parseV l).1,iA (parseV l).2]) :=
 cal_of (by kernel_rfl) rfl fun S w vs hi hv=>by
  match vs,hv with
  | [x],hv =>
   have e:=sc_of hv.1;subst e
   exact (Parse_c l w hi.1 hl).mono fun _ _ ⟨v,h1,h2,h3⟩=>⟨_,h1,h3,fun S'=>⟨[_,_],rfl,numA_of h2,⟨rfl,rfl⟩,trivial⟩⟩
theorem parse_sm (l:List UInt8):SmQ 8000 (parseV l).1:=by
 unfold parseV
 split
 ·exact SmQ.zero _ (by decide)
 ·rename_i hb
  split
  ·exact SmQ.zero _ (by decide)
  ·rename_i hz
   have hb:parseBad (pNeg l) (pCut l).2.2 (pCut l).1 (pCut l).2.1=false:=by simpa using hb
   unfold parseBad at hb;simp only [Bool.or_eq_false_iff,Bool.not_eq_false'] at hb;obtain ⟨⟨hA,_⟩,hB⟩:=hb;have s1:=decV_small hA (by omega);have key:∀ Q,0<Q→Sm 8000 Q→SmQ 8000 (mkq (pNeg l) (decV (pCut l).1) Q):=fun Q h0 hQ=>by
    refine ⟨?_,?_⟩
    ·rw [mkq_natAbs _ _ _ (by omega)];exact s1.of_le (Nat.div_le_self _ _)
    ·rw [mkq_den _ _ _ (by omega)];exact hQ.of_le (Nat.div_le_self _ _)
   split
   ·exact key 1 (by decide) sm8000
   ·rename_i hbr
    have hbr:(pCut l).2.2=true:=by simpa using hbr
    rw [hbr] at hB;simp only [Bool.true_and,Bool.or_eq_false_iff,Bool.not_eq_false',beq_eq_false_iff_ne] at hB;have h1:=decV_big hB.1.1 hB.1.2 hB.2
    split
    ·exact key _ (by omega) (decV_small hB.1.1 (by omega))
    ·exact SmQ.zero _ (by decide)
section
variable {E P m b n:Nat} {q:Rat} {K:Nat}
def numAV (E P n:Nat):AV:=if wkind E P n≤2 then .t [nA (wvalK E P (bias E) n),iA 0] else .t [nA 0,iA 7]
theorem cNumber (hF:Fmt E P) (hn:n<2^(E+P)):Cal Tryz.prog OQ 120 [fA E P,wA n,iA 0] (numAV E P n):=by
 refine fn_call TK MX Tryz.func120 rfl (by kernel_rfl) (by kernel_rfl) (by kernel_rfl) (by unfold numAV;split<;>rfl) rfl ?_
 conv=>whnf
 refine ⟨_,cValue hF hn,?_⟩;unfold valR numAV
 by_cases h:wkind E P n≤2
 ·rw [if_pos h,if_pos h]
  conv=>whnf
  rfl
 ·rw [if_neg h,if_neg h]
  conv=>whnf
  rfl
theorem rq_lt (hF:Fmt E P):(rq E P m q).1<2^(E+P):=rnd_lt (fmt_n hF).1 (by have:=(fmt_n hF).2.2.1;omega) lg_is
theorem cNear (hF:Fmt E P) (hm:m≤4) (sx:SmQ K q) (hK:K≤12000):Cal Tryz.prog OQ 42 [fA E P,iA (m:Nat),nA q] (numAV E P (rq E P m q).1):=by
 refine fn_call TK MX Tryz.func42 rfl (by kernel_rfl) (by kernel_rfl) (by kernel_rfl) (by unfold numAV;split<;>rfl) rfl ?_
 conv=>whnf
 refine ⟨_,cRoundF hF hm sx hK,?_⟩
 conv=>whnf
 refine ⟨_,cNumber hF (rq_lt hF),?_⟩;unfold numAV
 by_cases h:wkind E P (rq E P m q).1≤2
 ·rw [if_pos h]
  conv=>whnf
  rfl
 ·rw [if_neg h]
  conv=>whnf
  rfl
end
abbrev flA (k:Int) (neg:Bool) (S:ByteArray):AV:=.g [.v (.int .i64 k),.v (.bool neg),.v (.string S)]
theorem cEncode2 {E P:Nat} {neg:Bool} {l:List UInt8} (hF:Fmt E P) (hl:l.length≤9223372036854775807) (hz:(parseV l).2=0)
  (hk:kd E P (rq E P 0 (parseV l).1).1=2) (hn:wn E P (rq E P 0 (parseV l).1).1=neg) (ht:(numText (vl E P (rq E P 0 (parseV l).1).1)).toList=(ba l).toList) :
  Cal Tryz.prog OQ 10 [fA E P,flA 2 neg (ba l)] (.t [wA (rq E P 0 (parseV l).1).1,iA 0]):=by
 refine fn_call TK MX Tryz.func10 rfl (by kernel_rfl) (by kernel_rfl) (by kernel_rfl) rfl rfl ?_
 conv=>whnf
 refine ⟨_,cWith0 (m:=0) hF (by decide),?_⟩
 conv=>whnf
 refine ⟨_,cParse hl,?_⟩;rw [hz]
 conv=>whnf
 refine ⟨_,cRoundQ hF (by decide) (parse_sm l) (by decide),?_⟩
 conv=>whnf
 refine ⟨_,cDecode hF (rq_lt hF),?_⟩
 conv=>whnf
 rw [show (!(kd E P (rq E P 0 (parseV l).1).1==2&&(wn E P (rq E P 0 (parseV l).1).1==neg&&((numText (vl E P (rq E P 0 (parseV l).1).1)).toList==(ba l).toList&&true))))=false by rw [hk,hn,ht];simp]
 conv=>whnf
 rfl
/-! ### awake -/
theorem f33:Fmt ((3:Nat):Int) ((3:Nat):Int):=by unfold Fmt;decide
theorem parse1:parseV [49]=(1,0):=by decide +kernel
theorem rq1:rq 3 3 0 1=(12,0):=by decide +kernel
theorem txt_whole {n:Nat} (h:n<10):numText ((n:Nat):Rat)=ba [UInt8.ofNat (48+n)]:=by
 have e1:((n:Nat):Rat).num=n:=rfl;have e2:((n:Nat):Rat).den=1:=rfl;unfold numText;rw [e1,e2,if_neg (by omega),if_pos rfl,ba_empty];unfold decT;rw [Int.natAbs_natCast,Lib.decDigits_one h]
 rfl
theorem txt38:numText (3/8:Rat)=ba [51,47,56]:=by
 have e1:(3/8:Rat).num=3:=by decide +kernel
 have e2:(3/8:Rat).den=8:=by decide +kernel
 unfold numText;rw [e1,e2,if_neg (by omega),if_neg (by decide)];unfold decT;rw [show ((3:Int).natAbs)=3 from rfl,Lib.decDigits_one (by decide),Lib.decDigits_one (by decide)]
 rfl
theorem cEncOne:Cal Tryz.prog OQ 10 [fA 3 3,flA 2 false (ba [49])] (.t [wA 12,iA 0]):=by
 have e:(rq 3 3 0 (parseV [49]).1).1=12:=by rw [parse1];exact congrArg Prod.fst rq1
 have v:vl 3 3 12=((1:Nat):Rat):=by decide +kernel
 have h:=cEncode2 (E:=3) (P:=3) (neg:=false) (l:=[49]) f33 (by decide) (by rw [parse1]) (by rw [e];decide +kernel) (by rw [e];decide +kernel) (by rw [e,v,txt_whole (by decide)];rfl);rw [e] at h
 exact h
def thrQ:Rat:=((1:Int):Rat)/((3:Int):Rat)
theorem cAwakeE:Cal Tryz.prog OQ 12 [] (bA true):=by
 have sm:SmQ 10 thrQ:=⟨by unfold Sm;decide +kernel,by unfold Sm;decide +kernel⟩;have hA:=cAddZ (E:=3) (P:=3) (M:=0) (i:=12) (j:=12) (by decide) (by decide);rw [show addZ 3 3 0 12 12=(16,0,0) by decide +kernel] at hA;have hV:=cValue (E:=3) (P:=3) (n:=16) f33 (by decide);rw [show valR 3 3 16=.t [nA ((2:Nat):Rat),iA 0] by
  unfold valR;rw [if_pos (by decide),show wvalK 3 3 (bias 3) 16=((2:Nat):Rat) by decide +kernel]] at hV
 have hN:=cNear (E:=3) (P:=3) (m:=3) (q:=thrQ) f33 (by decide) sm (by decide);rw [show (rq 3 3 3 thrQ).1=6 by decide +kernel,show numAV 3 3 6=.t [nA (3/8:Rat),iA 0] by
  unfold numAV;rw [if_pos (by decide),show wvalK 3 3 (bias 3) 6=(3/8:Rat) by decide +kernel]] at hN
 have t2:=cText (q:=((2:Nat):Rat)) (K:=10) ⟨by unfold Sm;decide +kernel,by unfold Sm;decide +kernel⟩ (by decide);rw [txt_whole (by decide)] at t2;have t8:=cText (q:=(3/8:Rat)) (K:=10) ⟨by unfold Sm;decide +kernel,by unfold Sm;decide +kernel⟩ (by decide);rw [txt38] at t8;refine fn_call TK MX Tryz.func12 rfl (by kernel_rfl) (by kernel_rfl) (by kernel_rfl) rfl rfl ?_
 conv=>whnf
 refine ⟨_,cSix,?_⟩
 conv=>whnf
 refine ⟨_,cEncOne,?_⟩
 conv=>whnf
 refine ⟨_,hA,?_⟩
 conv=>whnf
 refine ⟨_,hV,?_⟩
 conv=>whnf
 refine ⟨_,cRatio (m:=1) (n:=3) (by decide) (by decide) (by decide) (by decide) (by decide),?_⟩
 conv=>whnf
 refine ⟨_,hN,?_⟩
 conv=>whnf
 refine ⟨_,cValueForm (E:=3) (P:=3) (n:=64) f33 (by decide) (by decide),?_⟩
 conv=>whnf
 refine ⟨_,t2,?_⟩
 conv=>whnf
 rw [show ((ba [UInt8.ofNat (48+2)]).toList==(⟨#[50]⟩:ByteArray).toList)=true by rw [ByteArray.toList_eq,ByteArray.toList_eq];rfl]
 conv=>whnf
 refine ⟨_,t8,?_⟩
 conv=>whnf
 rw [show ((ba [51,47,56]).toList==(⟨#[51,47,56]⟩:ByteArray).toList)=true by rw [ByteArray.toList_eq,ByteArray.toList_eq];rfl]
 conv=>whnf
 rfl
abbrev rN (n:Nat):AV:=.c (.o 2 n)
theorem cRtext {n K:Nat} (sx:Sm K n) (hK:K≤1000000):Cal Tryz.prog OQ 198 [rN n] (sA (decT n)) :=
 cal_of (by kernel_rfl) rfl fun S w vs _ hv=>by
  match vs,hv with
  | [x],hv =>
   have hx:RefV w x n:=hv.1
   exact (rtext_c x n K w hx sx hK).mono fun _ _ ⟨h1,h2⟩=>⟨_,h1,h2,fun S'=>⟨rfl,rfl⟩⟩
theorem cRread {l:List UInt8} (hd:Digs l) (hl:l.length≤2000):Cal Tryz.prog OQ 174 [sA (ba l)] (rN (decV l)) :=
 cal_of (by kernel_rfl) rfl fun S w vs _ hv=>by
  match vs,hv with
  | [x],hv =>
   have e:=sc_of hv.1;subst e
   exact (rread_c l w hd hl).mono fun _ _ ⟨a,k,c,h1,h2,h3⟩=>⟨_,h1,h3,fun S'=>h2⟩
theorem cRmade {s:Int} {P Q K:Nat} (hs:s=1∨s = -1∨s=0) (sx:Sm K P) (sy:Sm K Q) (hK:K≤30000000) (hQ:0<Q):Cal Tryz.prog OQ 173 [iA s,rN P,rN Q] (rA (mkRat (s*P) Q)) :=
 cal_of (by kernel_rfl) rfl fun S w vs _ hv=>by
  match vs,hv with
  | [x,y,z],hv =>
   have e:=sc_of hv.1;subst e;have hy:RefV w y P:=hv.2.1;have hz:RefV w z Q:=hv.2.2.1
   exact (rmade_c s y z P Q K w hs hy hz sx sy hK hQ).mono fun _ _ ⟨v,h1,h2,h3⟩=>⟨_,h1,h3,fun S'=>(rnumA_of (β:=fun _=>none) (S:=S') h2).toV (by intro l h;cases h)⟩
theorem cRrows {l:List UInt8} {X Y:ByteArray} {Z:Bool} (hl:l.length≤9223372036854775807) (h:RowsR l X Y Z):Cal Tryz.prog OQ 172 [sA (ba l)] (.t [sA X,sA Y,iA (if pNeg l=true then -1 else 1),bA Z]) :=
 cal_of (by kernel_rfl) rfl fun S w vs _ hv=>by
  match vs,hv with
  | [x],hv =>
   have e:=sc_of hv.1;subst e
   exact (rrows_c l X Y Z w hl h).mono fun _ _ ⟨h1,h2⟩=>⟨_,h1,h2,fun S'=>⟨[_,_,_,_],rfl,⟨rfl,rfl⟩,⟨rfl,rfl⟩,⟨rfl,rfl⟩,⟨rfl,rfl⟩,trivial⟩⟩
theorem sgnLt (q:Rat):decide (q.num.sign<0)=decide (q.num<0):=by
 have:q.num.sign<0↔q.num<0:=Int.sign_neg_iff
 simp only [this]
theorem cRText {q:Rat} {K:Nat} (sx:SmQ K q) (hK:K≤1000000):Cal Tryz.prog OQ 110 [rA q] (sA (numText q)):=by
 refine fn_call TK MX Tryz.func110 rfl (by kernel_rfl) (by kernel_rfl) (by kernel_rfl) rfl rfl ?_;have z1:=decT_size sx.1;have z2:=decT_size sx.2
 conv=>whnf
 refine ⟨_,cRtext sx.1 hK,?_⟩
 conv=>whnf
 rw [sgnLt];have h1:(⟨#[45]⟩:ByteArray).size=1:=rfl;have h2:(⟨#[47]⟩:ByteArray).size=1:=rfl;have hz:∀ (a b:ByteArray),(a++b).size=a.size+b.size:=fun a b=>ByteArray.size_append;unfold numText;generalize decT q.num.natAbs=U at *
 generalize hV:decT q.den=V at *
 by_cases hn:q.num<0
 ·rw [dT hn,if_pos hn]
  conv=>whnf
  rw [fits_of (by rw [h1];omega)];have hS:=hz ⟨#[45]⟩ U;generalize ⟨#[45]⟩++U=S at *
  conv=>whnf
  refine ⟨_,cRIsInt sx (by omega),?_⟩
  conv=>whnf
  by_cases hd:q.den=1
  ·rw [dT hd,if_pos hd,ba_empty]
   conv=>whnf
   rfl
  ·rw [dF hd,if_neg hd]
   conv=>whnf
   rw [fits_of (by rw [hS,h1,h2];omega),←ByteArray.append_assoc];have hS2:=hz S ⟨#[47]⟩;generalize S++⟨#[47]⟩=T at *
   conv=>whnf
   rw [if_neg (show ¬ q=0 from fun e=>hd (by rw [e];rfl))];refine ⟨_,cRtext sx.2 hK,?_⟩;rw [hV]
   conv=>whnf
   rw [fits_of (by rw [hS2,hS,h1,h2];omega)];generalize T++V=R at *
   conv=>whnf
   rfl
 ·rw [dF hn,if_neg hn]
  conv=>whnf
  refine ⟨_,cRIsInt sx (by omega),?_⟩
  conv=>whnf
  by_cases hd:q.den=1
  ·rw [dT hd,if_pos hd,ba_empty]
   conv=>whnf
   rfl
  ·rw [dF hd,if_neg hd]
   conv=>whnf
   rw [fits_of (by rw [h2];omega),←ByteArray.append_assoc];have hS2:=hz U ⟨#[47]⟩;generalize U++⟨#[47]⟩=T at *
   conv=>whnf
   rw [if_neg (show ¬ q=0 from fun e=>hd (by rw [e];rfl))];refine ⟨_,cRtext sx.2 hK,?_⟩;rw [hV]
   conv=>whnf
   rw [fits_of (by rw [hS2,h2];omega)];generalize T++V=R at *
   conv=>whnf
   rfl
theorem sg_mul (neg:Bool) (P:Nat):(if neg=true then -1 else 1)*((P:Nat):Int)=sg neg P:=by
 unfold sg;cases neg<;>simp
theorem toList_eq_iff {a b:ByteArray}:(a.toList==b.toList)=decide (a=b):=by
 rw [ByteArray.toList_eq,ByteArray.toList_eq,Bool.eq_iff_iff,beq_iff_eq,decide_eq_true_iff]
 constructor
 ·intro h;exact ByteArray.ext (Array.toList_inj.1 h)
 ·intro h;rw [h]
theorem rparse_small {l:List UInt8} (hb:parseBad (pNeg l) (pCut l).2.2 (pCut l).1 (pCut l).2.1=false) (h1:(pCut l).1.length≤2000) (h2:(pCut l).2.1.length≤2000) :
  Digs (pCut l).1∧Digs (if (pCut l).2.2=true then (pCut l).2.1 else [49])∧Sm 8000 (decV (pCut l).1)∧Sm 8000 (decV (if (pCut l).2.2=true then (pCut l).2.1 else [49]))∧0<decV (if (pCut l).2.2=true then (pCut l).2.1 else [49]):=by
 unfold parseBad at hb;simp only [Bool.or_eq_false_iff,Bool.not_eq_false'] at hb;obtain ⟨⟨hA,_⟩,hB⟩:=hb;refine ⟨rowB_digs hA,?_,decV_small hA h1,?_⟩
 ·split
  ·rename_i hbr
   rw [hbr] at hB;simp only [Bool.true_and,Bool.or_eq_false_iff,Bool.not_eq_false',beq_eq_false_iff_ne] at hB
   exact rowB_digs hB.1.1
  ·intro b hb;simp at hb;subst hb;decide
 ·split
  ·rename_i hbr
   rw [hbr] at hB;simp only [Bool.true_and,Bool.or_eq_false_iff,Bool.not_eq_false',beq_eq_false_iff_ne] at hB
   have:=decV_big hB.1.1 hB.1.2 hB.2
   exact ⟨decV_small hB.1.1 h2,by omega⟩
  ·exact ⟨sm8000,by decide⟩
theorem cRParse {l:List UInt8} (hl:l.length≤9223372036854775807):Cal Tryz.prog OQ 81 [sA (ba l)] (.t [rA (parseV l).1,iA (parseV l).2]):=by
 refine fn_call TK MX Tryz.func81 rfl (by kernel_rfl) (by kernel_rfl) (by kernel_rfl) rfl rfl ?_;have hR:RowsR l (ba (pCut l).1) (ba (if (pCut l).2.2=true then (pCut l).2.1 else [49])) (!parseBad (pNeg l) (pCut l).2.2 (pCut l).1 (pCut l).2.1):=⟨rfl,by split<;>rfl,rfl⟩;have hsz1:(ba (pCut l).1).size=(pCut l).1.length:=ba_size _;have hsz2:(ba (if (pCut l).2.2=true then (pCut l).2.1 else [49])).size=if (pCut l).2.2=true then (pCut l).2.1.length else 1:=by rw [ba_size];split<;>rfl
 have hBl:(pCut l).2.2=false→(pCut l).2.1.length=0:=fun h=>by
  obtain ⟨A,B,b,e,_,hB⟩:=text_parts l;rw [e] at h ⊢;rw [hB h];rfl
 conv=>whnf
 refine ⟨_,cRrows hl hR,?_⟩
 conv=>whnf
 cases hb:parseBad (pNeg l) (pCut l).2.2 (pCut l).1 (pCut l).2.1
 ·conv=>whnf
  have s1:=rparse_small hb;have s2:=rparse_same hb
  by_cases h1:(pCut l).1.length≤2000
  ·rw [hsz1,dF (show ¬ (((pCut l).1.length:Nat):Int)>2000 by omega)]
   conv=>whnf
   by_cases h2:(pCut l).2.1.length≤2000
   ·rw [hsz2,dF (show ¬ (((if (pCut l).2.2=true then (pCut l).2.1.length else 1):Nat):Int)>2000 by split<;>omega)];obtain ⟨d1,d2,z1,z2,z3⟩:=s1 h1 h2
    conv=>whnf
    refine ⟨_,cRread d1 h1,?_⟩
    conv=>whnf
    refine ⟨_,cRread d2 (by split<;>first | exact h2 | decide),?_⟩
    conv=>whnf
    refine ⟨_,cRmade (by split<;>simp) z1 z2 (by decide) z3,?_⟩;rw [sg_mul];have eq:mkRat (sg (pNeg l) (decV (pCut l).1)) (decV (if (pCut l).2.2=true then (pCut l).2.1 else [49]))=rparseQ l:=by
     unfold rparseQ mkq;congr 1;split<;>rfl
    rw [eq]
    conv=>whnf
    have sq:SmQ 8000 (rparseQ l):=by
     rw [←eq]
     have:mkRat (sg (pNeg l) (decV (pCut l).1)) (decV (if (pCut l).2.2=true then (pCut l).2.1 else [49]))=mkq (pNeg l) (decV (pCut l).1) (decV (if (pCut l).2.2=true then (pCut l).2.1 else [49])):=rfl
     rw [this]
     exact ⟨by rw [mkq_natAbs _ _ _ (by omega)];exact z1.of_le (Nat.div_le_self _ _),by rw [mkq_den _ _ _ (by omega)];exact z2.of_le (Nat.div_le_self _ _)⟩
    refine ⟨_,cRText sq (by decide),?_⟩
    conv=>whnf
    rw [toList_eq_iff]
    rcases s2 h1 h2 with ⟨e1,e2⟩ | ⟨e1,e2⟩
    ·rw [e1,dT e2]
     conv=>whnf
     rfl
    ·rw [e1,dF e2]
     conv=>whnf
     rfl
   ·have hbr:(pCut l).2.2=true:=by
     cases h:(pCut l).2.2
     ·have:=hBl h;omega
     ·rfl
    rw [hsz2,dT (show (((if (pCut l).2.2=true then (pCut l).2.1.length else 1):Nat):Int)>2000 by rw [if_pos hbr];omega)];have e1:parseV l=(0,3):=by unfold parseV;rw [hb,if_neg (by decide),if_pos (by omega)]
    rw [e1]
    conv=>whnf
    rfl
  ·rw [hsz1,dT (show (((pCut l).1.length:Nat):Int)>2000 by omega)];have e1:parseV l=(0,3):=by unfold parseV;rw [hb,if_neg (by decide),if_pos (by omega)]
   rw [e1]
   conv=>whnf
   rfl
 ·have e1:parseV l=(0,6):=by unfold parseV;rw [hb,if_pos rfl]
  rw [e1]
  conv=>whnf
  rfl
section
variable {E P m n k:Nat} {q:Rat} {K:Nat}
theorem has_step (h0:q≠0):q/(2:Rat)^(stE E P q)=q*(2:Rat)^(-(max (lgQ q) (1-(bias E:Int))-P+1)):=by
 have e:stE E P q=max (lgQ q) (1-(bias E:Int))-P+1:=by
  unfold stE lg0 rdK rdF;rw [if_neg h0];omega
 rw [e,Rat.div_def,←Rat.zpow_neg]
theorem cRHas (hF:Fmt E P) (sx:SmQ K q) (hK:K≤12000):Cal Tryz.prog OQ 52 [fA E P,rA q] (bA (hasB E P q)):=by
 have ss:SmQ 20000 ((2:Rat)^(stE E P q)):=(p2_sm (stE_sm hF sx (by omega))).mono (by omega);have sx':SmQ 20000 q:=sx.mono (by omega);have hs:=p2_pos (stE E P q);have hs0:(2:Rat)^(stE E P q)≠0:=by grind
 refine fn_call TK MX Tryz.func52 rfl (by kernel_rfl) (by kernel_rfl) (by kernel_rfl) rfl rfl ?_
 conv=>whnf
 refine ⟨_,cRCheck,?_⟩;rw [show fmtZ E P=0 from if_pos hF]
 conv=>whnf
 refine ⟨_,cRBeyond hF sx' (by decide),?_⟩;have hc:decide (cmpQ (absQ q) (grQ P (bias E))≤0) = !decide (grQ P (bias E)<absQ q):=by
  rw [Bool.eq_iff_iff];simp only [decide_eq_true_iff,Bool.not_eq_true',decide_eq_false_iff_not,cmpQ_iff,Rat.not_lt]
 have h1:q=0→hasB E P q=true:=fun h=>by unfold hasB;rw [if_pos h]
 have h2:q≠0→hasB E P q=(hasI E P q && !decide (grQ P (bias E)<absQ q)):=fun h=>by unfold hasB;rw [if_neg h,hc]
 have h3:q=0→decide (grQ P (bias E)<absQ q)=false:=fun h=>by
  rw [h,absQ_nonneg Rat.le_refl];exact decide_eq_false (Rat.not_lt.2 (grQ_nonneg P (bias E)))
 by_cases h0:q=0
 ·rw [h3 h0,h1 h0]
  conv=>whnf
  refine ⟨_,cRStep hF sx (by omega),?_⟩
  conv=>whnf
  refine ⟨_,cROver sx' ss (by decide) hs0,?_⟩
  conv=>whnf
  refine ⟨_,cRIsInt (sx'.div ss hs0) (by decide),?_⟩;subst h0;rw [show (0:Rat)/(2:Rat)^(stE E P 0)=0 by rw [Rat.div_def,Rat.zero_mul]]
  conv=>whnf
  rfl
 ·rw [h2 h0]
  cases hg:decide (grQ P (bias E)<absQ q)
  ·conv=>whnf
   refine ⟨_,cRStep hF sx (by omega),?_⟩
   conv=>whnf
   refine ⟨_,cROver sx' ss (by decide) hs0,?_⟩
   conv=>whnf
   refine ⟨_,cRIsInt (sx'.div ss hs0) (by decide),?_⟩;rw [has_step h0,show decide ((q*(2:Rat)^(-(max (lgQ q) (1-(bias E:Int))-P+1))).den=1)=hasI E P q from rfl]
   cases hasI E P q<;>(conv=>whnf)<;>rfl
  ·conv=>whnf
   cases hasI E P q<;>rfl
theorem cRWords1 (hF:Fmt E P) (hm:m≤4) (hn:W128 n):Cal Tryz.prog OQ 108 [fA E P,iA (m:Nat),.c (.sl 2 [wdC n])] (iA (if n<2^(E+P) then 0 else 6)):=by
 refine fn_call TK MX Tryz.func108 rfl (by kernel_rfl) (by kernel_rfl) (by kernel_rfl) rfl rfl ?_
 conv=>whnf
 refine ⟨_,cRAsked,?_⟩;rw [ask_good ⟨⟨by omega,by omega⟩,hF⟩]
 conv=>whnf
 refine ⟨2,?_⟩
 conv=>whnf
 refine ⟨_,cRIs hF hn,?_⟩
 conv=>whnf
 by_cases h:n<2^(E+P)
 ·rw [dT h,if_pos h]
  conv=>whnf
  rfl
 ·rw [dF h,if_neg h]
  conv=>whnf
  rfl
theorem cRWords2 (hF:Fmt E P) (hm:m≤4) (hn:W128 n) (hk:W128 k):Cal Tryz.prog OQ 108 [fA E P,iA (m:Nat),.c (.sl 2 [wdC n,wdC k])] (iA (if n<2^(E+P)∧k<2^(E+P) then 0 else 6)):=by
 refine fn_call TK MX Tryz.func108 rfl (by kernel_rfl) (by kernel_rfl) (by kernel_rfl) rfl rfl ?_
 conv=>whnf
 refine ⟨_,cRAsked,?_⟩;rw [ask_good ⟨⟨by omega,by omega⟩,hF⟩]
 conv=>whnf
 refine ⟨3,?_⟩
 conv=>whnf
 refine ⟨_,cRIs hF hn,?_⟩
 conv=>whnf
 by_cases h:n<2^(E+P)
 ·rw [dT h]
  conv=>whnf
  refine ⟨_,cRIs hF hk,?_⟩
  conv=>whnf
  by_cases h':k<2^(E+P)
  ·rw [dT h',if_pos ⟨h,h'⟩]
   conv=>whnf
   rfl
  ·rw [dF h',if_neg (fun c=>h' c.2)]
   conv=>whnf
   rfl
 ·rw [dF h,if_neg (fun c=>h c.1)]
  conv=>whnf
  rfl
theorem cRWordsBad {E P M:Int} {xs:List (List AC)} (hx:noPA (.c (.sl 2 xs))=true) (h:¬ ((0≤M∧M≤4)∧Fmt E P)):Cal Tryz.prog OQ 108 [fA E P,iA M,.c (.sl 2 xs)] (iA 2):=by
 refine fn_call TK MX Tryz.func108 rfl (by kernel_rfl) (by kernel_rfl) (by kernel_rfl) rfl (by show (true&&(true&&(noPA (.c (.sl 2 xs))&&true)))=true;rw [hx];rfl) ?_
 conv=>whnf
 refine ⟨_,cRAsked,?_⟩;rw [ask_bad h]
 conv=>whnf
 refine ⟨1,?_⟩
 conv=>whnf
 cases hc:decide ((0:Int)<((xs.length:Nat):Int))<;>(conv=>whnf)<;>rfl
theorem cRDecode (hF:Fmt E P) (hn:n<2^(E+P)):Cal Tryz.prog OQ 27 [fA E P,wA n] (.t [.g [.v (.int .i64 (kd E P n)),.v (.bool (wn E P n)),.v (.string (numText (vl E P n)))],iA 0]):=by
 refine fn_callB [(5,[(1,7),(3,7),(5,7),(8,4)])] TK MX Tryz.func27 rfl (by kernel_rfl) (by kernel_rfl) (by kernel_rfl) rfl rfl ?_
 conv=>whnf
 refine ⟨_,cRWords1 (m:=0) hF (by decide) (w128 hF hn),?_⟩;rw [if_pos hn]
 conv=>whnf
 refine ⟨_,cRLook hF hn,?_⟩
 conv=>whnf
 refine ⟨_,cRText (sm_word hF) (by decide),?_⟩
 conv=>whnf
 rfl
end
section
variable {E P m n:Nat} {q:Rat} {K:Nat} {neg:Bool}
theorem cRNan {k:Int}:Cal Tryz.prog OQ 157 [rOA k neg q] (bA (if k=4 then true else k==5)):=by
 refine fn_call TK MX Tryz.func157 rfl (by kernel_rfl) (by kernel_rfl) (by kernel_rfl) rfl rfl ?_
 conv=>whnf
 by_cases h:k=4
 ·subst h;rw [if_pos rfl]
  conv=>whnf
  rfl
 ·rw [if_neg h,show (k==4)=false from beq_eq_false_iff_ne.2 h]
  conv=>whnf
  rfl
theorem cRNans1 {k:Int} (hF:Fmt E P) (hk:k=1∨k=2∨k=3∨k=4∨k=5):Cal Tryz.prog OQ 115 [fA E P,.c (.sl 5 [rOC k neg q])] (.t [wA (nanw E P),iA (if k=5 then 1 else 0),bA (decide (4≤k))]):=by
 refine fn_call TK MX Tryz.func115 rfl (by kernel_rfl) (by kernel_rfl) (by kernel_rfl) rfl rfl ?_
 rcases hk with rfl | rfl | rfl | rfl | rfl<;>(conv=>whnf)<;>refine ⟨2,?_⟩<;>(conv=>whnf)<;>refine ⟨_,cRNan,?_⟩<;>(conv=>whnf)<;>refine ⟨_,cRNaN hF,?_⟩<;>(conv=>whnf)<;>rfl
theorem cRNans2 {k k':Int} {neg':Bool} {q':Rat} (hF:Fmt E P) (hk:k=1∨k=2∨k=3∨k=4∨k=5) (hk':k'=1∨k'=2∨k'=3∨k'=4∨k'=5):Cal Tryz.prog OQ 115 [fA E P,.c (.sl 5 [rOC k neg q,rOC k' neg' q'])] (.t [wA (nanw E P),iA (if k=5∨k'=5 then 1 else 0),bA (decide (4≤k)||decide (4≤k'))]):=by
 refine fn_call TK MX Tryz.func115 rfl (by kernel_rfl) (by kernel_rfl) (by kernel_rfl) rfl rfl ?_
 rcases hk with rfl | rfl | rfl | rfl | rfl<;>rcases hk' with rfl | rfl | rfl | rfl | rfl<;>(conv=>whnf)<;>refine ⟨3,?_⟩<;>(conv=>whnf)<;>refine ⟨_,cRNan,?_⟩<;>(conv=>whnf)<;>first
  | (refine ⟨_,cRNan,?_⟩<;>(conv=>whnf)<;>refine ⟨_,cRNaN hF,?_⟩<;>(conv=>whnf)<;>rfl)
  | (refine ⟨_,cRNaN hF,?_⟩<;>(conv=>whnf)<;>rfl)
theorem code_zero:codeN E P neg 0 0=sgb E P neg:=by unfold codeN sgb;simp
theorem cRZero (hF:Fmt E P):Cal Tryz.prog OQ 116 [fA E P,bA neg] (wA (sgb E P neg)):=by
 have hs:=w128 hF (sgb_ok (fmt_n hF).1 (by have:=(fmt_n hF).2.2.1;omega) neg).1;have h:=cRCoded (neg:=neg) (f:=0) (r:=0) hF (by decide) (Nat.pow_pos (by decide)) (by rw [code_zero];exact hs);rw [code_zero] at h;refine fn_call TK MX Tryz.func116 rfl (by kernel_rfl) (by kernel_rfl) (by kernel_rfl) rfl rfl ?_
 conv=>whnf
 refine ⟨_,h,?_⟩
 conv=>whnf
 rfl
theorem cRFinite {k:Int}:Cal Tryz.prog OQ 112 [rOA k neg q] (bA (if k=1 then true else k==2)):=by
 refine fn_call TK MX Tryz.func112 rfl (by kernel_rfl) (by kernel_rfl) (by kernel_rfl) rfl rfl ?_
 conv=>whnf
 by_cases h:k=1
 ·subst h;rw [if_pos rfl]
  conv=>whnf
  rfl
 ·rw [if_neg h,show (k==1)=false from beq_eq_false_iff_ne.2 h]
  conv=>whnf
  rfl
theorem cRValueG (hF:Fmt E P) (hn:n<2^(E+P)):Cal Tryz.prog OQ 32 [fA E P,wA n] (.t [rA (if 2<wkind E P n then 0 else vl E P n),iA (if 2<wkind E P n then 4 else 0)]):=by
 have hl:=cRLook hF hn;refine fn_call TK MX Tryz.func32 rfl (by kernel_rfl) (by kernel_rfl) (by kernel_rfl) rfl rfl ?_
 conv=>whnf
 refine ⟨_,cRWords1 (m:=0) hF (by decide) (w128 hF hn),?_⟩;rw [if_pos hn]
 conv=>whnf
 refine ⟨_,hl,?_⟩
 conv=>whnf
 refine ⟨_,cRFinite,?_⟩;have hk:wkind E P n=1∨wkind E P n=2∨wkind E P n=3∨wkind E P n=4∨wkind E P n=5:=kd_cases E P n;rw [show wvalK E P (bias E) n=vl E P n from rfl] at hl;generalize vl E P n=v at *
 generalize wn E P n=ng at *
 generalize wkind E P n=k at *
 rcases hk with rfl | rfl | rfl | rfl | rfl
 ·conv=>whnf
  refine ⟨_,hl,?_⟩
  conv=>whnf
  rfl
 ·conv=>whnf
  refine ⟨_,hl,?_⟩
  conv=>whnf
  rfl
 ·conv=>whnf
  rfl
 ·conv=>whnf
  rfl
 ·conv=>whnf
  rfl
end
section
variable {E P n:Nat}
theorem cDecodeBad {E P:Int} {n:Nat} (hF:¬ Fmt E P):Cal Tryz.prog OQ 26 [fA E P,wA n] (.t [flA 0 false ⟨#[]⟩,iA 2]):=by
 refine fn_call TK MX Tryz.func26 rfl (by kernel_rfl) (by kernel_rfl) (by kernel_rfl) rfl rfl ?_
 conv=>whnf
 refine ⟨_,cWithBad (M:=0) (a:=.c (.sl 2 [wdC n])) rfl (fun h=>hF h.2),?_⟩
 conv=>whnf
 rfl
theorem cDecodeForm (hF:Fmt E P) (h8:W128 n) (hn:¬ n<2^(E+P)):Cal Tryz.prog OQ 26 [fA E P,wA n] (.t [flA 0 false ⟨#[]⟩,iA 6]):=by
 refine fn_call TK MX Tryz.func26 rfl (by kernel_rfl) (by kernel_rfl) (by kernel_rfl) rfl rfl ?_
 conv=>whnf
 refine ⟨_,cWith1 (m:=0) hF (by decide) h8,?_⟩;rw [if_neg hn]
 conv=>whnf
 rfl
theorem cRDecodeBad {E P:Int} {n:Nat} (hF:¬ Fmt E P):Cal Tryz.prog OQ 27 [fA E P,wA n] (.t [flA 0 false ⟨#[]⟩,iA 2]):=by
 refine fn_callB [(5,[(1,7),(3,7),(5,7),(8,4)])] TK MX Tryz.func27 rfl (by kernel_rfl) (by kernel_rfl) (by kernel_rfl) rfl rfl ?_
 conv=>whnf
 refine ⟨_,cRWordsBad (M:=0) (xs:=[wdC n]) rfl (fun h=>hF h.2),?_⟩
 conv=>whnf
 rfl
theorem cRDecodeForm (hF:Fmt E P) (h8:W128 n) (hn:¬ n<2^(E+P)):Cal Tryz.prog OQ 27 [fA E P,wA n] (.t [flA 0 false ⟨#[]⟩,iA 6]):=by
 refine fn_callB [(5,[(1,7),(3,7),(5,7),(8,4)])] TK MX Tryz.func27 rfl (by kernel_rfl) (by kernel_rfl) (by kernel_rfl) rfl rfl ?_
 conv=>whnf
 refine ⟨_,cRWords1 (m:=0) hF (by decide) h8,?_⟩;rw [if_neg hn]
 conv=>whnf
 rfl
theorem cRValueBad {E P:Int} {n:Nat} (hF:¬ Fmt E P):Cal Tryz.prog OQ 32 [fA E P,wA n] (.t [rA 0,iA 2]):=by
 refine fn_call TK MX Tryz.func32 rfl (by kernel_rfl) (by kernel_rfl) (by kernel_rfl) rfl rfl ?_
 conv=>whnf
 refine ⟨_,cRWordsBad (M:=0) (xs:=[wdC n]) rfl (fun h=>hF h.2),?_⟩
 conv=>whnf
 rfl
theorem cRValueForm (hF:Fmt E P) (h8:W128 n) (hn:¬ n<2^(E+P)):Cal Tryz.prog OQ 32 [fA E P,wA n] (.t [rA 0,iA 6]):=by
 refine fn_call TK MX Tryz.func32 rfl (by kernel_rfl) (by kernel_rfl) (by kernel_rfl) rfl rfl ?_
 conv=>whnf
 refine ⟨_,cRWords1 (m:=0) hF (by decide) h8,?_⟩;rw [if_neg hn]
 conv=>whnf
 rfl
theorem vl_oneK (h:wkind E P n=1):vl E P n=0:=by
 unfold vl wvalK;rw [if_neg (by omega),if_neg (by omega),if_neg (by omega)]
/-! ### Text -/
theorem cTextBad {E P:Int} {n:Nat} (hF:¬ Fmt E P):Cal Tryz.prog OQ 33 [fA E P,wA n] (.t [sA ⟨#[]⟩,iA 2]):=by
 refine fn_call TK MX Tryz.func33 rfl (by kernel_rfl) (by kernel_rfl) (by kernel_rfl) rfl rfl ?_
 conv=>whnf
 refine ⟨_,cWithBad (M:=0) (a:=.c (.sl 2 [wdC n])) rfl (fun h=>hF h.2),?_⟩
 conv=>whnf
 rfl
theorem cTextForm (hF:Fmt E P) (h8:W128 n) (hn:¬ n<2^(E+P)):Cal Tryz.prog OQ 33 [fA E P,wA n] (.t [sA ⟨#[]⟩,iA 6]):=by
 refine fn_call TK MX Tryz.func33 rfl (by kernel_rfl) (by kernel_rfl) (by kernel_rfl) rfl rfl ?_
 conv=>whnf
 refine ⟨_,cWith1 (m:=0) hF (by decide) h8,?_⟩;rw [if_neg hn]
 conv=>whnf
 rfl
theorem cRTextBad {E P:Int} {n:Nat} (hF:¬ Fmt E P):Cal Tryz.prog OQ 34 [fA E P,wA n] (.t [sA ⟨#[]⟩,iA 2]):=by
 refine fn_call TK MX Tryz.func34 rfl (by kernel_rfl) (by kernel_rfl) (by kernel_rfl) rfl rfl ?_
 conv=>whnf
 refine ⟨_,cRWordsBad (M:=0) (xs:=[wdC n]) rfl (fun h=>hF h.2),?_⟩
 conv=>whnf
 rfl
theorem cRTextForm (hF:Fmt E P) (h8:W128 n) (hn:¬ n<2^(E+P)):Cal Tryz.prog OQ 34 [fA E P,wA n] (.t [sA ⟨#[]⟩,iA 6]):=by
 refine fn_call TK MX Tryz.func34 rfl (by kernel_rfl) (by kernel_rfl) (by kernel_rfl) rfl rfl ?_
 conv=>whnf
 refine ⟨_,cRWords1 (m:=0) hF (by decide) h8,?_⟩;rw [if_neg hn]
 conv=>whnf
 rfl
def txtW (k:Int) (neg:Bool) (q:Rat):ByteArray:=if k=4 then ⟨#[110,97,110]⟩ else if k=5 then ⟨#[115,110,97,110]⟩
 else if k=3 then (if neg then ⟨#[45]⟩++⟨#[105,110,102]⟩ else ⟨#[105,110,102]⟩) else if k=1 then (if neg then ⟨#[45]⟩++⟨#[48]⟩ else ⟨#[48]⟩) else numText q
theorem text_0:numText 0=⟨#[48]⟩:=txt_whole (n:=0) (by decide)
theorem cTextF (hF:Fmt E P) (hn:n<2^(E+P)):Cal Tryz.prog OQ 33 [fA E P,wA n] (.t [sA (txtW (wkind E P n) (wn E P n) (vl E P n)),iA 0]):=by
 refine fn_call TK MX Tryz.func33 rfl (by kernel_rfl) (by kernel_rfl) (by kernel_rfl) rfl rfl ?_
 conv=>whnf
 refine ⟨_,cWith1 (m:=0) hF (by decide) (w128 hF hn),?_⟩;rw [if_pos hn]
 conv=>whnf
 refine ⟨_,cLook hF (fmt_n hF).2.2.2.2.2 (w128 hF hn),?_⟩
 conv=>whnf
 refine ⟨_,cText (sm_word hF) (by decide),?_⟩;have hk:wkind E P n=1∨wkind E P n=2∨wkind E P n=3∨wkind E P n=4∨wkind E P n=5:=kd_cases E P n;have h1:wkind E P n=1→vl E P n=0:=vl_oneK;rw [show wvalK E P (bias E) n=vl E P n from rfl];generalize vl E P n=v at *
 generalize wn E P n=ng at *
 generalize wkind E P n=k at *
 have f1:fitsB ⟨#[45]⟩ ⟨#[105,110,102]⟩=true:=fits_of (by decide);have f2:fitsB ⟨#[45]⟩ ⟨#[48]⟩=true:=fits_of (by decide)
 rcases hk with rfl | rfl | rfl | rfl | rfl
 ·rw [h1 rfl,text_0]
  conv=>whnf
  cases ng
  ·conv=>whnf
   rfl
  ·conv=>whnf
   rw [f2]
   conv=>whnf
   rfl
 ·conv=>whnf
  rfl
 ·conv=>whnf
  cases ng
  ·conv=>whnf
   rfl
  ·conv=>whnf
   rw [f1]
   conv=>whnf
   rfl
 ·conv=>whnf
  rfl
 ·conv=>whnf
  rfl
theorem cRTextF (hF:Fmt E P) (hn:n<2^(E+P)):Cal Tryz.prog OQ 34 [fA E P,wA n] (.t [sA (txtW (wkind E P n) (wn E P n) (vl E P n)),iA 0]):=by
 refine fn_call TK MX Tryz.func34 rfl (by kernel_rfl) (by kernel_rfl) (by kernel_rfl) rfl rfl ?_
 conv=>whnf
 refine ⟨_,cRWords1 (m:=0) hF (by decide) (w128 hF hn),?_⟩;rw [if_pos hn]
 conv=>whnf
 refine ⟨_,cRLook hF hn,?_⟩;have hk:wkind E P n=1∨wkind E P n=2∨wkind E P n=3∨wkind E P n=4∨wkind E P n=5:=kd_cases E P n;have ht:=cRText (sm_word (n:=n) hF) (by decide);rw [show wvalK E P (bias E) n=vl E P n from rfl];generalize vl E P n=v at *
 generalize wn E P n=ng at *
 generalize wkind E P n=k at *
 have e0:∀ b:ByteArray,(⟨#[]⟩:ByteArray)++b=b:=fun b=>by apply ByteArray.ext;simp
 have f1:fitsB ⟨#[45]⟩ ⟨#[105,110,102]⟩=true:=fits_of (by decide);have f2:fitsB ⟨#[45]⟩ ⟨#[48]⟩=true:=fits_of (by decide);have f3:fitsB ⟨#[]⟩ ⟨#[105,110,102]⟩=true:=fits_of (by decide);have f4:fitsB ⟨#[]⟩ ⟨#[48]⟩=true:=fits_of (by decide)
 rcases hk with rfl | rfl | rfl | rfl | rfl<;>cases ng<;>(conv=>whnf)
 ·rw [f4,e0]
  conv=>whnf
  rfl
 ·rw [f2]
  conv=>whnf
  rfl
 ·refine ⟨_,ht,?_⟩
  conv=>whnf
  rfl
 ·refine ⟨_,ht,?_⟩
  conv=>whnf
  rfl
 ·rw [f3,e0]
  conv=>whnf
  rfl
 ·rw [f1]
  conv=>whnf
  rfl
 all_goals rfl
end
/-! ### Inside -/
section
variable {E P E' P':Nat}
def insB (E P E' P':Nat):Bool:=decide ((P:Int)≤P')&&(decide (2-((bias E:Nat):Int)-P≥2-((bias E':Nat):Int)-P')&&decide (cmpQ (grQ P (bias E)) (grQ P' (bias E'))≤0))
theorem cInsideF (hF:Fmt E P) (hF':Fmt E' P'):Cal Tryz.prog OQ 30 [fA E P,fA E' P'] (bA (insB E P E' P')):=by
 have p:=fmt_n hF;have p':=fmt_n hF';refine fn_call TK MX Tryz.func30 rfl (by kernel_rfl) (by kernel_rfl) (by kernel_rfl) rfl rfl ?_;unfold insB
 conv=>whnf
 refine ⟨_,cWith0 (m:=0) hF (by decide),?_⟩
 conv=>whnf
 refine ⟨_,cWith0 (m:=0) hF' (by decide),?_⟩
 conv=>whnf
 cases h1:decide ((P:Int)≤P')
 ·conv=>whnf
  rfl
 ·conv=>whnf
  refine ⟨_,cLeastF (by omega) (by omega),?_⟩
  conv=>whnf
  refine ⟨_,cLeastF (by omega) (by omega),?_⟩
  conv=>whnf
  cases h2:decide (2-((bias E:Nat):Int)-P≥2-((bias E':Nat):Int)-P')
  ·conv=>whnf
   rfl
  ·conv=>whnf
   refine ⟨_,cGreatM hF (by omega),?_⟩
   conv=>whnf
   refine ⟨_,cGreatM hF' (by omega),?_⟩
   conv=>whnf
   refine ⟨_,cCmp (grQ_sm ⟨by omega,by omega⟩ (by omega)) (grQ_sm ⟨by omega,by omega⟩ (by omega)) (by decide),?_⟩
   conv=>whnf
   rfl
theorem cInsideBad {E P E' P':Int} (h:¬ (Fmt E P∧Fmt E' P')):Cal Tryz.prog OQ 30 [fA E P,fA E' P'] (bA false):=by
 refine fn_call TK MX Tryz.func30 rfl (by kernel_rfl) (by kernel_rfl) (by kernel_rfl) rfl rfl ?_
 conv=>whnf
 by_cases hF:Fmt E P
 ·obtain ⟨e,p,m,rfl,rfl,_,_,hF⟩:=fmt_cases (M:=0) ⟨by omega,hF⟩;refine ⟨_,cWith0 (m:=0) hF (by decide),?_⟩
  conv=>whnf
  refine ⟨_,cWithBad (M:=0) (a:=.c (.v (.slice none 0 0))) rfl (fun k=>h ⟨hF,k.2⟩),?_⟩
  conv=>whnf
  rfl
 ·refine ⟨_,cWithBad (M:=0) (a:=.c (.v (.slice none 0 0))) rfl (fun k=>hF k.2),?_⟩
  conv=>whnf
  by_cases hF':Fmt E' P'
  ·obtain ⟨e,p,m,rfl,rfl,_,_,hF'⟩:=fmt_cases (M:=0) ⟨by omega,hF'⟩;refine ⟨_,cWith0 (m:=0) hF' (by decide),?_⟩
   conv=>whnf
   rfl
  ·refine ⟨_,cWithBad (M:=0) (a:=.c (.v (.slice none 0 0))) rfl (fun k=>hF' k.2),?_⟩
   conv=>whnf
   rfl
theorem cmp_p2 (a b:Int):decide (cmpQ ((2:Rat)^a) ((2:Rat)^b)≤0)=decide (b≥a):=by
 rw [Bool.eq_iff_iff,decide_eq_true_iff,decide_eq_true_iff,cmpQ_iff]
 constructor
 ·intro h
  refine Int.not_lt.1 (fun k => ?_)
  exact Rat.not_lt.2 h (p2_lt_iff.2 k)
 ·intro h;exact p2_mono h
theorem cRInside (hF:Fmt E P) (hF':Fmt E' P'):Cal Tryz.prog OQ 31 [fA E P,fA E' P'] (bA (insB E P E' P')):=by
 have p:=fmt_n hF;have p':=fmt_n hF';refine fn_call TK MX Tryz.func31 rfl (by kernel_rfl) (by kernel_rfl) (by kernel_rfl) rfl rfl ?_;unfold insB
 conv=>whnf
 refine ⟨_,cRCheck,?_⟩;rw [show fmtZ E P=0 from if_pos hF]
 conv=>whnf
 refine ⟨_,cRCheck,?_⟩;rw [show fmtZ E' P'=0 from if_pos hF']
 conv=>whnf
 cases h1:decide ((P:Int)≤P')
 ·conv=>whnf
  rfl
 ·conv=>whnf
  refine ⟨_,cRLeast hF',?_⟩
  conv=>whnf
  refine ⟨_,cRLeast hF,?_⟩
  conv=>whnf
  refine ⟨_,cRCmp (K:=4000) ((p2_sm (L:=3000) (by omega)).mono (by decide)) ((p2_sm (L:=3000) (by omega)).mono (by decide)) (by decide),?_⟩
  conv=>whnf
  rw [cmp_p2]
  cases h2:decide (2-((bias E:Nat):Int)-P≥2-((bias E':Nat):Int)-P')
  ·conv=>whnf
   rfl
  ·conv=>whnf
   refine ⟨_,cRGreatest hF,?_⟩
   conv=>whnf
   refine ⟨_,cRGreatest hF',?_⟩
   conv=>whnf
   refine ⟨_,cRCmp (grQ_sm ⟨by omega,by omega⟩ (by omega)) (grQ_sm ⟨by omega,by omega⟩ (by omega)) (by decide),?_⟩
   conv=>whnf
   rfl
theorem cRInsideBad {E P E' P':Int} (h:¬ (Fmt E P∧Fmt E' P')):Cal Tryz.prog OQ 31 [fA E P,fA E' P'] (bA false):=by
 refine fn_call TK MX Tryz.func31 rfl (by kernel_rfl) (by kernel_rfl) (by kernel_rfl) rfl rfl ?_
 conv=>whnf
 refine ⟨_,cRCheck,?_⟩
 by_cases hF:Fmt E P
 ·rw [show fmtZ E P=0 from if_pos hF]
  conv=>whnf
  refine ⟨_,cRCheck,?_⟩;rw [show fmtZ E' P'=2 from if_neg (fun k=>h ⟨hF,k⟩)]
  conv=>whnf
  rfl
 ·rw [show fmtZ E P=2 from if_neg hF]
  conv=>whnf
  rfl
end
/-! ### Cast -/
section
variable {E P E' P' m n:Nat}
theorem cRCast (hF:Fmt E P) (hF':Fmt E' P') (hm:m≤4) (hn:n<2^(E+P)):Cal Tryz.prog OQ 38 [fA E P,fA E' P',iA (m:Nat),wA n] (res3 (casR E P E' P' m n)):=by
 refine fn_call TK MX Tryz.func38 rfl (by kernel_rfl) (by kernel_rfl) (by kernel_rfl) rfl rfl ?_;unfold casR exaR kd
 conv=>whnf
 refine ⟨_,cRAsked,?_⟩;rw [ask_good ⟨⟨by omega,by omega⟩,hF'⟩]
 conv=>whnf
 refine ⟨_,cRWords1 hF hm (w128 hF hn),?_⟩;rw [if_pos hn]
 conv=>whnf
 refine ⟨_,cRLook hF hn,?_⟩;have hk:wkind E P n=1∨wkind E P n=2∨wkind E P n=3∨wkind E P n=4∨wkind E P n=5:=kd_cases E P n;have sm:=sm_word (n:=n) hF;rw [show wvalK E P (bias E) n=vl E P n from rfl];generalize vl E P n=v at *
 generalize wn E P n=ng at *
 generalize wkind E P n=k at *
 rcases hk with rfl | rfl | rfl | rfl | rfl<;>(conv=>whnf)<;>refine ⟨_,cRNans1 hF' (by decide),?_⟩<;>(conv=>whnf)
 ·refine ⟨_,cRZero hF',?_⟩
  conv=>whnf
  rfl
 ·refine ⟨_,cRRounded hF' hm sm (by decide),?_⟩
  conv=>whnf
  rfl
 ·refine ⟨_,cRInf hF',?_⟩
  conv=>whnf
  rfl
 ·rfl
 ·rfl
theorem cRCastBad {E P E' P' M:Int} {n:Nat} (h:¬ (((0≤M∧M≤4)∧Fmt E' P')∧Fmt E P)):Cal Tryz.prog OQ 38 [fA E P,fA E' P',iA M,wA n] (.t [wA 0,iA 0,iA 2]):=by
 refine fn_call TK MX Tryz.func38 rfl (by kernel_rfl) (by kernel_rfl) (by kernel_rfl) rfl rfl ?_
 conv=>whnf
 refine ⟨_,cRAsked,?_⟩
 by_cases h1:(0≤M∧M≤4)∧Fmt E' P'
 ·rw [ask_good h1]
  conv=>whnf
  refine ⟨_,cRWordsBad (xs:=[wdC n]) rfl (fun k=>h ⟨h1,k.2⟩),?_⟩
  conv=>whnf
  rfl
 ·rw [ask_bad h1]
  conv=>whnf
  rfl
theorem cRCastForm (hF:Fmt E P) (hF':Fmt E' P') (hm:m≤4) (h8:W128 n) (hn:¬ n<2^(E+P)):Cal Tryz.prog OQ 38 [fA E P,fA E' P',iA (m:Nat),wA n] (.t [wA 0,iA 0,iA 6]):=by
 refine fn_call TK MX Tryz.func38 rfl (by kernel_rfl) (by kernel_rfl) (by kernel_rfl) rfl rfl ?_
 conv=>whnf
 refine ⟨_,cRAsked,?_⟩;rw [ask_good ⟨⟨by omega,by omega⟩,hF'⟩]
 conv=>whnf
 refine ⟨_,cRWords1 hF hm h8,?_⟩;rw [if_neg hn]
 conv=>whnf
 rfl
theorem cCastBad {E P E' P' M:Int} {n:Nat} (h:¬ (((0≤M∧M≤4)∧Fmt E' P')∧Fmt E P)):Cal Tryz.prog OQ 37 [fA E P,fA E' P',iA M,wA n] (.t [wA 0,iA 0,iA 2]):=by
 refine fn_call TK MX Tryz.func37 rfl (by kernel_rfl) (by kernel_rfl) (by kernel_rfl) rfl rfl ?_
 conv=>whnf
 by_cases h1:(0≤M∧M≤4)∧Fmt E' P'
 ·obtain ⟨e,p,m,rfl,rfl,rfl,hm,hF'⟩:=fmt_cases h1;refine ⟨_,cWith0 hF' hm,?_⟩
  conv=>whnf
  refine ⟨_,cWithBad (a:=.c (.sl 2 [wdC n])) rfl (fun k=>h ⟨h1,k.2⟩),?_⟩
  conv=>whnf
  rfl
 ·refine ⟨_,cWithBad (a:=.c (.v (.slice none 0 0))) rfl h1,?_⟩
  conv=>whnf
  rfl
theorem cCastForm (hF:Fmt E P) (hF':Fmt E' P') (hm:m≤4) (h8:W128 n) (hn:¬ n<2^(E+P)):Cal Tryz.prog OQ 37 [fA E P,fA E' P',iA (m:Nat),wA n] (.t [wA 0,iA 0,iA 6]):=by
 refine fn_call TK MX Tryz.func37 rfl (by kernel_rfl) (by kernel_rfl) (by kernel_rfl) rfl rfl ?_
 conv=>whnf
 refine ⟨_,cWith0 hF' hm,?_⟩
 conv=>whnf
 refine ⟨_,cWith1 hF hm h8,?_⟩;rw [if_neg hn]
 conv=>whnf
 rfl
end
end Go.Proofs.YtgabigepocfllaaGreatDoor
