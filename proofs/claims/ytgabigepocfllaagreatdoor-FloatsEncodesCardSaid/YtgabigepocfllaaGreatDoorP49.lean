/- exact: Parse, by reckoning. -/
import Derived.Test.YtgabigepocfllaaGreatDoorP42
import Derived.Test.YtgabigepocfllaaGreatDoorP44
import Derived.Test.YtgabigepocfllaaGreatDoorP48
namespace Go.Proofs.YtgabigepocfllaaGreatDoor
open Go.RowKit Vn
set_option maxRecDepth 100000
set_option maxHeartbeats 8000000
abbrev sA (S:ByteArray):AV:=.c (.v (.string S))
theorem cParse {l:List UInt8} (hl:l.length≤9223372036854775807):Cal Tryz.prog OQ 72 [sA (ba l)] (.t [nA (parseV l).1,iA (parseV l).2]) :=
 cal_of (by kernel_rfl) rfl fun S w vs hi hv=>by
  match vs,hv with
  | [x],hv =>
   have e:=sc_of hv.1;subst e
   exact (Parse_c l w hi.1 hl).mono fun _ _ ⟨v,h1,h2,h3⟩=>⟨_,h1,h3,fun S'=>⟨[_,_],rfl,numA_of h2,⟨rfl,rfl⟩,trivial⟩⟩
theorem parse_sm (l:List UInt8):SmQ 8000 (parseV l).1:=by
 unfold parseV
 split
 ·exact SmQ.zero _ (by decide)
 ·rename_i hb
  split
  ·exact SmQ.zero _ (by decide)
  ·rename_i hz
   have hb:parseBad (pNeg l) (pCut l).2.2 (pCut l).1 (pCut l).2.1=false:=by simpa using hb
   unfold parseBad at hb;simp only [Bool.or_eq_false_iff,Bool.not_eq_false'] at hb;obtain ⟨⟨hA,_⟩,hB⟩:=hb;have s1:=decV_small hA (by omega);have key:∀ Q,0<Q→Sm 8000 Q→SmQ 8000 (mkq (pNeg l) (decV (pCut l).1) Q):=fun Q h0 hQ=>by
    refine ⟨?_,?_⟩
    ·rw [mkq_natAbs _ _ _ (by omega)];exact s1.of_le (Nat.div_le_self _ _)
    ·rw [mkq_den _ _ _ (by omega)];exact hQ.of_le (Nat.div_le_self _ _)
   split
   ·exact key 1 (by decide) sm8000
   ·rename_i hbr
    have hbr:(pCut l).2.2=true:=by simpa using hbr
    rw [hbr] at hB;simp only [Bool.true_and,Bool.or_eq_false_iff,Bool.not_eq_false',beq_eq_false_iff_ne] at hB;have h1:=decV_big hB.1.1 hB.1.2 hB.2
    split
    ·exact key _ (by omega) (decV_small hB.1.1 (by omega))
    ·exact SmQ.zero _ (by decide)
section
variable {E P m b n:Nat} {q:Rat} {K:Nat}
theorem cBoth {j:Nat} (h1:W128 n) (h2:W128 j):Cal Tryz.prog OQ 78 [wA n,wA j] (wA (n ||| j)) :=
 calA [.w n,.w j] (r:=.w _) (by kernel_rfl) rfl fun w vs _ hv=>by
  obtain ⟨x,y,rfl,rfl,rfl⟩:=two_args hv;exact (both_w n j w h1 h2).mono fun _ _ ⟨h1,h2⟩=>⟨_,h1,rfl,h2⟩
def numAV (E P n:Nat):AV:=if wkind E P n≤2 then .t [nA (wvalK E P (bias E) n),iA 0] else .t [nA 0,iA 7]
theorem cNumber (hF:Fmt E P) (hn:n<2^(E+P)):Cal Tryz.prog OQ 120 [fA E P,wA n,iA 0] (numAV E P n):=by
 refine fn_call TK MX Tryz.func120 rfl (by kernel_rfl) (by kernel_rfl) (by kernel_rfl) (by unfold numAV;split<;>rfl) rfl ?_
 conv=>whnf
 refine ⟨_,cValue hF hn,?_⟩;unfold valR numAV
 by_cases h:wkind E P n≤2
 ·rw [if_pos h,if_pos h]
  conv=>whnf
  rfl
 ·rw [if_neg h,if_neg h]
  conv=>whnf
  rfl
theorem rq_lt (hF:Fmt E P):(rq E P m q).1<2^(E+P):=rnd_lt (fmt_n hF).1 (by have:=(fmt_n hF).2.2.1;omega) lg_is
theorem cNear (hF:Fmt E P) (hm:m≤4) (sx:SmQ K q) (hK:K≤12000):Cal Tryz.prog OQ 42 [fA E P,iA (m:Nat),nA q] (numAV E P (rq E P m q).1):=by
 refine fn_call TK MX Tryz.func42 rfl (by kernel_rfl) (by kernel_rfl) (by kernel_rfl) (by unfold numAV;split<;>rfl) rfl ?_
 conv=>whnf
 refine ⟨_,cRoundF hF hm sx hK,?_⟩
 conv=>whnf
 refine ⟨_,cNumber hF (rq_lt hF),?_⟩;unfold numAV
 by_cases h:wkind E P (rq E P m q).1≤2
 ·rw [if_pos h]
  conv=>whnf
  rfl
 ·rw [if_neg h]
  conv=>whnf
  rfl
end
abbrev flA (k:Int) (neg:Bool) (S:ByteArray):AV:=.g [.v (.int .i64 k),.v (.bool neg),.v (.string S)]
theorem cEncode2 {E P:Nat} {neg:Bool} {l:List UInt8} (hF:Fmt E P) (hl:l.length≤9223372036854775807) (hz:(parseV l).2=0)
  (hk:kd E P (rq E P 0 (parseV l).1).1=2) (hn:wn E P (rq E P 0 (parseV l).1).1=neg) (ht:(numText (vl E P (rq E P 0 (parseV l).1).1)).toList=(ba l).toList) :
  Cal Tryz.prog OQ 10 [fA E P,flA 2 neg (ba l)] (.t [wA (rq E P 0 (parseV l).1).1,iA 0]):=by
 refine fn_call TK MX Tryz.func10 rfl (by kernel_rfl) (by kernel_rfl) (by kernel_rfl) rfl rfl ?_
 conv=>whnf
 refine ⟨_,cWith0 (m:=0) hF (by decide),?_⟩
 conv=>whnf
 refine ⟨_,cParse hl,?_⟩;rw [hz]
 conv=>whnf
 refine ⟨_,cRoundQ hF (by decide) (parse_sm l) (by decide),?_⟩
 conv=>whnf
 refine ⟨_,cDecode hF (rq_lt hF),?_⟩
 conv=>whnf
 rw [show (!(kd E P (rq E P 0 (parseV l).1).1==2&&(wn E P (rq E P 0 (parseV l).1).1==neg&&((numText (vl E P (rq E P 0 (parseV l).1).1)).toList==(ba l).toList&&true))))=false by rw [hk,hn,ht];simp]
 conv=>whnf
 rfl
/-! ### awake -/
theorem f33:Fmt ((3:Nat):Int) ((3:Nat):Int):=by unfold Fmt;decide
theorem parse1:parseV [49]=(1,0):=by decide +kernel
theorem rq1:rq 3 3 0 1=(12,0):=by decide +kernel
theorem txt_whole {n:Nat} (h:n<10):numText ((n:Nat):Rat)=ba [UInt8.ofNat (48+n)]:=by
 have e1:((n:Nat):Rat).num=n:=rfl;have e2:((n:Nat):Rat).den=1:=rfl;unfold numText;rw [e1,e2,if_neg (by omega),if_pos rfl,ba_empty];unfold decT;rw [Int.natAbs_natCast,Lib.decDigits_one h]
 rfl
theorem txt38:numText (3/8:Rat)=ba [51,47,56]:=by
 have e1:(3/8:Rat).num=3:=by decide +kernel
 have e2:(3/8:Rat).den=8:=by decide +kernel
 unfold numText;rw [e1,e2,if_neg (by omega),if_neg (by decide)];unfold decT;rw [show ((3:Int).natAbs)=3 from rfl,Lib.decDigits_one (by decide),Lib.decDigits_one (by decide)]
 rfl
theorem cEncOne:Cal Tryz.prog OQ 10 [fA 3 3,flA 2 false (ba [49])] (.t [wA 12,iA 0]):=by
 have e:(rq 3 3 0 (parseV [49]).1).1=12:=by rw [parse1];exact congrArg Prod.fst rq1
 have v:vl 3 3 12=((1:Nat):Rat):=by decide +kernel
 have h:=cEncode2 (E:=3) (P:=3) (neg:=false) (l:=[49]) f33 (by decide) (by rw [parse1]) (by rw [e];decide +kernel) (by rw [e];decide +kernel) (by rw [e,v,txt_whole (by decide)];rfl);rw [e] at h
 exact h
def thrQ:Rat:=((1:Int):Rat)/((3:Int):Rat)
theorem cAwakeE:Cal Tryz.prog OQ 12 [] (bA true):=by
 have sm:SmQ 10 thrQ:=⟨by unfold Sm;decide +kernel,by unfold Sm;decide +kernel⟩;have hA:=cAddZ (E:=3) (P:=3) (M:=0) (i:=12) (j:=12) (by decide) (by decide);rw [show addZ 3 3 0 12 12=(16,0,0) by decide +kernel] at hA;have hV:=cValue (E:=3) (P:=3) (n:=16) f33 (by decide);rw [show valR 3 3 16=.t [nA ((2:Nat):Rat),iA 0] by
  unfold valR;rw [if_pos (by decide),show wvalK 3 3 (bias 3) 16=((2:Nat):Rat) by decide +kernel]] at hV
 have hN:=cNear (E:=3) (P:=3) (m:=3) (q:=thrQ) f33 (by decide) sm (by decide);rw [show (rq 3 3 3 thrQ).1=6 by decide +kernel,show numAV 3 3 6=.t [nA (3/8:Rat),iA 0] by
  unfold numAV;rw [if_pos (by decide),show wvalK 3 3 (bias 3) 6=(3/8:Rat) by decide +kernel]] at hN
 have t2:=cText (q:=((2:Nat):Rat)) (K:=10) ⟨by unfold Sm;decide +kernel,by unfold Sm;decide +kernel⟩ (by decide);rw [txt_whole (by decide)] at t2;have t8:=cText (q:=(3/8:Rat)) (K:=10) ⟨by unfold Sm;decide +kernel,by unfold Sm;decide +kernel⟩ (by decide);rw [txt38] at t8;refine fn_call TK MX Tryz.func12 rfl (by kernel_rfl) (by kernel_rfl) (by kernel_rfl) rfl rfl ?_
 conv=>whnf
 refine ⟨_,cSix,?_⟩
 conv=>whnf
 refine ⟨_,cEncOne,?_⟩
 conv=>whnf
 refine ⟨_,hA,?_⟩
 conv=>whnf
 refine ⟨_,hV,?_⟩
 conv=>whnf
 refine ⟨_,cRatio (m:=1) (n:=3) (by decide) (by decide) (by decide) (by decide) (by decide),?_⟩
 conv=>whnf
 refine ⟨_,hN,?_⟩
 conv=>whnf
 refine ⟨_,cValueForm (E:=3) (P:=3) (n:=64) f33 (by decide) (by decide),?_⟩
 conv=>whnf
 refine ⟨_,t2,?_⟩
 conv=>whnf
 rw [show ((ba [UInt8.ofNat (48+2)]).toList==(⟨#[50]⟩:ByteArray).toList)=true by rw [ByteArray.toList_eq,ByteArray.toList_eq];rfl]
 conv=>whnf
 refine ⟨_,t8,?_⟩
 conv=>whnf
 rw [show ((ba [51,47,56]).toList==(⟨#[51,47,56]⟩:ByteArray).toList)=true by rw [ByteArray.toList_eq,ByteArray.toList_eq];rfl]
 conv=>whnf
 rfl
abbrev rN (n:Nat):AV:=.c (.o 2 n)
theorem cRtext {n K:Nat} (sx:Sm K n) (hK:K≤1000000):Cal Tryz.prog OQ 198 [rN n] (sA (decT n)) :=
 cal_of (by kernel_rfl) rfl fun S w vs _ hv=>by
  match vs,hv with
  | [x],hv =>
   have hx:RefV w x n:=hv.1
   exact (rtext_c x n K w hx sx hK).mono fun _ _ ⟨h1,h2⟩=>⟨_,h1,h2,fun S'=>⟨rfl,rfl⟩⟩
theorem cRread {l:List UInt8} (hd:Digs l) (hl:l.length≤2000):Cal Tryz.prog OQ 174 [sA (ba l)] (rN (decV l)) :=
 cal_of (by kernel_rfl) rfl fun S w vs _ hv=>by
  match vs,hv with
  | [x],hv =>
   have e:=sc_of hv.1;subst e
   exact (rread_c l w hd hl).mono fun _ _ ⟨a,k,c,h1,h2,h3⟩=>⟨_,h1,h3,fun S'=>h2⟩
theorem cRmade {s:Int} {P Q K:Nat} (hs:s=1∨s = -1∨s=0) (sx:Sm K P) (sy:Sm K Q) (hK:K≤30000000) (hQ:0<Q):Cal Tryz.prog OQ 173 [iA s,rN P,rN Q] (rA (mkRat (s*P) Q)) :=
 cal_of (by kernel_rfl) rfl fun S w vs _ hv=>by
  match vs,hv with
  | [x,y,z],hv =>
   have e:=sc_of hv.1;subst e;have hy:RefV w y P:=hv.2.1;have hz:RefV w z Q:=hv.2.2.1
   exact (rmade_c s y z P Q K w hs hy hz sx sy hK hQ).mono fun _ _ ⟨v,h1,h2,h3⟩=>⟨_,h1,h3,fun S'=>(rnumA_of (β:=fun _=>none) (S:=S') h2).toV (by intro l h;cases h)⟩
theorem cRrows {l:List UInt8} {X Y:ByteArray} {Z:Bool} (hl:l.length≤9223372036854775807) (h:RowsR l X Y Z):Cal Tryz.prog OQ 172 [sA (ba l)] (.t [sA X,sA Y,iA (if pNeg l=true then -1 else 1),bA Z]) :=
 cal_of (by kernel_rfl) rfl fun S w vs _ hv=>by
  match vs,hv with
  | [x],hv =>
   have e:=sc_of hv.1;subst e
   exact (rrows_c l X Y Z w hl h).mono fun _ _ ⟨h1,h2⟩=>⟨_,h1,h2,fun S'=>⟨[_,_,_,_],rfl,⟨rfl,rfl⟩,⟨rfl,rfl⟩,⟨rfl,rfl⟩,⟨rfl,rfl⟩,trivial⟩⟩
theorem sgnLt (q:Rat):decide (q.num.sign<0)=decide (q.num<0):=by
 have:q.num.sign<0↔q.num<0:=Int.sign_neg_iff
 simp only [this]
theorem cRText {q:Rat} {K:Nat} (sx:SmQ K q) (hK:K≤1000000):Cal Tryz.prog OQ 110 [rA q] (sA (numText q)):=by
 refine fn_call TK MX Tryz.func110 rfl (by kernel_rfl) (by kernel_rfl) (by kernel_rfl) rfl rfl ?_;have z1:=decT_size sx.1;have z2:=decT_size sx.2
 conv=>whnf
 refine ⟨_,cRtext sx.1 hK,?_⟩
 conv=>whnf
 rw [sgnLt];have h1:(⟨#[45]⟩:ByteArray).size=1:=rfl;have h2:(⟨#[47]⟩:ByteArray).size=1:=rfl;have hz:∀ (a b:ByteArray),(a++b).size=a.size+b.size:=fun a b=>ByteArray.size_append;unfold numText;generalize decT q.num.natAbs=U at *
 generalize hV:decT q.den=V at *
 by_cases hn:q.num<0
 ·rw [dT hn,if_pos hn]
  conv=>whnf
  rw [fits_of (by rw [h1];omega)];have hS:=hz ⟨#[45]⟩ U;generalize ⟨#[45]⟩++U=S at *
  conv=>whnf
  refine ⟨_,cRIsInt sx (by omega),?_⟩
  conv=>whnf
  by_cases hd:q.den=1
  ·rw [dT hd,if_pos hd,ba_empty]
   conv=>whnf
   rfl
  ·rw [dF hd,if_neg hd]
   conv=>whnf
   rw [fits_of (by rw [hS,h1,h2];omega),←ByteArray.append_assoc];have hS2:=hz S ⟨#[47]⟩;generalize S++⟨#[47]⟩=T at *
   conv=>whnf
   rw [if_neg (show ¬ q=0 from fun e=>hd (by rw [e];rfl))];refine ⟨_,cRtext sx.2 hK,?_⟩;rw [hV]
   conv=>whnf
   rw [fits_of (by rw [hS2,hS,h1,h2];omega)];generalize T++V=R at *
   conv=>whnf
   rfl
 ·rw [dF hn,if_neg hn]
  conv=>whnf
  refine ⟨_,cRIsInt sx (by omega),?_⟩
  conv=>whnf
  by_cases hd:q.den=1
  ·rw [dT hd,if_pos hd,ba_empty]
   conv=>whnf
   rfl
  ·rw [dF hd,if_neg hd]
   conv=>whnf
   rw [fits_of (by rw [h2];omega),←ByteArray.append_assoc];have hS2:=hz U ⟨#[47]⟩;generalize U++⟨#[47]⟩=T at *
   conv=>whnf
   rw [if_neg (show ¬ q=0 from fun e=>hd (by rw [e];rfl))];refine ⟨_,cRtext sx.2 hK,?_⟩;rw [hV]
   conv=>whnf
   rw [fits_of (by rw [hS2,h2];omega)];generalize T++V=R at *
   conv=>whnf
   rfl
theorem sg_mul (neg:Bool) (P:Nat):(if neg=true then -1 else 1)*((P:Nat):Int)=sg neg P:=by
 unfold sg;cases neg<;>simp
theorem toList_eq_iff {a b:ByteArray}:(a.toList==b.toList)=decide (a=b):=by
 rw [ByteArray.toList_eq,ByteArray.toList_eq,Bool.eq_iff_iff,beq_iff_eq,decide_eq_true_iff]
 constructor
 ·intro h;exact ByteArray.ext (Array.toList_inj.1 h)
 ·intro h;rw [h]
theorem rparse_small {l:List UInt8} (hb:parseBad (pNeg l) (pCut l).2.2 (pCut l).1 (pCut l).2.1=false) (h1:(pCut l).1.length≤2000) (h2:(pCut l).2.1.length≤2000) :
  Digs (pCut l).1∧Digs (if (pCut l).2.2=true then (pCut l).2.1 else [49])∧Sm 8000 (decV (pCut l).1)∧Sm 8000 (decV (if (pCut l).2.2=true then (pCut l).2.1 else [49]))∧0<decV (if (pCut l).2.2=true then (pCut l).2.1 else [49]):=by
 unfold parseBad at hb;simp only [Bool.or_eq_false_iff,Bool.not_eq_false'] at hb;obtain ⟨⟨hA,_⟩,hB⟩:=hb;refine ⟨rowB_digs hA,?_,decV_small hA h1,?_⟩
 ·split
  ·rename_i hbr
   rw [hbr] at hB;simp only [Bool.true_and,Bool.or_eq_false_iff,Bool.not_eq_false',beq_eq_false_iff_ne] at hB
   exact rowB_digs hB.1.1
  ·intro b hb;simp at hb;subst hb;decide
 ·split
  ·rename_i hbr
   rw [hbr] at hB;simp only [Bool.true_and,Bool.or_eq_false_iff,Bool.not_eq_false',beq_eq_false_iff_ne] at hB
   have:=decV_big hB.1.1 hB.1.2 hB.2
   exact ⟨decV_small hB.1.1 h2,by omega⟩
  ·exact ⟨sm8000,by decide⟩
theorem cRParse {l:List UInt8} (hl:l.length≤9223372036854775807):Cal Tryz.prog OQ 81 [sA (ba l)] (.t [rA (parseV l).1,iA (parseV l).2]):=by
 refine fn_call TK MX Tryz.func81 rfl (by kernel_rfl) (by kernel_rfl) (by kernel_rfl) rfl rfl ?_;have hR:RowsR l (ba (pCut l).1) (ba (if (pCut l).2.2=true then (pCut l).2.1 else [49])) (!parseBad (pNeg l) (pCut l).2.2 (pCut l).1 (pCut l).2.1):=⟨rfl,by split<;>rfl,rfl⟩;have hsz1:(ba (pCut l).1).size=(pCut l).1.length:=ba_size _;have hsz2:(ba (if (pCut l).2.2=true then (pCut l).2.1 else [49])).size=if (pCut l).2.2=true then (pCut l).2.1.length else 1:=by rw [ba_size];split<;>rfl
 have hBl:(pCut l).2.2=false→(pCut l).2.1.length=0:=fun h=>by
  obtain ⟨A,B,b,e,_,hB⟩:=text_parts l;rw [e] at h ⊢;rw [hB h];rfl
 conv=>whnf
 refine ⟨_,cRrows hl hR,?_⟩
 conv=>whnf
 cases hb:parseBad (pNeg l) (pCut l).2.2 (pCut l).1 (pCut l).2.1
 ·conv=>whnf
  have s1:=rparse_small hb;have s2:=rparse_same hb
  by_cases h1:(pCut l).1.length≤2000
  ·rw [hsz1,dF (show ¬ (((pCut l).1.length:Nat):Int)>2000 by omega)]
   conv=>whnf
   by_cases h2:(pCut l).2.1.length≤2000
   ·rw [hsz2,dF (show ¬ (((if (pCut l).2.2=true then (pCut l).2.1.length else 1):Nat):Int)>2000 by split<;>omega)];obtain ⟨d1,d2,z1,z2,z3⟩:=s1 h1 h2
    conv=>whnf
    refine ⟨_,cRread d1 h1,?_⟩
    conv=>whnf
    refine ⟨_,cRread d2 (by split<;>first | exact h2 | decide),?_⟩
    conv=>whnf
    refine ⟨_,cRmade (by split<;>simp) z1 z2 (by decide) z3,?_⟩;rw [sg_mul];have eq:mkRat (sg (pNeg l) (decV (pCut l).1)) (decV (if (pCut l).2.2=true then (pCut l).2.1 else [49]))=rparseQ l:=by
     unfold rparseQ mkq;congr 1;split<;>rfl
    rw [eq]
    conv=>whnf
    have sq:SmQ 8000 (rparseQ l):=by
     rw [←eq]
     have:mkRat (sg (pNeg l) (decV (pCut l).1)) (decV (if (pCut l).2.2=true then (pCut l).2.1 else [49]))=mkq (pNeg l) (decV (pCut l).1) (decV (if (pCut l).2.2=true then (pCut l).2.1 else [49])):=rfl
     rw [this]
     exact ⟨by rw [mkq_natAbs _ _ _ (by omega)];exact z1.of_le (Nat.div_le_self _ _),by rw [mkq_den _ _ _ (by omega)];exact z2.of_le (Nat.div_le_self _ _)⟩
    refine ⟨_,cRText sq (by decide),?_⟩
    conv=>whnf
    rw [toList_eq_iff]
    rcases s2 h1 h2 with ⟨e1,e2⟩ | ⟨e1,e2⟩
    ·rw [e1,dT e2]
     conv=>whnf
     rfl
    ·rw [e1,dF e2]
     conv=>whnf
     rfl
   ·have hbr:(pCut l).2.2=true:=by
     cases h:(pCut l).2.2
     ·have:=hBl h;omega
     ·rfl
    rw [hsz2,dT (show (((if (pCut l).2.2=true then (pCut l).2.1.length else 1):Nat):Int)>2000 by rw [if_pos hbr];omega)];have e1:parseV l=(0,3):=by unfold parseV;rw [hb,if_neg (by decide),if_pos (by omega)]
    rw [e1]
    conv=>whnf
    rfl
  ·rw [hsz1,dT (show (((pCut l).1.length:Nat):Int)>2000 by omega)];have e1:parseV l=(0,3):=by unfold parseV;rw [hb,if_neg (by decide),if_pos (by omega)]
   rw [e1]
   conv=>whnf
   rfl
 ·have e1:parseV l=(0,6):=by unfold parseV;rw [hb,if_pos rfl]
  rw [e1]
  conv=>whnf
  rfl
end Go.Proofs.YtgabigepocfllaaGreatDoor
