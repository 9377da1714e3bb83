/- The reference: Text and Parse, by reckoning. -/
import Derived.Test.YtgabigepocfllaaGreatDoorG43
import Derived.Test.YtgabigepocfllaaGreatDoorG47
import Derived.Test.YtgabigepocfllaaGreatDoorG48
import Derived.Test.YtgabigepocfllaaGreatDoorG49
namespace Go.Proofs.YtgabigepocfllaaGreatDoor
open Go.RowKit Vn
set_option maxRecDepth 100000
set_option maxHeartbeats 8000000
abbrev rN (n:Nat):AV:=.c (.o 2 n)
theorem cRtext {n K:Nat} (sx:Sm K n) (hK:K≤1000000):Cal Tryz.prog OQ 198 [rN n] (sA (decT n)) :=
 cal_of (by kernel_rfl) rfl fun S w vs _ hv=>by
  match vs,hv with
  | [x],hv =>
   have hx:RefV w x n:=hv.1
   exact (rtext_c x n K w hx sx hK).mono fun _ _ ⟨h1,h2⟩=>⟨_,h1,h2,fun S'=>⟨rfl,rfl⟩⟩
theorem cRread {l:List UInt8} (hd:Digs l) (hl:l.length≤2000):Cal Tryz.prog OQ 174 [sA (ba l)] (rN (decV l)) :=
 cal_of (by kernel_rfl) rfl fun S w vs _ hv=>by
  match vs,hv with
  | [x],hv =>
   have e:=sc_of hv.1;subst e
   exact (rread_c l w hd hl).mono fun _ _ ⟨a,k,c,h1,h2,h3⟩=>⟨_,h1,h3,fun S'=>h2⟩
theorem cRmade {s:Int} {P Q K:Nat} (hs:s=1∨s = -1∨s=0) (sx:Sm K P) (sy:Sm K Q) (hK:K≤30000000) (hQ:0<Q):Cal Tryz.prog OQ 173 [iA s,rN P,rN Q] (rA (mkRat (s*P) Q)) :=
 cal_of (by kernel_rfl) rfl fun S w vs _ hv=>by
  match vs,hv with
  | [x,y,z],hv =>
   have e:=sc_of hv.1;subst e;have hy:RefV w y P:=hv.2.1;have hz:RefV w z Q:=hv.2.2.1
   exact (rmade_c s y z P Q K w hs hy hz sx sy hK hQ).mono fun _ _ ⟨v,h1,h2,h3⟩=>⟨_,h1,h3,fun S'=>(rnumA_of (β:=fun _=>none) (S:=S') h2).toV (by intro l h;cases h)⟩
theorem cRrows {l:List UInt8} {X Y:ByteArray} {Z:Bool} (hl:l.length≤9223372036854775807) (h:RowsR l X Y Z):Cal Tryz.prog OQ 172 [sA (ba l)] (.t [sA X,sA Y,iA (if pNeg l=true then -1 else 1),bA Z]) :=
 cal_of (by kernel_rfl) rfl fun S w vs _ hv=>by
  match vs,hv with
  | [x],hv =>
   have e:=sc_of hv.1;subst e
   exact (rrows_c l X Y Z w hl h).mono fun _ _ ⟨h1,h2⟩=>⟨_,h1,h2,fun S'=>⟨[_,_,_,_],rfl,⟨rfl,rfl⟩,⟨rfl,rfl⟩,⟨rfl,rfl⟩,⟨rfl,rfl⟩,trivial⟩⟩
theorem sgnLt (q:Rat):decide (q.num.sign<0)=decide (q.num<0):=by
 have:q.num.sign<0↔q.num<0:=Int.sign_neg_iff
 simp only [this]
theorem cRText {q:Rat} {K:Nat} (sx:SmQ K q) (hK:K≤1000000):Cal Tryz.prog OQ 110 [rA q] (sA (numText q)):=by
 refine fn_call TK MX Tryz.func110 rfl (by kernel_rfl) (by kernel_rfl) (by kernel_rfl) rfl rfl ?_;have z1:=decT_size sx.1;have z2:=decT_size sx.2
 conv=>whnf
 refine ⟨_,cRtext sx.1 hK,?_⟩
 conv=>whnf
 rw [sgnLt];have h1:(⟨#[45]⟩:ByteArray).size=1:=rfl;have h2:(⟨#[47]⟩:ByteArray).size=1:=rfl;have hz:∀ (a b:ByteArray),(a++b).size=a.size+b.size:=fun a b=>ByteArray.size_append;unfold numText;generalize decT q.num.natAbs=U at *
 generalize hV:decT q.den=V at *
 by_cases hn:q.num<0
 ·rw [dT hn,if_pos hn]
  conv=>whnf
  rw [fits_of (by rw [h1];omega)];have hS:=hz ⟨#[45]⟩ U;generalize ⟨#[45]⟩++U=S at *
  conv=>whnf
  refine ⟨_,cRIsInt sx (by omega),?_⟩
  conv=>whnf
  by_cases hd:q.den=1
  ·rw [dT hd,if_pos hd,ba_empty]
   conv=>whnf
   rfl
  ·rw [dF hd,if_neg hd]
   conv=>whnf
   rw [fits_of (by rw [hS,h1,h2];omega),←ByteArray.append_assoc];have hS2:=hz S ⟨#[47]⟩;generalize S++⟨#[47]⟩=T at *
   conv=>whnf
   rw [if_neg (show ¬ q=0 from fun e=>hd (by rw [e];rfl))];refine ⟨_,cRtext sx.2 hK,?_⟩;rw [hV]
   conv=>whnf
   rw [fits_of (by rw [hS2,hS,h1,h2];omega)];generalize T++V=R at *
   conv=>whnf
   rfl
 ·rw [dF hn,if_neg hn]
  conv=>whnf
  refine ⟨_,cRIsInt sx (by omega),?_⟩
  conv=>whnf
  by_cases hd:q.den=1
  ·rw [dT hd,if_pos hd,ba_empty]
   conv=>whnf
   rfl
  ·rw [dF hd,if_neg hd]
   conv=>whnf
   rw [fits_of (by rw [h2];omega),←ByteArray.append_assoc];have hS2:=hz U ⟨#[47]⟩;generalize U++⟨#[47]⟩=T at *
   conv=>whnf
   rw [if_neg (show ¬ q=0 from fun e=>hd (by rw [e];rfl))];refine ⟨_,cRtext sx.2 hK,?_⟩;rw [hV]
   conv=>whnf
   rw [fits_of (by rw [hS2,h2];omega)];generalize T++V=R at *
   conv=>whnf
   rfl
theorem sg_mul (neg:Bool) (P:Nat):(if neg=true then -1 else 1)*((P:Nat):Int)=sg neg P:=by
 unfold sg;cases neg<;>simp
theorem toList_eq_iff {a b:ByteArray}:(a.toList==b.toList)=decide (a=b):=by
 rw [ByteArray.toList_eq,ByteArray.toList_eq,Bool.eq_iff_iff,beq_iff_eq,decide_eq_true_iff]
 constructor
 ·intro h;exact ByteArray.ext (Array.toList_inj.1 h)
 ·intro h;rw [h]
theorem rparse_small {l:List UInt8} (hb:parseBad (pNeg l) (pCut l).2.2 (pCut l).1 (pCut l).2.1=false) (h1:(pCut l).1.length≤2000) (h2:(pCut l).2.1.length≤2000) :
  Digs (pCut l).1∧Digs (if (pCut l).2.2=true then (pCut l).2.1 else [49])∧Sm 8000 (decV (pCut l).1)∧Sm 8000 (decV (if (pCut l).2.2=true then (pCut l).2.1 else [49]))∧0<decV (if (pCut l).2.2=true then (pCut l).2.1 else [49]):=by
 unfold parseBad at hb;simp only [Bool.or_eq_false_iff,Bool.not_eq_false'] at hb;obtain ⟨⟨hA,_⟩,hB⟩:=hb;refine ⟨rowB_digs hA,?_,decV_small hA h1,?_⟩
 ·split
  ·rename_i hbr
   rw [hbr] at hB;simp only [Bool.true_and,Bool.or_eq_false_iff,Bool.not_eq_false',beq_eq_false_iff_ne] at hB
   exact rowB_digs hB.1.1
  ·intro b hb;simp at hb;subst hb;decide
 ·split
  ·rename_i hbr
   rw [hbr] at hB;simp only [Bool.true_and,Bool.or_eq_false_iff,Bool.not_eq_false',beq_eq_false_iff_ne] at hB
   have:=decV_big hB.1.1 hB.1.2 hB.2
   exact ⟨decV_small hB.1.1 h2,by omega⟩
  ·exact ⟨sm8000,by decide⟩
theorem cRParse {l:List UInt8} (hl:l.length≤9223372036854775807):Cal Tryz.prog OQ 81 [sA (ba l)] (.t [rA (parseV l).1,iA (parseV l).2]):=by
 refine fn_call TK MX Tryz.func81 rfl (by kernel_rfl) (by kernel_rfl) (by kernel_rfl) rfl rfl ?_;have hR:RowsR l (ba (pCut l).1) (ba (if (pCut l).2.2=true then (pCut l).2.1 else [49])) (!parseBad (pNeg l) (pCut l).2.2 (pCut l).1 (pCut l).2.1):=⟨rfl,by split<;>rfl,rfl⟩;have hsz1:(ba (pCut l).1).size=(pCut l).1.length:=ba_size _;have hsz2:(ba (if (pCut l).2.2=true then (pCut l).2.1 else [49])).size=if (pCut l).2.2=true then (pCut l).2.1.length else 1:=by rw [ba_size];split<;>rfl
 have hBl:(pCut l).2.2=false→(pCut l).2.1.length=0:=fun h=>by
  obtain ⟨A,B,b,e,_,hB⟩:=text_parts l;rw [e] at h ⊢;rw [hB h];rfl
 conv=>whnf
 refine ⟨_,cRrows hl hR,?_⟩
 conv=>whnf
 cases hb:parseBad (pNeg l) (pCut l).2.2 (pCut l).1 (pCut l).2.1
 ·conv=>whnf
  have s1:=rparse_small hb;have s2:=rparse_same hb
  by_cases h1:(pCut l).1.length≤2000
  ·rw [hsz1,dF (show ¬ (((pCut l).1.length:Nat):Int)>2000 by omega)]
   conv=>whnf
   by_cases h2:(pCut l).2.1.length≤2000
   ·rw [hsz2,dF (show ¬ (((if (pCut l).2.2=true then (pCut l).2.1.length else 1):Nat):Int)>2000 by split<;>omega)];obtain ⟨d1,d2,z1,z2,z3⟩:=s1 h1 h2
    conv=>whnf
    refine ⟨_,cRread d1 h1,?_⟩
    conv=>whnf
    refine ⟨_,cRread d2 (by split<;>first | exact h2 | decide),?_⟩
    conv=>whnf
    refine ⟨_,cRmade (by split<;>simp) z1 z2 (by decide) z3,?_⟩;rw [sg_mul];have eq:mkRat (sg (pNeg l) (decV (pCut l).1)) (decV (if (pCut l).2.2=true then (pCut l).2.1 else [49]))=rparseQ l:=by
     unfold rparseQ mkq;congr 1;split<;>rfl
    rw [eq]
    conv=>whnf
    have sq:SmQ 8000 (rparseQ l):=by
     rw [←eq]
     have:mkRat (sg (pNeg l) (decV (pCut l).1)) (decV (if (pCut l).2.2=true then (pCut l).2.1 else [49]))=mkq (pNeg l) (decV (pCut l).1) (decV (if (pCut l).2.2=true then (pCut l).2.1 else [49])):=rfl
     rw [this]
     exact ⟨by rw [mkq_natAbs _ _ _ (by omega)];exact z1.of_le (Nat.div_le_self _ _),by rw [mkq_den _ _ _ (by omega)];exact z2.of_le (Nat.div_le_self _ _)⟩
    refine ⟨_,cRText sq (by decide),?_⟩
    conv=>whnf
    rw [toList_eq_iff]
    rcases s2 h1 h2 with ⟨e1,e2⟩ | ⟨e1,e2⟩
    ·rw [e1,dT e2]
     conv=>whnf
     rfl
    ·rw [e1,dF e2]
     conv=>whnf
     rfl
   ·have hbr:(pCut l).2.2=true:=by
     cases h:(pCut l).2.2
     ·have:=hBl h;omega
     ·rfl
    rw [hsz2,dT (show (((if (pCut l).2.2=true then (pCut l).2.1.length else 1):Nat):Int)>2000 by rw [if_pos hbr];omega)];have e1:parseV l=(0,3):=by unfold parseV;rw [hb,if_neg (by decide),if_pos (by omega)]
    rw [e1]
    conv=>whnf
    rfl
  ·rw [hsz1,dT (show (((pCut l).1.length:Nat):Int)>2000 by omega)];have e1:parseV l=(0,3):=by unfold parseV;rw [hb,if_neg (by decide),if_pos (by omega)]
   rw [e1]
   conv=>whnf
   rfl
 ·have e1:parseV l=(0,6):=by unfold parseV;rw [hb,if_pos rfl]
  rw [e1]
  conv=>whnf
  rfl
end Go.Proofs.YtgabigepocfllaaGreatDoor
