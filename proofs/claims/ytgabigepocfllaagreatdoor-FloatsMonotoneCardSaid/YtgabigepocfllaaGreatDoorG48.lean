/- Plain: a text and its parts; the reference's way to tell a text's own form says what the program's does. -/
import Derived.Test.YtgabigepocfllaaGreatDoorG44
import Derived.Test.YtgabigepocfllaaGreatDoorG46
namespace Go.Proofs.YtgabigepocfllaaGreatDoor
open Go.RowKit Vn
set_option maxRecDepth 100000
set_option maxHeartbeats 8000000
theorem idx_cases:∀ T:List UInt8,(∃ A B,T=A++47 :: B∧Lib.index T [47]=A.length)∨Lib.index T [47] = -1
 | []=>.inr rfl
 | b :: T=>by
  by_cases hb:b=47
  ·subst hb;exact .inl ⟨[],T,rfl,rfl⟩
  ·have hp:((47:UInt8)==b)=false:=beq_eq_false_iff_ne.2 (fun e=>hb e.symm)
   rcases idx_cases T with ⟨A,B,e,h⟩ | h
   ·refine .inl ⟨b :: A,B,by rw [e];rfl,?_⟩;unfold Lib.index;rw [pre47,hp,h,show (((A.length:Nat):Int) == -1)=false from beq_eq_false_iff_ne.2 (by omega)]
    simp
   ·right
    unfold Lib.index;rw [pre47,hp,h]
    rfl
theorem cut_cases (T:List UInt8):(∃ A B,T=A++47 :: B∧Lib.cut T [47]=(A,B,true))∨Lib.cut T [47]=(T,[],false):=by
 rcases idx_cases T with ⟨A,B,e,h⟩ | h
 ·left
  refine ⟨A,B,e,?_⟩;unfold Lib.cut;rw [h,if_pos (by omega)];subst e
  simp
 ·right
  unfold Lib.cut;rw [h]
  rfl
theorem text_parts (l:List UInt8):∃ A B b,pCut l=(A,B,b)∧l=(if pNeg l=true then [45] else [])++(A++(if b=true then 47 :: B else []))∧(b=false→B=[]):=by
 have hl:l=(if pNeg l=true then [45] else [])++Lib.trimPrefix l [45]:=by
  unfold pNeg Lib.trimPrefix
  by_cases h:Lib.hasPrefix l [45]=true
  ·rw [if_pos h,if_pos h]
   cases l with
   | nil=>exact absurd h (by decide)
   | cons c l =>
    have:c=45:=by
     have h:([45]:List UInt8).isPrefixOf (c :: l)=true:=h
     simp [List.isPrefixOf] at h
     exact h.symm
    subst this;rfl
  ·rw [if_neg h,if_neg h];rfl
 have hT:pCut l=Lib.cut (Lib.trimPrefix l [45]) [47]:=rfl;generalize Lib.trimPrefix l [45]=T at *
 rcases cut_cases T with ⟨A,B,e,h⟩ | h
 ·exact ⟨A,B,true,by rw [hT,h],by rw [if_pos rfl,←e];exact hl,fun h=>by cases h⟩
 ·exact ⟨T,[],false,by rw [hT,h],by rw [if_neg (by decide:¬ false=true),List.append_nil];exact hl,fun _=>rfl⟩
def rparseQ (l:List UInt8):Rat:=mkq (pNeg l) (decV (pCut l).1) (if (pCut l).2.2=true then decV (pCut l).2.1 else 1)
theorem dec_len_le {m n k:Nat} (hk:1≤k) (h:m≤n) (hn:n<10^k):(Lib.decDigits m).length≤k:=dec_len_pow hk (Nat.lt_of_le_of_lt h hn)
theorem rparse_same {l:List UInt8} (hb:parseBad (pNeg l) (pCut l).2.2 (pCut l).1 (pCut l).2.1=false) (h1:(pCut l).1.length≤2000) (h2:(pCut l).2.1.length≤2000) :
  (parseV l=(rparseQ l,0)∧numText (rparseQ l)=ba l)∨(parseV l=(0,6)∧numText (rparseQ l)≠ba l):=by
 obtain ⟨A,B,b,e,el,hB⟩:=text_parts l;have hpv:parseV l=if b=false then (mkq (pNeg l) (decV A) 1,0) else if Nat.gcd (decV A) (decV B)=1 then (mkq (pNeg l) (decV A) (decV B),0) else (0,6):=by
  unfold parseV;rw [hb,if_neg (by decide),if_neg (by omega),e]
 have hq:rparseQ l=mkq (pNeg l) (decV A) (if b=true then decV B else 1):=by unfold rparseQ;rw [e]
 rw [e] at hb h1 h2
 simp only at hb h1 h2
 unfold parseBad at hb;simp only [Bool.or_eq_false_iff,Bool.not_eq_false'] at hb;obtain ⟨⟨hA,hz⟩,hBB⟩:=hb;have hdA:=dec_decV _ A rfl hA;have hA0:pNeg l=true→decV A≠0:=by
  intro hn h0
  rw [h0,Lib.decDigits_one (by decide)] at hdA;rw [hn,←hdA] at hz
  exact absurd hz (by decide)
 have lA:=decV_lt A.length A rfl (rowB_digs hA);have pA:1≤A.length:=by
  cases A with
  | nil=>exact absurd rfl (rowB_ne hA)
  | cons=>simp
 have hnum:∀ Q,0<Q→Nat.gcd (decV A) Q=1→(numText (mkq (pNeg l) (decV A) Q)).data.toList=(if pNeg l=true then [45] else [])++(A++(if Q=1 then [] else 47 :: Lib.decDigits Q)):=by
  intro Q hQ hg
  rw [numText_list];have e1:=mkq_natAbs (pNeg l) (decV A) Q (by omega);have e2:=mkq_den (pNeg l) (decV A) Q (by omega);have e3:=mkq_neg (pNeg l) (decV A) Q (by omega);rw [hg,Nat.div_one] at e1 e2;rw [e1,e2,hdA]
  congr 1
  by_cases hn:pNeg l=true
  ·rw [hn] at e3 ⊢;rw [if_pos (of_decide_eq_true (by rw [e3];simp [hA0 hn])),if_pos rfl]
  ·have hn':pNeg l=false:=by simpa using hn
   rw [hn'] at e3 ⊢;rw [if_neg (of_decide_eq_false (by rw [e3];rfl)),if_neg (by decide)]
 cases b with
 | false =>
  left
  rw [if_neg (by decide)] at hq;refine ⟨by rw [hpv,if_pos rfl,hq],?_⟩;rw [hq];have h:=hnum 1 (by decide) (Nat.gcd_one_right _);rw [if_pos rfl] at h;refine bytes_ext (h.trans ?_);rw [if_neg (by decide:¬ false=true)] at el
  exact el.symm
 | true =>
  rw [if_pos rfl] at hq el;rw [if_neg (by decide)] at hpv;simp only [Bool.true_and,Bool.or_eq_false_iff,Bool.not_eq_false',beq_eq_false_iff_ne] at hBB;obtain ⟨⟨hrB,h48⟩,h49⟩:=hBB;have hbig:=decV_big hrB h48 h49;have lB:=decV_lt B.length B rfl (rowB_digs hrB);have pB:1≤B.length:=by
   cases B with
   | nil=>exact absurd rfl (rowB_ne hrB)
   | cons=>simp
  by_cases hg:Nat.gcd (decV A) (decV B)=1
  ·left
   rw [if_pos hg] at hpv;refine ⟨by rw [hpv,hq],?_⟩;rw [hq];have h:=hnum (decV B) (by omega) hg;rw [if_neg (show ¬ decV B=1 by omega),dec_decV _ B rfl hrB] at h
   exact bytes_ext (h.trans el.symm)
  ·right
   rw [if_neg hg] at hpv;refine ⟨hpv,fun hc => ?_⟩;rw [hq] at hc;have i1:(mkq (pNeg l) (decV A) (decV B)).num.natAbs≤decV A:=by rw [mkq_natAbs _ _ _ (by omega)];exact Nat.div_le_self _ _
   have i2:(mkq (pNeg l) (decV A) (decV B)).den≤decV B:=by rw [mkq_den _ _ _ (by omega)];exact Nat.div_le_self _ _
   have h:=parse_text (mkq (pNeg l) (decV A) (decV B)) (Nat.le_trans (dec_len_le pA i1 lA) h1) (Nat.le_trans (dec_len_le pB i2 lB) h2);rw [hc] at h;have h:parseV l=_:=h;rw [hpv] at h
   exact absurd (Prod.mk.inj h).2 (by decide)
end Go.Proofs.YtgabigepocfllaaGreatDoor
