/- FloatsConverts: the law's walk, by reckoning. -/
import Derived.Test.YtgabigepocfllaaGreatDoorQ42
namespace Go.Proofs.YtgabigepocfllaaGreatDoor
open Go.RowKit Vn
set_option maxRecDepth 100000
set_option maxHeartbeats 8000000
def opC3 (E P M:Int) (i:Nat) (b0 b1 c0 c1:Int):List AC:=[.v (.int .i64 E),.v (.int .i64 P),.v (.int .i64 M)]++wdC i++[.v (.int .u64 b0),.v (.int .u64 b1),.v (.int .u64 c0),.v (.int .u64 c1)]
theorem cSame {q:Rat} {K:Nat} (sx:SmQ K q) (hK:K≤1000000):Cal Tryz.prog OQ 35 [nA q,rA q] (bA true):=by
 refine fn_call TK MX Tryz.func35 rfl (by kernel_rfl) (by kernel_rfl) (by kernel_rfl) rfl rfl ?_
 conv=>whnf
 refine ⟨_,cText sx hK,?_⟩
 conv=>whnf
 refine ⟨_,cRText sx hK,?_⟩
 conv=>whnf
 rw [beq_self_eq_true]
 rfl
section
variable {E P E' P' M:Int} {n:Nat}
theorem decS (h8:W128 n):∃ (k:Int) (neg:Bool) (S:ByteArray) (e:Int),Cal Tryz.prog OQ 26 [fA E P,wA n] (.t [flA k neg S,iA e])∧Cal Tryz.prog OQ 27 [fA E P,wA n] (.t [flA k neg S,iA e]):=by
 by_cases hf:Fmt E P
 ·obtain ⟨e,p,m,rfl,rfl,_,_,hF⟩:=fmt_cases (M:=0) ⟨by omega,hf⟩
  by_cases hn:n<2^(e+p)
  ·exact ⟨_,_,_,_,cDecode hF hn,cRDecode hF hn⟩
  ·exact ⟨_,_,_,_,cDecodeForm hF h8 hn,cRDecodeForm hF h8 hn⟩
 ·exact ⟨_,_,_,_,cDecodeBad hf,cRDecodeBad hf⟩
theorem valS (h8:W128 n):∃ (q:Rat) (e:Int),SmQ 5000 q∧Cal Tryz.prog OQ 19 [fA E P,wA n] (.t [nA q,iA e])∧Cal Tryz.prog OQ 32 [fA E P,wA n] (.t [rA q,iA e]):=by
 by_cases hf:Fmt E P
 ·obtain ⟨e,p,m,rfl,rfl,_,_,hF⟩:=fmt_cases (M:=0) ⟨by omega,hf⟩
  by_cases hn:n<2^(e+p)
  ·have h1:=cValue hF hn;have h2:=cRValueG hF hn;unfold valR at h1
   by_cases hk:2<wkind e p n
   ·rw [if_neg (by omega)] at h1;rw [if_pos hk,if_pos hk] at h2
    exact ⟨_,_,SmQ.zero _ (by decide),h1,h2⟩
   ·rw [if_pos (by omega)] at h1;rw [if_neg hk,if_neg hk] at h2
    exact ⟨_,_,sm_word hF,h1,h2⟩
  ·exact ⟨_,_,SmQ.zero _ (by decide),cValueForm hF h8 hn,cRValueForm hF h8 hn⟩
 ·exact ⟨_,_,SmQ.zero _ (by decide),cValueBad hf,cRValueBad hf⟩
theorem txtS (h8:W128 n):∃ (S:ByteArray) (e:Int),Cal Tryz.prog OQ 33 [fA E P,wA n] (.t [sA S,iA e])∧Cal Tryz.prog OQ 34 [fA E P,wA n] (.t [sA S,iA e]):=by
 by_cases hf:Fmt E P
 ·obtain ⟨e,p,m,rfl,rfl,_,_,hF⟩:=fmt_cases (M:=0) ⟨by omega,hf⟩
  by_cases hn:n<2^(e+p)
  ·exact ⟨_,_,cTextF hF hn,cRTextF hF hn⟩
  ·exact ⟨_,_,cTextForm hF h8 hn,cRTextForm hF h8 hn⟩
 ·exact ⟨_,_,cTextBad hf,cRTextBad hf⟩
theorem insS:∃ b:Bool,Cal Tryz.prog OQ 30 [fA E P,fA E' P'] (bA b)∧Cal Tryz.prog OQ 31 [fA E P,fA E' P'] (bA b):=by
 by_cases h:Fmt E P∧Fmt E' P'
 ·obtain ⟨e,p,m,rfl,rfl,_,_,hF⟩:=fmt_cases (M:=0) ⟨by omega,h.1⟩;obtain ⟨e',p',m,rfl,rfl,_,_,hF'⟩:=fmt_cases (M:=0) ⟨by omega,h.2⟩
  exact ⟨_,cInsideF hF hF',cRInside hF hF'⟩
 ·exact ⟨_,cInsideBad h,cRInsideBad h⟩
theorem casS (h8:W128 n):∃ (r:Nat) (y z:Int),Cal Tryz.prog OQ 37 [fA E P,fA E' P',iA M,wA n] (.t [wA r,iA y,iA z])∧Cal Tryz.prog OQ 38 [fA E P,fA E' P',iA M,wA n] (.t [wA r,iA y,iA z]):=by
 by_cases h:((0≤M∧M≤4)∧Fmt E' P')∧Fmt E P
 ·obtain ⟨e,p,m,rfl,rfl,rfl,hm,hF'⟩:=fmt_cases h.1;obtain ⟨e',p',m',rfl,rfl,_,_,hF⟩:=fmt_cases (M:=0) ⟨by omega,h.2⟩
  by_cases hn:n<2^(e'+p')
  ·exact ⟨_,_,_,cCast hF hF' hm hn,cRCast hF hF' hm hn⟩
  ·exact ⟨_,_,_,cCastForm hF hF' hm h8 hn,cRCastForm hF hF' hm h8 hn⟩
 ·exact ⟨_,_,_,cCastBad h,cRCastBad h⟩
theorem rs_eq (a b c d:Int):(a==a&&(b==b&&(c==c&&(d==d&&true))))=true:=by simp
theorem bne_t (a:Int):(a != a)=false:=by simp
theorem bool_ne (b:Bool):(!(b==b))=false:=by cases b<;>rfl
theorem txt_ne (S:ByteArray):(!(S.toList==S.toList))=false:=by simp
theorem chk_ne {E P:Int}:((if Fmt E P then (0:Int) else 2) != fmtZ E P)=false:=by
 unfold fmtZ;split<;>rfl
theorem fl_ne (k:Int) (b:Bool) (S:ByteArray):(!(k==k&&(b==b&&(S.toList==S.toList&&true))))=false:=by simp
theorem cConverts {E P E' P' M:Int} {i:Nat} {b0 b1 c0 c1:Int} (h8:W128 i):Cal Tryz.prog OQ 6 [.g (opC3 E P M i b0 b1 c0 c1),fA E' P'] (bA true):=by
 obtain ⟨k,neg,S,e1,d1,d2⟩:=decS (E:=E) (P:=P) h8;obtain ⟨q,e2,sq,v1,v2⟩:=valS (E:=E) (P:=P) h8;obtain ⟨T,e3,t1,t2⟩:=txtS (E:=E) (P:=P) h8;obtain ⟨b,n1,n2⟩:=insS (E:=E) (P:=P) (E':=E') (P':=P');obtain ⟨r,y,z,c1',c2'⟩:=casS (E:=E) (P:=P) (E':=E') (P':=P') (M:=M) h8;refine fn_call TK MX Tryz.func6 rfl (by kernel_rfl) (by kernel_rfl) (by kernel_rfl) rfl rfl ?_
 conv=>whnf
 refine ⟨_,d1,?_⟩
 conv=>whnf
 refine ⟨_,d2,?_⟩
 conv=>whnf
 rw [fl_ne]
 conv=>whnf
 rw [bne_t]
 conv=>whnf
 refine ⟨_,cCheck E P,?_⟩
 conv=>whnf
 refine ⟨_,cRCheck,?_⟩
 conv=>whnf
 rw [chk_ne]
 conv=>whnf
 refine ⟨_,n1,?_⟩
 conv=>whnf
 refine ⟨_,n2,?_⟩
 conv=>whnf
 rw [bool_ne]
 conv=>whnf
 refine ⟨_,v1,?_⟩
 conv=>whnf
 refine ⟨_,v2,?_⟩
 conv=>whnf
 refine ⟨_,t1,?_⟩
 conv=>whnf
 refine ⟨_,t2,?_⟩
 conv=>whnf
 refine ⟨_,cSame sq (by decide),?_⟩
 conv=>whnf
 rw [bne_t]
 conv=>whnf
 rw [txt_ne]
 conv=>whnf
 rw [bne_t]
 conv=>whnf
 refine ⟨_,c1',?_⟩
 conv=>whnf
 refine ⟨_,cGot,?_⟩
 conv=>whnf
 refine ⟨_,c2',?_⟩
 conv=>whnf
 refine ⟨_,cGot,?_⟩
 conv=>whnf
 rw [rs_eq]
 conv=>whnf
 refine ⟨_,cAwakeE,?_⟩
 conv=>whnf
 rfl
end
end Go.Proofs.YtgabigepocfllaaGreatDoor
