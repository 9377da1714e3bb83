/- FloatsRounds: the law's walk, by reckoning. -/
import Derived.Test.YtgabigepocfllaaGreatDoorQ52
namespace Go.Proofs.YtgabigepocfllaaGreatDoor
open Go.RowKit Vn
set_option maxRecDepth 100000
set_option maxHeartbeats 8000000
theorem rs_ne (a b c d:Int):(!(a==a&&(b==b&&(c==c&&(d==d&&true)))))=false:=by simp
theorem cRounds {E P M:Int} {S T:List UInt8} (hS:S.length≤9223372036854775807) (_hT:T.length≤9223372036854775807):Cal Tryz.prog OQ 7 [.g ([.int .i64 E,.int .i64 P,.int .i64 M,.string (ba S),.string (ba T)].map AC.v)] (bA true):=by
 have hr:=cRead hS;have sx:=parse_sm S;generalize (parseV S).1=q at *
 generalize okP S=ok at *
 obtain ⟨w,fl,e,r1,r2,hN⟩:=rndS (E:=E) (P:=P) (M:=M) sx (by decide);obtain ⟨w',fl',e',r1',r2',hN'⟩:=rootS (E:=E) (P:=P) (M:=M) sx (by decide);refine fn_call TK MX Tryz.func7 rfl (by kernel_rfl) (by kernel_rfl) (by kernel_rfl) rfl rfl ?_
 conv=>whnf
 refine ⟨_,hr,?_⟩
 conv=>whnf
 cases ok
 ·conv=>whnf
  refine ⟨_,cAwakeE,?_⟩
  conv=>whnf
  rfl
 ·conv=>whnf
  refine ⟨_,r1,?_⟩
  conv=>whnf
  refine ⟨_,cGot,?_⟩
  conv=>whnf
  refine ⟨_,r2,?_⟩
  conv=>whnf
  refine ⟨_,cGot,?_⟩
  conv=>whnf
  rw [rs_ne]
  conv=>whnf
  refine ⟨_,r1',?_⟩
  conv=>whnf
  refine ⟨_,cGot,?_⟩
  conv=>whnf
  refine ⟨_,r2',?_⟩
  conv=>whnf
  refine ⟨_,cGot,?_⟩
  conv=>whnf
  rw [rs_ne]
  conv=>whnf
  refine ⟨_,r2,?_⟩
  conv=>whnf
  rcases hN with ⟨rfl,v,b,sv,hb,n1,n2⟩ | ⟨he,n1⟩
  ·refine ⟨_,n1,?_⟩
   conv=>whnf
   refine ⟨_,n2,?_⟩
   conv=>whnf
   cases b
   ·obtain rfl:=hb rfl
    conv=>whnf
    refine ⟨_,cSame (q:=0) (SmQ.zero 10 (by decide)) (by decide),?_⟩
    conv=>whnf
    refine ⟨_,cSign,?_⟩
    conv=>whnf
    refine ⟨_,r2',?_⟩
    conv=>whnf
    rcases hN' with ⟨rfl,v',b',sv',hb',n1',n2'⟩ | ⟨he',n1'⟩
    ·refine ⟨_,n1',?_⟩
     conv=>whnf
     refine ⟨_,n2',?_⟩
     conv=>whnf
     cases b'
     ·obtain rfl:=hb' rfl
      conv=>whnf
      refine ⟨_,cSame (q:=0) (SmQ.zero 10 (by decide)) (by decide),?_⟩
      conv=>whnf
      refine ⟨_,cSign,?_⟩
      conv=>whnf
      refine ⟨_,cAwakeE,?_⟩
      conv=>whnf
      rfl
     ·conv=>whnf
      refine ⟨_,cSame sv' (by decide),?_⟩
      conv=>whnf
      refine ⟨_,cAwakeE,?_⟩
      conv=>whnf
      rfl
    ·refine ⟨_,n1',?_⟩
     conv=>whnf
     rw [show (e'==0)=false from beq_eq_false_iff_ne.2 he']
     conv=>whnf
     rw [beq_t]
     conv=>whnf
     rw [show (e'==0)=false from beq_eq_false_iff_ne.2 he']
     conv=>whnf
     refine ⟨_,cSign,?_⟩
     conv=>whnf
     refine ⟨_,cAwakeE,?_⟩
     conv=>whnf
     rfl
   ·conv=>whnf
    refine ⟨_,cSame sv (by decide),?_⟩
    conv=>whnf
    refine ⟨_,r2',?_⟩
    conv=>whnf
    rcases hN' with ⟨rfl,v',b',sv',hb',n1',n2'⟩ | ⟨he',n1'⟩
    ·refine ⟨_,n1',?_⟩
     conv=>whnf
     refine ⟨_,n2',?_⟩
     conv=>whnf
     cases b'
     ·obtain rfl:=hb' rfl
      conv=>whnf
      refine ⟨_,cSame (q:=0) (SmQ.zero 10 (by decide)) (by decide),?_⟩
      conv=>whnf
      refine ⟨_,cSign,?_⟩
      conv=>whnf
      refine ⟨_,cAwakeE,?_⟩
      conv=>whnf
      rfl
     ·conv=>whnf
      refine ⟨_,cSame sv' (by decide),?_⟩
      conv=>whnf
      refine ⟨_,cAwakeE,?_⟩
      conv=>whnf
      rfl
    ·refine ⟨_,n1',?_⟩
     conv=>whnf
     rw [show (e'==0)=false from beq_eq_false_iff_ne.2 he']
     conv=>whnf
     rw [beq_t]
     conv=>whnf
     rw [show (e'==0)=false from beq_eq_false_iff_ne.2 he']
     conv=>whnf
     refine ⟨_,cSign,?_⟩
     conv=>whnf
     refine ⟨_,cAwakeE,?_⟩
     conv=>whnf
     rfl
  ·refine ⟨_,n1,?_⟩
   conv=>whnf
   rw [show (e==0)=false from beq_eq_false_iff_ne.2 he]
   conv=>whnf
   rw [bne_t]
   conv=>whnf
   rw [show (e != 0)=true from bne_iff_ne.2 he]
   conv=>whnf
   refine ⟨_,cSign,?_⟩
   conv=>whnf
   refine ⟨_,r2',?_⟩
   conv=>whnf
   rcases hN' with ⟨rfl,v',b',sv',hb',n1',n2'⟩ | ⟨he',n1'⟩
   ·refine ⟨_,n1',?_⟩
    conv=>whnf
    refine ⟨_,n2',?_⟩
    conv=>whnf
    cases b'
    ·obtain rfl:=hb' rfl
     conv=>whnf
     refine ⟨_,cSame (q:=0) (SmQ.zero 10 (by decide)) (by decide),?_⟩
     conv=>whnf
     refine ⟨_,cSign,?_⟩
     conv=>whnf
     refine ⟨_,cAwakeE,?_⟩
     conv=>whnf
     rfl
    ·conv=>whnf
     refine ⟨_,cSame sv' (by decide),?_⟩
     conv=>whnf
     refine ⟨_,cAwakeE,?_⟩
     conv=>whnf
     rfl
   ·refine ⟨_,n1',?_⟩
    conv=>whnf
    rw [show (e'==0)=false from beq_eq_false_iff_ne.2 he']
    conv=>whnf
    rw [beq_t]
    conv=>whnf
    rw [show (e'==0)=false from beq_eq_false_iff_ne.2 he']
    conv=>whnf
    refine ⟨_,cSign,?_⟩
    conv=>whnf
    refine ⟨_,cAwakeE,?_⟩
    conv=>whnf
    rfl
end Go.Proofs.YtgabigepocfllaaGreatDoor
