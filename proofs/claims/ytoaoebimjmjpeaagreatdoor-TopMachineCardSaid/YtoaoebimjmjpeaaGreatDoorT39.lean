/- exact: Parse of whatever text (that is no longer than memory's words say); what Text prints is read as the same number. -/
import Derived.Test.YtoaoebimjmjpeaaGreatDoorT31
import Derived.Test.YtoaoebimjmjpeaaGreatDoorT33
namespace Go.Proofs.YtoaoebimjmjpeaaGreatDoor
open Go.RowKit Vn
set_option maxRecDepth 100000
set_option maxHeartbeats 8000000
theorem Parse_c (l:List UInt8) (w:World) (hw:WM w) (hl:l.length≤9223372036854775807) :
  Calls Tryz.prog 86 #[.string (ba l)] w fun e w'=>ParsePost (parseV l) w e w':=by
 have hs:(Lib.trimPrefix l [45]).length≤l.length:=by
  unfold Lib.trimPrefix
  split
  ·rw [List.length_drop];omega
  ·exact Nat.le_refl _
 have h1:(pCut l).1.length≤(Lib.trimPrefix l [45]).length:=by
  unfold pCut Lib.cut
  split
  ·exact List.length_take_le' _ _
  ·exact Nat.le_refl _
 have h2:(pCut l).2.1.length≤(Lib.trimPrefix l [45]).length:=by
  unfold pCut Lib.cut
  split
  ·show (List.drop _ _).length≤_
   rw [List.length_drop];omega
  ·exact Nat.zero_le _
 refine Parse_x l (Lib.trimPrefix l [45]) (pCut l).1 (pCut l).2.1 (pNeg l) (pCut l).2.2 (parseBad (pNeg l) (pCut l).2.2 (pCut l).1 (pCut l).2.1) (parseV l) w hw (by omega) (by omega) (hid fun w => ?_) (hid fun w _ => ?_) rfl rfl
 ·exact (Tryz.sCutPrefix (ba l) ⟨#[45]⟩ w).mono fun e w' ⟨h1,h2⟩=>⟨h1,h2 ▸ Below.refl _ _⟩
 ·exact sCut1_c (ba (Lib.trimPrefix l [45])) w (by rw [ba_size];omega)
abbrev sA (S:ByteArray):AV:=.c (.v (.string S))
theorem cParse {l:List UInt8} (hl:l.length≤9223372036854775807):Cal Tryz.prog OQ 86 [sA (ba l)] (.t [nA (parseV l).1,iA (parseV l).2]) :=
 cal_of (by kernel_rfl) rfl fun S w vs hi hv=>by
  match vs,hv with
  | [x],hv =>
   have e:=sc_of hv.1;subst e
   exact (Parse_c l w hi.1 hl).mono fun _ _ ⟨v,h1,h2,h3⟩=>⟨_,h1,h3,fun S'=>⟨[_,_],rfl,numA_of h2,⟨rfl,rfl⟩,trivial⟩⟩
theorem cCheckX {l:List UInt8} (hl:l.length≤9223372036854775807):Cal Tryz.prog OQ 89 [sA (ba l)] (iA (parseV l).2):=by
 refine fn_call TK MX Tryz.func89 rfl (by kernel_rfl) (by kernel_rfl) (by kernel_rfl) rfl rfl ?_
 conv=>whnf
 refine ⟨_,cParse hl,?_⟩
 conv=>whnf
 rfl
def digE (q:Rat):Int:=if (((decT q.den).size:Nat):Int)>(((decT q.num.natAbs).size:Nat):Int) then (((decT q.den).size:Nat):Int) else (((decT q.num.natAbs).size:Nat):Int)
theorem cNatText {n K:Nat} (sx:Sm K n) (hK:K≤10000000):Cal Tryz.prog OQ 75 [pN n] (sA (decT n)) :=
 cal_of (by kernel_rfl) rfl fun _ w vs hi hv=>match vs,hv with
  | [x],hv=>(textN_c x n K w hv.1 sx hK hi.2).mono fun _ _ ⟨h1,h2⟩=>⟨_,h1,h2,fun _=>⟨rfl,rfl⟩⟩
theorem cDigits {q:Rat} {K:Nat} (sx:SmQ K q) (hK:K≤1000000):Cal Tryz.prog OQ 269 [nA q] (iA (digE q)):=by
 refine fn_callB [(1,[(1,1),(2,2000000),(4,1),(5,2000000),(6,2000000)])] TK MX Tryz.func269 rfl (by kernel_rfl) (by kernel_rfl) (by kernel_rfl) rfl rfl ?_
 conv=>whnf
 refine ⟨_,cNatText sx.1 (by omega),?_⟩
 conv=>whnf
 refine ⟨_,cBottomN,?_⟩
 conv=>whnf
 refine ⟨_,cNatText sx.2 (by omega),?_⟩
 conv=>whnf
 rfl

def parsB (l:List UInt8) (q:Rat):Bool:=decide (l.length≤2100)&&decide (parseV l=(q,0))
theorem parsT (l:List UInt8) (q:Rat) (h:parsB l q=true):Cal Tryz.prog OQ 86 [sA (ba l)] (.t [nA q,iA 0]):=by
 simp only [parsB,Bool.and_eq_true,decide_eq_true_eq] at h
 have:=cParse (l:=l) (by omega)
 rw [h.2] at this
 exact this
def digB (K:Nat) (q:Rat) (d:Int):Bool:=decide (K≤1000000)&&(smqB K q&&decide (digE q=d))
theorem digT (q:Rat) (d:Int) (K:Nat) (h:digB K q d=true):Cal Tryz.prog OQ 269 [nA q] (iA d):=by
 simp only [digB,Bool.and_eq_true,decide_eq_true_eq] at h
 have:=cDigits (smqB_ok h.2.1) h.1
 rw [h.2.2] at this
 exact this
def txtB (K:Nat) (q:Rat) (l:List UInt8):Bool:=decide (K≤1000000)&&(smqB K q&&decide ((numText q).data.toList=l))
theorem txtT (q:Rat) (l:List UInt8) (K:Nat) (h:txtB K q l=true):Cal Tryz.prog OQ 21 [nA q] (sA (ba l)):=by
 simp only [txtB,Bool.and_eq_true,decide_eq_true_eq] at h
 have:=cText (smqB_ok h.2.1) h.1
 have e:numText q=ba l:=by rw [←h.2.2];rfl
 rw [e] at this
 exact this

theorem shiftT (q:Rat) (k:Int) (r:Rat) (K:Nat) (h:(decide (K≤20000000 ∧ -20000≤k∧k≤20000)&&(smqB K q&&decide (q*(2:Rat)^k=r)))=true):Cal Tryz.prog OQ 79 [nA q,iA k] (.t [nA r,iA 0]):=by
 simp only [Bool.and_eq_true,decide_eq_true_eq] at h;rw [←h.2.2];exact cShift (smqB_ok h.2.1) h.1.2.1 h.1.2.2 h.1.1
theorem floorT (q r:Rat) (K:Nat) (h:(decide (K≤20000000)&&(smqB K q&&decide (((q.floor:Int):Rat)=r)))=true):Cal Tryz.prog OQ 80 [nA q] (nA r):=by
 simp only [Bool.and_eq_true,decide_eq_true_eq] at h;rw [←h.2.2];exact cFloor (smqB_ok h.2.1) h.1
theorem numAddT (q s r:Rat) (K:Nat) (h:(decide (K≤20000000)&&(smqB K q&&(smqB K s&&decide (q+s=r))))=true):Cal Tryz.prog OQ 47 [nA q,nA s] (nA r):=by
 simp only [Bool.and_eq_true,decide_eq_true_eq] at h;rw [←h.2.2.2];exact cAdd (smqB_ok h.2.1) (smqB_ok h.2.2.1) h.1
theorem numSubT (q s r:Rat) (K:Nat) (h:(decide (K≤20000000)&&(smqB K q&&(smqB K s&&decide (q-s=r))))=true):Cal Tryz.prog OQ 77 [nA q,nA s] (nA r):=by
 simp only [Bool.and_eq_true,decide_eq_true_eq] at h;rw [←h.2.2.2];exact cSub (smqB_ok h.2.1) (smqB_ok h.2.2.1) h.1
theorem numCmpT (q s:Rat) (c:Int) (K:Nat) (h:(decide (K≤20000000)&&(smqB K q&&(smqB K s&&decide (cmpQ q s=c))))=true):Cal Tryz.prog OQ 13 [nA q,nA s] (iA c):=by
 simp only [Bool.and_eq_true,decide_eq_true_eq] at h;rw [←h.2.2.2];exact cCmp (smqB_ok h.2.1) (smqB_ok h.2.2.1) h.1
theorem intT (n:Int) (r:Rat) (h:(decide (-9223372036854775808≤n∧n<9223372036854775808)&&decide ((n:Rat)=r))=true):Cal Tryz.prog OQ 49 [iA n] (nA r):=by
 simp only [Bool.and_eq_true,decide_eq_true_eq] at h;rw [←h.2];exact cInt h.1.1 h.1.2
theorem absT (q r:Rat) (h:absQ q=r):Cal Tryz.prog OQ 78 [nA q] (nA r):=by rw [←h];exact cAbs
end Go.Proofs.YtoaoebimjmjpeaaGreatDoor
