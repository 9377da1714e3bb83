/- exact: row of the text of one. -/
import Derived.Test.YtoaoebimjmjpeaaGreatDoorT05
import Derived.Test.YtoaoebimjmjpeaaGreatDoorT12
namespace Go.Proofs.YtoaoebimjmjpeaaGreatDoor
open Go.RowKit Vn
set_option maxRecDepth 100000
set_option maxHeartbeats 8000000

end Go.Proofs.YtoaoebimjmjpeaaGreatDoor
namespace Go.Proofs.YtoaoebimjmjpeaaGreatDoor
open Go.Shelf Go.RowKit Vn
set_option maxRecDepth 100000
set_option maxHeartbeats 8000000
theorem index1_c (s:ByteArray) (w:World) :
  Calls Tryz.prog 295 #[.string s,.string ⟨#[47]⟩] w fun e w'=>e=.returned (.int .i64 (Lib.index s.data.toList [47]))∧w'=w:=by
 have C:Hid (∀ w,Calls Tryz.prog 297 #[.string s,.int .u8 47] w fun e w'=>e=.returned (.int .i64 (Lib.indexByte s.data.toList 47))∧w'=w):=hid fun w =>
  Any.stringslite_IndexByte (P:=Tryz.prog) { Tryz.lays145 with } s 47 w
 have h1:Hid (Lib.index s.data.toList [47]=Lib.indexByte s.data.toList 47):=hid (Lib.one s ⟨#[47]⟩ rfl);rw [h1.o];clear h1
 go_enter Tryz.func295,Tryz.ntmps295
 go_wp2_with (go_at_call 297;refine (C.o _).mono ?_;rintro e w1 ⟨rfl,rfl⟩)
 ·have h:([47]==s.toList)=true:=by assumption
  have e:s.data.toList=[47]:=by rw [←ByteArray.toList_eq];exact (beq_iff_eq.1 h).symm
  go_ret;rw [e]
  exact ⟨rfl,rfl⟩
 ·go_ret
  exact ⟨rfl,rfl⟩
def cutE (s:ByteArray):Value:=.tuple #[.string ⟨(Lib.cut s.data.toList [47]).1.toArray⟩,.string ⟨(Lib.cut s.data.toList [47]).2.1.toArray⟩,.bool (Lib.cut s.data.toList [47]).2.2]
theorem slCut1_c (s:ByteArray) (w:World) (hs:s.size≤9223372036854775807) :
  Calls Tryz.prog 262 #[.string s,.string ⟨#[47]⟩] w fun e w'=>e=.returned (cutE s)∧Ext w w':=by
 have C:Hid (∀ w,Calls Tryz.prog 295 #[.string s,.string ⟨#[47]⟩] w fun e w'=>e=.returned (.int .i64 (Lib.index s.data.toList [47]))∧w'=w):=hid fun w=>index1_c s w
 rcases Lib.indexB_cases s ⟨#[47]⟩ with hix | ⟨i,hix,hroom⟩
 ·obtain ⟨e1,e2,e3⟩:=Lib.cutB_miss s ⟨#[47]⟩ hix;have he:Hid (cutE s=.tuple #[.string s,.string ⟨#[]⟩,.bool false]):=hid (by
   have e1:(⟨(Lib.cut s.data.toList [47]).1.toArray⟩:ByteArray)=s:=e1;have e2:(⟨(Lib.cut s.data.toList [47]).2.1.toArray⟩:ByteArray)=ByteArray.empty:=e2;have e3:(Lib.cut s.data.toList [47]).2.2=false:=e3;unfold cutE;rw [e1,e2,e3];rfl)
  have hix:Lib.index s.data.toList [47] = -1:=hix;rw [hix] at C;rw [he.o];clear he e1 e2 e3 hix
  go_enter Tryz.func262,Tryz.ntmps262
  go_wp2_with (go_at_call 295;refine (C.o _).mono ?_;rintro e w1 ⟨rfl,rfl⟩)
  go_ret3
  exact ⟨rfl,Below.refl _ _⟩
 ·obtain ⟨e1,e2,e3⟩:=Lib.cutB_hit s ⟨#[47]⟩ i hix;have he:Hid (cutE s=.tuple #[.string (s.extract 0 i),.string (s.extract (i+1) s.size),.bool true]):=hid (by
   have e1:(⟨(Lib.cut s.data.toList [47]).1.toArray⟩:ByteArray)=s.extract 0 i:=e1;have e2:(⟨(Lib.cut s.data.toList [47]).2.1.toArray⟩:ByteArray)=s.extract (i+1) s.size:=e2;have e3:(Lib.cut s.data.toList [47]).2.2=true:=e3;unfold cutE;rw [e1,e2,e3])
  have hroom:i+1≤s.size:=hroom;have hix:Lib.index s.data.toList [47]=i:=hix;rw [hix] at C;rw [he.o];clear he e1 e2 e3 hix;have mixed:Tryz.prog.follows .mixedOrders=true:=Tryz.lays145.mixed;have hw1:IntKind.i64.wrap ((i:Int)+1)=(i:Int)+1:=IntWalk.i64_in _ (by omega);have c1:(0:Int)≤↑i:=by omega
  have c2:(↑i:Int)≤↑s.size:=by omega
  have c3:(0:Int)≤↑i+1:=by omega
  have c4:(↑i+1:Int)≤↑s.size:=by omega
  go_enter Tryz.func262,Tryz.ntmps262
  go_wp2_with (go_at_call 295;refine (C.o _).mono ?_;rintro e w1 ⟨rfl,rfl⟩)
  go_region_o
  go_wp2
  go_ret3
  exact ⟨rfl,(Below.refl _ _).drew⟩
theorem sCut1_c (s:ByteArray) (w:World) (hs:s.size≤9223372036854775807) :
  Calls Tryz.prog 175 #[.string s,.string ⟨#[47]⟩] w fun e w'=>e=.returned (cutE s)∧Ext w w':=by
 have C:Hid (∀ w,Calls Tryz.prog 262 #[.string s,.string ⟨#[47]⟩] w fun e w'=>e=.returned (.tuple #[.string ⟨(Lib.cut s.data.toList [47]).1.toArray⟩,.string ⟨(Lib.cut s.data.toList [47]).2.1.toArray⟩,.bool (Lib.cut s.data.toList [47]).2.2])∧Ext w w'):=hid fun w=>slCut1_c s w hs
 go_enter Tryz.func175,Tryz.ntmps175
 go_wp2_with (go_at_call 262;refine (C.o _).mono ?_;rintro e w1 ⟨rfl,h1⟩)
 go_ret3
 exact ⟨rfl,h1⟩
end Go.Proofs.YtoaoebimjmjpeaaGreatDoor
namespace Go.Proofs.YtoaoebimjmjpeaaGreatDoor
open Go.RowKit Vn
set_option maxRecDepth 100000
set_option maxHeartbeats 8000000
def isDig (b:UInt8):Bool:=decide (48≤b∧b≤57)
def rowB (l:List UInt8):Bool := !(l==[])&&l.all isDig&&(l==[48] || !(l.head?==some 48))
def digitSet:List UInt8:=[48,49,50,51,52,53,54,55,56,57]
theorem digitSet_mem (b:UInt8):digitSet.contains b=isDig b:=by
 have h:∀ n:Fin 256,digitSet.contains (UInt8.ofNat n.val)=isDig (UInt8.ofNat n.val):=by decide +kernel
 have:=h ⟨b.toNat,b.toNat_lt⟩
 rwa [UInt8.ofNat_toNat] at this
theorem dropWhile_nil {α:Type} (p:α→Bool):∀ l:List α,l.dropWhile p=[]↔l.all p=true
 | []=>by simp
 | x :: l=>by
  rw [List.dropWhile_cons]
  cases h:p x
  ·simp [h]
  ·simp [h,dropWhile_nil p l]
theorem trim_nil (l:List UInt8):Lib.trimS l digitSet=[]↔l.all isDig=true:=by
 have e:(fun b=>digitSet.contains b)=isDig:=funext digitSet_mem;unfold Lib.trimS Lib.trimLeftS Lib.trimRightS;rw [e,dropWhile_nil,List.all_reverse]
 constructor
 ·intro h
  have h1:=List.takeWhile_append_dropWhile (p:=isDig) (l:=l.reverse);have h2:(l.reverse.takeWhile isDig).all isDig=true:=by
   rw [List.all_takeWhile]
  have h3:l.reverse.all isDig=true:=by rw [←h1,List.all_append,h2,h];rfl
  rwa [List.all_reverse] at h3
 ·intro h
  have:l.reverse.dropWhile isDig=[]:=by rw [dropWhile_nil,List.all_reverse];exact h
  rw [this];rfl
theorem row_c (S:ByteArray) (w:World) (hs:S.size≤9223372036854775807) :
  Calls Tryz.prog 176 #[.string S] w fun e w'=>e=.returned (.bool (rowB S.data.toList))∧Ext w w':=by
 have C:Hid (∀ w,Calls Tryz.prog 263 #[.string S,.string ⟨#[48,49,50,51,52,53,54,55,56,57]⟩] w fun e w'=>e=.returned (.string ⟨(Lib.trimS S.data.toList digitSet).toArray⟩)∧Ext w w'):=hid fun w =>
  Tryz.sTrim S ⟨#[48,49,50,51,52,53,54,55,56,57]⟩ w hs (by decide) (ascii_of_all (by decide))
 have hL:S.toList=S.data.toList:=ByteArray.toList_eq S
 by_cases h0:S.data.toList=[]
 ·have e0:(S.toList==[])=true:=by rw [hL,h0];rfl
  have hr:rowB S.data.toList=false:=by rw [h0];rfl
  rw [hr];clear hL h0
  go_enter Tryz.func176,Tryz.ntmps176
  go_wp2_with fail;refine bodyPost_ret (v:=.bool false) (by simp [results,Tryz.results176,go_sem]) rfl ⟨rfl,Below.refl _ _⟩
 ·have e0:(S.toList==[])=false:=by rw [hL];exact beq_eq_false_iff_ne.2 h0
  obtain ⟨T,hT⟩:∃ T:ByteArray,T=⟨(Lib.trimS S.data.toList digitSet).toArray⟩:=⟨_,rfl⟩;have hTL:T.toList=Lib.trimS S.data.toList digitSet:=by rw [ByteArray.toList_eq,hT]
  rw [←hT] at C
  by_cases h1:S.data.toList.all isDig=true
  ·have e1:(T.toList==[])=true:=by rw [hTL,(trim_nil _).2 h1];rfl
   by_cases h2:S.data.toList=[48]
   ·have e2:(S.toList==[48])=true:=by rw [hL,h2];rfl
    have hr:rowB S.data.toList=true:=by rw [h2];decide
    rw [hr];clear hL h0 h1 h2 hT hTL hr
    go_enter Tryz.func176,Tryz.ntmps176
    go_wp2_with (go_at_call 263;refine (C.o _).mono ?_;rintro e w1 ⟨rfl,hE⟩)
    refine bodyPost_ret (v:=.bool true) (by simp [results,Tryz.results176,go_sem]) rfl ⟨rfl,hE⟩
   ·have e2:(S.toList==[48])=false:=by rw [hL];exact beq_eq_false_iff_ne.2 h2
    obtain ⟨b,l,hbl⟩:=List.exists_cons_of_ne_nil h0;have hsz:0<S.size:=by
     show 0<S.data.toList.length;rw [hbl];exact Nat.succ_pos _
    have hb:S[0]'hsz=b:=by
     have h:0<S.data.toList.length:=by rw [hbl];exact Nat.succ_pos _
     have:S.data.toList[0]'h=b:=List.getElem_of_eq hbl h
     rw [←this];rfl
    have hr:rowB S.data.toList=((b.toNat:Int) != 48):=by
     unfold rowB;rw [h1,beq_eq_false_iff_ne.2 h0,beq_eq_false_iff_ne.2 h2,hbl];simp only [Bool.not_false,Bool.true_and,Bool.false_or,List.head?_cons];have e:(b=(48:UInt8))↔((b.toNat:Int)=48):=by
      constructor
      ·intro h;rw [h];rfl
      ·intro h;exact UInt8.toNat_inj.1 (by show b.toNat=48;omega)
     by_cases h3:(b.toNat:Int)=48
     ·rw [show (some b==some (48:UInt8))=true from by rw [e.2 h3];rfl,show ((b.toNat:Int) != 48)=false from by rw [h3];rfl];rfl
     ·rw [show (some b==some (48:UInt8))=false from beq_eq_false_iff_ne.2 (fun k=>h3 (e.1 (Option.some.inj k))),show ((b.toNat:Int) != 48)=true from bne_iff_ne.2 h3];rfl
    rw [hr];clear hL h0 h1 h2 hT hTL hr hbl
    go_enter Tryz.func176,Tryz.ntmps176
    go_wp2_with (go_at_call 263;refine (C.o _).mono ?_;rintro e w1 ⟨rfl,hE⟩)
    refine bodyPost_ret (v:=.bool ((b.toNat:Int) != 48)) (by simp [results,Tryz.results176,go_sem]) rfl ⟨rfl,hE⟩
  ·have e1:(T.toList==[])=false:=by rw [hTL];exact beq_eq_false_iff_ne.2 (fun h=>h1 ((trim_nil _).1 h))
   have hr:rowB S.data.toList=false:=by
    unfold rowB;rw [Bool.eq_false_iff.2 h1];simp
   rw [hr];clear hL h0 h1 hT hTL hr
   go_enter Tryz.func176,Tryz.ntmps176
   go_wp2_with (go_at_call 263;refine (C.o _).mono ?_;rintro e w1 ⟨rfl,hE⟩)
   refine bodyPost_ret (v:=.bool false) (by simp [results,Tryz.results176,go_sem]) rfl ⟨rfl,hE⟩
end Go.Proofs.YtoaoebimjmjpeaaGreatDoor
