/- exact: the text of a small number. -/
import Derived.Test.YtopmjkkjlagfcaaGreatDoorO46
namespace Go.Proofs.YtopmjkkjlagfcaaGreatDoor
open Go.RowKit Vn
set_option maxRecDepth 100000
set_option maxHeartbeats 8000000
theorem decT1 {n:Nat} (h:n<10):decT n=⟨#[UInt8.ofNat (48+n)]⟩:=by
 unfold decT;rw [Lib.decDigits_one h]
theorem cat3 (a b c:UInt8):ByteArray.mk #[a]++(ByteArray.mk #[b]++ByteArray.mk #[c])=⟨#[a,b,c]⟩:=by
 apply ByteArray.ext;simp [ByteArray.data_append]
theorem numText_whole {n:Nat} (h:n<10):numText ((n:Nat):Rat)=⟨#[UInt8.ofNat (48+n)]⟩:=by
 have e1:((n:Nat):Rat).num=n:=rfl;have e2:((n:Nat):Rat).den=1:=rfl;unfold numText;rw [e1,e2,if_neg (by omega),if_pos rfl,ba_empty,Int.natAbs_natCast,decT1 h]
theorem numText_quo {q:Rat} {n d:Nat} (hq1:q.num=n) (hq2:q.den=d) (hn:n<10) (hd0:1<d) (hd:d<10):numText q=⟨#[UInt8.ofNat (48+n),47,UInt8.ofNat (48+d)]⟩:=by
 unfold numText;rw [hq1,hq2,if_neg (by omega),if_neg (by omega),Int.natAbs_natCast,decT1 hn,decT1 hd,cat3]
theorem Text_whole (v:Value) (q:Rat) (n:Nat) (w:World) (hv:NumV w v q) (hq:q=n) (hn:n<10) (hT:Tabs w) :
  Calls Tryz.prog 67 #[v] w fun e w'=>e=.returned (.string ⟨#[UInt8.ofNat (48+n)]⟩)∧Ext w w':=by
 subst hq
 have:=Text_c v _ 10 w hv (SmQ.nat (by decide) (by omega)) (by decide) hT
 rwa [numText_whole hn] at this
theorem Text_quo (v:Value) (q:Rat) (n d:Nat) (w:World) (hv:NumV w v q) (hq1:q.num=n) (hq2:q.den=d) (hn:n<10) (hd0:1<d) (hd:d<10) (hT:Tabs w) :
  Calls Tryz.prog 67 #[v] w fun e w'=>e=.returned (.string ⟨#[UInt8.ofNat (48+n),47,UInt8.ofNat (48+d)]⟩)∧Ext w w':=by
 have:=Text_c v q 10 w hv ⟨by unfold Sm;rw [hq1,Int.natAbs_natCast];omega,by unfold Sm;rw [hq2];omega⟩ (by decide) hT
 rwa [numText_quo hq1 hq2 hn hd0 hd] at this
theorem kd12:wkind 3 3 12=2:=by decide
theorem wn12:wn 3 3 12=false:=by decide
theorem wv12:wvalK 3 3 3 12=1:=by decide +kernel
theorem dec12:decodeR 3 3 12=.tuple #[.agg #[.int .i64 2,.bool false,.string ⟨#[49]⟩],.int .i64 0]:=by
 unfold decodeR;rw [if_pos (by decide),kd12,wn12,show bias 3=3 from rfl,wv12,show (1:Rat)=((1:Nat):Rat) from rfl,numText_whole (by decide)]
 rfl
theorem Decode_one (w:World) (hT:Tabs w) :
  Calls Tryz.prog 37 #[.agg #[.int .i64 3,.int .i64 3],.agg #[.int .u64 0,.int .u64 12]] w fun e w'=>e=.returned (.tuple #[.agg #[.int .i64 2,.bool false,.string ⟨#[49]⟩],.int .i64 0])∧Ext w w':=by
 have:=Decode_good 3 3 12 w (by unfold Fmt;decide) (by decide) hT
 rw [dec12] at this
 exact this
end Go.Proofs.YtopmjkkjlagfcaaGreatDoor
