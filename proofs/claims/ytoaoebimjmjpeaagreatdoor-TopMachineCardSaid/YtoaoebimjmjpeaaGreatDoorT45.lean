/- floats: the walked functions, in the words of reckoning. -/
import Derived.Test.YtoaoebimjmjpeaaGreatDoorT31
import Derived.Test.YtoaoebimjmjpeaaGreatDoorT44
namespace Go.Proofs.YtoaoebimjmjpeaaGreatDoor
open Go.RowKit Vn
set_option maxRecDepth 100000
set_option maxHeartbeats 8000000
section
variable {E P m b n:Nat} {neg:Bool} {q:Rat} {K:Nat}
theorem cShiftF {k:Int} (sx:SmQ K q) (h0 : -20000≤k) (h1:k≤20000) (hK:K≤20000000):Cal Tryz.prog OQ 124 [nA q,iA k] (nA (q*(2:Rat)^k)) :=
 calA [.n q,.s (.int .i64 k)] (r:=.n _) (by kernel_rfl) rfl fun w vs _ h=>by
  obtain ⟨x,y,rfl,hx,rfl⟩:=two_args h;exact (shift_c x q K k w hx sx h0 h1 hK).mono fun _ _ ⟨v,h1,h2,h3⟩=>⟨v,h1,h2,h3⟩
theorem cLogF {l:Int} (sx:SmQ K q) (hK:K≤10000000) (h:q.num≠0) (hl:IsLog (absQ q) l):Cal Tryz.prog OQ 181 [nA q] (iA l) :=
 calA [.n q] (r:=.s (.int .i64 l)) (by kernel_rfl) rfl fun w vs _ hv=>by
  obtain ⟨x,rfl,hx⟩:=one_arg hv;exact (flogA_c x q K w hx sx hK h).mono fun _ _ ⟨k,h1,h2,h3⟩=>⟨_,h1,(by rw [hl.unique h2];rfl),h3⟩
theorem cLeastF {E P m b:Int} (HP:0≤P∧P≤200) (HB:0≤b∧b≤100000):Cal Tryz.prog OQ 108 [mA E P m b] (iA (2-b-P)) :=
 calA [.mc E P m b] (r:=.s (.int .i64 (2-b-P))) (by kernel_rfl) rfl fun w vs _ hv=>by
  obtain ⟨x,rfl,rfl⟩:=one_arg hv;exact (least_c E P m b w HP HB).mono fun _ _ ⟨h1,h2⟩=>⟨_,h1,rfl,h2⟩
theorem cNormalF {E P m b:Int} (HB:0≤b∧b≤100000):Cal Tryz.prog OQ 198 [mA E P m b] (iA (1-b)) :=
 calA [.mc E P m b] (r:=.s (.int .i64 (1-b))) (by kernel_rfl) rfl fun w vs _ hv=>by
  obtain ⟨x,rfl,rfl⟩:=one_arg hv;exact (normal_c E P m b w HB).mono fun _ _ ⟨h1,h2⟩=>⟨_,h1,rfl,h2⟩
theorem cCheck (E P:Int):Cal Tryz.prog OQ 62 [fA E P] (iA (if Fmt E P then 0 else 2)) :=
 calA [.m [.int .i64 E,.int .i64 P]] (r:=.s (.int .i64 (if Fmt E P then 0 else 2))) (by kernel_rfl) rfl fun w vs _ hv=>by
  obtain ⟨x,rfl,rfl⟩:=one_arg hv;exact (check_c E P w _ (hid rfl)).mono fun _ _ ⟨h1,h2⟩=>⟨_,h1,rfl,h2⟩
theorem cInf (hF:Fmt E P):Cal Tryz.prog OQ 214 [mA E P m b,bA neg] (wA (infw E P neg)) :=
 calA [.mc E P m b,.s (.bool neg)] (r:=.w _) (by kernel_rfl) rfl fun w vs _ hv=>by
  obtain ⟨x,y,rfl,rfl,rfl⟩:=two_args hv;exact (infinite_c E P m b neg w hF).mono fun _ _ ⟨h1,h2⟩=>⟨_,h1,rfl,h2⟩
theorem cNanF (hF:Fmt E P):Cal Tryz.prog OQ 216 [mA E P m b] (wA (nanw E P)) :=
 calA [.mc E P m b] (r:=.w _) (by kernel_rfl) rfl fun w vs _ hv=>by
  obtain ⟨x,rfl,rfl⟩:=one_arg hv;exact (nan_c E P m b w hF).mono fun _ _ ⟨h1,h2⟩=>⟨_,h1,rfl,h2⟩
theorem cZero (hF:Fmt E P):Cal Tryz.prog OQ 196 [mA E P m b,bA neg] (wA (sgb E P neg)) :=
 calA [.mc E P m b,.s (.bool neg)] (r:=.w _) (by kernel_rfl) rfl fun w vs _ hv=>by
  obtain ⟨x,y,rfl,rfl,rfl⟩:=two_args hv;exact (zero_c E P m b neg w hF).mono fun _ _ ⟨h1,h2⟩=>⟨_,h1,rfl,h2⟩
theorem cInvalid (hF:Fmt E P):Cal Tryz.prog OQ 132 [mA E P m b] (.t [wA (nanw E P),iA 1]) :=
 calA2 [.mc E P m b] (r:=.w _) (s:=.s (.int .i64 1)) (by kernel_rfl) rfl rfl fun w vs _ hv=>by
  obtain ⟨x,rfl,rfl⟩:=one_arg hv;exact (invalid_c E P m b w hF).mono fun _ _ ⟨h1,h2⟩=>⟨_,_,h1,rfl,rfl,h2⟩
theorem cShr {k:Nat} (hn:W128 n) (hk:k≤128):Cal Tryz.prog OQ 118 [wA n,iA (k:Nat)] (wA (n/2^k)) :=
 calA [.w n,.s (.int .i64 (k:Nat))] (r:=.w _) (by kernel_rfl) rfl fun w vs _ hv=>by
  obtain ⟨x,y,rfl,rfl,rfl⟩:=two_args hv;exact (shr_w n k w hn hk).mono fun _ _ ⟨h1,h2⟩=>⟨_,h1,rfl,h2⟩
theorem cShl {k:Nat} (hn:W128 n) (hk:k≤128):Cal Tryz.prog OQ 123 [wA n,iA (k:Nat)] (wA (n*2^k%340282366920938463463374607431768211456)) :=
 calA [.w n,.s (.int .i64 (k:Nat))] (r:=.w _) (by kernel_rfl) rfl fun w vs _ hv=>by
  obtain ⟨x,y,rfl,rfl,rfl⟩:=two_args hv;exact (shl_w n k w hn hk).mono fun _ _ ⟨h1,h2⟩=>⟨_,h1,rfl,h2⟩
theorem cLow {k:Nat} (hn:W128 n) (hk:k≤128):Cal Tryz.prog OQ 119 [wA n,iA (k:Nat)] (wA (n%2^k)) :=
 calA [.w n,.s (.int .i64 (k:Nat))] (r:=.w _) (by kernel_rfl) rfl fun w vs _ hv=>by
  obtain ⟨x,y,rfl,rfl,rfl⟩:=two_args hv;exact (low_w n k w hn hk).mono fun _ _ ⟨h1,h2⟩=>⟨_,h1,rfl,h2⟩
theorem cSize (hn:W128 n):Cal Tryz.prog OQ 120 [wA n] (iA (bl n:Nat)) :=
 calA [.w n] (r:=.s (.int .i64 (bl n:Nat))) (by kernel_rfl) rfl fun w vs _ hv=>by
  obtain ⟨x,rfl,rfl⟩:=one_arg hv;exact (size_c n w hn).mono fun _ _ ⟨h1,h2⟩=>⟨_,h1,rfl,h2⟩
theorem cWholeW (hn:W128 n):Cal Tryz.prog OQ 121 [wA n] (nA ((n:Nat):Rat)) :=
 calA [.w n] (r:=.n _) (by kernel_rfl) rfl fun w vs _ hv=>by
  obtain ⟨x,rfl,rfl⟩:=one_arg hv;exact (fwhole_c n w hn).mono fun _ _ ⟨v,h1,h2,h3⟩=>⟨v,h1,h2,h3⟩
theorem cBothW {j:Nat} (h1:W128 n) (h2:W128 j):Cal Tryz.prog OQ 122 [wA n,wA j] (wA (n ||| j)) :=
 calA [.w n,.w j] (r:=.w _) (by kernel_rfl) rfl fun w vs _ hv=>by
  obtain ⟨x,y,rfl,rfl,rfl⟩:=two_args hv;exact (both_w n j w h1 h2).mono fun _ _ ⟨h1,h2⟩=>⟨_,h1,rfl,h2⟩
end
theorem wz (r:Nat):(((r/18446744073709551616:Nat):Int)==0&&(((r%18446744073709551616:Nat):Int)==0&&true))=decide (r=0):=by
 rw [Bool.eq_iff_iff];simp;omega
theorem or_hid {r k:Nat} (h:r<2^k):r ||| 2^k=r+2^k:=by
 have h1:=Nat.two_pow_add_eq_or_of_lt h 1;rw [Nat.mul_one] at h1;rw [Nat.or_comm,←h1,Nat.add_comm]
theorem top_eq {E:Nat} (h:E≤11):IntKind.i64.wrap (IntKind.i64.wrap (1*2^min ((E:Int)).toNat IntKind.i64.bits)-1)=((2^E-1:Nat):Int):=by
 rcases (show E=0∨E=1∨E=2∨E=3∨E=4∨E=5∨E=6∨E=7∨E=8∨E=9∨E=10∨E=11 by omega) with rfl | rfl | rfl | rfl | rfl | rfl | rfl | rfl | rfl | rfl | rfl | rfl<;>decide
theorem natc (a b:Nat):((a:Int)==(b:Int))=decide (a=b):=by rw [Bool.eq_iff_iff];simp;omega
theorem wr1 {P:Nat} (h1:1≤P) (h2:P≤200):IntKind.i64.wrap ((P:Int)-1)=((P-1:Nat):Int):=by rw [IntWalk.i64_in _ (by omega)];omega
theorem wr2 {P:Nat} (h1:2≤P) (h2:P≤200):IntKind.i64.wrap ((P:Int)-2)=((P-2:Nat):Int):=by rw [IntWalk.i64_in _ (by omega)];omega
theorem wr3 {E P:Nat} (h1:1≤P) (h2:P≤200) (h3:E≤100):IntKind.i64.wrap (IntKind.i64.wrap ((E:Int)+P)-1)=((E+P-1:Nat):Int):=by rw [IntWalk.i64_in ((E:Int)+P) (by omega),IntWalk.i64_in _ (by omega)];omega
theorem wr4 {f:Nat} (h:f≤100000):IntKind.i64.wrap ((f%18446744073709551616:Nat):Int)=((f:Nat):Int):=by rw [Nat.mod_eq_of_lt (by omega),IntWalk.i64_in _ (by omega)]
theorem wr6 {f b P:Nat} (h:f≤100000) (h1:b≤100000) (h2:P≤1000):IntKind.i64.wrap (IntKind.i64.wrap ((if (1:Int)>(f:Int) then 1 else (f:Int))-1)+(2-(b:Int)-P))=2-(b:Int)-P+((max f 1-1:Nat):Int):=by
 have mx:(if (1:Int)>(f:Int) then 1 else (f:Int))-1=((max f 1-1:Nat):Int):=by split<;>omega
 rw [mx,IntWalk.i64_in ((max f 1-1:Nat):Int) (by omega),IntWalk.i64_in (((max f 1-1:Nat):Int)+(2-(b:Int)-P)) (by omega)];omega
section
variable {E P m b n:Nat}
theorem one_shl {k:Nat} (h:k≤112):1*2^k%340282366920938463463374607431768211456=2^k:=by
 rw [Nat.one_mul]
 exact Nat.mod_eq_of_lt (Nat.lt_of_le_of_lt (Nat.pow_le_pow_right (by decide) h) (by decide))
theorem cLook (hF:Fmt E P) (hb:b≤1023) (hn:W128 n):Cal Tryz.prog OQ 51 [mA E P m b,wA n] (oA (wkind E P n) (wn E P n) (wvalK E P b n)):=by
 obtain ⟨⟨hE,hE1⟩,⟨hP,hP1⟩,_⟩:=fmt_bounds hF;have hr:wr P n<2^(P-1):=Nat.mod_lt _ (Nat.pow_pos (by decide));have hr8:W128 (wr P n):=Nat.lt_of_lt_of_le hr (Nat.le_trans (Nat.pow_le_pow_right (by decide) (show P-1≤128 by omega)) (by decide));have hf:wf E P n<2^E:=Nat.mod_lt _ (Nat.pow_pos (by decide));have hpE:2^E≤2048:=Nat.pow_le_pow_right (n:=2) (j:=11) (by decide) hE1;have hd:W128 (n/2^(P-1)):=Nat.lt_of_le_of_lt (Nat.div_le_self _ _) hn;have n1:wf E P n=2^E-1→wr P n=0→wkind E P n=3:=fun h k=>by unfold wkind;rw [if_pos h,if_pos k]
 have n2:wf E P n=2^E-1→wr P n≠0→bl (wr P n)=P-1→wkind E P n=4:=fun h k l=>by unfold wkind;rw [if_pos h,if_neg k,if_pos l]
 have n3:wf E P n=2^E-1→wr P n≠0→bl (wr P n)≠P-1→wkind E P n=5:=fun h k l=>by unfold wkind;rw [if_pos h,if_neg k,if_neg l]
 have n4:wf E P n≠2^E-1→wf E P n=0→wr P n=0→wkind E P n=1:=fun h k l=>by unfold wkind;rw [if_neg h,if_pos ⟨k,l⟩]
 have n5:wf E P n≠2^E-1→¬ (wf E P n=0∧wr P n=0)→wkind E P n=2:=fun h k=>by unfold wkind;rw [if_neg h,if_neg k]
 have v0:wkind E P n=1∨wkind E P n=3→wvalK E P b n=0:=fun h=>by
  unfold wvalK
  rcases h with h | h<;>(rw [h];simp)
 have v4:wkind E P n=4→wvalK E P b n=((wr P n%2^(P-2):Nat):Rat):=fun h=>by unfold wvalK;rw [h];simp
 have v5:wkind E P n=5→wvalK E P b n=((wr P n:Nat):Rat):=fun h=>by unfold wvalK;rw [h];simp
 have v2:wkind E P n=2→wvalK E P b n=wval E P b n:=fun h=>by unfold wvalK;rw [if_pos h]
 have v2a:wkind E P n=2→wn E P n=false→wvalK E P b n=((wfr E P n:Nat):Rat)*(2:Rat)^(2-(b:Int)-P+((max (wf E P n) 1-1:Nat):Int)):=fun h k=>by
  rw [v2 h];unfold wval;rw [k,if_neg (by decide),Rat.one_mul]
 have v2b:wkind E P n=2→wn E P n=true→wvalK E P b n = -(((wfr E P n:Nat):Rat)*(2:Rat)^(2-(b:Int)-P+((max (wf E P n) 1-1:Nat):Int))):=fun h k=>by
  rw [v2 h];unfold wval;rw [k,if_pos rfl,show ∀ x:Rat,-1*x = -x from fun x=>by grind]
 clear v2;have hw:(!(decide (n/2^(E+P-1)=0)))=wn E P n:=by
  unfold wn
  by_cases h:n/2^(E+P-1)=0
  ·rw [dT h,dF (fun k=>k h)];rfl
  ·rw [dF h,dT h];rfl
 have hfr:wfr E P n=if wf E P n=0 then wr P n else wr P n+2^(P-1):=rfl;have ef:n/2^(P-1)%2^E=wf E P n:=rfl;have er:n%2^(P-1)=wr P n:=rfl;generalize wkind E P n=K at *
 generalize wvalK E P b n=V at *
 generalize wfr E P n=fr at *
 generalize wn E P n=ng at *
 generalize wf E P n=f at *
 generalize wr P n=r at *
 refine fn_callB [(1,[(0,3),(3,2),(8,2)]),(11,[(3,2),(8,6),(12,2)]),(5,[(0,6),(4,2),(8,6)]),(6,[(0,6),(5,2),(10,7)])] TK MX Tryz.func51 rfl (by kernel_rfl) (by kernel_rfl) (by kernel_rfl) rfl rfl ?_
 conv=>whnf
 rw [wr1 (by omega) (by omega)];refine ⟨_,cShr hn (by omega),?_⟩
 conv=>whnf
 refine ⟨_,cLow hd (by omega),?_⟩;rw [ef]
 conv=>whnf
 rw [wr4 (by omega),wr1 (by omega) (by omega)];refine ⟨_,cLow hn (by omega),?_⟩;rw [er]
 conv=>whnf
 rw [wr3 (by omega) (by omega) (by omega)];refine ⟨_,cShr hn (by omega),?_⟩
 conv=>whnf
 rw [wz,hw,top_eq hE1,natc]
 by_cases hft:f=2^E-1
 ·rw [dT hft]
  conv=>whnf
  rw [wz]
  by_cases hr0:r=0
  ·rw [dT hr0]
   conv=>whnf
   obtain rfl:=n1 hft hr0;rw [v0 (.inr rfl)]
   rfl
  ·rw [dF hr0]
   conv=>whnf
   rw [top_eq hE1,natc,dT hft]
   conv=>whnf
   refine ⟨_,cSize hr8,?_⟩
   conv=>whnf
   rw [wr1 (by omega) (by omega),natc]
   by_cases hq:bl r=P-1
   ·rw [dT hq]
    conv=>whnf
    rw [wr2 (by omega) (by omega)];have hl8:W128 (r%2^(P-2)):=Nat.lt_of_le_of_lt (Nat.mod_le _ _) hr8;refine ⟨_,cLow hr8 (by omega),?_⟩
    conv=>whnf
    refine ⟨_,cWholeW hl8,?_⟩;obtain rfl:=n2 hft hr0 hq;rw [v4 rfl]
    conv=>whnf
    rfl
   ·rw [dF hq]
    conv=>whnf
    rw [top_eq hE1,natc,dT hft]
    conv=>whnf
    refine ⟨_,cWholeW hr8,?_⟩;obtain rfl:=n3 hft hr0 hq;rw [v5 rfl]
    conv=>whnf
    rfl
 ·rw [dF hft]
  conv=>whnf
  rw [top_eq hE1,natc,dF hft]
  conv=>whnf
  rw [top_eq hE1,natc,dF hft]
  conv=>whnf
  have z0:((f:Int)==0)=decide (f=0):=natc f 0;have z1:decide ((f:Int)>0)=decide (f≠0):=by rw [Bool.eq_iff_iff];simp;omega
  rw [z0];have hk2:b<200000:=by omega
  have hfr8:fr<2^113:=by
   rw [hfr];have h1:2^(P-1)≤2^112:=Nat.pow_le_pow_right (by decide) (by omega)
   split<;>omega
  have hf8:W128 fr:=Nat.lt_of_lt_of_le hfr8 (by decide);have hfs:SmQ 113 ((fr:Nat):Rat):=SmQ.nat (by decide) hfr8;have one8:W128 (2^(P-1)):=Nat.lt_of_le_of_lt (Nat.pow_le_pow_right (by decide) (show P-1≤112 by omega)) (by decide)
  by_cases hf0:f=0
  ·rw [dT hf0]
   conv=>whnf
   rw [wz]
   by_cases hr0:r=0
   ·rw [dT hr0]
    conv=>whnf
    obtain rfl:=n4 hft hf0 hr0;rw [v0 (.inl rfl)]
    rfl
   ·rw [dF hr0]
    conv=>whnf
    rw [z1,dF (show ¬ f≠0 from fun h=>h hf0)]
    conv=>whnf
    obtain rfl:=n5 hft (fun h=>hr0 h.2);have e:fr=r:=by rw [hfr,if_pos hf0]
    rw [←e];refine ⟨_,cWholeW hf8,?_⟩
    conv=>whnf
    refine ⟨_,cLeastF (by omega) (by omega),?_⟩
    conv=>whnf
    rw [wr6 (by omega) (by omega) (by omega)];refine ⟨_,cShiftF hfs (by omega) (by omega) (by decide),?_⟩
    cases ng
    ·rw [v2a rfl rfl]
     conv=>whnf
     rfl
    ·rw [v2b rfl rfl]
     conv=>whnf
     refine ⟨_,cNeg,?_⟩
     conv=>whnf
     rfl
  ·rw [dF hf0]
   conv=>whnf
   rw [z1,dT hf0]
   conv=>whnf
   obtain rfl:=n5 hft (fun h=>hf0 h.1);have e:fr=r+2^(P-1):=by rw [hfr,if_neg hf0]
   rw [wr1 (by omega) (by omega)];refine ⟨_,cShl (n:=1) (by decide) (by omega),?_⟩;rw [one_shl (by omega)]
   conv=>whnf
   refine ⟨_,cBothW hr8 one8,?_⟩;rw [or_hid hr,←e]
   conv=>whnf
   refine ⟨_,cWholeW hf8,?_⟩
   conv=>whnf
   refine ⟨_,cLeastF (by omega) (by omega),?_⟩
   conv=>whnf
   rw [wr6 (by omega) (by omega) (by omega)];refine ⟨_,cShiftF hfs (by omega) (by omega) (by decide),?_⟩
   cases ng
   ·rw [v2a rfl rfl]
    conv=>whnf
    rfl
   ·rw [v2b rfl rfl]
    conv=>whnf
    refine ⟨_,cNeg,?_⟩
    conv=>whnf
    rfl
end
theorem fmt_n {E P:Nat} (hF:Fmt E P):2≤E∧E≤11∧2≤P∧P≤113∧5≤E+P∧bias E≤1023:=by
 obtain ⟨hE,hP,hb,hEP,hb1⟩:=fmt_bounds hF;obtain ⟨h1,h2,h3,h4,h5⟩:=hF
 exact ⟨by omega,by omega,by omega,by omega,by omega,by omega⟩
abbrev resA (r:Nat×Nat):AV:=.t [wA r.1,iA (r.2:Nat)]
section
variable {E P m b n:Nat} {q r:Rat} {K:Nat}
theorem cGreatM (hF:Fmt E P) (hb:b≤1023):Cal Tryz.prog OQ 183 [mA E P m b] (nA (grQ P b)) :=
 calA [.mc E P m b] (r:=.n _) (by kernel_rfl) rfl fun w vs _ hv=>by
  obtain ⟨x,rfl,rfl⟩:=one_arg hv;exact (greatest_c E P m b w ⟨(fmt_n hF).2.2.1,(fmt_n hF).2.2.2.1⟩ hb).mono fun _ _ ⟨v,h1,h2,h3⟩=>⟨v,h1,h2,h3⟩
theorem cStepM {l:Int} (hF:Fmt E P) (hb:b≤1023) (hl : -100000000≤l∧l≤100000000):Cal Tryz.prog OQ 180 [mA E P m b,iA l] (iA (max l (1-(b:Int))-P+1)) :=
 calA [.mc E P m b,.s (.int .i64 l)] (r:=.s (.int .i64 (max l (1-(b:Int))-P+1))) (by kernel_rfl) rfl fun w vs _ hv=>by
  obtain ⟨x,y,rfl,rfl,rfl⟩:=two_args hv;exact (step_c E P m b l w ⟨(fmt_n hF).2.2.1,(fmt_n hF).2.2.2.1⟩ hb hl).mono fun _ _ ⟨h1,h2⟩=>⟨_,h1,rfl,h2⟩
theorem cEnd {neg is tiny:Bool} {n f:Nat} {mid:Int} (hF:Fmt E P) (hm:m≤4) (hn:n<2^P) (hf:f≤15000) (hnm:f=0∨2^(P-1)≤n) (hc:mid = -1∨mid=0∨mid=1) :
  Cal Tryz.prog OQ 197 [mA E P m (bias E:Nat),bA neg,nA ((n:Nat):Rat),iA (2-((bias E:Nat):Int)-P+f),bA is,iA mid,bA tiny] (resA (endR E P (bias E) m neg n f is mid tiny)) :=
 calA2 [.mc E P m (bias E:Nat),.s (.bool neg),.n ((n:Nat):Rat),.s (.int .i64 (2-((bias E:Nat):Int)-P+f)),.s (.bool is),.s (.int .i64 mid),.s (.bool tiny)] (r:=.w (endR E P (bias E) m neg n f is mid tiny).1) (s:=.s (.int .i64 ((endR E P (bias E) m neg n f is mid tiny).2:Nat))) (by kernel_rfl) rfl rfl fun w vs hi hv=>by
  match vs,hv with
  | [x1,x2,x3,x4,x5,x6,x7],hv =>
   obtain ⟨h1,h2,h3,h4,h5,h6,h7,_⟩:=hv;obtain rfl:=h1;obtain rfl:=h2;obtain rfl:=h4;obtain rfl:=h5;obtain rfl:=h6;obtain rfl:=h7
   exact (end_c E P m (bias E) neg x3 n f is mid tiny w hF hm rfl h3 hn hf hnm hc hi.2).mono fun _ _ ⟨h1,h2⟩=>⟨_,_,h1,rfl,rfl,h2⟩
theorem rdK_max (P b:Nat) (l:Int):max l (1-(b:Int))-P+1=rdK P b l:=by unfold rdK rdF;omega
theorem cmp_three (a b:Rat):cmpQ a b = -1∨cmpQ a b=0∨cmpQ a b=1:=by unfold cmpQ;split<;>(try split)<;>simp
theorem rdT_sm {l:Int} (sx:SmQ K q) (hk:(rdK P b l).natAbs<20000):SmQ (K+20000) (rdT P b l q):=by
 unfold rdT;exact sx.absQ.mul_p2 _ 20000 (by omega)
theorem cRound {l:Int} (hF:Fmt E P) (hm:m≤4) (hb:b=bias E) (sx:SmQ K q) (hK:K≤12000) (hl:q≠0→IsLog (absQ q) l):Cal Tryz.prog OQ 101 [mA E P m b,nA q] (.t [wA (rnd E P b m q l).1,iA ((rnd E P b m q l).2:Nat)]):=by
 subst hb;have p:=fmt_n hF;refine fn_callB [(8,[(0,2),(1,3),(4,10),(6,9),(8,9),(9,10),(15,2),(21,4)])] TK MX Tryz.func101 rfl (by kernel_rfl) (by kernel_rfl) (by kernel_rfl) rfl rfl ?_
 by_cases h0:q=0
 ·have e:rnd E P (bias E) m q l=(0,0):=by unfold rnd;rw [if_pos h0]
  rw [e]
  conv=>whnf
  refine ⟨_,cSign,?_⟩
  conv=>whnf
  rw [h0]
  conv=>whnf
  refine ⟨_,cZero hF,?_⟩
  conv=>whnf
  rfl
 ·have hl:=hl h0;have hbd:=hl.bound sx.absQ;have e:rnd E P (bias E) m q l=endR E P (bias E) m (decide (q.num<0)) (rdN P (bias E) l q) (rdF (bias E) l) (decide ((rdT P (bias E) l q).den=1)) (cmpQ ((rdT P (bias E) l q-(rdN P (bias E) l q:Nat))*2) 1) (decide (l<1-((bias E:Nat):Int))):=by
   unfold rnd;rw [if_neg h0];rfl
  rw [e];have hs:(q.num.sign==0)=false:=beq_eq_false_iff_ne.2 (fun h=>h0 (Rat.num_eq_zero.1 (Int.sign_eq_zero_iff_zero.1 h)));have hs2:decide (q.num.sign<0)=decide (q.num<0):=by
   have:q.num.sign<0↔q.num<0:=Int.sign_neg_iff
   simp only [this]
  have hN:=rdN_lt (P:=P) (b:=bias E) hl;have hG:=rdN_ge (P:=P) (b:=bias E) (by omega) hl;have hk : -1200≤rdK P (bias E) l∧rdK P (bias E) l≤14000:=by unfold rdK rdF;omega
  have hf:rdF (bias E) l≤15000:=by unfold rdF;omega
  have ek:rdK P (bias E) l=2-((bias E:Nat):Int)-P+(rdF (bias E) l:Nat):=rfl;have sT:SmQ 40000 (rdT P (bias E) l q):=(rdT_sm sx (by omega)).mono (by omega);have eT:absQ q*(2:Rat)^(-(rdK P (bias E) l))=rdT P (bias E) l q:=rfl;have eF:=rdN_floor P (bias E) l q;have ha:(absQ q).num≠0:=fun h=>h0 (by
   have:=Rat.num_eq_zero.1 h
   have h2:=absQ_sign q;rw [this,Rat.mul_zero] at h2;exact h2.symm)
  have hla:IsLog (absQ (absQ q)) l:=by rw [absQ_nonneg (absQ_zero_le q)];exact hl
  generalize rdT P (bias E) l q=t at *
  generalize rdN P (bias E) l q=n at *
  generalize rdF (bias E) l=f at *
  generalize hkk:rdK P (bias E) l=k at *
  have hn3:n<2^113:=Nat.lt_of_lt_of_le hN (Nat.pow_le_pow_right (by decide) (by omega));have sn:SmQ 40000 ((n:Nat):Rat):=(SmQ.nat (K:=113) (by decide) hn3).mono (by decide)
  conv=>whnf
  refine ⟨_,cSign,?_⟩
  conv=>whnf
  rw [hs]
  conv=>whnf
  refine ⟨_,cAbs,?_⟩
  conv=>whnf
  refine ⟨_,cLogF sx.absQ (by omega) ha hla,?_⟩
  conv=>whnf
  refine ⟨_,cStepM hF (by omega) (by omega),?_⟩;rw [rdK_max,hkk]
  conv=>whnf
  rw [IntWalk.i64_in (0-k) (by omega),Int.zero_sub];refine ⟨_,cShiftF sx.absQ (by omega) (by omega) (by omega),?_⟩;rw [eT]
  conv=>whnf
  refine ⟨_,cFloor sT (by decide),?_⟩;rw [eF,show (((n:Nat):Int):Rat)=((n:Nat):Rat) from rfl]
  conv=>whnf
  refine ⟨_,cSign,?_⟩
  conv=>whnf
  rw [hs2];refine ⟨_,cIsInt,?_⟩
  conv=>whnf
  refine ⟨_,cSub sT sn (by decide),?_⟩
  conv=>whnf
  refine ⟨_,cShiftF (k:=1) (sT.sub sn) (by decide) (by decide) (by decide),?_⟩;rw [Rat.zpow_one]
  conv=>whnf
  refine ⟨_,cInt (n:=1) (by decide) (by decide),?_⟩
  conv=>whnf
  refine ⟨_,cCmp (K:=90000) (by have h:=(sT.sub sn).mul_p2 1 2 (by decide);rw [Rat.zpow_one] at h;exact h.mono (by decide)) ((SmQ.int (K:=2) (n:=1) (by decide) (by decide)).mono (by decide)) (by decide),?_⟩
  conv=>whnf
  refine ⟨_,cNormalF (by omega),?_⟩
  conv=>whnf
  rw [ek];refine ⟨_,cEnd hF hm hN hf hG (cmp_three _ _),?_⟩
  conv=>whnf
  rfl
/-! ### Twos -/
end
def rq (E P m:Nat) (q:Rat):Nat×Nat:=rnd E P (bias E) m q (lgQ q)
theorem cRoundQ {E P m K:Nat} {q:Rat} (hF:Fmt E P) (hm:m≤4) (sx:SmQ K q) (hK:K≤12000):Cal Tryz.prog OQ 101 [mA E P m (bias E:Nat),nA q] (.t [wA (rq E P m q).1,iA ((rq E P m q).2:Nat)]) :=
 cRound hF hm rfl sx hK lg_is
theorem cSpecial2 {E P m b:Nat} (hF:Fmt E P) (k1 k2:Int) (n1 n2:Bool) (q1 q2:Rat):Cal Tryz.prog OQ 131 [mA E P m b,.c (.sl 5 [opC k1 n1 q1,opC k2 n2 q2])]
  (.t [wA (nanw E P),iA (if k1=5∨k2=5 then 1 else 0),bA (decide (4≤k1)||decide (4≤k2))]):=by
 refine fn_call TK MX Tryz.func131 rfl (by kernel_rfl) (by kernel_rfl) (by kernel_rfl) rfl rfl ?_
 conv=>whnf
 refine ⟨3,?_⟩
 conv=>whnf
 cases h1:decide (k1≥4)<;>(conv=>whnf)<;>cases h2:k1==5<;>(conv=>whnf)<;>cases h3:k2==5<;>(conv=>whnf)<;>refine ⟨_,cNanF hF,?_⟩<;>(conv=>whnf) <;>
  simp_all [joinR,wdC,dropC,refC]
theorem cSpecial1 {E P m b:Nat} (hF:Fmt E P) (k1:Int) (n1:Bool) (q1:Rat):Cal Tryz.prog OQ 131 [mA E P m b,.c (.sl 5 [opC k1 n1 q1])]
  (.t [wA (nanw E P),iA (if k1=5 then 1 else 0),bA (decide (4≤k1))]):=by
 refine fn_call TK MX Tryz.func131 rfl (by kernel_rfl) (by kernel_rfl) (by kernel_rfl) rfl rfl ?_
 conv=>whnf
 refine ⟨2,?_⟩
 conv=>whnf
 cases h2:k1==5<;>(conv=>whnf)<;>refine ⟨_,cNanF hF,?_⟩<;>(conv=>whnf) <;>
  simp_all [joinR,wdC]
theorem bias_eq {E P:Nat} (hF:Fmt E P):IntKind.i64.wrap (IntKind.i64.wrap (1*2^min (IntKind.i64.wrap ((E:Int)-1)).toNat IntKind.i64.bits)-1)=(bias E:Nat):=by
 obtain ⟨h1,h2,_⟩:=hF;rw [IntWalk.i64_in ((E:Int)-1) (by omega)];have hE:E=2∨E=3∨E=4∨E=5∨E=6∨E=7∨E=8∨E=9∨E=10∨E=11:=by omega
 rcases hE with rfl | rfl | rfl | rfl | rfl | rfl | rfl | rfl | rfl | rfl<;>decide
theorem cWith0 {E P m:Nat} (hF:Fmt E P) (hm:m≤4):Cal Tryz.prog OQ 50 [fA E P,iA (m:Nat),.c (.v (.slice none 0 0))] (.t [mA E P m (bias E:Nat),iA 0]):=by
 refine fn_call TK MX Tryz.func50 rfl (by kernel_rfl) (by kernel_rfl) (by kernel_rfl) rfl rfl ?_;have e1:decide ((m:Int)<0)=false:=dF (by omega);have e2:decide ((m:Int)>4)=false:=dF (by omega);have e3:decide (0≤IntKind.i64.wrap ((E:Int)-1))=true:=dT (by obtain ⟨h1,h2,_⟩:=hF;rw [IntWalk.i64_in ((E:Int)-1) (by omega)];omega)
 conv=>whnf
 rw [e1]
 conv=>whnf
 rw [e2]
 conv=>whnf
 refine ⟨_,cCheck E P,?_⟩;rw [if_pos hF]
 conv=>whnf
 rw [e3]
 conv=>whnf
 refine ⟨1,?_⟩
 conv=>whnf
 rw [bias_eq hF]
 rfl
theorem cWithBad {E P M:Int} {a:AV} (ha:noPA a=true) (h:¬ ((0≤M∧M≤4)∧Fmt E P)):Cal Tryz.prog OQ 50 [fA E P,iA M,a] (.t [mA 0 0 0 0,iA 2]):=by
 refine fn_call TK MX Tryz.func50 rfl (by kernel_rfl) (by kernel_rfl) (by kernel_rfl) rfl (by show (true&&(true&&(noPA a&&true)))=true;rw [ha];rfl) ?_
 conv=>whnf
 cases e1:decide (M<0)
 ·conv=>whnf
  cases e2:decide (M>4)
  ·conv=>whnf
   refine ⟨_,cCheck E P,?_⟩
   have:¬ Fmt E P:=by simp at e1 e2;intro hF;exact h ⟨⟨e1,e2⟩,hF⟩
   rw [if_neg this]
   conv=>whnf
   rfl
  ·conv=>whnf
   rfl
 ·conv=>whnf
  rfl
theorem shr_z {n k:Nat}:decide (n/2^k=0)=decide (n<2^k):=by
 have:n/2^k=0↔n<2^k:=by rw [Nat.div_eq_zero_iff];have:=Nat.pow_pos (n:=k) (show 0<2 by decide);omega
 simp [this]
theorem cWith1 {E P m n:Nat} (hF:Fmt E P) (hm:m≤4) (hn:W128 n):Cal Tryz.prog OQ 50 [fA E P,iA (m:Nat),.c (.sl 2 [wdC n])] (if n<2^(E+P) then .t [mA E P m (bias E:Nat),iA 0] else .t [mA 0 0 0 0,iA 6]):=by
 refine fn_call TK MX Tryz.func50 rfl (by kernel_rfl) (by kernel_rfl) (by kernel_rfl) (by split<;>rfl) rfl ?_;have e1:decide ((m:Int)<0)=false:=dF (by omega);have e2:decide ((m:Int)>4)=false:=dF (by omega);have e3:decide (0≤IntKind.i64.wrap ((E:Int)-1))=true:=dT (by obtain ⟨h1,h2,_⟩:=hF;rw [IntWalk.i64_in ((E:Int)-1) (by omega)];omega);have e4:IntKind.i64.wrap ((E:Int)+P)=((E+P:Nat):Int):=by obtain ⟨h1,h2,h3,h4,_⟩:=hF;rw [IntWalk.i64_in _ (by omega)];omega
 have hk:E+P≤128:=by obtain ⟨h1,h2,h3,h4,_⟩:=hF;omega
 conv=>whnf
 rw [e1]
 conv=>whnf
 rw [e2]
 conv=>whnf
 refine ⟨_,cCheck E P,?_⟩;rw [if_pos hF]
 conv=>whnf
 rw [e3]
 conv=>whnf
 refine ⟨2,?_⟩
 conv=>whnf
 rw [e4];refine ⟨_,cShr hn hk,?_⟩
 conv=>whnf
 rw [wz,shr_z]
 by_cases hlt:n<2^(E+P)
 ·rw [if_pos hlt,dT hlt]
  conv=>whnf
  rw [bias_eq hF]
  rfl
 ·rw [if_neg hlt,dF hlt]
  conv=>whnf
  rfl
theorem cWith2 {E P m n k:Nat} (hF:Fmt E P) (hm:m≤4) (hn:W128 n) (hk':W128 k):Cal Tryz.prog OQ 50 [fA E P,iA (m:Nat),.c (.sl 2 [wdC n,wdC k])] (if n<2^(E+P)∧k<2^(E+P) then .t [mA E P m (bias E:Nat),iA 0] else .t [mA 0 0 0 0,iA 6]):=by
 refine fn_call TK MX Tryz.func50 rfl (by kernel_rfl) (by kernel_rfl) (by kernel_rfl) (by split<;>rfl) rfl ?_;have e1:decide ((m:Int)<0)=false:=dF (by omega);have e2:decide ((m:Int)>4)=false:=dF (by omega);have e3:decide (0≤IntKind.i64.wrap ((E:Int)-1))=true:=dT (by obtain ⟨h1,h2,_⟩:=hF;rw [IntWalk.i64_in ((E:Int)-1) (by omega)];omega);have e4:IntKind.i64.wrap ((E:Int)+P)=((E+P:Nat):Int):=by obtain ⟨h1,h2,h3,h4,_⟩:=hF;rw [IntWalk.i64_in _ (by omega)];omega
 have hk:E+P≤128:=by obtain ⟨h1,h2,h3,h4,_⟩:=hF;omega
 conv=>whnf
 rw [e1]
 conv=>whnf
 rw [e2]
 conv=>whnf
 refine ⟨_,cCheck E P,?_⟩;rw [if_pos hF]
 conv=>whnf
 rw [e3]
 conv=>whnf
 refine ⟨3,?_⟩
 conv=>whnf
 rw [e4];refine ⟨_,cShr hn hk,?_⟩
 conv=>whnf
 rw [wz,shr_z]
 by_cases hlt:n<2^(E+P)
 ·rw [dT hlt]
  conv=>whnf
  rw [e4];refine ⟨_,cShr hk' hk,?_⟩
  conv=>whnf
  rw [wz,shr_z]
  by_cases hlt':k<2^(E+P)
  ·rw [if_pos ⟨hlt,hlt'⟩,dT hlt']
   conv=>whnf
   rw [bias_eq hF]
   rfl
  ·rw [if_neg (fun h=>hlt' h.2),dF hlt']
   conv=>whnf
   rfl
 ·rw [if_neg (fun h=>hlt h.1),dF hlt]
  conv=>whnf
  rfl
/-! ### values -/
theorem w128 {E P n:Nat} (hF:Fmt E P) (hn:n<2^(E+P)):W128 n:=by
 have h:=fmt_n hF
 exact Nat.lt_of_lt_of_le hn (Nat.le_trans (Nat.pow_le_pow_right (by decide) (show E+P≤124 by omega)) (by decide))
def valR (E P n:Nat):AV:=if wkind E P n≤2 then .t [nA (wvalK E P (bias E) n),iA 0] else .t [nA 0,iA 4]
theorem cValue {E P n:Nat} (hF:Fmt E P) (hn:n<2^(E+P)):Cal Tryz.prog OQ 12 [fA E P,wA n] (valR E P n):=by
 refine fn_call TK MX Tryz.func12 rfl (by kernel_rfl) (by kernel_rfl) (by kernel_rfl) (by unfold valR;split<;>rfl) rfl ?_
 conv=>whnf
 refine ⟨_,cWith1 (m:=0) hF (by decide) (w128 hF hn),?_⟩;rw [if_pos hn]
 conv=>whnf
 refine ⟨_,cLook hF (fmt_n hF).2.2.2.2.2 (w128 hF hn),?_⟩
 conv=>whnf
 unfold valR
 cases h:decide (wkind E P n>2)
 ·rw [if_pos (by simpa using h)]
  conv=>whnf
  rfl
 ·rw [if_neg (by simpa using h)]
  conv=>whnf
  rfl
def sumR (E P m:Nat) (k1:Int) (n1:Bool) (q1:Rat) (k2:Int) (n2:Bool) (q2:Rat):Nat×Nat :=
 if k1=3∧k2=3∧n1≠n2 then (nanw E P,1) else if k1=3 then (infw E P n1,0) else if k2=3 then (infw E P n2,0)
 else if q1+q2≠0 then rq E P m (q1+q2) else if k1=1∧n1=n2 then (sgb E P n1,0) else (sgb E P (decide (m=4)),0)
def exaR (E P m:Nat) (k:Int) (n:Bool) (q:Rat):Nat×Nat:=if k=1 then (sgb E P n,0) else if k=3 then (infw E P n,0) else rq E P m q
def quoR (E P m:Nat) (k1:Int) (n1:Bool) (q1:Rat) (k2:Int) (n2:Bool) (q2:Rat):Nat×Nat :=
 if k1=k2∧k1≠2 then (nanw E P,1) else if k1=3 then (infw E P (n1 != n2),0) else if k2=1 then (infw E P (n1 != n2),2)
 else if k1=1∨k2=3 then (sgb E P (n1 != n2),0) else rq E P m (q1/q2)
theorem sgnNe (q:Rat):(q.num.sign != 0)=decide (q≠0):=by
 rw [Bool.eq_iff_iff];simp [Int.sign_eq_zero_iff_zero,Rat.num_eq_zero]
theorem cAddM {E P m K:Nat} {k1 k2:Int} {n1 n2:Bool} {q1 q2:Rat} (hF:Fmt E P) (hm:m≤4) (s1:SmQ K q1) (s2:SmQ K q2) (hK:K≤5000) :
  Cal Tryz.prog OQ 127 [mA E P m (bias E:Nat),oA k1 n1 q1,oA k2 n2 q2] (resA (sumR E P m k1 n1 q1 k2 n2 q2)):=by
 refine fn_call TK MX Tryz.func127 rfl (by kernel_rfl) (by kernel_rfl) (by kernel_rfl) rfl rfl ?_;unfold sumR
 conv=>whnf
 cases h1:k1==3
 ·have h1':¬ k1=3:=by simpa using h1
  rw [if_neg (fun h=>h1' h.1),if_neg h1']
  conv=>whnf
  repeat (rw [h1];conv=>whnf)
  cases h2:k2==3
  ·have h2':¬ k2=3:=by simpa using h2
   rw [if_neg h2']
   conv=>whnf
   refine ⟨_,cAdd s1 s2 (by omega),?_⟩
   conv=>whnf
   refine ⟨_,cSign,?_⟩
   conv=>whnf
   rw [sgnNe]
   by_cases h0:q1+q2≠0
   ·rw [if_pos h0,dT h0]
    conv=>whnf
    refine ⟨_,cRoundQ hF hm (s1.add s2) (by omega),?_⟩
    conv=>whnf
    rfl
   ·rw [if_neg h0,dF h0]
    conv=>whnf
    cases h3:k1==1
    ·have h3':¬ k1=1:=by simpa using h3
     rw [if_neg (fun h=>h3' h.1)]
     conv=>whnf
     have:((m:Int)==4)=decide (m=4):=by rw [Bool.eq_iff_iff];simp;omega
     rw [this];refine ⟨_,cZero hF,?_⟩
     conv=>whnf
     rfl
    ·have h3':k1=1:=by simpa using h3
     conv=>whnf
     cases h4:n1==n2
     ·have h4':¬ n1=n2:=by simpa using h4
      rw [if_neg (fun h=>h4' h.2)]
      conv=>whnf
      have:((m:Int)==4)=decide (m=4):=by rw [Bool.eq_iff_iff];simp;omega
      rw [this];refine ⟨_,cZero hF,?_⟩
      conv=>whnf
      rfl
     ·have h4':n1=n2:=by simpa using h4
      rw [if_pos ⟨h3',h4'⟩]
      conv=>whnf
      refine ⟨_,cZero hF,?_⟩
      conv=>whnf
      rfl
  ·have h2':k2=3:=by simpa using h2
   rw [if_pos h2']
   conv=>whnf
   refine ⟨_,cInf hF,?_⟩
   conv=>whnf
   rfl
 ·have h1':k1=3:=by simpa using h1
  conv=>whnf
  cases h2:k2==3
  ·have h2':¬ k2=3:=by simpa using h2
   rw [if_neg (fun h=>h2' h.2.1),if_pos h1']
   conv=>whnf
   repeat (rw [h1];conv=>whnf)
   refine ⟨_,cInf hF,?_⟩
   conv=>whnf
   rfl
  ·have h2':k2=3:=by simpa using h2
   conv=>whnf
   cases h4:n1==n2
   ·have h4':¬ n1=n2:=by simpa using h4
    rw [if_pos ⟨h1',h2',h4'⟩]
    conv=>whnf
    refine ⟨_,cInvalid hF,?_⟩
    conv=>whnf
    rfl
   ·have h4':n1=n2:=by simpa using h4
    rw [if_neg (fun h=>h.2.2 h4'),if_pos h1']
    conv=>whnf
    repeat (rw [h1];conv=>whnf)
    refine ⟨_,cInf hF,?_⟩
    conv=>whnf
    rfl
theorem cExactly {E P m K:Nat} {k:Int} {n:Bool} {q:Rat} (hF:Fmt E P) (hm:m≤4) (s:SmQ K q) (hK:K≤12000) :
  Cal Tryz.prog OQ 135 [mA E P m (bias E:Nat),oA k n q] (resA (exaR E P m k n q)):=by
 refine fn_call TK MX Tryz.func135 rfl (by kernel_rfl) (by kernel_rfl) (by kernel_rfl) rfl rfl ?_;unfold exaR
 conv=>whnf
 cases h1:k==1
 ·rw [if_neg (by simpa using h1)]
  conv=>whnf
  cases h2:k==3
  ·rw [if_neg (by simpa using h2)]
   conv=>whnf
   refine ⟨_,cRoundQ hF hm s hK,?_⟩
   conv=>whnf
   rfl
  ·rw [if_pos (by simpa using h2)]
   conv=>whnf
   refine ⟨_,cInf hF,?_⟩
   conv=>whnf
   rfl
 ·rw [if_pos (by simpa using h1)]
  conv=>whnf
  refine ⟨_,cZero hF,?_⟩
  conv=>whnf
  rfl
def proR (lo hi:Int) (n:Bool) (q:Rat):AV:=if lo=1 then .t [oA 1 n 0,bA (hi != 3)] else .t [oA hi n q,bA true]
def minK (a b:Int):Int:=if b<a then b else a
def maxK (a b:Int):Int:=if b>a then b else a
theorem cProduct {K:Nat} {k1 k2:Int} {n1 n2:Bool} {q1 q2:Rat} (s1:SmQ K q1) (s2:SmQ K q2) (hK:K≤12000) :
  Cal Tryz.prog OQ 134 [oA k1 n1 q1,oA k2 n2 q2] (proR (minK k1 k2) (maxK k1 k2) (n1 != n2) (q1*q2)):=by
 refine fn_call TK MX Tryz.func134 rfl (by kernel_rfl) (by kernel_rfl) (by kernel_rfl) (by unfold proR;split<;>rfl) rfl ?_;unfold proR;obtain ⟨lo,hlo⟩:∃ lo,lo=minK k1 k2:=⟨_,rfl⟩;rw [←hlo]
 conv=>whnf
 rw [show (if k2<k1 then k2 else k1)=lo from hlo.symm]
 cases h1:lo==1
 ·rw [if_neg (show ¬ lo=1 by simpa using h1)]
  conv=>whnf
  refine ⟨_,cMul s1 s2 (by omega),?_⟩
  conv=>whnf
  rfl
 ·have e:lo=1:=by simpa using h1
  rw [if_pos e]
  conv=>whnf
  rw [e]
  rfl
def mulR (E P m:Nat) (k1:Int) (n1:Bool) (q1:Rat) (k2:Int) (n2:Bool) (q2:Rat):Nat×Nat :=
 if minK k1 k2=1∧maxK k1 k2=3 then (nanw E P,1) else if minK k1 k2=1 then (sgb E P (n1 != n2),0) else exaR E P m (maxK k1 k2) (n1 != n2) (q1*q2)
theorem cMulM {E P m K:Nat} {k1 k2:Int} {n1 n2:Bool} {q1 q2:Rat} (hF:Fmt E P) (hm:m≤4) (s1:SmQ K q1) (s2:SmQ K q2) (hK:K≤5000) :
  Cal Tryz.prog OQ 129 [mA E P m (bias E:Nat),oA k1 n1 q1,oA k2 n2 q2] (resA (mulR E P m k1 n1 q1 k2 n2 q2)):=by
 refine fn_call TK MX Tryz.func129 rfl (by kernel_rfl) (by kernel_rfl) (by kernel_rfl) rfl rfl ?_
 conv=>whnf
 refine ⟨_,cProduct s1 s2 (by omega),?_⟩
 by_cases h1:minK k1 k2=1
 ·rw [show proR (minK k1 k2) (maxK k1 k2) (n1 != n2) (q1*q2)=_ from if_pos h1]
  conv=>whnf
  cases h2:maxK k1 k2 != 3
  ·rw [show mulR E P m k1 n1 q1 k2 n2 q2=_ from if_pos ⟨h1,by simpa using h2⟩]
   conv=>whnf
   refine ⟨_,cInvalid hF,?_⟩
   conv=>whnf
   rfl
  ·rw [show mulR E P m k1 n1 q1 k2 n2 q2=_ from (if_neg (fun h=>by simp [h.2] at h2)).trans (if_pos h1)]
   conv=>whnf
   refine ⟨_,cExactly (q:=0) hF hm (SmQ.zero 1 (by decide)) (by decide),?_⟩
   conv=>whnf
   rfl
 ·rw [show proR (minK k1 k2) (maxK k1 k2) (n1 != n2) (q1*q2)=_ from if_neg h1,show mulR E P m k1 n1 q1 k2 n2 q2=_ from (if_neg (fun h=>h1 h.1)).trans (if_neg h1)]
  conv=>whnf
  refine ⟨_,cExactly hF hm (s1.mul s2) (by omega),?_⟩
  conv=>whnf
  rfl
theorem cDivM {E P m K:Nat} {k1 k2:Int} {n1 n2:Bool} {q1 q2:Rat} (hF:Fmt E P) (hm:m≤4) (s1:SmQ K q1) (s2:SmQ K q2) (hK:K≤5000) (hk:k1=1∨k1=2∨k1=3) (hk':k2=1∨k2=2∨k2=3) (h0:k2=2→q2≠0) :
  Cal Tryz.prog OQ 130 [mA E P m (bias E:Nat),oA k1 n1 q1,oA k2 n2 q2] (resA (quoR E P m k1 n1 q1 k2 n2 q2)):=by
 refine fn_call TK MX Tryz.func130 rfl (by kernel_rfl) (by kernel_rfl) (by kernel_rfl) rfl rfl ?_;unfold quoR
 rcases hk with rfl | rfl | rfl<;>rcases hk' with rfl | rfl | rfl<;>(conv=>whnf) <;>
  first
  | (refine ⟨_,cInvalid hF,?_⟩;(conv=>whnf);rfl)
  | (refine ⟨_,cInf hF,?_⟩;(conv=>whnf);rfl)
  | (refine ⟨_,cZero hF,?_⟩;(conv=>whnf);rfl)
  | (refine ⟨_,cQuo s1 s2 (by omega) (h0 rfl),?_⟩;(conv=>whnf);refine ⟨_,cRoundQ hF hm (s1.div s2 (h0 rfl)) (by omega),?_⟩;(conv=>whnf);rfl)
abbrev kd (E P n:Nat):Int:=wkind E P n
abbrev vl (E P n:Nat):Rat:=wvalK E P (bias E) n
theorem sm_word {E P n:Nat} (hF:Fmt E P):SmQ 5000 (vl E P n):=by
 by_cases h:wkind E P n≤2
 ·exact wvalK_sm hF h
 ·have hp:=fmt_n hF;have hr:wr P n<2^113:=Nat.lt_of_lt_of_le (Nat.mod_lt _ (Nat.pow_pos (by decide))) (Nat.pow_le_pow_right (by decide) (by omega));unfold vl wvalK;rw [if_neg (by omega)]
  split
  ·exact (SmQ.nat (K:=113) (by decide) (Nat.lt_of_le_of_lt (Nat.mod_le _ _) hr)).mono (by decide)
  ·split
   ·exact (SmQ.nat (K:=113) (by decide) hr).mono (by decide)
   ·exact SmQ.zero _ (by decide)
theorem kd_cases (E P n:Nat):kd E P n=1∨kd E P n=2∨kd E P n=3∨kd E P n=4∨kd E P n=5:=by
 show wkind E P n=1∨wkind E P n=2∨wkind E P n=3∨wkind E P n=4∨wkind E P n=5
 unfold wkind;split<;>split<;>(try split)<;>simp
theorem vlNe {E P n:Nat} (h:kd E P n=2):vl E P n≠0:=by
 intro e
 have:=(kind_zero (E:=E) (P:=P) (b:=bias E) (n:=n) (show wkind E P n≤2 by show kd E P n≤2;omega)).2 e
 have h:wkind E P n=2:=h
 omega
abbrev res3 (r:Nat×Nat):AV:=.t [wA r.1,iA (r.2:Nat),iA 0]
theorem flat_resA (r:Nat×Nat):FlatR (resA r):=by
 intro x hx
 simp only [List.mem_cons,List.not_mem_nil,or_false] at hx
 rcases hx with rfl | rfl
 ·intro c hc
  have hc:c∈wdC r.1:=hc;simp only [wdC,List.mem_cons,List.not_mem_nil,or_false] at hc
  rcases hc with rfl | rfl<;>rfl
 ·exact rfl
def opnR (E P i j:Nat) (R:Nat×Nat):Nat×Nat:=if 4≤kd E P i∨4≤kd E P j then (nanw E P,if kd E P i=5∨kd E P j=5 then 1 else 0) else R
abbrev fnA (f:FuncId):AV:=.c (.v (.func (.func f) #[] #[]))
theorem cOperate {f:FuncId} {E P m i j:Nat} {R:Nat×Nat} (hF:Fmt E P) (hm:m≤4) (hi:i<2^(E+P)) (hj:j<2^(E+P))
  (hf:¬ 4≤kd E P i→¬ 4≤kd E P j→Cal Tryz.prog OQ f [mA E P m (bias E:Nat),oA (kd E P i) (wn E P i) (vl E P i),oA (kd E P j) (wn E P j) (vl E P j)] (resA R)) :
  Cal Tryz.prog OQ 126 [fA E P,iA (m:Nat),wA i,wA j,fnA f] (res3 (opnR E P i j R)):=by
 refine fn_call TK MX Tryz.func126 rfl (by kernel_rfl) (by kernel_rfl) (by kernel_rfl) rfl rfl ?_;have hb:=(fmt_n hF).2.2.2.2.2
 conv=>whnf
 refine ⟨_,cWith2 hF hm (w128 hF hi) (w128 hF hj),?_⟩;rw [if_pos ⟨hi,hj⟩]
 conv=>whnf
 refine ⟨_,cLook hF hb (w128 hF hi),?_⟩
 conv=>whnf
 refine ⟨_,cLook hF hb (w128 hF hj),?_⟩
 conv=>whnf
 refine ⟨_,cSpecial2 hF _ _ _ _ _ _,?_⟩
 conv=>whnf
 by_cases h:4≤kd E P i∨4≤kd E P j
 ·rw [show opnR E P i j R=_ from if_pos h,show (decide (4≤wkind E P i)||decide (4≤wkind E P j))=true by simpa using h]
  conv=>whnf
  split<;>rfl
 ·rw [show opnR E P i j R=_ from if_neg h,show (decide (4≤wkind E P i)||decide (4≤wkind E P j))=false by simpa using h]
  conv=>whnf
  refine ⟨_,hf (fun k=>h (.inl k)) (fun k=>h (.inr k)),flat_resA _,?_⟩
  conv=>whnf
  rfl
theorem cOperateBad {f:FuncId} {E P M:Int} {i j:Nat} (h:¬ ((0≤M∧M≤4)∧Fmt E P)):Cal Tryz.prog OQ 126 [fA E P,iA M,wA i,wA j,fnA f] (.t [wA 0,iA 0,iA 2]):=by
 refine fn_call TK MX Tryz.func126 rfl (by kernel_rfl) (by kernel_rfl) (by kernel_rfl) rfl rfl ?_
 conv=>whnf
 refine ⟨_,cWithBad (a:=.c (.sl 2 [wdC i,wdC j])) rfl h,?_⟩
 conv=>whnf
 rfl
theorem cOperateForm {f:FuncId} {E P m i j:Nat} (hF:Fmt E P) (hm:m≤4) (h1:W128 i) (h2:W128 j) (h:¬ (i<2^(E+P)∧j<2^(E+P))):Cal Tryz.prog OQ 126 [fA E P,iA (m:Nat),wA i,wA j,fnA f] (.t [wA 0,iA 0,iA 6]):=by
 refine fn_call TK MX Tryz.func126 rfl (by kernel_rfl) (by kernel_rfl) (by kernel_rfl) rfl rfl ?_
 conv=>whnf
 refine ⟨_,cWith2 hF hm h1 h2,?_⟩;rw [if_neg h]
 conv=>whnf
 rfl
end Go.Proofs.YtoaoebimjmjpeaaGreatDoor
