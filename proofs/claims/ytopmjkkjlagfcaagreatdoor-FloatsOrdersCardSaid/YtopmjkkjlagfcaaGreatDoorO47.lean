/- Plain: Next returns the reference's word; both Next, both Cmp of any words. -/
import Derived.Test.YtopmjkkjlagfcaaGreatDoorO40
import Derived.Test.YtopmjkkjlagfcaaGreatDoorO41
import Derived.Test.YtopmjkkjlagfcaaGreatDoorO46
namespace Go.Proofs.YtopmjkkjlagfcaaGreatDoor
open Go.RowKit Vn
set_option maxRecDepth 100000
set_option maxHeartbeats 8000000
theorem rankW_val {E P:Nat} {z:Int} (h:z.natAbs<2^(E+P-1)):rankW E P z=z.natAbs+if z<0 then 2^(E+P-1) else 0:=by
 rw [rankW_eq,wordN_mag _ h]
 by_cases h2:z<0
 ·rw [decide_eq_true h2,if_pos rfl,if_pos h2,Nat.mul_one]
 ·rw [decide_eq_false h2,if_neg (by decide),if_neg h2,Nat.mul_zero]
theorem word_parts {E P n:Nat} (hEP:1≤E+P) (hn:n<2^(E+P)):n=mag E P n+if wn E P n=true then 2^(E+P-1) else 0:=by
 have h:=word_split hEP hn;rw [wordN_mag _ (mag_lt E P n)] at h
 conv=>lhs;rw [h]
 split<;>simp
theorem infw_val {E P:Nat} (hE:1≤E) (hP:1≤P) (s:Bool):infw E P s=infZ E P+if s=true then 2^(E+P-1) else 0:=by
 have hI:=infZ_lt (E:=E) hP;have h0:=infZ_pos (P:=P) hE;rw [infw_rankW hE s,rankW_val (by cases s<;>simp<;>omega)]
 cases s
 ·simp
 ·simp;omega
theorem kind_one {E P n:Nat} (hE:1≤E) (hP:1≤P):wkind E P n=1↔mag E P n=0:=by
 constructor
 ·intro hk
  have h:wf E P n=0∧wr P n=0:=by
   unfold wkind at hk
   split at hk
   ·split at hk
    ·cases hk
    ·split at hk<;>cases hk
   ·split at hk
    ·assumption
    ·cases hk
  rw [mag_eq hP,h.1,h.2];simp
 ·intro h
  rcases Classical.em (wkind E P n=1) with h1 | h1
  ·exact h1
  ·have h2:=rank_zero_kind hP hE h1;have h3:=rank_abs E P n
   omega
theorem nextU_same {E P n k:Nat} {ng:Bool} (hE:2≤E) (hP:1≤P) (hn:n<2^(E+P)) (hk:wkind E P n=k) (hk3:k≤3) (hng:wn E P n=ng):nextU E P n=rnextU n k ng:=by
 have h1:=word_parts (by omega) hn;have hI:=infZ_lt (E:=E) hP;have h0:=infZ_pos (E:=E) (P:=P) (by omega);have hm:=mag_lt E P n;have k1:=kind_one (E:=E) (P:=P) (n:=n) (by omega) hP;have k3:=kind_inf (E:=E) (P:=P) (n:=n) hP;have km:=(kind_mag (E:=E) (P:=P) (n:=n) hP).1 (by omega);have hr:=rankZ_mag E P n;have hinf:=infw_val (E:=E) (P:=P) (by omega) hP false;have hs:sgb E P true=2^(E+P-1):=rfl;unfold nextU rnextU;rw [hng] at h1 hr;rw [if_neg (by decide)] at hinf
 cases ng
 ·rw [if_neg (by decide)] at h1 hr
  by_cases hk1:k=1
  ·rw [if_pos hk1,if_neg (show ¬ n=infw E P false by omega),if_neg (show ¬ rankZ E P n+1=0 by omega),rankW_val (by omega),if_neg (by omega)]
   omega
  ·rw [if_neg hk1]
   by_cases hk2:k=3
   ·rw [if_pos (show k=3∧false=false from ⟨hk2,rfl⟩),if_pos (show n=infw E P false by omega)]
   ·rw [if_neg (show ¬ (k=3∧false=false) from fun h=>hk2 h.1),if_neg (show ¬ false=true by decide),if_neg (show ¬ n=infw E P false by omega),if_neg (show ¬ rankZ E P n+1=0 by omega),rankW_val (by omega),if_neg (by omega)]
    omega
 ·rw [if_pos rfl] at h1 hr;rw [if_neg (show ¬ n=infw E P false by omega)]
  by_cases hk1:k=1
  ·rw [if_pos hk1,if_neg (show ¬ rankZ E P n+1=0 by omega),rankW_val (by omega),if_neg (by omega)]
   omega
  ·rw [if_neg hk1,if_neg (show ¬ (k=3∧true=false) from fun h=>by cases h.2),if_pos (show true=true from rfl)]
   by_cases h2:rankZ E P n+1=0
   ·rw [if_pos h2,hs];omega
   ·rw [if_neg h2,rankW_val (by omega),if_pos (by omega)];omega
theorem flip_parts {E P n:Nat} (hE:1≤E) (_hP:1≤P) (hn:n<2^(E+P)):flipW E P n=mag E P n+(if wn E P n=true then 0 else 2^(E+P-1))∧mag E P (flipW E P n)=mag E P n∧wn E P (flipW E P n) = !(wn E P n):=by
 have h1:=word_parts (by omega) hn;have hm:=mag_lt E P n;have hw:=wn_iff (E:=E) (P:=P) (n:=n);have hw2:=wn_iff (E:=E) (P:=P) (n:=flipW E P n);have hf:flipW E P n=mag E P n+(if wn E P n=true then 0 else 2^(E+P-1)):=by
  unfold flipW
  cases h:wn E P n
  ·rw [h,if_neg (by decide)] at h1;rw [if_neg (by omega),if_neg (by decide)];omega
  ·rw [h,if_pos rfl] at h1;rw [if_pos (by omega),if_pos rfl];omega
 refine ⟨hf,?_,?_⟩
 ·rw [hf];unfold mag at *
  split
  ·rw [Nat.add_zero,Nat.mod_mod]
  ·rw [Nat.add_mod_right,Nat.mod_mod]
 ·rw [hf] at hw2 ⊢
  cases h:wn E P n
  ·rw [h,if_neg (by decide)] at hw2;rw [if_neg (by decide)]
   exact hw2.2 (by omega)
  ·rw [h,if_pos rfl] at hw2;rw [if_pos rfl]
   cases h3:wn E P (mag E P n+0)
   ·rfl
   ·rw [h3] at hw2;have:=hw2.1 rfl;omega
theorem flip_kind {E P n:Nat} (hE:1≤E) (hP:1≤P) (hn:n<2^(E+P)):wkind E P (flipW E P n)=wkind E P n:=by
 have h:=(flip_parts hE hP hn).2.1;rw [←wkind_mag hP,h,wkind_mag hP]
theorem nextD_same {E P n k:Nat} {ng:Bool} (hE:2≤E) (hP:1≤P) (hn:n<2^(E+P)) (hk:wkind E P n=k) (hk3:k≤3) (hng:wn E P n=ng):nextD E P n=flipW E P (rnextU (flipW E P n) k (!ng)):=by
 have h1:=word_parts (by omega) hn;have hI:=infZ_lt (E:=E) hP;have h0:=infZ_pos (E:=E) (P:=P) (by omega);have hm:=mag_lt E P n;have k1:=kind_one (E:=E) (P:=P) (n:=n) (by omega) hP;have k3:=kind_inf (E:=E) (P:=P) (n:=n) hP;have km:=(kind_mag (E:=E) (P:=P) (n:=n) hP).1 (by omega);have hr:=rankZ_mag E P n;have hinf:=infw_val (E:=E) (P:=P) (by omega) hP true;have hf:=(flip_parts (by omega) hP hn).1;have hS:1<2^(E+P-1):=Nat.one_lt_two_pow (by omega);rw [hng] at h1 hr hf;rw [if_pos rfl] at hinf;unfold nextD rnextU;rw [hf]
 cases ng
 ·rw [if_neg (by decide)] at h1 hr;simp only [Bool.false_eq_true,if_false,Bool.not_false,if_true,Bool.true_eq_false,and_false];rw [if_neg (show ¬ n=infw E P true by omega)]
  by_cases hk1:k=1
  ·rw [if_pos hk1,rankW_val (by omega),if_pos (by omega)];unfold flipW;rw [if_neg (by omega)];omega
  ·rw [if_neg hk1,rankW_val (by omega),if_neg (by omega)];unfold flipW;split<;>omega
 ·rw [if_pos rfl] at h1 hr;simp only [if_true,Bool.not_true,Bool.false_eq_true,if_false,and_true,Nat.add_zero]
  by_cases hk1:k=1
  ·rw [if_pos hk1,if_neg (by omega),rankW_val (by omega),if_pos (by omega)];unfold flipW;rw [if_neg (by omega)];omega
  ·rw [if_neg hk1]
   by_cases hk2:k=3
   ·rw [if_pos hk2,if_pos (by omega)];unfold flipW;rw [if_neg (by omega)];omega
   ·rw [if_neg hk2,if_neg (by omega),rankW_val (by omega),if_pos (by omega)];unfold flipW;rw [if_neg (by omega)];omega
def NextSame (E P:Int) (n:Nat) (up:Bool):Prop:=∃ (r0 r1:Nat) (z:Int),
 (∀ w,Calls Tryz.prog 21 #[.agg #[.int .i64 E,.int .i64 P],Word n,.bool up] w fun e w'=>e=.returned (.tuple #[.agg #[.int .u64 (r0:Nat),.int .u64 (r1:Nat)],.int .i64 z])∧Ext w w') ∧
 (∀ w,Calls Tryz.prog 22 #[.agg #[.int .i64 E,.int .i64 P],Word n,.bool up] w fun e w'=>e=.returned (.tuple #[.agg #[.int .u64 (r0:Nat),.int .u64 (r1:Nat)],.int .i64 z])∧Ext w w')
theorem wsl_shape {w:World} {v:Value} {ws:List Nat} (h:WSl w v ws):∃ a cap,v=.slice a ws.length cap∧ws.length≤cap∧cap≤1000:=by
 obtain ⟨a,b,off,cap,h1,h2,h3,_⟩:=h;exact ⟨a,cap,h1,h2,h3⟩
theorem words_err (E P:Int) (ws:List Nat) (h:¬ (Fmt E P∧∀ n∈ws,n<2^(E.toNat+P.toNat))):∃ z:Int,z≠0 ∧
  (∀ w v,WSl w v ws→Calls Tryz.prog 41 #[.agg #[.int .i64 E,.int .i64 P],.int .i64 0,v] w fun e w'=>e=.returned (.tuple #[.agg #[.int .i64 0,.int .i64 0,.int .i64 0,.int .i64 0],.int .i64 z])∧Ext w w') ∧
  (∀ w v,WSl w v ws→Calls Tryz.prog 78 #[.agg #[.int .i64 E,.int .i64 P],.int .i64 0,v] w fun e w'=>e=.returned (.int .i64 z)∧Ext w w'):=by
 by_cases hF:Fmt E P
 ·obtain ⟨e,p,rfl,rfl⟩:=fmt_nat hF;have h2:¬ ∀ n∈ws,n<2^(e+p):=fun h3=>h ⟨hF,h3⟩;refine ⟨6,by decide,fun w v hv => ?_,fun w v hv => ?_⟩
  ·have h4:=with_good e p 0 v ws w (by decide) hF hv;unfold withRes at h4;rw [if_neg h2] at h4;exact h4
  ·have h4:=rwords_good e p 0 v ws w hF (by decide) hv;have h5:wordsR (2^(e+p)) ws=6:=by
    unfold wordsR;rw [if_neg]
    intro h6
    exact h2 (by simpa using h6)
   rw [h5] at h4;exact h4
 ·refine ⟨2,by decide,fun w v hv=>with_bad E P 0 v w (fun h2=>hF h2.2.2),fun w v hv => ?_⟩;obtain ⟨a,cap,rfl,h2,h3⟩:=wsl_shape hv
  exact rwords_bad E P 0 a _ cap w h2 h3 (by unfold askZ fmtZ;rw [if_pos (by decide),if_neg hF];decide)
theorem next_same (E P:Int) (n:Nat) (up:Bool) (hn:W128 n):NextSame E P n up:=by
 by_cases h:Fmt E P∧∀ m∈[n],m<2^(E.toNat+P.toNat)
 ·obtain ⟨hF,h2⟩:=h;obtain ⟨e,p,rfl,rfl⟩:=fmt_nat hF;have hlt:n<2^(e+p):=h2 n (by simp);have hE:=(fmt_bounds hF).1.1;have hP:=(fmt_bounds hF).2.1.1;obtain ⟨k,hk,hk1,hk5⟩:=wkind_nat e p n
  by_cases h4:4≤k
  ·refine ⟨0,0,4,fun w => ?_,fun w => ?_⟩
   ·cases up
    ·exact Next_nan_d e p n w hF hlt (by omega)
    ·exact Next_nan_u e p n w hF hlt (by omega)
   ·cases up
    ·exact rnextw_nan_false e p n k _ _ w hF hlt hk rfl rfl hk5 h4
    ·exact rnextw_nan_true e p n k _ _ w hF hlt hk rfl rfl hk5 h4
  ·cases up
   ·obtain ⟨r0,r1,er⟩:=Word.shape (nextD e p n);refine ⟨r0,r1,0,fun w => ?_,fun w => ?_⟩
    ·rw [←er];exact Next_dn e p n w hF hlt (by omega)
    ·rw [←er,nextD_same hE (by omega) hlt hk (by omega) rfl,←(flip_parts (by omega) (by omega) hlt).2.2]
     exact rnextw_down e p n k _ _ w hF hlt hk rfl rfl hk5 (by omega) k _ _ (by rw [flip_kind (by omega) (by omega) hlt,hk]) rfl rfl (by omega)
   ·obtain ⟨r0,r1,er⟩:=Word.shape (nextU e p n);refine ⟨r0,r1,0,fun w => ?_,fun w => ?_⟩
    ·rw [←er];exact Next_up e p n w hF hlt (by omega)
    ·rw [←er,nextU_same hE (by omega) hlt hk (by omega) rfl]
     exact rnextw_up e p n k _ _ w hF hlt hk rfl rfl hk5 (by omega)
 ·obtain ⟨z,hz,h1,h2⟩:=words_err E P [n] h;refine ⟨0,0,z,fun w => ?_,fun w => ?_⟩
  ·cases up
   ·exact Next_bad_false E P z n w hz hn (hid h1)
   ·exact Next_bad_true E P z n w hz hn (hid h1)
  ·cases up
   ·exact rnextw_bad_false E P z n w hz hn (hid h2)
   ·exact rnextw_bad_true E P z n w hz hn (hid h2)
def CmpSame (E P:Int) (n1 n2:Nat):Prop:=∃ (o f z:Int),
 (∀ w,Calls Tryz.prog 16 #[.agg #[.int .i64 E,.int .i64 P],Word n1,Word n2] w fun e w'=>e=.returned (.tuple #[.int .i64 o,.int .i64 f,.int .i64 z])∧Ext w w') ∧
 (∀ w,Calls Tryz.prog 20 #[.agg #[.int .i64 E,.int .i64 P],Word n1,Word n2] w fun e w'=>e=.returned (.tuple #[.int .i64 o,.int .i64 f,.int .i64 z])∧Ext w w')
theorem place_sm {E P n:Nat} (hF:Fmt E P) (_hn:n<2^(E+P)) (hs:SmQ 6000 (wvalK E P (bias E) n)):SmQ 6001 (placeQ P (bias E) (wkind E P n) (wn E P n) (wvalK E P (bias E) n)):=by
 have h1:=(grQ_smF hF);have h2:SmQ 6001 (grQ P (bias E)+1):=((h1.mono (by decide:2000≤2000)).add (SmQ.int (K:=2) (n:=1) (by decide) (by decide))).mono (by decide);unfold placeQ
 split
 ·split
  ·exact h2.neg
  ·exact h2
 ·exact hs.mono (by decide)
theorem cmpz_same (E P:Int) (n1 n2:Nat) (h1:W128 n1) (h2:W128 n2):CmpSame E P n1 n2:=by
 by_cases h:Fmt E P∧∀ m∈[n1,n2],m<2^(E.toNat+P.toNat)
 ·obtain ⟨hF,h3⟩:=h;obtain ⟨e,p,rfl,rfl⟩:=fmt_nat hF;have l1:n1<2^(e+p):=h3 n1 (by simp);have l2:n2<2^(e+p):=h3 n2 (by simp);have hE:=(fmt_bounds hF).1.1;have hP:=(fmt_bounds hF).2.1.1;obtain ⟨k1,hk1,_,hk1b⟩:=wkind_nat e p n1;obtain ⟨k2,hk2,_,hk2b⟩:=wkind_nat e p n2;refine ⟨_,_,0,fun w=>Cmp_good e p n1 n2 k1 k2 w hF l1 l2 hk1 hk2 hk1b hk2b,fun w => ?_⟩;rw [cmpw_same hE (by omega) hk1 hk2];have s1:=place_sm hF l1 ((wvalK_small hF).mono (by decide));have s2:=place_sm hF l2 ((wvalK_small hF).mono (by decide));rw [hk1] at s1;rw [hk2] at s2
  exact rcmpw_good e p n1 n2 k1 k2 _ _ _ _ 6001 w hF l1 l2 hk1 hk2 rfl rfl rfl rfl hk1b hk2b s1 s2 (by decide)
 ·obtain ⟨z,hz,c1,c2⟩:=words_err E P [n1,n2] h
  exact ⟨0,0,z,fun w=>Cmp_bad E P z n1 n2 w hz h1 h2 (hid c1),fun w=>rcmpw_bad E P z n1 n2 w hz h1 h2 (hid c2)⟩
end Go.Proofs.YtopmjkkjlagfcaaGreatDoor
