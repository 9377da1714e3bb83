/- floats: round. -/
import Derived.Test.YtgabigepocfllaaGreatDoorQ24
namespace Go.Proofs.YtgabigepocfllaaGreatDoor
open Go.RowKit Vn
set_option maxRecDepth 100000
set_option maxHeartbeats 8000000
def absQ (q:Rat):Rat:=mkq false q.num.natAbs q.den
theorem absQ_eq (q:Rat):absQ q=if q.num<0 then -q else q:=neg_num_abs q
theorem num_neg_iff {q:Rat}:q.num<0↔q<0:=by
 rw [←Rat.not_le,←Rat.num_nonneg];omega
theorem absQ_pos {q:Rat} (h:q.num≠0):0<absQ q:=by
 rw [absQ_eq];have hq:q≠0:=fun e=>h (by rw [e];rfl)
 split
 ·rename_i h2
  have:=num_neg_iff.1 h2
  grind
 ·rename_i h2
  have:0≤q:=Rat.num_nonneg.1 (by omega)
  grind
theorem absQ_num_pos {q:Rat} (h:q.num≠0):0<(absQ q).num:=by
 have h1:=absQ_pos h;have h2:0≤(absQ q).num:=Rat.num_nonneg.2 (Rat.le_of_lt h1)
 rcases Int.lt_or_le 0 (absQ q).num with h3 | h3
 ·exact h3
 ·have:absQ q=0:=Rat.num_eq_zero.1 (by omega)
  rw [this] at h1;exact absurd h1 (Rat.lt_irrefl)
theorem SmQ.absQ {K:Nat} {q:Rat} (h:SmQ K q):SmQ K (absQ q):=by
 rw [absQ_eq];split
 ·exact h.neg
 ·exact h
theorem IsLog.bound {K:Nat} {q:Rat} {l:Int} (h:IsLog q l) (s:SmQ K q) : -(K:Int)-1≤l∧l≤K:=by
 have hp:0<q.num:=by
  have h1:=h.pos;have h2:0≤q.num:=Rat.num_nonneg.2 (Rat.le_of_lt h1)
  rcases Int.lt_or_le 0 q.num with h3 | h3
  ·exact h3
  ·have:q=0:=Rat.num_eq_zero.1 (by omega)
   rw [this] at h1;exact absurd h1 (Rat.lt_irrefl)
 have hd:=den_pos q
 constructor
 ·have h1:(2:Rat)^(((0:Nat):Int)-(K:Nat))≤q:=(p2_le hp 0 K).2 (by
   have:=s.2;unfold Sm at this
   have e:1*2^K≤q.num.natAbs*2^K:=Nat.mul_le_mul_right _ (by omega)
   omega)
  have h2:(2:Rat)^(((0:Nat):Int)-(K:Nat))<(2:Rat)^(l+1):=by have:=h.2;grind
  rw [p2_lt_iff] at h2
  omega
 ·have h1:q<(2:Rat)^(((K:Nat):Int)-(0:Nat)):=(lt_p2 hp K 0).2 (by
   have:=s.1;unfold Sm at this
   have e:1*2^K≤q.den*2^K:=Nat.mul_le_mul_right _ (by omega)
   omega)
  have h2:(2:Rat)^l<(2:Rat)^(((K:Nat):Int)-(0:Nat)):=by have:=h.1;grind
  rw [p2_lt_iff] at h2
  omega
def rdF (b:Nat) (l:Int):Nat:=(max (l+b-1) 0).toNat
def rdK (P b:Nat) (l:Int):Int:=2-(b:Int)-P+rdF b l
def rdT (P b:Nat) (l:Int) (q:Rat):Rat:=absQ q*(2:Rat)^(-(rdK P b l))
def rdN (P b:Nat) (l:Int) (q:Rat):Nat:=(rdT P b l q).floor.toNat
def roundR (E P b m:Nat) (q:Rat) (l:Int):Nat×Nat :=
 endR E P b m (decide (q.num<0)) (rdN P b l q) (rdF b l) (decide ((rdT P b l q).den=1)) (cmpQ ((rdT P b l q-(rdN P b l q:Nat))*2) 1) (decide (l<1-(b:Int)))
theorem rdT_nonneg (P b:Nat) (l:Int) (q:Rat):0≤rdT P b l q:=by
 unfold rdT;have h1:=p2_pos (-(rdK P b l));have h2:0≤absQ q:=by
  rw [absQ_eq];split
  ·rename_i h;have:=num_neg_iff.1 h;grind
  ·rename_i h;exact Rat.num_nonneg.1 (by omega)
 have:=Rat.mul_nonneg h2 (Rat.le_of_lt h1)
 exact this
theorem rdN_floor (P b:Nat) (l:Int) (q:Rat):(rdT P b l q).floor=((rdN P b l q:Nat):Int):=by
 unfold rdN
 have:0≤(rdT P b l q).floor:=by rw [Rat.le_floor_iff];exact rdT_nonneg P b l q
 omega
theorem rdN_lt {P b:Nat} {l:Int} {q:Rat} (h:IsLog (absQ q) l):rdN P b l q<2^P:=by
 have h1:rdT P b l q<(2:Rat)^(P:Int):=by
  unfold rdT;have h2:absQ q*(2:Rat)^(-(rdK P b l))<(2:Rat)^(l+1)*(2:Rat)^(-(rdK P b l)):=(Rat.mul_lt_mul_right (p2_pos _)).2 h.2;rw [←p2_add] at h2;have h3:(2:Rat)^(l+1 + -(rdK P b l))≤(2:Rat)^(P:Int):=p2_mono (by unfold rdK rdF;omega)
  grind
 have h2:(rdT P b l q).floor<((2^P:Nat):Int):=by
  rw [Rat.floor_lt_iff];rw [p2_nat] at h1
  exact h1
 rw [rdN_floor] at h2
 omega
theorem rdN_ge {P b:Nat} {l:Int} {q:Rat} (hP:1≤P) (h:IsLog (absQ q) l):rdF b l=0∨2^(P-1)≤rdN P b l q:=by
 rcases Nat.eq_zero_or_pos (rdF b l) with h0 | h0
 ·exact .inl h0
 ·right
  have h1:(2:Rat)^(((P-1:Nat):Int))≤rdT P b l q:=by
   unfold rdT;have h2:(2:Rat)^l*(2:Rat)^(-(rdK P b l))≤absQ q*(2:Rat)^(-(rdK P b l)):=Rat.mul_le_mul_of_nonneg_right h.1 (Rat.le_of_lt (p2_pos _));rw [←p2_add] at h2;have h3:((P-1:Nat):Int)=l + -(rdK P b l):=by unfold rdK;unfold rdF at *;omega
   rw [h3];exact h2
  have h2:((2^(P-1):Nat):Int)≤(rdT P b l q).floor:=by
   rw [Rat.le_floor_iff];rw [p2_nat] at h1
   exact h1
  rw [rdN_floor] at h2
  omega
theorem SmQ.mk {K:Nat} (n:Int) (d:Nat) (hd:d≠0) (h1:n.natAbs<2^K) (h2:d<2^K):SmQ K (mkRat n d):=by
 have e:mkRat n d=mkq (decide (n<0)) n.natAbs d:=by
  unfold mkq sg
  by_cases h:n<0
  ·simp only [h,decide_true,if_true];congr 1;omega
  ·simp only [h,decide_false];congr 1;simp;omega
 rw [e];unfold SmQ Sm;rw [mkq_natAbs _ _ _ hd,mkq_den _ _ _ hd]
 exact ⟨Nat.lt_of_le_of_lt (Nat.div_le_self _ _) h1,Nat.lt_of_le_of_lt (Nat.div_le_self _ _) h2⟩
theorem SmQ.add {K L:Nat} {q r:Rat} (h:SmQ K q) (k:SmQ L r):SmQ (K+L+1) (q+r):=by
 rw [Rat.add_def'];have e:(2:Nat)^(K+L+1)=2^K*2^L*2:=by rw [Nat.pow_succ,Nat.pow_add]
 have a1:q.num.natAbs*r.den<2^K*2^L:=Nat.mul_lt_mul_of_lt_of_le h.1 (Nat.le_of_lt k.2) (Nat.pow_pos (by decide));have a2:r.num.natAbs*q.den<2^L*2^K:=Nat.mul_lt_mul_of_lt_of_le k.1 (Nat.le_of_lt h.2) (Nat.pow_pos (by decide));have a3:q.den*r.den<2^K*2^L:=Nat.mul_lt_mul_of_lt_of_le h.2 (Nat.le_of_lt k.2) (Nat.pow_pos (by decide));rw [Nat.mul_comm (2^L)] at a2;refine SmQ.mk _ _ (Nat.mul_ne_zero q.den_nz r.den_nz) ?_ (by rw [e];omega);have b1:(q.num*(r.den:Int)).natAbs=q.num.natAbs*r.den:=by rw [Int.natAbs_mul];simp
 have b2:(r.num*(q.den:Int)).natAbs=r.num.natAbs*q.den:=by rw [Int.natAbs_mul];simp
 have b3:=Int.natAbs_add_le (q.num*(r.den:Int)) (r.num*(q.den:Int));rw [e]
 omega
theorem SmQ.sub {K L:Nat} {q r:Rat} (h:SmQ K q) (k:SmQ L r):SmQ (K+L+1) (q-r):=by
 rw [Rat.sub_eq_add_neg];exact h.add k.neg
theorem absQ_parts (q:Rat):(absQ q).num.natAbs=q.num.natAbs∧(absQ q).den=q.den:=by
 rw [absQ_eq];split
 ·simp [Rat.neg_num,Rat.neg_den]
 ·exact ⟨rfl,rfl⟩
theorem logA_c (x:Value) (q:Rat) (K:Nat) (w:World) (hx:NumV w x q) (sx:SmQ K q) (hK:K≤10000000) (h:q.num≠0) :
  Calls Tryz.prog 237 #[x] w fun e w'=>∃ k,e=.returned (.int .i64 k)∧IsLog (absQ q) k∧Ext w w':=by
 have h1:bl q.num.natAbs≤K:=bl_le_of_lt sx.1;have h2:bl q.den≤K:=bl_le_of_lt sx.2;refine (log_core x q K _ _ w hx sx hK (hid rfl) (by omega) (by omega) (hid rfl)).mono ?_;rintro e w' ⟨rfl,g⟩;obtain ⟨e1,e2⟩:=absQ_parts q;have hl:=log_is (absQ_num_pos h) _ rfl;rw [e1,e2] at hl
 exact ⟨_,rfl,hl,g⟩
theorem LogA_c (x:Value) (q:Rat) (K:Nat) (w:World) (hx:NumV w x q) (sx:SmQ K q) (hK:K≤10000000) (h:q.num≠0) :
  Calls Tryz.prog 191 #[x] w fun e w'=>∃ k,e=.returned (.tuple #[.int .i64 k,.int .i64 0])∧IsLog (absQ q) k∧Ext w w':=by
 obtain ⟨ng,a,n,c,a',n',c',rfl⟩:=hx.shape;obtain ⟨W0,hW0⟩:∃ W0,W0=w.alloc (.cells #[.bool ng,.slice a n c,.slice a' n' c'] 40):=⟨_,rfl⟩;have HE:Hid (Ext w W0):=hid (by rw [hW0];exact Ext.alloc w _);have hBx:Box W0 w.heap.size #[.bool ng,.slice a n c,.slice a' n' c'] 40:=by rw [hW0];exact Box.new w _ _
 have HS:Hid (∀ w',Ext W0 w'→Tri w.heap.size (.bool ng) (.slice a n c) (.slice a' n' c') w'):=hid fun w' h=>Tri.of (hBx.ext h);have Hx:=hid hx;have hb0:Ext W0 W0.drew:=Below.drew (Below.refl _ W0);have HK:=hid hK;have Sx:=hid sx;have H0:=hid h;have hs:(q.num.sign==0)=false:=beq_eq_false_iff_ne.2 (fun e=>h (Int.sign_eq_zero_iff_zero.1 e));clear hx hBx hK sx h;obtain ⟨x0,x1,x2⟩:=HS.o _ (Below.refl _ W0)
 go_enter Tryz.func191,Tryz.ntmps191
 go_wp2_with fail;rw [←hW0];clear hW0;refine (sign_c _ q _ (Hx.o.ext HE.o)).mono ?_;rintro e w1 ⟨rfl,hb1⟩;clear x0 x1 x2;obtain ⟨x0,x1,x2⟩:=HS.o _ hb1;go_wp2_with fail;refine (logA_c _ q K _ (Hx.o.ext (HE.o.trans hb1)) Sx.o HK.o H0.o).mono ?_;rintro e w2 ⟨k,rfl,hl,g2⟩;have Hl:=hid hl;clear hl;go_wp2_with fail
 exact bodyPost_ret (v:=.tuple #[.int .i64 k,.int .i64 0]) (by simp [results,Tryz.results191,go_sem]) rfl ⟨k,rfl,Hl.o,HE.o.trans (hb1.trans g2)⟩
theorem flogA_c (x:Value) (q:Rat) (K:Nat) (w:World) (hx:NumV w x q) (sx:SmQ K q) (hK:K≤10000000) (h:q.num≠0) :
  Calls Tryz.prog 100 #[x] w fun e w'=>∃ k,e=.returned (.int .i64 k)∧IsLog (absQ q) k∧Ext w w':=by
 obtain ⟨ng,a,n,c,a',n',c',rfl⟩:=hx.shape;obtain ⟨W0,hW0⟩:∃ W0,W0=w.alloc (.cells #[.bool ng,.slice a n c,.slice a' n' c'] 40):=⟨_,rfl⟩;have HE:Hid (Ext w W0):=hid (by rw [hW0];exact Ext.alloc w _);have hBx:Box W0 w.heap.size #[.bool ng,.slice a n c,.slice a' n' c'] 40:=by rw [hW0];exact Box.new w _ _
 have HS:Hid (∀ w',Ext W0 w'→Tri w.heap.size (.bool ng) (.slice a n c) (.slice a' n' c') w'):=hid fun w' h=>Tri.of (hBx.ext h);have Hx:=hid hx;have hb0:Ext W0 W0.drew:=Below.drew (Below.refl _ W0);have HK:=hid hK;have Sx:=hid sx;have H0:=hid h;clear hx hBx hK sx h;obtain ⟨x0,x1,x2⟩:=HS.o _ (Below.refl _ W0)
 go_enter Tryz.func100,Tryz.ntmps100
 go_wp2_with fail;rw [←hW0];clear hW0;refine (LogA_c _ q K _ (Hx.o.ext HE.o) Sx.o HK.o H0.o).mono ?_;rintro e w1 ⟨k,rfl,hl,hb1⟩;have Hl:=hid hl;clear hl;go_wp2_with fail;go_ret
 exact ⟨k,rfl,Hl.o,HE.o.trans hb1⟩
def OpV (w:World) (v:Value) (kind:Int) (neg:Bool) (q:Rat):Prop :=
 ∃ (ng:Bool) (a:Option Addr) (n c:Nat) (a':Option Addr) (n' c':Nat),v=.agg #[.int .i64 kind,.bool neg,.bool ng,.slice a n c,.slice a' n' c']∧NumV w (.agg #[.bool ng,.slice a n c,.slice a' n' c']) q
theorem OpV.ext {w w':World} {v:Value} {kind:Int} {neg:Bool} {q:Rat} (h:OpV w v kind neg q) (k:Ext w w'):OpV w' v kind neg q:=by
 obtain ⟨ng,a,n,c,a',n',c',h1,h2⟩:=h;exact ⟨ng,a,n,c,a',n',c',h1,h2.ext k⟩
def wf (E P n:Nat):Nat:=n/2^(P-1)%2^E
def wr (P n:Nat):Nat:=n%2^(P-1)
def wn (E P n:Nat):Bool:=decide (n/2^(E+P-1)≠0)
def wfr (E P n:Nat):Nat:=if wf E P n=0 then wr P n else wr P n+2^(P-1)
def wval (E P b n:Nat):Rat:=(if wn E P n=true then -1 else 1)*(((wfr E P n:Nat):Rat)*(2:Rat)^(2-(b:Int)-P+((max (wf E P n) 1-1:Nat):Int)))
def wkind (E P n:Nat):Int:=if wf E P n=2^E-1 then (if wr P n=0 then 3 else if bl (wr P n)=P-1 then 4 else 5) else if wf E P n=0∧wr P n=0 then 1 else 2
def wvalK (E P b n:Nat):Rat:=if wkind E P n=2 then wval E P b n else if wkind E P n=4 then ((wr P n%2^(P-2):Nat):Rat) else if wkind E P n=5 then ((wr P n:Nat):Rat) else 0
theorem cmpQ_self (q:Rat):cmpQ q q=0:=by
 have:¬ q<q:=Rat.lt_irrefl
 simp [cmpQ,this]
theorem sign_neg {q:Rat}:q.num.sign<0↔q<0:=by
 rw [Int.sign_neg_iff];exact num_neg_iff
theorem cmpQ_lt {q r:Rat}:cmpQ q r<0↔q<r:=by
 unfold cmpQ
 split
 ·rename_i h;exact ⟨fun _=>h,fun _=>by decide⟩
 ·rename_i h
  split
  ·exact ⟨fun k=>absurd k (by decide),fun k=>absurd k h⟩
  ·exact ⟨fun k=>absurd k (by decide),fun k=>absurd k h⟩
theorem cmpQ_gt {q r:Rat}:0<cmpQ q r↔r<q:=by
 unfold cmpQ
 split
 ·rename_i h;exact ⟨fun k=>absurd k (by decide),fun k=>absurd k (by grind)⟩
 ·split
  ·rename_i h1 h;exact ⟨fun _=>h,fun _=>by decide⟩
  ·rename_i h1 h;exact ⟨fun k=>absurd k (by decide),fun k=>absurd k h⟩

def valueR (E P n:Nat):Rat×Int:=if ¬ n<2^(E+P) then (0,6) else if 2<wkind E P n then (0,4) else (wvalK E P (bias E) n,0)
def rnd (E P b m:Nat) (q:Rat) (l:Int):Nat×Nat:=if q=0 then (0,0) else roundR E P b m q l
theorem pow_EP {E P:Nat} (hP:1≤P):2^(E+P-1)=2^(P-1)*2^E:=by rw [←Nat.pow_add];congr 1;omega
theorem wordN_eq {E P:Nat} (neg:Bool) {n f:Nat} (h:n+f*2^(P-1)<2^(E+P-1)):wordN E P neg n f=n+f*2^(P-1)+2^(E+P-1)*(if neg=true then 1 else 0):=by
 unfold wordN sgb;rw [Nat.or_comm]
 cases neg
 ·simp
 ·simp only [if_true]
  have:=or_add (b:=1) h
  rw [Nat.mul_one] at this;rw [this,Nat.mul_one]
theorem wordN_wf {E P:Nat} (hP:1≤P) (neg:Bool) {n f:Nat} (h:n+f*2^(P-1)<2^(E+P-1)):wf E P (wordN E P neg n f)=(n+f*2^(P-1))/2^(P-1):=by
 rw [wordN_eq neg h];unfold wf;have hp:0<2^(P-1):=Nat.pow_pos (by decide);have h2:(n+f*2^(P-1))/2^(P-1)<2^E:=by
  rw [Nat.div_lt_iff_lt_mul hp,Nat.mul_comm (2^E),←pow_EP hP];exact h
 rw [pow_EP hP,Nat.mul_assoc,Nat.add_mul_div_left _ _ hp,Nat.add_mul_mod_self_left,Nat.mod_eq_of_lt h2]
theorem wordN_wr {E P:Nat} (hP:1≤P) (neg:Bool) {n f:Nat} (h:n+f*2^(P-1)<2^(E+P-1)):wr P (wordN E P neg n f)=n%2^(P-1):=by
 rw [wordN_eq neg h];unfold wr;rw [pow_EP hP,Nat.mul_assoc,Nat.add_mul_mod_self_left,Nat.add_mul_mod_self_right]
theorem wordN_wn {E P:Nat} (neg:Bool) {n f:Nat} (h:n+f*2^(P-1)<2^(E+P-1)):wn E P (wordN E P neg n f)=neg:=by
 rw [wordN_eq neg h];unfold wn;have hp:0<2^(E+P-1):=Nat.pow_pos (by decide);rw [Nat.add_mul_div_left _ _ hp,Nat.div_eq_of_lt h]
 cases neg<;>simp
theorem wordN_val {E P b:Nat} (hP:1≤P) (neg:Bool) {n f:Nat} (h:n+f*2^(P-1)<2^(E+P-1)) (hn:n≤2^P) (hf:f=0∨2^(P-1)≤n) :
  wval E P b (wordN E P neg n f)=(if neg=true then -1 else 1)*(((n:Nat):Rat)*(2:Rat)^(2-(b:Int)-P+(f:Nat))):=by
 unfold wval wfr;rw [wordN_wn neg h,wordN_wf hP neg h,wordN_wr hP neg h];have hp:0<2^(P-1):=Nat.pow_pos (by decide);have hPP:2^P=2*2^(P-1):=by rw [←Nat.pow_succ'];congr 1;omega
 have hd:(n+f*2^(P-1))/2^(P-1)=n/2^(P-1)+f:=Nat.add_mul_div_right _ _ hp;rw [hd]
 congr 1
 rcases Nat.lt_or_ge n (2^(P-1)) with h1 | h1
 ·obtain rfl:f=0:=by omega
  rw [Nat.div_eq_of_lt h1,Nat.mod_eq_of_lt h1]
  simp
 ·rcases Nat.lt_or_ge n (2^P) with h2 | h2
  ·have e1:n/2^(P-1)=1:=by
    rw [Nat.div_eq_iff hp];omega
   have e2:n%2^(P-1)+2^(P-1)=n:=by
    have:=Nat.div_add_mod n (2^(P-1));rw [e1] at this;omega
   rw [e1,if_neg (by omega),e2]
   congr 2;omega
  ·have e0:n=2^(P-1)*2:=by omega
   have e1:n/2^(P-1)=2:=by rw [e0,Nat.mul_div_cancel_left _ hp]
   have e2:n%2^(P-1)=0:=by rw [e0,Nat.mul_mod_right]
   rw [e1,e2,if_neg (by omega),Nat.zero_add,e0,Rat.natCast_mul];have e3:(2-(b:Int)-P+((max (2+f) 1-1:Nat):Int))=2-(b:Int)-P+(f:Nat)+1:=by omega
   rw [e3,p2_succ]
   grind
def IsVal (P b:Nat) (q:Rat):Prop:=∃ (m:Nat) (j:Int),2-(b:Int)-P≤j∧m<2^P∧absQ q=(m:Rat)*(2:Rat)^j
theorem isVal_step {P b:Nat} {q:Rat} {l:Int} (hl:IsLog (absQ q) l) (h:IsVal P b q):∃ N:Nat,rdT P b l q=(N:Rat)∧absQ q=(N:Rat)*(2:Rat)^(rdK P b l):=by
 obtain ⟨m,j,h1,h2,h3⟩:=h;have hk:rdK P b l≤j:=by
  rcases Int.lt_or_le j (rdK P b l) with h4 | h4
  ·have e:rdK P b l=l-P+1:=by unfold rdK at *;unfold rdF at *;omega
   have h5:absQ q<(2:Rat)^((P:Int)+j):=by
    rw [h3,p2_add,Rat.mul_lt_mul_right (p2_pos j),p2_nat,Rat.natCast_lt_natCast];exact h2
   have h6:(2:Rat)^l<(2:Rat)^((P:Int)+j):=by have:=hl.1;grind
   rw [p2_lt_iff] at h6
   omega
  ·exact h4
 obtain ⟨d,hd⟩:∃ d:Nat,j=rdK P b l+d:=⟨(j-rdK P b l).toNat,by omega⟩;have e:absQ q=((m*2^d:Nat):Rat)*(2:Rat)^(rdK P b l):=by
  rw [h3,hd,p2_add,p2_nat,Rat.natCast_mul];grind
 refine ⟨m*2^d,?_,e⟩;unfold rdT;rw [e,Rat.mul_assoc,p2_cancel',Rat.mul_one]
theorem rdN_of {P b:Nat} {l:Int} {q:Rat} {N:Nat} (h:rdT P b l q=(N:Rat)):rdN P b l q=N:=by
 unfold rdN;rw [h,show ((N:Nat):Rat)=(((N:Nat):Int):Rat) from rfl,Rat.floor_intCast];rfl
theorem round_exact {E P b m:Nat} {q:Rat} {l:Int} (hl:IsLog (absQ q) l) (h:IsVal P b q) (hg:absQ q≤grQ P b) :
  roundR E P b m q l=(wordN E P (decide (q.num<0)) (rdN P b l q) (rdF b l),0)∧absQ q=(rdN P b l q:Rat)*(2:Rat)^(2-(b:Int)-P+(rdF b l:Nat)):=by
 obtain ⟨N,h1,h2⟩:=isVal_step hl h;have hN:=rdN_of h1;have hk:rdK P b l=2-(b:Int)-P+(rdF b l:Nat):=rfl;rw [hk] at h2;rw [hN];refine ⟨?_,h2⟩;unfold roundR endR;have hd:(rdT P b l q).den=1:=by rw [h1];rfl
 have e1:endN m (decide (q.num<0)) (rdN P b l q) (decide ((rdT P b l q).den=1)) (cmpQ ((rdT P b l q-(rdN P b l q:Nat))*2) 1)=N:=by
  unfold endN;rw [hd,hN];simp
 have e2:endF (decide ((rdT P b l q).den=1)) (decide (l<1-(b:Int)))=0:=by unfold endF;rw [hd];simp
 rw [e1,e2,if_pos (by rw [←h2];exact hg)]
theorem absQ_sign (q:Rat):(if decide (q.num<0)=true then -1 else 1)*absQ q=q:=by
 rw [absQ_eq]
 by_cases h:q.num<0
 ·rw [if_pos (decide_eq_true h),if_pos h];grind
 ·rw [if_neg (by rw [decide_eq_false h];decide),if_neg h];grind
theorem round_exact_val {E P b m:Nat} {q:Rat} {l:Int} (hP:1≤P) (hl:IsLog (absQ q) l) (h:IsVal P b q) (hg:absQ q≤grQ P b) (hlt:rdN P b l q+rdF b l*2^(P-1)<2^(E+P-1)) :
  wval E P b (roundR E P b m q l).1=q:=by
 obtain ⟨h1,h2⟩:=round_exact (E:=E) (m:=m) hl h hg;rw [h1,wordN_val hP _ hlt (Nat.le_of_lt (rdN_lt hl)) (rdN_ge hP hl),←h2,absQ_sign]
theorem absQ_nonneg {x:Rat} (h:0≤x):absQ x=x:=by
 rw [absQ_eq,if_neg]
 intro h2
 have:=num_neg_iff.1 h2
 grind
theorem absQ_neg (x:Rat):absQ (-x)=absQ x:=by
 unfold absQ;rw [Rat.neg_num,Rat.neg_den,Int.natAbs_neg]
theorem absQ_signed {x:Rat} (h:0≤x) (s:Bool):absQ ((if s=true then -1 else 1)*x)=x:=by
 cases s
 ·rw [if_neg (by decide),Rat.one_mul];exact absQ_nonneg h
 ·rw [if_pos rfl,Rat.neg_mul,Rat.one_mul,absQ_neg];exact absQ_nonneg h
theorem steps_nonneg (n:Nat) (k:Int):0≤((n:Nat):Rat)*(2:Rat)^k:=by
 have h1:(0:Rat)≤((n:Nat):Rat):=by exact_mod_cast Nat.zero_le n
 exact Rat.mul_nonneg h1 (Rat.le_of_lt (p2_pos k))
theorem two_bias {E:Nat} (hE:1≤E):2^E=2*bias E+2:=by
 unfold bias;have h1:1≤2^(E-1):=Nat.pow_pos (by decide);have h2:2^E=2*2^(E-1):=by rw [←Nat.pow_succ'];congr 1;omega
 omega
theorem wfr_lt {E P n:Nat} (hP:1≤P):wfr E P n<2^P:=by
 have h1:wr P n<2^(P-1):=Nat.mod_lt _ (Nat.pow_pos (by decide));have h3:2^P=2*2^(P-1):=by rw [←Nat.pow_succ'];congr 1;omega
 unfold wfr;split<;>omega
theorem wval_abs (E P b n:Nat):absQ (wval E P b n)=((wfr E P n:Nat):Rat)*(2:Rat)^(2-(b:Int)-P+((max (wf E P n) 1-1:Nat):Int)):=by
 unfold wval;exact absQ_signed (steps_nonneg _ _) _
theorem wval_isVal {E P b n:Nat} (hP:1≤P):IsVal P b (wval E P b n) :=
 ⟨_,_,by omega,wfr_lt hP,wval_abs E P b n⟩
theorem wval_le {E P n:Nat} (hE:2≤E) (hP:1≤P) (h:wf E P n≠2^E-1):absQ (wval E P (bias E) n)≤grQ P (bias E):=by
 have hf:wf E P n<2^E:=Nat.mod_lt _ (Nat.pow_pos (by decide));have h2:=two_bias (E:=E) (by omega);have hb:1≤bias E:=by
  have:2^2≤2^E:=Nat.pow_le_pow_right (by decide) hE
  omega
 rw [wval_abs];unfold grQ;have h1:=wfr_lt (E:=E) (P:=P) (n:=n) hP;have h3:(2:Rat)^(2-(bias E:Int)-P+((max (wf E P n) 1-1:Nat):Int))≤(2:Rat)^((bias E:Int)-P+1):=p2_mono (by omega);have h4:((wfr E P n:Nat):Rat)≤((2^P-1:Nat):Rat):=by rw [Rat.natCast_le_natCast];omega
 have h0:(0:Rat)≤((2^P-1:Nat):Rat):=by exact_mod_cast Nat.zero_le _
 exact Rat.le_trans (Rat.mul_le_mul_of_nonneg_right h4 (Rat.le_of_lt (p2_pos _))) (Rat.mul_le_mul_of_nonneg_left h3 h0)
theorem rd_fits {E P n f:Nat} (hE:1≤E) (hP:1≤P) (hn:n<2^P) (hf:f=0∨2^(P-1)≤n) (hg:((n:Nat):Rat)*(2:Rat)^(2-(bias E:Int)-P+(f:Nat))≤grQ P (bias E)):n+f*2^(P-1)<2^(E+P-1):=by
 have hfb:f≤2*bias E:=by
  rcases hf with h | h
  ·omega
  ·exact f_bound hP h hg
 have h2:=two_bias hE;have h3:2^P=2*2^(P-1):=by rw [←Nat.pow_succ'];congr 1;omega
 rw [pow_EP hP,h2];have h4:f*2^(P-1)≤2*bias E*2^(P-1):=Nat.mul_le_mul_right _ hfb;have h5:2^(P-1)*(2*bias E+2)=2*bias E*2^(P-1)+2*2^(P-1):=by rw [Nat.mul_add,Nat.mul_comm,Nat.mul_comm (2^(P-1)) 2]
 omega
theorem IsVal.neg {P b:Nat} {q:Rat} (h:IsVal P b q):IsVal P b (-q):=by
 obtain ⟨m,j,h1,h2,h3⟩:=h
 exact ⟨m,j,h1,h2,by rw [absQ_neg];exact h3⟩
theorem absQ_int (z:Int) (k:Int):absQ ((z:Rat)*(2:Rat)^k)=((z.natAbs:Nat):Rat)*(2:Rat)^k:=by
 rcases Int.le_total 0 z with h | h
 ·have e:(z:Rat)=((z.natAbs:Nat):Rat):=by
   conv=>lhs;rw [show z=((z.natAbs:Nat):Int) by omega]
   rfl
  rw [e];exact absQ_nonneg (steps_nonneg _ _)
 ·have e:(z:Rat) = -((z.natAbs:Nat):Rat):=by
   conv=>lhs;rw [show z = -((z.natAbs:Nat):Int) by omega]
   rw [Rat.intCast_neg];rfl
  rw [e,Rat.neg_mul,absQ_neg];exact absQ_nonneg (steps_nonneg _ _)
theorem finer (m:Nat) {i j:Int} (h:i≤j):∃ d:Nat,((m:Nat):Rat)*(2:Rat)^j=((m*2^d:Nat):Rat)*(2:Rat)^i:=by
 obtain ⟨d,rfl⟩:∃ d:Nat,j=i+d:=⟨(j-i).toNat,by omega⟩
 exact ⟨d,by rw [p2_add,p2_nat,Rat.natCast_mul];grind⟩
theorem floor_le_rd (P b:Nat) (l:Int) (q:Rat):((rdN P b l q:Nat):Rat)≤rdT P b l q∧rdT P b l q<((rdN P b l q:Nat):Rat)+1:=by
 have h1:=Rat.floor_le (rdT P b l q);have h2:=Rat.lt_floor_add_one (rdT P b l q);rw [rdN_floor] at h1 h2;refine ⟨h1,?_⟩;have e:((((rdN P b l q:Nat):Int)+1:Int):Rat)=((rdN P b l q:Nat):Rat)+1:=by rw [Rat.intCast_add];rfl
 rw [e] at h2;exact h2
theorem den_one {t:Rat} (h:t.den=1):((t.floor:Int):Rat)=t:=by
 have e:t=((t.num:Int):Rat):=by
  have:=num_eq t
  rw [h] at this;rw [this];grind
 conv=>rhs;rw [e]
 rw [e,Rat.floor_intCast];rfl
theorem absQ_back (P b:Nat) (q:Rat) (l:Int):absQ q=rdT P b l q*(2:Rat)^(rdK P b l):=by
 unfold rdT;rw [Rat.mul_assoc,p2_cancel,Rat.mul_one]
theorem absQ_ge (x:Rat):x≤absQ x ∧ -x≤absQ x:=by
 rcases Rat.le_total (a:=0) (b:=x) with g | g
 ·rw [absQ_nonneg g];constructor<;>grind
 ·rw [←absQ_neg,absQ_nonneg (by grind)];constructor<;>grind
theorem absQ_cases (x:Rat):x=absQ x∨x = -absQ x:=by
 rcases Rat.le_total (a:=0) (b:=x) with g | g
 ·rw [absQ_nonneg g];exact .inl rfl
 ·right;rw [←absQ_neg,absQ_nonneg (by grind)];grind
theorem IsVal.zero (P b:Nat):IsVal P b 0:=⟨0,_,Int.le_refl _,Nat.pow_pos (by decide),by rw [absQ_nonneg Rat.le_refl];grind⟩
theorem signed_steps {x:Rat} {m:Nat} {i:Int} (h:absQ x=(m:Rat)*(2:Rat)^i):∃ z:Int,z.natAbs=m∧x=(z:Rat)*(2:Rat)^i:=by
 rcases absQ_cases x with hs | hs
 ·exact ⟨(m:Int),by omega,by rw [hs,h];rfl⟩
 ·refine ⟨-(m:Int),by omega,?_⟩;rw [hs,h,Rat.intCast_neg,Rat.neg_mul];rfl

theorem absQ_zero_le (x:Rat):0≤absQ x:=by have:=absQ_ge x;grind
theorem absQ_le_add (x y:Rat):absQ (x-y)≤absQ x+absQ y:=by
 have h1:=absQ_ge x;have h2:=absQ_ge y
 rcases absQ_cases (x-y) with h | h<;>grind
theorem absQ_mul_int (c:Rat) (z:Int) (hz:z≠0):absQ c≤absQ (c*(z:Rat)):=by
 have h0:=absQ_zero_le c;have hp:∀ n:Nat,0<n→absQ c≤absQ (c*(n:Rat)):=by
  intro n hn
  have hn1:(1:Rat)≤(n:Rat):=by exact_mod_cast hn
  have hn0:(0:Rat)≤(n:Rat):=by grind
  have e:absQ (c*(n:Rat))=absQ c*(n:Rat):=by
   rcases Rat.le_total (a:=0) (b:=c) with g | g
   ·rw [absQ_nonneg g,absQ_nonneg (Rat.mul_nonneg g hn0)]
   ·have g':0 ≤ -c:=by grind
    rw [←absQ_neg c,absQ_nonneg g',←absQ_neg,←Rat.neg_mul,absQ_nonneg (Rat.mul_nonneg g' hn0)]
  rw [e]
  have:=Rat.mul_le_mul_of_nonneg_left hn1 h0
  rwa [Rat.mul_one] at this
 rcases Int.lt_or_gt_of_ne hz with h | h
 ·have e:c*(z:Rat) = -(c*((z.natAbs:Nat):Rat)):=by
   have:(z:Rat) = -((z.natAbs:Nat):Rat):=by
    conv=>lhs;rw [show z = -((z.natAbs:Nat):Int) by omega]
    rw [Rat.intCast_neg];rfl
   rw [this];grind
  rw [e,absQ_neg];exact hp _ (by omega)
 ·have e:(z:Rat)=((z.natAbs:Nat):Rat):=by
   conv=>lhs;rw [show z=((z.natAbs:Nat):Int) by omega]
   rfl
  rw [e];exact hp _ (by omega)
theorem rem_val {P b:Nat} {a c:Rat} (ha:IsVal P b a) (hc:IsVal P b c) (z:Int) (h:absQ (a-c*(z:Rat))+absQ (a-c*(z:Rat))≤absQ c):IsVal P b (a-c*(z:Rat)):=by
 have h0:=absQ_zero_le (a-c*(z:Rat));have hra:absQ (a-c*(z:Rat))≤absQ a:=by
  by_cases hz:z=0
  ·subst hz
   have:a-c*((0:Int):Rat)=a:=by
    rw [show ((0:Int):Rat)=0 from rfl];grind
   rw [this];exact Rat.le_refl
  ·have h1:=absQ_mul_int c z hz;have h2:=absQ_le_add a (a-c*(z:Rat));have e:a-(a-c*(z:Rat))=c*(z:Rat):=by grind
   rw [e] at h2
   grind
 have hrc:absQ (a-c*(z:Rat))≤absQ c:=by grind
 obtain ⟨m,i,hi,hm,ex⟩:=ha;obtain ⟨n,j,hj,hn,ey⟩:=hc;obtain ⟨z1,hz1,e1⟩:=signed_steps ex;obtain ⟨z2,hz2,e2⟩:=signed_steps ey;have fin:∀ (k:Int) (N:Nat) (w:Int),2-(b:Int)-P≤k→N<2^P→a-c*(z:Rat)=(w:Rat)*(2:Rat)^k→absQ (a-c*(z:Rat))≤(N:Rat)*(2:Rat)^k→IsVal P b (a-c*(z:Rat)):=by
  intro k N w hk hN e hle
  rw [e] at hle ⊢;rw [absQ_int] at hle;refine ⟨_,k,hk,?_,absQ_int _ _⟩;refine Nat.lt_of_le_of_lt ?_ hN
  rcases Nat.lt_or_ge N w.natAbs with h2 | h2
  ·exfalso
   have h3:((N:Nat):Rat)*(2:Rat)^k<((w.natAbs:Nat):Rat)*(2:Rat)^k:=by
    rw [Rat.mul_lt_mul_right (p2_pos k),Rat.natCast_lt_natCast];exact h2
   grind
  ·exact h2
 rcases Int.le_total i j with hij | hij
 ·obtain ⟨d,rfl⟩:∃ d:Nat,j=i+d:=⟨(j-i).toNat,by omega⟩;refine fin i m (z1-z2*(2^d:Nat)*z) hi hm ?_ (by rw [←ex];exact hra);rw [e1,e2,p2_add,p2_nat,Rat.intCast_sub,Rat.intCast_mul,Rat.intCast_mul]
  show _=((z1:Rat)-(z2:Rat)*((2^d:Nat):Rat)*(z:Rat))*_
  grind
 ·obtain ⟨d,rfl⟩:∃ d:Nat,i=j+d:=⟨(i-j).toNat,by omega⟩;refine fin j n (z1*(2^d:Nat)-z2*z) hj hn ?_ (by rw [←ey];exact hrc);rw [e1,e2,p2_add,p2_nat,Rat.intCast_sub,Rat.intCast_mul,Rat.intCast_mul]
  show _=((z1:Rat)*((2^d:Nat):Rat)-(z2:Rat)*(z:Rat))*_
  grind
theorem endN_le {P b m:Nat} {q:Rat} {l:Int} (hl:IsLog (absQ q) l) (neg is:Bool) (c:Int):endN m neg (rdN P b l q) is c≤2^P∧rdN P b l q≤endN m neg (rdN P b l q) is c:=by
 have:=rdN_lt (P:=P) (b:=b) hl
 unfold endN
 split
 ·omega
 ·split<;>omega
theorem round_val {E P m:Nat} {q:Rat} {l:Int} (_hE:1≤E) (hP:1≤P) (hl:IsLog (absQ q) l) (N:Nat)
  (hN:N=endN m (decide (q.num<0)) (rdN P (bias E) l q) (decide ((rdT P (bias E) l q).den=1)) (cmpQ ((rdT P (bias E) l q-(rdN P (bias E) l q:Nat))*2) 1))
  (hg:((N:Nat):Rat)*(2:Rat)^(rdK P (bias E) l)≤grQ P (bias E)) (hlt:N+rdF (bias E) l*2^(P-1)<2^(E+P-1)) :
  wval E P (bias E) (roundR E P (bias E) m q l).1=(if decide (q.num<0)=true then -1 else 1)*(((N:Nat):Rat)*(2:Rat)^(rdK P (bias E) l)) ∧
  (roundR E P (bias E) m q l).2=endF (decide ((rdT P (bias E) l q).den=1)) (decide (l<1-((bias E:Nat):Int))):=by
 have hb:=endN_le (P:=P) (b:=bias E) (m:=m) hl (decide (q.num<0)) (decide ((rdT P (bias E) l q).den=1)) (cmpQ ((rdT P (bias E) l q-(rdN P (bias E) l q:Nat))*2) 1);rw [←hN] at hb;have hk:rdK P (bias E) l=2-((bias E:Nat):Int)-P+(rdF (bias E) l:Nat):=rfl;have e:roundR E P (bias E) m q l=(wordN E P (decide (q.num<0)) N (rdF (bias E) l),endF (decide ((rdT P (bias E) l q).den=1)) (decide (l<1-((bias E:Nat):Int)))):=by
  unfold roundR endR;rw [←hN,if_pos (by rw [←hk];exact hg)]
 rw [e];refine ⟨?_,rfl⟩;rw [wordN_val hP _ hlt hb.1 (by rcases rdN_ge (b:=bias E) hP hl with h | h;exact .inl h;exact .inr (Nat.le_trans h hb.2)),hk]

theorem Box.c9 {w:World} {b:Nat} {x0 x1 x2 x3 x4 x5 x6 x7 x8:Value} {t:TypeId} (h:Box w b #[x0,x1,x2,x3,x4,x5,x6,x7,x8] t) :
  w.cell? ⟨b,0,none⟩=some x0∧w.cell? ⟨b,1,none⟩=some x1∧w.cell? ⟨b,2,none⟩=some x2∧w.cell? ⟨b,3,none⟩=some x3∧w.cell? ⟨b,4,none⟩=some x4∧w.cell? ⟨b,5,none⟩=some x5∧w.cell? ⟨b,6,none⟩=some x6∧w.cell? ⟨b,7,none⟩=some x7∧w.cell? ⟨b,8,none⟩=some x8 :=
 ⟨h.cell 0,h.cell 1,h.cell 2,h.cell 3,h.cell 4,h.cell 5,h.cell 6,h.cell 7,h.cell 8⟩
theorem kind_fin {E P n:Nat} (h:wf E P n≠2^E-1):wkind E P n≤2:=by unfold wkind;rw [if_neg h];split<;>omega
theorem fin_wf {E P n:Nat} (h:wkind E P n≤2):wf E P n≠2^E-1:=by
 intro e
 unfold wkind at h;rw [if_pos e] at h
 split at h
 ·omega
 ·split at h<;>omega
theorem wvalK_fin {E P b n:Nat} (h:wkind E P n≤2):wvalK E P b n=wval E P b n:=by
 unfold wvalK
 by_cases h2:wkind E P n=2
 ·rw [if_pos h2]
 ·rw [if_neg h2,if_neg (by omega),if_neg (by omega)];have hk:wf E P n=0∧wr P n=0:=by
   have hne:=fin_wf h;unfold wkind at h2;rw [if_neg hne] at h2
   by_cases h3:wf E P n=0∧wr P n=0
   ·exact h3
   ·rw [if_neg h3] at h2;exact absurd rfl h2
  unfold wval wfr;rw [if_pos hk.1,hk.2]
  grind
theorem value_fin {E P n:Nat} (hn:n<2^(E+P)) (h:wkind E P n≤2):valueR E P n=(wval E P (bias E) n,0):=by
 unfold valueR;rw [if_neg (fun k=>k hn),if_neg (by omega),wvalK_fin h]
theorem grQ_nonneg (P b:Nat):0≤grQ P b:=by unfold grQ;exact steps_nonneg _ _
theorem kind_of_le {E P n:Nat} (hE:2≤E) (hP:1≤P) (h:absQ (wval E P (bias E) n)≤grQ P (bias E)):wkind E P n≤2:=by
 refine kind_fin (fun e => ?_);rw [wval_abs,e] at h;have h2:=two_bias (E:=E) (by omega);have hp:0<2^(P-1):=Nat.pow_pos (by decide);have hfr:2^(P-1)≤wfr E P n:=by unfold wfr;rw [if_neg (by rw [e];omega)];omega
 have h1:max (2^E-1) 1-1=2*bias E:=by omega
 rw [h1] at h;have h3:(2:Rat)^(((P-1:Nat):Int)+(2-(bias E:Int)-P+((2*bias E:Nat):Int)))≤grQ P (bias E):=by
  refine Rat.le_trans ?_ h;rw [p2_add,p2_nat]
  exact Rat.mul_le_mul_of_nonneg_right (by rw [Rat.natCast_le_natCast];exact hfr) (Rat.le_of_lt (p2_pos _))
 have h4:=grQ_lt P (bias E);have h5:((P-1:Nat):Int)+(2-(bias E:Int)-P+((2*bias E:Nat):Int))=(bias E:Int)+1:=by omega
 rw [h5] at h3
 exact absurd h4 (Rat.not_lt.2 h3)
theorem wordN_lt {E P:Nat} (h1:1≤E+P) (neg:Bool) {n f:Nat} (h:n+f*2^(P-1)<2^(E+P-1)):wordN E P neg n f<2^(E+P):=by
 rw [wordN_eq neg h];have h3:2^(E+P)=2*2^(E+P-1):=by rw [←Nat.pow_succ'];congr 1;omega
 cases neg
 ·simp;omega
 ·simp;omega
theorem sgb_word (E P:Nat) (s:Bool):sgb E P s=wordN E P s 0 0:=by unfold wordN;simp
theorem sgb_ok {E P:Nat} (hE:2≤E) (hP:1≤P) (s:Bool):sgb E P s<2^(E+P)∧valueR E P (sgb E P s)=(0,0):=by
 have h0:0+0*2^(P-1)<2^(E+P-1):=by rw [Nat.zero_mul];exact Nat.pow_pos (by decide)
 have hv:wval E P (bias E) (sgb E P s)=0:=by
  rw [sgb_word,wordN_val hP s h0 (Nat.zero_le _) (.inl rfl)]
  grind
 have hlt:sgb E P s<2^(E+P):=by rw [sgb_word];exact wordN_lt (by omega) s h0
 refine ⟨hlt,?_⟩;rw [value_fin hlt (kind_of_le hE hP (by rw [hv,absQ_nonneg Rat.le_refl];exact grQ_nonneg _ _)),hv]
theorem wvalK_sm {E P n:Nat} (hF:Fmt E P) (h:wkind E P n≤2):SmQ 5000 (wvalK E P (bias E) n):=by
 have hE:2≤E∧E≤11:=by unfold Fmt at hF;omega
 have hP:2≤P∧P≤113:=by unfold Fmt at hF;omega
 rw [wvalK_fin h];have h1:=wfr_lt (E:=E) (P:=P) (n:=n) (by omega);have hf:wf E P n<2^E:=Nat.mod_lt _ (Nat.pow_pos (by decide));have h2:2^E≤2048:=Nat.pow_le_pow_right (n:=2) (j:=11) (by decide) hE.2;have hb:bias E≤1023:=by
  have:2^(E-1)≤1024:=Nat.pow_le_pow_right (n:=2) (j:=10) (by decide) (by omega)
  unfold bias;omega
 have s1:SmQ 113 ((wfr E P n:Nat):Rat):=SmQ.nat (by decide) (Nat.lt_of_lt_of_le h1 (Nat.pow_le_pow_right (by decide) hP.2));have s2:=s1.mul_p2 (2-(bias E:Int)-P+((max (wf E P n) 1-1:Nat):Int)) 3500 (by omega);have s3:SmQ 5000 (((wfr E P n:Nat):Rat)*(2:Rat)^(2-(bias E:Int)-P+((max (wf E P n) 1-1:Nat):Int))):=s2.mono (by decide);unfold wval
 split
 ·have:=s3.neg
  rwa [show -(((wfr E P n:Nat):Rat)*(2:Rat)^(2-(bias E:Int)-P+((max (wf E P n) 1-1:Nat):Int))) = -1*(((wfr E P n:Nat):Rat)*(2:Rat)^(2-(bias E:Int)-P+((max (wf E P n) 1-1:Nat):Int))) from by grind] at this
 ·rwa [Rat.one_mul]
theorem SmQ.zero (K:Nat) (h:0<K):SmQ K 0:=SmQ.nat (n:=0) h (Nat.pow_pos (by decide))
def exR (E P b m:Nat) (k:Int) (n:Bool) (q:Rat) (l:Int):Nat×Nat:=if k=1 then (sgb E P n,0) else if k=3 then (infw E P n,0) else rnd E P b m q l
theorem SmQ.mul {K L:Nat} {q r:Rat} (h:SmQ K q) (k:SmQ L r):SmQ (K+L) (q*r):=by
 have e1:q.num.natAbs*r.num.natAbs<2^(K+L):=by
  rw [Nat.pow_add];exact Nat.mul_lt_mul_of_lt_of_le h.1 (Nat.le_of_lt k.1) (Nat.pow_pos (by decide))
 have e2:q.den*r.den<2^(K+L):=by
  rw [Nat.pow_add];exact Nat.mul_lt_mul_of_lt_of_le h.2 (Nat.le_of_lt k.2) (Nat.pow_pos (by decide))
 rw [Rat.mul_def']
 exact SmQ.mk _ _ (Nat.mul_ne_zero q.den_nz r.den_nz) (by rw [Int.natAbs_mul];exact e1) e2
theorem SmQ.div {K L:Nat} {q r:Rat} (h:SmQ K q) (k:SmQ L r) (hr:r≠0):SmQ (K+L) (q/r):=by
 have e1:q.num.natAbs*r.den<2^(K+L):=by
  rw [Nat.pow_add];exact Nat.mul_lt_mul_of_lt_of_le h.1 (Nat.le_of_lt k.2) (Nat.pow_pos (by decide))
 have e2:q.den*r.num.natAbs<2^(K+L):=by
  rw [Nat.pow_add];exact Nat.mul_lt_mul_of_lt_of_le h.2 (Nat.le_of_lt k.1) (Nat.pow_pos (by decide))
 have h1:r.num.natAbs≠0:=fun e=>hr (Rat.num_eq_zero.1 (by omega));rw [←quo_value q r hr];unfold SmQ Sm;rw [mkq_natAbs _ _ _ (Nat.mul_ne_zero q.den_nz h1),mkq_den _ _ _ (Nat.mul_ne_zero q.den_nz h1)]
 exact ⟨Nat.lt_of_le_of_lt (Nat.div_le_self _ _) e1,Nat.lt_of_le_of_lt (Nat.div_le_self _ _) e2⟩
theorem SmQ.pos {K:Nat} {q:Rat} (h:SmQ K q):0<K:=by
 rcases Nat.eq_zero_or_pos K with e | e
 ·subst e;have h1:q.den<2^0:=h.2
  have:=q.den_pos
  omega
 ·exact e
theorem SmQ.floor {K:Nat} {q:Rat} (h:SmQ K q):SmQ K ((q.floor:Int):Rat):=by
 refine SmQ.int h.pos ?_;rw [Rat.floor_def]
 exact Nat.lt_of_le_of_lt (Int.natAbs_ediv_le_natAbs _ _) h.1
def remN (q:Rat):Int:=if upB 0 (decide (q.floor≠0)&&decide (q.floor.natAbs%2=1)) (cmpQ ((q-((q.floor:Int):Rat))*(2:Rat)^(1:Int)) 1)=true then q.floor+1 else q.floor
theorem remN_sm {K:Nat} {q:Rat} (h:SmQ K q):SmQ (K+3) ((remN q:Int):Rat):=by
 have h1:=h.floor;unfold remN
 split
 ·rw [show ((q.floor+1:Int):Rat)=((q.floor:Int):Rat)+1 from by rw [Rat.intCast_add];rfl]
  exact (h1.add (SmQ.nat (K:=2) (n:=1) (by decide) (by decide))).mono (by omega)
 ·exact h1.mono (by omega)
theorem remN_near (q:Rat):absQ (q-((remN q:Int):Rat))+absQ (q-((remN q:Int):Rat))≤1:=by
 have h1:((q.floor:Int):Rat)≤q:=Rat.floor_le q;have h2:q<((q.floor:Int):Rat)+1:=by
  have:=Rat.lt_floor_add_one q
  rwa [Rat.intCast_add] at this
 have e2:(2:Rat)^(1:Int)=2:=by rfl
 have lo:(q-((q.floor:Int):Rat))*2≤1→absQ (q-((q.floor:Int):Rat))+absQ (q-((q.floor:Int):Rat))≤1:=fun h=>by
  rw [absQ_nonneg (by grind)];grind
 have hi:1≤(q-((q.floor:Int):Rat))*2→absQ (q-((q.floor+1:Int):Rat))+absQ (q-((q.floor+1:Int):Rat))≤1:=fun h=>by
  rw [show ((q.floor+1:Int):Rat)=((q.floor:Int):Rat)+1 from by rw [Rat.intCast_add];rfl];rw [←absQ_neg,absQ_nonneg (by grind)];grind
 unfold remN;rw [e2]
 by_cases a:(q-((q.floor:Int):Rat))*2<1
 ·have hc:cmpQ ((q-((q.floor:Int):Rat))*2) 1 = -1:=by unfold cmpQ;rw [if_pos a]
  rw [hc,if_neg (by unfold upB;simp)]
  exact lo (by grind)
 ·by_cases b:1<(q-((q.floor:Int):Rat))*2
  ·have hc:cmpQ ((q-((q.floor:Int):Rat))*2) 1=1:=by unfold cmpQ;rw [if_neg a,if_pos b]
   rw [hc,if_pos (by unfold upB;simp)]
   exact hi (by grind)
  ·have e:(q-((q.floor:Int):Rat))*2=1:=Rat.le_antisymm (Rat.not_lt.1 b) (Rat.not_lt.1 a)
   split
   ·exact hi (by rw [e];exact Rat.le_refl)
   ·exact lo (by rw [e];exact Rat.le_refl)
theorem absQ_mul (a b:Rat):absQ (a*b)=absQ a*absQ b:=by
 rcases Rat.le_total (a:=0) (b:=a) with g | g<;>rcases Rat.le_total (a:=0) (b:=b) with h | h
 ·rw [absQ_nonneg g,absQ_nonneg h,absQ_nonneg (Rat.mul_nonneg g h)]
 ·have h':0 ≤ -b:=by grind
  rw [absQ_nonneg g,←absQ_neg b,absQ_nonneg h',←absQ_neg (a*b),show -(a*b)=a * -b from by grind,absQ_nonneg (Rat.mul_nonneg g h')]
 ·have g':0 ≤ -a:=by grind
  rw [absQ_nonneg h,←absQ_neg a,absQ_nonneg g',←absQ_neg (a*b),show -(a*b) = -a*b from by grind,absQ_nonneg (Rat.mul_nonneg g' h)]
 ·have h':0 ≤ -b:=by grind
  have g':0 ≤ -a:=by grind
  rw [←absQ_neg b,absQ_nonneg h',←absQ_neg a,absQ_nonneg g',show a*b = -a * -b from by grind,absQ_nonneg (Rat.mul_nonneg g' h')]
theorem rem_near (a c:Rat) (hc:c≠0):absQ (a-c*((remN (a/c):Int):Rat))+absQ (a-c*((remN (a/c):Int):Rat))≤absQ c:=by
 have h1:=remN_near (a/c);have e:a-c*((remN (a/c):Int):Rat)=c*(a/c-((remN (a/c):Int):Rat)):=by
  have:c*(a/c)=a:=by rw [Rat.mul_comm,Rat.div_mul_cancel hc]
  grind
 have h0:=absQ_zero_le c;rw [e,absQ_mul];have h2:=Rat.mul_le_mul_of_nonneg_left h1 h0
 grind
def remV (kx:Int) (qx:Rat) (ky:Int) (qy:Rat):Rat:=if kx=1∨ky=3 then qx else qx-qy*((remN (qx/qy):Int):Rat)
def remR (E P b m:Nat) (kx:Int) (nx:Bool) (qx:Rat) (ky:Int) (qy:Rat) (l:Int):Nat×Nat :=
 if kx=3∨ky=1 then (nanw E P,1) else if kx=1∨ky=3 then exR E P b m kx nx qx l
 else if qx-qy*((remN (qx/qy):Int):Rat)=0 then (sgb E P nx,0) else rnd E P b m (qx-qy*((remN (qx/qy):Int):Rat)) l
theorem kind_zero {E P b n:Nat} (h:wkind E P n≤2):wkind E P n=1↔wvalK E P b n=0:=by
 have hne:=fin_wf h
 constructor
 ·intro h1
  unfold wvalK;rw [if_neg (by omega),if_neg (by omega),if_neg (by omega)]
 ·intro h0
  rw [wvalK_fin h] at h0;have h2:absQ (wval E P b n)=0:=by rw [h0];exact absQ_nonneg Rat.le_refl
  rw [wval_abs] at h2;have h3:wfr E P n=0:=by
   rcases Nat.eq_zero_or_pos (wfr E P n) with e | e
   ·exact e
   ·exfalso
    have h4:(0:Rat)<((wfr E P n:Nat):Rat):=by exact_mod_cast e
    have h5:=Rat.mul_pos h4 (p2_pos (2-(b:Int)-P+((max (wf E P n) 1-1:Nat):Int)))
    grind
  have hp:0<2^(P-1):=Nat.pow_pos (by decide);unfold wfr at h3;unfold wkind;rw [if_neg hne]
  by_cases hf:wf E P n=0
  ·rw [if_pos hf] at h3;rw [if_pos ⟨hf,h3⟩]
  ·rw [if_neg hf] at h3;omega
theorem cmpQ_le {q r:Rat} (h:q≤r):cmpQ q r≤0:=by
 have:¬ r<q:=Rat.not_lt.2 h
 unfold cmpQ
 split
 ·decide
 ·simp
theorem grQ_sm {P b:Nat} (hP:2≤P∧P≤113) (hb:b≤1023):SmQ 16000 (grQ P b):=by
 have h1:2^P-1<2^113:=by
  have h2:2^P≤2^113:=Nat.pow_le_pow_right (n:=2) (j:=113) (by decide) hP.2
  have:0<2^P:=Nat.pow_pos (by decide)
  omega
 have s1:SmQ 113 ((2^P-1:Nat):Rat):=SmQ.nat (by decide) h1
 exact (s1.mul_p2 ((b:Int)-P+1) 2000 (by omega)).mono (by decide)
theorem ltle {a b c:Rat} (h:a<b) (k:b≤c):a<c:=by grind
theorem lelt {a b c:Rat} (h:a≤b) (k:b<c):a<c:=by grind
theorem cmpQ_iff {q r:Rat}:cmpQ q r≤0↔q≤r:=by
 constructor
 ·intro h
  unfold cmpQ at h
  split at h
  ·rename_i k;exact Rat.le_of_lt k
  ·split at h
   ·omega
   ·rename_i k;exact Rat.not_lt.1 k
 ·exact cmpQ_le
theorem bias_pos {E:Nat} (hE:2≤E):1≤bias E:=by
 have h2:=two_bias (E:=E) (by omega)
 have:2^2≤2^E:=Nat.pow_le_pow_right (by decide) hE
 omega
theorem log_steps {P b f N:Nat} {q:Rat} {l:Int} (hP:1≤P) (hl:IsLog (absQ q) l) (e:absQ q=(N:Rat)*(2:Rat)^(2-(b:Int)-P+(f:Nat))) (hN:N<2^P) (hf:f=0∨2^(P-1)≤N):rdF b l=f∧rdN P b l q=N:=by
 have u:l<(P:Int)+(2-(b:Int)-P+(f:Nat)):=by
  rw [←p2_lt_iff,p2_add,p2_nat];refine lelt hl.1 ?_;rw [e,Rat.mul_lt_mul_right (p2_pos _),Rat.natCast_lt_natCast]
  exact hN
 have hF:rdF b l=f:=by
  unfold rdF
  rcases hf with h | h
  ·omega
  ·have h1:((P-1:Nat):Int)+(2-(b:Int)-P+(f:Nat))<l+1:=by
    rw [←p2_lt_iff,p2_add,p2_nat];refine lelt ?_ hl.2;rw [e];refine Rat.mul_le_mul_of_nonneg_right ?_ (Rat.le_of_lt (p2_pos _));rw [Rat.natCast_le_natCast];exact h
   omega
 refine ⟨hF,?_⟩;refine rdN_of ?_;unfold rdT rdK;rw [hF,e,Rat.mul_assoc,p2_cancel',Rat.mul_one]
theorem word_back {E P m n:Nat} {l:Int} (hE:2≤E) (hP:1≤P) (hn:n<2^(E+P)) (hk:wkind E P n=2) (hl:IsLog (absQ (wval E P (bias E) n)) l):(roundR E P (bias E) m (wval E P (bias E) n) l).1=n:=by
 have k2:wkind E P n≤2:=by omega
 have hfin:=fin_wf k2;have hp:0<2^(P-1):=Nat.pow_pos (by decide);have hpp:2^P=2*2^(P-1):=by rw [←Nat.pow_succ'];congr 1;omega
 have hr:wr P n<2^(P-1):=Nat.mod_lt _ hp;obtain ⟨h1,_⟩:=round_exact (E:=E) (m:=m) hl (wval_isVal hP) (wval_le hE hP hfin);have hN:wfr E P n<2^P:=wfr_lt hP;have hff:max (wf E P n) 1-1=0∨2^(P-1)≤wfr E P n:=by
  by_cases h0:wf E P n=0
  ·left;omega
  ·right;unfold wfr;rw [if_neg h0];omega
 obtain ⟨e1,e2⟩:=log_steps hP hl (wval_abs E P (bias E) n) hN hff;have hpos:0<wfr E P n:=by
  unfold wfr
  split
  ·rename_i h0
   unfold wkind at hk;rw [if_neg hfin] at hk
   by_cases h3:wf E P n=0∧wr P n=0
   ·rw [if_pos h3] at hk;omega
   ·have:wr P n≠0:=fun e=>h3 ⟨h0,e⟩
    omega
  ·omega
 have hsz:(0:Rat)<((wfr E P n:Nat):Rat)*(2:Rat)^(2-(bias E:Int)-P+((max (wf E P n) 1-1:Nat):Int)):=Rat.mul_pos (by exact_mod_cast hpos) (p2_pos _);have hs:decide ((wval E P (bias E) n).num<0)=wn E P n:=by
  unfold wval
  cases wn E P n
  ·rw [decide_eq_false];rw [num_neg_iff,if_neg (by decide),Rat.one_mul]
   exact Rat.not_lt.2 (Rat.le_of_lt hsz)
  ·rw [decide_eq_true];rw [num_neg_iff,if_pos rfl]
   grind
 rw [h1,hs,e1,e2];have hsum:wfr E P n+(max (wf E P n) 1-1)*2^(P-1)=n%2^(E+P-1):=by
  have e3:n%2^(E+P-1)=wr P n+wf E P n*2^(P-1):=by
   unfold wr wf;rw [pow_EP hP,Nat.mod_mul,Nat.mul_comm]
  rw [e3];unfold wfr
  split
  ·rename_i h0;rw [h0];simp
  ·rename_i h0
   have:wf E P n=(max (wf E P n) 1-1)+1:=by omega
   conv=>rhs;rw [this,Nat.add_mul]
   omega
 have hlt:wfr E P n+(max (wf E P n) 1-1)*2^(P-1)<2^(E+P-1):=by rw [hsum];exact Nat.mod_lt _ (Nat.pow_pos (by decide))
 show wordN E P (wn E P n) (wfr E P n) (max (wf E P n) 1-1)=n
 rw [wordN_eq _ hlt,hsum];have h2:2^(E+P)=2*2^(E+P-1):=by rw [←Nat.pow_succ'];congr 1;omega
 have hq:n/2^(E+P-1)<2:=by rw [Nat.div_lt_iff_lt_mul (Nat.pow_pos (by decide))];omega
 have hdm:=Nat.div_add_mod n (2^(E+P-1));unfold wn
 by_cases h0:n/2^(E+P-1)=0
 ·rw [h0] at hdm;simp only [h0]
  simp
  omega
 ·have h1:n/2^(E+P-1)=1:=Nat.le_antisymm (Nat.le_of_lt_succ hq) (Nat.pos_of_ne_zero h0);rw [h1] at hdm;simp only [h1]
  simp
  omega
theorem zero_back {E P n:Nat} (hP:1≤P) (hn:n<2^(E+P)) (hE:1≤E) (hk:wkind E P n=1):sgb E P (wn E P n)=n:=by
 have hfin:=fin_wf (show wkind E P n≤2 by omega);unfold wkind at hk;rw [if_neg hfin] at hk
 by_cases h3:wf E P n=0∧wr P n=0
 ·have e3:n%2^(E+P-1)=wr P n+wf E P n*2^(P-1):=by
   unfold wr wf;rw [pow_EP hP,Nat.mod_mul,Nat.mul_comm]
  rw [h3.1,h3.2] at e3;have h2:2^(E+P)=2*2^(E+P-1):=by rw [←Nat.pow_succ'];congr 1;omega
  have hq:n/2^(E+P-1)<2:=by rw [Nat.div_lt_iff_lt_mul (Nat.pow_pos (by decide))];omega
  have hdm:=Nat.div_add_mod n (2^(E+P-1));unfold sgb wn
  by_cases h0:n/2^(E+P-1)=0
  ·rw [h0] at hdm;simp only [h0]
   simp
   omega
  ·have h1:n/2^(E+P-1)=1:=Nat.le_antisymm (Nat.le_of_lt_succ hq) (Nat.pos_of_ne_zero h0);rw [h1] at hdm;simp only [h1]
   simp
   omega
 ·rw [if_neg h3] at hk;omega
theorem fmt_bounds {E P:Nat} (hF:Fmt E P):(2≤E∧E≤11)∧(2≤P∧P≤113)∧bias E≤1023∧E+P≤124∧1≤bias E:=by
 have hE:2≤E∧E≤11:=by unfold Fmt at hF;omega
 have hP:2≤P∧P≤113:=by unfold Fmt at hF;omega
 have hb:bias E≤1023:=by
  have:2^(E-1)≤1024:=Nat.pow_le_pow_right (n:=2) (j:=10) (by decide) (by omega)
  unfold bias;omega
 exact ⟨hE,hP,hb,by omega,bias_pos hE.1⟩
def fmtZ (E P:Int):Int:=if Fmt E P then 0 else 2
def rankZ (E P n:Nat):Int:=if wn E P n=true then -((n%2^(E+P-1):Nat):Int) else ((n%2^(E+P-1):Nat):Int)
end Go.Proofs.YtgabigepocfllaaGreatDoor
