/- exact: what the numbers' functions return, in the words of reckoning. -/
import Derived.Test.YtgabigepocfllaaGreatDoorP24
import Derived.Test.YtgabigepocfllaaGreatDoorP28
import Derived.Test.YtgabigepocfllaaGreatDoorP33
namespace Go.Proofs.YtgabigepocfllaaGreatDoor
open Go.RowKit Vn
set_option maxRecDepth 100000
set_option maxHeartbeats 8000000
theorem rep_t {y:Value} {q:Rat} (h1:y.oneCell'=true) {w:World} {v:Value} (h:∃ x,v=.tuple #[x,y]∧NumV w x q):∀ S,RepV OQ (fun _=>none) S w v (.t [nA q,.c (.v y)]):=by
 intro S
 obtain ⟨x,rfl,h⟩:=h
 exact ⟨[x,y],rfl,numA_of h,⟨rfl,h1⟩,trivial⟩
section
variable {q r:Rat} {K:Nat}
theorem cAdd (sx:SmQ K q) (sy:SmQ K r) (hK:K≤20000000):Cal Tryz.prog OQ 126 [nA q,nA r] (nA (q+r)) :=
 cal2 (by kernel_rfl) rfl rep_num fun x y w _ hx hy=>Add_c x y q r K w hx hy sx sy hK
theorem cSub (sx:SmQ K q) (sy:SmQ K r) (hK:K≤20000000):Cal Tryz.prog OQ 125 [nA q,nA r] (nA (q-r)) :=
 cal2 (by kernel_rfl) rfl rep_num fun x y w _ hx hy=>Sub_c x y q r K w hx hy sx sy hK
theorem cCmp (sx:SmQ K q) (sy:SmQ K r) (hK:K≤20000000):Cal Tryz.prog OQ 20 [nA q,nA r] (iA (cmpQ q r)) :=
 cal2 (R:=fun _ v=>v=.int .i64 (cmpQ q r)) (by kernel_rfl) rfl (rep_sc rfl) fun x y w _ hx hy=>(Cmp_c x y q r K w hx hy sx sy hK).mono fun _ _ ⟨h1,h2⟩=>⟨_,h1,rfl,h2⟩
theorem cSign:Cal Tryz.prog OQ 25 [nA q] (iA q.num.sign) :=
 cal1 (R:=fun _ v=>v=.int .i64 q.num.sign) (by kernel_rfl) rfl (rep_sc rfl) fun x w _ hx=>(sign_c x q w hx).mono fun _ _ ⟨h1,h2⟩=>⟨_,h1,rfl,h2⟩
theorem cIsInt:Cal Tryz.prog OQ 76 [nA q] (bA (decide (q.den=1))) :=
 cal1 (R:=fun _ v=>v=.bool (decide (q.den=1))) (by kernel_rfl) rfl (rep_sc rfl) fun x w _ hx=>(isInt_c x q w hx).mono fun _ _ ⟨h1,h2⟩=>⟨_,h1,rfl,h2⟩
theorem cAbs:Cal Tryz.prog OQ 23 [nA q] (nA (absQ q)) :=
 cal1 (by kernel_rfl) rfl rep_num fun x w _ hx=>abs_c x q w hx
theorem cInt {n:Int} (h0 : -9223372036854775808≤n) (h1:n<9223372036854775808):Cal Tryz.prog OQ 127 [iA n] (nA (n:Rat)) :=
 cali (zs:=[.int .i64 n]) (by kernel_rfl) rfl rep_num fun w _=>Int_c n w h0 h1
theorem cRatio {m n:Int} (h0 : -9223372036854775808≤m) (h1:m<9223372036854775808) (k0 : -9223372036854775808≤n) (k1:n<9223372036854775808) (hn:n≠0):Cal Tryz.prog OQ 93 [iA m,iA n] (.t [nA ((m:Rat)/(n:Rat)),iA 0]) :=
 cali (zs:=[.int .i64 m,.int .i64 n]) (by kernel_rfl) rfl (rep_t rfl) fun w _=>(Ratio_c m n w h0 h1 k0 k1 hn).mono fun _ _ ⟨v,h1,h2,h3⟩=>⟨_,h1,⟨v,rfl,h2⟩,h3⟩
theorem cText (sx:SmQ K q) (hK:K≤1000000):Cal Tryz.prog OQ 94 [nA q] (.c (.v (.string (numText q)))) :=
 cal1 (R:=fun _ v=>v=.string (numText q)) (by kernel_rfl) rfl (rep_sc rfl) fun x w hi hx=>(Text_c x q K w hx sx hK hi.2).mono fun _ _ ⟨h1,h2⟩=>⟨_,h1,rfl,h2⟩
end
inductive Arg where
 | s (v:Value)
 | m (vs:List Value)
 | n (q:Rat)
 | r (q:Rat)
 | op (k:Int) (neg:Bool) (q:Rat)
def wdC (n:Nat):List AC:=[.v (.int .u64 ((n/18446744073709551616:Nat):Int)),.v (.int .u64 ((n%18446744073709551616:Nat):Int))]
abbrev wA (n:Nat):AV:=.g (wdC n)
abbrev fA (E P:Int):AV:=.g [.v (.int .i64 E),.v (.int .i64 P)]
abbrev mA (E P m b:Int):AV:=.g [.v (.int .i64 E),.v (.int .i64 P),.v (.int .i64 m),.v (.int .i64 b)]
def opC (k:Int) (neg:Bool) (q:Rat):List AC:=.v (.int .i64 k) :: .v (.bool neg) :: numA q
abbrev oA (k:Int) (neg:Bool) (q:Rat):AV:=.g (opC k neg q)
def Arg.av:Arg→AV
 | .s v=>.c (.v v)
 | .m vs=>.g (vs.map AC.v)
 | .n q=>nA q
 | .r q=>rA q
 | .op k neg q=>oA k neg q
abbrev Arg.w (n:Nat):Arg:=.m [.int .u64 ((n/18446744073709551616:Nat):Int),.int .u64 ((n%18446744073709551616:Nat):Int)]
abbrev Arg.mc (E P m b:Int):Arg:=.m [.int .i64 E,.int .i64 P,.int .i64 m,.int .i64 b]
def RepA (w:World) (x:Value):Arg→Prop
 | .s v=>x=v
 | .m vs=>x=.agg vs.toArray
 | .n q=>NumV w x q
 | .r q=>RNumV w x q
 | .op k neg q=>∃ (ng:Bool) (a:Option Addr) (n c:Nat) (a':Option Addr) (n' c':Nat),x=.agg #[.int .i64 k,.bool neg,.bool ng,.slice a n c,.slice a' n' c']∧NumV w (.agg #[.bool ng,.slice a n c,.slice a' n' c']) q
def Arg.ok:Arg→Bool
 | .s v=>v.oneCell'
 | .m vs=>vs.all (·.oneCell')
 | _=>true
section
variable {S:Nat→Prop} {w:World}
theorem scs_of:∀ {vs zs:List Value},RepCs OQ S w vs (zs.map AC.v)→vs=zs
 | [],[],_=>rfl
 | [],_ :: _,h=>h.elim
 | _ :: _,[],h=>h.elim
 | v :: vs,z :: zs,h=>by
  have h1:=h.1;simp only [Rep0] at h1;rw [h1.1,scs_of (zs:=zs) h.2]
theorem of_scs:∀ {zs:List Value},(zs.all (·.oneCell'))=true→RepCs OQ S w zs (zs.map AC.v)
 | [],_=>trivial
 | z :: zs,h=>by
  simp only [List.all_cons,Bool.and_eq_true] at h
  exact ⟨Rep0.v' rfl h.1,of_scs h.2⟩
theorem repA_of {x:Value} {a:Arg} (h:RepW OQ (fun _=>none) S w x a.av):RepA w x a:=by
 cases a with
 | s v=>exact h.1
 | m vs=>obtain ⟨us,rfl,h⟩:=h;rw [scs_of h];rfl
 | n q=>exact num_of h
 | r q=>exact rnum_of h
 | op k neg q =>
  obtain ⟨us,rfl,h⟩:=h
  match us,h with
  | v1 :: v2 :: us,h =>
   obtain ⟨h1,h2,h3⟩:=h;simp only [Rep0] at h1 h2;have hn:NumV w (.agg us.toArray) q:=num_of (β:=fun _=>none) (S:=S) ⟨us,rfl,h3⟩;have hn':=hn;obtain ⟨a,n,c,a',n',c',e,_⟩:=hn';have e:us=_:=congrArg Array.toList (Value.agg.inj e);subst e;rw [h1.1,h2.1]
   exact ⟨_,a,n,c,a',n',c',rfl,hn⟩
theorem of_repA {x:Value} {a:Arg} (hk:a.ok=true) (h:RepA w x a):RepW OQ (fun _=>none) S w x a.av:=by
 cases a with
 | s v=>exact ⟨h,hk⟩
 | m vs=>exact ⟨vs,h,of_scs hk⟩
 | n q=>exact numA_of h
 | r q=>exact rnumA_of h
 | op k neg q =>
  obtain ⟨ng,a,n,c,a',n',c',rfl,h⟩:=h;obtain ⟨us,e,h⟩:=numA_of (β:=fun _=>none) (S:=S) h;have e:_=us:=congrArg Array.toList (Value.agg.inj e);subst e
  exact ⟨_,rfl,Rep0.v' rfl rfl,Rep0.v' rfl rfl,h⟩
end
theorem av_noT (a:Arg):(∀ l,a.av≠.t l)∧noPV a.av=true:=by
 cases a<;>exact ⟨by intro l h;simp [Arg.av] at h,rfl⟩
def Ret (r:Arg) (w:World) (e:Ending) (w':World):Prop:=∃ v,e=.returned v∧RepA w' v r∧Ext w w'
def Ret2 (r s:Arg) (w:World) (e:Ending) (w':World):Prop:=∃ u v,e=.returned (.tuple #[u,v])∧RepA w' u r∧RepA w' v s∧Ext w w'
theorem all2_args {S:Nat→Prop} {w:World}:∀ {vs:List Value} {args:List Arg},All2 (RepW OQ (fun _=>none) S w) vs (args.map Arg.av)→All2 (RepA w) vs args
 | [],[],_=>trivial
 | _ :: _,[],h=>h.elim
 | [],_ :: _,h=>h.elim
 | _ :: _,_ :: _,h=>⟨repA_of h.1,all2_args h.2⟩
theorem calA {P:Program} {k:FuncId} (args:List Arg) {r:Arg} (hb:bodyB P k=true) (hr:r.ok=true) (h:∀ w vs,OQ.inv w→All2 (RepA w) vs args→Calls P k vs.toArray w (Ret r w)):Cal P OQ k (args.map Arg.av) r.av :=
 cal_of hb (av_noT r).2 fun _ w vs hi hv=>(h w vs hi (all2_args hv)).mono fun _ _ ⟨v,h1,h2,h3⟩=>⟨v,h1,h3,fun _=>(of_repA hr h2).toV (av_noT r).1⟩
theorem calA2 {P:Program} {k:FuncId} (args:List Arg) {r s:Arg} (hb:bodyB P k=true) (hr:r.ok=true) (hs:s.ok=true) (h:∀ w vs,OQ.inv w→All2 (RepA w) vs args→Calls P k vs.toArray w (Ret2 r s w)):Cal P OQ k (args.map Arg.av) (.t [r.av,s.av]) :=
 cal_of hb (by
  have h1:=(av_noT r);have h2:=(av_noT s)
  cases r<;>cases s<;>rfl) fun _ w vs hi hv=>(h w vs hi (all2_args hv)).mono fun _ _ ⟨u,v,h1,h2,h3,h4⟩=>⟨_,h1,h4,fun _=>⟨[u,v],rfl,of_repA hr h2,of_repA hs h3,trivial⟩⟩
theorem one_arg {w:World} {vs:List Value} {a:Arg} (h:All2 (RepA w) vs [a]):∃ x,vs=[x]∧RepA w x a:=by
 match vs,h with
 | [x],h=>exact ⟨x,rfl,h.1⟩
theorem two_args {w:World} {vs:List Value} {a b:Arg} (h:All2 (RepA w) vs [a,b]):∃ x y,vs=[x,y]∧RepA w x a∧RepA w y b:=by
 match vs,h with
 | [x,y],h=>exact ⟨x,y,rfl,h.1,h.2.1⟩
theorem three_args {w:World} {vs:List Value} {a b c:Arg} (h:All2 (RepA w) vs [a,b,c]):∃ x y z,vs=[x,y,z]∧RepA w x a∧RepA w y b∧RepA w z c:=by
 match vs,h with
 | [x,y,z],h=>exact ⟨x,y,z,rfl,h.1,h.2.1,h.2.2.1⟩
end Go.Proofs.YtgabigepocfllaaGreatDoor
