/- run: operations on numbers. -/
import Derived.Test.YtoaoebimjmjpeaaGreatDoorT49
namespace Go.Proofs.YtoaoebimjmjpeaaGreatDoor
open Go.RowKit Vn
set_option maxRecDepth 100000
set_option maxHeartbeats 8000000
abbrev nlA (l:List Rat):AV:=.c (.sl 3 (l.map numA))
section
variable {K:Nat} {a b c:Rat}
theorem cQuo0:Cal Tryz.prog OQ 215 [nA a,nA 0] (.t [nA 0,iA 8]):=by
 refine fn_callB [(3,[(1,2),(3,3),(6,2),(7,3),(8,2000000),(9,2000000),(10,2),(11,2000000),(13,3),(14,2000000),(15,2000000),(16,4)])] TK MX Tryz.func215 rfl (by kernel_rfl) (by kernel_rfl) (by kernel_rfl) rfl rfl ?_
 conv=>whnf
 refine ⟨_,cSign,?_⟩
 conv=>whnf
 rfl
theorem cOverCast:Cal Tryz.prog OQ 137 [iA 7,nlA [a]] (.t [nA a,iA 0]):=by
 refine fn_callB [(7,[(2,2000000),(5,2000000),(6,2000000),(7,4)]),(9,[(2,2000000),(5,2000000),(6,2000000),(7,4)]),(11,[(2,2000000),(5,2000000),(6,2000000),(7,4)]),(13,[(2,2000000),(5,2000000),(6,2000000),(11,6)]),(18,[(2,2000000),(5,2000000),(6,2000000),(7,4)]),(20,[(2,2000000),(5,2000000),(6,2000000),(7,4)]),(22,[(2,2000000),(5,2000000),(6,2000000),(9,2000000),(10,2000000),(11,4)]),(24,[(2,2000000),(5,2000000),(6,2000000)])] TK MX Tryz.func137 rfl (by kernel_rfl) (by kernel_rfl) (by kernel_rfl) rfl rfl ?_
 conv=>whnf
 rfl
theorem cOverAdd (sa:SmQ K a) (sb:SmQ K b) (hK:K≤20000000):Cal Tryz.prog OQ 137 [iA 8,nlA [a,b]] (.t [nA (a+b),iA 0]):=by
 refine fn_callB [(7,[(2,2000000),(5,2000000),(6,2000000),(7,4)]),(9,[(2,2000000),(5,2000000),(6,2000000),(7,4)]),(11,[(2,2000000),(5,2000000),(6,2000000),(7,4)]),(13,[(2,2000000),(5,2000000),(6,2000000),(11,6)]),(18,[(2,2000000),(5,2000000),(6,2000000),(7,4)]),(20,[(2,2000000),(5,2000000),(6,2000000),(7,4)]),(22,[(2,2000000),(5,2000000),(6,2000000),(9,2000000),(10,2000000),(11,4)]),(24,[(2,2000000),(5,2000000),(6,2000000)])] TK MX Tryz.func137 rfl (by kernel_rfl) (by kernel_rfl) (by kernel_rfl) rfl rfl ?_
 conv=>whnf
 refine ⟨_,cAdd sa sb hK,?_⟩
 conv=>whnf
 rfl
theorem cOverSub (sa:SmQ K a) (sb:SmQ K b) (hK:K≤20000000):Cal Tryz.prog OQ 137 [iA 9,nlA [a,b]] (.t [nA (a-b),iA 0]):=by
 refine fn_callB [(7,[(2,2000000),(5,2000000),(6,2000000),(7,4)]),(9,[(2,2000000),(5,2000000),(6,2000000),(7,4)]),(11,[(2,2000000),(5,2000000),(6,2000000),(7,4)]),(13,[(2,2000000),(5,2000000),(6,2000000),(11,6)]),(18,[(2,2000000),(5,2000000),(6,2000000),(7,4)]),(20,[(2,2000000),(5,2000000),(6,2000000),(7,4)]),(22,[(2,2000000),(5,2000000),(6,2000000),(9,2000000),(10,2000000),(11,4)]),(24,[(2,2000000),(5,2000000),(6,2000000)])] TK MX Tryz.func137 rfl (by kernel_rfl) (by kernel_rfl) (by kernel_rfl) rfl rfl ?_
 conv=>whnf
 refine ⟨_,cSub sa sb hK,?_⟩
 conv=>whnf
 rfl
theorem cOverMul (sa:SmQ K a) (sb:SmQ K b) (hK:K≤20000000):Cal Tryz.prog OQ 137 [iA 10,nlA [a,b]] (.t [nA (a*b),iA 0]):=by
 refine fn_callB [(7,[(2,2000000),(5,2000000),(6,2000000),(7,4)]),(9,[(2,2000000),(5,2000000),(6,2000000),(7,4)]),(11,[(2,2000000),(5,2000000),(6,2000000),(7,4)]),(13,[(2,2000000),(5,2000000),(6,2000000),(11,6)]),(18,[(2,2000000),(5,2000000),(6,2000000),(7,4)]),(20,[(2,2000000),(5,2000000),(6,2000000),(7,4)]),(22,[(2,2000000),(5,2000000),(6,2000000),(9,2000000),(10,2000000),(11,4)]),(24,[(2,2000000),(5,2000000),(6,2000000)])] TK MX Tryz.func137 rfl (by kernel_rfl) (by kernel_rfl) (by kernel_rfl) rfl rfl ?_
 conv=>whnf
 refine ⟨_,cMul sa sb hK,?_⟩
 conv=>whnf
 rfl
theorem cOverDiv (sa:SmQ K a) (sb:SmQ K b) (hK:K≤20000000) (h0:b≠0):Cal Tryz.prog OQ 137 [iA 11,nlA [a,b]] (.t [nA (a/b),iA 0]):=by
 refine fn_callB [(7,[(2,2000000),(5,2000000),(6,2000000),(7,4)]),(9,[(2,2000000),(5,2000000),(6,2000000),(7,4)]),(11,[(2,2000000),(5,2000000),(6,2000000),(7,4)]),(13,[(2,2000000),(5,2000000),(6,2000000),(11,6)]),(18,[(2,2000000),(5,2000000),(6,2000000),(7,4)]),(20,[(2,2000000),(5,2000000),(6,2000000),(7,4)]),(22,[(2,2000000),(5,2000000),(6,2000000),(9,2000000),(10,2000000),(11,4)]),(24,[(2,2000000),(5,2000000),(6,2000000)])] TK MX Tryz.func137 rfl (by kernel_rfl) (by kernel_rfl) (by kernel_rfl) rfl rfl ?_
 conv=>whnf
 refine ⟨_,cQuo sa sb hK h0,?_⟩
 conv=>whnf
 rfl
theorem cOverZero:Cal Tryz.prog OQ 137 [iA 11,nlA [a,0]] (.t [nA 0,iA 2]):=by
 refine fn_callB [(7,[(2,2000000),(5,2000000),(6,2000000),(7,4)]),(9,[(2,2000000),(5,2000000),(6,2000000),(7,4)]),(11,[(2,2000000),(5,2000000),(6,2000000),(7,4)]),(13,[(2,2000000),(5,2000000),(6,2000000),(11,6)]),(18,[(2,2000000),(5,2000000),(6,2000000),(7,4)]),(20,[(2,2000000),(5,2000000),(6,2000000),(7,4)]),(22,[(2,2000000),(5,2000000),(6,2000000),(9,2000000),(10,2000000),(11,4)]),(24,[(2,2000000),(5,2000000),(6,2000000)])] TK MX Tryz.func137 rfl (by kernel_rfl) (by kernel_rfl) (by kernel_rfl) rfl rfl ?_
 conv=>whnf
 refine ⟨_,cQuo0,?_⟩
 conv=>whnf
 rfl
theorem cOverFma (sa:SmQ K a) (sb:SmQ K b) (sc:SmQ K c) (hK:K+K≤20000000):Cal Tryz.prog OQ 137 [iA 14,nlA [a,b,c]] (.t [nA (a*b+c),iA 0]):=by
 refine fn_callB [(7,[(2,2000000),(5,2000000),(6,2000000),(7,4)]),(9,[(2,2000000),(5,2000000),(6,2000000),(7,4)]),(11,[(2,2000000),(5,2000000),(6,2000000),(7,4)]),(13,[(2,2000000),(5,2000000),(6,2000000),(11,6)]),(18,[(2,2000000),(5,2000000),(6,2000000),(7,4)]),(20,[(2,2000000),(5,2000000),(6,2000000),(7,4)]),(22,[(2,2000000),(5,2000000),(6,2000000),(9,2000000),(10,2000000),(11,4)]),(24,[(2,2000000),(5,2000000),(6,2000000)])] TK MX Tryz.func137 rfl (by kernel_rfl) (by kernel_rfl) (by kernel_rfl) rfl rfl ?_
 conv=>whnf
 refine ⟨_,cMul sa sb (by omega),?_⟩
 conv=>whnf
 refine ⟨_,cAdd (sa.mul sb) (sc.mono (by omega)) hK,?_⟩
 conv=>whnf
 rfl
end
theorem flat_any {O:Opq} {S S':Nat→Prop} {w:World} {x:Value} {c:AC} (h:flatC c=true) (r:Rep0 O S w c x):Rep0 O S' w c x:=by
 cases c<;>first | (simp only [Rep0] at r ⊢;exact r) | (simp [flatC] at h)
theorem flat_all2 {O:Opq} {S S':Nat→Prop} {w:World}:∀ {us:List Value} {cs:List AC},(∀ c∈cs,flatC c=true)→All2 (fun x c=>Rep0 O S w c x) us cs→All2 (fun x c=>Rep0 O S' w c x) us cs
 | [],[],_,_=>trivial
 | _ :: _,_ :: _,h,r=>⟨flat_any (h _ (by simp)) r.1,flat_all2 (fun c hc=>h c (by simp [hc])) r.2⟩
 | [],_ :: _,_,r=>r.elim
 | _ :: _,[],_,r=>r.elim
theorem calS_cal {P:Program} {O:Opq} {k:FuncId} {args:List AV} {n wd:Nat} {U:TypeId} {cs:List AC} (h:CalS P O k args n wd U cs) {rows:List (List AC)} (hr:rows.flatten=cs) (hl:rows.length=n) (hw:∀ r∈rows,r.length=wd):Cal P O k args (.c (.sl wd rows)):=by
 refine ⟨h.body,rfl,fun S w vs hS hi hv=>(h.run S w vs hS hi hv).mono ?_⟩;rintro e w' ⟨b,cap,us,ts,rfl,hx,h1,h2,h3,h4,h5,h6⟩;refine ⟨_,rfl,hx,?_⟩
 show RepC O (fun _=>none) (fun b=>S b∨(w.heap.size≤b∧b<w'.heap.size)) w' _ (.sl wd rows)
 refine Rep0.toC ?_;simp only [Rep0];refine ⟨some ⟨b,0,none⟩,b,0,cap,by rw [hl],fun _=>⟨rfl,.inr ⟨h1,cell_lt h2⟩,by rw [hl];exact h6⟩,RepRows.of_list wd rows us b 0 hw (fun j v hj => ?_) (by rw [hr];exact flat_all2 h.flat h3)⟩;have hlt:=(List.getElem?_eq_some_iff.1 hj).1;simp only [World.cell?,h2]
 simpa [List.getElem?_append_left hlt] using hj
section
variable {E P m K:Nat} {a b c:Rat}
theorem num_flat (q:Rat):∀ c∈numA q,flatC c=true:=fun c hc=>by
 simp only [numA,List.mem_cons,List.not_mem_nil,or_false] at hc
 rcases hc with rfl | rfl | rfl<;>rfl
theorem nums_flat (l:List Rat):∀ c∈(l.map numA).flatten,flatC c=true:=fun c hc=>by
 simp only [List.mem_flatten,List.mem_map] at hc;obtain ⟨r,⟨q,_,rfl⟩,hc⟩:=hc
 exact num_flat q c hc
theorem nums_len (l:List Rat):∀ r∈l.map numA,r.length=3:=fun r hr=>by
 simp only [List.mem_map] at hr;obtain ⟨q,_,rfl⟩:=hr
 rfl
theorem cCloneN1:Cal Tryz.prog OQ 64 [nlA [a]] (nlA [a]):=by
 refine calS_cal (n:=1) (U:=49) (fn_callS [] TK MX Tryz.func64 rfl (by kernel_rfl) (by kernel_rfl) (by kernel_rfl) (nums_flat [a]) (by kernel_rfl) rfl ?_) rfl rfl (nums_len [a])
 conv=>whnf
 exact ⟨rfl,rfl⟩
theorem cCloneN2:Cal Tryz.prog OQ 64 [nlA [a,b]] (nlA [a,b]):=by
 refine calS_cal (n:=2) (U:=49) (fn_callS [] TK MX Tryz.func64 rfl (by kernel_rfl) (by kernel_rfl) (by kernel_rfl) (nums_flat [a,b]) (by kernel_rfl) rfl ?_) rfl rfl (nums_len [a,b])
 conv=>whnf
 exact ⟨rfl,rfl⟩
theorem cCloneN3:Cal Tryz.prog OQ 64 [nlA [a,b,c]] (nlA [a,b,c]):=by
 refine calS_cal (n:=3) (U:=49) (fn_callS [] TK MX Tryz.func64 rfl (by kernel_rfl) (by kernel_rfl) (by kernel_rfl) (nums_flat [a,b,c]) (by kernel_rfl) rfl ?_) rfl rfl (nums_len [a,b,c])
 conv=>whnf
 exact ⟨rfl,rfl⟩
def nrV (E P n:Nat):AV:=if wkind E P n≤2 then .t [nA (wvalK E P (bias E) n),iA 0] else .t [nA 0,iA 1]
theorem cNearestCast (hF:Fmt E P) (hm:m≤4) (sa:SmQ K a) (hK:K≤5000):Cal Tryz.prog OQ 63 [iA (m:Nat),fA E P,iA 7,nlA [a]] (nrV E P (rq E P m (a)).1):=by
 refine fn_callB [(2,[(0,5),(4,2000000),(5,2000000),(10,10)])] TK MX Tryz.func63 rfl (by kernel_rfl) (by kernel_rfl) (by kernel_rfl) (by unfold nrV;split<;>rfl) rfl ?_
 conv=>whnf
 refine ⟨_,cOverCast,?_⟩
 conv=>whnf
 refine ⟨_,cNear hF hm sa (by omega),?_⟩;unfold nrV numAV
 by_cases h:wkind E P (rq E P m (a)).1≤2
 ·rw [if_pos h,if_pos h]
  conv=>whnf
  rfl
 ·rw [if_neg h,if_neg h]
  conv=>whnf
  rfl
theorem cNearestAdd (hF:Fmt E P) (hm:m≤4) (sa:SmQ K a) (sb:SmQ K b) (hK:K≤5000):Cal Tryz.prog OQ 63 [iA (m:Nat),fA E P,iA 8,nlA [a,b]] (nrV E P (rq E P m (a+b)).1):=by
 refine fn_callB [(2,[(0,5),(4,2000000),(5,2000000),(10,10)])] TK MX Tryz.func63 rfl (by kernel_rfl) (by kernel_rfl) (by kernel_rfl) (by unfold nrV;split<;>rfl) rfl ?_
 conv=>whnf
 refine ⟨_,cOverAdd sa sb (by omega),?_⟩
 conv=>whnf
 refine ⟨_,cNear hF hm (sa.add sb) (by omega),?_⟩;unfold nrV numAV
 by_cases h:wkind E P (rq E P m (a+b)).1≤2
 ·rw [if_pos h,if_pos h]
  conv=>whnf
  rfl
 ·rw [if_neg h,if_neg h]
  conv=>whnf
  rfl
theorem cNearestSub (hF:Fmt E P) (hm:m≤4) (sa:SmQ K a) (sb:SmQ K b) (hK:K≤5000):Cal Tryz.prog OQ 63 [iA (m:Nat),fA E P,iA 9,nlA [a,b]] (nrV E P (rq E P m (a-b)).1):=by
 refine fn_callB [(2,[(0,5),(4,2000000),(5,2000000),(10,10)])] TK MX Tryz.func63 rfl (by kernel_rfl) (by kernel_rfl) (by kernel_rfl) (by unfold nrV;split<;>rfl) rfl ?_
 conv=>whnf
 refine ⟨_,cOverSub sa sb (by omega),?_⟩
 conv=>whnf
 refine ⟨_,cNear hF hm (sa.sub sb) (by omega),?_⟩;unfold nrV numAV
 by_cases h:wkind E P (rq E P m (a-b)).1≤2
 ·rw [if_pos h,if_pos h]
  conv=>whnf
  rfl
 ·rw [if_neg h,if_neg h]
  conv=>whnf
  rfl
theorem cNearestMul (hF:Fmt E P) (hm:m≤4) (sa:SmQ K a) (sb:SmQ K b) (hK:K≤5000):Cal Tryz.prog OQ 63 [iA (m:Nat),fA E P,iA 10,nlA [a,b]] (nrV E P (rq E P m (a*b)).1):=by
 refine fn_callB [(2,[(0,5),(4,2000000),(5,2000000),(10,10)])] TK MX Tryz.func63 rfl (by kernel_rfl) (by kernel_rfl) (by kernel_rfl) (by unfold nrV;split<;>rfl) rfl ?_
 conv=>whnf
 refine ⟨_,cOverMul sa sb (by omega),?_⟩
 conv=>whnf
 refine ⟨_,cNear hF hm (sa.mul sb) (by omega),?_⟩;unfold nrV numAV
 by_cases h:wkind E P (rq E P m (a*b)).1≤2
 ·rw [if_pos h,if_pos h]
  conv=>whnf
  rfl
 ·rw [if_neg h,if_neg h]
  conv=>whnf
  rfl
theorem cNearestDiv (hF:Fmt E P) (hm:m≤4) (sa:SmQ K a) (sb:SmQ K b) (hK:K≤5000) (h0:b≠0):Cal Tryz.prog OQ 63 [iA (m:Nat),fA E P,iA 11,nlA [a,b]] (nrV E P (rq E P m (a/b)).1):=by
 refine fn_callB [(2,[(0,5),(4,2000000),(5,2000000),(10,10)])] TK MX Tryz.func63 rfl (by kernel_rfl) (by kernel_rfl) (by kernel_rfl) (by unfold nrV;split<;>rfl) rfl ?_
 conv=>whnf
 refine ⟨_,cOverDiv sa sb (by omega) h0,?_⟩
 conv=>whnf
 refine ⟨_,cNear hF hm (sa.div sb h0) (by omega),?_⟩;unfold nrV numAV
 by_cases h:wkind E P (rq E P m (a/b)).1≤2
 ·rw [if_pos h,if_pos h]
  conv=>whnf
  rfl
 ·rw [if_neg h,if_neg h]
  conv=>whnf
  rfl
theorem cNearestFma (hF:Fmt E P) (hm:m≤4) (sa:SmQ K a) (sb:SmQ K b) (sc:SmQ K c) (hK:K≤2500):Cal Tryz.prog OQ 63 [iA (m:Nat),fA E P,iA 14,nlA [a,b,c]] (nrV E P (rq E P m (a*b+c)).1):=by
 refine fn_callB [(2,[(0,5),(4,2000000),(5,2000000),(10,10)])] TK MX Tryz.func63 rfl (by kernel_rfl) (by kernel_rfl) (by kernel_rfl) (by unfold nrV;split<;>rfl) rfl ?_
 conv=>whnf
 refine ⟨_,cOverFma sa sb sc (by omega),?_⟩
 conv=>whnf
 refine ⟨_,cNear hF hm ((sa.mul sb).add (sc.mono (show K≤K+K by omega))) (by omega),?_⟩;unfold nrV numAV
 by_cases h:wkind E P (rq E P m (a*b+c)).1≤2
 ·rw [if_pos h,if_pos h]
  conv=>whnf
  rfl
 ·rw [if_neg h,if_neg h]
  conv=>whnf
  rfl
theorem cNearestZero:Cal Tryz.prog OQ 63 [iA (m:Nat),fA E P,iA 11,nlA [a,0]] (.t [nA 0,iA 2]):=by
 refine fn_callB [(2,[(0,5),(4,2000000),(5,2000000),(10,10)])] TK MX Tryz.func63 rfl (by kernel_rfl) (by kernel_rfl) (by kernel_rfl) rfl rfl ?_
 conv=>whnf
 refine ⟨_,cOverZero,?_⟩
 conv=>whnf
 rfl
theorem cNearestRoot (hF:Fmt E P) (hm:m≤4) (sa:SmQ K a) (hK:K≤5000) (h0:0≤a):Cal Tryz.prog OQ 63 [iA (m:Nat),fA E P,iA 6,nlA [a]] (nrV E P (rootR E P m a).1):=by
 refine fn_callB [(2,[(0,5),(4,2000000),(5,2000000),(10,10)])] TK MX Tryz.func63 rfl (by kernel_rfl) (by kernel_rfl) (by kernel_rfl) (by unfold nrV;split<;>rfl) rfl ?_
 conv=>whnf
 refine ⟨_,cNearRoot hF hm sa h0 (by omega),?_⟩;unfold nrV numAV
 by_cases h:wkind E P (rootR E P m a).1≤2
 ·rw [if_pos h,if_pos h]
  conv=>whnf
  rfl
 ·rw [if_neg h,if_neg h]
  conv=>whnf
  rfl
theorem cNearestNeg (hF:Fmt E P) (hm:m≤4) (sa:SmQ K a) (hK:K≤5000) (h0:a<0):Cal Tryz.prog OQ 63 [iA (m:Nat),fA E P,iA 6,nlA [a]] (.t [nA 0,iA 3]):=by
 refine fn_callB [(2,[(0,5),(4,2000000),(5,2000000),(10,10)])] TK MX Tryz.func63 rfl (by kernel_rfl) (by kernel_rfl) (by kernel_rfl) rfl rfl ?_
 conv=>whnf
 refine ⟨_,cNearRootNeg hF hm sa h0 (by omega),?_⟩
 conv=>whnf
 rfl
end
section
variable {E P m:Nat} {a b c v:Rat} {f:Int}
theorem cOpSqrt (hF:Fmt E P) (hm:m≤4) (hn:Cal Tryz.prog OQ 63 [iA (m:Nat),fA E P,iA 6,nlA [a]] (.t [nA v,iA f])):Cal Tryz.prog OQ 15 [iA (m:Nat),fA E P,iA 6,nlA [a]] (.t [nA v,iA f,iA 0]):=by
 refine fn_callB [(6,[(1,5),(4,2000000),(5,2000000),(9,8)])] TK MX Tryz.func15 rfl (by kernel_rfl) (by kernel_rfl) (by kernel_rfl) rfl rfl ?_;have e1:decide ((m:Int)<0)=false:=dF (by omega);have e2:decide ((m:Int)>4)=false:=dF (by omega)
 conv=>whnf
 rw [e1]
 conv=>whnf
 rw [e2]
 conv=>whnf
 refine ⟨_,cKidsSqrt,?_⟩
 conv=>whnf
 refine ⟨_,cCheck E P,?_⟩;rw [if_pos hF]
 conv=>whnf
 refine ⟨_,cCloneN1,?_⟩
 conv=>whnf
 refine ⟨_,hn,?_⟩
 conv=>whnf
 rfl
theorem cOpCast (hF:Fmt E P) (hm:m≤4) (hn:Cal Tryz.prog OQ 63 [iA (m:Nat),fA E P,iA 7,nlA [a]] (.t [nA v,iA f])):Cal Tryz.prog OQ 15 [iA (m:Nat),fA E P,iA 7,nlA [a]] (.t [nA v,iA f,iA 0]):=by
 refine fn_callB [(6,[(1,5),(4,2000000),(5,2000000),(9,8)])] TK MX Tryz.func15 rfl (by kernel_rfl) (by kernel_rfl) (by kernel_rfl) rfl rfl ?_;have e1:decide ((m:Int)<0)=false:=dF (by omega);have e2:decide ((m:Int)>4)=false:=dF (by omega)
 conv=>whnf
 rw [e1]
 conv=>whnf
 rw [e2]
 conv=>whnf
 refine ⟨_,cKidsCast,?_⟩
 conv=>whnf
 refine ⟨_,cCheck E P,?_⟩;rw [if_pos hF]
 conv=>whnf
 refine ⟨_,cCloneN1,?_⟩
 conv=>whnf
 refine ⟨_,hn,?_⟩
 conv=>whnf
 rfl
theorem cOpAdd (hF:Fmt E P) (hm:m≤4) (hn:Cal Tryz.prog OQ 63 [iA (m:Nat),fA E P,iA 8,nlA [a,b]] (.t [nA v,iA f])):Cal Tryz.prog OQ 15 [iA (m:Nat),fA E P,iA 8,nlA [a,b]] (.t [nA v,iA f,iA 0]):=by
 refine fn_callB [(6,[(1,5),(4,2000000),(5,2000000),(9,8)])] TK MX Tryz.func15 rfl (by kernel_rfl) (by kernel_rfl) (by kernel_rfl) rfl rfl ?_;have e1:decide ((m:Int)<0)=false:=dF (by omega);have e2:decide ((m:Int)>4)=false:=dF (by omega)
 conv=>whnf
 rw [e1]
 conv=>whnf
 rw [e2]
 conv=>whnf
 refine ⟨_,cKidsAdd,?_⟩
 conv=>whnf
 refine ⟨_,cCheck E P,?_⟩;rw [if_pos hF]
 conv=>whnf
 refine ⟨_,cCloneN2,?_⟩
 conv=>whnf
 refine ⟨_,hn,?_⟩
 conv=>whnf
 rfl
theorem cOpSub (hF:Fmt E P) (hm:m≤4) (hn:Cal Tryz.prog OQ 63 [iA (m:Nat),fA E P,iA 9,nlA [a,b]] (.t [nA v,iA f])):Cal Tryz.prog OQ 15 [iA (m:Nat),fA E P,iA 9,nlA [a,b]] (.t [nA v,iA f,iA 0]):=by
 refine fn_callB [(6,[(1,5),(4,2000000),(5,2000000),(9,8)])] TK MX Tryz.func15 rfl (by kernel_rfl) (by kernel_rfl) (by kernel_rfl) rfl rfl ?_;have e1:decide ((m:Int)<0)=false:=dF (by omega);have e2:decide ((m:Int)>4)=false:=dF (by omega)
 conv=>whnf
 rw [e1]
 conv=>whnf
 rw [e2]
 conv=>whnf
 refine ⟨_,cKidsSub,?_⟩
 conv=>whnf
 refine ⟨_,cCheck E P,?_⟩;rw [if_pos hF]
 conv=>whnf
 refine ⟨_,cCloneN2,?_⟩
 conv=>whnf
 refine ⟨_,hn,?_⟩
 conv=>whnf
 rfl
theorem cOpMul (hF:Fmt E P) (hm:m≤4) (hn:Cal Tryz.prog OQ 63 [iA (m:Nat),fA E P,iA 10,nlA [a,b]] (.t [nA v,iA f])):Cal Tryz.prog OQ 15 [iA (m:Nat),fA E P,iA 10,nlA [a,b]] (.t [nA v,iA f,iA 0]):=by
 refine fn_callB [(6,[(1,5),(4,2000000),(5,2000000),(9,8)])] TK MX Tryz.func15 rfl (by kernel_rfl) (by kernel_rfl) (by kernel_rfl) rfl rfl ?_;have e1:decide ((m:Int)<0)=false:=dF (by omega);have e2:decide ((m:Int)>4)=false:=dF (by omega)
 conv=>whnf
 rw [e1]
 conv=>whnf
 rw [e2]
 conv=>whnf
 refine ⟨_,cKidsMul,?_⟩
 conv=>whnf
 refine ⟨_,cCheck E P,?_⟩;rw [if_pos hF]
 conv=>whnf
 refine ⟨_,cCloneN2,?_⟩
 conv=>whnf
 refine ⟨_,hn,?_⟩
 conv=>whnf
 rfl
theorem cOpDiv (hF:Fmt E P) (hm:m≤4) (hn:Cal Tryz.prog OQ 63 [iA (m:Nat),fA E P,iA 11,nlA [a,b]] (.t [nA v,iA f])):Cal Tryz.prog OQ 15 [iA (m:Nat),fA E P,iA 11,nlA [a,b]] (.t [nA v,iA f,iA 0]):=by
 refine fn_callB [(6,[(1,5),(4,2000000),(5,2000000),(9,8)])] TK MX Tryz.func15 rfl (by kernel_rfl) (by kernel_rfl) (by kernel_rfl) rfl rfl ?_;have e1:decide ((m:Int)<0)=false:=dF (by omega);have e2:decide ((m:Int)>4)=false:=dF (by omega)
 conv=>whnf
 rw [e1]
 conv=>whnf
 rw [e2]
 conv=>whnf
 refine ⟨_,cKidsDiv,?_⟩
 conv=>whnf
 refine ⟨_,cCheck E P,?_⟩;rw [if_pos hF]
 conv=>whnf
 refine ⟨_,cCloneN2,?_⟩
 conv=>whnf
 refine ⟨_,hn,?_⟩
 conv=>whnf
 rfl
theorem cOpFma (hF:Fmt E P) (hm:m≤4) (hn:Cal Tryz.prog OQ 63 [iA (m:Nat),fA E P,iA 14,nlA [a,b,c]] (.t [nA v,iA f])):Cal Tryz.prog OQ 15 [iA (m:Nat),fA E P,iA 14,nlA [a,b,c]] (.t [nA v,iA f,iA 0]):=by
 refine fn_callB [(6,[(1,5),(4,2000000),(5,2000000),(9,8)])] TK MX Tryz.func15 rfl (by kernel_rfl) (by kernel_rfl) (by kernel_rfl) rfl rfl ?_;have e1:decide ((m:Int)<0)=false:=dF (by omega);have e2:decide ((m:Int)>4)=false:=dF (by omega)
 conv=>whnf
 rw [e1]
 conv=>whnf
 rw [e2]
 conv=>whnf
 refine ⟨_,cKidsFma,?_⟩
 conv=>whnf
 refine ⟨_,cCheck E P,?_⟩;rw [if_pos hF]
 conv=>whnf
 refine ⟨_,cCloneN3,?_⟩
 conv=>whnf
 refine ⟨_,hn,?_⟩
 conv=>whnf
 rfl
end
abbrev wdsA (M E P op:Int) (i j l:Nat):AV:=.g [.v (.int .i64 M),.v (.int .i64 E),.v (.int .i64 P),.v (.int .i64 op),.v (.int .u64 ((i/18446744073709551616:Nat):Int)),.v (.int .u64 ((i%18446744073709551616:Nat):Int)),.v (.int .u64 ((j/18446744073709551616:Nat):Int)),.v (.int .u64 ((j%18446744073709551616:Nat):Int)),.v (.int .u64 ((l/18446744073709551616:Nat):Int)),.v (.int .u64 ((l%18446744073709551616:Nat):Int))]
section
variable {M E P f e:Int} {i j l r:Nat}
theorem cMachAdd (h:Cal Tryz.prog OQ 55 [fA E P,iA M,wA i,wA j] (.t [wA r,iA f,iA e])):Cal Tryz.prog OQ 14 [wdsA M E P 8 i j l] (.t [wA r,iA e,.c (.sl 2 [wdC i,wdC j]),bA true]):=by
 refine fn_callB [(4,[(0,6),(3,1),(5,1),(7,2)]),(7,[(0,9),(3,1),(5,1),(7,2)]),(10,[(0,12),(3,1),(5,1),(7,2)]),(13,[(0,15),(3,1),(5,1),(7,2)]),(16,[(0,18),(3,1),(5,2)]),(19,[(0,21),(3,1),(5,1),(7,1),(9,2)]),(22,[(0,24),(3,1),(5,2)])] TK MX Tryz.func14 rfl (by kernel_rfl) (by kernel_rfl) (by kernel_rfl) rfl rfl ?_
 conv=>whnf
 refine ⟨_,h,?_⟩
 conv=>whnf
 rfl
theorem cMachSub (h:Cal Tryz.prog OQ 56 [fA E P,iA M,wA i,wA j] (.t [wA r,iA f,iA e])):Cal Tryz.prog OQ 14 [wdsA M E P 9 i j l] (.t [wA r,iA e,.c (.sl 2 [wdC i,wdC j]),bA true]):=by
 refine fn_callB [(4,[(0,6),(3,1),(5,1),(7,2)]),(7,[(0,9),(3,1),(5,1),(7,2)]),(10,[(0,12),(3,1),(5,1),(7,2)]),(13,[(0,15),(3,1),(5,1),(7,2)]),(16,[(0,18),(3,1),(5,2)]),(19,[(0,21),(3,1),(5,1),(7,1),(9,2)]),(22,[(0,24),(3,1),(5,2)])] TK MX Tryz.func14 rfl (by kernel_rfl) (by kernel_rfl) (by kernel_rfl) rfl rfl ?_
 conv=>whnf
 refine ⟨_,h,?_⟩
 conv=>whnf
 rfl
theorem cMachMul (h:Cal Tryz.prog OQ 57 [fA E P,iA M,wA i,wA j] (.t [wA r,iA f,iA e])):Cal Tryz.prog OQ 14 [wdsA M E P 10 i j l] (.t [wA r,iA e,.c (.sl 2 [wdC i,wdC j]),bA true]):=by
 refine fn_callB [(4,[(0,6),(3,1),(5,1),(7,2)]),(7,[(0,9),(3,1),(5,1),(7,2)]),(10,[(0,12),(3,1),(5,1),(7,2)]),(13,[(0,15),(3,1),(5,1),(7,2)]),(16,[(0,18),(3,1),(5,2)]),(19,[(0,21),(3,1),(5,1),(7,1),(9,2)]),(22,[(0,24),(3,1),(5,2)])] TK MX Tryz.func14 rfl (by kernel_rfl) (by kernel_rfl) (by kernel_rfl) rfl rfl ?_
 conv=>whnf
 refine ⟨_,h,?_⟩
 conv=>whnf
 rfl
theorem cMachDiv (h:Cal Tryz.prog OQ 58 [fA E P,iA M,wA i,wA j] (.t [wA r,iA f,iA e])):Cal Tryz.prog OQ 14 [wdsA M E P 11 i j l] (.t [wA r,iA e,.c (.sl 2 [wdC i,wdC j]),bA true]):=by
 refine fn_callB [(4,[(0,6),(3,1),(5,1),(7,2)]),(7,[(0,9),(3,1),(5,1),(7,2)]),(10,[(0,12),(3,1),(5,1),(7,2)]),(13,[(0,15),(3,1),(5,1),(7,2)]),(16,[(0,18),(3,1),(5,2)]),(19,[(0,21),(3,1),(5,1),(7,1),(9,2)]),(22,[(0,24),(3,1),(5,2)])] TK MX Tryz.func14 rfl (by kernel_rfl) (by kernel_rfl) (by kernel_rfl) rfl rfl ?_
 conv=>whnf
 refine ⟨_,h,?_⟩
 conv=>whnf
 rfl
theorem cMachSqrt (h:Cal Tryz.prog OQ 59 [fA E P,iA M,wA i] (.t [wA r,iA f,iA e])):Cal Tryz.prog OQ 14 [wdsA M E P 6 i j l] (.t [wA r,iA e,.c (.sl 2 [wdC i]),bA true]):=by
 refine fn_callB [(4,[(0,6),(3,1),(5,1),(7,2)]),(7,[(0,9),(3,1),(5,1),(7,2)]),(10,[(0,12),(3,1),(5,1),(7,2)]),(13,[(0,15),(3,1),(5,1),(7,2)]),(16,[(0,18),(3,1),(5,2)]),(19,[(0,21),(3,1),(5,1),(7,1),(9,2)]),(22,[(0,24),(3,1),(5,2)])] TK MX Tryz.func14 rfl (by kernel_rfl) (by kernel_rfl) (by kernel_rfl) rfl rfl ?_
 conv=>whnf
 refine ⟨_,h,?_⟩
 conv=>whnf
 rfl
theorem cMachFma (h:Cal Tryz.prog OQ 60 [fA E P,iA M,wA i,wA j,wA l] (.t [wA r,iA f,iA e])):Cal Tryz.prog OQ 14 [wdsA M E P 14 i j l] (.t [wA r,iA e,.c (.sl 2 [wdC i,wdC j,wdC l]),bA true]):=by
 refine fn_callB [(4,[(0,6),(3,1),(5,1),(7,2)]),(7,[(0,9),(3,1),(5,1),(7,2)]),(10,[(0,12),(3,1),(5,1),(7,2)]),(13,[(0,15),(3,1),(5,1),(7,2)]),(16,[(0,18),(3,1),(5,2)]),(19,[(0,21),(3,1),(5,1),(7,1),(9,2)]),(22,[(0,24),(3,1),(5,2)])] TK MX Tryz.func14 rfl (by kernel_rfl) (by kernel_rfl) (by kernel_rfl) rfl rfl ?_
 conv=>whnf
 refine ⟨_,h,?_⟩
 conv=>whnf
 rfl
theorem cMachCast (h:Cal Tryz.prog OQ 61 [fA E P,fA E P,iA M,wA i] (.t [wA r,iA f,iA e])):Cal Tryz.prog OQ 14 [wdsA M E P 7 i j l] (.t [wA r,iA e,.c (.sl 2 [wdC i]),bA true]):=by
 refine fn_callB [(4,[(0,6),(3,1),(5,1),(7,2)]),(7,[(0,9),(3,1),(5,1),(7,2)]),(10,[(0,12),(3,1),(5,1),(7,2)]),(13,[(0,15),(3,1),(5,1),(7,2)]),(16,[(0,18),(3,1),(5,2)]),(19,[(0,21),(3,1),(5,1),(7,1),(9,2)]),(22,[(0,24),(3,1),(5,2)])] TK MX Tryz.func14 rfl (by kernel_rfl) (by kernel_rfl) (by kernel_rfl) rfl rfl ?_
 conv=>whnf
 refine ⟨_,h,?_⟩
 conv=>whnf
 rfl
theorem cMachNone {op:Int} (h:op≠8∧op≠9∧op≠10∧op≠11∧op≠6∧op≠14∧op≠7):Cal Tryz.prog OQ 14 [wdsA M E P op i j l] (.t [wA 0,iA 0,.c (.v (.slice none 0 0)),bA false]):=by
 refine fn_callB [(4,[(0,6),(3,1),(5,1),(7,2)]),(7,[(0,9),(3,1),(5,1),(7,2)]),(10,[(0,12),(3,1),(5,1),(7,2)]),(13,[(0,15),(3,1),(5,1),(7,2)]),(16,[(0,18),(3,1),(5,2)]),(19,[(0,21),(3,1),(5,1),(7,1),(9,2)]),(22,[(0,24),(3,1),(5,2)])] TK MX Tryz.func14 rfl (by kernel_rfl) (by kernel_rfl) (by kernel_rfl) rfl rfl ?_;obtain ⟨h1,h2,h3,h4,h5,h6,h7⟩:=h
 conv=>whnf
 rw [show (op==8)=false from beq_eq_false_iff_ne.2 h1]
 conv=>whnf
 rw [show (op==9)=false from beq_eq_false_iff_ne.2 h2]
 conv=>whnf
 rw [show (op==10)=false from beq_eq_false_iff_ne.2 h3]
 conv=>whnf
 rw [show (op==11)=false from beq_eq_false_iff_ne.2 h4]
 conv=>whnf
 rw [show (op==6)=false from beq_eq_false_iff_ne.2 h5]
 conv=>whnf
 rw [show (op==14)=false from beq_eq_false_iff_ne.2 h6]
 conv=>whnf
 rw [show (op==7)=false from beq_eq_false_iff_ne.2 h7]
 conv=>whnf
 rfl
end
section
variable {M E P op e:Int} {i j l r:Nat}
theorem cTopNone (h:op≠8∧op≠9∧op≠10∧op≠11∧op≠6∧op≠14∧op≠7):Cal Tryz.prog OQ 4 [wdsA M E P op i j l] (bA true):=by
 refine fn_callB [(8,[(1,1),(5,2000000),(6,2000000),(11,9)])] TK MX Tryz.func4 rfl (by kernel_rfl) (by kernel_rfl) (by kernel_rfl) rfl rfl ?_
 conv=>whnf
 refine ⟨_,cMachNone h,?_⟩
 conv=>whnf
 refine ⟨_,cKnown,?_⟩
 conv=>whnf
 rfl
theorem cTopBad {rows:List (List AC)} (h:Cal Tryz.prog OQ 14 [wdsA M E P op i j l] (.t [wA r,iA e,.c (.sl 2 rows),bA true])) (he:e≠0):Cal Tryz.prog OQ 4 [wdsA M E P op i j l] (bA true):=by
 refine fn_callB [(8,[(1,1),(5,2000000),(6,2000000),(11,9)])] TK MX Tryz.func4 rfl (by kernel_rfl) (by kernel_rfl) (by kernel_rfl) rfl rfl ?_
 conv=>whnf
 refine ⟨_,h,?_⟩
 conv=>whnf
 rw [show (e != 0)=true from bne_iff_ne.2 he]
 conv=>whnf
 refine ⟨_,cKnown,?_⟩
 conv=>whnf
 rfl
end
theorem flat_op (v:Rat) (f:Int):FlatR (.t [nA v,iA f,iA 0]):=by
 intro x hx
 simp only [List.mem_cons,List.not_mem_nil,or_false] at hx
 rcases hx with rfl | rfl | rfl
 ·exact num_flat v
 ·exact rfl
 ·exact rfl
section
variable {E P m:Nat} {i j l r:Nat}
def OutF (E P m r:Nat) (op:Int) (x:List Rat):Prop:=wkind E P r≤2∧Cal Tryz.prog OQ 15 [iA (m:Nat),fA E P,iA op,nlA x] (.t [nA (wvalK E P (bias E) r),iA 0,iA 0])
def OutE (E P m r:Nat) (op:Int) (x:List Rat) (k f:Int):Prop:=kd E P r=k∧Cal Tryz.prog OQ 15 [iA (m:Nat),fA E P,iA op,nlA x] (.t [nA 0,iA f,iA 0])
theorem cDecodeK {k:Int} (hF:Fmt E P) (hr:r<2^(E+P)) (hk:kd E P r=k):Cal Tryz.prog OQ 16 [fA E P,wA r] (.t [.g [.v (.int .i64 k),.v (.bool (wn E P r)),.v (.string (numText (vl E P r)))],iA 0]):=by
 rw [←hk];exact cDecode hF hr
theorem kd_fin (h:wkind E P r≤2):kd E P r=1∨kd E P r=2:=by
 have h:kd E P r≤2:=h
 have:=kd_cases E P r;omega
theorem cSignZ {q:Rat} (h:q=0):Cal Tryz.prog OQ 17 [nA q] (iA 0):=by
 have:=cSign (q:=q)
 rwa [show q.num.sign=0 by rw [h];rfl] at this
theorem sign_b {q:Rat} (h:q≠0):(q.num.sign==0)=false:=by
 rw [beq_eq_false_iff_ne]
 intro e
 exact h (Rat.num_eq_zero.1 (Int.sign_eq_zero_iff_zero.1 e))
theorem cTopAdd (hF:Fmt E P) (hi:i<2^(E+P)) (hj:j<2^(E+P)) (hr:r<2^(E+P))
  (h:Cal Tryz.prog OQ 14 [wdsA m E P 8 i j l] (.t [wA r,iA 0,.c (.sl 2 [wdC i,wdC j]),bA true]))
  (ho:wkind E P i≤2→wkind E P j≤2→OutF E P m r 8 [wvalK E P (bias E) i,wvalK E P (bias E) j]∨OutE E P m r 8 [wvalK E P (bias E) i,wvalK E P (bias E) j] 3 1):Cal Tryz.prog OQ 4 [wdsA m E P 8 i j l] (bA true):=by
 refine fn_callB [(8,[(1,1),(5,2000000),(6,2000000),(11,9)])] TK MX Tryz.func4 rfl (by kernel_rfl) (by kernel_rfl) (by kernel_rfl) rfl rfl ?_
 conv=>whnf
 refine ⟨_,h,?_⟩
 conv=>whnf
 refine ⟨3,?_⟩
 conv=>whnf
 refine ⟨_,cValue hF hi,?_⟩;unfold valR
 by_cases ki:¬ wkind E P i≤2
 ·rw [if_neg ki]
  conv=>whnf
  refine ⟨_,cKnown,?_⟩
  conv=>whnf
  rfl
 have ki:=Decidable.not_not.1 ki;rw [if_pos ki]
 conv=>whnf
 refine ⟨_,cValue hF hj,?_⟩;unfold valR
 by_cases kj:¬ wkind E P j≤2
 ·rw [if_neg kj]
  conv=>whnf
  refine ⟨_,cKnown,?_⟩
  conv=>whnf
  rfl
 have kj:=Decidable.not_not.1 kj;rw [if_pos kj]
 conv=>whnf
 rcases ho ki kj with ⟨hk,hc⟩ | ⟨hk,hc⟩
 ·rcases kd_fin hk with hk1 | hk1
  ·refine ⟨_,hc,flat_op _ _,?_⟩
   conv=>whnf
   refine ⟨_,cDecodeK hF hr hk1,?_⟩
   conv=>whnf
   refine ⟨_,cValue hF hr,?_⟩;unfold valR;rw [if_pos hk]
   conv=>whnf
   refine ⟨_,cCmp (sm_word hF) (sm_word hF) (by decide),?_⟩;rw [cmpQ_self]
   conv=>whnf
   refine ⟨_,cKnown,?_⟩
   conv=>whnf
   rfl
  ·refine ⟨_,hc,flat_op _ _,?_⟩
   conv=>whnf
   refine ⟨_,cDecodeK hF hr hk1,?_⟩
   conv=>whnf
   refine ⟨_,cValue hF hr,?_⟩;unfold valR;rw [if_pos hk]
   conv=>whnf
   refine ⟨_,cCmp (sm_word hF) (sm_word hF) (by decide),?_⟩;rw [cmpQ_self]
   conv=>whnf
   refine ⟨_,cKnown,?_⟩
   conv=>whnf
   rfl
 ·refine ⟨_,hc,flat_op _ _,?_⟩
  conv=>whnf
  refine ⟨_,cDecodeK hF hr hk,?_⟩
  conv=>whnf
  refine ⟨_,cKnown,?_⟩
  conv=>whnf
  rfl
theorem cTopSub (hF:Fmt E P) (hi:i<2^(E+P)) (hj:j<2^(E+P)) (hr:r<2^(E+P))
  (h:Cal Tryz.prog OQ 14 [wdsA m E P 9 i j l] (.t [wA r,iA 0,.c (.sl 2 [wdC i,wdC j]),bA true]))
  (ho:wkind E P i≤2→wkind E P j≤2→OutF E P m r 9 [wvalK E P (bias E) i,wvalK E P (bias E) j]∨OutE E P m r 9 [wvalK E P (bias E) i,wvalK E P (bias E) j] 3 1):Cal Tryz.prog OQ 4 [wdsA m E P 9 i j l] (bA true):=by
 refine fn_callB [(8,[(1,1),(5,2000000),(6,2000000),(11,9)])] TK MX Tryz.func4 rfl (by kernel_rfl) (by kernel_rfl) (by kernel_rfl) rfl rfl ?_
 conv=>whnf
 refine ⟨_,h,?_⟩
 conv=>whnf
 refine ⟨3,?_⟩
 conv=>whnf
 refine ⟨_,cValue hF hi,?_⟩;unfold valR
 by_cases ki:¬ wkind E P i≤2
 ·rw [if_neg ki]
  conv=>whnf
  refine ⟨_,cKnown,?_⟩
  conv=>whnf
  rfl
 have ki:=Decidable.not_not.1 ki;rw [if_pos ki]
 conv=>whnf
 refine ⟨_,cValue hF hj,?_⟩;unfold valR
 by_cases kj:¬ wkind E P j≤2
 ·rw [if_neg kj]
  conv=>whnf
  refine ⟨_,cKnown,?_⟩
  conv=>whnf
  rfl
 have kj:=Decidable.not_not.1 kj;rw [if_pos kj]
 conv=>whnf
 rcases ho ki kj with ⟨hk,hc⟩ | ⟨hk,hc⟩
 ·rcases kd_fin hk with hk1 | hk1
  ·refine ⟨_,hc,flat_op _ _,?_⟩
   conv=>whnf
   refine ⟨_,cDecodeK hF hr hk1,?_⟩
   conv=>whnf
   refine ⟨_,cValue hF hr,?_⟩;unfold valR;rw [if_pos hk]
   conv=>whnf
   refine ⟨_,cCmp (sm_word hF) (sm_word hF) (by decide),?_⟩;rw [cmpQ_self]
   conv=>whnf
   refine ⟨_,cKnown,?_⟩
   conv=>whnf
   rfl
  ·refine ⟨_,hc,flat_op _ _,?_⟩
   conv=>whnf
   refine ⟨_,cDecodeK hF hr hk1,?_⟩
   conv=>whnf
   refine ⟨_,cValue hF hr,?_⟩;unfold valR;rw [if_pos hk]
   conv=>whnf
   refine ⟨_,cCmp (sm_word hF) (sm_word hF) (by decide),?_⟩;rw [cmpQ_self]
   conv=>whnf
   refine ⟨_,cKnown,?_⟩
   conv=>whnf
   rfl
 ·refine ⟨_,hc,flat_op _ _,?_⟩
  conv=>whnf
  refine ⟨_,cDecodeK hF hr hk,?_⟩
  conv=>whnf
  refine ⟨_,cKnown,?_⟩
  conv=>whnf
  rfl
theorem cTopMul (hF:Fmt E P) (hi:i<2^(E+P)) (hj:j<2^(E+P)) (hr:r<2^(E+P))
  (h:Cal Tryz.prog OQ 14 [wdsA m E P 10 i j l] (.t [wA r,iA 0,.c (.sl 2 [wdC i,wdC j]),bA true]))
  (ho:wkind E P i≤2→wkind E P j≤2→OutF E P m r 10 [wvalK E P (bias E) i,wvalK E P (bias E) j]∨OutE E P m r 10 [wvalK E P (bias E) i,wvalK E P (bias E) j] 3 1):Cal Tryz.prog OQ 4 [wdsA m E P 10 i j l] (bA true):=by
 refine fn_callB [(8,[(1,1),(5,2000000),(6,2000000),(11,9)])] TK MX Tryz.func4 rfl (by kernel_rfl) (by kernel_rfl) (by kernel_rfl) rfl rfl ?_
 conv=>whnf
 refine ⟨_,h,?_⟩
 conv=>whnf
 refine ⟨3,?_⟩
 conv=>whnf
 refine ⟨_,cValue hF hi,?_⟩;unfold valR
 by_cases ki:¬ wkind E P i≤2
 ·rw [if_neg ki]
  conv=>whnf
  refine ⟨_,cKnown,?_⟩
  conv=>whnf
  rfl
 have ki:=Decidable.not_not.1 ki;rw [if_pos ki]
 conv=>whnf
 refine ⟨_,cValue hF hj,?_⟩;unfold valR
 by_cases kj:¬ wkind E P j≤2
 ·rw [if_neg kj]
  conv=>whnf
  refine ⟨_,cKnown,?_⟩
  conv=>whnf
  rfl
 have kj:=Decidable.not_not.1 kj;rw [if_pos kj]
 conv=>whnf
 rcases ho ki kj with ⟨hk,hc⟩ | ⟨hk,hc⟩
 ·rcases kd_fin hk with hk1 | hk1
  ·refine ⟨_,hc,flat_op _ _,?_⟩
   conv=>whnf
   refine ⟨_,cDecodeK hF hr hk1,?_⟩
   conv=>whnf
   refine ⟨_,cValue hF hr,?_⟩;unfold valR;rw [if_pos hk]
   conv=>whnf
   refine ⟨_,cCmp (sm_word hF) (sm_word hF) (by decide),?_⟩;rw [cmpQ_self]
   conv=>whnf
   refine ⟨_,cKnown,?_⟩
   conv=>whnf
   rfl
  ·refine ⟨_,hc,flat_op _ _,?_⟩
   conv=>whnf
   refine ⟨_,cDecodeK hF hr hk1,?_⟩
   conv=>whnf
   refine ⟨_,cValue hF hr,?_⟩;unfold valR;rw [if_pos hk]
   conv=>whnf
   refine ⟨_,cCmp (sm_word hF) (sm_word hF) (by decide),?_⟩;rw [cmpQ_self]
   conv=>whnf
   refine ⟨_,cKnown,?_⟩
   conv=>whnf
   rfl
 ·refine ⟨_,hc,flat_op _ _,?_⟩
  conv=>whnf
  refine ⟨_,cDecodeK hF hr hk,?_⟩
  conv=>whnf
  refine ⟨_,cKnown,?_⟩
  conv=>whnf
  rfl
theorem cTopDiv (hF:Fmt E P) (hi:i<2^(E+P)) (hj:j<2^(E+P)) (hr:r<2^(E+P))
  (h:Cal Tryz.prog OQ 14 [wdsA m E P 11 i j l] (.t [wA r,iA 0,.c (.sl 2 [wdC i,wdC j]),bA true]))
  (ho:wkind E P i≤2→wkind E P j≤2→OutF E P m r 11 [wvalK E P (bias E) i,wvalK E P (bias E) j]∨(wvalK E P (bias E) j≠0∧OutE E P m r 11 [wvalK E P (bias E) i,wvalK E P (bias E) j] 3 1)∨(wvalK E P (bias E) j=0∧OutE E P m r 11 [wvalK E P (bias E) i,wvalK E P (bias E) j] 3 2)∨OutE E P m r 11 [wvalK E P (bias E) i,wvalK E P (bias E) j] 4 2):Cal Tryz.prog OQ 4 [wdsA m E P 11 i j l] (bA true):=by
 refine fn_callB [(8,[(1,1),(5,2000000),(6,2000000),(11,9)])] TK MX Tryz.func4 rfl (by kernel_rfl) (by kernel_rfl) (by kernel_rfl) rfl rfl ?_
 conv=>whnf
 refine ⟨_,h,?_⟩
 conv=>whnf
 refine ⟨3,?_⟩
 conv=>whnf
 refine ⟨_,cValue hF hi,?_⟩;unfold valR
 by_cases ki:¬ wkind E P i≤2
 ·rw [if_neg ki]
  conv=>whnf
  refine ⟨_,cKnown,?_⟩
  conv=>whnf
  rfl
 have ki:=Decidable.not_not.1 ki;rw [if_pos ki]
 conv=>whnf
 refine ⟨_,cValue hF hj,?_⟩;unfold valR
 by_cases kj:¬ wkind E P j≤2
 ·rw [if_neg kj]
  conv=>whnf
  refine ⟨_,cKnown,?_⟩
  conv=>whnf
  rfl
 have kj:=Decidable.not_not.1 kj;rw [if_pos kj]
 conv=>whnf
 rcases ho ki kj with ⟨hk,hc⟩ | ⟨hz,hk,hc⟩ | ⟨hz,hk,hc⟩ | ⟨hk,hc⟩
 ·rcases kd_fin hk with hk1 | hk1
  ·refine ⟨_,hc,flat_op _ _,?_⟩
   conv=>whnf
   refine ⟨_,cDecodeK hF hr hk1,?_⟩
   conv=>whnf
   refine ⟨_,cValue hF hr,?_⟩;unfold valR;rw [if_pos hk]
   conv=>whnf
   refine ⟨_,cCmp (sm_word hF) (sm_word hF) (by decide),?_⟩;rw [cmpQ_self]
   conv=>whnf
   refine ⟨_,cKnown,?_⟩
   conv=>whnf
   rfl
  ·refine ⟨_,hc,flat_op _ _,?_⟩
   conv=>whnf
   refine ⟨_,cDecodeK hF hr hk1,?_⟩
   conv=>whnf
   refine ⟨_,cValue hF hr,?_⟩;unfold valR;rw [if_pos hk]
   conv=>whnf
   refine ⟨_,cCmp (sm_word hF) (sm_word hF) (by decide),?_⟩;rw [cmpQ_self]
   conv=>whnf
   refine ⟨_,cKnown,?_⟩
   conv=>whnf
   rfl
 ·refine ⟨_,hc,flat_op _ _,?_⟩
  conv=>whnf
  refine ⟨_,cDecodeK hF hr hk,?_⟩
  conv=>whnf
  refine ⟨_,cSign,?_⟩
  conv=>whnf
  rw [sign_b hz]
  conv=>whnf
  refine ⟨_,cKnown,?_⟩
  conv=>whnf
  rfl
 ·refine ⟨_,hc,flat_op _ _,?_⟩
  conv=>whnf
  refine ⟨_,cDecodeK hF hr hk,?_⟩
  conv=>whnf
  refine ⟨_,cSignZ hz,?_⟩
  conv=>whnf
  refine ⟨_,cKnown,?_⟩
  conv=>whnf
  rfl
 ·refine ⟨_,hc,flat_op _ _,?_⟩
  conv=>whnf
  refine ⟨_,cDecodeK hF hr hk,?_⟩
  conv=>whnf
  refine ⟨_,cKnown,?_⟩
  conv=>whnf
  rfl
theorem cTopSqrt (hF:Fmt E P) (hi:i<2^(E+P)) (hr:r<2^(E+P))
  (h:Cal Tryz.prog OQ 14 [wdsA m E P 6 i j l] (.t [wA r,iA 0,.c (.sl 2 [wdC i]),bA true]))
  (ho:wkind E P i≤2→OutF E P m r 6 [wvalK E P (bias E) i]∨OutE E P m r 6 [wvalK E P (bias E) i] 3 1∨OutE E P m r 6 [wvalK E P (bias E) i] 4 3):Cal Tryz.prog OQ 4 [wdsA m E P 6 i j l] (bA true):=by
 refine fn_callB [(8,[(1,1),(5,2000000),(6,2000000),(11,9)])] TK MX Tryz.func4 rfl (by kernel_rfl) (by kernel_rfl) (by kernel_rfl) rfl rfl ?_
 conv=>whnf
 refine ⟨_,h,?_⟩
 conv=>whnf
 refine ⟨2,?_⟩
 conv=>whnf
 refine ⟨_,cValue hF hi,?_⟩;unfold valR
 by_cases ki:¬ wkind E P i≤2
 ·rw [if_neg ki]
  conv=>whnf
  refine ⟨_,cKnown,?_⟩
  conv=>whnf
  rfl
 have ki:=Decidable.not_not.1 ki;rw [if_pos ki]
 conv=>whnf
 rcases ho ki with ⟨hk,hc⟩ | ⟨hk,hc⟩ | ⟨hk,hc⟩
 ·rcases kd_fin hk with hk1 | hk1
  ·refine ⟨_,hc,flat_op _ _,?_⟩
   conv=>whnf
   refine ⟨_,cDecodeK hF hr hk1,?_⟩
   conv=>whnf
   refine ⟨_,cValue hF hr,?_⟩;unfold valR;rw [if_pos hk]
   conv=>whnf
   refine ⟨_,cCmp (sm_word hF) (sm_word hF) (by decide),?_⟩;rw [cmpQ_self]
   conv=>whnf
   refine ⟨_,cKnown,?_⟩
   conv=>whnf
   rfl
  ·refine ⟨_,hc,flat_op _ _,?_⟩
   conv=>whnf
   refine ⟨_,cDecodeK hF hr hk1,?_⟩
   conv=>whnf
   refine ⟨_,cValue hF hr,?_⟩;unfold valR;rw [if_pos hk]
   conv=>whnf
   refine ⟨_,cCmp (sm_word hF) (sm_word hF) (by decide),?_⟩;rw [cmpQ_self]
   conv=>whnf
   refine ⟨_,cKnown,?_⟩
   conv=>whnf
   rfl
 ·refine ⟨_,hc,flat_op _ _,?_⟩
  conv=>whnf
  refine ⟨_,cDecodeK hF hr hk,?_⟩
  conv=>whnf
  refine ⟨_,cKnown,?_⟩
  conv=>whnf
  rfl
 ·refine ⟨_,hc,flat_op _ _,?_⟩
  conv=>whnf
  refine ⟨_,cDecodeK hF hr hk,?_⟩
  conv=>whnf
  refine ⟨_,cKnown,?_⟩
  conv=>whnf
  rfl
theorem cTopFma (hF:Fmt E P) (hi:i<2^(E+P)) (hj:j<2^(E+P)) (hl:l<2^(E+P)) (hr:r<2^(E+P))
  (h:Cal Tryz.prog OQ 14 [wdsA m E P 14 i j l] (.t [wA r,iA 0,.c (.sl 2 [wdC i,wdC j,wdC l]),bA true]))
  (ho:wkind E P i≤2→wkind E P j≤2→wkind E P l≤2→OutF E P m r 14 [wvalK E P (bias E) i,wvalK E P (bias E) j,wvalK E P (bias E) l]∨OutE E P m r 14 [wvalK E P (bias E) i,wvalK E P (bias E) j,wvalK E P (bias E) l] 3 1):Cal Tryz.prog OQ 4 [wdsA m E P 14 i j l] (bA true):=by
 refine fn_callB [(8,[(1,1),(5,2000000),(6,2000000),(11,9)])] TK MX Tryz.func4 rfl (by kernel_rfl) (by kernel_rfl) (by kernel_rfl) rfl rfl ?_
 conv=>whnf
 refine ⟨_,h,?_⟩
 conv=>whnf
 refine ⟨4,?_⟩
 conv=>whnf
 refine ⟨_,cValue hF hi,?_⟩;unfold valR
 by_cases ki:¬ wkind E P i≤2
 ·rw [if_neg ki]
  conv=>whnf
  refine ⟨_,cKnown,?_⟩
  conv=>whnf
  rfl
 have ki:=Decidable.not_not.1 ki;rw [if_pos ki]
 conv=>whnf
 refine ⟨_,cValue hF hj,?_⟩;unfold valR
 by_cases kj:¬ wkind E P j≤2
 ·rw [if_neg kj]
  conv=>whnf
  refine ⟨_,cKnown,?_⟩
  conv=>whnf
  rfl
 have kj:=Decidable.not_not.1 kj;rw [if_pos kj]
 conv=>whnf
 refine ⟨_,cValue hF hl,?_⟩;unfold valR
 by_cases kl:¬ wkind E P l≤2
 ·rw [if_neg kl]
  conv=>whnf
  refine ⟨_,cKnown,?_⟩
  conv=>whnf
  rfl
 have kl:=Decidable.not_not.1 kl;rw [if_pos kl]
 conv=>whnf
 rcases ho ki kj kl with ⟨hk,hc⟩ | ⟨hk,hc⟩
 ·rcases kd_fin hk with hk1 | hk1
  ·refine ⟨_,hc,flat_op _ _,?_⟩
   conv=>whnf
   refine ⟨_,cDecodeK hF hr hk1,?_⟩
   conv=>whnf
   refine ⟨_,cValue hF hr,?_⟩;unfold valR;rw [if_pos hk]
   conv=>whnf
   refine ⟨_,cCmp (sm_word hF) (sm_word hF) (by decide),?_⟩;rw [cmpQ_self]
   conv=>whnf
   refine ⟨_,cKnown,?_⟩
   conv=>whnf
   rfl
  ·refine ⟨_,hc,flat_op _ _,?_⟩
   conv=>whnf
   refine ⟨_,cDecodeK hF hr hk1,?_⟩
   conv=>whnf
   refine ⟨_,cValue hF hr,?_⟩;unfold valR;rw [if_pos hk]
   conv=>whnf
   refine ⟨_,cCmp (sm_word hF) (sm_word hF) (by decide),?_⟩;rw [cmpQ_self]
   conv=>whnf
   refine ⟨_,cKnown,?_⟩
   conv=>whnf
   rfl
 ·refine ⟨_,hc,flat_op _ _,?_⟩
  conv=>whnf
  refine ⟨_,cDecodeK hF hr hk,?_⟩
  conv=>whnf
  refine ⟨_,cKnown,?_⟩
  conv=>whnf
  rfl
theorem cTopCast (hF:Fmt E P) (hi:i<2^(E+P)) (hr:r<2^(E+P))
  (h:Cal Tryz.prog OQ 14 [wdsA m E P 7 i j l] (.t [wA r,iA 0,.c (.sl 2 [wdC i]),bA true]))
  (ho:wkind E P i≤2→OutF E P m r 7 [wvalK E P (bias E) i]∨OutE E P m r 7 [wvalK E P (bias E) i] 3 1):Cal Tryz.prog OQ 4 [wdsA m E P 7 i j l] (bA true):=by
 refine fn_callB [(8,[(1,1),(5,2000000),(6,2000000),(11,9)])] TK MX Tryz.func4 rfl (by kernel_rfl) (by kernel_rfl) (by kernel_rfl) rfl rfl ?_
 conv=>whnf
 refine ⟨_,h,?_⟩
 conv=>whnf
 refine ⟨2,?_⟩
 conv=>whnf
 refine ⟨_,cValue hF hi,?_⟩;unfold valR
 by_cases ki:¬ wkind E P i≤2
 ·rw [if_neg ki]
  conv=>whnf
  refine ⟨_,cKnown,?_⟩
  conv=>whnf
  rfl
 have ki:=Decidable.not_not.1 ki;rw [if_pos ki]
 conv=>whnf
 rcases ho ki with ⟨hk,hc⟩ | ⟨hk,hc⟩
 ·rcases kd_fin hk with hk1 | hk1
  ·refine ⟨_,hc,flat_op _ _,?_⟩
   conv=>whnf
   refine ⟨_,cDecodeK hF hr hk1,?_⟩
   conv=>whnf
   refine ⟨_,cValue hF hr,?_⟩;unfold valR;rw [if_pos hk]
   conv=>whnf
   refine ⟨_,cCmp (sm_word hF) (sm_word hF) (by decide),?_⟩;rw [cmpQ_self]
   conv=>whnf
   refine ⟨_,cKnown,?_⟩
   conv=>whnf
   rfl
  ·refine ⟨_,hc,flat_op _ _,?_⟩
   conv=>whnf
   refine ⟨_,cDecodeK hF hr hk1,?_⟩
   conv=>whnf
   refine ⟨_,cValue hF hr,?_⟩;unfold valR;rw [if_pos hk]
   conv=>whnf
   refine ⟨_,cCmp (sm_word hF) (sm_word hF) (by decide),?_⟩;rw [cmpQ_self]
   conv=>whnf
   refine ⟨_,cKnown,?_⟩
   conv=>whnf
   rfl
 ·refine ⟨_,hc,flat_op _ _,?_⟩
  conv=>whnf
  refine ⟨_,cDecodeK hF hr hk,?_⟩
  conv=>whnf
  refine ⟨_,cKnown,?_⟩
  conv=>whnf
  rfl
end
section
variable {E P m:Nat} {i j l r n:Nat} {q:Rat}
/-! ### words -/
theorem nan_wordT (hP:2≤P):nanw E P=wordN E P false (2^(P-2)) (2^E-1):=by
 unfold nanw
 exact inf_or false (Nat.pow_lt_pow_right (by decide) (by omega))
theorem nanw_okT (hE:1≤E) (hP:2≤P):nanw E P<2^(E+P)∧kd E P (nanw E P)=4:=by
 have hlt:2^(P-2)<2^(P-1):=Nat.pow_lt_pow_right (by decide) (by omega);have h0:=special_fits (E:=E) (P:=P) (by omega) hlt;have hp:0<2^(P-1):=Nat.pow_pos (by decide);rw [nan_wordT hP];refine ⟨wordN_lt (by omega) _ h0,?_⟩;have e1:wf E P (wordN E P false (2^(P-2)) (2^E-1))=2^E-1:=by
  rw [wordN_wf (by omega) _ h0,Nat.add_mul_div_right _ _ hp,Nat.div_eq_of_lt hlt,Nat.zero_add]
 have e2:wr P (wordN E P false (2^(P-2)) (2^E-1))=2^(P-2):=by rw [wordN_wr (by omega) _ h0,Nat.mod_eq_of_lt hlt]
 show wkind E P _=4
 unfold wkind;have hp2:0<2^(P-2):=Nat.pow_pos (by decide);have e3:bl (2^(P-2))=P-1:=by rw [bl_unique (Nat.le_refl _) (Nat.pow_lt_pow_right (by decide) (by omega))];omega
 rw [if_pos e1,e2,if_neg (by omega),if_pos e3]
theorem zero_word (hE:2≤E) (hP:1≤P) (s:Bool):wkind E P (sgb E P s)≤2∧wvalK E P (bias E) (sgb E P s)=0:=by
 have h:=(sgb_ok hE hP s).2;have hl:=(sgb_ok hE hP s).1;unfold valueR at h;rw [if_neg (fun k=>k hl)] at h
 split at h
 ·cases h
 ·rename_i hk
  exact ⟨by omega,congrArg Prod.fst h⟩
theorem zero_word0 (hE:2≤E) (hP:1≤P):wkind E P 0≤2∧wvalK E P (bias E) 0=0:=zero_word hE hP false
theorem rootR_zero:(rootR E P m 0).1=0:=by
 have:rootR E P m 0=(sgb E P false,0):=if_pos rfl
 rw [this];rfl
theorem rootR_kd (hF:Fmt E P) (hq:0≤q):wkind E P (rootR E P m q).1≤3:=by
 have p:=fmt_n hF;have hE:=p.1;have hP:1≤P:=by have:=p.2.2.1;omega
 by_cases h0:q=0
 ·subst h0;rw [rootR_zero]
  have:=(zero_word0 hE hP).1
  omega
 ·unfold rootR;rw [if_neg h0];have hp:0<q:=by grind
  have hl:=rtN_lt (P:=P) (b:=bias E) (l:=lgQ q/2) (lg_pos hp) rfl;have hg:=rtN_ge (P:=P) (b:=bias E) (l:=lgQ q/2) (lg_pos hp) rfl hP;generalize rtN P (bias E) (lgQ q/2) q=N at *
  have ht:=endN_two m false N (rtE P (bias E) (lgQ q/2) q) (rtC P (bias E) (lgQ q/2) q);have hN:endN m false N (rtE P (bias E) (lgQ q/2) q) (rtC P (bias E) (lgQ q/2) q)≤2^P:=by omega
  have hge:rdF (bias E) (lgQ q/2)=0∨2^(P-1)≤endN m false N (rtE P (bias E) (lgQ q/2) q) (rtC P (bias E) (lgQ q/2) q):=by
   rcases hg with h | h
   ·exact .inl h
   ·exact .inr (by omega)
  have fin:∀ {n f:Nat},n+f*2^(P-1)<2^(E+P-1)→n≤2^P→(f=0∨2^(P-1)≤n)→((n:Nat):Rat)*(2:Rat)^(2-(bias E:Int)-P+(f:Nat))≤grQ P (bias E)→wkind E P (wordN E P false n f)≤3:=fun {n f} h hn hf hgr=>by
   have:wkind E P (wordN E P false n f)≤2:=by
    refine kind_of_le hE hP ?_;rw [wordN_val hP false h hn hf,absQ_signed (steps_nonneg _ _)];exact hgr
   omega
  unfold endR
  split
  ·rename_i hgr
   exact fin (end_fits (by omega) hP hN hge hgr) hN hge hgr
  ·split
   ·have hb:1≤bias E:=by
     have h4:=two_bias (E:=E) (by omega)
     have:2^2≤2^E:=Nat.pow_le_pow_right (by decide) hE
     omega
    have h5:2^P=2*2^(P-1):=by rw [←Nat.pow_succ'];congr 1;omega
    have h6:0<2^(P-1):=Nat.pow_pos (by decide);refine fin (great_fits hE hP) (by omega) (.inr (by omega)) ?_;unfold grQ;rw [show (2-(bias E:Int)-P+((2*bias E-1:Nat):Int))=(bias E:Int)-P+1 by omega]
    exact Rat.le_refl
   ·rw [inf_kind hP];exact Int.le_refl _
end
section
variable {E P m:Nat} {i j l r n:Nat} {a b c q:Rat}
/-! ### what comes out -/
theorem out_of {op:Int} {x:List Rat} (h:∀ {v:Rat} {f:Int},Cal Tryz.prog OQ 63 [iA (m:Nat),fA E P,iA op,nlA x] (.t [nA v,iA f])→Cal Tryz.prog OQ 15 [iA (m:Nat),fA E P,iA op,nlA x] (.t [nA v,iA f,iA 0]))
  (hn:Cal Tryz.prog OQ 63 [iA (m:Nat),fA E P,iA op,nlA x] (nrV E P n)) (hk:wkind E P n≤3):OutF E P m n op x∨OutE E P m n op x 3 1:=by
 unfold nrV at hn
 by_cases h2:wkind E P n≤2
 ·rw [if_pos h2] at hn
  exact .inl ⟨h2,h hn⟩
 ·rw [if_neg h2] at hn
  exact .inr ⟨by show wkind E P n=3;omega,h hn⟩
theorem out_zero {op:Int} {x:List Rat} (hF:Fmt E P) (h:∀ {v:Rat} {f:Int},Cal Tryz.prog OQ 63 [iA (m:Nat),fA E P,iA op,nlA x] (.t [nA v,iA f])→Cal Tryz.prog OQ 15 [iA (m:Nat),fA E P,iA op,nlA x] (.t [nA v,iA f,iA 0]))
  (hn:Cal Tryz.prog OQ 63 [iA (m:Nat),fA E P,iA op,nlA x] (nrV E P n)) (h0:n=0) (hr:wkind E P r≤2∧wvalK E P (bias E) r=0):OutF E P m r op x:=by
 subst h0;have p:=fmt_n hF;have z:=zero_word0 (E:=E) (P:=P) p.1 (by have:=p.2.2.1;omega);unfold nrV at hn;rw [if_pos z.1,z.2,←hr.2] at hn
 exact ⟨hr.1,h hn⟩
theorem kd_le (h:wkind E P i≤2):¬ 4≤kd E P i:=by show ¬ 4≤wkind E P i;omega
theorem kd_ne3 (h:wkind E P i≤2):¬ kd E P i=3:=by show ¬ wkind E P i=3;omega
theorem vl_zero (h:kd E P i=1):vl E P i=0:=(kind_zero (by have h:wkind E P i=1:=h;omega)).1 h
theorem opnR_fin {R:Nat×Nat} (hi:wkind E P i≤2) (hj:wkind E P j≤2):opnR E P i j R=R:=by
 unfold opnR;rw [if_neg];rintro (h | h)
 ·exact kd_le hi h
 ·exact kd_le hj h
/-! ### sums -/
theorem sumR_fin {k1 k2:Int} {n1 n2:Bool} {q1 q2:Rat} (h1:¬ k1=3) (h2:¬ k2=3):sumR E P m k1 n1 q1 k2 n2 q2=rq E P m (q1+q2)∨(q1+q2=0∧∃ s,sumR E P m k1 n1 q1 k2 n2 q2=(sgb E P s,0)):=by
 unfold sumR;rw [if_neg (fun h=>h1 h.1),if_neg h1,if_neg h2]
 by_cases h:q1+q2≠0
 ·rw [if_pos h];exact .inl rfl
 ·rw [if_neg h];refine .inr ⟨Decidable.not_not.1 h,?_⟩
  split
  ·exact ⟨_,rfl⟩
  ·exact ⟨_,rfl⟩
theorem out_sum {op:Int} {x:List Rat} {k1 k2:Int} {n1 n2:Bool} {q1 q2:Rat} (hF:Fmt E P) (h1:¬ k1=3) (h2:¬ k2=3) (h:∀ {v:Rat} {f:Int},Cal Tryz.prog OQ 63 [iA (m:Nat),fA E P,iA op,nlA x] (.t [nA v,iA f])→Cal Tryz.prog OQ 15 [iA (m:Nat),fA E P,iA op,nlA x] (.t [nA v,iA f,iA 0]))
  (hn:Cal Tryz.prog OQ 63 [iA (m:Nat),fA E P,iA op,nlA x] (nrV E P (rq E P m (q1+q2)).1)):OutF E P m (sumR E P m k1 n1 q1 k2 n2 q2).1 op x∨OutE E P m (sumR E P m k1 n1 q1 k2 n2 q2).1 op x 3 1:=by
 have p:=fmt_n hF;have hP:1≤P:=by have:=p.2.2.1;omega
 rcases sumR_fin (E:=E) (P:=P) (m:=m) (n1:=n1) (n2:=n2) (q1:=q1) (q2:=q2) h1 h2 with e | ⟨h0,s,e⟩
 ·rw [e];exact out_of h hn (rq_kd p.1 hP)
 ·rw [e];rw [h0,rq_zero] at hn
  exact .inl (out_zero hF h hn rfl (zero_word p.1 hP s))
/-! ### the words are words -/
theorem sumR_lt {k1 k2:Int} {n1 n2:Bool} {q1 q2:Rat} (hF:Fmt E P):(sumR E P m k1 n1 q1 k2 n2 q2).1<2^(E+P):=by
 have p:=fmt_n hF;have hP:2≤P:=by have:=p.2.2.1;omega
 unfold sumR
 repeat' split
 all_goals first
  | exact (nanw_okT (by omega) hP).1
  | exact (inf_ok (by omega) _).1
  | exact (sgb_ok p.1 (by omega) _).1
  | exact rq_lt hF
theorem exaR_lt {k:Int} {neg:Bool} (hF:Fmt E P):(exaR E P m k neg q).1<2^(E+P):=by
 have p:=fmt_n hF;have hP:2≤P:=by have:=p.2.2.1;omega
 unfold exaR
 repeat' split
 all_goals first
  | exact (nanw_okT (by omega) hP).1
  | exact (inf_ok (by omega) _).1
  | exact (sgb_ok p.1 (by omega) _).1
  | exact rq_lt hF
theorem mulR_lt {k1 k2:Int} {n1 n2:Bool} {q1 q2:Rat} (hF:Fmt E P):(mulR E P m k1 n1 q1 k2 n2 q2).1<2^(E+P):=by
 have p:=fmt_n hF;have hP:2≤P:=by have:=p.2.2.1;omega
 unfold mulR
 repeat' split
 all_goals first
  | exact (nanw_okT (by omega) hP).1
  | exact (sgb_ok p.1 (by omega) _).1
  | exact exaR_lt hF
theorem quoR_lt {k1 k2:Int} {n1 n2:Bool} {q1 q2:Rat} (hF:Fmt E P):(quoR E P m k1 n1 q1 k2 n2 q2).1<2^(E+P):=by
 have p:=fmt_n hF;have hP:2≤P:=by have:=p.2.2.1;omega
 unfold quoR
 repeat' split
 all_goals first
  | exact (nanw_okT (by omega) hP).1
  | exact (inf_ok (by omega) _).1
  | exact (sgb_ok p.1 (by omega) _).1
  | exact rq_lt hF
theorem opnR_lt {R:Nat×Nat} (hF:Fmt E P) (h:R.1<2^(E+P)):(opnR E P i j R).1<2^(E+P):=by
 have p:=fmt_n hF;have hP:2≤P:=by have:=p.2.2.1;omega
 unfold opnR
 split
 ·exact (nanw_okT (by omega) hP).1
 ·exact h
theorem opZ_cases {E P M:Int} {i j:Nat} {R:Nat→Nat→Nat→Nat×Nat}:(opZ E P M i j R).2.2≠0∨∃ e p m:Nat,E=e∧P=p∧M=m∧m≤4∧Fmt (e:Int) (p:Int)∧i<2^(e+p)∧j<2^(e+p)∧opZ E P M i j R=((opnR e p i j (R e p m)).1,(((opnR e p i j (R e p m)).2:Nat):Int),0):=by
 by_cases h:(0≤M∧M≤4)∧Fmt E P
 ·obtain ⟨e,p,m,rfl,rfl,rfl,hm,hF⟩:=fmt_cases h
  by_cases hw:i<2^(e+p)∧j<2^(e+p)
  ·exact .inr ⟨e,p,m,rfl,rfl,rfl,hm,hF,hw.1,hw.2,opZ_good hF hm hw.1 hw.2⟩
  ·refine .inl ?_;have e':((e:Int)+p).toNat=e+p:=by omega
   unfold opZ;rw [if_neg (fun k=>k h),e',if_pos hw]
   decide
 ·refine .inl ?_;unfold opZ;rw [if_pos h]
  decide
end
section
variable {M E P:Int} {i j l:Nat}
theorem cTopAddA (h1:W128 i) (h2:W128 j):Cal Tryz.prog OQ 4 [wdsA M E P 8 i j l] (bA true):=by
 have c:=cAddZ (E:=E) (P:=P) (M:=M) h1 h2
 rcases opZ_cases (E:=E) (P:=P) (M:=M) (i:=i) (j:=j) (R:=fun e p m=>sumR e p m (kd e p i) (wn e p i) (vl e p i) (kd e p j) (wn e p j) (vl e p j)) with h | ⟨e,p,m,rfl,rfl,rfl,hm,hF,hi,hj,h⟩
 ·exact cTopBad (cMachAdd c) h
 ·rw [show addZ e p m i j=_ from h] at c;refine cTopAdd hF hi hj (opnR_lt hF (sumR_lt hF)) (cMachAdd c) fun ki kj => ?_;rw [opnR_fin ki kj]
  exact out_sum hF (kd_ne3 ki) (kd_ne3 kj) (cOpAdd hF hm) (cNearestAdd hF hm (sm_word hF) (sm_word hF) (by decide))
theorem cTopSubA (h1:W128 i) (h2:W128 j):Cal Tryz.prog OQ 4 [wdsA M E P 9 i j l] (bA true):=by
 have c:=cSubZ (E:=E) (P:=P) (M:=M) h1 h2
 rcases opZ_cases (E:=E) (P:=P) (M:=M) (i:=i) (j:=j) (R:=fun e p m=>sumR e p m (kd e p i) (wn e p i) (vl e p i) (kd e p j) (!wn e p j) (-vl e p j)) with h | ⟨e,p,m,rfl,rfl,rfl,hm,hF,hi,hj,h⟩
 ·exact cTopBad (cMachSub c) h
 ·rw [show subZ e p m i j=_ from h] at c;refine cTopSub hF hi hj (opnR_lt hF (sumR_lt hF)) (cMachSub c) fun ki kj => ?_;rw [opnR_fin ki kj];refine out_sum hF (kd_ne3 ki) (kd_ne3 kj) (cOpSub hF hm) ?_;rw [←Rat.sub_eq_add_neg]
  exact cNearestSub hF hm (sm_word hF) (sm_word hF) (by decide)
theorem cTopMulA (h1:W128 i) (h2:W128 j):Cal Tryz.prog OQ 4 [wdsA M E P 10 i j l] (bA true):=by
 have c:=cMulZ (E:=E) (P:=P) (M:=M) h1 h2
 rcases opZ_cases (E:=E) (P:=P) (M:=M) (i:=i) (j:=j) (R:=fun e p m=>mulR e p m (kd e p i) (wn e p i) (vl e p i) (kd e p j) (wn e p j) (vl e p j)) with h | ⟨e,p,m,rfl,rfl,rfl,hm,hF,hi,hj,h⟩
 ·exact cTopBad (cMachMul c) h
 ·rw [show mulZ e p m i j=_ from h] at c;refine cTopMul hF hi hj (opnR_lt hF (mulR_lt hF)) (cMachMul c) fun ki kj => ?_;rw [opnR_fin ki kj];have hn:=cNearestMul hF hm (sm_word (n:=i) hF) (sm_word (n:=j) hF) (by decide);have p':=fmt_n hF;have hP:1≤p:=by have:=p'.2.2.1;omega
  have k1:=kd_fin ki;have k2:=kd_fin kj
  by_cases h1:minK (kd e p i) (kd e p j)=1
  ·have h3:¬ maxK (kd e p i) (kd e p j)=3:=by unfold maxK;split<;>omega
   have hz:vl e p i*vl e p j=0:=by
    unfold minK at h1
    split at h1
    ·rw [vl_zero h1,Rat.mul_zero]
    ·rw [vl_zero h1,Rat.zero_mul]
   rw [show mulR e p m (kd e p i) (wn e p i) (vl e p i) (kd e p j) (wn e p j) (vl e p j)=_ from (if_neg (fun h=>h3 h.2)).trans (if_pos h1)];rw [hz,rq_zero] at hn
   exact .inl (out_zero hF (cOpMul hF hm) hn rfl (zero_word p'.1 hP _))
  ·have h2:maxK (kd e p i) (kd e p j)=2:=by unfold maxK;unfold minK at h1;split<;>split at h1<;>omega
   rw [show mulR e p m (kd e p i) (wn e p i) (vl e p i) (kd e p j) (wn e p j) (vl e p j)=_ from (if_neg (fun h=>h1 h.1)).trans (if_neg h1),h2];rw [show exaR e p m 2 (wn e p i != wn e p j) (vl e p i*vl e p j)=rq e p m (vl e p i*vl e p j) from rfl]
   exact out_of (cOpMul hF hm) hn (rq_kd p'.1 hP)
end
section
variable {M E P:Int} {i j l:Nat}
section
variable {E P E' P' m n:Nat}
theorem cCastBad {E P E' P' M:Int} {n:Nat} (h:¬ (((0≤M∧M≤4)∧Fmt E' P')∧Fmt E P)):Cal Tryz.prog OQ 61 [fA E P,fA E' P',iA M,wA n] (.t [wA 0,iA 0,iA 2]):=by
 refine fn_call TK MX Tryz.func61 rfl (by kernel_rfl) (by kernel_rfl) (by kernel_rfl) rfl rfl ?_
 conv=>whnf
 by_cases h1:(0≤M∧M≤4)∧Fmt E' P'
 ·obtain ⟨e,p,m,rfl,rfl,rfl,hm,hF'⟩:=fmt_cases h1;refine ⟨_,cWith0 hF' hm,?_⟩
  conv=>whnf
  refine ⟨_,cWithBad (a:=.c (.sl 2 [wdC n])) rfl (fun k=>h ⟨h1,k.2⟩),?_⟩
  conv=>whnf
  rfl
 ·refine ⟨_,cWithBad (a:=.c (.v (.slice none 0 0))) rfl h1,?_⟩
  conv=>whnf
  rfl
theorem cCastForm (hF:Fmt E P) (hF':Fmt E' P') (hm:m≤4) (h8:W128 n) (hn:¬ n<2^(E+P)):Cal Tryz.prog OQ 61 [fA E P,fA E' P',iA (m:Nat),wA n] (.t [wA 0,iA 0,iA 6]):=by
 refine fn_call TK MX Tryz.func61 rfl (by kernel_rfl) (by kernel_rfl) (by kernel_rfl) rfl rfl ?_
 conv=>whnf
 refine ⟨_,cWith0 hF' hm,?_⟩
 conv=>whnf
 refine ⟨_,cWith1 hF hm h8,?_⟩;rw [if_neg hn]
 conv=>whnf
 rfl
end
theorem vl_neg {E P i:Nat} (h:kd E P i=2) (hn:wn E P i=true):vl E P i<0:=by
 have h':wkind E P i=2:=h;have e:vl E P i=wval E P (bias E) i:=wvalK_fin (by omega);have hz:vl E P i≠0:=vlNe h;have hs:=steps_nonneg (wfr E P i) (2-(bias E:Int)-P+((max (wf E P i) 1-1:Nat):Int));have hle:vl E P i≤0:=by
  rw [e];unfold wval;rw [hn,if_pos rfl]
  grind
 grind
theorem cTopDivA (h1:W128 i) (h2:W128 j):Cal Tryz.prog OQ 4 [wdsA M E P 11 i j l] (bA true):=by
 have c:=cDivZ (E:=E) (P:=P) (M:=M) h1 h2
 rcases opZ_cases (E:=E) (P:=P) (M:=M) (i:=i) (j:=j) (R:=fun e p m=>quoR e p m (kd e p i) (wn e p i) (vl e p i) (kd e p j) (wn e p j) (vl e p j)) with h | ⟨e,p,m,rfl,rfl,rfl,hm,hF,hi,hj,h⟩
 ·exact cTopBad (cMachDiv c) h
 ·rw [show divZ e p m i j=_ from h] at c;refine cTopDiv hF hi hj (opnR_lt hF (quoR_lt hF)) (cMachDiv c) fun ki kj => ?_;rw [opnR_fin ki kj];have p':=fmt_n hF;have hP:2≤p:=by have:=p'.2.2.1;omega
  have k1:=kd_fin ki;have k2:=kd_fin kj
  by_cases hz:kd e p j=1
  ·have hb:vl e p j=0:=vl_zero hz;have hn:Cal Tryz.prog OQ 15 [iA (m:Nat),fA e p,iA 11,nlA [wvalK e p (bias e) i,wvalK e p (bias e) j]] (.t [nA 0,iA 2,iA 0]):=by
    rw [show wvalK e p (bias e) j=0 from hb]
    exact cOpDiv hF hm cNearestZero
   by_cases ha:kd e p i=1
   ·refine .inr (.inr (.inr ⟨?_,hn⟩));rw [show quoR e p m (kd e p i) (wn e p i) (vl e p i) (kd e p j) (wn e p j) (vl e p j)=_ from if_pos ⟨ha.trans hz.symm,by omega⟩]
    exact (nanw_okT (by omega) hP).2
   ·refine .inr (.inr (.inl ⟨hb,?_,hn⟩));rw [show quoR e p m (kd e p i) (wn e p i) (vl e p i) (kd e p j) (wn e p j) (vl e p j)=_ from (if_neg (fun h=>by omega)).trans ((if_neg (kd_ne3 ki)).trans (if_pos hz))]
    exact inf_kind (by omega) _
  ·have hb:vl e p j≠0:=vlNe (by omega);have hn:=cNearestDiv hF hm (sm_word (n:=i) hF) (sm_word (n:=j) hF) (by decide) hb;have up:∀ {r:Nat},OutF e p m r 11 [vl e p i,vl e p j]∨OutE e p m r 11 [vl e p i,vl e p j] 3 1→OutF e p m r 11 [wvalK e p (bias e) i,wvalK e p (bias e) j]∨(wvalK e p (bias e) j≠0∧OutE e p m r 11 [wvalK e p (bias e) i,wvalK e p (bias e) j] 3 1)∨(wvalK e p (bias e) j=0∧OutE e p m r 11 [wvalK e p (bias e) i,wvalK e p (bias e) j] 3 2)∨OutE e p m r 11 [wvalK e p (bias e) i,wvalK e p (bias e) j] 4 2:=fun h =>
    h.elim .inl fun h=>.inr (.inl ⟨hb,h⟩)
   by_cases ha:kd e p i=1
   ·refine .inl ?_;rw [show quoR e p m (kd e p i) (wn e p i) (vl e p i) (kd e p j) (wn e p j) (vl e p j)=_ from (if_neg (fun h=>by omega)).trans ((if_neg (kd_ne3 ki)).trans ((if_neg hz).trans (if_pos (.inl ha))))];rw [vl_zero ha,Rat.div_def,Rat.zero_mul,rq_zero] at hn
    have:=out_zero (r:=sgb e p (wn e p i != wn e p j)) hF (cOpDiv hF hm) hn rfl (zero_word p'.1 (by omega) _)
    rw [←vl_zero ha] at this
    exact this
   ·refine up ?_;rw [show quoR e p m (kd e p i) (wn e p i) (vl e p i) (kd e p j) (wn e p j) (vl e p j)=_ from (if_neg (fun h=>by omega)).trans ((if_neg (kd_ne3 ki)).trans ((if_neg hz).trans (if_neg (fun h=>h.elim ha (kd_ne3 kj)))))]
    exact out_of (cOpDiv hF hm) hn (rq_kd p'.1 (by omega))
theorem cTopSqrtA (h1:W128 i):Cal Tryz.prog OQ 4 [wdsA M E P 6 i j l] (bA true):=by
 by_cases hg:¬ ((0≤M∧M≤4)∧Fmt E P)
 ·exact cTopBad (cMachSqrt (cSqrtBad hg)) (by decide)
 have hg:=Decidable.not_not.1 hg;obtain ⟨e,p,m,rfl,rfl,rfl,hm,hF⟩:=fmt_cases hg
 by_cases hi:¬ (i<2^(e+p))
 ·exact cTopBad (cMachSqrt (cSqrtForm hF hm h1 hi)) (by decide)
 have hi:=Decidable.not_not.1 hi;have p':=fmt_n hF;have hP:2≤p:=by have:=p'.2.2.1;omega
 have hlt:(sqrR e p m i).1<2^(e+p):=by
  unfold sqrR
  split
  ·exact (nanw_okT (by omega) hP).1
  ·split
   ·exact hi
   ·split
    ·exact (nanw_okT (by omega) hP).1
    ·rename_i h0 h1 h2
     by_cases h3:kd e p i=3
     ·exact absurd (.inr ⟨h3,by simpa using h2⟩) h1
     ·have hk:=kd_cases e p i
      exact rootR_lt hF (vl_nonneg hF (by omega) (by simpa using h2))
 refine cTopSqrt hF hi hlt (cMachSqrt (cSqrtF hF hm hi)) fun ki => ?_;have k1:=kd_fin ki;unfold sqrR;rw [if_neg (kd_le ki)]
 by_cases hz:kd e p i=1
 ·rw [if_pos (.inl hz)];have hn:=cNearestRoot hF hm (sm_word (n:=i) hF) (by decide) (by rw [vl_zero hz];exact Rat.le_refl);have h0:(rootR e p m (vl e p i)).1=0:=by rw [vl_zero hz];exact rootR_zero
  exact .inl (out_zero (r:=i) hF (cOpSqrt hF hm) hn h0 ⟨ki,vl_zero hz⟩)
 ·rw [if_neg (fun h=>h.elim hz (fun h=>kd_ne3 ki h.1))]
  cases hs:wn e p i with
  | true =>
   rw [if_pos rfl]
   exact .inr (.inr ⟨(nanw_okT (by omega) hP).2,cOpSqrt hF hm (cNearestNeg hF hm (sm_word (n:=i) hF) (by decide) (vl_neg (by omega) hs))⟩)
  | false =>
   rw [if_neg (by decide)];have h0:=vl_nonneg hF (by omega) hs
   exact (out_of (cOpSqrt hF hm) (cNearestRoot hF hm (sm_word (n:=i) hF) (by decide) h0) (rootR_kd hF h0)).elim .inl fun h=>.inr (.inl h)
theorem cTopFmaA (h1:W128 i) (h2:W128 j) (h3:W128 l):Cal Tryz.prog OQ 4 [wdsA M E P 14 i j l] (bA true):=by
 by_cases hg:¬ ((0≤M∧M≤4)∧Fmt E P)
 ·exact cTopBad (cMachFma (cFmaBad hg)) (by decide)
 have hg:=Decidable.not_not.1 hg;obtain ⟨e,p,m,rfl,rfl,rfl,hm,hF⟩:=fmt_cases hg
 by_cases hw:¬ (i<2^(e+p)∧j<2^(e+p)∧l<2^(e+p))
 ·exact cTopBad (cMachFma (cFmaForm hF hm h1 h2 h3 hw)) (by decide)
 have hw:=Decidable.not_not.1 hw;obtain ⟨hi,hj,hl⟩:=hw;have p':=fmt_n hF;have hP:2≤p:=by have:=p'.2.2.1;omega
 have hlt:(fmaR e p m i j l).1<2^(e+p):=by
  unfold fmaR
  split
  ·exact (nanw_okT (by omega) hP).1
  ·split
   ·exact (nanw_okT (by omega) hP).1
   ·exact sumR_lt hF
 refine cTopFma hF hi hj hl hlt (cMachFma (cFmaF hF hm hi hj hl)) fun ki kj kl => ?_;have k1:=kd_fin ki;have k2:=kd_fin kj;have h3:¬ maxK (kd e p i) (kd e p j)=3:=by unfold maxK;split<;>omega
 have hq:proQ (kd e p i) (kd e p j) (vl e p i) (vl e p j)=vl e p i*vl e p j:=by
  unfold proQ
  by_cases h1:minK (kd e p i) (kd e p j)=1
  ·rw [if_pos h1];unfold minK at h1
   split at h1
   ·rw [vl_zero h1,Rat.mul_zero]
   ·rw [vl_zero h1,Rat.zero_mul]
  ·rw [if_neg h1]
 have hk:¬ proK (kd e p i) (kd e p j)=3:=by
  unfold proK
  split
  ·decide
  ·exact h3
 rw [show fmaR e p m i j l=_ from (if_neg (fun h=>h3 h.2.2)).trans (if_neg (fun h=>h.elim (kd_le ki) (fun h=>h.elim (kd_le kj) (kd_le kl)))),hq]
 exact out_sum hF hk (kd_ne3 kl) (cOpFma hF hm) (cNearestFma hF hm (sm_word2 (n:=i) hF) (sm_word2 (n:=j) hF) (sm_word2 (n:=l) hF) (by decide))
theorem cTopCastA (h1:W128 i):Cal Tryz.prog OQ 4 [wdsA M E P 7 i j l] (bA true):=by
 by_cases hg:¬ ((0≤M∧M≤4)∧Fmt E P)
 ·exact cTopBad (cMachCast (cCastBad (fun h=>hg h.1))) (by decide)
 have hg:=Decidable.not_not.1 hg;obtain ⟨e,p,m,rfl,rfl,rfl,hm,hF⟩:=fmt_cases hg
 by_cases hi:¬ (i<2^(e+p))
 ·exact cTopBad (cMachCast (cCastForm hF hF hm h1 hi)) (by decide)
 have hi:=Decidable.not_not.1 hi;have p':=fmt_n hF;have hP:2≤p:=by have:=p'.2.2.1;omega
 have hlt:(casR e p e p m i).1<2^(e+p):=by
  unfold casR
  split
  ·exact (nanw_okT (by omega) hP).1
  ·exact exaR_lt hF
 refine cTopCast hF hi hlt (cMachCast (cCast hF hF hm hi)) fun ki => ?_;have k1:=kd_fin ki;have hn:=cNearestCast hF hm (sm_word (n:=i) hF) (by decide);unfold casR;rw [if_neg (kd_le ki)]
 by_cases hz:kd e p i=1
 ·rw [show exaR e p m (kd e p i) (wn e p i) (vl e p i)=_ from if_pos hz];have h0:(rq e p m (vl e p i)).1=0:=by rw [vl_zero hz,rq_zero]
  exact .inl (out_zero hF (cOpCast hF hm) hn h0 (zero_word p'.1 (by omega) _))
 ·rw [show exaR e p m (kd e p i) (wn e p i) (vl e p i)=_ from (if_neg hz).trans (if_neg (kd_ne3 ki))]
  exact out_of (cOpCast hF hm) hn (rq_kd p'.1 (by omega))
theorem cTopMachine {op:Int} (h1:W128 i) (h2:W128 j) (h3:W128 l):Cal Tryz.prog OQ 4 [wdsA M E P op i j l] (bA true):=by
 by_cases e8:op=8
 ·subst e8;exact cTopAddA h1 h2
 by_cases e9:op=9
 ·subst e9;exact cTopSubA h1 h2
 by_cases e10:op=10
 ·subst e10;exact cTopMulA h1 h2
 by_cases e11:op=11
 ·subst e11;exact cTopDivA h1 h2
 by_cases e6:op=6
 ·subst e6;exact cTopSqrtA h1
 by_cases e14:op=14
 ·subst e14;exact cTopFmaA h1 h2 h3
 by_cases e7:op=7
 ·subst e7;exact cTopCastA h1
 exact cTopNone ⟨e8,e9,e10,e11,e6,e14,e7⟩
end
end Go.Proofs.YtoaoebimjmjpeaaGreatDoor
