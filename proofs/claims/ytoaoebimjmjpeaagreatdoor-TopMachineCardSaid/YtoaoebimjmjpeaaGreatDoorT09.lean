/- A range over a function whose iterator keeps a state of its own in a box. -/
import Derived.RangeFuncNested
import Derived.RangeFuncBound
import Derived.RangeFuncCalls
import Derived.RangeFuncLeaves
import Derived.Shelf.Abstract
import Derived.Shelf.RegionOpen
import Derived.OwnWalkIn
import Derived.TacticsInMore
import Derived.LoopNIn
import Derived.LoopIn
import Derived.Test.YtoaoebimjmjpeaaGreatDoorT07
namespace Go.Proofs.YtoaoebimjmjpeaaGreatDoor
open Go.RowKit Vn
set_option maxRecDepth 100000
set_option maxHeartbeats 8000000
variable {F:Fence} {n:Nat} {P:Program}
def SeqBox {α:Type} (F:Fence) (n:Nat) (P:Program) (g:Nat) (lb:Array Value) (encs:α→Array Value) (ok:List α→α→Prop) (S:List α→Prop) (bc:Nat) (T:TypeId) (cs0:Array Value):Prop :=
 ∀ (l:Nat) (J:List α→World→Prop) (W:World),(∀ pre W v,J pre W→J pre (W.setCell ⟨bc,0,none⟩ v)) →
  (∀ pre x W1,J pre W1→ok pre x→YieldAt F (n-1) P l (encs x) W1 fun e W'=>e=.returned (.bool true)∧J (pre++[x]) W'∧∀ cs,Box W1 bc cs T→Box W' bc cs T) →
  J [] W→Box W bc cs0 T →
  CallsIn F n P g (#[.func (.yield l) #[] #[]]++lb) W fun e W'=>(∃ v,e=.returned v)∧∃ xs,S xs∧J xs W'
def boxPost {α:Type} (bc:Nat) (T:TypeId) (I:List α→World→Prop) (xs:List α) (W:World):Exit→Act→World→Prop
 | .normal,_,W'=>KeepsOthers W W'∧(∀ cs,Box W bc cs T→Box W' bc cs T)∧I xs W'
 | _,_,_=>False
theorem wpIn_rangeFunc_box {α:Type} {g:Operand} {ps:Array Tmp} {assign body:Code} {Q:Exit→Act→World→Prop} {a:Act} {w:World}
  (hro:F.round=none) (h1:1≤n) {gf:Nat} {lb:Array Value} (hg:a.eval g=.func (.func gf) #[] lb) (hFg:F.fn gf) (eg:∀ args w,(callFunc gf args).run P w=.ok (.enter gf args) w)
  {encs:α→Array Value} {ok:List α→α→Prop} {S:List α→Prop} {bc:Nat} {T:TypeId} {cs0:Array Value} (hseq:SeqBox F (n-1) P gf lb encs ok S bc T cs0)
  (hbc:bc<w.heap.size) (hB0:Box w bc cs0 T) (hps:∀ x,(encs x).size=ps.size)
  (I:List α→World→Prop) (hI:OwnFrom w.heap.size I) (hIs:∀ pre W v,I pre W→I pre (W.setCell ⟨bc,0,none⟩ v)) (h0:I [] w) (a₁:α→Act)
  (hassign:∀ (l:Nat) (x:α) (W:World) (K:Act→World→Prop),K (a₁ x) W →
   assign.wpIn (F.inRound l) (n-1-1) P (Exit.then K (fun _ _ _=>False)) { tmps:=(ps.zip (encs x)).foldl (fun t (p,v)=>t.setIfInBounds p v) a.tmps,defers:=[] } W)
  (hbody:∀ (l:Nat) (pre:List α) (x:α) (W:World),I pre W→ok pre x→body.wpIn (F.inRound l) (n-1-1) P (boxPost bc T I (pre++[x]) W) (a₁ x) W)
  (hdone:∀ (D:Nat) (xs:List α) (W:World),w.heap.size≤D→S xs→I xs W→W.heap[D]?=some (.deferred (some []))→Q .normal { a with defers := { target:=.collected D,args:=#[] } :: a.defers } W) :
  (Code.rangeFunc g ps assign body).wpIn F n P Q a w:=by
 refine wpIn_rangeFunc ?_
 intro fn hfn
 rw [hro];obtain ⟨rec,hrec⟩:∃ rec:LoopState→Option Code→Loop,rec=fun st pe => { state:=st,pending:=pe,fn,tmps:=a.tmps,params:=ps,assign,body,defers:=w.heap.size }:=⟨_,rfl⟩;obtain ⟨W1,hW1⟩:∃ W1,(w.alloc (.deferred (some []))).alloc (.loop (rec .ready none))=W1:=⟨_,rfl⟩;have hL1:W1.heap[w.heap.size+1]?=some (.loop (rec .ready none)):=by
  rw [←hW1];have:=World.alloc_heap_new (w.alloc (.deferred (some []))) (.loop (rec .ready none));rwa [World.size_alloc] at this
 have hK1:W1.heap[w.heap.size]?=some (.deferred (some [])):=by
  rw [←hW1];exact (Below.heap_alloc _ _ _ (by simp)).trans (World.alloc_heap_new w _)
 have hI1:I [] W1:=by rw [←hW1];exact hI.alloc _ (hI.alloc _ h0)
 have hB1:Box W1 bc cs0 T:=by rw [←hW1];exact (hB0.ext (Ext.alloc _ _)).ext (Ext.alloc _ _)
 refine ⟨w.heap.size+1,[{ target:=.collected w.heap.size,args:=#[] }],W1,{ target:=.fn (.func gf) lb,args:=#[.func (.yield (w.heap.size+1)) #[] #[]] },W1,gf,
  #[.func (.yield (w.heap.size+1)) #[] #[]]++lb,W1,?_,?_,?_,?_,fun _=>h1,?_⟩
 ·rw [←hW1,hrec];exact run_enterLoop_outer _ _ _ _ _
 ·simp only [resolve,hg]
  simp [go_sem]
 ·intro f' hf';simp [Target.leads] at hf';subst hf';exact hFg
 ·simp [invoke,go_sem,eg]
 ·refine (hseq (w.heap.size+1)
   (fun pre W=>I pre W∧W.heap[w.heap.size+1]?=some (.loop (rec .ready none))∧W.heap[w.heap.size]?=some (.deferred (some [])))
   W1
   (fun pre W v hs=>⟨hIs pre W v hs.1,(KeepsOthers.setCell W ⟨bc,0,none⟩ v).same _ _ hs.2.1 rfl,(KeepsOthers.setCell W ⟨bc,0,none⟩ v).same _ _ hs.2.2 rfl⟩)
   ?_ ⟨hI1,hL1,hK1⟩ hB1).mono ?_
  ·rintro pre x W ⟨hi,hl,hk⟩ hok;have hlt:w.heap.size+1<W.heap.size:=(Array.getElem?_eq_some_iff.1 hl).1;have hy:=run_yield (P:=P) (args:=encs x) hl (by rw [hrec];exact hps x);rw [hrec] at hy;refine ⟨fn,_,assign,body,hy,roundIn_of_wpIn hfn (hassign _ x W _ ⟨_,run_beginRound hl (by rw [hrec]),?_⟩)⟩;have hl2:(W.putObj (w.heap.size+1) (.loop { rec .ready none with state:=.busy })).heap[w.heap.size+1]?=some (.loop { rec .ready none with state:=.busy }):=World.putObj_heap_same hlt;have hk2:(W.putObj (w.heap.size+1) (.loop { rec .ready none with state:=.busy })).heap[w.heap.size]?=some (.deferred (some [])):=(World.putObj_heap_other (by omega)).trans hk;refine wpIn_mono (hbody _ pre x _ (hI.putObj _ hi (by omega) hl rfl) hok) ?_;have fin:∀ (jump:Option Code) (W3:World),KeepsOthers (W.putObj (w.heap.size+1) (.loop { rec .ready none with state:=.busy })) W3 →
     (Instr.endRound (w.heap.size+1) jump).run P W3=.ok (.bool jump.isNone) (W3.putObj (w.heap.size+1) (.loop (rec (if jump.isNone then .ready else .done) jump))) ∧
     W3.heap[w.heap.size+1]?=some (.loop { rec .ready none with state:=.busy }) ∧
     (W3.putObj (w.heap.size+1) (.loop (rec (if jump.isNone then .ready else .done) jump))).heap[w.heap.size+1]?=some (.loop (rec (if jump.isNone then .ready else .done) jump)) ∧
     (W3.putObj (w.heap.size+1) (.loop (rec (if jump.isNone then .ready else .done) jump))).heap[w.heap.size]?=some (.deferred (some [])):=fun jump W3 hk3=>by
    have hl3:=hk3.same _ _ hl2 rfl
    have:=run_endRound (P:=P) jump hl3
    rw [hrec] at this ⊢
    exact ⟨this,by rw [hrec] at hl3;exact hl3,World.putObj_heap_same (Array.getElem?_eq_some_iff.1 hl3).1,(World.putObj_heap_other (by omega)).trans (hk3.same _ _ hk2 rfl)⟩
   have hpB:∀ (W:World) (o:Obj) (cs:Array Value),Box W bc cs T→Box (W.putObj (w.heap.size+1) o) bc cs T:=fun W o cs h=>(World.putObj_heap_other (by omega)).trans h;rintro e a3 W3 hp
   cases e with
   | normal =>
    obtain ⟨hk3,hkp3,hi3⟩:=hp;obtain ⟨hr,hl3,hl4,hk4⟩:=fin none W3 hk3
    exact ⟨_,_,hr,rfl,⟨hI.putObj _ hi3 (by omega) hl3 rfl,hl4,hk4⟩,fun cs h=>hpB _ _ _ (hkp3 _ (hpB _ _ _ h))⟩
   | ret=>exact hp.elim
   | exit id=>exact hp.elim
   | goto t=>exact hp.elim
   | panic ch=>exact hp.elim
   | outgrown=>exact hp.elim
  ·rintro e W2 ⟨⟨v,rfl⟩,xs,hS,hi,hl,hk⟩
   exact ⟨none,_,by have:=run_endLoop (P:=P) hl (by rw [hrec];simp);rw [hrec] at this;exact this,hdone _ xs _ (Nat.le_refl _) hS (hI.putObj _ hi (by omega) hl rfl) ((World.putObj_heap_other (by omega)).trans hk)⟩
end Go.Proofs.YtoaoebimjmjpeaaGreatDoor
namespace Go.Proofs.YtoaoebimjmjpeaaGreatDoor
open Go.RowKit Vn Go.Shelf
set_option maxRecDepth 100000
set_option maxHeartbeats 8000000
attribute [local go_sem] Oper.semAt_some
def decV (l:List UInt8):Nat:=l.foldl (fun n b=>10*n+(b.toNat-48)) 0
def Digs (l:List UInt8):Prop:=∀ b∈l,48≤b.toNat∧b.toNat≤57
theorem decV_snoc (l:List UInt8) (b:UInt8):decV (l++[b])=10*decV l+(b.toNat-48):=by simp [decV]
theorem decV_lt:∀ (n:Nat) (l:List UInt8),l.length=n→Digs l→decV l<10^n
 | 0,l,h,_=>by have:l=[]:=List.eq_nil_of_length_eq_zero h;subst this;decide
 | n+1,l,h,hd=>by
  obtain ⟨x,b,rfl⟩:∃ x b,l=x++[b]:=⟨l.dropLast,l.getLast (by intro e;simp [e] at h),(List.dropLast_concat_getLast _).symm⟩;have h1:=decV_lt n x (by simpa using h) (fun c hc=>hd c (by simp [hc]));have h2:=hd b (by simp);rw [decV_snoc,Nat.pow_succ]
  omega
theorem ar_size (l:List UInt8):(ByteArray.mk l.toArray).size=l.length:=by simp [ByteArray.size]
theorem decV_append:∀ (n:Nat) (a b:List UInt8),b.length=n→decV (a++b)=decV a*10^b.length+decV b
 | 0,a,b,h=>by have:b=[]:=List.eq_nil_of_length_eq_zero h;subst this;simp [decV]
 | n+1,a,b,h=>by
  obtain ⟨x,c,rfl⟩:∃ x c,b=x++[c]:=⟨b.dropLast,b.getLast (by intro e;simp [e] at h),(List.dropLast_concat_getLast _).symm⟩;rw [←List.append_assoc,decV_snoc,decV_snoc,decV_append n a x (by simpa using h),List.length_append,List.length_singleton,Nat.pow_succ];rw [←Nat.mul_assoc (decV a)];generalize decV a*10^x.length=Q
  omega
def encG (x:List UInt8):Array Value:=#[.int .u32 (decV x:Nat),.int .u32 (10^x.length:Nat)]
def okG (ds:List UInt8) (pre:List (List UInt8)) (x:List UInt8):Prop:=x≠[]∧x.length≤9∧Digs x∧∃ r,ds=(pre++[x]).flatten++r
def leftG (bc:Nat) (w:World):Nat:=match w.cell? ⟨bc,0,none⟩ with | some (.string s)=>s.size | _=>0
theorem leftG_box {w:World} {bc:Nat} {r:List UInt8} {T:TypeId} (h:Box w bc #[.string ⟨r.toArray⟩] T):leftG bc w=r.length:=by
 have:w.cell? ⟨bc,0,none⟩=some (.string ⟨r.toArray⟩):=h.cell 0
 simp [leftG,this,ar_size]
theorem extract_one (b:UInt8) (r:List UInt8):(ByteArray.mk (b :: r).toArray).extract 1 (r.length+1)=⟨r.toArray⟩:=by
 apply ByteArray.ext
 rw [ByteArray.data_extract]
 simp
theorem groups_seq (F:Fence) (n:Nat) (hF:F.fn 320) (hro:F.round=none) (hn:1≤n) (bc:Nat) (ds:List UInt8) (hd:Digs ds) (hlen:ds.length<4611686018427387904) :
  SeqBox F n Tryz.prog 320 #[.pointer (some ⟨bc,0,none⟩)] encG (okG ds) (fun xs=>xs.flatten=ds) bc 9 #[.string ⟨ds.toArray⟩]:=by
 intro l J W hJs hY h0 hB
 refine callsIn_of_wp Tryz.func320 rfl hF ?_ hro;simp only [Tryz.ntmps320,List.size_toArray,List.length_cons,List.length_nil,Nat.reduceAdd,Nat.reduceSub,Array.replicate_succ,Array.replicate_zero,List.push_toArray,List.append_toArray,List.nil_append,List.cons_append]
 gi_wp2
 gi_loopw [] (fun wr=>∃ (pre:List (List UInt8)) (rest:List UInt8),ds=pre.flatten++rest∧Box wr bc #[.string ⟨rest.toArray⟩] 9∧J pre wr)
  (fun wr=>leftG bc wr)
 case atStart =>
  exact ⟨[],ds,rfl,hB,h0⟩
 case round =>
  obtain ⟨pre,rest,hx,hB1,hJ1⟩:=hrel;have c0:wr.cell? ⟨bc,0,none⟩=some (.string ⟨rest.toArray⟩):=hB1.cell 0;have f0:wr.frozen? ⟨bc,0,none⟩=false:=hB1.free 0;have z0:=ar_size rest;have z1:rest.length<4611686018427387904:=by rw [hx] at hlen;simp at hlen;omega
  cases rest with
  | nil =>
   gi_wp2
   go_end0
   exact ⟨⟨_,rfl⟩,pre,by simp [hx],hJ1⟩
  | cons b0 rest =>
   gi_wp2
   have HL1:=hid (leftG_box hB1)
   gi_loopw [3,4,5] (fun v s i wr=>∃ (x r:List UInt8),b0 :: rest=x++r∧v=.int .u32 (decV x:Nat)∧s=.int .u32 (10^x.length:Nat)∧i=.int .i64 (x.length:Nat)∧x.length≤9∧Box wr bc #[.string ⟨r.toArray⟩] 9∧J pre wr)
    (fun v s i wr=>leftG bc wr)
   case atStart=>exact ⟨[],b0 :: rest,rfl,rfl,rfl,rfl,by decide,hB1,hJ1⟩
   case round =>
    obtain ⟨x,r,hxr,rfl,rfl,rfl,hx9,hB2,hJ2⟩:=hrel;have d0:wr.cell? ⟨bc,0,none⟩=some (.string ⟨r.toArray⟩):=hB2.cell 0;have g0:wr.frozen? ⟨bc,0,none⟩=false:=hB2.free 0;have y0:=ar_size r;have hdx:Digs x:=fun c hc=>hd c (by rw [hx,hxr];simp [hc]);have hv:=decV_lt x.length x rfl hdx;obtain ⟨V,hV⟩:∃ V,V=decV x:=⟨_,rfl⟩;obtain ⟨S,hS⟩:∃ S,S=10^x.length:=⟨_,rfl⟩;rw [←hV,←hS] at hv ⊢;have HV:=hid hV;have HS:=hid hS;have HX:=hid hx;have HXR:=hid hxr;have hl2:x.length+r.length=rest.length+1:=by have:=congrArg List.length hxr;simp at this;omega
    have YY:okG ds pre x→∃ fn tmps assign body,(Instr.yield l #[.int .u32 (V:Nat),.int .u32 (S:Nat)]).run Tryz.prog wr=.ok (.round l fn tmps assign body) wr ∧
      RoundIn F (n-1) Tryz.prog l fn tmps assign body wr fun e W'=>e=.returned (.bool true)∧J (pre++[x]) W'∧∀ cs,Box wr bc cs 9→Box W' bc cs 9:=fun ho=>by
     rw [hV,hS];exact hY pre x wr hJ2 ho
    by_cases h9:x.length<9
    ·have i9:((x.length:Nat):Int)<9:=by omega
     cases r with
     | nil =>
      obtain ⟨fn,tmps,assign,body,hy,hR⟩:=YY ⟨by intro e;subst e;simp at hxr,hx9,hdx,[],by rw [hx,hxr];simp⟩;clear hV hS hx hxr hv YY hl2
      gi_wp2
      refine hR.mono ?_;rintro e W3 ⟨rfl,hJ3,hB3⟩
      gi_wp2
      exact ⟨⟨pre++[x],[],by rw [HX.o,HXR.o];simp,hB3 _ hB2,hJ3⟩,by rw [leftG_box (hB3 _ hB2),HL1.o];simp⟩
     | cons b r =>
      have hb:=hd b (by rw [hx,hxr];simp);have e8:10^x.length≤10^8:=Nat.pow_le_pow_right (by decide) (by omega);obtain ⟨B,hBn⟩:∃ B,B=b.toNat:=⟨_,rfl⟩;rw [←hS] at e8;rw [←hBn] at hb;have HBB:=hid hBn;have v1:(V:Int)<100000000:=by omega
      have s1:(S:Int)≤100000000:=by omega
      have b1:(48:Int)≤B:=by omega
      have b2:(B:Int)≤57:=by omega
      have e0:∀ h,((ByteArray.mk (b :: r).toArray)[0]'h).toNat=B:=fun _=>hBn.symm;clear e8 hv hV hS hx hxr YY hl2 hBn
      gi_wp2
      refine ⟨⟨x++[b],r,by rw [HXR.o];simp,?_,?_,?_,?_,?_,hJs _ _ _ hJ2⟩,?_⟩
      ·rw [decV_snoc,←HV.o,←HBB.o];congr 1;omega
      ·rw [List.length_append,List.length_singleton,Nat.pow_succ,←HS.o];congr 1;omega
      ·simp
      ·simp;omega
      ·have:=hB2.set 0 (.string ((ByteArray.mk (b :: r).toArray).extract 1 (r.length+1)));rw [extract_one] at this ⊢;exact this
      ·rw [leftG_box (r:=r) (T:=9) (by have:=hB2.set 0 (.string ((ByteArray.mk (b :: r).toArray).extract 1 (r.length+1)));rw [extract_one] at this ⊢;exact this),leftG_box hB2];simp
    ·have i9:¬ ((x.length:Nat):Int)<9:=by omega
     obtain ⟨fn,tmps,assign,body,hy,hR⟩:=YY ⟨by intro e;subst e;simp at h9,hx9,hdx,r,by rw [hx,hxr];simp⟩;clear hV hS hx hxr hv YY hl2
     gi_wp2
     refine hR.mono ?_;rintro e W3 ⟨rfl,hJ3,hB3⟩
     gi_wp2
     exact ⟨⟨pre++[x],r,by rw [HX.o,HXR.o];simp,hB3 _ hB2,hJ3⟩,by rw [leftG_box (hB3 _ hB2),HL1.o];have:=congrArg List.length HXR.o;simp at this ⊢;omega⟩
end Go.Proofs.YtoaoebimjmjpeaaGreatDoor
