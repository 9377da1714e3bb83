/- A run of which everything is known: the contracts that it leans on. -/
import Derived.Shelf.Strings.Search2
import Derived.Laws.Externs
import Derived.Laws.StandIn
import Derived.Test.YtoaoebimjmjpeaaGreatDoorT48
import Derived.Test.YtoaoebimjmjpeaaGreatDoorT37
import Derived.Test.YtoaoebimjmjpeaaGreatDoorT38
namespace Go.Proofs
open Go.Shelf
def Tryz.lays219_ren:Go.Shelf.Ren:=⟨fun | 217=>297 | 219=>295 | 224=>344 | 225=>343 | 266=>346 | 267=>345 | 314=>373 | n=>n,fun | 3=>3 | 4=>4 | 5=>5 | 9=>9 | 46=>241 | 51=>240 | 146=>398 | n=>n,fun | 1=>5 | n=>n⟩
theorem Tryz.lays219:Go.Proofs.Lays.n219 Tryz.prog Tryz.lays219_ren := {
 mixed:=by kernel_rfl
 f217:=Tryz.func297.trans (congrArg some (by kernel_rfl))
 f219:=Tryz.func295.trans (congrArg some (by kernel_rfl))
 f224:=Tryz.func344.trans (congrArg some (by kernel_rfl))
 f225:=Tryz.func343.trans (congrArg some (by kernel_rfl))
 f266:=Tryz.func346.trans (congrArg some (by kernel_rfl))
 f267:=Tryz.func345.trans (congrArg some (by kernel_rfl))
 f314:=Tryz.func373.trans (congrArg some (by kernel_rfl))
 t3:=Tryz.underlying3
 a3:=Tryz.isAgg3
 z3:=Tryz.sizeOf3
 v3:=Tryz.zeroValue3
 t4:=Tryz.underlying4
 a4:=Tryz.isAgg4
 z4:=Tryz.sizeOf4
 v4:=Tryz.zeroValue4
 t5:=Tryz.underlying5
 a5:=Tryz.isAgg5
 z5:=Tryz.sizeOf5
 v5:=Tryz.zeroValue5
 t9:=Tryz.underlying9
 a9:=Tryz.isAgg9
 z9:=Tryz.sizeOf9
 v9:=Tryz.zeroValue9
 t46:=Tryz.underlying241
 a46:=Tryz.isAgg241
 z46:=Tryz.sizeOf241
 v46:=Tryz.zeroValue241
 t51:=Tryz.underlying240
 a51:=Tryz.isAgg240
 z51:=Tryz.sizeOf240
 v51:=Tryz.zeroValue240
 t146:=Tryz.underlying398
 a146:=Tryz.isAgg398
 z146:=Tryz.sizeOf398
 v146:=Tryz.zeroValue398
 g1:=by kernel_rfl }
end Go.Proofs
namespace Go.Proofs.YtoaoebimjmjpeaaGreatDoor
open Go.RowKit Vn
/-! ### bytes -/
theorem u8_beq {a b:Nat} (ha:a<256) (hb:b<256):(UInt8.ofNat a==UInt8.ofNat b)=Nat.beq a b:=by
 rw [Bool.eq_iff_iff,beq_iff_eq]
 constructor
 ·intro h
  have:=congrArg UInt8.toNat h
  rw [UInt8.toNat_ofNat',UInt8.toNat_ofNat',Nat.mod_eq_of_lt ha,Nat.mod_eq_of_lt hb] at this;subst this;simp
 ·intro h;rw [beq_t' h]
theorem zInc_eq {x:Int} (h : -1≤x):zInc x=if x == -1 then -1 else x+1:=by
 cases x with
 | ofNat n =>
  rw [if_neg (by simp)]
  rfl
 | negSucc n =>
  have:n=0:=by omega
  subst this
  rfl
theorem zIxB_eq {c:Nat} (hc:c<256):∀ {l:List Nat},(∀ n∈l,n<256)→zIxB c l=Lib.indexByte (l.map UInt8.ofNat) (UInt8.ofNat c)
 | [],_=>rfl
 | b :: l,h=>by
  have ih:=zIxB_eq hc (l:=l) fun n hn=>h n (by simp [hn]);simp only [zIxB,List.map_cons,Lib.indexByte];rw [u8_beq (h b (by simp)) hc,ih,zInc_eq (Lib.indexByte_ge _ _)]
  cases Nat.beq b c<;>simp
theorem zCnt_eq {c:Nat} (hc:c<256):∀ {l:List Nat},(∀ n∈l,n<256)→zCnt c l=Lib.countByte (l.map UInt8.ofNat) (UInt8.ofNat c)
 | [],_=>rfl
 | b :: l,h=>by
  have ih:=zCnt_eq hc (l:=l) fun n hn=>h n (by simp [hn]);simp only [zCnt,List.map_cons,Lib.countByte,List.count_cons];rw [u8_beq (h b (by simp)) hc,ih]
  cases Nat.beq b c<;>simp [Lib.countByte]
theorem zPre_eq:∀ {m l:List Nat},(∀ n∈m,n<256)→(∀ n∈l,n<256)→zPre m l=(m.map UInt8.ofNat).isPrefixOf (l.map UInt8.ofNat)
 | [],_,_,_=>by simp [zPre]
 | a :: m,[],_,_=>rfl
 | a :: m,b :: l,hm,hl=>by
  have ih:=zPre_eq (m:=m) (l:=l) (fun n hn=>hm n (by simp [hn])) (fun n hn=>hl n (by simp [hn]));simp only [zPre,List.map_cons,List.isPrefixOf_cons_cons];rw [u8_beq (hm a (by simp)) (hl b (by simp)),ih]
theorem zIx_eq {m:List Nat} (hm:∀ n∈m,n<256):∀ {l:List Nat},(∀ n∈l,n<256)→zIx m l=Lib.index (l.map UInt8.ofNat) (m.map UInt8.ofNat)
 | [],_=>by
  cases m<;>rfl
 | b :: l,h=>by
  have ih:=zIx_eq hm (l:=l) fun n hn=>h n (by simp [hn]);have e:=zPre_eq hm h;simp only [List.map_cons] at e;simp only [zIx,List.map_cons,Lib.index];rw [e,ih,zInc_eq (Lib.index_ge _ _)]
  cases (m.map UInt8.ofNat).isPrefixOf (UInt8.ofNat b :: l.map UInt8.ofNat)<;>simp
theorem zba_list (l:List Nat):(zba l).data.toList=l.map UInt8.ofNat:=by simp [zba]
theorem zvV2 {O:Opq} {β:Nat→Option Nat} {w:World} {l:List Nat} {y:Value} {vs:List Value} (h:ZVs O β w [.c (.w l),.c (.v y)] vs):vs=[.string (zba l),y]∧∀ n∈l,n<256:=by
 match vs,h with
 | [u,v],h =>
  simp only [ZVs,ZV,ZR,and_true] at h;obtain ⟨⟨h1,h2⟩,h3,_⟩:=h;rw [h1,h3];exact ⟨rfl,h2⟩
theorem zvW2 {O:Opq} {β:Nat→Option Nat} {w:World} {l m:List Nat} {vs:List Value} (h:ZVs O β w [.c (.w l),.c (.w m)] vs):vs=[.string (zba l),.string (zba m)]∧(∀ n∈l,n<256)∧∀ n∈m,n<256:=by
 match vs,h with
 | [u,v],h =>
  simp only [ZVs,ZV,ZR,and_true] at h;obtain ⟨⟨h1,h2⟩,h3,h4⟩:=h;rw [h1,h3];exact ⟨rfl,h2,h4⟩
theorem ct_indexByte {xs:List ZX} {r:ZX} (h:zCtIxB xs=some r):ZCt Tryz.prog OQ 346 xs r:=by
 unfold zCtIxB at h
 split at h
 ·rename_i l c
  cases hb:Nat.blt c 256 with
  | false=>rw [hb] at h;cases h
  | true =>
   rw [hb] at h
   cases h
   have hc:c<256:=by simpa using hb
   refine .inr fun {β w vs} hv => ?_;obtain ⟨rfl,hl⟩:=zvV2 hv;refine ⟨.int .i64 (zIxB c l),?_,by simp only [ZV,ZR];exact ⟨trivial,rfl⟩⟩;rw [run_callFunc_indexByte Tryz.func346 (by kernel_rfl) (by kernel_rfl) (by kernel_rfl) (by kernel_rfl)];rw [Lib.run_indexByteString,zba_list,zIxB_eq hc hl]
   rfl
 ·cases h
theorem ct_count {xs:List ZX} {r:ZX} (h:zCtCnt xs=some r):ZCt Tryz.prog OQ 294 xs r:=by
 unfold zCtCnt at h
 split at h
 ·rename_i l c
  cases hb:Nat.blt c 256 with
  | false=>rw [hb] at h;cases h
  | true =>
   rw [hb] at h
   cases h
   have hc:c<256:=by simpa using hb
   refine .inr fun {β w vs} hv => ?_;obtain ⟨rfl,hl⟩:=zvV2 hv;refine ⟨.int .i64 (zCnt c l:Nat),?_,by simp only [ZV,ZR];exact ⟨rfl,rfl⟩⟩;rw [run_callFunc_extern (e:=Extern.BytealgCount.count) Tryz.func294 (by kernel_rfl) (by kernel_rfl) (by kernel_rfl) (by kernel_rfl)]
   have:=Lib.run_countString (P:=Tryz.prog) (zba l) (Int.ofNat c) w
   rw [this,zba_list,zCnt_eq hc hl]
   rfl
 ·cases h
theorem ct_index {xs:List ZX} {r:ZX} (h:zCtIx xs=some r):ZCt Tryz.prog OQ 295 xs r:=by
 unfold zCtIx at h
 split at h
 ·rename_i l m
  cases hb:Nat.ble l.length 1000000 with
  | false=>rw [hb] at h;cases h
  | true =>
   rw [hb] at h
   cases h
   refine .inl ⟨body_of (by kernel_rfl),fun {β w vs} hi hv => ?_⟩;obtain ⟨rfl,hl,hm⟩:=zvW2 hv;obtain ⟨mx,hmx⟩:=hi.wm;have hs:(zba l).size<4294967281:=by
    rw [zba_size]
    have:=Nat.le_of_ble_eq_true hb
    omega
   refine (Any.stringslite_Index Tryz.lays219 (zba l) (zba m) mx w hs hmx).mono ?_;rintro e w' ⟨rfl,rfl⟩;refine ⟨_,rfl,(Below.refl _ _),?_⟩;rw [zba_list,zba_list,←zIx_eq hm hl];simp only [ZV,ZR];exact ⟨trivial,rfl⟩
 ·cases h
/-! ### numbers -/
theorem cWholeX (q:Rat) (r:Rat) (K:Nat) (h:(decide (K≤20000000)&&(smqB K q&&decide (whQ (!decide (q.num<0)) q=r)))=true):Cal Tryz.prog OQ 81 [nA q] (nA r):=by
 simp only [Bool.and_eq_true,decide_eq_true_eq] at h;obtain ⟨h1,h2,h3⟩:=h;refine fn_call TK MX Tryz.func81 rfl (by kernel_rfl) (by kernel_rfl) (by kernel_rfl) rfl rfl ?_
 conv=>whnf
 refine ⟨_,cWhole (smqB_ok h2) h1,?_⟩;rw [h3]
 conv=>whnf
 rfl
abbrev zQ (n:Int) (d:Nat) (h1:d≠0:=by decide) (h2:n.natAbs.Coprime d:=by decide):Rat:=⟨n,d,h1,h2⟩
abbrev q0:Rat:=zQ 0 1
abbrev q1:Rat:=zQ 1 1
abbrev qs:Rat:=zQ 1 4096
abbrev qb:Rat:=zQ 4097 4096
abbrev qn:Rat:=zQ (-1) 4096
theorem f511:Fmt ((5:Nat):Int) ((11:Nat):Int):=by unfold Fmt;decide
theorem ctL {P:Program} {O:Opq} {k:FuncId} {l:List (List ZX×ZX)} (hl:∀ p∈l,ZCt P O k p.1 p.2) {xs:List ZX} {r:ZX} (h:zCtL l xs=some r):ZCt P O k xs r:=zCtL_ok (Q:=ZCt P O k) hl h
theorem all1 {α:Type} {Q:α→Prop} {a:α} (h:Q a):∀ p∈[a],Q p:=fun p hp=>by rw [List.mem_singleton.1 hp];exact h
theorem allc {α:Type} {Q:α→Prop} {a:α} {l:List α} (h:Q a) (hl:∀ p∈l,Q p):∀ p∈a :: l,Q p:=fun p hp=>by
 rcases List.mem_cons.1 hp with rfl | hp
 ·exact h
 ·exact hl p hp
theorem ct_Check:∀ p∈zLCheck,ZCt Tryz.prog OQ 62 p.1 p.2 :=
 all1 (ctOf (by have:=cCheck ((5:Nat):Int) ((11:Nat):Int);rwa [if_pos f511] at this) rfl rfl rfl)
theorem ct_Int:∀ p∈zLInt,ZCt Tryz.prog OQ 49 p.1 p.2:=all1 (ctOf (intT 0 q0 (by kernel_rfl)) rfl rfl rfl)
theorem hasT (q:Rat) (h:(smqB 100 q&&hasB 5 11 q)=true):Cal Tryz.prog OQ 87 [fA ((5:Nat):Int) ((11:Nat):Int),nA q] (bA true):=by
 simp only [Bool.and_eq_true] at h
 have:=cHasF f511 (smqB_ok h.1) (by decide)
 rwa [h.2] at this
theorem ct_Has:∀ p∈zLHas,ZCt Tryz.prog OQ 87 p.1 p.2 :=
 allc (ctOf (hasT q0 (by decide +kernel)) rfl rfl rfl) (allc (ctOf (hasT q1 (by decide +kernel)) rfl rfl rfl) (all1 (ctOf (hasT qs (by decide +kernel)) rfl rfl rfl)))
theorem ct_Parse:∀ p∈zLParse,ZCt Tryz.prog OQ 86 p.1 p.2 :=
 allc (ctOf (parsT [49] q1 (by decide +kernel)) rfl rfl rfl) (allc (ctOf (parsT [48] q0 (by decide +kernel)) rfl rfl rfl) (all1 (ctOf (parsT [49,47,52,48,57,54] qs (by decide +kernel)) rfl rfl rfl)))
theorem ct_Chk:∀ p∈zLChk,ZCt Tryz.prog OQ 89 p.1 p.2 :=
 all1 (ctOf (by have:=cCheckX (l:=[49]) (by decide);rwa [show (parseV [49]).2=0 by decide +kernel] at this) rfl rfl rfl)
theorem ct_Quo:∀ p∈zLQuo,ZCt Tryz.prog OQ 215 p.1 p.2 :=
 all1 (ctOf (by have:=cQuo (K:=100) (q:=q1) (r:=q1) (smqB_ok (by decide +kernel)) (smqB_ok (by decide +kernel)) (by decide) (by decide);rwa [show q1/q1=q1 by decide +kernel] at this) rfl rfl rfl)
theorem ct_Cmp:∀ p∈zLCmp,ZCt Tryz.prog OQ 13 p.1 p.2 :=
 allc (ctOf (numCmpT q0 q1 (-1) 100 (by decide +kernel)) rfl rfl rfl) (allc (ctOf (numCmpT q0 qs (-1) 100 (by decide +kernel)) rfl rfl rfl) (all1 (ctOf (numCmpT qs q1 (-1) 100 (by decide +kernel)) rfl rfl rfl)))
theorem ct_Text:∀ p∈zLText,ZCt Tryz.prog OQ 21 p.1 p.2 :=
 allc (ctOf (txtT q0 [48] 100 (by decide +kernel)) rfl rfl rfl) (allc (ctOf (txtT q1 [49] 100 (by decide +kernel)) rfl rfl rfl) (all1 (ctOf (txtT qs [49,47,52,48,57,54] 100 (by decide +kernel)) rfl rfl rfl)))
theorem nearT (q r:Rat) (n:Nat) (h:(smqB 100 q&&(decide ((rq 5 11 0 q).1=n)&&(decide (wkind 5 11 n≤2)&&decide (wvalK 5 11 (bias 5) n=r))))=true):Cal Tryz.prog OQ 138 [fA ((5:Nat):Int) ((11:Nat):Int),iA 0,nA q] (.t [nA r,iA 0]):=by
 simp only [Bool.and_eq_true,decide_eq_true_eq] at h;obtain ⟨h1,h2,h3,h4⟩:=h
 have:=cNear (m:=0) f511 (by decide) (smqB_ok h1) (by decide)
 rw [h2] at this;unfold numAV at this;rw [if_pos h3,h4] at this
 exact this
theorem ct_Near:∀ p∈zLNear,ZCt Tryz.prog OQ 138 p.1 p.2 :=
 allc (ctOf (nearT q1 q1 15360 (by decide +kernel)) rfl rfl rfl) (all1 (ctOf (nearT qb q1 15360 (by decide +kernel)) rfl rfl rfl))
theorem ct_Add:∀ p∈zLAdd,ZCt Tryz.prog OQ 47 p.1 p.2:=all1 (ctOf (numAddT qs q1 qb 100 (by decide +kernel)) rfl rfl rfl)
theorem ct_Dig:∀ p∈zLDig,ZCt Tryz.prog OQ 269 p.1 p.2:=all1 (ctOf (digT qb 4 100 (by kernel_rfl)) rfl rfl rfl)
theorem ct_Sub:∀ p∈zLSub,ZCt Tryz.prog OQ 77 p.1 p.2:=all1 (ctOf (numSubT q1 qb qn 100 (by decide +kernel)) rfl rfl rfl)
theorem ct_Abs:∀ p∈zLAbs,ZCt Tryz.prog OQ 78 p.1 p.2:=all1 (ctOf (absT qn qs (by decide +kernel)) rfl rfl rfl)
theorem ct_Shift:∀ p∈zLShift,ZCt Tryz.prog OQ 79 p.1 p.2 :=
 allc (ctOf (shiftT qs 12 q1 100 (by decide +kernel)) rfl rfl rfl) (all1 (ctOf (shiftT q1 (-12) qs 100 (by decide +kernel)) rfl rfl rfl))
theorem ct_Floor:∀ p∈zLFloor,ZCt Tryz.prog OQ 80 p.1 p.2:=all1 (ctOf (floorT q1 q1 100 (by decide +kernel)) rfl rfl rfl)
theorem ct_Ceil:∀ p∈zLCeil,ZCt Tryz.prog OQ 81 p.1 p.2:=all1 (ctOf (cWholeX q1 q1 100 (by decide +kernel)) rfl rfl rfl)
theorem ct_ok {k:FuncId} {xs:List ZX} {r:ZX} (h:zCtF k xs=some r):ZCt Tryz.prog OQ k xs r:=by
 unfold zCtF at h
 split at h
 ·exact ct_indexByte h
 ·exact ct_count h
 ·exact ct_index h
 ·exact ctL ct_Check h
 ·exact ctL ct_Int h
 ·exact ctL ct_Has h
 ·exact ctL ct_Parse h
 ·exact ctL ct_Chk h
 ·exact ctL ct_Quo h
 ·exact ctL ct_Cmp h
 ·exact ctL ct_Text h
 ·exact ctL ct_Near h
 ·exact ctL ct_Add h
 ·exact ctL ct_Dig h
 ·exact ctL ct_Sub h
 ·exact ctL ct_Abs h
 ·exact ctL ct_Shift h
 ·exact ctL ct_Floor h
 ·exact ctL ct_Ceil h
 ·cases h
end Go.Proofs.YtoaoebimjmjpeaaGreatDoor
namespace Go.Proofs.YtoaoebimjmjpeaaGreatDoor
open Go.RowKit Vn
set_option maxRecDepth 100000
set_option maxHeartbeats 8000000
theorem zIm_ok {t:TypeId} {s:String} {k:FuncId} (h:zIm t s=some k):ZBody Tryz.prog k∧∀ v w,(method (Tryz.prog.types.size+Made.depth) t v s).run Tryz.prog w=.ok (k,v) w:=by
 have step:∀ {s':String} {j:FuncId} {o:Option FuncId},cond (decide (s=s')) (some j) o=some k→(s=s'∧k=j)∨o=some k:=fun {s' j o} h=>by
  by_cases e:s=s'
  ·rw [decide_eq_true e] at h;cases h;exact .inl ⟨e,rfl⟩
  ·rw [decide_eq_false e] at h;exact .inr h
 unfold zIm at h
 split at h
 ·rcases step h with ⟨rfl,rfl⟩ | h
  ·exact ⟨body_of (by kernel_rfl),mq212_input⟩
  rcases step h with ⟨rfl,rfl⟩ | h
  ·exact ⟨body_of (by kernel_rfl),mq212_full⟩
  rcases step h with ⟨rfl,rfl⟩ | h
  ·exact ⟨body_of (by kernel_rfl),mq212_operate⟩
  cases h
 ·rcases step h with ⟨rfl,rfl⟩ | h
  ·exact ⟨body_of (by kernel_rfl),mq103_input⟩
  rcases step h with ⟨rfl,rfl⟩ | h
  ·exact ⟨body_of (by kernel_rfl),mq103_full⟩
  rcases step h with ⟨rfl,rfl⟩ | h
  ·exact ⟨body_of (by kernel_rfl),mq103_operate⟩
  cases h
 ·cases h
theorem zH0:ZHOK Tryz.prog OQ ⟨zCtF,zIm,fun _ _ _ _=>none,fun _ _ _ _=>none⟩ :=
 ⟨fun h=>ct_ok h,fun h=>zIm_ok h,fun h=>(by cases h),fun h=>(by cases h)⟩
theorem zAll_ok (j:Nat):ZHOK Tryz.prog OQ (zAll j):=zRun_ok zTK MX zFK zH0 (caught_ok (by kernel_rfl)) j
theorem zYes_out:∀ {r:Option (ZX×ZT ZB×Nat)},zYes r=true→∃ h n,r=some (.c (.v (.bool true)),h,n)
 | none,h=>by cases h
 | some (x,h',n'),h=>by
  have hx:=zsXX_ok _ _ (show zsXX x (.c (.v (.bool true)))=true from h);subst hx
  exact ⟨h',n',rfl⟩
theorem cal_yes {k:FuncId} {j:Nat} (h:zYes ((zAll j).call k [] .e 0)=true):Cal Tryz.prog OQ k [] (.c (.v (.bool true))):=by
 obtain ⟨h',n',e⟩:=zYes_out h;obtain ⟨hb,hc⟩:=(zAll_ok j).call e;refine ⟨hb,rfl,fun S w vs _ hi hv => ?_⟩
 match vs,hv with
 | [],_ =>
  refine (hc (w0:=w) (β:=fun _=>none) (w:=w) ⟨fun b B e=>(by cases e),fun b a e=>(by cases e),fun b b' B B' a e=>(by cases e),Below.refl _ _,hi⟩ (fun _ _=>rfl) (vs:=[]) (by simp only [ZVs])).mono ?_;rintro e w' ⟨v,β',rfl,_,Z,hv,_⟩;simp only [ZV,ZR] at hv
  exact ⟨v,rfl,Z.ex,(show RepC OQ (fun _=>none) (fun b=>S b∨(w.heap.size≤b∧b<w'.heap.size)) w' v (.v (.bool true)) from Rep0.toC (Rep0.v' hv.1 rfl))⟩
theorem cKnown:Cal Tryz.prog OQ 6 [] (.c (.v (.bool true))):=cal_yes known_run
def zSlB (r:Option (ZX×ZT ZB×Nat)) (n wd:Nat) (cs:List ZC):Bool:=match r with
 | some (.c (.s b 0 n' wd' _),h,_)=>Nat.beq n' n&&(Nat.beq wd' wd&&(match h.get b with
  | some (.b _ cs')=>zsCs cs' cs
  | _=>false))
 | _=>false
theorem zSlB_out {r:Option (ZX×ZT ZB×Nat)} {n wd:Nat} {cs:List ZC} (h:zSlB r n wd cs=true):∃ b cap h' n' T,r=some (.c (.s b 0 n wd cap),h',n')∧h'.get b=some (.b T cs):=by
 unfold zSlB at h
 split at h
 ·rename_i b n1 wd1 cap h' n'
  simp only [Bool.and_eq_true] at h;obtain ⟨h1,h2,h3⟩:=h
  have:=beq_t' h1
  subst this
  have:=beq_t' h2
  subst this
  split at h3
  ·rename_i T cs' e
   have:=zsCs_ok _ _ h3
   subst this
   exact ⟨b,cap,h',n',T,rfl,e⟩
  ·cases h3
 ·cases h
theorem zcA_in0 {O:Opq} {β:Nat→Option Nat} {S:Nat→Prop} {w:World} {c:ZC} {a:AC} (h:zcA c=some a) {x:Value} (r:ZR O β w c x):Rep0 O S w a x:=by
 cases c<;>simp only [zcA] at h<;>(try cases h;done)
 ·cases h
  simp only [ZR] at r
  exact Rep0.v' r.1 r.2
 ·cases h
  simp only [ZR] at r
  exact Rep0.v' r.1 rfl
 ·cases h
  simp only [ZR] at r
  exact Rep0.o' r
theorem zcAs_in0 {O:Opq} {β:Nat→Option Nat} {S:Nat→Prop} {w:World}:∀ {l:List ZC} {m:List AC} {vs:List Value},zcAs l=some m→ZRs O β w l vs→All2 (fun x c=>Rep0 O S w c x) vs m
 | [],_,[],h,_=>by cases h;trivial
 | c :: l,m,v :: vs,h,r=>by
  simp only [zcAs] at h;simp only [ZRs] at r
  split at h
  ·rename_i a m' h1 h2
   cases h
   exact ⟨zcA_in0 h1 r.1,zcAs_in0 h2 r.2⟩
  ·cases h
 | [],_,_ :: _,_,r=>by simp only [ZRs] at r
 | _ :: _,_,[],_,r=>by simp only [ZRs] at r
theorem cal_sl {k:FuncId} {j n wd:Nat} {xs:List ZX} {cs:List ZC} {args:List AV} {rows:List (List AC)} (h:zSlB ((zAll j).call k xs .e 0) n wd cs=true) (ha:zxAs xs=some args) (hx:zxWs xs=true) (hr:zcAs cs=some rows.flatten) (hl:rows.length=n) (hw:∀ r∈rows,r.length=wd):Cal Tryz.prog OQ k args (.c (.sl wd rows)):=by
 obtain ⟨b,cap,h',n',T,e,hb⟩:=zSlB_out h;obtain ⟨hbody,hc⟩:=(zAll_ok j).call e;refine ⟨hbody,rfl,fun S w vs _ hi hv => ?_⟩;have hz:ZH OQ w (fun _=>none) (ZT.e:ZT ZB).get w:=⟨fun b B e=>(by cases e),fun b a e=>(by cases e),fun b b' B B' a e=>(by cases e),Below.refl _ _,hi⟩;refine (hc hz (fun _ _=>rfl) (zxAs_out ha hx hv)).mono ?_;rintro e w' ⟨v,β',rfl,E,Z,hv',_⟩;simp only [ZV,ZR] at hv';obtain ⟨a,cp,c,T',fr,q1,rfl,q2,q3,q4,q5,q6⟩:=hv';obtain ⟨a',p1,⟨us,ts,p2,p3,_⟩,p4,p5⟩:=Z.bl b _ hb;rw [q1] at p1;cases p1;refine ⟨_,rfl,Z.ex,?_⟩
 show RepC OQ (fun _=>none) (fun b=>S b∨(w.heap.size≤b∧b<w'.heap.size)) w' _ (.sl wd rows)
 refine Rep0.toC ?_;simp only [Rep0];refine ⟨some ⟨a,0,none⟩,a,0,cp,by rw [hl],fun _=>⟨rfl,.inr ⟨p4,p5⟩,by rw [hl];exact q5⟩,RepRows.of_list wd rows us a 0 hw (fun j v hj => ?_) (zcAs_in0 hr p3)⟩;have hlt:=(List.getElem?_eq_some_iff.1 hj).1;simp only [World.cell?,p2]
 simpa [List.getElem?_append_left hlt] using hj
abbrev ndZ (op:Int):ZX:=.g [.v (.int .i64 op),.v (.int .i64 0),.v (.int .i64 0),.v (.int .i64 0),.v (.int .i64 0),.v (.int .i64 0),.w []]
abbrev nodA (op:Int):AV:=.g [.v (.int .i64 op),.v (.int .i64 0),.v (.int .i64 0),.v (.int .i64 0),.v (.int .i64 0),.v (.int .i64 0),.v (.string ⟨#[]⟩)]
abbrev zC0:List AC:=[.v (.int .i64 0)]
theorem cKids1 (op:Int) (h:zSlB ((zAll 9).call 8 [ndZ op] .e 0) 1 1 [.v (.int .i64 0)]=true):Cal Tryz.prog OQ 8 [nodA op] (.c (.sl 1 [zC0])):=cal_sl h rfl rfl rfl rfl (fun r hr=>by simp only [List.mem_cons,List.not_mem_nil,or_false] at hr;rw [hr];rfl)
theorem cKids2 (op:Int) (h:zSlB ((zAll 9).call 8 [ndZ op] .e 0) 2 1 [.v (.int .i64 0),.v (.int .i64 0)]=true):Cal Tryz.prog OQ 8 [nodA op] (.c (.sl 1 [zC0,zC0])):=cal_sl h rfl rfl rfl rfl (fun r hr=>by simp only [List.mem_cons,List.not_mem_nil,or_false] at hr;rcases hr with rfl | rfl<;>rfl)
theorem cKids3 (op:Int) (h:zSlB ((zAll 9).call 8 [ndZ op] .e 0) 3 1 [.v (.int .i64 0),.v (.int .i64 0),.v (.int .i64 0)]=true):Cal Tryz.prog OQ 8 [nodA op] (.c (.sl 1 [zC0,zC0,zC0])):=cal_sl h rfl rfl rfl rfl (fun r hr=>by simp only [List.mem_cons,List.not_mem_nil,or_false] at hr;rcases hr with rfl | rfl | rfl<;>rfl)
theorem cKidsSqrt:Cal Tryz.prog OQ 8 [nodA 6] (.c (.sl 1 [zC0])):=cKids1 6 (by kernel_rfl)
theorem cKidsCast:Cal Tryz.prog OQ 8 [nodA 7] (.c (.sl 1 [zC0])):=cKids1 7 (by kernel_rfl)
theorem cKidsAdd:Cal Tryz.prog OQ 8 [nodA 8] (.c (.sl 1 [zC0,zC0])):=cKids2 8 (by kernel_rfl)
theorem cKidsSub:Cal Tryz.prog OQ 8 [nodA 9] (.c (.sl 1 [zC0,zC0])):=cKids2 9 (by kernel_rfl)
theorem cKidsMul:Cal Tryz.prog OQ 8 [nodA 10] (.c (.sl 1 [zC0,zC0])):=cKids2 10 (by kernel_rfl)
theorem cKidsDiv:Cal Tryz.prog OQ 8 [nodA 11] (.c (.sl 1 [zC0,zC0])):=cKids2 11 (by kernel_rfl)
theorem cKidsFma:Cal Tryz.prog OQ 8 [nodA 14] (.c (.sl 1 [zC0,zC0,zC0])):=cKids3 14 (by kernel_rfl)
end Go.Proofs.YtoaoebimjmjpeaaGreatDoor
