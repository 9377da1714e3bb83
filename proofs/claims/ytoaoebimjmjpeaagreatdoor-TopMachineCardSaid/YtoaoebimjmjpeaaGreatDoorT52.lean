/- TopMachine: the row, and what the card asks beside it. -/
import Derived.LaidMore
import Derived.Stop.Joined
import Derived.SevenTiedAt
import Derived.Test.YtoaoebimjmjpeaaGreatDoorTie
import Derived.Test.YtoaoebimjmjpeaaGreatDoorT32
import Derived.Test.YtoaoebimjmjpeaaGreatDoorT50
import Derived.Test.YtoaoebimjmjpeaaGreatDoorT51
namespace Go.Proofs.YtoaoebimjmjpeaaGreatDoor
open Go.ChangeShapes Go.WideShapes Go.ChangeAt Go.RowKit Vn
set_option maxRecDepth 100000
set_option maxHeartbeats 8000000
section
variable {H:Type} {enc:TypeId×Value→H} {W:World} {base b0:Nat} {sp:Nat→Bool} {held:Bool}
theorem open_words {v:Value} {d:DataW H} {p:List MemPlace} (hv:Value.okWide Tryz.prog W .any base 63 v) (h:DataW.Trod enc Tryz.prog W b0 sp held 63 v d p) :
  ∃ (M E P op:Int) (i0 i1 j0 j1 c0 c1:Nat),i0<18446744073709551616∧i1<18446744073709551616∧j0<18446744073709551616∧j1<18446744073709551616∧c0<18446744073709551616∧c1<18446744073709551616 ∧
   v=.agg #[.int .i64 M,.int .i64 E,.int .i64 P,.int .i64 op,.int .u64 i0,.int .u64 i1,.int .u64 j0,.int .u64 j1,.int .u64 c0,.int .u64 c1]:=by
 obtain ⟨cs,rfl,hsz⟩:=okWide_struct Tryz.underlying63 hv;obtain ⟨fuel,hf⟩:=h;have hC:Tryz.prog.cellsOf 63=10:=by kernel_rfl
 have c23:Tryz.prog.cellsOf 58=2:=by kernel_rfl
 have c26:Tryz.prog.cellsOf 54=2:=by kernel_rfl
 have c3:Tryz.prog.cellsOf 3=1:=by kernel_rfl
 have c24:Tryz.prog.cellsOf 52=1:=by kernel_rfl
 rw [hC] at hsz;obtain ⟨xs,n,_,_,_,hl,hg⟩:=DataW.trod_struct Tryz.underlying63 hf;have hx:∀ i,i<6→∃ y,xs[i]?=some y:=fun i hi=>⟨xs[i]'(by rw [hl];exact hi),List.getElem?_eq_getElem _⟩;obtain ⟨y0,hy0⟩:=hx 0 (by decide);obtain ⟨y1,hy1⟩:=hx 1 (by decide);obtain ⟨y2,hy2⟩:=hx 2 (by decide);obtain ⟨y3,hy3⟩:=hx 3 (by decide);obtain ⟨y4,hy4⟩:=hx 4 (by decide);obtain ⟨y5,hy5⟩:=hx 5 (by decide);obtain ⟨l⟩:=cs
 match l,hsz with
 | [x0,x1,x2,x3,x4,x5,x6,x7,x8,x9],_ =>
  have g0:DataW.trod enc Tryz.prog W b0 sp held n 3 (([x0,x1,x2,x3,x4,x5,x6,x7,x8,x9].drop 0).take (Tryz.prog.cellsOf 3))=some y0:=(hg 0 _ rfl).trans hy0;rw [c3] at g0;have g1:DataW.trod enc Tryz.prog W b0 sp held n 58 (([x0,x1,x2,x3,x4,x5,x6,x7,x8,x9].drop 1).take (Tryz.prog.cellsOf 58))=some y1:=(hg 1 _ rfl).trans hy1;rw [c23] at g1;have g2:DataW.trod enc Tryz.prog W b0 sp held n 3 (([x0,x1,x2,x3,x4,x5,x6,x7,x8,x9].drop 3).take (Tryz.prog.cellsOf 3))=some y2:=(hg 2 _ rfl).trans hy2;rw [c3] at g2;have g3:DataW.trod enc Tryz.prog W b0 sp held n 54 (([x0,x1,x2,x3,x4,x5,x6,x7,x8,x9].drop 4).take (Tryz.prog.cellsOf 54))=some y3:=(hg 3 _ rfl).trans hy3;rw [c26] at g3;have g4:DataW.trod enc Tryz.prog W b0 sp held n 54 (([x0,x1,x2,x3,x4,x5,x6,x7,x8,x9].drop 6).take (Tryz.prog.cellsOf 54))=some y4:=(hg 4 _ rfl).trans hy4;rw [c26] at g4;have g5:DataW.trod enc Tryz.prog W b0 sp held n 54 (([x0,x1,x2,x3,x4,x5,x6,x7,x8,x9].drop 8).take (Tryz.prog.cellsOf 54))=some y5:=(hg 5 _ rfl).trans hy5;rw [c26] at g5;obtain ⟨M,hM,_,_⟩:=DataW.trod_int Tryz.underlying3 g0;obtain rfl:x0=.int .i64 M:=by simpa using hM
  obtain ⟨E,P,rfl,rfl,_,_⟩:=pair_of Tryz.underlying58 rfl rfl rfl rfl Tryz.underlying3 c3 (x0:=x1) (x1:=x2) g1;obtain ⟨op,ho,_,_⟩:=DataW.trod_int Tryz.underlying3 g2;obtain rfl:x3=.int .i64 op:=by simpa using ho
  obtain ⟨i0,i1,rfl,rfl,wi0,wi1⟩:=pair_of Tryz.underlying54 rfl rfl rfl rfl Tryz.underlying52 c24 (x0:=x4) (x1:=x5) g3;obtain ⟨j0,j1,rfl,rfl,wj0,wj1⟩:=pair_of Tryz.underlying54 rfl rfl rfl rfl Tryz.underlying52 c24 (x0:=x6) (x1:=x7) g4;obtain ⟨k0,k1,rfl,rfl,wk0,wk1⟩:=pair_of Tryz.underlying54 rfl rfl rfl rfl Tryz.underlying52 c24 (x0:=x8) (x1:=x9) g5;obtain ⟨i0,rfl,hi0⟩:=u64_of wi0;obtain ⟨i1,rfl,hi1⟩:=u64_of wi1;obtain ⟨j0,rfl,hj0⟩:=u64_of wj0;obtain ⟨j1,rfl,hj1⟩:=u64_of wj1;obtain ⟨k0,rfl,hk0⟩:=u64_of wk0;obtain ⟨k1,rfl,hk1⟩:=u64_of wk1
  exact ⟨M,E,P,op,i0,i1,j0,j1,k0,k1,hi0,hi1,hj0,hj1,hk0,hk1,rfl⟩
end
theorem w_cellsT {a b:Nat} (ha:a<18446744073709551616) (hb:b<18446744073709551616):W128 (a*18446744073709551616+b)∧(a*18446744073709551616+b)/18446744073709551616=a∧(a*18446744073709551616+b)%18446744073709551616=b:=by
 refine ⟨by unfold W128;omega,by omega,by omega⟩
theorem topMachine_c (M E P op:Int) (i0 i1 j0 j1 c0 c1:Nat) (w:World) (hi0:i0<18446744073709551616) (hi1:i1<18446744073709551616) (hj0:j0<18446744073709551616) (hj1:j1<18446744073709551616) (hc0:c0<18446744073709551616) (hc1:c1<18446744073709551616) (hw:OInv w) :
  Calls Tryz.prog 4 #[.agg #[.int .i64 M,.int .i64 E,.int .i64 P,.int .i64 op,.int .u64 (i0:Nat),.int .u64 (i1:Nat),.int .u64 (j0:Nat),.int .u64 (j1:Nat),.int .u64 (c0:Nat),.int .u64 (c1:Nat)]] w fun e w'=>e=.returned (.bool true)∧Ext w w':=by
 obtain ⟨a1,a2,a3⟩:=w_cellsT hi0 hi1;obtain ⟨b1,b2,b3⟩:=w_cellsT hj0 hj1;obtain ⟨d1,d2,d3⟩:=w_cellsT hc0 hc1;have h:=cTopMachine (M:=M) (E:=E) (P:=P) (op:=op) a1 b1 d1;unfold wdsA at h;rw [a2,a3,b2,b3,d2,d3] at h
 exact cal_lawT (cs:=[.int .i64 M,.int .i64 E,.int .i64 P,.int .i64 op,.int .u64 (i0:Nat),.int .u64 (i1:Nat),.int .u64 (j0:Nat),.int .u64 (j1:Nat),.int .u64 (c0:Nat),.int .u64 (c1:Nat)]) h rfl w hw
theorem machine_lifted (os:Os) (started:os.Started) (H:Type) (enc:TypeId×Value→H) :
  ReturnsInHanded {} Tryz.checked os 4 .any (fun w args=>(Rows.topMachineSpec.pre enc Tryz.prog Tryz.f4 [] false w args∧laidMetH Tryz.prog Rows.topMachineRow.laid w)∧sizedMet enc Tryz.prog Tryz.f4 (OpenSpec.ofChange Rows.topMachineSpec) false w args)
   (Rows.topMachineSpec.post enc Tryz.prog Tryz.f4 false true false false):=by
 refine changeAndShaped (C:=Tryz.checked) (X:=fun w _=>laidMetH Tryz.prog Rows.topMachineRow.laid w) (fun _ _ _ hh h=>h.of_heap hh) ownNone started (by kernel_rfl) Tryz.func4
  (ChangeSpec.witness_shaped (enc:=enc) (C:=Tryz.checked) (os:=os) (X:=fun w _=>laidMetH Tryz.prog Rows.topMachineRow.laid w) false (World.laidAll Tryz.prog os Rows.topMachineRow.laid) #[.agg #[.int .i64 0,.int .i64 0,.int .i64 0,.int .i64 0,.int .u64 0,.int .u64 0,.int .u64 0,.int .u64 0,.int .u64 0,.int .u64 0]] 8 (World.laidAll_os _ _ _)
   (World.shaped_of_ZipB (by kernel_rfl) (by kernel_rfl)) (by kernel_rfl) (by kernel_rfl) (by kernel_rfl)
   (by rw [MakeChecks.laidMetH_plain _ _ _ (by kernel_rfl)];exact laidMet_laidAll _ (by kernel_rfl) (by kernel_rfl))) ?_
 intro W base args ds gs before hval0 hW hL hsh
 have hval:∀ (j:Nat) t v,Tryz.f4.params[j]?=some t→args[j]?=some v→Value.okWide Tryz.prog W .any base t v:=hval0;have hW':=hW;obtain ⟨p,q,hA0,hV,rfl,_,_⟩:=hW;have hA:DataW.TrodAll enc Tryz.prog W 0 (fun _=>true) true Tryz.f4.params.toList args.toList ds p:=hA0;rw [Tryz.params4] at hA hval;obtain ⟨v0,d0,rfl,rfl,h0⟩:=trodAll_one hA;obtain ⟨rfl,rfl⟩:=trodVars_none hV;obtain ⟨M,E,P,op,i0,i1,j0,j1,c0,c1,hi0,hi1,hj0,hj1,hc0,hc1,rfl⟩:=open_words (hval 0 63 v0 rfl rfl) h0;simp only [List.append_nil] at hW';have hlt:∀ x∈p,x.block<W.heap.size:=fun x hx=>by simpa using hW'.lt x hx
 rw [MakeChecks.laidMetH_plain _ _ _ (by kernel_rfl)] at hL;refine (topMachine_c M E P op i0 i1 j0 j1 c0 c1 W hi0 hi1 hj0 hj1 hc0 hc1 (inv_of hsh hL)).mono fun e W' ⟨he,hb⟩ => ?_;subst he
 exact ⟨_,rfl,_,_,_,[],p,[],hW',trodAll_mk1 (shut_bool Tryz.underlying4 _),trodAll_mk1 (Below.trod laidOutAll (by kernel_rfl) (of_decide_eq_true (by kernel_rfl)) h0 hb hlt),rfl,hb.frame _,fun h=>by cases h⟩
theorem machine_named:Tryz.pinned.checked.prog.funcNamed Rows.topMachineRow.func=some 4:=by kernel_rfl
theorem machine_inst:Tryz.f4.isInstance Tryz.pinned.checked.prog Rows.topMachineRow.origin Rows.topMachineRow.targs:=of_decide_eq_true (by kernel_rfl)
theorem machine_wrap:Tryz.f4.isWrapper Tryz.pinned.checked.prog Rows.topMachineRow.wrapper Rows.topMachineRow.mainSum:=by unfold Func.isWrapper;first | (rw [if_pos (by decide +kernel)];kernel_rfl) | (rw [if_neg (by decide +kernel)];exact ⟨rfl,rfl⟩)
theorem topMachine_holds:Rows.TopMachineSaid :=
 OpenClaim.holds_of_wide 4 Tryz.f4 rfl rfl rfl rfl rfl rfl rfl ⟨rfl,rfl,rfl,rfl,rfl⟩ rfl rfl rfl rfl rfl machine_named Tryz.func4 machine_facts machine_inst machine_wrap
  (fun os started H enc _=>machine_lifted os started H enc)
theorem card_wf:Rows.topMachineRow.wfByText (OpenSpec.ofChange Rows.topMachineSpec)=true:=by kernel_rfl
theorem card_main:Tryz.pinned.checked.prog.mainIs=some (((true, "6093890f4f2989376c294491fe2acf3ee9f753fa2a21372b32bd4c83d1fbb09e"):Bool×String).1,((true, "6093890f4f2989376c294491fe2acf3ee9f753fa2a21372b32bd4c83d1fbb09e"):Bool×String).2.toList):=by kernel_rfl
theorem card_looks:true=Tryz.pinned.checked.prog.looks []:=by kernel_rfl
theorem card_stand:([63].all fun u => !Tryz.prog.wantsStandIn u)=true:=by kernel_rfl
theorem card_goes:false=Rows.topMachineRow.goesBy Tryz.pinned.checked.prog:=by kernel_rfl
theorem card_func:Tryz.prog.funcNamed "vernier/verniertop.TopMachine" = some 4:=by kernel_rfl
end Go.Proofs.YtoaoebimjmjpeaaGreatDoor
