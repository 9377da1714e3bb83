/- The row's condition: what it gives of the world; the argument, opened. -/
import Derived.ProofKit
import Derived.Lib.LaidU8
import Derived.Shelf.Vars
import Derived.Handed
import Derived.Lay
import Derived.Test.YtoaoebimjmjpeaaGreatDoorRows
import Derived.Test.YtoaoebimjmjpeaaGreatDoorT14
import Derived.Test.YtoaoebimjmjpeaaGreatDoorT16
namespace Go.Proofs.YtoaoebimjmjpeaaGreatDoor
open Go.ChangeShapes Go.WideShapes Go.ChangeAt Go.RowKit Vn
set_option maxRecDepth 100000
set_option maxHeartbeats 8000000
theorem ownNone:ownKnob Tryz.prog.godebug=none:=by kernel_rfl
theorem laidOutAll:laidOutB Tryz.prog=true:=by kernel_rfl
theorem tabIs_of_reads {P:Program} {W:World} {name:String} {k:IntKind} {zs:List Int} {g:Nat} {t e:TypeId} {n:Nat}
  (hg:P.globalNamed name=some g) (hty:(P.globals[g]?).map (·.type)=some t) (ht:P.underlying t=some (.array n e)) (he:P.underlying e=some (.int k)) (hce:P.cellsOf e=1) (hct:P.cellsOf t=n)
  (h:Lib.VarReads P W name (Lib.tabData k zs)):Lib.TabIs P W name k zs:=by
 obtain ⟨g',t',cs,fuel,p,hg',ht',hvar,hd⟩:=h;obtain rfl:=Option.some.inj (hg.symm.trans hg');obtain rfl:=Option.some.inj (hty.symm.trans ht');unfold Lib.TabIs;rw [hvar,←Lib.cells_of_tab ht he hce hct hd]
theorem e32:(Rows.laid_math_bits_deBruijn32tab:DataW Unit)=Lib.tabData .u8 (Lib.deBruijn32tab.map Int.ofNat):=rfl
theorem eMir:(Rows.laid_vernier_floats_mirrored:DataW Unit)=Lib.tabData .i64 [0,1,2,4,3]:=rfl
theorem ePow:(Rows.laid_internal_strconv_uint64pow10:DataW Unit)=Lib.tabData .u64 Lib.pow10Tab:=rfl
theorem get32:∀ j,j<32→(Lib.deBruijn32tab.map Int.ofNat).getD j 0=((Lib.deBruijn32tab.getD j 0:Nat):Int):=by decide
theorem tabs_of {W:World} (h:laidMet Tryz.prog Rows.topRoundedRow.laid W):Tabs W:=by
 have r1:Lib.VarReads Tryz.prog W "math/bits.deBruijn32tab" Rows.laid_math_bits_deBruijn32tab:=Lib.laidMet.reads h (.head _);have r2:Lib.VarReads Tryz.prog W "vernier/floats.mirrored" Rows.laid_vernier_floats_mirrored:=Lib.laidMet.reads h (.tail _ (.tail _ (.tail _ (.tail _ (.head _)))));have r3:Lib.VarReads Tryz.prog W "internal/strconv.uint64pow10" Rows.laid_internal_strconv_uint64pow10:=Lib.laidMet.reads h (.tail _ (.tail _ (.head _)));rw [ePow] at r3;rw [e32] at r1;rw [eMir] at r2;have t1:=tabIs_of_reads (g:=9) (by kernel_rfl) (by kernel_rfl) Tryz.underlying457 Tryz.underlying5 (by kernel_rfl) (by kernel_rfl) r1;have t2:=tabIs_of_reads (g:=4) (by kernel_rfl) (by kernel_rfl) Tryz.underlying370 Tryz.underlying3 (by kernel_rfl) (by kernel_rfl) r2;have t3:=tabIs_of_reads (g:=6) (by kernel_rfl) (by kernel_rfl) Tryz.underlying433 Tryz.underlying52 (by kernel_rfl) (by kernel_rfl) r3;refine ⟨fun j hj => ?_,fun j hj=>t2.cell (by kernel_rfl) j hj,t3⟩;rw [←get32 j hj]
 exact t1.cell (by kernel_rfl) j hj
theorem eSiz:(Rows.laid_vernier_reals_sizes:DataW Unit)=Lib.tabData .i64 [64,256,1024,4000]:=rfl
theorem siz_of {W:World} (h:laidMet Tryz.prog Rows.topRoundedRow.laid W):∀ j,j<4→W.cell? ⟨1,j,none⟩=some (.int .i64 (([64,256,1024,4000]:List Int).getD j 0)):=by
 have r:Lib.VarReads Tryz.prog W "vernier/reals.sizes" Rows.laid_vernier_reals_sizes:=Lib.laidMet.reads h (.tail _ (.tail _ (.tail _ (.tail _ (.tail _ (.tail _ (.tail _ (.tail _ (.head _)))))))));rw [eSiz] at r;have t:=tabIs_of_reads (g:=1) (by kernel_rfl) (by kernel_rfl) Tryz.underlying93 Tryz.underlying3 (by kernel_rfl) (by kernel_rfl) r
 exact fun j hj=>t.cell (by kernel_rfl) j hj
theorem wm_of {W:World} (h:W.ShapedOpen Tryz.prog):WM W :=
 cell_of_shapedOpen_int (g:=5) (t:=3) (zero:=#[.int .i64 0]) h (of_decide_eq_true (by kernel_rfl)) (by kernel_rfl) rfl (by kernel_rfl) (by kernel_rfl) Tryz.underlying3
theorem changeAndShaped {H:Type} {enc:TypeId×Value→H} {a:Assume} {C:Checked} {os:Os} {f:FuncId} {fn:Func} {s:ChangeSpec} {conds:List PathCond} {apart fresh handsOn again:Bool} {X:World→Array Value→Prop}
  (hX:∀ (w w':World) (args:Array Value),w.heap=w'.heap→X w args→X w' args)
  (own:ownKnob C.prog.godebug=none) (started:os.Started) (noInit:C.prog.inits.idxOf? f=none) (hfn:C.prog.funcs[f]?=some fn)
  (witness:∃ (w:World) (tape:Tape) (i:Input),w.os=os∧(w.forCall tape i).Shaped C.prog∧i.vars=[]∧Input.okWide C.prog (w.forCall tape i) .any w.heap.size f i ∧
   ((s.pre enc C.prog fn conds apart (w.forCall tape i).memory i.args∧X (w.forCall tape i).memory i.args)∧sizedMet enc C.prog fn (OpenSpec.ofChange s) apart (w.forCall tape i).memory i.args)∧a.holds C.prog (lone (Frame.enter C.prog f i.args .normal) [] (w.forCall tape i)))
  (contract:∀ (W:World) (base:Nat) (args:Array Value) (ds gs:List (DataW H)) (before:List MemPlace),
   (∀ (j:Nat) t v,fn.params[j]?=some t→args[j]?=some v→Value.okWide C.prog W .any base t v) →
   DataW.Whole enc C.prog fn.params.toList s.vars apart W args.toList ds gs before→X W args→W.ShapedOpen C.prog →
   Calls C.prog f args W fun e W'=>∃ v,e=.returned v∧s.post enc C.prog fn apart fresh handsOn again W args v W') :
  ReturnsInHanded a C os f .any (fun w args=>(s.pre enc C.prog fn conds apart w args∧X w args)∧sizedMet enc C.prog fn (OpenSpec.ofChange s) apart w args) (s.post enc C.prog fn apart fresh handsOn again):=by
 refine returnsInHanded_of_calls own started noInit witness ?_
 intro w tape i _ hsh _ hok hpre hholds
 obtain ⟨_,_,_,fn',hfn',_,_,_,_,hval⟩:=hok;have e:fn'=fn:=Option.some.inj (hfn'.symm.trans hfn);subst e;obtain ⟨⟨⟨ds,gs,before,hw,hc⟩,hx⟩,hz⟩:=hpre;have hw':=DataW.Whole.of_heap (w':=w.forCall tape i) (by rfl) hw;refine (contract (w.forCall tape i) w.heap.size i.args ds gs before hval hw' (hX _ _ _ (by rfl) hx) hsh).mono fun e W' ⟨v,he,hp⟩ => ?_;subst he
 exact ChangeSpec.post_blind hp
section
variable {H:Type} {enc:TypeId×Value→H} {W:World} {base b0:Nat} {sp:Nat→Bool} {held:Bool}
theorem u64_of {z:Int} (h:(Lit.int .u64 z).wf=true):∃ n:Nat,z=n∧n<18446744073709551616:=by
 have:0≤z∧z≤18446744073709551615:=by simpa [Lit.wf,IntKind.min,IntKind.max,IntKind.signed,IntKind.bits] using h
 exact ⟨z.toNat,by omega,by omega⟩
theorem pair_of {n:Nat} {t e:TypeId} {k:IntKind} {f0 f1:Field} {x0 x1:Value} {y:DataW H×List MemPlace} (ht:Tryz.prog.underlying t=some (.struct #[f0,f1])) (e0:f0.type=e) (e1:f1.type=e) (o0:f0.offset=0) (o1:f1.offset=1)
  (he:Tryz.prog.underlying e=some (.int k)) (hce:Tryz.prog.cellsOf e=1) (h:DataW.trod enc Tryz.prog W b0 sp held n t [x0,x1]=some y) :
  ∃ z0 z1,x0=.int k z0∧x1=.int k z1∧(Lit.int k z0).wf=true∧(Lit.int k z1).wf=true:=by
 obtain ⟨xs,m,_,_,_,hl,hg⟩:=DataW.trod_struct ht h;obtain ⟨y0,hy0⟩:∃ y,xs[0]?=some y:=⟨xs[0]'(by rw [hl];simp),List.getElem?_eq_getElem _⟩;obtain ⟨y1,hy1⟩:∃ y,xs[1]?=some y:=⟨xs[1]'(by rw [hl];simp),List.getElem?_eq_getElem _⟩;have g0:=(hg 0 f0 rfl).trans hy0;have g1:=(hg 1 f1 rfl).trans hy1;rw [e0,o0,hce] at g0;rw [e1,o1,hce] at g1;obtain ⟨z0,h0,_,w0⟩:=DataW.trod_int he g0;obtain ⟨z1,h1,_,w1⟩:=DataW.trod_int he g1
 exact ⟨z0,z1,by simpa using h0,by simpa using h1,w0,w1⟩
end
end Go.Proofs.YtoaoebimjmjpeaaGreatDoor
