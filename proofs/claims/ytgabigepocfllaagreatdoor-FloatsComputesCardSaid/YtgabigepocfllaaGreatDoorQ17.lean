/- The row's condition: what it gives of the world; the argument, opened. -/
import Derived.ProofKit
import Derived.Lib.LaidU8
import Derived.Shelf.Vars
import Derived.Handed
import Derived.Lay
import Derived.Test.YtgabigepocfllaaGreatDoorRows
import Derived.Test.YtgabigepocfllaaGreatDoorQ15
import Derived.Test.YtgabigepocfllaaGreatDoorQ16
namespace Go.Proofs.YtgabigepocfllaaGreatDoor
open Go.ChangeShapes Go.WideShapes Go.ChangeAt Go.RowKit Vn
set_option maxRecDepth 100000
set_option maxHeartbeats 8000000
theorem ownNone:ownKnob Tryz.prog.godebug=none:=by kernel_rfl
theorem laidOutAll:laidOutB Tryz.prog=true:=by kernel_rfl
theorem tabIs_of_reads {P:Program} {W:World} {name:String} {k:IntKind} {zs:List Int} {g:Nat} {t e:TypeId} {n:Nat}
  (hg:P.globalNamed name=some g) (hty:(P.globals[g]?).map (·.type)=some t) (ht:P.underlying t=some (.array n e)) (he:P.underlying e=some (.int k)) (hce:P.cellsOf e=1) (hct:P.cellsOf t=n)
  (h:Lib.VarReads P W name (Lib.tabData k zs)):Lib.TabIs P W name k zs:=by
 obtain ⟨g',t',cs,fuel,p,hg',ht',hvar,hd⟩:=h;obtain rfl:=Option.some.inj (hg.symm.trans hg');obtain rfl:=Option.some.inj (hty.symm.trans ht');unfold Lib.TabIs;rw [hvar,←Lib.cells_of_tab ht he hce hct hd]
theorem e32:(Rows.laid_math_bits_deBruijn32tab:DataW Unit)=Lib.tabData .u8 (Lib.deBruijn32tab.map Int.ofNat):=rfl
theorem eMir:(Rows.laid_vernier_floats_mirrored:DataW Unit)=Lib.tabData .i64 [0,1,2,4,3]:=rfl
theorem ePow:(Rows.laid_internal_strconv_uint64pow10:DataW Unit)=Lib.tabData .u64 Lib.pow10Tab:=rfl
theorem get32:∀ j,j<32→(Lib.deBruijn32tab.map Int.ofNat).getD j 0=((Lib.deBruijn32tab.getD j 0:Nat):Int):=by decide
theorem tabs_of {W:World} (h:laidMet Tryz.prog Rows.floatsEncodesRow.laid W):Tabs W:=by
 have r1:Lib.VarReads Tryz.prog W "math/bits.deBruijn32tab" Rows.laid_math_bits_deBruijn32tab:=Lib.laidMet.reads h (.head _);have r2:Lib.VarReads Tryz.prog W "vernier/floats.mirrored" Rows.laid_vernier_floats_mirrored:=Lib.laidMet.reads h (.tail _ (.tail _ (.tail _ (.tail _ (.head _)))));have r3:Lib.VarReads Tryz.prog W "internal/strconv.uint64pow10" Rows.laid_internal_strconv_uint64pow10:=Lib.laidMet.reads h (.tail _ (.tail _ (.head _)));rw [ePow] at r3;rw [e32] at r1;rw [eMir] at r2;have t1:=tabIs_of_reads (g:=2) (by kernel_rfl) (by kernel_rfl) Tryz.underlying277 Tryz.underlying5 (by kernel_rfl) (by kernel_rfl) r1;have t2:=tabIs_of_reads (g:=0) (by kernel_rfl) (by kernel_rfl) Tryz.underlying216 Tryz.underlying3 (by kernel_rfl) (by kernel_rfl) r2;have t3:=tabIs_of_reads (g:=3) (by kernel_rfl) (by kernel_rfl) Tryz.underlying281 Tryz.underlying27 (by kernel_rfl) (by kernel_rfl) r3;refine ⟨fun j hj => ?_,fun j hj=>t2.cell (by kernel_rfl) j hj,t3⟩;rw [←get32 j hj]
 exact t1.cell (by kernel_rfl) j hj
theorem wm_of {W:World} (h:W.ShapedOpen Tryz.prog):WM W :=
 cell_of_shapedOpen_int (g:=1) (t:=3) (zero:=#[.int .i64 0]) h (of_decide_eq_true (by kernel_rfl)) (by kernel_rfl) rfl (by kernel_rfl) (by kernel_rfl) Tryz.underlying3
theorem changeAndShaped {H:Type} {enc:TypeId×Value→H} {a:Assume} {C:Checked} {os:Os} {f:FuncId} {fn:Func} {s:ChangeSpec} {conds:List PathCond} {apart fresh handsOn again:Bool} {X:World→Array Value→Prop}
  (hX:∀ (w w':World) (args:Array Value),w.heap=w'.heap→X w args→X w' args)
  (own:ownKnob C.prog.godebug=none) (started:os.Started) (noInit:C.prog.inits.idxOf? f=none) (hfn:C.prog.funcs[f]?=some fn)
  (witness:∃ (w:World) (tape:Tape) (i:Input),w.os=os∧(w.forCall tape i).Shaped C.prog∧i.vars=[]∧Input.okWide C.prog (w.forCall tape i) .any w.heap.size f i ∧
   ((s.pre enc C.prog fn conds apart (w.forCall tape i).memory i.args∧X (w.forCall tape i).memory i.args)∧sizedMet enc C.prog fn (OpenSpec.ofChange s) apart (w.forCall tape i).memory i.args)∧a.holds C.prog (lone (Frame.enter C.prog f i.args .normal) [] (w.forCall tape i)))
  (contract:∀ (W:World) (base:Nat) (args:Array Value) (ds gs:List (DataW H)) (before:List MemPlace),
   (∀ (j:Nat) t v,fn.params[j]?=some t→args[j]?=some v→Value.okWide C.prog W .any base t v) →
   DataW.Whole enc C.prog fn.params.toList s.vars apart W args.toList ds gs before→X W args→W.ShapedOpen C.prog →
   Calls C.prog f args W fun e W'=>∃ v,e=.returned v∧s.post enc C.prog fn apart fresh handsOn again W args v W') :
  ReturnsInHanded a C os f .any (fun w args=>(s.pre enc C.prog fn conds apart w args∧X w args)∧sizedMet enc C.prog fn (OpenSpec.ofChange s) apart w args) (s.post enc C.prog fn apart fresh handsOn again):=by
 refine returnsInHanded_of_calls own started noInit witness ?_
 intro w tape i _ hsh _ hok hpre hholds
 obtain ⟨_,_,_,fn',hfn',_,_,_,_,hval⟩:=hok;have e:fn'=fn:=Option.some.inj (hfn'.symm.trans hfn);subst e;obtain ⟨⟨⟨ds,gs,before,hw,hc⟩,hx⟩,hz⟩:=hpre;have hw':=DataW.Whole.of_heap (w':=w.forCall tape i) (by rfl) hw;refine (contract (w.forCall tape i) w.heap.size i.args ds gs before hval hw' (hX _ _ _ (by rfl) hx) hsh).mono fun e W' ⟨v,he,hp⟩ => ?_;subst he
 exact ChangeSpec.post_blind hp
section
variable {H:Type} {enc:TypeId×Value→H} {W:World} {base b0:Nat} {sp:Nat→Bool} {held:Bool}
theorem u64_of {z:Int} (h:(Lit.int .u64 z).wf=true):∃ n:Nat,z=n∧n<18446744073709551616:=by
 have:0≤z∧z≤18446744073709551615:=by simpa [Lit.wf,IntKind.min,IntKind.max,IntKind.signed,IntKind.bits] using h
 exact ⟨z.toNat,by omega,by omega⟩
theorem pair_of {n:Nat} {t e:TypeId} {k:IntKind} {f0 f1:Field} {x0 x1:Value} {y:DataW H×List MemPlace} (ht:Tryz.prog.underlying t=some (.struct #[f0,f1])) (e0:f0.type=e) (e1:f1.type=e) (o0:f0.offset=0) (o1:f1.offset=1)
  (he:Tryz.prog.underlying e=some (.int k)) (hce:Tryz.prog.cellsOf e=1) (h:DataW.trod enc Tryz.prog W b0 sp held n t [x0,x1]=some y) :
  ∃ z0 z1,x0=.int k z0∧x1=.int k z1∧(Lit.int k z0).wf=true∧(Lit.int k z1).wf=true:=by
 obtain ⟨xs,m,_,_,_,hl,hg⟩:=DataW.trod_struct ht h;obtain ⟨y0,hy0⟩:∃ y,xs[0]?=some y:=⟨xs[0]'(by rw [hl];simp),List.getElem?_eq_getElem _⟩;obtain ⟨y1,hy1⟩:∃ y,xs[1]?=some y:=⟨xs[1]'(by rw [hl];simp),List.getElem?_eq_getElem _⟩;have g0:=(hg 0 f0 rfl).trans hy0;have g1:=(hg 1 f1 rfl).trans hy1;rw [e0,o0,hce] at g0;rw [e1,o1,hce] at g1;obtain ⟨z0,h0,_,w0⟩:=DataW.trod_int he g0;obtain ⟨z1,h1,_,w1⟩:=DataW.trod_int he g1
 exact ⟨z0,z1,by simpa using h0,by simpa using h1,w0,w1⟩
theorem open_op3 {v:Value} {d:DataW H} {p:List MemPlace} (hv:Value.okWide Tryz.prog W .any base 61 v) (h:DataW.Trod enc Tryz.prog W b0 sp held 61 v d p) :
  ∃ (E P M:Int) (i0 i1 j0 j1 c0 c1:Nat),i0<18446744073709551616∧i1<18446744073709551616∧j0<18446744073709551616∧j1<18446744073709551616∧c0<18446744073709551616∧c1<18446744073709551616 ∧
   v=.agg #[.int .i64 E,.int .i64 P,.int .i64 M,.int .u64 i0,.int .u64 i1,.int .u64 j0,.int .u64 j1,.int .u64 c0,.int .u64 c1]:=by
 obtain ⟨cs,rfl,hsz⟩:=okWide_struct Tryz.underlying61 hv;obtain ⟨fuel,hf⟩:=h;have hC:Tryz.prog.cellsOf 61=9:=by kernel_rfl
 have c23:Tryz.prog.cellsOf 23=2:=by kernel_rfl
 have c26:Tryz.prog.cellsOf 29=2:=by kernel_rfl
 have c3:Tryz.prog.cellsOf 3=1:=by kernel_rfl
 have c24:Tryz.prog.cellsOf 27=1:=by kernel_rfl
 rw [hC] at hsz;obtain ⟨xs,n,_,_,_,hl,hg⟩:=DataW.trod_struct Tryz.underlying61 hf;have hx:∀ i,i<5→∃ y,xs[i]?=some y:=fun i hi=>⟨xs[i]'(by rw [hl];exact hi),List.getElem?_eq_getElem _⟩;obtain ⟨y0,hy0⟩:=hx 0 (by decide);obtain ⟨y1,hy1⟩:=hx 1 (by decide);obtain ⟨y2,hy2⟩:=hx 2 (by decide);obtain ⟨y3,hy3⟩:=hx 3 (by decide);obtain ⟨y4,hy4⟩:=hx 4 (by decide);obtain ⟨l⟩:=cs
 match l,hsz with
 | [x0,x1,x2,x3,x4,x5,x6,x7,x8],_ =>
  have g0:DataW.trod enc Tryz.prog W b0 sp held n 23 (([x0,x1,x2,x3,x4,x5,x6,x7,x8].drop 0).take (Tryz.prog.cellsOf 23))=some y0:=(hg 0 _ rfl).trans hy0;rw [c23] at g0;have g1:DataW.trod enc Tryz.prog W b0 sp held n 3 (([x0,x1,x2,x3,x4,x5,x6,x7,x8].drop 2).take (Tryz.prog.cellsOf 3))=some y1:=(hg 1 _ rfl).trans hy1;rw [c3] at g1;have g2:DataW.trod enc Tryz.prog W b0 sp held n 29 (([x0,x1,x2,x3,x4,x5,x6,x7,x8].drop 3).take (Tryz.prog.cellsOf 29))=some y2:=(hg 2 _ rfl).trans hy2;rw [c26] at g2;have g3:DataW.trod enc Tryz.prog W b0 sp held n 29 (([x0,x1,x2,x3,x4,x5,x6,x7,x8].drop 5).take (Tryz.prog.cellsOf 29))=some y3:=(hg 3 _ rfl).trans hy3;rw [c26] at g3;have g4:DataW.trod enc Tryz.prog W b0 sp held n 29 (([x0,x1,x2,x3,x4,x5,x6,x7,x8].drop 7).take (Tryz.prog.cellsOf 29))=some y4:=(hg 4 _ rfl).trans hy4;rw [c26] at g4;obtain ⟨E,P,rfl,rfl,_,_⟩:=pair_of Tryz.underlying23 rfl rfl rfl rfl Tryz.underlying3 c3 (x0:=x0) (x1:=x1) g0;obtain ⟨M,hM,_,_⟩:=DataW.trod_int Tryz.underlying3 g1;obtain rfl:x2=.int .i64 M:=by simpa using hM
  obtain ⟨i0,i1,rfl,rfl,wi0,wi1⟩:=pair_of Tryz.underlying29 rfl rfl rfl rfl Tryz.underlying27 c24 (x0:=x3) (x1:=x4) g2;obtain ⟨j0,j1,rfl,rfl,wj0,wj1⟩:=pair_of Tryz.underlying29 rfl rfl rfl rfl Tryz.underlying27 c24 (x0:=x5) (x1:=x6) g3;obtain ⟨k0,k1,rfl,rfl,wk0,wk1⟩:=pair_of Tryz.underlying29 rfl rfl rfl rfl Tryz.underlying27 c24 (x0:=x7) (x1:=x8) g4;obtain ⟨i0,rfl,hi0⟩:=u64_of wi0;obtain ⟨i1,rfl,hi1⟩:=u64_of wi1;obtain ⟨j0,rfl,hj0⟩:=u64_of wj0;obtain ⟨j1,rfl,hj1⟩:=u64_of wj1;obtain ⟨k0,rfl,hk0⟩:=u64_of wk0;obtain ⟨k1,rfl,hk1⟩:=u64_of wk1
  exact ⟨E,P,M,i0,i1,j0,j1,k0,k1,hi0,hi1,hj0,hj1,hk0,hk1,rfl⟩
theorem open_op {v:Value} {d:DataW H} {p:List MemPlace} (hv:Value.okWide Tryz.prog W .any base 61 v) (h:DataW.Trod enc Tryz.prog W b0 sp held 61 v d p) :
  ∃ (E P M:Int) (i0 i1 j0 j1:Nat) (c0 c1:Int),i0<18446744073709551616∧i1<18446744073709551616∧j0<18446744073709551616∧j1<18446744073709551616 ∧
   v=.agg #[.int .i64 E,.int .i64 P,.int .i64 M,.int .u64 i0,.int .u64 i1,.int .u64 j0,.int .u64 j1,.int .u64 c0,.int .u64 c1]:=by
 obtain ⟨E,P,M,i0,i1,j0,j1,k0,k1,hi0,hi1,hj0,hj1,_,_,h⟩:=open_op3 hv h
 exact ⟨E,P,M,i0,i1,j0,j1,k0,k1,hi0,hi1,hj0,hj1,h⟩
theorem open_fmt {v:Value} {d:DataW H} {p:List MemPlace} (hv:Value.okWide Tryz.prog W .any base 23 v) (h:DataW.Trod enc Tryz.prog W b0 sp held 23 v d p) :
  ∃ (E P:Int),v=.agg #[.int .i64 E,.int .i64 P]:=by
 obtain ⟨cs,rfl,hsz⟩:=okWide_struct Tryz.underlying23 hv;obtain ⟨fuel,hf⟩:=h;have hC:Tryz.prog.cellsOf 23=2:=by kernel_rfl
 have c3:Tryz.prog.cellsOf 3=1:=by kernel_rfl
 rw [hC] at hsz;obtain ⟨l⟩:=cs
 match l,hsz with
 | [x0,x1],_ =>
  obtain ⟨E,P,rfl,rfl,_,_⟩:=pair_of Tryz.underlying23 rfl rfl rfl rfl Tryz.underlying3 c3 (x0:=x0) (x1:=x1) hf
  exact ⟨E,P,rfl⟩
end
section
variable {H:Type} {enc:TypeId×Value→H} {W:World} {base b0:Nat} {sp:Nat→Bool} {held:Bool}
theorem open_ask {v:Value} {d:DataW H} {p:List MemPlace} (hv:Value.okWide Tryz.prog W .any base 36 v) (h:DataW.Trod enc Tryz.prog W b0 sp held 36 v d p) :
  ∃ (E P M:Int) (S T:List UInt8),S.length≤9223372036854775807∧T.length≤9223372036854775807 ∧
   v=.agg #[.int .i64 E,.int .i64 P,.int .i64 M,.string (ba S),.string (ba T)]:=by
 obtain ⟨cs,rfl,hsz⟩:=okWide_struct Tryz.underlying36 hv;obtain ⟨fuel,hf⟩:=h;have hC:Tryz.prog.cellsOf 36=5:=by kernel_rfl
 have c23:Tryz.prog.cellsOf 23=2:=by kernel_rfl
 have c3:Tryz.prog.cellsOf 3=1:=by kernel_rfl
 have c9:Tryz.prog.cellsOf 9=1:=by kernel_rfl
 rw [hC] at hsz;obtain ⟨xs,n,_,_,_,hl,hg⟩:=DataW.trod_struct Tryz.underlying36 hf;have hx:∀ i,i<4→∃ y,xs[i]?=some y:=fun i hi=>⟨xs[i]'(by rw [hl];exact hi),List.getElem?_eq_getElem _⟩;obtain ⟨y0,hy0⟩:=hx 0 (by decide);obtain ⟨y1,hy1⟩:=hx 1 (by decide);obtain ⟨y2,hy2⟩:=hx 2 (by decide);obtain ⟨y3,hy3⟩:=hx 3 (by decide);obtain ⟨l⟩:=cs
 match l,hsz with
 | [x0,x1,x2,x3,x4],_ =>
  have g0:DataW.trod enc Tryz.prog W b0 sp held n 23 (([x0,x1,x2,x3,x4].drop 0).take (Tryz.prog.cellsOf 23))=some y0:=(hg 0 _ rfl).trans hy0;rw [c23] at g0;have g1:DataW.trod enc Tryz.prog W b0 sp held n 3 (([x0,x1,x2,x3,x4].drop 2).take (Tryz.prog.cellsOf 3))=some y1:=(hg 1 _ rfl).trans hy1;rw [c3] at g1;have g2:DataW.trod enc Tryz.prog W b0 sp held n 9 (([x0,x1,x2,x3,x4].drop 3).take (Tryz.prog.cellsOf 9))=some y2:=(hg 2 _ rfl).trans hy2;rw [c9] at g2;have g3:DataW.trod enc Tryz.prog W b0 sp held n 9 (([x0,x1,x2,x3,x4].drop 4).take (Tryz.prog.cellsOf 9))=some y3:=(hg 3 _ rfl).trans hy3;rw [c9] at g3;obtain ⟨E,P,rfl,rfl,_,_⟩:=pair_of Tryz.underlying23 rfl rfl rfl rfl Tryz.underlying3 c3 (x0:=x0) (x1:=x1) g0;obtain ⟨M,hM,_,_⟩:=DataW.trod_int Tryz.underlying3 g1;obtain rfl:x2=.int .i64 M:=by simpa using hM
  obtain ⟨S,hS,_,zS⟩:=DataW.trod_string Tryz.underlying9 g2;obtain rfl:x3=.string S:=by simpa using hS
  obtain ⟨T,hT,_,zT⟩:=DataW.trod_string Tryz.underlying9 g3;obtain rfl:x4=.string T:=by simpa using hT
  exact ⟨E,P,M,S.data.toList,T.data.toList,zS,zT,rfl⟩
theorem open_i64 {v:Value} {d:DataW H} {p:List MemPlace} (hv:Value.okWide Tryz.prog W .any base 2 v) (h:DataW.Trod enc Tryz.prog W b0 sp held 2 v d p) :
  ∃ z:Int,-9223372036854775808≤z∧z<9223372036854775808∧v=.int .i64 z:=by
 obtain ⟨z,rfl,_,_,hw⟩:=open_int Tryz.underlying2 hv h;have : -9223372036854775808≤z∧z≤9223372036854775807:=by simpa [Lit.wf,IntKind.min,IntKind.max,IntKind.signed,IntKind.bits] using hw
 exact ⟨z,by omega,by omega,rfl⟩
end
end Go.Proofs.YtgabigepocfllaaGreatDoor
