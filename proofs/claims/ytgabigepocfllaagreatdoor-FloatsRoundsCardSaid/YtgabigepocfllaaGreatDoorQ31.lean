/- The reference's natural numbers: divided, the state of its rounds. -/
import Derived.Laws.OwnMore
import Derived.Test.YtgabigepocfllaaGreatDoorQ21
namespace Go.Proofs.YtgabigepocfllaaGreatDoor
open Go.RowKit Vn
set_option maxRecDepth 100000
set_option maxHeartbeats 8000000
def Fresh (w0:World) (N:Nat) (g k cp:Nat) (wx:World):Prop:=w0.heap.size≤g∧Ext w0 wx∧k≤cp∧cp≤maxLen ∧
 ∃ l cur,Norm 1000000000 l∧dv 1000000000 l=N∧l.length=k∧wx.heap[g]?=some (.cells cur 2 (0,0))∧∀ i,i<k→cur[i]?=some (.int .i64 (l.getD i 0:Nat))
theorem Fresh.refv {w0 wx:World} {N g k cp:Nat} (h:Fresh w0 N g k cp wx):RefV wx (.slice (some ⟨g,0,none⟩) k cp) N:=by
 obtain ⟨h1,h2,h3,h4,l,cur,h5,h6,h7,h8,h9⟩:=h;refine ⟨l,h5,h6,?_⟩;subst h7
 exact ⟨some ⟨g,0,none⟩,g,0,cp,rfl,h3,h4,fun _=>rfl,cur,(0,0),fun _=>h8,fun i hi=>by rw [Nat.zero_add];exact h9 i hi⟩
theorem Fresh.ext {w0 wx w':World} {N g k cp:Nat} (h:Fresh w0 N g k cp wx) (k':Ext wx w'):Fresh w0 N g k cp w':=by
 obtain ⟨h1,h2,h3,h4,l,cur,h5,h6,h7,h8,h9⟩:=h
 exact ⟨h1,h2.trans k',h3,h4,l,cur,h5,h6,h7,k'.heap h8,h9⟩
theorem Fresh.cell {w0 wx:World} {N g k cp:Nat} (h:Fresh w0 N g k cp wx):∃ l,Norm 1000000000 l∧dv 1000000000 l=N∧l.length=k∧∀ i,i<k→wx.cell? ⟨g,i,none⟩=some (.int .i64 (l.getD i 0:Nat)):=by
 obtain ⟨h1,h2,h3,h4,l,cur,h5,h6,h7,h8,h9⟩:=h
 exact ⟨l,h5,h6,h7,fun i hi=>by simp [World.cell?,h8,h9 i hi]⟩
theorem Fresh.setCell {w0 wx:World} {N g k cp b i:Nat} (h:Fresh w0 N g k cp wx) (hb:b<w0.heap.size) (x:Value):RefV (wx.setCell ⟨b,i,none⟩ x) (.slice (some ⟨g,0,none⟩) k cp) N:=by
 obtain ⟨h1,h2,h3,h4,l,cur,h5,h6,h7,h8,h9⟩:=h;refine ⟨l,h5,h6,?_⟩;subst h7;refine ⟨some ⟨g,0,none⟩,g,0,cp,rfl,h3,h4,fun _=>rfl,cur,(0,0),fun _ => ?_,fun j hj=>by rw [Nat.zero_add];exact h9 j hj⟩;rw [Below.heap_setCell _ _ _ _ (show g≠(⟨b,i,none⟩:Addr).block from by show g≠b;omega)]
 exact h8
theorem fresh_of {w0 w1:World} {v:Value} {n d:Nat} {r:List Nat} (hr:Norm 1000000000 r) (hd:d<1000000000) (hl:r.length≤100000000000) (hE:Ext w0 w1) (hown:w1.ownsRow w0.heap.size 2 1 v n (digs (d :: r))) :
  ∃ g cp,v=.slice (some ⟨g,0,none⟩) n cp∧n=r.length+1∧((Calls Tryz.prog 227 #[.slice (some ⟨g,0,none⟩) n cp] w1 fun e w'=>∃ k,e=.returned (.slice (some ⟨g,0,none⟩) k cp)∧Fresh w0 (d+1000000000*dv 1000000000 r) g k cp w')):=by
 have hn:n=r.length+1:=by have:=hown.1;rw [digs_len] at this;simp at this;omega
 rcases hown.2 with ⟨_,h0⟩ | ⟨g,cap,cur,rfl,h1,h2,h3,h4,h5,h6⟩
 ·omega
 ·refine ⟨g,cap,rfl,hn,?_⟩;have hdig:Dig 1000000000 (d :: r):=Dig.mk hd hr.dig;have hcur:∀ i,i<n→cur[i]?=some (.int .i64 ((d :: r).getD i 0:Nat)):=fun i hi=>by
   have h7:(cur.toList.take (n*1))[i]?=(digs (d :: r))[i]?:=by rw [h6]
   rw [List.getElem?_take,if_pos (by omega),Array.getElem?_toList] at h7;rw [h7];simp only [digs,List.getElem?_map,List.getD_eq_getElem?_getD,List.getElem?_eq_getElem (show i<(d :: r).length by simp;omega),Option.map_some,Option.getD_some]
  refine (rtrim_core (some ⟨g,0,none⟩) g 0 n cap (d :: r) w1 (by omega) h3 h4 (hid fun _=>rfl) (hid hdig) (hid fun i hi=>by simp [World.cell?,h2,hcur i hi])).mono ?_;rintro e w' ⟨k,rfl,hR,hnz⟩;obtain ⟨h8,h9⟩:=rtrim_norm hR (by rw [hn];simp) hdig hnz;have hk:=hR.hk;refine ⟨k,rfl,h1,hE.trans hR.ext,by omega,h4,(d :: r).take k,cur,h8,by rw [h9,dv_cons],by simp;omega,by rw [hR.heap];exact h2,fun i hi => ?_⟩;rw [hcur i (by omega)];simp only [List.getD_eq_getElem?_getD];rw [List.getElem?_take,if_pos hi]
structure DivRel (x:List Nat) (n M:Nat) (w:World) (k R:Nat) (o:List Nat) (wr:World):Prop where
 hk:k≤n
 hr:R<M
 val:dv 1000000000 (x.drop k)=dv 1000000000 (o.drop k)*M+R
 low:∀ i,i<k→o.getD i 0=0
 own:ROwn w wr w.heap.size o n
theorem DivRel.stay {x:List Nat} {n M:Nat} {w:World} {j R:Nat} {o:List Nat} {wr w':World} (h:DivRel x n M w (j+1) R o wr) (hE:Ext wr w') (hn:x.length=n) {d:Nat} (hd:d=x.getD j 0) (hlt:d+1000000000*R<M) :
  DivRel x n M w j (d+1000000000*R) o w':=by
 have hk:=h.hk;have hl:j<o.length:=by rw [h.own.len];omega
 refine ⟨by omega,hlt,?_,fun i hi=>h.low i (by omega),h.own.ext' hE⟩;rw [dv_drop _ x j (by omega),←hd,dv_drop _ o j hl,h.low j (by omega),h.val,Nat.zero_add,Nat.mul_add,Nat.mul_assoc]
 omega
theorem DivRel.step {x:List Nat} {n M:Nat} {w:World} {j R:Nat} {o:List Nat} {wr w':World} (h:DivRel x n M w (j+1) R o wr) (hE:Ext wr w') (hn:x.length=n) {d:Nat} (hd:d=x.getD j 0) (hd':d<1000000000) (e:Int) (he:e=(((d+1000000000*R)/M:Nat):Int)) :
  DivRel x n M w j ((d+1000000000*R)%M) (o.set j ((d+1000000000*R)/M)) (w'.setCell ⟨w.heap.size,j,none⟩ (.int .i64 e)):=by
 have hk:=h.hk;have hr:=h.hr;have hl:j<o.length:=by rw [h.own.len];omega
 have hq:(d+1000000000*R)/M<1000000000:=by
  apply Nat.div_lt_of_lt_mul
  have:1000000000*(R+1)≤1000000000*M:=Nat.mul_le_mul_left _ hr
  rw [Nat.mul_comm M]
  omega
 refine ⟨by omega,Nat.mod_lt _ (by omega),?_,fun i hi => ?_,(h.own.ext' hE).set (Nat.le_refl _) j _ e he hq⟩
 ·rw [dv_drop _ x j (by omega),←hd,rdrop_set_self _ _ _ hl,dv_cons,h.val]
  have:=Nat.div_add_mod (d+1000000000*R) M
  generalize (d+1000000000*R)/M=q at *
  generalize (d+1000000000*R)%M=s at *
  generalize dv 1000000000 (o.drop (j+1))=D at *
  grind
 ·rw [getD_set _ _ _ _ hl,if_neg (by omega)]
  exact h.low i (by omega)
theorem DivRel.ext {x:List Nat} {n M:Nat} {w:World} {k R:Nat} {o:List Nat} {wr w':World} (h:DivRel x n M w k R o wr) (hE:Ext wr w'):DivRel x n M w k R o w' :=
 ⟨h.hk,h.hr,h.val,h.low,h.own.ext' hE⟩
theorem refv_oneI (w:World) (e:Int) (d:Nat) (he:e=(d:Int)) (h0:0<d) (h1:d<1000000000):RefV (w.alloc (.cells #[.int .i64 e] 2)) (.slice (some ⟨w.heap.size,0,none⟩) 1 1) d:=by
 subst he;exact refv_one w d h0 h1
theorem cmpN_le {m n:Nat}:decide (cmpN m n≤0)=decide (m≤n):=by
 unfold cmpN
 by_cases h:m<n
 ·rw [if_pos h,decide_eq_true (by omega:m≤n)];rfl
 ·rw [if_neg h]
  by_cases h2:n<m
  ·rw [if_pos h2,decide_eq_false (by omega:¬ m≤n)];rfl
  ·rw [if_neg h2,decide_eq_true (by omega:m≤n)];rfl
section
variable {P:Program}
theorem run_append_none0 (w:World) (base:Nat) (t ty e:TypeId) (i:TypeInfo) (size:Nat) (ht:P.underlying t=some (.slice e)) (hi:P.info? e=some i)
  (v:Value) (n:Nat) (xs:List Value) (hown:w.ownsRow base e size v n xs) (c:Nat) :
  (Builtin.append_ #[t,t] ty #[v,.slice none 0 c]).run P w=.ok v w:=by
 rcases hown.2 with ⟨rfl,rfl⟩ | ⟨g,cap,cur,rfl,_,_,hnc,_⟩
 ·simp [Builtin.append_,run_underlying ht,sizeOf,typeInfo,hi,Builtin.lenOf,Builtin.firstCells]
 ·simp [Builtin.append_,run_underlying ht,sizeOf,typeInfo,hi,Builtin.lenOf,Builtin.firstCells,hnc,storeCells]
theorem wpList_append_none0 {w:World} {ops:Array Oper} {rest:List Oper} {o:Oper} {a:Act} {Q:Exit→Act→World→Prop} (hgd:o.guard=none) (s x:Operand) (t:TypeId)
  (ho:o.op=.call { callee:=.builtin .append,args:=#[s,x],argTypes:=#[t,t] })
  (base:Nat) (e:TypeId) (i:TypeInfo) (size:Nat) (ht:P.underlying t=some (.slice e)) (hi:P.info? e=some i)
  (v:Value) (n:Nat) (xs:List Value) (hs:a.eval s=v) (hown:w.ownsRow base e size v n xs) (c:Nat) (hx:a.eval x=.slice none 0 c)
  (h:wpList P ops Q rest (a.put o.dst v) w):wpList P ops Q (o :: rest) a w:=by
 refine wpList_plain hgd fun K hK => ?_;have hrun:=run_append_none0 (P:=P) w base t o.type e i size ht hi v n xs hown c;unfold Oper.wp
 simp [execOp,ho,resolve,invoke,builtin,hs,hx,hrun,Result.andThen]
 exact hK _ _ h
end
theorem rdiv_core (aa ab:Option Addr) (ba oa ca bb ob cb:Nat) (x y:List Nat) (n m K:Nat) (w:World) (Hn:Hid (x.length=n)) (Hm:Hid (y.length=m)) (hn:n≤100000000000) (hm:m≤100000000000) (hm0:0<m)
  (Hax:Hid (0<n→aa=some ⟨ba,oa,none⟩)) (Hay:Hid (0<m→ab=some ⟨bb,ob,none⟩))
  (Hx:Hid (Norm 1000000000 x)) (Hy:Hid (Norm 1000000000 y)) (Hcx:RCells w ba oa n x) (Hcy:RCells w bb ob m y) (HB:Hid (RefV w (.slice ab m cb) (dv 1000000000 y))) (SB:Hid (Sm K (dv 1000000000 y))) (HK:Hid (K≤50000000)) :
  Calls Tryz.prog 226 #[.slice aa n ca,.slice ab m cb] w fun e w'=>∃ a k cap a' k' cap',e=.returned (.tuple #[.slice a k cap,.slice a' k' cap'])∧RefV w' (.slice a k cap) (dv 1000000000 x/dv 1000000000 y)∧RefV w' (.slice a' k' cap') (dv 1000000000 x%dv 1000000000 y)∧Ext w w':=by
 obtain ⟨i0,hi,hz0,hz1,hz2⟩:=info_parts info64;have hmk:=mkRef n (n:Int) (by omega) (by omega);obtain ⟨M,hM⟩:∃ M,M=dv 1000000000 y:=⟨_,rfl⟩;rw [←hM] at HB SB;have HM:=hid hM;have hM0:0<M:=by
  rw [hM]
  exact Hy.o.dv_pos (by decide) (fun e=>by have:=Hm.o;rw [e] at this;simp at this;omega)
 clear hM;obtain rfl:=Hay.o hm0
 go_enter Tryz.func226,Tryz.ntmps226
 go_wp2_with fail
 go_loopg [8,9] n (fun k v i wr=>∃ (R:Nat) (o:List Nat) (ar:Option Addr) (nr cr:Nat),v=.slice ar nr cr∧i=.int .i64 ((k:Int)-1)∧k≤n∧Hid (DivRel x n M w k R o wr)∧Hid (RefV wr (.slice ar nr cr) R))
 case atStart=>exact ⟨0,_,none,0,0,rfl,by go_num,Nat.le_refl _,hid ⟨Nat.le_refl _,hM0,by rw [List.drop_eq_nil_of_le (by rw [Hn.o];exact Nat.le_refl _),List.drop_eq_nil_of_le (by simp)];simp [dv],fun i _=>by rw [List.getD_eq_getElem?_getD,List.getElem?_replicate];split<;>rfl,ROwn.init w _⟩,hid (RefV.nil _)⟩
 case round =>
  obtain ⟨R,o,ar,nr,cr,rfl,rfl,hkn,HR,HV⟩:=hrel
  rcases Nat.eq_zero_or_pos gk with hk0 | hk0
  ·subst hk0;have HO:=HR.o.own;have hd0:decide ((0:Int)≤((0:Nat):Int)-1)=false:=by decide
   go_wp2_with (go_at_call 227;refine (rtrim_c _ _ _ (HO.slat (by unfold maxLen;omega)) HO.dig (by rw [HO.len];omega)).mono ?_;rintro e w1 ⟨a1,n1,c1,rfl,h1,hb1⟩)
   go_ret2;have hv:=HR.o.val;have hr:=HR.o.hr;simp only [List.drop_zero] at hv;have e1:dv 1000000000 x/M=dv 1000000000 o:=by rw [hv,Nat.mul_comm,Nat.mul_add_div hM0,Nat.div_eq_of_lt hr,Nat.add_zero]
   have e2:dv 1000000000 x%M=R:=by rw [hv,Nat.mul_comm,Nat.mul_add_mod,Nat.mod_eq_of_lt hr]
   rw [←HM.o,e1,e2]
   exact ⟨_,_,_,_,_,_,rfl,h1,HV.o.ext hb1,HO.ext.trans hb1⟩
  ·obtain ⟨j,rfl⟩:∃ j,gk=j+1:=⟨gk-1,by omega⟩;have ej:(((j+1:Nat):Int)-1)=(j:Int):=by omega
   rw [ej];obtain ⟨d,hd2⟩:∃ d,d=x.getD j 0:=⟨_,rfl⟩;have hE:=HR.o.own.ext;have hcell:wr.cell? ⟨ba,oa+j,none⟩=some (.int .i64 d):=by rw [hd2];exact hE.cell (Hcx.o j (by omega))
   have hlt:d<1000000000:=by rw [hd2];exact Hx.o.dig.get (by decide) _
   obtain rfl:=Hax.o (by omega);have Hd2:Hid (d=x.getD j 0):=hd2;have hd0:decide ((0:Int)≤(j:Int))=true:=decide_eq_true (by omega);have i1:(0:Int)≤(j:Int):=by omega
   have i2:(j:Int)<(n:Int):=by omega
   have HE:=hid hE;have hsz:=HE.o.size;obtain ⟨ar',br,or',nr',cr',r,hv1,hv2,hv3,hv4,hv5,hv6,hv7,hv8,hv9⟩:=HV.o.open;obtain ⟨rfl,rfl,rfl⟩:ar=ar'∧nr=nr'∧cr=cr':=by simpa using hv1
   clear hd2 ej hv1;have hrl:r.length≤m:=by
    have:=rnorm_len hv6.o Hy.o (by rw [hv7.o,←HM.o];exact Nat.le_of_lt HR.o.hr)
    rwa [Hm.o] at this
   have hnr:nr≤m:=by rw [←hv4.o];exact hrl
   obtain ⟨N,hN⟩:∃ N,N=d+1000000000*R:=⟨_,rfl⟩;have HN:=hid hN;clear hrl hN;obtain ⟨wq,rfl⟩:∃ wq:World,wq=wr:=⟨_,rfl⟩;have hown0:(wq.alloc (.cells #[.int .i64 (d:Nat)] 2)).ownsRow wq.heap.size 2 1 (.slice (some ⟨wq.heap.size,0,none⟩) 1 1) 1 (digs [d]):=World.ownsRow_lit wq #[.int .i64 (d:Nat)] 1 (Nat.le_refl _) (by unfold maxLen;omega) rfl;have HO0:=hid hown0;have HRD:=hid hv6.o;clear hown0
   go_upto_region 7 with (fail)
   go_cut [8] (fun v wx=>∃ g k cp,v=.slice (some ⟨g,0,none⟩) k cp∧Hid (Fresh wq N g k cp wx))
   case first =>
    cases ar with
    | none =>
     obtain rfl:nr=0:=by
      rcases Nat.eq_zero_or_pos nr with h | h
      ·exact h
      ·have:=hv5.o h;cases this
     have hf:=fresh_of (w0:=wq) (r:=[]) Norm.nil hlt (by simp) (Below.alloc (Below.refl _ wq) (Nat.le_refl _) _) HO0.o;obtain ⟨g,cp,hg,-,CF⟩:=hf;obtain ⟨rfl,rfl⟩:wq.heap.size=g∧1=cp:=by simpa using hg
     have hr0:R=0:=by rw [←hv7.o,List.eq_nil_of_length_eq_zero hv4.o];rfl
     have HCF:=hid CF;have HR0:=hid hr0;clear CF hr0 hg
     go_wp2_with (first | (at_builtin;refine wpList_append_none0 rfl _ _ 41 rfl wq.heap.size 2 i0 1 Tryz.underlying41 hi (.slice (some ⟨wq.heap.size,0,none⟩) 1 1) 1 (digs [d]) rfl HO0.o cr rfl ?_) | (go_at_call 227;refine HCF.o.mono ?_;rintro e w1 ⟨k,rfl,hF⟩;have HF:=hid hF;clear hF))
     go_meet;refine ⟨_,_,_,rfl,?_⟩;rw [HN.o,HR0.o]
     exact HF
    | some p =>
     have hnews:Hid (∀ j u,(digs r)[j]?=some u→(wq.alloc (.cells #[.int .i64 (d:Nat)] 2)).cell? (p.add j)=some u):=hid fun i u hu=>by
      have hir:i<r.length:=by
       have:=(List.getElem?_eq_some_iff.1 hu).1
       rwa [digs_len] at this
      have hi':i<nr:=by rw [←hv4.o];exact hir
      obtain rfl:p=⟨br,or',none⟩:=Option.some.inj (hv5.o (by omega));have h1:=hv8.o i hi';have h2:(digs r)[i]?=some (.int .i64 (r.getD i 0:Nat)):=by
       simp only [digs,List.getElem?_map,List.getD_eq_getElem?_getD,List.getElem?_eq_getElem hir,Option.map_some,Option.getD_some]
      rw [h2] at hu
      cases hu
      rw [show (⟨br,or',none⟩:Addr).add i=⟨br,or'+i,none⟩ from by simp [Addr.add]]
      exact Ext.cell (Below.alloc (Below.refl _ wq) (Nat.le_refl _) _) h1
     have hdl:(digs r).length=nr*1:=by rw [digs_len,hv4.o,Nat.mul_one]
     have HDL:=hid hdl;have hone:Hid (∀ u∈digs r,u.oneCell'=true):=hid fun u hu=>by
      obtain ⟨z,_,rfl⟩:=List.mem_map.1 hu;rfl
     clear hdl;have CG:Hid (∀ v' w3,w3.ownsRow wq.heap.size 2 1 v' (1+nr) (digs [d]++digs r)→(wq.alloc (.cells #[.int .i64 (d:Nat)] 2)).grownBy w3 (Value.ownBlock (.slice (some ⟨wq.heap.size,0,none⟩) 1 1)) →
       ∃ g cp,v'=.slice (some ⟨g,0,none⟩) (1+nr) cp∧(Calls Tryz.prog 227 #[.slice (some ⟨g,0,none⟩) (1+nr) cp] w3 fun e w'=>∃ k,e=.returned (.slice (some ⟨g,0,none⟩) k cp)∧Hid (Fresh wq N g k cp w'))):=hid fun v' w3 h1 h2=>by
      rw [digs_append] at h1;obtain ⟨g,cp,h3,-,h4⟩:=fresh_of (w0:=wq) (r:=r) HRD.o hlt (by rw [hv4.o];omega) (Below.grown (Below.alloc (Below.refl _ wq) (Nat.le_refl _) _) h2 (by simp) (fun k hk=>(HO0.o.lt k hk).1)) h1;refine ⟨g,cp,h3,h4.mono ?_⟩;rintro e w' ⟨k,rfl,hF⟩;refine ⟨k,rfl,?_⟩;rw [HN.o,←hv7.o]
      exact hF
     go_wp2_with (first | (at_builtin;refine wpList_append_own _ rfl _ _ 41 rfl wq.heap.size 2 i0 (.int .i64 0) 1 8 Tryz.underlying41 hi hz0 hz1 hz2 rfl (by decide) (.slice (some ⟨wq.heap.size,0,none⟩) 1 1) 1 (digs [d]) rfl HO0.o p nr cr (digs r) rfl HDL.o hnews.o hone.o (by unfold maxLen;omega) (by omega) (by simp) ?_;intro v' w3 hown' hgrow3 hnil3;obtain ⟨g,cp,hveq,CF⟩:=CG.o _ _ hown' hgrow3;subst hveq;have HCF:=hid CF;clear CF hgrow3 hown' hnil3) | (go_at_call 227;refine HCF.o.mono ?_;rintro e w1 ⟨k,rfl,HF⟩))
     go_meet
     exact ⟨_,_,_,rfl,HF⟩
   case rest =>
    obtain ⟨g,k,cp,rfl,HF⟩:=hcut;clear HO0 HRD hv9 hv8 hv2 hv3 hv5 HV;obtain ⟨wd,rfl⟩:∃ x,x=wc:=⟨_,rfl⟩;have HED:=hid (HE.o.trans HF.o.2.1);have SN:Hid (Sm (K+30) N):=hid (by
     have h1:R<2^K:=Nat.lt_trans HR.o.hr SB.o;have h2:N<1000000000*(R+1):=by rw [HN.o];omega
     have h3:1000000000*(R+1)≤2^30*2^K:=Nat.mul_le_mul (by decide) h1;unfold Sm;rw [Nat.pow_add,Nat.mul_comm];omega)
    have CC:Hid (∀ w u v,RefV w u N→RefV w v M→Calls Tryz.prog 177 #[u,v] w fun e w'=>e=.returned (.int .i64 (cmpN N M))∧Ext w w'):=hid fun w u v hu hv=>rcmp_c u v N M (K+30) w hu hv SN.o (SB.o.mono (by omega)) (by have:=HK.o;omega)
    rcases Nat.lt_or_ge N M with hNM | hNM
    ·have hcm:cmpN N M = -1:=cmpN_lt hNM;rw [hcm] at CC;have hdc:decide ((-1:Int)<0)=true:=by decide
     have HNM:=hid hNM;clear hcm hNM
     go_wp2_with (go_at_call 177;refine (CC.o _ _ _ HF.o.refv (HB.o.ext HED.o)).mono ?_;rintro e w1 ⟨rfl,hb1⟩;have HE1:=hid hb1;clear hb1)
     go_roundg j
     case measure=>exact Nat.lt_succ_self j
     case rel=>exact ⟨N,o,_,_,_,rfl,by go_num,by omega,hid (by rw [HN.o] at HNM ⊢;exact HR.o.stay (HF.o.2.1.trans HE1.o) Hn.o Hd2.o HNM.o),hid ((HF.o.refv).ext HE1.o)⟩
    ·obtain ⟨c,hc⟩:∃ c,c=cmpN N M:=⟨_,rfl⟩;rw [←hc] at CC;have hdc:decide (c<0)=false:=decide_eq_false (by
      rw [hc];unfold cmpN
      split
      ·omega
      ·split<;>omega)
     obtain ⟨l,hl1,hl2,hl3,hl4⟩:=HF.o.cell;have hNB:N<1000000000*M:=by
      have h1:=HR.o.hr;have h2:1000000000*(R+1)≤1000000000*M:=Nat.mul_le_mul_left _ h1;rw [HN.o];omega
     obtain ⟨q1,q2,q3,q4,q5,q6⟩:=guess (B:=1000000000) (by decide) Hy.o Hm.o hm0 hl1 (by rw [hl2,←HM.o];exact hNM) (by rw [hl2,←HM.o];exact hNB);rw [hl2,←HM.o] at q4 q5 q6;obtain ⟨t,ht⟩:∃ t,t=l.getD (m-1) 0:=⟨_,rfl⟩;obtain ⟨t2,ht2⟩:∃ t,t=l.getD m 0:=⟨_,rfl⟩;obtain ⟨u,hu⟩:∃ t,t=y.getD (m-1) 0:=⟨_,rfl⟩;obtain ⟨X,hX⟩:∃ X,X=t+1000000000*t2:=⟨_,rfl⟩;obtain ⟨Q,hQ⟩:∃ Q,Q=N/M:=⟨_,rfl⟩;rw [←ht,←ht2,←hu,←hX,←hQ] at q4 q5;rw [←hu] at q3;rw [←hQ] at q6;have lt1:t<1000000000:=by rw [ht];exact hl1.dig.get (by decide) _
     have lt2:t2<1000000000:=by rw [ht2];exact hl1.dig.get (by decide) _
     have ltu:u<1000000000:=by rw [hu];exact Hy.o.dig.get (by decide) _
     have HQ:=hid hQ;have HX:=hid hX;have HL4:Hid (∀ i,i<k→wd.cell? ⟨g,i,none⟩=some (.int .i64 (l.getD i 0:Nat))):=hid hl4;have HT:=hid ht;have HT2:=hid ht2;have HU:=hid hu;have HNM:=hid hNM;have HL3:=hid hl3;have Q4:=hid q4;have Q5:=hid q5;have Q6:=hid q6;rw [hl3] at q1 q2;clear hc hl1 hl2 hl3 hl4 hNB hNM ht ht2 hu hQ q4 q5 q6 hX;obtain ⟨wf,rfl⟩:∃ x,x=wd:=⟨_,rfl⟩
     go_upto_region 9 with (go_at_call 177;refine (CC.o _ _ _ HF.o.refv (HB.o.ext HED.o)).mono ?_;rintro e w1 ⟨rfl,hb1⟩;have HE1:=hid hb1;clear hb1)
     have hc1:=Ext.cell HE1.o (HL4.o (m-1) (by omega));rw [←HT.o] at hc1;have hi1:(0:Int)≤(m:Int)-1:=by omega
     have hi2:(m:Int)-1<(k:Int):=by omega
     go_upto_region 10 with (fail)
     have HEF:=hid (HED.o.trans HE1.o);have hXlt:X<1000000000000000000:=by have:=HX.o;omega
     go_upto_if 46 with (fail)
     go_cut [10] (fun v wx=>v=.int .i64 (X:Nat)∧Hid (Ext w1 wx))
     case first =>
      rcases (show k=m∨k=m+1 by omega) with hk | hk
      ·have hd1:decide ((m:Int)<(k:Int))=false:=decide_eq_false (by omega);have EX:Hid ((t:Int)=(X:Int)):=hid <| by
        have h1:t2=0:=by rw [HT2.o];exact getD_ge (by rw [HL3.o];omega)
        have:=HX.o
        omega
       clear hi2
       first | rw [hd1] | rw [show decide (m<k)=false from decide_eq_false (by omega)] | rw [show decide (m<k)=true from decide_eq_true (by omega)]
       repeat (first | go_step | go_upon)
       go_meet
       exact ⟨vint EX.o,hid (Below.refl _ _)⟩
      ·have hd1:decide ((m:Int)<(k:Int))=true:=decide_eq_true (by omega);have hc2:=Ext.cell HE1.o (HL4.o m (by omega));rw [←HT2.o] at hc2;have hi3:(0:Int)≤(m:Int):=by omega
       have hi4:(m:Int)<(k:Int):=by omega
       have EX:Hid ((t:Int)+1000000000*(t2:Int)=(X:Int)):=hid <| by
        have:=HX.o
        omega
       first | rw [hd1] | rw [show decide (m<k)=false from decide_eq_false (by omega)] | rw [show decide (m<k)=true from decide_eq_true (by omega)]
       repeat (first | go_step | go_upon)
       go_meet
       exact ⟨vint EX.o,hid (Below.refl _ _)⟩
     case rest =>
      obtain ⟨rfl,HEc⟩:=hcut;obtain ⟨w2,rfl⟩:∃ x,x=wc:=⟨_,rfl⟩;replace HE1:=hid (HE1.o.trans HEc.o);replace HEF:=hid (HEF.o.trans HEc.o);clear HEc hc1 q1 q2;have hcb:=Ext.cell HEF.o (Hcy.o (m-1) (by omega));rw [←HU.o] at hcb;have hu1:(1:Int)≤(u:Int):=by omega
      have hj2:(m:Int)-1<(m:Int):=by omega
      go_upto_region 12 with (fail)
      have hwm:IntKind.i64.wrap ((m:Int)-1)=(m:Int)-1:=IntWalk.i64_in _ (by omega);have hwu:IntKind.i64.wrap ((u:Int)+1)=(u:Int)+1:=IntWalk.i64_in _ (by omega);have hwx:IntKind.i64.wrap ((X:Int)+1)=(X:Int)+1:=IntWalk.i64_in _ (by omega);have hm1:(1:Int)≤(m:Int):=by omega
      go_quiet (fail)
      obtain ⟨lo0,hlo0⟩:∃ a,a=X/(u+1):=⟨_,rfl⟩;obtain ⟨hi0,hhi0⟩:∃ a,a=min ((X+1)/u) 999999999:=⟨_,rfl⟩;have E1:wrap64 ((X:Int)/((u:Int)+1))=((lo0:Nat):Int):=by
       have h1:((lo0:Nat):Int)=(X:Int)/((u:Int)+1):=by rw [hlo0,Int.natCast_ediv];rfl
       have h2:lo0≤X:=by rw [hlo0];exact Nat.div_le_self _ _
       rw [←h1]
       exact w64r _ (by omega)
      have E2:min (((X:Int)+1)/(u:Int)) 999999999=((hi0:Nat):Int):=by
       have h1:((X:Int)+1)/(u:Int)=(((X+1)/u:Nat):Int):=by rw [Int.natCast_ediv];rfl
       rw [h1,hhi0];generalize (X+1)/u=z
       omega
      rw [E1,E2];have l1:lo0≤Q:=by rw [hlo0];exact Q4.o
      have l2:Q≤hi0:=by have h1:=Q5.o;have h2:=Q6.o;omega
      have l3:hi0≤999999999:=by omega
      have HQ0:0<Q:=by rw [HQ.o];exact Nat.div_pos HNM.o hM0
      clear hcb hwm hwu hwx hlo0 hhi0 E1 E2 hu1 hXlt Q4 Q5;have HEW:=hid (below_drewN (HE1.o) nq);have CP:Hid (∀ w v d,RefV w v d→d≤999999999→RefV w (.slice (some ⟨bb,ob,none⟩) m cb) M→Calls Tryz.prog 180 #[.slice (some ⟨bb,ob,none⟩) m cb,v] w fun e w'=>∃ a k cap,e=.returned (.slice a k cap)∧Hid (RefV w' (.slice a k cap) (M*d))∧Ext w w'):=hid fun w v d h1 h2 h3=>rmul_c _ v M d (K+30) w h3 h1 (SB.o.mono (by omega)) (Nat.lt_of_lt_of_le (show d<2^30 by omega) (Nat.pow_le_pow_right (by decide) (by omega))) (by have:=HK.o;omega);have CC2:Hid (∀ w u v d,d≤999999999→RefV w u (M*d)→RefV w v N→Calls Tryz.prog 177 #[u,v] w fun e w'=>e=.returned (.int .i64 (cmpN (M*d) N))∧Ext w w'):=hid fun w u v d h1 hu hv=>rcmp_c u v (M*d) N (K+30) w hu hv (by
       have h2:M<2^K:=SB.o;have h3:M*d<2^K*2^30:=Nat.mul_lt_mul'' h2 (by omega);unfold Sm;rw [Nat.pow_add];exact h3) SN.o (by have:=HK.o;omega)
      obtain ⟨wh,hwh⟩:∃ x,x=w2.drewN nq:=⟨_,rfl⟩;rw [←hwh] at HEW ⊢;clear hwh
      go_upto_block 2 with (fail)
      go_cut [11,12,13] (fun a b d wx=>a=.int .i64 (Q:Nat)∧(∃ hi:Nat,b=.int .i64 (hi:Nat))∧Hid (Ext wf wx))
      case first =>
       go_wp2_with fail
       go_loopw [11,12] (fun a b wx=>∃ lo hi:Nat,a=.int .i64 (lo:Nat)∧b=.int .i64 (hi:Nat)∧lo≤Q∧Q≤hi∧hi≤999999999∧Hid (Ext wf wx)) (fun a b _=>(intOf b).toNat-(intOf a).toNat)
       case atStart=>exact ⟨lo0,hi0,rfl,rfl,l1,l2,l3,HEW⟩
       case round =>
        clear l1 l2 l3 HEW HE1 HEF;obtain ⟨lo,hi,rfl,rfl,l1,l2,l3,HEX⟩:=hrel;have HFX:=hid (HF.o.ext HEX.o);have HEB:=hid (HED.o.trans HEX.o);have hszX:=HEX.o.size
        rcases Nat.lt_or_ge lo hi with hlh | hlh
        ·have hd2:decide ((lo:Int)<(hi:Int))=true:=decide_eq_true (by omega);obtain ⟨mid,hmid⟩:∃ a,a=(lo+hi+1)/2:=⟨_,rfl⟩;have hmi:((lo:Int)+(hi:Int)+1)/2=((mid:Nat):Int):=by omega
         have hm2:mid≤999999999:=by omega
         have HMI:=hid hmi;have hmlo:lo<mid:=by omega
         have hmhi:mid≤hi:=by omega
         clear hmid hmi;obtain ⟨cc,hcc⟩:∃ a,a=cmpN (M*mid) N:=⟨_,rfl⟩;have CC3:Hid (∀ w u v,RefV w u (M*mid)→RefV w v N→Calls Tryz.prog 177 #[u,v] w fun e w'=>e=.returned (.int .i64 cc)∧Ext w w'):=hid fun w u v=>by rw [hcc];exact CC2.o w u v mid hm2
         have hle:decide (cc≤0)=decide (mid≤Q):=by
          rw [hcc,cmpN_le,HQ.o,decide_eq_decide,Nat.le_div_iff_mul_le hM0,Nat.mul_comm]
         clear hcc
         rcases Nat.lt_or_ge Q mid with hqm | hqm
         ·have hd3:decide (cc≤0)=false:=by rw [hle];exact decide_eq_false (by omega)
          clear hle
          go_wp2_with (first | (go_at_call 180;refine (CP.o _ _ mid (refv_oneI _ _ mid HMI.o (by omega) (by omega)) hm2 (HB.o.ext (HEB.o.trans (Below.alloc (Below.refl _ _) (Nat.le_refl _) _)))).mono ?_;rintro e w3 ⟨a3,n3,c3,rfl,HP3,hg3⟩;have HG3:=hid (Ext.trans (Below.alloc (Below.refl _ _) (Nat.le_refl _) _) hg3);clear hg3) | (go_at_call 177;refine (CC3.o _ _ _ HP3.o (HFX.o.refv.ext HG3.o)).mono ?_;rintro e w4 ⟨rfl,hg4⟩;have HG4:=hid hg4;clear hg4))
          go_roundw
          case measure=>simp [intOf];omega
          case rel=>exact ⟨lo,mid-1,rfl,vint (by have:=HMI.o;omega),l1,by omega,by omega,hid (HEX.o.trans (HG3.o.trans HG4.o))⟩
         ·have hd3:decide (cc≤0)=true:=by rw [hle];exact decide_eq_true (by omega)
          clear hle
          go_wp2_with (first | (go_at_call 180;refine (CP.o _ _ mid (refv_oneI _ _ mid HMI.o (by omega) (by omega)) hm2 (HB.o.ext (HEB.o.trans (Below.alloc (Below.refl _ _) (Nat.le_refl _) _)))).mono ?_;rintro e w3 ⟨a3,n3,c3,rfl,HP3,hg3⟩;have HG3:=hid (Ext.trans (Below.alloc (Below.refl _ _) (Nat.le_refl _) _) hg3);clear hg3) | (go_at_call 177;refine (CC3.o _ _ _ HP3.o (HFX.o.refv.ext HG3.o)).mono ?_;rintro e w4 ⟨rfl,hg4⟩;have HG4:=hid hg4;clear hg4))
          go_roundw
          case measure=>simp [intOf];omega
          case rel=>exact ⟨mid,hi,vint HMI.o,rfl,hqm,l2,l3,hid (HEX.o.trans (HG3.o.trans HG4.o))⟩
        ·have hd2:decide ((lo:Int)<(hi:Int))=false:=decide_eq_false (by omega)
         go_upto_if 73 with (fail)
         first | rw [hd2] | rw [show decide (lo<hi)=false from decide_eq_false (by omega)]
         repeat (first | go_step | go_upon)
         go_meet
         exact ⟨vint (by omega),⟨hi,rfl⟩,HEX⟩
      case rest =>
       obtain ⟨rfl,⟨hi1,rfl⟩,HEX⟩:=hcut;obtain ⟨wj,rfl⟩:∃ x,x=wc:=⟨_,rfl⟩;have HFX:=hid (HF.o.ext HEX.o);have HW:=hid (Ext.trans HF.o.2.1 HEX.o);have HOX:=hid (HR.o.own.ext' HW.o);have hcq:=HOX.o.cell (k:=j) (by omega);have hfq:=HOX.o.free j;have HST:=hid (HR.o.step HW.o Hn.o Hd2.o hlt (Q:Int) (by rw [←HN.o,←HQ.o]));have HRV:=hid (HFX.o.setCell (b:=w.heap.size) (i:=j) (cell_lt HR.o.own.row) (.int .i64 (Q:Int)));have HES:=hid HST.o.own.ext;have CD:Hid (∀ w u v,RefV w u N→RefV w v (M*Q)→Calls Tryz.prog 182 #[u,v] w fun e w'=>∃ a k cap,e=.returned (.slice a k cap)∧Hid (RefV w' (.slice a k cap) (N-M*Q))∧Ext w w'):=hid fun w u v hu hv=>rdif_c u v N (M*Q) (K+30) w hu hv SN.o (by have:=HK.o;omega) (by rw [HQ.o];exact Nat.mul_div_le N M);have hQ9:Q≤999999999:=by have:=Q6.o;omega
       go_upto_region 19 with (fail)
       obtain ⟨wk,hwk⟩:∃ x,x=wj.setCell ⟨w.heap.size,j,none⟩ (.int .i64 (Q:Int)):=⟨_,rfl⟩;rw [←hwk] at HST HRV HES ⊢;clear hwk hcq hfq;have hszK:=HES.o.size
       go_upto_region 6 with (first | (go_at_call 180;refine (CP.o _ _ Q (refv_oneI _ _ Q rfl HQ0 (by omega)) hQ9 (HB.o.ext (HES.o.trans (Below.alloc (Below.refl _ _) (Nat.le_refl _) _)))).mono ?_;rintro e w3 ⟨a3,n3,c3,rfl,HP3,hg3⟩;have HG3:=hid (Ext.trans (Below.alloc (Below.refl _ _) (Nat.le_refl _) _) hg3);clear hg3) | (go_at_call 182;refine (CD.o _ _ _ (HRV.o.ext HG3.o) HP3.o).mono ?_;rintro e w4 ⟨a4,n4,c4,rfl,HD4,hg4⟩;have HG4:=hid hg4;clear hg4))
       go_wp2_with fail
       go_roundg j
       case measure=>exact Nat.lt_succ_self j
       case rel=>exact ⟨N%M,_,_,_,_,rfl,by go_num,by omega,hid (by rw [HN.o];exact HST.o.ext (HG3.o.trans HG4.o)),hid (by
        have h1:=HD4.o;rw [HQ.o] at h1;have h2:N-M*(N/M)=N%M:=by have:=Nat.div_add_mod N M;omega
        rwa [h2] at h1)⟩
theorem rdiv_c (x y:Value) (M N K:Nat) (w:World) (hx:RefV w x M) (hy:RefV w y N) (sx:Sm K M) (sy:Sm K N) (hK:K≤50000000) (h0:0<N) :
  Calls Tryz.prog 226 #[x,y] w fun e w'=>∃ a k cap a' k' cap',e=.returned (.tuple #[.slice a k cap,.slice a' k' cap'])∧RefV w' (.slice a k cap) (M/N)∧RefV w' (.slice a' k' cap') (M%N)∧Ext w w':=by
 obtain ⟨a,b,off,n,cap,l,rfl,h1,h2,h3,h4,h5,h6,h7,h8⟩:=hx.open;have hy0:=hy;obtain ⟨a',b',off',n',cap',l',rfl,h1',h2',h3',h4',h5',h6',h7',h8'⟩:=hy.open;have e1:=sx.rlen h5.o h6.o;have e2:=sy.rlen h5'.out h6'.out;rw [h3.o] at e1;rw [h3'.out] at e2;have hn0:0<n':=by
  rcases Nat.eq_zero_or_pos n' with h | h
  ·have:=hy0.len0.1 h;omega
  ·exact h
 have:=rdiv_core a a' b off cap b' off' cap' l l' n n' K w h3 h3' (by omega) (by omega) hn0 h4 h4' h5 h5' h7 h7' (hid (by rw [h6'.out];exact hy0)) (hid (by rw [h6'.out];exact sy)) (hid hK)
 rw [h6.o,h6'.out] at this
 exact this
structure DvA (A B x y t:Nat):Prop where
 x0:0<x
 y0:0<y
 g:Nat.gcd A B=2^t*Nat.gcd x y
 xa:x*2^t≤A
 yb:y≤B
theorem DvA.step {A B x y t:Nat} (h:DvA A B x y t) (hx:x%2=0) (hy:y%2=0):DvA A B (x/2) (y/2) (t+1):=by
 have h1:=h.x0;have h2:=h.y0;have h3:=h.yb;refine ⟨by omega,by omega,?_,?_,by omega⟩
 ·rw [h.g,gcd_halves hx hy,Nat.pow_succ,Nat.mul_assoc]
 ·have h4:=h.xa;have h5:x/2*2*2^t≤x*2^t:=Nat.mul_le_mul_right _ (by omega);rw [Nat.pow_succ',←Nat.mul_assoc];omega
theorem DvA.few {A B x y t K:Nat} (h:DvA A B x y t) (hA:A<2^K):t<K:=by
 have h1:1*2^t≤x*2^t:=Nat.mul_le_mul_right _ h.x0;have h2:=h.xa
 rcases Nat.lt_or_ge t K with h3 | h3
 ·exact h3
 ·have:2^K≤2^t:=Nat.pow_le_pow_right (by decide) h3
  omega
structure DvB (K G x y:Nat):Prop where
 y0:0<y
 g:Nat.gcd x y=G
 xk:x<2^K
 yk:y<2^K
 odd:G%2=1
theorem DvB.halfX {K G x y:Nat} (h:DvB K G x y) (hx:x%2=0):DvB K G (x/2) y:=by
 have h1:=h.xk
 exact ⟨h.y0,by rw [gcd_half_odd hx (by rw [h.g];exact h.odd),h.g],by omega,h.yk,h.odd⟩
theorem DvB.halfY {K G x y:Nat} (h:DvB K G x y) (hy:y%2=0):DvB K G x (y/2):=by
 have h1:=h.yk;have h2:=h.y0;refine ⟨by omega,?_,h.xk,by omega,h.odd⟩;rw [Nat.gcd_comm,gcd_half_odd hy (by rw [Nat.gcd_comm,h.g];exact h.odd),Nat.gcd_comm,h.g]
theorem DvB.less {K G x y:Nat} (h:DvB K G x y) (hle:y≤x):DvB K G (x-y) y:=by
 have h1:=h.xk
 exact ⟨h.y0,by rw [gcd_less hle,h.g],by omega,h.yk,h.odd⟩
theorem DvB.turn {K G x y:Nat} (h:DvB K G x y) (h0:0<x):DvB K G y x:=⟨h0,by rw [Nat.gcd_comm,h.g],h.yk,h.xk,h.odd⟩
theorem DvB.one {K G x:Nat} (h:DvB K G x 1):1=G:=by rw [←h.g];exact (Nat.gcd_one_right x).symm
theorem DvB.nought {K G y:Nat} (h:DvB K G 0 y):y=G:=by rw [←h.g];exact (Nat.gcd_zero_left y).symm
theorem DvA.to {A B x y t K:Nat} (h:DvA A B x y t) (ho:x%2=1∨y%2=1) (hA:A<2^K) (hB:B<2^K):DvB K (Nat.gcd x y) x y:=by
 have h1:=h.yb;have h2:=h.xa;have h3:x*1≤x*2^t:=Nat.mul_le_mul_left _ (Nat.pow_pos (by decide));refine ⟨h.y0,rfl,by omega,by omega,?_⟩
 rcases ho with h4 | h4
 ·exact odd_of_dvd (Nat.gcd_dvd_left _ _) h4
 ·exact odd_of_dvd (Nat.gcd_dvd_right _ _) h4
theorem RefV.n1 {w:World} {a:Option Addr} {n c:Nat} (h:RefV w (.slice a n c) 1):n=1:=by
 have h0:=h.len0;obtain ⟨a',b,off,n',cap,l,h1,_,_,h4,_,h6,h7,_,_⟩:=h.open;obtain ⟨rfl,rfl,rfl⟩:a=a'∧n=n'∧c=cap:=by simpa using h1
 have h8:l.length≤1:=rlen_le h6.o (by rw [h7.o];decide);have h9:=h4.o
 omega
theorem RefV.cell1 {w:World} {a:Option Addr} {c Q:Nat} (h:RefV w (.slice a 1 c) Q):∃ b off,a=some ⟨b,off,none⟩∧w.cell? ⟨b,off,none⟩=some (.int .i64 (Q:Nat)):=by
 obtain ⟨a',b,off,n',cap,l,h1,_,_,h4,h5,h6,h7,h8,_⟩:=h.open;obtain ⟨rfl,rfl,rfl⟩:a=a'∧1=n'∧c=cap:=by simpa using h1
 refine ⟨b,off,h5.o (by decide),?_⟩;have h9:=h8.o 0 (by decide);rw [Nat.add_zero] at h9;rw [h9];have h10:=h4.o
 match l,h10 with
 | [d],_ =>
  have h11:=h7.o;rw [dv_cons,dv_nil,Nat.mul_zero,Nat.add_zero] at h11;rw [←h11];rfl
theorem rgcd_core (a b:Option Addr) (n c n' c' A B K:Nat) (w:World) (HA:Hid (RefV w (.slice a n c) A)) (HB:Hid (RefV w (.slice b n' c') B)) (SA:Hid (Sm K A)) (SB:Hid (Sm K B)) (HK:Hid (K≤30000000)) (hK:K≤30000000) (hB:0<B) :
  Calls Tryz.prog 225 #[.slice a n c,.slice b n' c'] w fun e w'=>∃ a k cap,e=.returned (.slice a k cap)∧Hid (RefV w' (.slice a k cap) (Nat.gcd A B))∧Ext w w':=by
 have CD:=hid (rdiv_c _ _ A B K w HA.o HB.o SA.o SB.o (by omega) hB);have CH:Hid (∀ w v m,m<2^K→RefV w v m→Calls Tryz.prog 260 #[v] w fun e w'=>∃ a k cap,e=.returned (.slice a k cap)∧Hid (RefV w' (.slice a k cap) (m/2))∧Ext w w'):=hid fun w v m h1 h2=>rhalf_c v m K w h2 h1 (by omega)
 go_enter Tryz.func225,Tryz.ntmps225
 go_upto_region 2 with (go_at_call 226;refine CD.o.mono ?_;rintro e w1 ⟨q1,q2,q3,a1,n1,c1,rfl,hq,hr,hb1⟩;have HE1:=hid hb1;have HR:=hid hr;clear hq hr hb1)
 obtain ⟨R,hR⟩:∃ R,R=A%B:=⟨_,rfl⟩;rw [←hR] at HR;have HG:Hid (Nat.gcd A B=Nat.gcd R B):=hid (by rw [hR,Nat.gcd_comm A B,Nat.gcd_rec,Nat.gcd_comm]);have SR:Hid (R<B):=hid (by rw [hR];exact Nat.mod_lt _ hB);clear hR;have hlen:=HR.o.len0
 rcases Nat.eq_zero_or_pos R with h0 | h0
 ·obtain rfl:n1=0:=hlen.2 h0;have H0:=hid h0;clear hlen h0;go_wp2_with fail;go_ret;refine ⟨_,_,_,rfl,hid ?_,HE1.o⟩;rw [HG.o,H0.o,Nat.gcd_zero_left]
  exact HB.o.ext HE1.o
 ·have hn1:((n1:Int)==0)=false:=by simp;intro e;have:=hlen.1 e;omega
  clear hlen;have HRK:Hid (R<2^K):=hid (Nat.lt_trans SR.o SB.o)
  go_upto_block 0 with (fail)
  go_cut [0,1,5] (fun x y t wx=>∃ (a:Option Addr) (n c:Nat) (a':Option Addr) (n' c' X Y T:Nat),x=.slice a n c∧y=.slice a' n' c'∧t=.int .i64 (T:Nat)∧Hid (DvA R B X Y T)∧Hid (X%2=1∨Y%2=1)∧Hid (RefV wx (.slice a n c) X)∧Hid (RefV wx (.slice a' n' c') Y)∧Hid (Ext w wx))
  case first =>
   go_wp2_with fail
   go_loopg [0,1,5] R (fun g x y t wx=>∃ (a:Option Addr) (n c:Nat) (a':Option Addr) (n' c' Y T:Nat),x=.slice a n c∧y=.slice a' n' c'∧t=.int .i64 (T:Nat)∧Hid (DvA R B g Y T)∧Hid (RefV wx (.slice a n c) g)∧Hid (RefV wx (.slice a' n' c') Y)∧Hid (Ext w wx))
   case atStart=>exact ⟨_,_,_,_,_,_,B,0,rfl,rfl,rfl,hid ⟨h0,hB,by simp,by simp,Nat.le_refl _⟩,HR,hid (HB.o.ext HE1.o),HE1⟩
   case round =>
    clear HR hn1 h0;obtain ⟨a2,n2,c2,a3,n3,c3,Y,T,rfl,rfl,rfl,HD,HX,HY,HE⟩:=hrel;have hT:T<K:=HD.o.few HRK.o;have hx0:=HD.o.x0
    rcases (show gk%2=1∨gk%2=0 by omega) with hgx | hgx
    ·have CO:Hid (∀ w,RefV w (.slice a2 n2 c2) gk→Calls Tryz.prog 259 #[.slice a2 n2 c2] w fun e w'=>e=.returned (.bool true)∧Ext w w'):=hid fun w h=>by
      have:=rodd_c _ gk w h
      rwa [decide_eq_true hgx] at this
     have HGX:=hid hgx;clear hgx
     go_wp2_with (go_at_call 259;refine (CO.o _ HX.o).mono ?_;rintro e w2 ⟨rfl,hb2⟩;have HB2:=hid hb2;clear hb2)
     go_meet
     exact ⟨_,_,_,_,_,_,_,_,_,rfl,rfl,rfl,HD,hid (.inl HGX.o),hid (HX.o.ext HB2.o),hid (HY.o.ext HB2.o),hid (HE.o.trans HB2.o)⟩
    ·have CO:Hid (∀ w,RefV w (.slice a2 n2 c2) gk→Calls Tryz.prog 259 #[.slice a2 n2 c2] w fun e w'=>e=.returned (.bool false)∧Ext w w'):=hid fun w h=>by
      have:=rodd_c _ gk w h
      rwa [decide_eq_false (by omega)] at this
     have HGX:=hid hgx;clear hgx
     rcases (show Y%2=1∨Y%2=0 by omega) with hgy | hgy
     ·have CP:Hid (∀ w,RefV w (.slice a3 n3 c3) Y→Calls Tryz.prog 259 #[.slice a3 n3 c3] w fun e w'=>e=.returned (.bool true)∧Ext w w'):=hid fun w h=>by
       have:=rodd_c _ Y w h
       rwa [decide_eq_true hgy] at this
      have HGY:=hid hgy;clear hgy;go_wp2_with fail;refine (CO.o _ HX.o).mono ?_;rintro e w2 ⟨rfl,hb2⟩;have HB2:=hid hb2;clear hb2;go_wp2_with fail;refine (CP.o _ (HY.o.ext HB2.o)).mono ?_;rintro e w3 ⟨rfl,hb3⟩;have HB3:=hid hb3;clear hb3;go_wp2_with fail;go_meet
      exact ⟨_,_,_,_,_,_,_,_,_,rfl,rfl,rfl,HD,hid (.inr HGY.o),hid (HX.o.ext (HB2.o.trans HB3.o)),hid (HY.o.ext (HB2.o.trans HB3.o)),hid (HE.o.trans (HB2.o.trans HB3.o))⟩
     ·have CP:Hid (∀ w,RefV w (.slice a3 n3 c3) Y→Calls Tryz.prog 259 #[.slice a3 n3 c3] w fun e w'=>e=.returned (.bool false)∧Ext w w'):=hid fun w h=>by
       have:=rodd_c _ Y w h
       rwa [decide_eq_false (by omega)] at this
      have HGY:=hid hgy;have HXK:Hid (gk<2^K):=hid (by
       have h1:gk*1≤gk*2^T:=Nat.mul_le_mul_left _ (Nat.pow_pos (by decide))
       have:=HD.o.xa
       have:=HRK.o
       omega)
      have HYK:Hid (Y<2^K):=hid (Nat.lt_of_le_of_lt HD.o.yb SB.o);clear hgy;go_wp2_with fail;refine (CO.o _ HX.o).mono ?_;rintro e w2 ⟨rfl,hb2⟩;have HB2:=hid hb2;clear hb2;go_wp2_with fail;refine (CP.o _ (HY.o.ext HB2.o)).mono ?_;rintro e w3 ⟨rfl,hb3⟩;have HB3:=hid hb3;clear hb3;go_wp2_with fail;refine (CH.o _ _ gk HXK.o (HX.o.ext (HB2.o.trans HB3.o))).mono ?_;rintro e w4 ⟨a4,n4,c4,rfl,HX4,hb4⟩;have HB4:=hid hb4;clear hb4;go_wp2_with fail;refine (CH.o _ _ Y HYK.o (HY.o.ext (HB2.o.trans (HB3.o.trans HB4.o)))).mono ?_;rintro e w5 ⟨a5,n5,c5,rfl,HY5,hb5⟩;have HB5:=hid hb5;clear hb5;go_wp2_with fail
      go_roundg (gk/2)
      case measure=>omega
      case rel=>exact ⟨_,_,_,_,_,_,Y/2,T+1,rfl,rfl,by go_num,hid (HD.o.step HGX.o HGY.o),hid (HX4.o.ext HB5.o),HY5,hid (HE.o.trans (HB2.o.trans (HB3.o.trans (HB4.o.trans HB5.o))))⟩
  case rest =>
   obtain ⟨a2,n2,c2,a3,n3,c3,X,Y,T,rfl,rfl,rfl,HD,HO,HX,HY,HE⟩:=hcut;obtain ⟨wd,rfl⟩:∃ x,x=wc:=⟨_,rfl⟩;have HT:T<K:=HD.o.few HRK.o;obtain ⟨G,hG⟩:∃ G,G=Nat.gcd X Y:=⟨_,rfl⟩;have HD2:Hid (DvB K G X Y):=hid (by rw [hG];exact HD.o.to HO.o HRK.o SB.o);have HGG:Hid (Nat.gcd A B=2^T*G):=hid (by rw [HG.o,HD.o.g,hG]);have HGK:Hid (2^T*G<2^K):=hid (by
    rw [←HGG.o]
    exact Nat.lt_of_le_of_lt (Nat.gcd_le_right _ hB) SB.o)
   clear hG HD HO HR hn1 h0 CD HG SR HRK
   go_upto_block 2 with (fail)
   go_cut [1] (fun y wx=>∃ (a:Option Addr) (n c:Nat),y=.slice a n c∧Hid (RefV wx (.slice a n c) G)∧Hid (Ext w wx))
   case first =>
    go_wp2_with fail
    go_loopg [0,1] (X+Y) (fun g x y wx=>∃ (a:Option Addr) (n c:Nat) (a':Option Addr) (n' c' P Q:Nat),x=.slice a n c∧y=.slice a' n' c'∧g=P+Q∧Hid (DvB K G P Q)∧Hid (RefV wx (.slice a n c) P)∧Hid (RefV wx (.slice a' n' c') Q)∧Hid (Ext w wx))
    case atStart=>exact ⟨_,_,_,_,_,_,X,Y,rfl,rfl,rfl,HD2,HX,HY,HE⟩
    case round =>
     clear HD2 HX HY HE HT HGG HGK;obtain ⟨a4,n4,c4,a5,n5,c5,P,Q,rfl,rfl,hg,HD,HP,HQ,HE⟩:=hrel;have HGM:=hid hg;clear hg;have hlen:=HP.o.len0
     rcases Nat.eq_zero_or_pos P with h0 | h0
     ·obtain rfl:n4=0:=hlen.2 h0;have hd:decide ((0:Int)<0)=false:=by decide
      have H0:=hid h0;clear hlen h0;go_wp2_with fail;go_meet
      exact ⟨_,_,_,rfl,hid (by rw [←(show DvB K G 0 Q from by rw [←H0.o];exact HD.o).nought];exact HQ.o),HE⟩
     ·have hn4:0<n4:=by
       rcases Nat.eq_zero_or_pos n4 with h | h
       ·have:=hlen.1 h;omega
       ·exact h
      have hd:decide ((0:Int)<(n4:Int))=true:=decide_eq_true (by omega);clear hlen;obtain ⟨wo,rfl⟩:∃ x,x=wr:=⟨_,rfl⟩
      go_upto_block 4 with (fail)
      clear hd hn4
      go_cut [0] (fun x wx=>∃ (a:Option Addr) (n c P':Nat),x=.slice a n c∧0<P'∧P'≤P∧Hid (P'%2=1)∧Hid (DvB K G P' Q)∧Hid (RefV wx (.slice a n c) P')∧Hid (Ext wo wx))
      case first =>
       go_wp2_with fail
       go_loopg [0] P (fun g x wx=>∃ (a:Option Addr) (n c:Nat),x=.slice a n c∧0<g∧g≤P∧Hid (DvB K G g Q)∧Hid (RefV wx (.slice a n c) g)∧Hid (Ext wo wx))
       case atStart=>exact ⟨_,_,_,rfl,h0,Nat.le_refl _,HD,HP,hid (Below.refl _ _)⟩
       case round =>
        clear HD HP h0 HE;obtain ⟨a6,n6,c6,rfl,h0,h1,HD,HP,HE⟩:=hrel
        rcases (show gk%2=1∨gk%2=0 by omega) with hp | hp
        ·have CO:Hid (∀ w,RefV w (.slice a6 n6 c6) gk→Calls Tryz.prog 259 #[.slice a6 n6 c6] w fun e w'=>e=.returned (.bool true)∧Ext w w'):=hid fun w h=>by
          have:=rodd_c _ gk w h
          rwa [decide_eq_true hp] at this
         have H0:=hid hp;clear hp;go_wp2_with fail;refine (CO.o _ HP.o).mono ?_;rintro e w2 ⟨rfl,hb2⟩;have HB2:=hid hb2;clear hb2;go_wp2_with fail;go_meet
         exact ⟨_,_,_,gk,rfl,h0,h1,H0,HD,hid (HP.o.ext HB2.o),hid (HE.o.trans HB2.o)⟩
        ·have CO:Hid (∀ w,RefV w (.slice a6 n6 c6) gk→Calls Tryz.prog 259 #[.slice a6 n6 c6] w fun e w'=>e=.returned (.bool false)∧Ext w w'):=hid fun w h=>by
          have:=rodd_c _ gk w h
          rwa [decide_eq_false (by omega)] at this
         have H0:=hid hp;clear hp;go_wp2_with fail;refine (CO.o _ HP.o).mono ?_;rintro e w2 ⟨rfl,hb2⟩;have HB2:=hid hb2;clear hb2;go_wp2_with fail;refine (CH.o _ _ gk HD.o.xk (HP.o.ext HB2.o)).mono ?_;rintro e w3 ⟨a7,n7,c7,rfl,HP3,hb3⟩;have HB3:=hid hb3;clear hb3;go_wp2_with fail
         go_roundg (gk/2)
         case measure=>omega
         case rel=>exact ⟨_,_,_,rfl,by have:=H0.o;omega,by omega,hid (HD.o.halfX H0.o),HP3,hid (HE.o.trans (HB2.o.trans HB3.o))⟩
      case rest =>
       obtain ⟨a6,n6,c6,P1,rfl,hp0,hp1,HPO,HDa,HPa,HEa⟩:=hcut;obtain ⟨wp,rfl⟩:∃ x,x=wc:=⟨_,rfl⟩;have HQa:=hid (HQ.o.ext HEa.o);have HEb:=hid (HE.o.trans HEa.o);have hq0:=HDa.o.y0;clear HD HP HQ HE HEa
       go_upto_block 6 with (fail)
       go_cut [1] (fun x wx=>∃ (a:Option Addr) (n c Q':Nat),x=.slice a n c∧0<Q'∧Q'≤Q∧Hid (Q'%2=1)∧Hid (DvB K G P1 Q')∧Hid (RefV wx (.slice a n c) Q')∧Hid (Ext wp wx))
       case first =>
        go_wp2_with fail
        go_loopg [1] Q (fun g x wx=>∃ (a:Option Addr) (n c:Nat),x=.slice a n c∧0<g∧g≤Q∧Hid (DvB K G P1 g)∧Hid (RefV wx (.slice a n c) g)∧Hid (Ext wp wx))
        case atStart=>exact ⟨_,_,_,rfl,hq0,Nat.le_refl _,HDa,HQa,hid (Below.refl _ _)⟩
        case round =>
         clear HDa HQa hq0 HEb HPa;obtain ⟨a6,n6,c6,rfl,h0,h1,HD,HP,HE⟩:=hrel
         rcases (show gk%2=1∨gk%2=0 by omega) with hp | hp
         ·have CO:Hid (∀ w,RefV w (.slice a6 n6 c6) gk→Calls Tryz.prog 259 #[.slice a6 n6 c6] w fun e w'=>e=.returned (.bool true)∧Ext w w'):=hid fun w h=>by
           have:=rodd_c _ gk w h
           rwa [decide_eq_true hp] at this
          have H0:=hid hp;clear hp;go_wp2_with fail;refine (CO.o _ HP.o).mono ?_;rintro e w2 ⟨rfl,hb2⟩;have HB2:=hid hb2;clear hb2;go_wp2_with fail;go_meet
          exact ⟨_,_,_,gk,rfl,h0,h1,H0,HD,hid (HP.o.ext HB2.o),hid (HE.o.trans HB2.o)⟩
         ·have CO:Hid (∀ w,RefV w (.slice a6 n6 c6) gk→Calls Tryz.prog 259 #[.slice a6 n6 c6] w fun e w'=>e=.returned (.bool false)∧Ext w w'):=hid fun w h=>by
           have:=rodd_c _ gk w h
           rwa [decide_eq_false (by omega)] at this
          have H0:=hid hp;clear hp;go_wp2_with fail;refine (CO.o _ HP.o).mono ?_;rintro e w2 ⟨rfl,hb2⟩;have HB2:=hid hb2;clear hb2;go_wp2_with fail;refine (CH.o _ _ gk HD.o.yk (HP.o.ext HB2.o)).mono ?_;rintro e w3 ⟨a7,n7,c7,rfl,HP3,hb3⟩;have HB3:=hid hb3;clear hb3;go_wp2_with fail
          go_roundg (gk/2)
          case measure=>omega
          case rel=>exact ⟨_,_,_,rfl,by have:=H0.o;omega,by omega,hid (HD.o.halfY H0.o),HP3,hid (HE.o.trans (HB2.o.trans HB3.o))⟩
       case rest =>
        obtain ⟨a7,n7,c7,Q1,rfl,hq1,hq2,HQO,HDb,HQb,HEc⟩:=hcut;obtain ⟨wq,rfl⟩:∃ x,x=wc:=⟨_,rfl⟩;have HPb:=hid (HPa.o.ext HEc.o);have HEd:=hid (HEb.o.trans HEc.o);clear HDa HPa HQa HEb HEc hq0
        go_upto_region 13 with (fail)
        go_cut [52] (fun x wx=>x=.bool (decide (Q1=1))∧Hid (Ext wq wx))
        case first =>
         by_cases hn:n7=1
         ·subst hn;obtain ⟨bb,ob,rfl,hcell⟩:=HQb.o.cell1;have e1:decide ((Q1:Int)=1)=decide (Q1=1):=by rw [decide_eq_decide];omega
          have e2:((Q1:Int)==1)=decide (Q1=1):=by rw [←e1];rfl
          obtain ⟨bq,hbq⟩:∃ b,b=decide (Q1=1):=⟨_,rfl⟩;rw [←hbq] at e2;have HBQ:=hid hbq;clear e1 hbq;go_wp2_with fail;go_meet
          exact ⟨by rw [HBQ.o],hid (Below.refl _ _)⟩
         ·have hb:((n7:Int)==1)=false:=by simp;omega
          have hd:decide (Q1=1)=false:=decide_eq_false (fun e=>hn (RefV.n1 (by have:=HQb.o;rwa [e] at this)));go_wp2_with fail;go_meet
          exact ⟨by rw [hd],hid (Below.refl _ _)⟩
        case rest =>
         obtain ⟨rfl,HEe⟩:=hcut;obtain ⟨wu,rfl⟩:∃ x,x=wc:=⟨_,rfl⟩
         rcases Nat.lt_or_ge 1 Q1 with hq | hq
         ·have hd1:decide (Q1=1)=false:=decide_eq_false (by omega);have CC:Hid (∀ w u v,RefV w u P1→RefV w v Q1→Calls Tryz.prog 177 #[u,v] w fun e w'=>e=.returned (.int .i64 (cmpN P1 Q1))∧Ext w w'):=hid fun w u v h1 h2=>rcmp_c u v P1 Q1 K w h1 h2 HDb.o.xk HDb.o.yk (by have:=HK.o;omega);have CDF:Hid (∀ w u v m n,m<2^K→n≤m→RefV w u m→RefV w v n→Calls Tryz.prog 182 #[u,v] w fun e w'=>∃ a k cap,e=.returned (.slice a k cap)∧Hid (RefV w' (.slice a k cap) (m-n))∧Ext w w'):=hid fun w u v m n h1 h2 h3 h4=>rdif_c u v m n K w h3 h4 h1 (by have:=HK.o;omega) h2
          rcases Nat.lt_or_ge P1 Q1 with hlt | hge
          ·have hcm:cmpN P1 Q1 = -1:=cmpN_lt hlt;rw [hcm] at CC;have hdc:decide ((-1:Int)<0)=true:=by decide
           clear hcm;go_wp2_with fail;refine (CC.o _ _ _ (HPb.o.ext HEe.o) (HQb.o.ext HEe.o)).mono ?_;rintro e w2 ⟨rfl,hb2⟩;have HB2:=hid (HEe.o.trans hb2);clear hb2;go_wp2_with fail;refine (CDF.o _ _ _ Q1 P1 HDb.o.yk (Nat.le_of_lt hlt) (HQb.o.ext HB2.o) (HPb.o.ext HB2.o)).mono ?_;rintro e w3 ⟨a8,n8,c8,rfl,H8,hb3⟩;have HB3:=hid hb3;clear hb3;go_wp2_with fail
           go_roundg (Q1-P1+P1)
           case measure=>have:=HGM.o;omega
           case rel=>exact ⟨_,_,_,_,_,_,Q1-P1,P1,rfl,rfl,rfl,hid ((HDb.o.turn hp0).less (Nat.le_of_lt hlt)),H8,hid (HPb.o.ext (HB2.o.trans HB3.o)),hid (HEd.o.trans (HB2.o.trans HB3.o))⟩
          ·obtain ⟨cc,hcc⟩:∃ c,c=cmpN P1 Q1:=⟨_,rfl⟩;rw [←hcc] at CC;have hdc:decide (cc<0)=false:=decide_eq_false (by
            rw [hcc];unfold cmpN
            split
            ·omega
            ·split<;>omega)
           clear hcc;go_wp2_with fail;refine (CC.o _ _ _ (HPb.o.ext HEe.o) (HQb.o.ext HEe.o)).mono ?_;rintro e w2 ⟨rfl,hb2⟩;have HB2:=hid (HEe.o.trans hb2);clear hb2;go_wp2_with fail;refine (CDF.o _ _ _ P1 Q1 HDb.o.xk hge (HPb.o.ext HB2.o) (HQb.o.ext HB2.o)).mono ?_;rintro e w3 ⟨a8,n8,c8,rfl,H8,hb3⟩;have HB3:=hid hb3;clear hb3;go_wp2_with fail
           go_roundg (P1-Q1+Q1)
           case measure=>have:=HGM.o;omega
           case rel=>exact ⟨_,_,_,_,_,_,P1-Q1,Q1,rfl,rfl,rfl,hid (HDb.o.less hge),H8,hid (HQb.o.ext (HB2.o.trans HB3.o)),hid (HEd.o.trans (HB2.o.trans HB3.o))⟩
         ·obtain rfl:Q1=1:=by omega
          have hd1:decide ((1:Nat)=1)=true:=by decide
          go_wp2_with fail;go_meet
          exact ⟨_,_,_,rfl,hid (by rw [←HDb.o.one];exact HQb.o.ext HEe.o),hid (HEd.o.trans HEe.o)⟩
   case rest =>
    obtain ⟨a4,n4,c4,rfl,HY4,HE4⟩:=hcut;obtain ⟨wz,rfl⟩:∃ x,x=wc:=⟨_,rfl⟩;clear HD2 HX HY HE;have CS:Hid (∀ w v t,t<T→RefV w v (2^t*G)→Calls Tryz.prog 181 #[v,v] w fun e w'=>∃ a k cap,e=.returned (.slice a k cap)∧Hid (RefV w' (.slice a k cap) (2^(t+1)*G))∧Ext w w'):=hid fun w v t ht h=>by
     have hs:Sm K (2^t*G):=Nat.lt_of_le_of_lt (Nat.mul_le_mul_right _ (Nat.pow_le_pow_right (by decide) (Nat.le_of_lt ht))) HGK.o;have h2:=rsum_c v v _ _ K w h h hs hs (by have:=HK.o;omega);rw [show 2^t*G+2^t*G=2^(t+1)*G from by rw [Nat.pow_succ,Nat.mul_right_comm];omega] at h2
     exact h2
    go_wp2_with fail
    go_loopg [1,6] T (fun g y i wx=>∃ (a:Option Addr) (n c I:Nat),y=.slice a n c∧i=.int .i64 (I:Nat)∧g+I=T∧Hid (RefV wx (.slice a n c) (2^I*G))∧Hid (Ext w wx))
    case atStart=>exact ⟨_,_,_,0,rfl,by go_num,by omega,hid (by have:=HY4.o;simpa using this),HE4⟩
    case round =>
     clear HY4 HE4;obtain ⟨a5,n5,c5,I,rfl,rfl,hI,HY5,HE5⟩:=hrel
     rcases Nat.eq_zero_or_pos gk with h0 | h0
     ·obtain rfl:I=T:=by omega
      have hd:decide ((I:Int)<(I:Int))=false:=by simp
      clear hI;go_wp2_with fail;go_ret
      exact ⟨_,_,_,rfl,hid (by rw [HGG.o];exact HY5.o),HE5.o⟩
     ·have hIT:I<T:=by omega
      have hd:decide ((I:Int)<(T:Int))=true:=decide_eq_true (by omega);go_wp2_with fail;refine (CS.o _ _ I hIT HY5.o).mono ?_;rintro e w2 ⟨a6,n6,c6,rfl,HY6,hb2⟩;have HB2:=hid hb2;clear hb2;go_wp2_with fail
      go_roundg (gk-1)
      case measure=>omega
      case rel=>exact ⟨_,_,_,I+1,rfl,by go_num,by omega,HY6,hid (HE5.o.trans HB2.o)⟩
theorem rgcd_c (x y:Value) (A B K:Nat) (w:World) (hx:RefV w x A) (hy:RefV w y B) (sx:Sm K A) (sy:Sm K B) (hK:K≤30000000) (hB:0<B) :
  Calls Tryz.prog 225 #[x,y] w fun e w'=>∃ a k cap,e=.returned (.slice a k cap)∧RefV w' (.slice a k cap) (Nat.gcd A B)∧Ext w w':=by
 obtain ⟨a,n,c,rfl⟩:=hx.shape;obtain ⟨b,n',c',rfl⟩:=hy.shape
 exact rgcd_core a b n c n' c' A B K w (hid hx) (hid hy) (hid sx) (hid sy) (hid hK) hK hB
theorem cmpN_eq0 (a b:Nat):(cmpN a b==0)=decide (a=b):=by
 unfold cmpN
 by_cases h:a<b
 ·rw [if_pos h,decide_eq_false (by omega)];rfl
 ·rw [if_neg h]
  by_cases h2:b<a
  ·rw [if_pos h2,decide_eq_false (by omega)];rfl
  ·rw [if_neg h2,decide_eq_true (by omega)];rfl
theorem cmpN_ne0 (a b:Nat):(cmpN a b != 0) = !decide (a=b):=by rw [←cmpN_eq0];rfl
theorem rmade_c (s:Int) (x y:Value) (P Q K:Nat) (w:World) (hs:s=1∨s = -1∨s=0) (hx:RefV w x P) (hy:RefV w y Q) (sx:Sm K P) (sy:Sm K Q) (hK:K≤30000000) (hQ:0<Q) :
  Calls Tryz.prog 173 #[.int .i64 s,x,y] w fun e w'=>∃ v,e=.returned v∧RNumV w' v (mkRat (s*P) Q)∧Ext w w':=by
 obtain ⟨a,n,c,rfl⟩:=hx.shape;obtain ⟨b,m,d,rfl⟩:=hy.shape;have hlen:=hx.len0;have HS:=hid hs;have SX:=hid sx;have SY:=hid sy;have HK:=hid hK;have HQ:=hid hQ;have hvx:=hx;have hvy:=hy;clear hs sx sy hK hQ hx hy;obtain ⟨W0,hW0,g0,hz0,B_Z⟩:=pro1 w #[.int .i64 0,.slice none 0 0,.slice none 0 0] 43;have HE:=hid g0;have HB_Z:=hid B_Z;clear g0 B_Z 
 go_enter Tryz.func173,Tryz.ntmps173
 go_upto_region 1 with (fail)
 rw [←hW0];clear hW0;replace hvx:=hvx.ext HE.o;replace hvy:=hvy.ext HE.o
 by_cases h0:P=0
 ·obtain rfl:n=0:=hlen.2 h0;have H0:=hid h0;clear hlen h0;obtain ⟨J1,J2,J3⟩:=HB_Z.o.c3;obtain ⟨U4,U5,U6⟩:=HB_Z.o.f3;go_wp2_with fail;clear J1 J2 J3 U4 U5 U6;obtain ⟨W1,hW1,g1,q1,B1,hy1,ho1⟩:=rsto3 HE.o (by omega) HB_Z.o (by decide) (.int .i64 0) (.slice none 0 0) (.slice none 0 0);rw [←hW1];clear hW1;replace HE:=hid g1;replace HB_Z:=hid B1;replace hvx:=hvx.keepR q1;replace hvy:=hvy.keepR q1;obtain ⟨J7,J8,J9⟩:=HB_Z.o.c3;refine bodyPost_ret (v:=.agg #[.int .i64 0,.slice none 0 0,.slice none 0 0]) (by simp [results,Tryz.results173,go_sem,J7,J8,J9]) rfl ⟨_,rfl,?_,HE.o⟩;rw [H0.o];rw [Int.natCast_zero,Int.mul_zero,Rat.zero_mkRat]
  exact RNumV.zero _
 ·have hn0:((n:Int)==0)=false:=by simp;intro e;exact h0 (hlen.1 e)
  clear hlen
  by_cases hs0:s=0
  ·subst hs0;obtain ⟨J1,J2,J3⟩:=HB_Z.o.c3;obtain ⟨U4,U5,U6⟩:=HB_Z.o.f3;go_wp2_with fail;clear J1 J2 J3 U4 U5 U6;obtain ⟨W1,hW1,g1,q1,B1,hy1,ho1⟩:=rsto3 HE.o (by omega) HB_Z.o (by decide) (.int .i64 0) (.slice none 0 0) (.slice none 0 0);rw [←hW1];clear hW1;replace HE:=hid g1;replace HB_Z:=hid B1;replace hvx:=hvx.keepR q1;replace hvy:=hvy.keepR q1;obtain ⟨J7,J8,J9⟩:=HB_Z.o.c3;refine bodyPost_ret (v:=.agg #[.int .i64 0,.slice none 0 0,.slice none 0 0]) (by simp [results,Tryz.results173,go_sem,J7,J8,J9]) rfl ⟨_,rfl,?_,HE.o⟩
   exact RNumV.zero _
  ·have hsb:(s==0)=false:=beq_eq_false_iff_ne.2 hs0;have HP:Hid (0<P):=hid (Nat.pos_of_ne_zero h0);have HS2:Hid (s=1∨s = -1):=hid (by have:=HS.o;omega);have s1:Hid (Sm (K+1) 1):=hid (Nat.lt_of_lt_of_le (by decide:1<2^1) (Nat.pow_le_pow_right (by decide) (by omega)));have CC:Hid (∀ w u v m,m<2^(K+1)→RefV w u m→RefV w v 1→Calls Tryz.prog 177 #[u,v] w fun e w'=>e=.returned (.int .i64 (cmpN m 1))∧Ext w w'):=hid fun w u v m h1 h2 h3=>rcmp_c u v m 1 (K+1) w h2 h3 h1 s1.o (by have:=HK.o;omega);have CP:Hid (∀ w u v,RefV w u P→RefV w v 1→Calls Tryz.prog 177 #[u,v] w fun e w'=>e=.returned (.int .i64 (cmpN P 1))∧Ext w w'):=hid fun w u v h2 h3=>CC.o w u v P (SX.o.mono (by omega)) h2 h3;have CQ:Hid (∀ w u v,RefV w u Q→RefV w v 1→Calls Tryz.prog 177 #[u,v] w fun e w'=>e=.returned (.int .i64 (cmpN Q 1))∧Ext w w'):=hid fun w u v h2 h3=>CC.o w u v Q (SY.o.mono (by omega)) h2 h3;obtain ⟨cp,hcp⟩:∃ c,c=cmpN P 1:=⟨_,rfl⟩;obtain ⟨cq,hcq⟩:∃ c,c=cmpN Q 1:=⟨_,rfl⟩;rw [←hcp] at CP;rw [←hcq] at CQ;have HCP:Hid ((cp==0)=decide (P=1)):=hid (by rw [hcp];exact cmpN_eq0 _ _);have HCQ:Hid ((cq==0)=decide (Q=1)):=hid (by rw [hcq];exact cmpN_eq0 _ _);clear hcp hcq s1 h0 hs0 HS
   by_cases hp1:P=1
   ·have hb1:(cp==0)=true:=by rw [HCP.o];exact decide_eq_true hp1
    have HP1:=hid hp1;clear hp1;obtain ⟨J1,J2,J3⟩:=HB_Z.o.c3;go_wp2_with fail;clear J1 J2 J3;refine (rone_c _).mono ?_;rintro e w1 ⟨o1a,o1n,o1c,rfl,hone,g1⟩;have hz_w1:=g1.size;replace HE:=hid (HE.o.trans g1);replace HB_Z:=hid (HB_Z.o.ext g1);replace hvx:=hvx.ext g1;replace hvy:=hvy.ext g1;obtain ⟨J4,J5,J6⟩:=HB_Z.o.c3;go_wp2_with fail;clear J4 J5 J6;refine (CP.o _ _ _ hvx hone).mono ?_;rintro e w2 ⟨rfl,g2⟩;have hz_w2:=g2.size;replace HE:=hid (HE.o.trans g2);replace HB_Z:=hid (HB_Z.o.ext g2);replace hvx:=hvx.ext g2;replace hvy:=hvy.ext g2;clear hone;obtain ⟨J7,J8,J9⟩:=HB_Z.o.c3;obtain ⟨U10,U11,U12⟩:=HB_Z.o.f3;go_wp2_with fail;clear J7 J8 J9 U10 U11 U12;obtain ⟨W3,hW3,g3,q3,B3,hy3,ho3⟩:=rsto3 HE.o (by omega) HB_Z.o (by decide) (.int .i64 s) (.slice a n c) (.slice b m d);rw [←hW3];clear hW3;replace HE:=hid g3;replace HB_Z:=hid B3;replace hvx:=hvx.keepR q3;replace hvy:=hvy.keepR q3;obtain ⟨J13,J14,J15⟩:=HB_Z.o.c3;refine bodyPost_ret (v:=.agg #[.int .i64 s,.slice a n c,.slice b m d]) (by simp [results,Tryz.results173,go_sem,J13,J14,J15]) rfl ⟨_,rfl,?_,HE.o⟩;have hg:Nat.gcd P Q=1:=by rw [HP1.o];exact Nat.gcd_one_left _
    exact RNumV.made HS2.o HP.o (Nat.ne_of_gt HQ.o) (by rw [hg,Nat.div_one];exact hvx) (by rw [hg,Nat.div_one];exact hvy)
   ·have hb1:(cp==0)=false:=by rw [HCP.o];exact decide_eq_false hp1
    clear hp1
    by_cases hq1:Q=1
    ·have hb2:(cq==0)=true:=by rw [HCQ.o];exact decide_eq_true hq1
     have HQ1:=hid hq1;clear hq1;obtain ⟨J1,J2,J3⟩:=HB_Z.o.c3;go_wp2_with fail;clear J1 J2 J3;refine (rone_c _).mono ?_;rintro e w1 ⟨o1a,o1n,o1c,rfl,hone,g1⟩;have hz_w1:=g1.size;replace HE:=hid (HE.o.trans g1);replace HB_Z:=hid (HB_Z.o.ext g1);replace hvx:=hvx.ext g1;replace hvy:=hvy.ext g1;obtain ⟨J4,J5,J6⟩:=HB_Z.o.c3;go_wp2_with fail;clear J4 J5 J6;refine (CP.o _ _ _ hvx hone).mono ?_;rintro e w2 ⟨rfl,g2⟩;have hz_w2:=g2.size;replace HE:=hid (HE.o.trans g2);replace HB_Z:=hid (HB_Z.o.ext g2);replace hvx:=hvx.ext g2;replace hvy:=hvy.ext g2;clear hone;obtain ⟨J7,J8,J9⟩:=HB_Z.o.c3;go_wp2_with fail;clear J7 J8 J9;refine (rone_c _).mono ?_;rintro e w3 ⟨o3a,o3n,o3c,rfl,hone,g3⟩;have hz_w3:=g3.size;replace HE:=hid (HE.o.trans g3);replace HB_Z:=hid (HB_Z.o.ext g3);replace hvx:=hvx.ext g3;replace hvy:=hvy.ext g3;obtain ⟨J10,J11,J12⟩:=HB_Z.o.c3;go_wp2_with fail;clear J10 J11 J12;refine (CQ.o _ _ _ hvy hone).mono ?_;rintro e w4 ⟨rfl,g4⟩;have hz_w4:=g4.size;replace HE:=hid (HE.o.trans g4);replace HB_Z:=hid (HB_Z.o.ext g4);replace hvx:=hvx.ext g4;replace hvy:=hvy.ext g4;clear hone;obtain ⟨J13,J14,J15⟩:=HB_Z.o.c3;obtain ⟨U16,U17,U18⟩:=HB_Z.o.f3;go_wp2_with fail;clear J13 J14 J15 U16 U17 U18;obtain ⟨W5,hW5,g5,q5,B5,hy5,ho5⟩:=rsto3 HE.o (by omega) HB_Z.o (by decide) (.int .i64 s) (.slice a n c) (.slice b m d);rw [←hW5];clear hW5;replace HE:=hid g5;replace HB_Z:=hid B5;replace hvx:=hvx.keepR q5;replace hvy:=hvy.keepR q5;obtain ⟨J19,J20,J21⟩:=HB_Z.o.c3;refine bodyPost_ret (v:=.agg #[.int .i64 s,.slice a n c,.slice b m d]) (by simp [results,Tryz.results173,go_sem,J19,J20,J21]) rfl ⟨_,rfl,?_,HE.o⟩;have hg:Nat.gcd P Q=1:=by rw [HQ1.o];exact Nat.gcd_one_right _
     exact RNumV.made HS2.o HP.o (Nat.ne_of_gt HQ.o) (by rw [hg,Nat.div_one];exact hvx) (by rw [hg,Nat.div_one];exact hvy)
    ·have hb2:(cq==0)=false:=by rw [HCQ.o];exact decide_eq_false hq1
     clear hq1;obtain ⟨J1,J2,J3⟩:=HB_Z.o.c3;go_wp2_with fail;clear J1 J2 J3;refine (rone_c _).mono ?_;rintro e w1 ⟨o1a,o1n,o1c,rfl,hone,g1⟩;have hz_w1:=g1.size;replace HE:=hid (HE.o.trans g1);replace HB_Z:=hid (HB_Z.o.ext g1);replace hvx:=hvx.ext g1;replace hvy:=hvy.ext g1;obtain ⟨J4,J5,J6⟩:=HB_Z.o.c3;go_wp2_with fail;clear J4 J5 J6;refine (CP.o _ _ _ hvx hone).mono ?_;rintro e w2 ⟨rfl,g2⟩;have hz_w2:=g2.size;replace HE:=hid (HE.o.trans g2);replace HB_Z:=hid (HB_Z.o.ext g2);replace hvx:=hvx.ext g2;replace hvy:=hvy.ext g2;clear hone;obtain ⟨J7,J8,J9⟩:=HB_Z.o.c3;go_wp2_with fail;clear J7 J8 J9;refine (rone_c _).mono ?_;rintro e w3 ⟨o3a,o3n,o3c,rfl,hone,g3⟩;have hz_w3:=g3.size;replace HE:=hid (HE.o.trans g3);replace HB_Z:=hid (HB_Z.o.ext g3);replace hvx:=hvx.ext g3;replace hvy:=hvy.ext g3;obtain ⟨J10,J11,J12⟩:=HB_Z.o.c3;go_wp2_with fail;clear J10 J11 J12;refine (CQ.o _ _ _ hvy hone).mono ?_;rintro e w4 ⟨rfl,g4⟩;have hz_w4:=g4.size;replace HE:=hid (HE.o.trans g4);replace HB_Z:=hid (HB_Z.o.ext g4);replace hvx:=hvx.ext g4;replace hvy:=hvy.ext g4;clear hone;obtain ⟨G,hG⟩:∃ G,G=Nat.gcd P Q:=⟨_,rfl⟩;have CD:Hid (∀ w u v,RefV w u P→RefV w v Q→Calls Tryz.prog 225 #[u,v] w fun e w'=>∃ a k cap,e=.returned (.slice a k cap)∧RefV w' (.slice a k cap) G∧Ext w w'):=hid fun w u v h1 h2=>by
      rw [hG];exact rgcd_c u v P Q K w h1 h2 SX.o SY.o HK.o HQ.o
     have HG0:Hid (0<G):=hid (by rw [hG];exact Nat.gcd_pos_of_pos_left _ HP.o);have HGK:Hid (Sm K G):=hid (by rw [hG];exact Nat.lt_of_le_of_lt (Nat.gcd_le_left _ HP.o) SX.o);obtain ⟨cg,hcg⟩:∃ c,c=cmpN G 1:=⟨_,rfl⟩;have CG:Hid (∀ w u v,RefV w u G→RefV w v 1→Calls Tryz.prog 177 #[u,v] w fun e w'=>e=.returned (.int .i64 cg)∧Ext w w'):=hid fun w u v h2 h3=>by
      rw [hcg];exact CC.o w u v G (HGK.o.mono (by omega)) h2 h3
     have HCG:Hid ((cg != 0) = !decide (G=1)):=hid (by rw [hcg];exact cmpN_ne0 _ _);have CDV:Hid (∀ w u v m,m<2^K→RefV w u m→RefV w v G→Calls Tryz.prog 226 #[u,v] w fun e w'=>∃ a k cap a' k' cap',e=.returned (.tuple #[.slice a k cap,.slice a' k' cap'])∧RefV w' (.slice a k cap) (m/G)∧RefV w' (.slice a' k' cap') (m%G)∧Ext w w'):=hid fun w u v m h1 h2 h3=>rdiv_c u v m G K w h2 h3 h1 HGK.o (by have:=HK.o;omega) HG0.o;have HG:=hid hG;clear hG hcg;obtain ⟨J13,J14,J15⟩:=HB_Z.o.c3;go_wp2_with fail;clear J13 J14 J15;refine (CD.o _ _ _ hvx hvy).mono ?_;rintro e w5 ⟨e1,e2,e3,rfl,hvg,g5⟩;have hz_w5:=g5.size;replace HE:=hid (HE.o.trans g5);replace HB_Z:=hid (HB_Z.o.ext g5);replace hvx:=hvx.ext g5;replace hvy:=hvy.ext g5
     by_cases hg1:G=1
     ·have hb3:(cg != 0)=false:=by rw [HCG.o,decide_eq_true hg1];rfl
      have HG1:=hid hg1;clear hg1;obtain ⟨J16,J17,J18⟩:=HB_Z.o.c3;go_wp2_with fail;clear J16 J17 J18;refine (rone_c _).mono ?_;rintro e w6 ⟨o6a,o6n,o6c,rfl,hone,g6⟩;have hz_w6:=g6.size;replace HE:=hid (HE.o.trans g6);replace HB_Z:=hid (HB_Z.o.ext g6);replace hvx:=hvx.ext g6;replace hvy:=hvy.ext g6;replace hvg:=hvg.ext g6;obtain ⟨J19,J20,J21⟩:=HB_Z.o.c3;go_wp2_with fail;clear J19 J20 J21;refine (CG.o _ _ _ hvg hone).mono ?_;rintro e w7 ⟨rfl,g7⟩;have hz_w7:=g7.size;replace HE:=hid (HE.o.trans g7);replace HB_Z:=hid (HB_Z.o.ext g7);replace hvx:=hvx.ext g7;replace hvy:=hvy.ext g7;replace hvg:=hvg.ext g7;clear hone;obtain ⟨J22,J23,J24⟩:=HB_Z.o.c3;obtain ⟨U25,U26,U27⟩:=HB_Z.o.f3;go_wp2_with fail;clear J22 J23 J24 U25 U26 U27;obtain ⟨W8,hW8,g8,q8,B8,hy8,ho8⟩:=rsto3 HE.o (by omega) HB_Z.o (by decide) (.int .i64 s) (.slice a n c) (.slice b m d);rw [←hW8];clear hW8;replace HE:=hid g8;replace HB_Z:=hid B8;replace hvx:=hvx.keepR q8;replace hvy:=hvy.keepR q8;replace hvg:=hvg.keepR q8;obtain ⟨J28,J29,J30⟩:=HB_Z.o.c3;refine bodyPost_ret (v:=.agg #[.int .i64 s,.slice a n c,.slice b m d]) (by simp [results,Tryz.results173,go_sem,J28,J29,J30]) rfl ⟨_,rfl,?_,HE.o⟩;have hg:Nat.gcd P Q=1:=by rw [←HG.o,HG1.o]
      exact RNumV.made HS2.o HP.o (Nat.ne_of_gt HQ.o) (by rw [hg,Nat.div_one];exact hvx) (by rw [hg,Nat.div_one];exact hvy)
     ·have hb3:(cg != 0)=true:=by rw [HCG.o,decide_eq_false hg1];rfl
      clear hg1;obtain ⟨J16,J17,J18⟩:=HB_Z.o.c3;go_wp2_with fail;clear J16 J17 J18;refine (rone_c _).mono ?_;rintro e w6 ⟨o6a,o6n,o6c,rfl,hone,g6⟩;have hz_w6:=g6.size;replace HE:=hid (HE.o.trans g6);replace HB_Z:=hid (HB_Z.o.ext g6);replace hvx:=hvx.ext g6;replace hvy:=hvy.ext g6;replace hvg:=hvg.ext g6;obtain ⟨J19,J20,J21⟩:=HB_Z.o.c3;go_wp2_with fail;clear J19 J20 J21;refine (CG.o _ _ _ hvg hone).mono ?_;rintro e w7 ⟨rfl,g7⟩;have hz_w7:=g7.size;replace HE:=hid (HE.o.trans g7);replace HB_Z:=hid (HB_Z.o.ext g7);replace hvx:=hvx.ext g7;replace hvy:=hvy.ext g7;replace hvg:=hvg.ext g7;clear hone;obtain ⟨J22,J23,J24⟩:=HB_Z.o.c3;go_wp2_with fail;clear J22 J23 J24;refine (CDV.o _ _ _ P SX.o hvx hvg).mono ?_;rintro e w8 ⟨p1,p2,p3,p4,p5,p6,rfl,hvp,-,g8⟩;have hz_w8:=g8.size;replace HE:=hid (HE.o.trans g8);replace HB_Z:=hid (HB_Z.o.ext g8);replace hvx:=hvx.ext g8;replace hvy:=hvy.ext g8;replace hvg:=hvg.ext g8;obtain ⟨J25,J26,J27⟩:=HB_Z.o.c3;go_wp2_with fail;clear J25 J26 J27;refine (CDV.o _ _ _ Q SY.o hvy hvg).mono ?_;rintro e w9 ⟨q1,q2,q3,q4,q5,q6,rfl,hvq,-,g9⟩;have hz_w9:=g9.size;replace HE:=hid (HE.o.trans g9);replace HB_Z:=hid (HB_Z.o.ext g9);replace hvx:=hvx.ext g9;replace hvy:=hvy.ext g9;replace hvg:=hvg.ext g9;replace hvp:=hvp.ext g9;obtain ⟨J28,J29,J30⟩:=HB_Z.o.c3;obtain ⟨U31,U32,U33⟩:=HB_Z.o.f3;go_wp2_with fail;clear J28 J29 J30 U31 U32 U33;obtain ⟨W10,hW10,g10,q10,B10,hy10,ho10⟩:=rsto3 HE.o (by omega) HB_Z.o (by decide) (.int .i64 s) (.slice p1 p2 p3) (.slice q1 q2 q3);rw [←hW10];clear hW10;replace HE:=hid g10;replace HB_Z:=hid B10;replace hvx:=hvx.keepR q10;replace hvy:=hvy.keepR q10;replace hvg:=hvg.keepR q10;replace hvp:=hvp.keepR q10;replace hvq:=hvq.keepR q10;obtain ⟨J34,J35,J36⟩:=HB_Z.o.c3;refine bodyPost_ret (v:=.agg #[.int .i64 s,.slice p1 p2 p3,.slice q1 q2 q3]) (by simp [results,Tryz.results173,go_sem,J34,J35,J36]) rfl ⟨_,rfl,?_,HE.o⟩
      exact RNumV.made HS2.o HP.o (Nat.ne_of_gt HQ.o) (by rw [←HG.o];exact hvp) (by rw [←HG.o];exact hvq)
end Go.Proofs.YtgabigepocfllaaGreatDoor
