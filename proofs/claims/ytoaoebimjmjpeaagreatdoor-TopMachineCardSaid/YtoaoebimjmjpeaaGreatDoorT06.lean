/- Natural numbers in words of 32 bits: div is long division, with quotient and remainder. -/
import Derived.Laws.CopyOwn
import Derived.Laws.Tables
import Derived.Test.YtoaoebimjmjpeaaGreatDoorT05
namespace Go.Proofs.YtoaoebimjmjpeaaGreatDoor
open Go.RowKit Vn
set_option maxRecDepth 100000
set_option maxHeartbeats 8000000
theorem NatV.opens {w:World} {a:Option Addr} {n cap N:Nat} (h:NatV w (.slice a n cap) N):∃ (b off:Nat) (l:List Nat),n≤cap∧cap≤maxLen∧Hid (l.length=n) ∧
  Hid (0<n→a=some ⟨b,off,none⟩)∧Hid (Norm 4294967296 l)∧Hid (dv 4294967296 l=N)∧Cells w b off n l∧Hid (SlAt 240 .u32 w (.slice a n cap) l):=by
 obtain ⟨a',b,off,n',cap',l,h1,h2,h3,h4,h5,h6,h7,h8,h9⟩:=h.open;obtain ⟨rfl,rfl,rfl⟩:a=a'∧n=n'∧cap=cap':=by simpa using h1
 exact ⟨b,off,l,h2,h3,h4,h5,h6,h7,h8,h9⟩
theorem hb7_alloc_old (w:World) (o:Obj) {i:Nat} (h:i<w.heap.size):(w.alloc o).heap[i]?=w.heap[i]?:=Below.heap_alloc w o i h
theorem Own.grow {w wr wq:World} {b n:Nat} {o:List Nat} (h:Own w wr b o n) (hb:wq.heap[b]?=wr.heap[b]?) (he:Ext w wq):Own w wq b o n :=
 ⟨hb.trans h.row,h.len,h.dig,he⟩
theorem splice_row (l:List Nat) (n:Nat) (_h:l.length≤n) :
  (splice ((List.replicate n 0).map fun d:Nat=>Value.int .u32 (d:Nat)) 0 (l.map fun d:Nat=>Value.int .u32 (d:Nat))).toArray=rowOf .u32 (l++List.replicate (n-l.length) 0):=by
 simp [splice,rowOf]
structure KnRel (v:List Nat) (lu lq V A:Nat) (w:World) (bu bq:Nat) (p:Nat) (u q:List Nat) (wr:World):Prop where
 hp:p≤lq
 low:∀ i,i<p→q.getD i 0=0
 lt:dv 4294967296 u<V*4294967296^p
 val:dv 4294967296 u+dv 4294967296 q*V=A
 ou:Own w wr bu u lu
 oq:Own w wr bq q lq
theorem KnRel.drewN {v:List Nat} {lu lq V A:Nat} {w:World} {bu bq p:Nat} {u q:List Nat} {wr:World} (h:KnRel v lu lq V A w bu bq p u q wr) (k:Nat):KnRel v lu lq V A w bu bq p u q (wr.drewN k) :=
 ⟨h.hp,h.low,h.lt,h.val,h.ou.grow rfl (below_drewN h.ou.ext _),h.oq.grow rfl (below_drewN h.oq.ext _)⟩
theorem KnRel.step {v:List Nat} {lu lq V A:Nat} {w:World} {bu bq j:Nat} {u q:List Nat} {wr:World} (h:KnRel v lu lq V A w bu bq (j+1) u q wr) (hne:bu≠bq) (hbq:w.heap.size≤bq) {u':List Nat} {wq:World} {g:Nat}
  (hu:Own w wq bu u' lu) (hq:Own w wq bq q lq) (hg:g=dv 4294967296 u/(V*4294967296^j)) (hgB:g<4294967296) (hv:dv 4294967296 u'+g*V*4294967296^j=dv 4294967296 u) (e:Int) (he:e=(g:Int)) :
  KnRel v lu lq V A w bu bq j u' (q.set j g) (wq.setCell ⟨bq,j,none⟩ (.int .u32 e)):=by
 have hp:=h.hp;have hl:j<q.length:=by rw [h.oq.len];omega
 have hV:0<V*4294967296^j:=by
  rcases Nat.eq_zero_or_pos (V*4294967296^j) with h0 | h0
  ·have:=h.lt;rw [Nat.pow_succ,←Nat.mul_assoc,h0] at this;omega
  ·exact h0
 refine ⟨by omega,?_,div_step (B:=4294967296) hg hV hv rfl,?_,?_,hq.set hbq _ _ _ he hgB⟩
 ·intro i hi
  rw [getD_set _ _ _ _ hl,if_neg (by omega)]
  exact h.low i (by omega)
 ·have h1:=dv_set 4294967296 q j g hl;rw [h.low j (by omega)] at h1;have h2:=h.val;have h3:dv 4294967296 (q.set j g)*V=dv 4294967296 q*V+g*V*4294967296^j:=by
   have:dv 4294967296 (q.set j g)=dv 4294967296 q+g*4294967296^j:=by omega
   rw [this];grind
  omega
 ·exact hu.grow (Below.heap_setCell _ _ _ _ (by simpa using hne)) (hu.ext.setCell (p:=⟨bq,j,none⟩) hbq _)
theorem guess_right {D V P g Q:Nat} {d':Nat} (hV:0<V) (hQ:Q=D/V) (h1:Q≤g) (h2:g≤Q+1) (h:d'+g*V=D+0*P):g=Q∧d'+Q*V=D:=by
 have hg:g≤Q:=by rw [hQ,Nat.le_div_iff_mul_le hV];omega
 obtain rfl:g=Q:=by omega
 exact ⟨rfl,by omega⟩
theorem guess_over {D V P g Q d' d2 o:Nat} (_hV:0<V) (hQ:Q=D/V) (h1:Q≤g) (h2:g≤Q+1) (h:d'+g*V=D+1*P) (h':d2+o*P=d'+V) (hD:D<P) (hd:d'<P) (hd2:d2<P):g-1=Q∧d2+Q*V=D:=by
 have hg:g=Q+1:=by
  rcases Nat.lt_or_ge Q g with h3 | h3
  ·omega
  ·exfalso
   obtain rfl:g=Q:=by omega
   have:g*V≤D:=by rw [hQ];exact Nat.div_mul_le_self _ _
   omega
 subst hg;have e:(Q+1)*V=Q*V+V:=by grind
 have ho:o=1:=by
  have hle:Q*V≤D:=by rw [hQ];exact Nat.div_mul_le_self _ _
  rcases Nat.eq_zero_or_pos o with h0 | h0
  ·subst h0;omega
  ·rcases Nat.lt_or_ge 1 o with h4 | h4
   ·have:2*P≤o*P:=Nat.mul_le_mul_right P h4
    have hVD:V≤d2+o*P:=by omega
    omega
   ·omega
 subst ho
 exact ⟨by omega,by omega⟩
theorem div_core (ax ay:Option Addr) (cx by_ oy cy:Nat) (x y:List Nat) (n m M N K:Nat) (w:World) (Hn:Hid (x.length=n)) (Hm:Hid (y.length=m)) (hm2:2≤m) (hmn:m≤n) (hn:n≤100000000)
  (Hay:Hid (0<m→ay=some ⟨by_,oy,none⟩))
  (Hx:Hid (Norm 4294967296 x)) (Hy:Hid (Norm 4294967296 y)) (Hcy:Cells w by_ oy m y)
  (HX:Hid (NatV w (.slice ax n cx) M)) (HY:Hid (NatV w (.slice ay m cy) N)) (SX:Hid (Sm K M)) (SY:Hid (Sm K N)) (HK:Hid (K≤50000000)) (HXd:Hid (dv 4294967296 x=M)) (HYd:Hid (dv 4294967296 y=N)) (hc:decide (cmpN M N<0)=false) :
  Calls Tryz.prog 210 #[.slice ax n cx,.slice ay m cy] w fun e w'=>∃ a1 k1 c1 a2 k2 c2,e=.returned (.tuple #[.slice a1 k1 c1,.slice a2 k2 c2])∧NatV w' (.slice a1 k1 c1) (M/N)∧NatV w' (.slice a2 k2 c2) (M%N)∧Ext w w':=by
 have hm1:((m:Int)==1)=false:=by simp;omega
 obtain ⟨d,hd2⟩:∃ d,d=y.getD (m-1) 0:=⟨_,rfl⟩;have hd0:0<d:=by
  rw [hd2]
  rcases Hy.o.trim with h | h
  ·have:=Hm.o;rw [h] at this;simp at this;omega
  ·rwa [Hm.o] at h
 have hd1:d<4294967296:=by rw [hd2];exact Hy.o.dig.get (by decide) _
 have Hd2:Hid (d=y.getD (m-1) 0):=hd2;clear hd2;obtain rfl:=Hay.o (by omega);have hmk:=mkNat (n+1) ((n:Int)+1) (by omega) (by omega);have hmk2:=mkNat (n-m+1) ((n:Int)-(m:Int)+1) (by omega) (by omega)
 go_enter Tryz.func210,Tryz.ntmps210
 go_wp2_with fail
 go_step3
 go_wp2_with (go_at_call 54;refine (cmp_c _ _ M N K _ HX.o HY.o SX.o SY.o (by have:=HK.o;omega)).mono ?_;rintro e w1 ⟨rfl,hb1⟩;have hcell1:=hb1.cell (Hcy.o (m-1) (by omega));rw [←Hd2.o] at hcell1)
 refine (lz32_c d _ hd0 hd1).mono ?_;rintro e w2 ⟨L,rfl,hL,hL1,hL2,hb2⟩;have hE2:Ext w w2:=hb1.trans hb2;have Hb1:=hid hb1;have Hb2:=hid hb2;clear hb1 hb2 hcell1;go_wp2_with fail;refine (shl_c _ N K _ _ (HY.o.ext hE2) SY.o (by have:=HK.o;omega) (by omega) (by omega)).mono ?_;rintro e w3 ⟨av,nv,cv,rfl,hv3,hb3⟩;rw [Int.toNat_natCast] at hv3;have hE3:Ext w w3:=hE2.trans hb3;clear hb3;obtain ⟨bv,ov,v,hv1,hv2,Hvn,Hav,Hvv,Hvd,Hcv,Hvs⟩:=hv3.opens;have hb4:Ext w3 (w3.alloc (.cells (rowOf .u32 (List.replicate (n+1) 0)) 240)):=(Below.refl _ _).alloc (Nat.le_refl _) _;have hE4:=hE3.trans hb4;go_wp2_with fail;refine (shl_c _ M K _ _ (HX.o.ext hE4) SX.o (by have:=HK.o;omega) (by omega) (by omega)).mono ?_;rintro e w4 ⟨at_,nt,ct,rfl,hv4,hb5⟩;rw [Int.toNat_natCast] at hv4;obtain ⟨bt,ot,t,ht1,ht2,Htn,Hat,Htt,Htd,Hct,Hts⟩:=hv4.opens;have hnt:nt≤n+1:=by
  have h1:M<4294967296^n:=by
   have:=Vn.dv_lt (by decide) Hx.o.dig
   rwa [HXd.o,Hn.o] at this
  have h2:M*2^L<4294967296^(n+1):=by
   rw [Nat.pow_succ]
   have:2^L<4294967296:=Nat.lt_of_le_of_lt (Nat.le_mul_of_pos_left _ hd0) hL2
   exact Nat.mul_lt_mul_of_lt_of_le h1 (Nat.le_of_lt this) (by decide)
  rw [←Htd.o] at h2
  have:=Htt.o.len_le (by decide) h2
  rwa [Htn.o] at this
 have hrow:w4.heap[w3.heap.size]?=some (.cells ((List.replicate (n+1) 0).map fun d:Nat=>Value.int .u32 (d:Nat)).toArray 240 (0,0)):=hb5.heap (heap_alloc_new w3 _);have hsz:(Tryz.prog.info? 240).map (·.size)=some 1:=by
  obtain ⟨i0,hi,hz0,hz1,hz2⟩:=info_parts info32;rw [hi];simp [hz1]
 have hlen:(t.map fun d:Nat=>Value.int .u32 (d:Nat)).length=Nat.min nt (n+1):=by
  rw [List.length_map,Htn.o];exact (Nat.min_eq_left hnt).symm
 have hpos:0<(t.map fun d:Nat=>Value.int .u32 (d:Nat)).length→(some (⟨w3.heap.size,0,none⟩:Addr))=some ⟨w3.heap.size,0,none⟩∧∃ ad,at_=some ad∧∀ j v,(t.map fun d:Nat=>Value.int .u32 (d:Nat))[j]?=some v→w4.cell? (ad.add j)=some v:=by
  intro h
  rw [List.length_map,Htn.o] at h;refine ⟨rfl,⟨bt,ot,none⟩,Hat.o h,fun j z hj => ?_⟩;have hadd:(⟨bt,ot,none⟩:Addr).add j=⟨bt,ot+j,none⟩:=by unfold Addr.add;split<;>simp_all
  rw [hadd];have hjl:j<nt:=by
   rw [←Htn.o,←List.length_map (f:=fun d:Nat=>Value.int .u32 (d:Nat))]
   exact (List.getElem?_eq_some_iff.1 hj).1
  rw [Hct.o j hjl];rw [List.getElem?_map,List.getElem?_eq_getElem (by rw [Htn.o];exact hjl)] at hj;rw [List.getD_eq_getElem?_getD,List.getElem?_eq_getElem (by rw [Htn.o];exact hjl)]
  simpa using hj
 have hfit:0+(t.map fun d:Nat=>Value.int .u32 (d:Nat)).length≤((List.replicate (n+1) 0).map fun d:Nat=>Value.int .u32 (d:Nat)).length:=by
  simp only [List.length_map,List.length_replicate,Htn.o];omega
 have hone:∀ z∈(t.map fun d:Nat=>Value.int .u32 (d:Nat)),z.oneCell'=true:=by
  intro z hz
  obtain ⟨q,_,rfl⟩:=List.mem_map.1 hz
  rfl
 have hb6:Ext w3 w4:=hb4.trans hb5;obtain ⟨w5,hcopy,Hrow5,hb7⟩:∃ w5,Sem.run Tryz.prog (Builtin.copy_ #[47,47] 3 #[.slice (some ⟨w3.heap.size,0,none⟩) (n+1) (n+1),.slice at_ nt ct]) w4=.ok (goInt nt) w5 ∧
   Hid (w5.heap[w3.heap.size]?=some (.cells (rowOf .u32 (t++List.replicate (n+1-nt) 0)) 240 (0,0)))∧Ext w3 w5:=by
  have hsp:=splice_row t (n+1) (by rw [Htn.o];exact hnt);rw [Htn.o] at hsp
  rcases Nat.eq_zero_or_pos nt with h0 | h0
  ·subst h0;have ht0:t=[]:=List.eq_nil_of_length_eq_zero Htn.o;refine ⟨w4,?_,hid ?_,hb6⟩
   ·rw [run_copy_none (P:=Tryz.prog) w4 _ _ _ 240 _ _ _ _ _ _ Tryz.underlying47 hsz (by simp)]
    rfl
   ·rw [←hsp,ht0];simpa [splice] using hrow
  ·obtain ⟨_,ad,had,hsrc⟩:=hpos (by rw [List.length_map,Htn.o];exact h0);subst had;refine ⟨_,run_copy_row (P:=Tryz.prog) w4 _ _ _ 240 w3.heap.size 0 (n+1) (n+1) ad nt ct _ 240 (t.map fun d:Nat=>Value.int .u32 (d:Nat)) Tryz.underlying47 hsz hrow hlen hsrc (by simpa using hfit) hone |>.trans (by rw [List.length_map,Htn.o]),hid ?_,?_⟩
   ·rw [←hsp];have hsr:=fun cs'=>setRow_heap w4 _ _ cs' _ _ hrow;rw [hsr]
    simp [splice,Htn.o]
   ·exact below_setRow hb6 (Nat.le_refl _) _
 have Hsz:=hid hsz;clear hlen hpos hfit hone hsz hrow hE2 hE4 hb4 hb5 hv3 hv4;go_wp2_with fail
 go_step3
 go_wp2_with fail;have HV0:=hid (norm_shift Hy.o Hm.o (by omega) Hd2.o hL hL1 hL2 Hvv.o (by rw [Hvd.o,HYd.o]));rw [Hvn.o] at HV0;have HMn:Hid (M<4294967296^n):=by
  have:=Vn.dv_lt (by decide) Hx.o.dig
  rw [HXd.o,Hn.o] at this
  exact hid this
 obtain rfl:nv=m:=HV0.o.1;have HK0:Hid (KnRel v (n+1) (n-nv+1) (N*2^L) (M*2^L) w3 w3.heap.size w5.heap.size (n-nv+1) (t++List.replicate (n+1-nt) 0) (List.replicate (n-nv+1) 0) (w5.alloc (.cells (rowOf .u32 (List.replicate (n-nv+1) 0)) 240))):=by
  refine hid ⟨Nat.le_refl _,fun i _=>Zero.replicate _ 0 i (Nat.zero_le _),?_,?_,⟨?_,?_,?_,?_⟩,⟨heap_alloc_new _ _,by simp,Dig.replicate (by decide) _,?_⟩⟩
  ·rw [dv_append,dv_replicate,Nat.mul_zero,Nat.add_zero,Htd.o,←Hvd.o]
   exact kn_start HMn.o hL Hvn.o (by omega) hmn HV0.o.2
  ·rw [dv_append,dv_replicate,dv_replicate,Htd.o];simp
  ·exact (hb7_alloc_old _ _ (cell_lt Hrow5.o)).trans Hrow5.o
  ·simp [Htn.o];omega
  ·exact Htt.o.dig.append (Dig.replicate (by decide) _)
  ·exact hb7.alloc hb7.size _
  ·exact hb7.alloc hb7.size _
 obtain rfl:=Hav.o (by omega);have hbq:w3.heap.size<w5.heap.size:=cell_lt Hrow5.o;obtain ⟨bq,hbq2⟩:∃ bq,bq=w5.heap.size:=⟨_,rfl⟩;obtain ⟨wz,hwz⟩:∃ wz,wz=w5.alloc (.cells (rowOf .u32 (List.replicate (n-nv+1) 0)) 240):=⟨_,rfl⟩;rw [←hwz] at HK0 ⊢;rw [←hbq2] at HK0 hbq ⊢;obtain ⟨bu,hbu2⟩:∃ bu,bu=w3.heap.size:=⟨_,rfl⟩;rw [←hbu2] at HK0 hbq ⊢;have Hbu:Hid (w3.heap.size=bu):=hid hbu2.symm;clear hwz hbq2 hbu2 hcopy
 go_loopw [12] (fun jv wr=>∃ (p:Nat) (u q:List Nat),jv=.int .i64 ((p:Int)-1)∧KnRel v (n+1) (n-nv+1) (N*2^L) (M*2^L) w3 bu bq p u q wr) (fun jv _=>(intOf jv+1).toNat)
 case atStart=>exact ⟨n-nv+1,_,_,by go_num,HK0.o⟩
 case round =>
  obtain ⟨p,u,q,rfl,HR⟩:=hrel;clear HK0;have hp:=HR.hp
  rcases Nat.eq_zero_or_pos p with hp0 | hp0
  ·subst hp0;have HO1:=HR.oq;have HO2:=HR.ou;have S1:=hid (HO1.drew.slat (by unfold maxLen;omega));have S2:=hid ((HO2.drew.slat (by unfold maxLen;omega)).short nv (by omega));have i1:(0:Int)≤(nv:Int):=by omega
   have i2:(nv:Int)≤(n:Int)+1:=by omega
   have HS3:Hid (q.length≤1000000000000):=hid (by rw [HO1.len];omega);have HS4:Hid ((u.take nv).length≤1000000000000):=hid (by simp;omega);have hNL:N*2^L*4294967296^0=N*2^L:=by rw [Nat.pow_zero,Nat.mul_one]
   have hlt0:=HR.lt;have hval0:=HR.val;rw [hNL] at hlt0;have hNp:0<N:=by
    rcases Nat.eq_zero_or_pos N with h0 | h0
    ·rw [h0,Nat.zero_mul] at hlt0;omega
    ·exact h0
   have hLp:0<2^L:=Nat.pow_pos (by decide);have Hq:Hid (dv 4294967296 q=M/N):=by
    have e1:M*2^L/(N*2^L)=M/N:=Nat.mul_div_mul_right M N hLp;have e2:M*2^L/(N*2^L)=dv 4294967296 q:=by
     rw [←hval0,Nat.add_mul_div_right _ _ (Nat.mul_pos hNp hLp),Nat.div_eq_of_lt hlt0,Nat.zero_add]
    exact hid (by rw [←e2,e1])
   have Hu:Hid (dv 4294967296 (u.take nv)=M%N*2^L):=by
    have e1:M*2^L%(N*2^L)=M%N*2^L:=Nat.mul_mod_mul_right _ _ _;have e2:M*2^L%(N*2^L)=dv 4294967296 u:=by
     rw [←hval0,Nat.add_mul_mod_self_right,Nat.mod_eq_of_lt hlt0]
    have hvl:=Vn.dv_lt (by decide) Hvv.o.dig;rw [Hvn.o,Hvd.o] at hvl;have hz:=zero_of_lt (B:=4294967296) (by decide) (Nat.lt_trans hlt0 hvl);refine hid ?_;rw [dv_take_zeros (by rw [HO2.len];omega) (fun i h1 _=>hz i h1),←e2,e1]
   have HSm:Hid (Sm (K+32) (dv 4294967296 (u.take nv))):=by
    refine hid ?_;rw [Hu.o];have a1:M%N<2^K:=Nat.lt_of_lt_of_le (Nat.mod_lt _ hNp) (Nat.le_of_lt SY.o);have a2:2^L≤2^32:=Nat.pow_le_pow_right (by decide) (by omega)
    show _<2^(K+32)
    rw [Nat.pow_add]
    exact Nat.mul_lt_mul_of_lt_of_le a1 a2 (Nat.pow_pos (by decide))
   clear hNL hlt0 hval0;go_wp2_with fail
   go_region_held3 (fun _=>True) (trivial)
    (first
     | (go_at_call 125;(with_reducible refine (cut_c _ _ _ S1.o HO1.dig HS3.o).mono ?_);rintro e w8 ⟨a8,n8,c8,rfl,k8,hb8⟩)
     | (go_at_call 125;(with_reducible refine (cut_c _ _ _ (S2.o.ext hb8) (HO2.dig.take nv) HS4.o).mono ?_);rintro e w9 ⟨a9,n9,c9,rfl,k9,hb9⟩)
     | (go_at_call 283;refine (shr_c _ _ (K+32) _ _ k9 HSm.o (by have:=HK.o;omega) (by omega) (by omega)).mono ?_;rintro e w10 ⟨a10,n10,c10,rfl,k10,hb10⟩))
   go_wp2_with fail
   (try rw [Exit.noGoto_ret])
   go_ret2;rw [Hq.o] at k8;rw [Hu.o,Int.toNat_natCast,Nat.mul_div_cancel _ hLp] at k10
   exact ⟨a8,n8,c8,a10,n10,c10,rfl,k8.ext (hb9.trans hb10),k10,hE3.trans (HO1.ext.trans (Ext.trans (Below.drew (Below.refl _ _)) (hb8.trans (hb9.trans hb10))))⟩
  ·obtain ⟨j,rfl⟩:∃ j,p=j+1:=⟨p-1,by omega⟩;have ej:(((j+1:Nat):Int)-1)=(j:Int):=by omega
   rw [ej];clear ej;have hjn:j+nv<n+1:=by omega
   obtain ⟨c0,hc0⟩:∃ c,c=u.getD (j+nv-2) 0:=⟨_,rfl⟩;obtain ⟨c1,hc1⟩:∃ c,c=u.getD (j+nv-1) 0:=⟨_,rfl⟩;obtain ⟨c2,hc2⟩:∃ c,c=u.getD (j+nv) 0:=⟨_,rfl⟩;obtain ⟨z1,hz1⟩:∃ c,c=v.getD (nv-1) 0:=⟨_,rfl⟩;obtain ⟨z2,hz2⟩:∃ c,c=v.getD (nv-2) 0:=⟨_,rfl⟩;have hcc0:=HR.ou.cell (k:=j+nv-2) (by omega);have hcc1:=HR.ou.cell (k:=j+nv-1) (by omega);have hcc2:=HR.ou.cell (k:=j+nv) (by omega);have hcz1:=HR.ou.ext.cell (Hcv.o (nv-1) (by omega));have hcz2:=HR.ou.ext.cell (Hcv.o (nv-2) (by omega));rw [←hc0] at hcc0;rw [←hc1] at hcc1;rw [←hc2] at hcc2;rw [←hz1] at hcz1;rw [←hz2] at hcz2;have hl0:c0<4294967296:=by rw [hc0];exact HR.ou.dig.get (by decide) _
   have hl1:c1<4294967296:=by rw [hc1];exact HR.ou.dig.get (by decide) _
   have hl2:c2<4294967296:=by rw [hc2];exact HR.ou.dig.get (by decide) _
   have hlz1:z1<4294967296:=by rw [hz1];exact Hvv.o.dig.get (by decide) _
   have hlz2:z2<4294967296:=by rw [hz2];exact Hvv.o.dig.get (by decide) _
   have hz1':2147483648≤z1:=by rw [hz1];exact HV0.o.2
   have HW:=hid (win_of (by decide) HR.ou.dig Hvv.o.dig Hvn.o hm2 (by rw [HR.ou.len];omega) (by rw [Hvd.o];exact HR.lt) (by rw [←hz1];omega));rw [←hc0,←hc1,←hc2,←hz1,←hz2] at HW;have Hc0:=hid hc0;have Hc1:=hid hc1;have Hc2:=hid hc2;have Hz1:=hid hz1;have Hz2:=hid hz2;clear hc0 hc1 hc2 hz1 hz2;have horI:=orI2 (d:=c1) (f:=c2) hl1 hl2;have horI0:=fun (f:Nat) (hf:f<4294967296)=>orI2 (d:=c0) (f:=f) hl0 hf;have HorI0:=hid horI0;obtain ⟨top,htop⟩:∃ z,z=c1+4294967296*c2:=⟨_,rfl⟩;rw [←htop] at horI HW;have htl:top<18446744073709551616:=by omega
   have Htop:=hid htop;have hzi:(1:Int)≤(z1:Int):=by omega
   have i1:(0:Int)≤(j:Int):=by omega
   have i2:(j:Int)+(nv:Int)<(n:Int)+1:=by omega
   have i3:(0:Int)≤(top:Int):=by omega
   clear horI0 htop;have hge:decide ((0:Int)≤(j:Int))=true:=decide_eq_true (by omega);go_wp2_with fail
   go_quiet (fail)
   go_wp2_with fail
   go_quiet (fail)
   rw [Hvd.o] at HW
   go_upto_block 3 with (fail)
   go_cut [14,15] (fun sg so wx=>∃ g o:Nat,sg=.int .u64 g∧so=.int .u64 o∧g<4294967296∧dv 4294967296 u/(N*2^L*4294967296^j)≤g∧g≤dv 4294967296 u/(N*2^L*4294967296^j)+1∧KnRel v (n+1) (n-nv+1) (N*2^L) (M*2^L) w3 bu bq (j+1) u q wx)
   case first =>
    go_wp2_with fail
    go_loopw [14,15] (fun sg so wq=>∃ g o:Nat,sg=.int .u64 g∧so=.int .u64 o∧o<4294967296∧g≤4294967297∧Guess 4294967296 (4294967296^(j+nv-2)) (dv 4294967296 u) (N*2^L*4294967296^j) c0 top z1 z2 (dv 4294967296 u/(N*2^L*4294967296^j)) g o ∧
     KnRel v (n+1) (n-nv+1) (N*2^L) (M*2^L) w3 bu bq (j+1) u q wq) (fun sg _ _=>(intOf sg).toNat)
    case atStart =>
     obtain ⟨HW1,HW2,HW3⟩:=HW.o;refine ⟨top/z1,top%z1,vint ?_,vint ?_,?_,?_,Guess.start HW1,?_⟩
     ·have:=Guess.first HW1 HW3 (by omega)
      rw [w64,←Int.natCast_ediv];generalize top/z1=y at *;omega
     ·rw [←Int.natCast_emod]
     ·have:=Nat.mod_lt top (show z1>0 by omega);omega
     ·exact Guess.first HW1 HW3 (by omega)
     ·exact (HR.drewN _).drewN _
    case round =>
     obtain ⟨g,o,rfl,rfl,ho,hg,HG,HI⟩:=hrel;have hci:=HI.ou.cell (k:=j+nv-2) (by omega);rw [←Hc0.o] at hci;have hcj1:=HI.ou.ext.cell (Hcv.o (nv-1) (by omega));have hcj2:=HI.ou.ext.cell (Hcv.o (nv-2) (by omega));rw [←Hz1.o] at hcj1;rw [←Hz2.o] at hcj2;clear hcc0 hcc1 hcc2 hcz1 hcz2
     rcases Nat.lt_or_ge g 4294967296 with hgB | hgB
     ·have hA:(((g:Int)/4294967296) != 0)=false:=by rw [bne_eq_false_iff_eq];omega
      have horI:=HorI0.o o ho;have hgx:0≤(g:Int)*(z2:Int):=Int.mul_nonneg (by omega) (by omega);have hgx2:(g:Int)*(z2:Int)≤18446744065119617025:=by
       have:=Nat.mul_le_mul (show g≤4294967295 by omega) (show z2≤4294967295 by omega)
       have h2:((g*z2:Nat):Int)≤((4294967295*4294967295:Nat):Int):=Int.ofNat_le.2 this
       simpa using h2
      have Hcast:Hid (((g*z2:Nat):Int)=(g:Int)*(z2:Int)):=hid (Int.natCast_mul _ _);obtain ⟨zz,hzz⟩:∃ z,z=c0+4294967296*o:=⟨_,rfl⟩;rw [←hzz] at horI;have Hzz:=hid hzz;clear hzz
      rcases Nat.lt_or_ge (o*4294967296+c0) (g*z2) with hT | hT
      ·have hC:decide ((zz:Int)<(g:Int)*(z2:Int))=true:=decide_eq_true (by rw [←Hcast.o,Hzz.o];omega);have HT:=hid hT;have HD:=hid (HG.down HW.o.2.1 (.inr hT));clear hT;have hg1:1≤g:=HD.o.1
       rcases Nat.lt_or_ge (o+z1) 4294967296 with hoB | hoB
       ·have hB:(((o:Int)+(z1:Int))/4294967296 != 0)=false:=by rw [bne_eq_false_iff_eq];omega
        go_wp2_with fail
        go_quiet (fail)
        go_wp2_with fail
        go_roundw
        case rel=>exact ⟨g-1,o+z1,vint (by omega),vint (by omega),hoB,by omega,HD.o.2,HI.drewN _⟩
        case measure=>simp [intOf];have:=HD.o.1;omega
       ·have hB:(((o:Int)+(z1:Int))/4294967296 != 0)=true:=by rw [bne_iff_ne];omega
        go_wp2_with fail
        go_quiet (fail)
        go_wp2_with fail;go_meet;obtain ⟨q1,q2⟩:=HD.o.2.over hoB HW.o.2.2
        exact ⟨g-1,o+z1,vint (by have:=HD.o.1;omega),vint (by omega),q1,HD.o.2.ge,q2,HI.drewN _⟩
      ·have hC:decide ((zz:Int)<(g:Int)*(z2:Int))=false:=decide_eq_false (by rw [←Hcast.o,Hzz.o];omega);have HT:=hid hT;clear hT;go_wp2_with fail
       go_quiet (fail)
       go_wp2_with fail;go_meet
       exact ⟨g,o,rfl,rfl,hgB,HG.ge,HG.stay hgB HT.o,HI.drewN _⟩
     ·have hA:(((g:Int)/4294967296) != 0)=true:=by rw [bne_iff_ne];omega
      have HD:=hid (HG.down HW.o.2.1 (.inl hgB))
      rcases Nat.lt_or_ge (o+z1) 4294967296 with hoB | hoB
      ·have hB:(((o:Int)+(z1:Int))/4294967296 != 0)=false:=by rw [bne_eq_false_iff_eq];omega
       go_wp2_with fail
       go_quiet (fail)
       go_wp2_with fail
       go_roundw
       case rel=>exact ⟨g-1,o+z1,vint (by omega),vint (by omega),hoB,by omega,HD.o.2,HI.drewN _⟩
       case measure=>simp [intOf];have:=HD.o.1;omega
      ·have hB:(((o:Int)+(z1:Int))/4294967296 != 0)=true:=by rw [bne_iff_ne];omega
       go_wp2_with fail
       go_quiet (fail)
       go_wp2_with fail;go_meet;obtain ⟨q1,q2⟩:=HD.o.2.over hoB HW.o.2.2
       exact ⟨g-1,o+z1,vint (by have:=HD.o.1;omega),vint (by omega),q1,HD.o.2.ge,q2,HI.drewN _⟩
   case rest =>
    obtain ⟨g,o,rfl,rfl,hgB,hg1,hg2,HI⟩:=hcut;clear HW horI HorI0 hcc0 hcc1 hcc2 hcz1 hcz2
    rcases Nat.eq_zero_or_pos g with hg0 | hg0
    ·subst hg0;go_wp2_with fail
     go_roundw
     case rel =>
      have hV:0<N*2^L*4294967296^j:=by
       rcases Nat.eq_zero_or_pos (N*2^L*4294967296^j) with h0 | h0
       ·have:=HI.lt;rw [Nat.pow_succ,←Nat.mul_assoc,h0] at this;omega
       ·exact h0
      refine ⟨j,u,q,rfl,by omega,fun i hi=>HI.low i (by omega),?_,HI.val,HI.ou,HI.oq⟩
      exact (Nat.div_eq_zero_iff_lt hV).1 (Nat.le_zero.1 hg1)
     case measure=>simp [intOf]
    ·have hgn:((g:Int)==0)=false:=by simp;omega
     have hck:=HI.ou.ext;go_wp2_with fail;refine (take_core bu (n+1) j _ _ bv ov cv u v nv g w3 _ (by rw [Hbu.o];exact Nat.le_refl _) (by omega) (by omega) hgB Hvn (hid fun _=>rfl) (hid Hvv.o.dig) Hcv HI.ou).mono ?_;rintro e w7 ⟨neg,u7,rfl,hO7,hoth7,hsame7,hval7⟩;have Hoth7:=hid hoth7;have Hsame7:=hid hsame7;have Hval7:=hid hval7;clear hoth7 hsame7 hval7;have hq7:=HI.oq.grow (Hoth7.o bq (by omega)) hO7.ext
     cases neg
     ·have hqc:=hq7.cell (k:=j) (by omega);rw [HI.low j (by omega)] at hqc;have hqf:=hq7.free j;go_wp2_with fail
      go_roundw
      case rel =>
       have hV:0<N*2^L*4294967296^j:=by
        rcases Nat.eq_zero_or_pos (N*2^L*4294967296^j) with h0 | h0
        ·have:=HI.lt;rw [Nat.pow_succ,←Nat.mul_assoc,h0] at this;omega
        ·exact h0
       have hv7:=Hval7.o;rw [Hvd.o,Nat.mul_assoc] at hv7;obtain ⟨r1,r2⟩:=guess_right (P:=1) hV rfl hg1 hg2 (by simpa using hv7)
       exact ⟨j,u7,q.set j g,rfl,HI.step (by omega) (by rw [Hbu.o];omega) hO7 hq7 r1 hgB (by rw [r1,Nat.mul_assoc];exact r2) _ rfl⟩
      case measure=>simp [intOf]
     ·go_wp2_with fail;refine (give_core bu (n+1) j _ _ bv ov cv u7 v nv w3 _ (by rw [Hbu.o];exact Nat.le_refl _) (by omega) (by omega) Hvn (hid fun _=>rfl) (hid Hvv.o.dig) Hcv hO7).mono ?_;rintro e w8 ⟨ov8,u8,rfl,hO8,hoth8,hsame8,hval8⟩;have Hoth8:=hid hoth8;have Hsame8:=hid hsame8;have Hval8:=hid hval8;clear hoth8 hsame8 hval8;have hq8:=hq7.grow (Hoth8.o bq (by omega)) hO8.ext;have hqc:=hq8.cell (k:=j) (by omega);rw [HI.low j (by omega)] at hqc;have hqf:=hq8.free j;go_wp2_with fail
      go_roundw
      case rel =>
       have hV:0<N*2^L*4294967296^j:=by
        rcases Nat.eq_zero_or_pos (N*2^L*4294967296^j) with h0 | h0
        ·have:=HI.lt;rw [Nat.pow_succ,←Nat.mul_assoc,h0] at this;omega
        ·exact h0
       have hv7:=Hval7.o;rw [Hvd.o,Nat.mul_assoc] at hv7;have hv8:=Hval8.o;rw [Hvd.o] at hv8;have hz:∀ (o:List Nat),o.length=n+1→Dig 4294967296 o→(∀ i,j+nv+1≤i→o.getD i 0=0)→dv 4294967296 o<4294967296^(j+nv+1):=fun o _ ho hi=>Zero.dv_lt (by decide) ho hi;have hvl:=Vn.dv_lt (by decide) Hvv.o.dig;rw [Hvn.o,Hvd.o] at hvl;have hD:dv 4294967296 u<4294967296^(j+nv+1):=by
        refine Nat.lt_of_lt_of_le HI.lt ?_
        have:=Nat.mul_le_mul_right (4294967296^(j+1)) (Nat.le_of_lt hvl)
        rwa [←Nat.pow_add,show nv+(j+1)=j+nv+1 by omega] at this
       have hu0:=zero_of_lt (B:=4294967296) (by decide) hD;have hd7:=hz u7 hO7.len hO7.dig (fun i hi=>(Hsame7.o i (.inr hi)).trans (hu0 i hi));have hd8:=hz u8 hO8.len hO8.dig (fun i hi=>(Hsame8.o i (.inr hi)).trans ((Hsame7.o i (.inr hi)).trans (hu0 i hi)));obtain ⟨r1,r2⟩:=guess_over hV rfl hg1 hg2 (by simpa using hv7) hv8 hD hd7 hd8
       exact ⟨j,u8,q.set j (g-1),rfl,HI.step (by omega) (by rw [Hbu.o];omega) hO8 hq8 r1 (by omega) (by rw [r1,Nat.mul_assoc];exact r2) _ (by omega)⟩
      case measure=>simp [intOf]
theorem div_lt (ax ay:Option Addr) (cx cy n m M N K:Nat) (w:World)
  (HX:Hid (NatV w (.slice ax n cx) M)) (HY:Hid (NatV w (.slice ay m cy) N)) (SX:Hid (Sm K M)) (SY:Hid (Sm K N)) (HK:Hid (K≤50000000)) (hc:decide (cmpN M N<0)=true) :
  Calls Tryz.prog 210 #[.slice ax n cx,.slice ay m cy] w fun e w'=>e=.returned (.tuple #[.slice none 0 0,.slice ax n cx])∧Ext w w':=by
 go_enter Tryz.func210,Tryz.ntmps210
 go_wp2_with fail
 go_step3
 go_wp2_with (go_at_call 54;refine (cmp_c _ _ M N K _ HX.o HY.o SX.o SY.o (by have:=HK.o;omega)).mono ?_;rintro e w1 ⟨rfl,hb1⟩)
 (try rw [Exit.noGoto_ret])
 go_ret2
 exact ⟨rfl,hb1⟩
theorem div_one (ax ay:Option Addr) (by_ oy cx cy n d M N K:Nat) (w:World) (hd0:0<d) (hd1:d<4294967296) (Hay:Hid (ay=some ⟨by_,oy,none⟩)) (hcell:w.cell? ⟨by_,oy,none⟩=some (.int .u32 d))
  (HX:Hid (NatV w (.slice ax n cx) M)) (HY:Hid (NatV w (.slice ay 1 cy) N)) (SX:Hid (Sm K M)) (SY:Hid (Sm K N)) (HK:Hid (K≤50000000)) (hc:decide (cmpN M N<0)=false) :
  Calls Tryz.prog 210 #[.slice ax n cx,.slice ay 1 cy] w fun e w'=>∃ a1 k1 c1 a2 k2 c2,e=.returned (.tuple #[.slice a1 k1 c1,.slice a2 k2 c2])∧NatV w' (.slice a1 k1 c1) (M/d)∧NatV w' (.slice a2 k2 c2) (M%d)∧Ext w w':=by
 obtain rfl:=Hay.o;have Hcell:=hid hcell;clear hcell
 go_enter Tryz.func210,Tryz.ntmps210
 go_wp2_with fail
 go_step3
 go_wp2_with (go_at_call 54;refine (cmp_c _ _ M N K _ HX.o HY.o SX.o SY.o (by have:=HK.o;omega)).mono ?_;rintro e w1 ⟨rfl,hb1⟩;have hcell1:=hb1.cell Hcell.o)
 refine (small_c _ M K d _ (HX.o.ext hb1) SX.o (by have:=HK.o;omega) hd0 hd1).mono ?_;rintro e w2 ⟨a2,n2,c2,rfl,h2,hb2⟩;have hr:M%d<4294967296:=Nat.lt_trans (Nat.mod_lt _ hd0) hd1;obtain ⟨r,hr2⟩:∃ r,r=M%d:=⟨_,rfl⟩;rw [←hr2] at hr ⊢;have Hr:=hid hr2;clear hr2;go_wp2_with fail;refine (of_c _ _ (by omega) (by omega)).mono ?_;rintro e w3 ⟨a3,n3,c3,rfl,h3,hb3⟩;go_wp2_with fail
 (try rw [Exit.noGoto_ret])
 go_ret2;rw [Int.toNat_natCast] at h3;rw [Hr.o] at h3
 exact ⟨a2,n2,c2,a3,n3,c3,rfl,h2.ext hb3,h3,hb1.trans (hb2.trans hb3)⟩
theorem div_c (x y:Value) (M N K:Nat) (w:World) (hx:NatV w x M) (hy:NatV w y N) (sx:Sm K M) (sy:Sm K N) (hK:K≤50000000) (hN:0<N) :
  Calls Tryz.prog 210 #[x,y] w fun e w'=>∃ a1 k1 c1 a2 k2 c2,e=.returned (.tuple #[.slice a1 k1 c1,.slice a2 k2 c2])∧NatV w' (.slice a1 k1 c1) (M/N)∧NatV w' (.slice a2 k2 c2) (M%N)∧Ext w w':=by
 obtain ⟨a,b,off,n,cap,l,rfl,h1,h2,h3,h4,h5,h6,h7,h8⟩:=hx.open;obtain ⟨a',b',off',n',cap',l',rfl,h1',h2',h3',h4',h5',h6',h7',h8'⟩:=hy.open;have e1:=sx.len h5.o h6.o;rw [h3.o] at e1
 rcases Nat.lt_or_ge M N with hlt | hge
 ·refine (div_lt a a' cap cap' n n' M N K w (hid hx) (hid hy) (hid sx) (hid sy) (hid hK) (by rw [cmpN_lt hlt];rfl)).mono ?_;rintro e w' ⟨rfl,hb⟩;refine ⟨none,0,0,a,n,cap,rfl,?_,?_,hb⟩
  ·rw [Nat.div_eq_of_lt hlt];exact NatV.zero _
  ·rw [Nat.mod_eq_of_lt hlt];exact hx.ext hb
 ·have hc:decide (cmpN M N<0)=false:=by
   rcases Nat.eq_or_lt_of_le hge with h | h
   ·rw [cmpN_eq h.symm];rfl
   ·rw [cmpN_gt h];rfl
  have hlen:n'≤n:=by
   have:=norm_len h5'.out h5.o (by rw [h6.o,h6'.out];exact hge)
   rwa [h3.o,h3'.out] at this
  have hn':0<n':=by
   rcases Nat.eq_zero_or_pos n' with h | h
   ·subst h
    have:l'=[]:=List.eq_nil_of_length_eq_zero h3'.out
    have h9:=h6'.out;rw [this] at h9
    simp [dv] at h9;omega
   ·exact h
  rcases Nat.eq_or_lt_of_le (show 1≤n' by omega) with h | h
  ·subst h;have hl':l'=[N]:=by
    have hl:=h3'.out;have hv:=h6'.out
    match l',hl with
    | [d],_=>simp [dv] at hv;rw [hv]
   have hd:N<4294967296:=by
    have:=h5'.out.dig
    rw [hl'] at this
    exact this N (by simp)
   have hc':=h7'.out 0 (by omega);rw [hl'] at hc'
   exact div_one a a' b' off' cap cap' n N M N K w hN hd (hid (h4'.out (by omega))) (by simpa using hc') (hid hx) (hid hy) (hid sx) (hid sy) (hid hK) hc
  ·exact div_core a a' cap b' off' cap' l l' n n' M N K w h3 h3' h hlen (by omega) h4' h5 h5' h7' (hid hx) (hid hy) (hid sx) (hid sy) (hid hK) h6 h6' hc
theorem NatV.len0 {w:World} {a:Option Addr} {n cap N:Nat} (h:NatV w (.slice a n cap) N):n=0↔N=0:=by
 obtain ⟨b,off,l,h1,h2,h3,h4,h5,h6,h7,h8⟩:=h.opens;have hl:=h3.o;have hv:=h6.o
 constructor
 ·intro h0
  have:l=[]:=List.eq_nil_of_length_eq_zero (by omega)
  rw [←hv,this];rfl
 ·intro h0
  have:=h5.o.zero (by decide) (by omega)
  rw [this] at hl;simpa using hl.symm
theorem NatV.shape {w:World} {v:Value} {N:Nat} (h:NatV w v N):∃ a n cap,v=.slice a n cap:=by
 obtain ⟨a,b,off,n,cap,l,h1,_⟩:=h.open
 exact ⟨a,n,cap,h1⟩
theorem Sm.of_le {K m n:Nat} (h:Sm K n) (hle:m≤n):Sm K m:=Nat.lt_of_le_of_lt hle h
theorem gcd_c (x y:Value) (M N K:Nat) (w:World) (hx:NatV w x M) (hy:NatV w y N) (sx:Sm K M) (sy:Sm K N) (hK:K≤50000000) :
  Calls Tryz.prog 179 #[x,y] w fun e w'=>∃ a k c,e=.returned (.slice a k c)∧NatV w' (.slice a k c) (Nat.gcd M N)∧Ext w w':=by
 obtain ⟨ax,nx,cx,rfl⟩:=hx.shape;obtain ⟨ay,ny,cy,rfl⟩:=hy.shape;have Hx:=hid hx;have Hy:=hid hy;have Sx:=hid sx;have Sy:=hid sy;clear hx hy sx sy
 go_enter Tryz.func179,Tryz.ntmps179
 go_wp2
 go_loopg [0,1] N (fun k p q wr=>∃ A a1 n1 c1 a2 n2 c2,p=.slice a1 n1 c1∧q=.slice a2 n2 c2∧Hid (NatV wr p A)∧Hid (NatV wr q k)∧Hid (Sm K A)∧Hid (Sm K k)∧Hid (Nat.gcd A k=Nat.gcd M N)∧Hid (Ext w wr))
 case atStart=>exact ⟨M,ax,nx,cx,ay,ny,cy,rfl,rfl,Hx,Hy,Sx,Sy,hid rfl,hid (Below.refl _ _)⟩
 case round =>
  obtain ⟨A,a1,n1,c1,a2,n2,c2,rfl,rfl,HA,Hk,SA,Sk,HG,HE⟩:=hrel;have hlen:=Hk.o.len0
  rcases Nat.eq_zero_or_pos gk with h0 | h0
  ·obtain rfl:n2=0:=hlen.2 h0;have hd:decide ((0:Int)<0)=false:=by decide
   clear hlen;have H0:=hid h0;clear h0
   go_wp2
   go_ret;have hg:=HG.o;rw [H0.o,Nat.gcd_zero_right] at hg
   exact ⟨a1,n1,c1,rfl,by rw [←hg];exact HA.o,HE.o⟩
  ·have hn2:0<n2:=by
    rcases Nat.eq_zero_or_pos n2 with h | h
    ·have:=hlen.1 h;omega
    ·exact h
   clear hlen;have hd:decide ((0:Int)<(n2:Int))=true:=decide_eq_true (by omega);go_wp2_with fail;refine (div_c _ _ A gk K _ HA.o Hk.o SA.o Sk.o hK h0).mono ?_;rintro e w2 ⟨a3,n3,c3,a4,n4,c4,rfl,h3,h4,hb⟩;have H3:=hid h3;have H4:=hid h4;have Hb:=hid hb;clear h3 h4 hb;go_wp2_with fail
   go_roundg (A%gk)
   case measure=>exact Nat.mod_lt _ h0
   case rel=>exact ⟨gk,a2,n2,c2,a4,n4,c4,rfl,rfl,hid (Hk.o.ext Hb.o),H4,Sk,hid (Sk.o.of_le (Nat.le_of_lt (Nat.mod_lt _ h0))),hid (by rw [←HG.o,Nat.gcd_comm A gk,Nat.gcd_rec gk A,Nat.gcd_comm]),hid (HE.o.trans Hb.o)⟩
end Go.Proofs.YtoaoebimjmjpeaaGreatDoor
