/- exact: the decimal text of whatever natural number above 0. -/
import Derived.Laws.AppendOwn
import Derived.Maps.AppendAt
import Derived.RangeFuncBox
import Derived.Test.YtoaoebimjmjpeaaGreatDoorT28
import Derived.Test.YtoaoebimjmjpeaaGreatDoorT29
namespace Go.Proofs.YtoaoebimjmjpeaaGreatDoor
open Go.RowKit Vn
set_option maxRecDepth 100000
set_option maxHeartbeats 8000000
theorem infoStr:(Tryz.prog.info? 9).map (fun i=>(i.zero,i.size,i.bytes))=some (some (.string ByteArray.empty),1,16):=by kernel_rfl
theorem dar_size (l:List UInt8):(ByteArray.mk l.toArray).size=l.length:=by simp [ByteArray.size]
def strOf (l:List UInt8):Value:=.string ⟨l.toArray⟩
theorem SlAt.grown {T U:TypeId} {k:IntKind} {w w':World} {v:Value} {l:List Nat} {row:Option Nat} (h:SlAt T k w v l) (hg:w.grownBy w' row)
  (hr:∀ g,row=some g→∃ c fr,w.heap[g]?=some (.cells c U fr)) (hU:U≠T):SlAt T k w' v l:=by
 obtain ⟨a,b,off,cap,h1,h2,h3,h4,cur,fr',h5,h6⟩:=h;refine ⟨a,b,off,cap,h1,h2,h3,h4,cur,fr',fun h => ?_,h6⟩;have h7:=h5 h;rw [hg.block b (cell_lt h7) ?_]
 ·exact h7
 ·intro e
  obtain ⟨c,fr,h8⟩:=hr b e.symm;rw [h7] at h8
  simp at h8
  exact hU h8.2.1.symm
theorem NatV.grown {U:TypeId} {w w':World} {v:Value} {N:Nat} {row:Option Nat} (h:NatV w v N) (hg:w.grownBy w' row)
  (hr:∀ g,row=Option.some g→∃ c fr,w.heap[g]?=Option.some (Obj.cells c U fr)) (hU:U≠240):NatV w' v N:=by
 obtain ⟨l,h1,h2,h3⟩:=h
 exact ⟨l,h1,h2,h3.grown hg hr hU⟩
theorem ownsRow_ext {w w':World} {base:Nat} {e:TypeId} {size:Nat} {v:Value} {n:Nat} {xs:List Value} (h:w.ownsRow base e size v n xs) (g:Ext w w'):w'.ownsRow base e size v n xs:=by
 refine ⟨h.1,?_⟩
 rcases h.2 with h0 | ⟨b,cap,cur,h1,h2,h3,h4⟩
 ·exact .inl h0
 ·exact .inr ⟨b,cap,cur,h1,h2,g.heap h3,h4⟩
theorem ownsRow_row {w:World} {base:Nat} {e:TypeId} {size:Nat} {v:Value} {n:Nat} {xs:List Value} (h:w.ownsRow base e size v n xs):∀ g,v.ownBlock=some g→∃ c fr,w.heap[g]?=some (.cells c e fr):=by
 intro g hg
 rcases h.2 with ⟨rfl,_⟩ | ⟨b,cap,cur,rfl,h2,h3,h4⟩
 ·cases hg
 ·cases hg;exact ⟨cur,_,h3⟩
theorem ownsRow_shape {w:World} {base:Nat} {e:TypeId} {size:Nat} {v:Value} {n:Nat} {xs:List Value} (h:w.ownsRow base e size v n xs):∃ a cap,v=.slice a n cap:=by
 rcases h.2 with ⟨h1,h2⟩ | ⟨b,cap,cur,h1,_⟩
 ·subst h2;exact ⟨none,0,h1⟩
 ·exact ⟨_,cap,h1⟩
theorem ownsRow_get {w:World} {base:Nat} {e:TypeId} {v:Value} {n:Nat} {xs:List Value} (h:w.ownsRow base e 1 v n xs) (hn:0<n):∃ g cap,v=.slice (some ⟨g,0,none⟩) n cap∧∀ i x,xs[i]?=some x→w.cell? ⟨g,i,none⟩=some x:=by
 rcases h.2 with ⟨h1,h2⟩ | ⟨b,cap,cur,h1,h2,h3,h4,h5,h6,h7⟩
 ·omega
 ·refine ⟨b,cap,h1,fun i x hx => ?_⟩;have hl:i<xs.length:=(List.getElem?_eq_some_iff.1 hx).1
  have:cur[i]?=some x:=by
   rw [←hx,←h7,←Array.getElem?_toList,List.getElem?_take,if_pos (by rw [h.1] at hl;exact hl)]
  simp [World.cell?,h3,this]
def TextA (w:World) (n K m:Nat) (t p:Value) (wr:World):Prop :=
 Ext w wr∧NatV wr t m∧∃ ds:List (List UInt8),wr.ownsRow w.heap.size 9 1 p ds.length (ds.map strOf)∧Groups n m ds∧m*2^ds.length≤n∧ds.length≤K
theorem textA_more {n K m:Nat} {k:Nat} (hn:n<2^K) (hm:0<m) (h:m*2^k≤n):k<K:=by
 have h1:1*2^k≤m*2^k:=Nat.mul_le_mul_right _ hm
 rcases Nat.lt_or_ge k K with h2 | h2
 ·exact h2
 ·have:=Nat.pow_le_pow_right (n:=2) (by decide) h2
  omega
theorem textA_next {n m k:Nat} (h:m*2^k≤n):m/1000000000*2^(k+1)≤n:=by
 have h1:m/1000000000*2≤m:=by omega
 have h2:m/1000000000*2*2^k≤m*2^k:=Nat.mul_le_mul_right _ h1;have e:m/1000000000*2^(k+1)=m/1000000000*2*2^k:=by rw [Nat.pow_succ',Nat.mul_assoc]
 omega
def TextB (w:World) (b:Nat) (ds:List (List UInt8)) (k:Nat) (wr:World):Prop :=
 Ext w wr∧Lib.IsBuilderF 278 5 w.heap.size b (Lib.byteCells ((ds.drop k).reverse.flatten)) wr
theorem drop_flat {ds:List (List UInt8)} {j:Nat} {d:List UInt8} (h:ds[j]?=some d):(ds.drop j).reverse.flatten=(ds.drop (j+1)).reverse.flatten++d:=by
 obtain ⟨hj,rfl⟩:=List.getElem?_eq_some_iff.1 h;rw [List.drop_eq_getElem_cons hj,List.reverse_cons,List.flatten_append,List.flatten_singleton]
theorem flat_len {ds:List (List UInt8)} {j:Nat}:((ds.drop j).reverse.flatten).length≤(ds.reverse.flatten).length:=by
 conv=>rhs;rw [←List.take_append_drop j ds]
 rw [List.reverse_append,List.flatten_append,List.length_append]
 exact Nat.le_add_right _ _
theorem dec_len_bits {n K:Nat} (hK:1≤K) (h:n<2^K):(Lib.decDigits n).length≤K:=dec_len_pow hK (Nat.lt_of_lt_of_le h (Nat.pow_le_pow_left (by decide) K))
theorem dec_ne (n:Nat):Lib.decDigits n≠[]:=by
 intro h
 have h1:=Lib.decDigits_length n;have h2:=Lib.nDigits_pos n;rw [h] at h1
 simp at h1
 omega
theorem repeat48:∀ c,Lib.repeatL [48] c=List.replicate c 48
 | 0=>rfl
 | c+1=>by rw [Lib.repeatL,repeat48 c,List.replicate_succ];rfl
theorem textA_append {w w2 w3:World} {n K m L:Nat} {ds:List (List UInt8)} {d:List UInt8} {S:ByteArray} {q p p':Value} (HE:Ext w w2) (HO:w2.ownsRow w.heap.size 9 1 p L (ds.map strOf)) (hL:L=ds.length)
  (hg:(w2.alloc (.cells #[.string S] 9)).grownBy w3 p.ownBlock) (hown:w3.ownsRow w.heap.size 9 1 p' (L+1) (ds.map strOf++[.string S])) (hq:NatV w2 q m) (hS:S=⟨d.toArray⟩)
  (G:Groups n m (ds++[d])) (hp:m*2^(L+1)≤n) (hK:L<K):TextA w n K m q p' w3:=by
 have ho2:=ownsRow_ext HO (Ext.alloc w2 (.cells #[.string S] 9));refine ⟨Below.grown (HE.trans (Ext.alloc w2 _)) hg (by have:=HE.size;simp;omega) (fun k hk=>(ho2.lt k hk).1),?_,ds++[d],?_,G,?_,?_⟩
 ·exact (hq.ext (Ext.alloc w2 _)).grown hg (ownsRow_row ho2) (by decide)
 ·subst hS hL;rw [List.length_append,List.length_singleton,List.map_append]
  exact hown
 ·rw [List.length_append,List.length_singleton,←hL];exact hp
 ·rw [List.length_append,List.length_singleton,←hL];exact hK
theorem textU_c (x:Value) (n K:Nat) (w:World) (hx:NatV w x n) (sx:Sm K n) (hK:K≤10000000) (h0:0<n) (hT:Tabs w) :
  Calls Tryz.prog 75 #[x] w fun e w'=>e=.returned (.string ⟨(Lib.decDigits n).toArray⟩)∧Ext w w':=by
 obtain ⟨i0,hi,hz0,hz1,hz2⟩:=info_parts infoStr;obtain ⟨a,k,c,rfl⟩:=hx.shape;have hkb:(((k:Nat):Int)==0)=false:=by have:=hx.len0;simp;omega
 have hn:n<2^K:=sx;have hK1:1≤K:=by
  rcases Nat.eq_zero_or_pos K with e | e
  ·subst e;simp at hn;omega
  ·exact e
 have hlen:=dec_len_bits hK1 hn;have HN:=hid hn;have HX:=hid hx;have HT:=hid hT;have HL:=hid hlen;have H0:=hid h0;clear hn hx hT sx hlen h0
 go_enter Tryz.func75,Tryz.ntmps75
 go_wp2_with fail;clear hkb
 go_loopg [0,3] n (fun m t p wr=>∃ a1 n1 c1 a2 n2 c2,t=.slice a1 n1 c1∧p=.slice a2 n2 c2∧Hid (TextA w n K m t p wr))
 case atStart=>exact ⟨a,k,c,none,0,0,rfl,rfl,hid ⟨Below.refl _ _,HX.o,[],World.ownsRow_nil _ _ _ _,Groups.start n H0.o,by simp,Nat.zero_le _⟩⟩
 case round =>
  obtain ⟨a1,n1,c1,a2,n2,c2,rfl,rfl,HA⟩:=hrel;obtain ⟨hE,hv,ds,hown,hgr,hpow,hdk⟩:=HA.o;have HE:=hid hE;have HV:=hid hv;have HO:=hid hown;have HG:=hid hgr;have HP:=hid hpow;have HD:=hid hdk;have hlen:=hv.len0;have HT1:=hid (HT.o.ext hE);clear HA hv hown hgr hpow hdk
  rcases Nat.eq_zero_or_pos gk with hm | hm
  ·obtain rfl:n1=0:=hlen.2 hm;have hd:decide ((0:Int)<0)=false:=by decide
   subst hm;obtain ⟨a4,c4,hsh⟩:=ownsRow_shape HO.o;obtain ⟨rfl,rfl,rfl⟩:a2=a4∧n2=ds.length∧c2=c4:=by simpa using hsh
   have hD:Lib.decDigits n=ds.reverse.flatten:=HG.o.2 rfl;have HDD:=hid hD;clear hlen hsh hD;obtain ⟨L,hL⟩:∃ L,L=ds.length:=⟨_,rfl⟩;rw [←hL] at HO HD ⊢;obtain ⟨wrP,hwrP⟩:∃ x,x=wr:=⟨_,rfl⟩;subst hwrP;have hL8:=HD.o;have HLL:=hid hL;clear hL;go_wp2_with fail
   go_loopg [8] L (fun k i wq=>i=.int .i64 ((k:Int)-1)∧k≤L∧Hid (TextB wrP wrP.heap.size ds k wq))
   case atStart=>exact ⟨by go_num,Nat.le_refl _,hid ⟨Ext.alloc wrP _,by
    rw [HLL.o,List.drop_length]
    exact .inl ⟨Nat.le_refl _,_,Box.new wrP _ _,⟨rfl,.inl ⟨rfl,rfl⟩⟩,by simp [Value.ownBlock]⟩⟩⟩
   case round =>
    obtain ⟨rfl,hgk,HB⟩:=hrel;obtain ⟨hE2,hb⟩:=HB.o;clear HB
    rcases Nat.eq_zero_or_pos gk with h0 | h0
    ·subst h0;have hb2:Lib.IsBuilderF 278 5 wrP.heap.size wrP.heap.size (Lib.byteCells (Lib.decDigits n)) wr:=by rw [HDD.o];exact hb
     have e0:(((0:Nat):Int)-1) = -1:=by decide
     rw [e0];clear hb
     go_wp2_with (go_at_call 169;refine (Tryz.BString _ _ (Lib.decDigits n) _ hb2 (dec_ne n)).mono ?_;rintro e w5 ⟨rfl,g5⟩)
     refine bodyPost_ret (v:=.string ⟨(Lib.decDigits n).toArray⟩) (by simp [results,Tryz.results75,go_sem]) rfl ⟨rfl,Ext.trans hE (Below.trans hE2 g5)⟩
    ·obtain ⟨j,rfl⟩:∃ j,gk=j+1:=⟨gk-1,by omega⟩;have ej:(((j+1:Nat):Int)-1)=(j:Int):=by omega
     rw [ej];have hL0:0<L:=by omega
     obtain ⟨g',cap',hsh,hcells⟩:=ownsRow_get HO.o hL0;obtain ⟨d,hd'⟩:∃ d,ds[j]?=some d:=⟨ds[j]'(by have:=HLL.o;omega),List.getElem?_eq_getElem _⟩;have hcell:=hE2.cell (hcells j (strOf d) (by rw [List.getElem?_map,hd'];rfl));obtain ⟨rfl,rfl⟩:a2=some ⟨g',0,none⟩∧c2=cap':=by simpa using hsh
     have hz5:=hE2.size;have HD':=hid hd';have hjL:(j:Int)<(L:Int):=by omega
     have hj0:(0:Int)≤(j:Int):=by omega
     obtain ⟨S,hS⟩:∃ S:ByteArray,S=⟨d.toArray⟩:=⟨_,rfl⟩;have hsd:strOf d=.string S:=by rw [hS];rfl
     rw [hsd] at hcell;have HS:=hid hS;have CW:Hid (∀ w,Lib.IsBuilderF 278 5 wrP.heap.size wrP.heap.size (Lib.byteCells ((ds.drop (j+1)).reverse.flatten)) w→wrP.heap.size≤w.heap.size→Calls Tryz.prog 168 #[.pointer (some ⟨wrP.heap.size,0,none⟩),.string S] w fun e w'=>e=.returned (.tuple #[.int .i64 S.size,.nilIface])∧Lib.IsBuilderF 278 5 wrP.heap.size wrP.heap.size (Lib.byteCells ((ds.drop j).reverse.flatten)) w'∧Below wrP.heap.size w w'):=hid fun w h hz=>by
      have hl:(Lib.byteCells ((ds.drop (j+1)).reverse.flatten)).length+S.size≤140737488355328:=by
       have h1:=drop_flat hd';have h2:=flat_len (ds:=ds) (j:=j);rw [←HDD.o] at h2;have h3:=HL.o;rw [h1,List.length_append] at h2;rw [HS.o,dar_size,Lib.byteCells_length]
       omega
      refine (Tryz.WriteString _ _ _ S w h hl hz).mono fun e w' ⟨h1,h2,h3,_⟩=>⟨h1,.inr ?_,h3⟩;rw [drop_flat hd',Lib.byteCells,List.map_append];rw [HS.o] at h2
      exact h2
     clear hd' hsh hcells hsd hS
     go_wp2_with (go_at_call 168;refine (CW.o _ hb hz5).mono ?_;rintro e w5 ⟨rfl,hB5,g5⟩)
     go_roundg j
     case measure=>exact Nat.lt_succ_self j
     case rel=>exact ⟨by go_num,by omega,hid ⟨Below.trans hE2 g5,hB5⟩⟩
  ·have hn1:0<n1:=by
    rcases Nat.eq_zero_or_pos n1 with h | h
    ·have:=hlen.1 h;omega
    ·exact h
   clear hlen;have hd:decide ((0:Int)<(n1:Int))=true:=decide_eq_true (by omega);have CS:Hid (∀ w,NatV w (.slice a1 n1 c1) gk→_):=hid fun w h=>small_c _ gk K 1000000000 w h (Nat.lt_of_le_of_lt (by
    have:=HP.o
    exact Nat.le_trans (Nat.le_mul_of_pos_right _ (Nat.pow_pos (by decide))) this) HN.o) (by omega) (by decide) (by decide)
   go_wp2_with fail;refine (CS.o _ HV.o).mono ?_;rintro e w1 ⟨a3,n3,c3,rfl,kq,g1⟩;have KQ:=hid kq;have hl3:=kq.len0;clear kq;obtain ⟨r,hr⟩:∃ r,r=gk%1000000000:=⟨_,rfl⟩;rw [←hr];have hr9:r<1000000000:=by omega
   have HR:=hid hr;clear hr;have w1n:IntKind.u64.wrap (r:Int)=r:=IntWalk.u64_in _ (by omega);obtain ⟨S,hS⟩:∃ S:ByteArray,S=⟨(Lib.decDigits r).toArray⟩:=⟨_,rfl⟩;have hSl:S.size=(Lib.decDigits r).length:=by rw [hS,dar_size]
   have hS9:S.size≤9:=by rw [hSl];exact dec_len_pow (by decide) hr9
   have CF:Hid (∀ w,Tabs w→Calls Tryz.prog 166 #[.int .u64 r,.int .i64 10] w fun e w'=>e=.returned (.string S)∧Ext w w'):=hid fun w h=>by rw [hS];exact fmtU_c r w (by omega) h
   have HS:=hid hS;have HSL:=hid hSl;clear hS hSl;go_wp2_with fail;refine (CF.o _ (HT1.o.ext g1)).mono ?_;rintro e w2 ⟨rfl,g2⟩;have go2:=ownsRow_ext HO.o (g1.trans g2);have HO2:=hid go2;have HE2:=hid (HE.o.trans (g1.trans g2));have KQ2:=hid (KQ.o.ext g2);have hz2':=HE2.o.size;have hdk:=HD.o;obtain ⟨L,hL⟩:∃ L,L=ds.length:=⟨_,rfl⟩;rw [←hL] at HO2 hdk;have HLL:=hid hL;clear go2 g1 g2 hL HO KQ HE HV CF CS HT1;obtain ⟨a4,c4,hsh⟩:=ownsRow_shape HO2.o;obtain ⟨rfl,rfl,rfl⟩:a2=a4∧n2=L∧c2=c4:=by simpa using hsh
   clear hsh
   rcases Nat.eq_zero_or_pos (gk/1000000000) with hq | hq
   ·obtain rfl:n3=0:=hl3.2 hq;have hd2:decide ((0:Int)<0)=false:=by decide
    have HQ:=hid hq;clear hl3 hq
    go_wp2_with (at_builtin;refine wpList_append_own _ rfl _ _ 167 rfl w.heap.size 9 i0 (.string ByteArray.empty) 1 16 Tryz.underlying167 hi hz0 hz1 hz2 rfl (by decide) _ _ _ rfl (ownsRow_ext HO2.o (Ext.alloc _ _)) ⟨w2.heap.size,0,none⟩ 1 1 [.string S] rfl rfl (cell_one_new _ _ _) (fun x hx=>by simp at hx;subst hx;rfl) (by unfold maxLen;omega) (by omega) (by simp;omega) ?_;intro v' w3 hown' hgrow3 hnil3;obtain ⟨a5,c5,hsh5⟩:=ownsRow_shape hown';subst hsh5)
    go_roundg (gk/1000000000)
    case measure=>exact Nat.div_lt_self hm (by decide)
    case rel=>exact ⟨_,_,_,_,_,_,rfl,rfl,hid (textA_append HE2.o HO2.o HLL.o hgrow3 hown' KQ2.o HS.o (by
     have:=HG.o.last hm HQ.o
     rw [HQ.o,HR.o]
     exact this) (by have:=textA_next HP.o;rwa [HLL.o]) (by rw [HLL.o];exact textA_more HN.o hm HP.o))⟩
   ·have hn3:0<n3:=by
     rcases Nat.eq_zero_or_pos n3 with h | h
     ·have:=hl3.1 h;omega
     ·exact h
    have hd2:decide ((0:Int)<(n3:Int))=true:=decide_eq_true (by omega);have HQ:=hid hq;clear hl3 hq;have hrep:Hid (∃ R:ByteArray,R.size≤9∧R++S=⟨(List.replicate (9-(Lib.decDigits r).length) 48++Lib.decDigits r).toArray⟩∧∀ w,Calls Tryz.prog 167 #[.string ⟨#[48]⟩,.int .i64 (9-(S.size:Int))] w fun e w'=>e=.returned (.string R)∧Ext w w'):=hid ⟨⟨(List.replicate (9-S.size) 48).toArray⟩,by rw [dar_size,List.length_replicate];omega,by
      rw [HS.o,dar_size]
      apply ByteArray.ext
      simp,fun w=>by
     have h9:(9-(S.size:Int))=((9-S.size:Nat):Int):=by omega
     rw [h9]
     have:=Tryz.sRepeat ⟨#[48]⟩ (9-S.size) w (by omega) (by rw [show (ByteArray.mk #[48]).size=1 from rfl];omega)
     rw [show (ByteArray.mk #[48]).data.toList=[48] from rfl,repeat48] at this
     exact this⟩
    obtain ⟨R,hR9,hRS,CR⟩:=hrep.o;have CR2:=hid CR;have HRS:=hid hRS;clear hrep hRS CR;go_wp2_with fail;refine (CR2.o _).mono ?_;rintro e w4 ⟨rfl,g4⟩;have HO4:=hid (ownsRow_ext HO2.o g4);have HE4:=hid (HE2.o.trans g4);have KQ4:=hid (KQ2.o.ext g4);have hz4:=HE4.o.size;clear HO2 HE2 KQ2 g4 CR2
    go_wp2_with (at_builtin;refine wpList_append_own _ rfl _ _ 167 rfl w.heap.size 9 i0 (.string ByteArray.empty) 1 16 Tryz.underlying167 hi hz0 hz1 hz2 rfl (by decide) _ _ _ rfl (ownsRow_ext HO4.o (Ext.alloc _ _)) ⟨w4.heap.size,0,none⟩ 1 1 [.string (R++S)] rfl rfl (cell_one_new _ _ _) (fun x hx=>by simp at hx;subst hx;rfl) (by unfold maxLen;omega) (by omega) (by simp;omega) ?_;intro v' w3 hown' hgrow3 hnil3;obtain ⟨a5,c5,hsh5⟩:=ownsRow_shape hown';subst hsh5)
    go_roundg (gk/1000000000)
    case measure=>exact Nat.div_lt_self hm (by decide)
    case rel=>exact ⟨_,_,_,_,_,_,rfl,rfl,hid (textA_append HE4.o HO4.o HLL.o hgrow3 hown' KQ4.o HRS.o (by
     have:=HG.o.next HQ.o
     rw [HR.o]
     exact this) (by have:=textA_next HP.o;rwa [HLL.o]) (by rw [HLL.o];exact textA_more HN.o hm HP.o))⟩
theorem text0_c (a:Option Addr) (c:Nat) (w:World) :
  Calls Tryz.prog 75 #[.slice a 0 c] w fun e w'=>e=.returned (.string ⟨#[48]⟩)∧Ext w w':=by
 go_enter Tryz.func75,Tryz.ntmps75
 go_wp2_with fail;go_ret
 exact ⟨rfl,Below.refl _ _⟩
def decT (n:Nat):ByteArray:=⟨(Lib.decDigits n).toArray⟩
theorem decT_size {n K:Nat} (h:Sm K n):(decT n).size≤K+1:=by
 unfold decT;rw [dar_size]
 exact dec_len_bits (by omega) (Nat.lt_of_lt_of_le h (Nat.pow_le_pow_right (by decide) (Nat.le_succ K)))
theorem textN_c (x:Value) (n K:Nat) (w:World) (hx:NatV w x n) (sx:Sm K n) (hK:K≤10000000) (hT:Tabs w) :
  Calls Tryz.prog 75 #[x] w fun e w'=>e=.returned (.string (decT n))∧Ext w w':=by
 rcases Nat.eq_zero_or_pos n with h | h
 ·subst h;obtain ⟨a,k,c,rfl⟩:=hx.shape;obtain rfl:=hx.len0.2 rfl;have e:decT 0=⟨#[48]⟩:=by
   unfold decT;rw [Lib.decDigits_one (by decide)]
   rfl
  rw [e]
  exact text0_c a c w
 ·exact textU_c x n K w hx sx hK h hT
def numText (q:Rat):ByteArray:=(if q.num<0 then ⟨#[45]⟩++decT q.num.natAbs else decT q.num.natAbs)++(if q.den=1 then ByteArray.empty else ⟨#[47]⟩++decT q.den)
theorem ba_empty (a:ByteArray):a++ByteArray.empty=a:=by apply ByteArray.ext;simp
theorem Text_pw (v:Value) (q:Rat) (K:Nat) (w:World) (hv:NumV w v q) (sx:SmQ K q) (hK:K≤1000000) (hT:Tabs w) (hn:¬ q.num<0) (hd:q.den=1) :
  Calls Tryz.prog 21 #[v] w fun e w'=>e=.returned (.string (numText q))∧Ext w w':=by
 obtain ⟨a,k,c,a',k',c',rfl,h1,h2⟩:=hv;have e3:decide (q.num<0)=false:=by exact decide_eq_false hn
 rw [e3];obtain ⟨N,hN⟩:∃ N,N=decT q.num.natAbs:=⟨_,rfl⟩;have hNs:N.size≤1000001:=by rw [hN];have:=decT_size sx.1;omega
 have CN:Hid (∀ w v,NatV w v q.num.natAbs→Tabs w→Calls Tryz.prog 75 #[v] w fun e w'=>e=.returned (.string N)∧Ext w w'):=hid fun w v h hT=>by rw [hN];exact textN_c v _ K w h sx.1 (by omega) hT
 rcases h2 with ⟨_,rfl,rfl,rfl⟩ | ⟨h2,_⟩
 all_goals try exact absurd hd h2
 have hR:numText q=N:=by
  unfold numText;rw [if_neg hn,if_pos hd,ba_empty,←hN]
 rw [hR];have HT:=hid hT;have k1:=h1;clear e3 hn hd hN hR hT sx h1;have s45:(ByteArray.mk #[45]).size=1:=rfl;have s47:(ByteArray.mk #[47]).size=1:=rfl;have sA:(ByteArray.mk #[45]++N).size=1+N.size:=by rw [ByteArray.size_append];rfl
 obtain ⟨W0,hW0,g0,hz0,B_X⟩:=pro1 w #[.bool false,.slice a k c,.slice none 0 0] 49;have HE:=hid g0;have HB_X:=hid B_X;clear g0 B_X 
 go_enter Tryz.func21,Tryz.ntmps21
 go_wp2_with fail;rw [←hW0];clear hW0;replace k1:=k1.ext HE.o;refine (CN.o _ _ k1 (HT.o.ext HE.o)).mono ?_;rintro e w1 ⟨rfl,g1⟩;have hz_w1:=g1.size;replace HE:=hid (HE.o.trans g1);replace HB_X:=hid (HB_X.o.ext g1);replace k1:=k1.ext g1;obtain ⟨J1,J2,J3⟩:=HB_X.o.c3;go_wp2_with fail;clear J1 J2 J3;refine bodyPost_ret (v:=.string N) (by simp [results,Tryz.results21,go_sem]) rfl ⟨rfl,HE.o⟩
theorem Text_pq (v:Value) (q:Rat) (K:Nat) (w:World) (hv:NumV w v q) (sx:SmQ K q) (hK:K≤1000000) (hT:Tabs w) (hn:¬ q.num<0) (hd:¬ q.den=1) :
  Calls Tryz.prog 21 #[v] w fun e w'=>e=.returned (.string (numText q))∧Ext w w':=by
 obtain ⟨a,k,c,a',k',c',rfl,h1,h2⟩:=hv;have e3:decide (q.num<0)=false:=by exact decide_eq_false hn
 rw [e3];obtain ⟨N,hN⟩:∃ N,N=decT q.num.natAbs:=⟨_,rfl⟩;have hNs:N.size≤1000001:=by rw [hN];have:=decT_size sx.1;omega
 have CN:Hid (∀ w v,NatV w v q.num.natAbs→Tabs w→Calls Tryz.prog 75 #[v] w fun e w'=>e=.returned (.string N)∧Ext w w'):=hid fun w v h hT=>by rw [hN];exact textN_c v _ K w h sx.1 (by omega) hT
 rcases h2 with ⟨h2,_⟩ | ⟨_,h2,h3⟩
 ·exact absurd h2 hd
 obtain ⟨ad,rfl⟩:=Option.isSome_iff_exists.1 h2;obtain ⟨D,hD⟩:∃ D,D=decT q.den:=⟨_,rfl⟩;have hDs:D.size≤1000001:=by rw [hD];have:=decT_size sx.2;omega
 have CD:Hid (∀ w v,NatV w v q.den→Tabs w→Calls Tryz.prog 75 #[v] w fun e w'=>e=.returned (.string D)∧Ext w w'):=hid fun w v h hT=>by rw [hD];exact textN_c v _ K w h sx.2 (by omega) hT
 have k2:=h3;have hR:numText q=(N++(⟨#[47]⟩++D)):=by
  unfold numText;rw [if_neg hn,if_neg hd,←hN,←hD]
 rw [hR];have HT:=hid hT;have k1:=h1;clear e3 hn hd hN hR hT sx h1 hD h3 h2;have s45:(ByteArray.mk #[45]).size=1:=rfl;have s47:(ByteArray.mk #[47]).size=1:=rfl;have sA:(ByteArray.mk #[45]++N).size=1+N.size:=by rw [ByteArray.size_append];rfl
 have sB:(ByteArray.mk #[47]++D).size=1+D.size:=by rw [ByteArray.size_append];rfl
 obtain ⟨W0,hW0,g0,hz0,B_X⟩:=pro1 w #[.bool false,.slice a k c,.slice (some ad) k' c'] 49;have HE:=hid g0;have HB_X:=hid B_X;clear g0 B_X 
 go_enter Tryz.func21,Tryz.ntmps21
 go_wp2_with fail;rw [←hW0];clear hW0;replace k1:=k1.ext HE.o;replace k2:=k2.ext HE.o;refine (CN.o _ _ k1 (HT.o.ext HE.o)).mono ?_;rintro e w1 ⟨rfl,g1⟩;have hz_w1:=g1.size;replace HE:=hid (HE.o.trans g1);replace HB_X:=hid (HB_X.o.ext g1);replace k1:=k1.ext g1;replace k2:=k2.ext g1;obtain ⟨J1,J2,J3⟩:=HB_X.o.c3;go_wp2_with fail;clear J1 J2 J3;refine (CD.o _ _ k2 (HT.o.ext HE.o)).mono ?_;rintro e w2 ⟨rfl,g2⟩;have hz_w2:=g2.size;replace HE:=hid (HE.o.trans g2);replace HB_X:=hid (HB_X.o.ext g2);replace k1:=k1.ext g2;replace k2:=k2.ext g2;obtain ⟨J4,J5,J6⟩:=HB_X.o.c3;go_wp2_with fail;clear J4 J5 J6;refine bodyPost_ret (v:=.string (N++(⟨#[47]⟩++D))) (by simp [results,Tryz.results21,go_sem]) rfl ⟨rfl,HE.o⟩
theorem Text_nw (v:Value) (q:Rat) (K:Nat) (w:World) (hv:NumV w v q) (sx:SmQ K q) (hK:K≤1000000) (hT:Tabs w) (hn:q.num<0) (hd:q.den=1) :
  Calls Tryz.prog 21 #[v] w fun e w'=>e=.returned (.string (numText q))∧Ext w w':=by
 obtain ⟨a,k,c,a',k',c',rfl,h1,h2⟩:=hv;have e3:decide (q.num<0)=true:=by exact decide_eq_true hn
 rw [e3];obtain ⟨N,hN⟩:∃ N,N=decT q.num.natAbs:=⟨_,rfl⟩;have hNs:N.size≤1000001:=by rw [hN];have:=decT_size sx.1;omega
 have CN:Hid (∀ w v,NatV w v q.num.natAbs→Tabs w→Calls Tryz.prog 75 #[v] w fun e w'=>e=.returned (.string N)∧Ext w w'):=hid fun w v h hT=>by rw [hN];exact textN_c v _ K w h sx.1 (by omega) hT
 rcases h2 with ⟨_,rfl,rfl,rfl⟩ | ⟨h2,_⟩
 all_goals try exact absurd hd h2
 have hR:numText q=(⟨#[45]⟩++N):=by
  unfold numText;rw [if_pos hn,if_pos hd,ba_empty,←hN]
 rw [hR];have HT:=hid hT;have k1:=h1;clear e3 hn hd hN hR hT sx h1;have s45:(ByteArray.mk #[45]).size=1:=rfl;have s47:(ByteArray.mk #[47]).size=1:=rfl;have sA:(ByteArray.mk #[45]++N).size=1+N.size:=by rw [ByteArray.size_append];rfl
 obtain ⟨W0,hW0,g0,hz0,B_X⟩:=pro1 w #[.bool true,.slice a k c,.slice none 0 0] 49;have HE:=hid g0;have HB_X:=hid B_X;clear g0 B_X 
 go_enter Tryz.func21,Tryz.ntmps21
 go_wp2_with fail;rw [←hW0];clear hW0;replace k1:=k1.ext HE.o;refine (CN.o _ _ k1 (HT.o.ext HE.o)).mono ?_;rintro e w1 ⟨rfl,g1⟩;have hz_w1:=g1.size;replace HE:=hid (HE.o.trans g1);replace HB_X:=hid (HB_X.o.ext g1);replace k1:=k1.ext g1;obtain ⟨J1,J2,J3⟩:=HB_X.o.c3;go_wp2_with fail;clear J1 J2 J3;refine bodyPost_ret (v:=.string (⟨#[45]⟩++N)) (by simp [results,Tryz.results21,go_sem]) rfl ⟨rfl,HE.o⟩
theorem Text_nq (v:Value) (q:Rat) (K:Nat) (w:World) (hv:NumV w v q) (sx:SmQ K q) (hK:K≤1000000) (hT:Tabs w) (hn:q.num<0) (hd:¬ q.den=1) :
  Calls Tryz.prog 21 #[v] w fun e w'=>e=.returned (.string (numText q))∧Ext w w':=by
 obtain ⟨a,k,c,a',k',c',rfl,h1,h2⟩:=hv;have e3:decide (q.num<0)=true:=by exact decide_eq_true hn
 rw [e3];obtain ⟨N,hN⟩:∃ N,N=decT q.num.natAbs:=⟨_,rfl⟩;have hNs:N.size≤1000001:=by rw [hN];have:=decT_size sx.1;omega
 have CN:Hid (∀ w v,NatV w v q.num.natAbs→Tabs w→Calls Tryz.prog 75 #[v] w fun e w'=>e=.returned (.string N)∧Ext w w'):=hid fun w v h hT=>by rw [hN];exact textN_c v _ K w h sx.1 (by omega) hT
 rcases h2 with ⟨h2,_⟩ | ⟨_,h2,h3⟩
 ·exact absurd h2 hd
 obtain ⟨ad,rfl⟩:=Option.isSome_iff_exists.1 h2;obtain ⟨D,hD⟩:∃ D,D=decT q.den:=⟨_,rfl⟩;have hDs:D.size≤1000001:=by rw [hD];have:=decT_size sx.2;omega
 have CD:Hid (∀ w v,NatV w v q.den→Tabs w→Calls Tryz.prog 75 #[v] w fun e w'=>e=.returned (.string D)∧Ext w w'):=hid fun w v h hT=>by rw [hD];exact textN_c v _ K w h sx.2 (by omega) hT
 have k2:=h3;have hR:numText q=((⟨#[45]⟩++N)++(⟨#[47]⟩++D)):=by
  unfold numText;rw [if_pos hn,if_neg hd,←hN,←hD]
 rw [hR];have HT:=hid hT;have k1:=h1;clear e3 hn hd hN hR hT sx h1 hD h3 h2;have s45:(ByteArray.mk #[45]).size=1:=rfl;have s47:(ByteArray.mk #[47]).size=1:=rfl;have sA:(ByteArray.mk #[45]++N).size=1+N.size:=by rw [ByteArray.size_append];rfl
 have sB:(ByteArray.mk #[47]++D).size=1+D.size:=by rw [ByteArray.size_append];rfl
 obtain ⟨W0,hW0,g0,hz0,B_X⟩:=pro1 w #[.bool true,.slice a k c,.slice (some ad) k' c'] 49;have HE:=hid g0;have HB_X:=hid B_X;clear g0 B_X 
 go_enter Tryz.func21,Tryz.ntmps21
 go_wp2_with fail;rw [←hW0];clear hW0;replace k1:=k1.ext HE.o;replace k2:=k2.ext HE.o;refine (CN.o _ _ k1 (HT.o.ext HE.o)).mono ?_;rintro e w1 ⟨rfl,g1⟩;have hz_w1:=g1.size;replace HE:=hid (HE.o.trans g1);replace HB_X:=hid (HB_X.o.ext g1);replace k1:=k1.ext g1;replace k2:=k2.ext g1;obtain ⟨J1,J2,J3⟩:=HB_X.o.c3;go_wp2_with fail;clear J1 J2 J3;refine (CD.o _ _ k2 (HT.o.ext HE.o)).mono ?_;rintro e w2 ⟨rfl,g2⟩;have hz_w2:=g2.size;replace HE:=hid (HE.o.trans g2);replace HB_X:=hid (HB_X.o.ext g2);replace k1:=k1.ext g2;replace k2:=k2.ext g2;obtain ⟨J4,J5,J6⟩:=HB_X.o.c3;go_wp2_with fail;clear J4 J5 J6;refine bodyPost_ret (v:=.string ((⟨#[45]⟩++N)++(⟨#[47]⟩++D))) (by simp [results,Tryz.results21,go_sem]) rfl ⟨rfl,HE.o⟩
theorem Text_c (v:Value) (q:Rat) (K:Nat) (w:World) (hv:NumV w v q) (sx:SmQ K q) (hK:K≤1000000) (hT:Tabs w) :
  Calls Tryz.prog 21 #[v] w fun e w'=>e=.returned (.string (numText q))∧Ext w w':=by
 by_cases hn:q.num<0
 ·by_cases hd:q.den=1
  ·exact Text_nw v q K w hv sx hK hT hn hd
  ·exact Text_nq v q K w hv sx hK hT hn hd
 ·by_cases hd:q.den=1
  ·exact Text_pw v q K w hv sx hK hT hn hd
  ·exact Text_pq v q K w hv sx hK hT hn hd
end Go.Proofs.YtoaoebimjmjpeaaGreatDoor
