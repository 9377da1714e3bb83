/- Natural numbers in words of 32 bits: div returns quotient and remainder. -/
import Derived.Test.YtgabigepocfllaaGreatDoorQ05
namespace Go.Proofs.YtgabigepocfllaaGreatDoor
open Go.RowKit Vn
set_option maxRecDepth 100000
set_option maxHeartbeats 8000000
theorem div_one (ax ay:Option Addr) (by_ oy cx cy n d M N K:Nat) (w:World) (hd0:0<d) (hd1:d<4294967296) (Hay:Hid (ay=some ⟨by_,oy,none⟩)) (hcell:w.cell? ⟨by_,oy,none⟩=some (.int .u32 d))
  (HX:Hid (NatV w (.slice ax n cx) M)) (HY:Hid (NatV w (.slice ay 1 cy) N)) (SX:Hid (Sm K M)) (SY:Hid (Sm K N)) (HK:Hid (K≤50000000)) (hc:decide (cmpN M N<0)=false) :
  Calls Tryz.prog 220 #[.slice ax n cx,.slice ay 1 cy] w fun e w'=>∃ a1 k1 c1 a2 k2 c2,e=.returned (.tuple #[.slice a1 k1 c1,.slice a2 k2 c2])∧NatV w' (.slice a1 k1 c1) (M/d)∧NatV w' (.slice a2 k2 c2) (M%d)∧Ext w w':=by
 obtain rfl:=Hay.o;have Hcell:=hid hcell;clear hcell
 go_enter Tryz.func220,Tryz.ntmps220
 go_wp2_with fail
 go_step3
 go_wp2_with (go_at_call 104;refine (cmp_c _ _ M N K _ HX.o HY.o SX.o SY.o (by have:=HK.o;omega)).mono ?_;rintro e w1 ⟨rfl,hb1⟩;have hcell1:=hb1.cell Hcell.o)
 refine (small_c _ M K d _ (HX.o.ext hb1) SX.o (by have:=HK.o;omega) hd0 hd1).mono ?_;rintro e w2 ⟨a2,n2,c2,rfl,h2,hb2⟩;have hr:M%d<4294967296:=Nat.lt_trans (Nat.mod_lt _ hd0) hd1;obtain ⟨r,hr2⟩:∃ r,r=M%d:=⟨_,rfl⟩;rw [←hr2] at hr ⊢;have Hr:=hid hr2;clear hr2;go_wp2_with fail;refine (of_c _ _ (by omega) (by omega)).mono ?_;rintro e w3 ⟨a3,n3,c3,rfl,h3,hb3⟩;go_wp2_with fail
 (try rw [Exit.noGoto_ret])
 go_ret2;rw [Int.toNat_natCast] at h3;rw [Hr.o] at h3
 exact ⟨a2,n2,c2,a3,n3,c3,rfl,h2.ext hb3,h3,hb1.trans (hb2.trans hb3)⟩
theorem div_c (x y:Value) (M N K:Nat) (w:World) (hx:NatV w x M) (hy:NatV w y N) (sx:Sm K M) (sy:Sm K N) (hK:K≤50000000) (hN:0<N) :
  Calls Tryz.prog 220 #[x,y] w fun e w'=>∃ a1 k1 c1 a2 k2 c2,e=.returned (.tuple #[.slice a1 k1 c1,.slice a2 k2 c2])∧NatV w' (.slice a1 k1 c1) (M/N)∧NatV w' (.slice a2 k2 c2) (M%N)∧Ext w w':=by
 obtain ⟨a,b,off,n,cap,l,rfl,h1,h2,h3,h4,h5,h6,h7,h8⟩:=hx.open;obtain ⟨a',b',off',n',cap',l',rfl,h1',h2',h3',h4',h5',h6',h7',h8'⟩:=hy.open;have e1:=sx.len h5.o h6.o;rw [h3.o] at e1
 rcases Nat.lt_or_ge M N with hlt | hge
 ·refine (div_lt a a' cap cap' n n' M N K w (hid hx) (hid hy) (hid sx) (hid sy) (hid hK) (by rw [cmpN_lt hlt];rfl)).mono ?_;rintro e w' ⟨rfl,hb⟩;refine ⟨none,0,0,a,n,cap,rfl,?_,?_,hb⟩
  ·rw [Nat.div_eq_of_lt hlt];exact NatV.zero _
  ·rw [Nat.mod_eq_of_lt hlt];exact hx.ext hb
 ·have hc:decide (cmpN M N<0)=false:=by
   rcases Nat.eq_or_lt_of_le hge with h | h
   ·rw [cmpN_eq h.symm];rfl
   ·rw [cmpN_gt h];rfl
  have hlen:n'≤n:=by
   have:=norm_len h5'.out h5.o (by rw [h6.o,h6'.out];exact hge)
   rwa [h3.o,h3'.out] at this
  have hn':0<n':=by
   rcases Nat.eq_zero_or_pos n' with h | h
   ·subst h
    have:l'=[]:=List.eq_nil_of_length_eq_zero h3'.out
    have h9:=h6'.out;rw [this] at h9
    simp [dv] at h9;omega
   ·exact h
  rcases Nat.eq_or_lt_of_le (show 1≤n' by omega) with h | h
  ·subst h;have hl':l'=[N]:=by
    have hl:=h3'.out;have hv:=h6'.out
    match l',hl with
    | [d],_=>simp [dv] at hv;rw [hv]
   have hd:N<4294967296:=by
    have:=h5'.out.dig
    rw [hl'] at this
    exact this N (by simp)
   have hc':=h7'.out 0 (by omega);rw [hl'] at hc'
   exact div_one a a' b' off' cap cap' n N M N K w hN hd (hid (h4'.out (by omega))) (by simpa using hc') (hid hx) (hid hy) (hid sx) (hid sy) (hid hK) hc
  ·exact div_core a a' cap b' off' cap' l l' n n' M N K w h3 h3' h hlen (by omega) h4' h5 h5' h7' (hid hx) (hid hy) (hid sx) (hid sy) (hid hK) h6 h6' hc
theorem NatV.len0 {w:World} {a:Option Addr} {n cap N:Nat} (h:NatV w (.slice a n cap) N):n=0↔N=0:=by
 obtain ⟨b,off,l,h1,h2,h3,h4,h5,h6,h7,h8⟩:=h.opens;have hl:=h3.o;have hv:=h6.o
 constructor
 ·intro h0
  have:l=[]:=List.eq_nil_of_length_eq_zero (by omega)
  rw [←hv,this];rfl
 ·intro h0
  have:=h5.o.zero (by decide) (by omega)
  rw [this] at hl;simpa using hl.symm
theorem NatV.shape {w:World} {v:Value} {N:Nat} (h:NatV w v N):∃ a n cap,v=.slice a n cap:=by
 obtain ⟨a,b,off,n,cap,l,h1,_⟩:=h.open
 exact ⟨a,n,cap,h1⟩
theorem Sm.of_le {K m n:Nat} (h:Sm K n) (hle:m≤n):Sm K m:=Nat.lt_of_le_of_lt hle h
theorem gcd_c (x y:Value) (M N K:Nat) (w:World) (hx:NatV w x M) (hy:NatV w y N) (sx:Sm K M) (sy:Sm K N) (hK:K≤50000000) :
  Calls Tryz.prog 166 #[x,y] w fun e w'=>∃ a k c,e=.returned (.slice a k c)∧NatV w' (.slice a k c) (Nat.gcd M N)∧Ext w w':=by
 obtain ⟨ax,nx,cx,rfl⟩:=hx.shape;obtain ⟨ay,ny,cy,rfl⟩:=hy.shape;have Hx:=hid hx;have Hy:=hid hy;have Sx:=hid sx;have Sy:=hid sy;clear hx hy sx sy
 go_enter Tryz.func166,Tryz.ntmps166
 go_wp2
 go_loopg [0,1] N (fun k p q wr=>∃ A a1 n1 c1 a2 n2 c2,p=.slice a1 n1 c1∧q=.slice a2 n2 c2∧Hid (NatV wr p A)∧Hid (NatV wr q k)∧Hid (Sm K A)∧Hid (Sm K k)∧Hid (Nat.gcd A k=Nat.gcd M N)∧Hid (Ext w wr))
 case atStart=>exact ⟨M,ax,nx,cx,ay,ny,cy,rfl,rfl,Hx,Hy,Sx,Sy,hid rfl,hid (Below.refl _ _)⟩
 case round =>
  obtain ⟨A,a1,n1,c1,a2,n2,c2,rfl,rfl,HA,Hk,SA,Sk,HG,HE⟩:=hrel;have hlen:=Hk.o.len0
  rcases Nat.eq_zero_or_pos gk with h0 | h0
  ·obtain rfl:n2=0:=hlen.2 h0;have hd:decide ((0:Int)<0)=false:=by decide
   clear hlen;have H0:=hid h0;clear h0
   go_wp2
   go_ret;have hg:=HG.o;rw [H0.o,Nat.gcd_zero_right] at hg
   exact ⟨a1,n1,c1,rfl,by rw [←hg];exact HA.o,HE.o⟩
  ·have hn2:0<n2:=by
    rcases Nat.eq_zero_or_pos n2 with h | h
    ·have:=hlen.1 h;omega
    ·exact h
   clear hlen;have hd:decide ((0:Int)<(n2:Int))=true:=decide_eq_true (by omega);go_wp2_with fail;refine (div_c _ _ A gk K _ HA.o Hk.o SA.o Sk.o hK h0).mono ?_;rintro e w2 ⟨a3,n3,c3,a4,n4,c4,rfl,h3,h4,hb⟩;have H3:=hid h3;have H4:=hid h4;have Hb:=hid hb;clear h3 h4 hb;go_wp2_with fail
   go_roundg (A%gk)
   case measure=>exact Nat.mod_lt _ h0
   case rel=>exact ⟨gk,a2,n2,c2,a4,n4,c4,rfl,rfl,hid (Hk.o.ext Hb.o),H4,Sk,hid (Sk.o.of_le (Nat.le_of_lt (Nat.mod_lt _ h0))),hid (by rw [←HG.o,Nat.gcd_comm A gk,Nat.gcd_rec gk A,Nat.gcd_comm]),hid (HE.o.trans Hb.o)⟩
def NumV (w:World) (v:Value) (q:Rat):Prop:=∃ (a:Option Addr) (n c:Nat) (a':Option Addr) (n' c':Nat),v=.agg #[.bool (decide (q.num<0)),.slice a n c,.slice a' n' c'] ∧
 NatV w (.slice a n c) q.num.natAbs∧((q.den=1∧a'=none∧n'=0∧c'=0)∨(q.den≠1∧a'.isSome=true∧NatV w (.slice a' n' c') q.den))
def SmQ (K:Nat) (q:Rat):Prop:=Sm K q.num.natAbs∧Sm K q.den
theorem SmQ.mono {K L:Nat} {q:Rat} (h:SmQ K q) (hl:K≤L):SmQ L q:=⟨h.1.mono hl,h.2.mono hl⟩
def Keep (w w':World):Prop:=∀ v l,SlAt 195 .u32 w v l→SlAt 195 .u32 w' v l
theorem Keep.of_ext {w w':World} (h:Ext w w'):Keep w w':=fun _ _ k=>k.ext h
theorem Keep.trans {a b c:World} (h:Keep a b) (k:Keep b c):Keep a c:=fun v l x=>k v l (h v l x)
theorem Keep.setCell {w:World} {p:Addr} {c:Array Value} {U:TypeId} {fr:Nat×Nat} (hp:w.heap[p.block]?=some (.cells c U fr)) (hU:U≠195) (x:Value):Keep w (w.setCell p x) :=
 fun _ _ k=>k.setCell hp hU x
theorem NatV.keep {w w':World} {v:Value} {n:Nat} (h:NatV w v n) (k:Keep w w'):NatV w' v n:=by
 obtain ⟨l,h1,h2,h3⟩:=h;exact ⟨l,h1,h2,k _ _ h3⟩
theorem NumV.keep {w w':World} {v:Value} {q:Rat} (h:NumV w v q) (k:Keep w w'):NumV w' v q:=by
 obtain ⟨a,n,c,a',n',c',h1,h2,h3⟩:=h;refine ⟨a,n,c,a',n',c',h1,h2.keep k,?_⟩
 rcases h3 with h3 | ⟨h3,h4,h5⟩
 ·exact .inl h3
 ·exact .inr ⟨h3,h4,h5.keep k⟩
theorem NumV.ext {w w':World} {v:Value} {q:Rat} (h:NumV w v q) (k:Ext w w'):NumV w' v q:=h.keep (Keep.of_ext k)
def Box (w:World) (b:Nat) (cs:Array Value) (t:TypeId):Prop:=w.heap[b]?=some (.cells cs t (0,0))
theorem Box.ext {w w':World} {b:Nat} {cs:Array Value} {t:TypeId} (h:Box w b cs t) (k:Ext w w'):Box w' b cs t:=k.heap h
theorem Box.new (w:World) (cs:Array Value) (t:TypeId):Box (w.alloc (.cells cs t)) w.heap.size cs t:=heap_alloc_new w _
theorem Box.cell {w:World} {b:Nat} {cs:Array Value} {t:TypeId} (h:Box w b cs t) (i:Nat):w.cell? ⟨b,i,none⟩=cs[i]?:=by
 simp [World.cell?,show w.heap[b]?=_ from h]
theorem Box.free {w:World} {b:Nat} {cs:Array Value} {t:TypeId} (h:Box w b cs t) (i:Nat):w.frozen? ⟨b,i,none⟩=false:=by
 simp [World.frozen?,show w.heap[b]?=_ from h]
theorem Box.set {w:World} {b:Nat} {cs:Array Value} {t:TypeId} (h:Box w b cs t) (i:Nat) (x:Value):Box (w.setCell ⟨b,i,none⟩ x) b (cs.setIfInBounds i x) t:=by
 have hlt:=cell_lt h;have h':w.heap[b]=.cells cs t (0,0):=by simpa [Array.getElem?_eq_getElem hlt] using (show w.heap[b]?=_ from h)
 show (w.heap.modify b _)[b]?=_
 rw [Array.getElem?_eq_getElem (by simpa using hlt),Array.getElem_modify_self,h']
 rfl
theorem Box.three {w:World} {b:Nat} {x y z:Value} {t:TypeId} (h:Box w b #[x,y,z] t) :
  w.cell? ⟨b,0,none⟩=some x∧w.cell? ⟨b,1,none⟩=some y∧w.cell? ⟨b,2,none⟩=some z∧w.frozen? ⟨b,0,none⟩=false∧w.frozen? ⟨b,1,none⟩=false∧w.frozen? ⟨b,2,none⟩=false :=
 ⟨h.cell 0,h.cell 1,h.cell 2,h.free 0,h.free 1,h.free 2⟩
theorem store3 {w wk:World} {b:Nat} {x y z:Value} {t:TypeId} (hE:Ext w wk) (hle:w.heap.size≤b) (hB:Box wk b #[x,y,z] t) (ht:t≠195) (x' y' z':Value) :
  Ext w (((wk.setCell ⟨b,0,none⟩ x').setCell ⟨b,1,none⟩ y').setCell ⟨b,2,none⟩ z')∧Keep wk (((wk.setCell ⟨b,0,none⟩ x').setCell ⟨b,1,none⟩ y').setCell ⟨b,2,none⟩ z') ∧
  Box (((wk.setCell ⟨b,0,none⟩ x').setCell ⟨b,1,none⟩ y').setCell ⟨b,2,none⟩ z') b #[x',y',z'] t:=by
 have h1:=hB.set 0 x';have h2:=h1.set 1 y';have h3:=h2.set 2 z'
 exact ⟨((hE.setCell (p:=⟨b,0,none⟩) hle _).setCell (p:=⟨b,1,none⟩) hle _).setCell (p:=⟨b,2,none⟩) hle _,
  ((Keep.setCell (p:=⟨b,0,none⟩) hB ht x').trans (Keep.setCell (p:=⟨b,1,none⟩) h1 ht y')).trans (Keep.setCell (p:=⟨b,2,none⟩) h2 ht z'),h3⟩
theorem eqlNil (w:World):(binOp .eql 38 (.slice none 0 0) (.slice none 0 0)).run Tryz.prog w=.ok (.bool true) w :=
 Lib.run_eql_slice_nil w 38 195 none 0 0 0 0 Tryz.underlying38
theorem bottom_nil (x y:Value) (w:World):Calls Tryz.prog 103 #[.agg #[x,y,.slice none 0 0]] w fun e w'=>∃ a k c,e=.returned (.slice a k c)∧NatV w' (.slice a k c) 1∧Ext w w':=by
 have hn:=fun w=>eqlNil w
 go_enter Tryz.func103,Tryz.ntmps103
 go_wp2_with fail;refine (of_c _ _ (by omega) (by omega)).mono ?_;rintro e w1 ⟨a1,n1,c1,rfl,h1,hb1⟩;go_wp2_with fail;go_ret
 exact ⟨a1,n1,c1,rfl,h1,(Below.alloc (Below.refl _ w) (Nat.le_refl _) _).trans (hb1.mono (by simp))⟩
theorem bottom_some (x y:Value) (p:Addr) (n c:Nat) (w:World):Calls Tryz.prog 103 #[.agg #[x,y,.slice (some p) n c]] w fun e w'=>e=.returned (.slice (some p) n c)∧Ext w w':=by
 have hn:∀ w,(binOp .eql 38 (.slice (some p) n c) (.slice none 0 0)).run Tryz.prog w=.ok (.bool false) w:=fun w=>Lib.run_eql_slice_nil w 38 195 (some p) n c 0 0 Tryz.underlying38
 go_enter Tryz.func103,Tryz.ntmps103
 go_wp2_with fail;go_ret
 exact ⟨rfl,Below.alloc (Below.refl _ w) (Nat.le_refl _) _⟩
theorem bottom_c (v:Value) (q:Rat) (w:World) (h:NumV w v q):Calls Tryz.prog 103 #[v] w fun e w'=>∃ a k c,e=.returned (.slice a k c)∧NatV w' (.slice a k c) q.den∧Ext w w':=by
 obtain ⟨a,n,c,a',n',c',rfl,h2,h3⟩:=h
 rcases h3 with ⟨h3,rfl,rfl,rfl⟩ | ⟨h3,h4,h5⟩
 ·rw [h3];exact bottom_nil _ _ w
 ·cases a' with
  | none=>simp at h4
  | some p =>
   refine (bottom_some _ _ p n' c' w).mono ?_;rintro e w' ⟨rfl,hb⟩
   exact ⟨_,_,_,rfl,h5.ext hb,hb⟩
theorem neg_value {neg:Bool} {P Q:Nat} (hP:0<P) (hQ:Q≠0):decide ((mkq neg P Q).num<0)=neg:=by
 rw [mkq_neg neg P Q hQ,decide_eq_true (by omega:P≠0),Bool.and_true]
theorem NatV.some {w:World} {a:Option Addr} {n c N:Nat} (h:NatV w (.slice a n c) N) (hN:N≠0):a.isSome=true:=by
 have hl:=h.len0;obtain ⟨b,off,l,h1,h2,h3,h4,_⟩:=h.opens;rw [h4.o (by rcases Nat.eq_zero_or_pos n with h0 | h0;exact absurd (hl.1 h0) hN;exact h0)];rfl
theorem NumV.made {w:World} {neg:Bool} {a a':Option Addr} {n c n' c' P Q:Nat} (hP:0<P) (hQ:Q≠0) (h1:NatV w (.slice a n c) (P/Nat.gcd P Q))
  (h2:(Q/Nat.gcd P Q=1∧a'=none∧n'=0∧c'=0)∨(Q/Nat.gcd P Q≠1∧NatV w (.slice a' n' c') (Q/Nat.gcd P Q))) :
  NumV w (.agg #[.bool neg,.slice a n c,.slice a' n' c']) (mkq neg P Q):=by
 refine ⟨a,n,c,a',n',c',?_,?_,?_⟩
 ·rw [neg_value hP hQ]
 ·rw [mkq_natAbs neg P Q hQ];exact h1
 ·rw [mkq_den neg P Q hQ];have hd:Q/Nat.gcd P Q≠0:=by
   have:=Nat.div_pos (Nat.le_of_dvd (by omega) (Nat.gcd_dvd_right P Q)) (Nat.gcd_pos_of_pos_right P (show 0<Q by omega))
   omega
  rcases h2 with h2 | ⟨h2,h3⟩
  ·exact .inl h2
  ·exact .inr ⟨h2,h3.some hd,h3⟩
theorem NumV.zero (w:World):NumV w (.agg #[.bool false,.slice none 0 0,.slice none 0 0]) 0 :=
 ⟨none,0,0,none,0,0,rfl,NatV.zero w,.inl ⟨rfl,rfl,rfl,rfl⟩⟩
theorem made_zero (neg:Bool) (a:Option Addr) (c:Nat) (y:Value) (w:World):Calls Tryz.prog 162 #[.bool neg,.slice a 0 c,y] w fun e w'=>e=.returned (.agg #[.bool false,.slice none 0 0,.slice none 0 0])∧Ext w w':=by
 have hz:(((0:Nat):Int)==0)=true:=rfl
 go_enter Tryz.func162,Tryz.ntmps162
 go_wp2_with fail;refine bodyPost_ret (v:=.agg #[.bool false,.slice none 0 0,.slice none 0 0]) (by simp [results,Tryz.results162,go_sem]) rfl ⟨rfl,?_⟩
 exact Below.alloc (Below.refl _ w) (Nat.le_refl _) _
theorem Ext.alloc (w:World) (o:Obj):Ext w (w.alloc o):=Below.alloc (Below.refl _ w) (Nat.le_refl _) _
theorem len_pos {w:World} {a:Option Addr} {n c N:Nat} (h:NatV w (.slice a n c) N) (hN:0<N):0<n:=by
 rcases Nat.eq_zero_or_pos n with h0 | h0
 ·have:=h.len0.1 h0;omega
 ·exact h0
theorem made_one (neg:Bool) (a a':Option Addr) (n c n' c' P Q K:Nat) (w:World) (HP:Hid (NatV w (.slice a n c) P)) (HQ:Hid (NatV w (.slice a' n' c') Q)) (_SP:Hid (Sm K P)) (_SQ:Hid (Sm K Q)) (_HK:Hid (K≤50000000)) (hP:0<P) (hQ:0<Q)(h1:Q=1) :
  Calls Tryz.prog 162 #[.bool neg,.slice a n c,.slice a' n' c'] w fun e w'=>∃ v,e=.returned v∧NumV w' v (mkq neg P Q)∧Ext w w':=by
 have hn:=len_pos HP.o hP;have hz:((n:Int)==0)=false:=by simp;omega
 have HB0:=hid (Box.new w #[.bool false,.slice none 0 0,.slice none 0 0] 40);have HE0:=hid (Ext.alloc w (.cells #[.bool false,.slice none 0 0,.slice none 0 0] 40))
 go_enter Tryz.func162,Tryz.ntmps162
 go_wp2_with fail;have hq1:decide (Q=1)=true:=decide_eq_true h1;have H1:=hid h1;clear h1;refine (is1_c _ Q _ (HQ.o.ext HE0.o)).mono ?_;rintro e w1 ⟨rfl,hb1⟩;have HE1:=hid (HE0.o.trans hb1);have HB1:=hid (HB0.o.ext hb1);clear hb1;go_wp2_with fail;refine (is1_c _ Q _ (HQ.o.ext HE1.o)).mono ?_;rintro e w2 ⟨rfl,hb2⟩;have HE2:=hid (HE1.o.trans hb2);have HB2:=hid (HB1.o.ext hb2);clear hb2;have hg:Nat.gcd P Q=1:=by rw [H1.o];exact Nat.gcd_one_right P
 obtain ⟨d0,d1,d2,f0,f1,f2⟩:=HB2.o.three;go_wp2_with fail;obtain ⟨q1,q2,q3⟩:=store3 HE2.o (Nat.le_refl _) HB2.o (by decide) (.bool neg) (.slice a n c) (.slice none 0 0);have r0:=q3.cell 0;have r1:=q3.cell 1;have r2:=q3.cell 2;refine bodyPost_ret (v:=.agg #[.bool neg,.slice a n c,.slice none 0 0]) (by simp [results,Tryz.results162,go_sem,r0,r1,r2]) rfl ⟨_,rfl,?_,q1⟩
 exact NumV.keep (NumV.made hP (by omega) (by rw [hg,Nat.div_one];exact HP.o.ext HE2.o) (.inl ⟨by rw [hg,Nat.div_one];exact H1.o,rfl,rfl,rfl⟩)) q2
theorem made_coprime (neg:Bool) (a a':Option Addr) (n c n' c' P Q K:Nat) (w:World) (HP:Hid (NatV w (.slice a n c) P)) (HQ:Hid (NatV w (.slice a' n' c') Q)) (SP:Hid (Sm K P)) (SQ:Hid (Sm K Q)) (HK:Hid (K≤50000000)) (hP:0<P) (hQ:0<Q)(h1:Q≠1) (hg1:Nat.gcd P Q=1) :
  Calls Tryz.prog 162 #[.bool neg,.slice a n c,.slice a' n' c'] w fun e w'=>∃ v,e=.returned v∧NumV w' v (mkq neg P Q)∧Ext w w':=by
 have hn:=len_pos HP.o hP;have hz:((n:Int)==0)=false:=by simp;omega
 have HB0:=hid (Box.new w #[.bool false,.slice none 0 0,.slice none 0 0] 40);have HE0:=hid (Ext.alloc w (.cells #[.bool false,.slice none 0 0,.slice none 0 0] 40))
 go_enter Tryz.func162,Tryz.ntmps162
 go_wp2_with fail;have hq1:decide (Q=1)=false:=decide_eq_false h1;have hg2:decide (Nat.gcd P Q=1)=true:=decide_eq_true hg1;have H1:=hid h1;have G1:=hid hg1;clear h1 hg1;refine (is1_c _ Q _ (HQ.o.ext HE0.o)).mono ?_;rintro e w1 ⟨rfl,hb1⟩;have HE1:=hid (HE0.o.trans hb1);have HB1:=hid (HB0.o.ext hb1);clear hb1;go_wp2_with fail;refine (gcd_c _ _ P Q K _ (HP.o.ext HE1.o) (HQ.o.ext HE1.o) SP.o SQ.o HK.o).mono ?_;rintro e w2 ⟨a2,n2,c2,rfl,h2,hb2⟩;have HG:=hid h2;have HE2:=hid (HE1.o.trans hb2);have HB2:=hid (HB1.o.ext hb2);clear hb2 h2;go_wp2_with fail;refine (is1_c _ (Nat.gcd P Q) _ HG.o).mono ?_;rintro e w3 ⟨rfl,hb3⟩;have HE3:=hid (HE2.o.trans hb3);have HB3:=hid (HB2.o.ext hb3);clear hb3;go_wp2_with fail;refine (is1_c _ Q _ (HQ.o.ext HE3.o)).mono ?_;rintro e w4 ⟨rfl,hb4⟩;have HE4:=hid (HE3.o.trans hb4);have HB4:=hid (HB3.o.ext hb4);clear hb4;obtain ⟨d0,d1,d2,f0,f1,f2⟩:=HB4.o.three;go_wp2_with fail;obtain ⟨q1,q2,q3⟩:=store3 HE4.o (Nat.le_refl _) HB4.o (by decide) (.bool neg) (.slice a n c) (.slice a' n' c');have r0:=q3.cell 0;have r1:=q3.cell 1;have r2:=q3.cell 2;refine bodyPost_ret (v:=.agg #[.bool neg,.slice a n c,.slice a' n' c']) (by simp [results,Tryz.results162,go_sem,r0,r1,r2]) rfl ⟨_,rfl,?_,q1⟩
 exact NumV.keep (NumV.made hP (by omega) (by rw [G1.o,Nat.div_one];exact HP.o.ext HE4.o) (.inr ⟨by rw [G1.o,Nat.div_one];exact H1.o,by rw [G1.o,Nat.div_one];exact HQ.o.ext HE4.o⟩)) q2
theorem made_whole (neg:Bool) (a a':Option Addr) (n c n' c' P Q K:Nat) (w:World) (HP:Hid (NatV w (.slice a n c) P)) (HQ:Hid (NatV w (.slice a' n' c') Q)) (SP:Hid (Sm K P)) (SQ:Hid (Sm K Q)) (HK:Hid (K≤50000000)) (hP:0<P) (hQ:0<Q)(h1:Q≠1) (hg1:Nat.gcd P Q≠1) (h3:Q/Nat.gcd P Q=1) :
  Calls Tryz.prog 162 #[.bool neg,.slice a n c,.slice a' n' c'] w fun e w'=>∃ v,e=.returned v∧NumV w' v (mkq neg P Q)∧Ext w w':=by
 have hn:=len_pos HP.o hP;have hz:((n:Int)==0)=false:=by simp;omega
 have HB0:=hid (Box.new w #[.bool false,.slice none 0 0,.slice none 0 0] 40);have HE0:=hid (Ext.alloc w (.cells #[.bool false,.slice none 0 0,.slice none 0 0] 40))
 go_enter Tryz.func162,Tryz.ntmps162
 go_wp2_with fail;have hq1:decide (Q=1)=false:=decide_eq_false h1;have hg2:decide (Nat.gcd P Q=1)=false:=decide_eq_false hg1;have hq3:decide (Q/Nat.gcd P Q=1)=true:=decide_eq_true h3;have H3:=hid h3;clear h1 hg1 h3;refine (is1_c _ Q _ (HQ.o.ext HE0.o)).mono ?_;rintro e w1 ⟨rfl,hb1⟩;have HE1:=hid (HE0.o.trans hb1);have HB1:=hid (HB0.o.ext hb1);clear hb1;go_wp2_with fail;refine (gcd_c _ _ P Q K _ (HP.o.ext HE1.o) (HQ.o.ext HE1.o) SP.o SQ.o HK.o).mono ?_;rintro e w2 ⟨a2,n2,c2,rfl,h2,hb2⟩;have HG:=hid h2;have HE2:=hid (HE1.o.trans hb2);have HB2:=hid (HB1.o.ext hb2);clear hb2 h2;go_wp2_with fail;refine (is1_c _ (Nat.gcd P Q) _ HG.o).mono ?_;rintro e w3 ⟨rfl,hb3⟩;have HE3:=hid (HE2.o.trans hb3);have HB3:=hid (HB2.o.ext hb3);go_wp2_with fail;have hgp:0<Nat.gcd P Q:=Nat.gcd_pos_of_pos_right P hQ;have hgs:Hid (Sm K (Nat.gcd P Q)):=hid (SQ.o.of_le (Nat.le_of_dvd hQ (Nat.gcd_dvd_right P Q)));have HG3:=hid (HG.o.ext hb3);refine (div_c _ _ P (Nat.gcd P Q) K _ (HP.o.ext HE3.o) HG3.o SP.o hgs.o HK.o hgp).mono ?_;rintro e w5 ⟨a5,n5,c5,a6,n6,c6,rfl,h5,_,hb5⟩;have HP5:=hid h5;have HE5:=hid (HE3.o.trans hb5);have HB5:=hid (HB3.o.ext hb5);have HG5:=hid (HG3.o.ext hb5);clear hb5 h5 hb3;go_wp2_with fail;refine (div_c _ _ Q (Nat.gcd P Q) K _ (HQ.o.ext HE5.o) HG5.o SQ.o hgs.o HK.o hgp).mono ?_;rintro e w7 ⟨a7,n7,c7,a8,n8,c8,rfl,h7,_,hb7⟩;have HQ7:=hid h7;have HP7:=hid (HP5.o.ext hb7);have HE7:=hid (HE5.o.trans hb7);have HB7:=hid (HB5.o.ext hb7);clear hb7 h7;go_wp2_with fail;refine (is1_c _ (Q/Nat.gcd P Q) _ HQ7.o).mono ?_;rintro e w9 ⟨rfl,hb9⟩;have HE9:=hid (HE7.o.trans hb9);have HB9:=hid (HB7.o.ext hb9);obtain ⟨d0,d1,d2,f0,f1,f2⟩:=HB9.o.three;go_wp2_with fail;obtain ⟨q1,q2,q3⟩:=store3 HE9.o (Nat.le_refl _) HB9.o (by decide) (.bool neg) (.slice a5 n5 c5) (.slice none 0 0);have r0:=q3.cell 0;have r1:=q3.cell 1;have r2:=q3.cell 2;refine bodyPost_ret (v:=.agg #[.bool neg,.slice a5 n5 c5,.slice none 0 0]) (by simp [results,Tryz.results162,go_sem,r0,r1,r2]) rfl ⟨_,rfl,?_,q1⟩
 exact NumV.keep (NumV.made hP (by omega) (HP7.o.ext hb9) (.inl ⟨H3.o,rfl,rfl,rfl⟩)) q2
theorem made_part (neg:Bool) (a a':Option Addr) (n c n' c' P Q K:Nat) (w:World) (HP:Hid (NatV w (.slice a n c) P)) (HQ:Hid (NatV w (.slice a' n' c') Q)) (SP:Hid (Sm K P)) (SQ:Hid (Sm K Q)) (HK:Hid (K≤50000000)) (hP:0<P) (hQ:0<Q)(h1:Q≠1) (hg1:Nat.gcd P Q≠1) (h3:Q/Nat.gcd P Q≠1) :
  Calls Tryz.prog 162 #[.bool neg,.slice a n c,.slice a' n' c'] w fun e w'=>∃ v,e=.returned v∧NumV w' v (mkq neg P Q)∧Ext w w':=by
 have hn:=len_pos HP.o hP;have hz:((n:Int)==0)=false:=by simp;omega
 have HB0:=hid (Box.new w #[.bool false,.slice none 0 0,.slice none 0 0] 40);have HE0:=hid (Ext.alloc w (.cells #[.bool false,.slice none 0 0,.slice none 0 0] 40))
 go_enter Tryz.func162,Tryz.ntmps162
 go_wp2_with fail;have hq1:decide (Q=1)=false:=decide_eq_false h1;have hg2:decide (Nat.gcd P Q=1)=false:=decide_eq_false hg1;have hq3:decide (Q/Nat.gcd P Q=1)=false:=decide_eq_false h3;have H3:=hid h3;clear h1 hg1 h3;refine (is1_c _ Q _ (HQ.o.ext HE0.o)).mono ?_;rintro e w1 ⟨rfl,hb1⟩;have HE1:=hid (HE0.o.trans hb1);have HB1:=hid (HB0.o.ext hb1);clear hb1;go_wp2_with fail;refine (gcd_c _ _ P Q K _ (HP.o.ext HE1.o) (HQ.o.ext HE1.o) SP.o SQ.o HK.o).mono ?_;rintro e w2 ⟨a2,n2,c2,rfl,h2,hb2⟩;have HG:=hid h2;have HE2:=hid (HE1.o.trans hb2);have HB2:=hid (HB1.o.ext hb2);clear hb2 h2;go_wp2_with fail;refine (is1_c _ (Nat.gcd P Q) _ HG.o).mono ?_;rintro e w3 ⟨rfl,hb3⟩;have HE3:=hid (HE2.o.trans hb3);have HB3:=hid (HB2.o.ext hb3);go_wp2_with fail;have hgp:0<Nat.gcd P Q:=Nat.gcd_pos_of_pos_right P hQ;have hgs:Hid (Sm K (Nat.gcd P Q)):=hid (SQ.o.of_le (Nat.le_of_dvd hQ (Nat.gcd_dvd_right P Q)));have HG3:=hid (HG.o.ext hb3);refine (div_c _ _ P (Nat.gcd P Q) K _ (HP.o.ext HE3.o) HG3.o SP.o hgs.o HK.o hgp).mono ?_;rintro e w5 ⟨a5,n5,c5,a6,n6,c6,rfl,h5,_,hb5⟩;have HP5:=hid h5;have HE5:=hid (HE3.o.trans hb5);have HB5:=hid (HB3.o.ext hb5);have HG5:=hid (HG3.o.ext hb5);clear hb5 h5 hb3;go_wp2_with fail;refine (div_c _ _ Q (Nat.gcd P Q) K _ (HQ.o.ext HE5.o) HG5.o SQ.o hgs.o HK.o hgp).mono ?_;rintro e w7 ⟨a7,n7,c7,a8,n8,c8,rfl,h7,_,hb7⟩;have HQ7:=hid h7;have HP7:=hid (HP5.o.ext hb7);have HE7:=hid (HE5.o.trans hb7);have HB7:=hid (HB5.o.ext hb7);clear hb7 h7;go_wp2_with fail;refine (is1_c _ (Q/Nat.gcd P Q) _ HQ7.o).mono ?_;rintro e w9 ⟨rfl,hb9⟩;have HE9:=hid (HE7.o.trans hb9);have HB9:=hid (HB7.o.ext hb9);obtain ⟨d0,d1,d2,f0,f1,f2⟩:=HB9.o.three;go_wp2_with fail;obtain ⟨q1,q2,q3⟩:=store3 HE9.o (Nat.le_refl _) HB9.o (by decide) (.bool neg) (.slice a5 n5 c5) (.slice a7 n7 c7);have r0:=q3.cell 0;have r1:=q3.cell 1;have r2:=q3.cell 2;refine bodyPost_ret (v:=.agg #[.bool neg,.slice a5 n5 c5,.slice a7 n7 c7]) (by simp [results,Tryz.results162,go_sem,r0,r1,r2]) rfl ⟨_,rfl,?_,q1⟩
 exact NumV.keep (NumV.made hP (by omega) (HP7.o.ext hb9) (.inr ⟨H3.o,HQ7.o.ext hb9⟩)) q2
theorem made_c (neg:Bool) (x y:Value) (P Q K:Nat) (w:World) (hx:NatV w x P) (hy:NatV w y Q) (sx:Sm K P) (sy:Sm K Q) (hK:K≤50000000) (hQ:0<Q) :
  Calls Tryz.prog 162 #[.bool neg,x,y] w fun e w'=>∃ v,e=.returned v∧NumV w' v (mkq neg P Q)∧Ext w w':=by
 obtain ⟨a,n,c,rfl⟩:=hx.shape;obtain ⟨a',n',c',rfl⟩:=hy.shape
 rcases Nat.eq_zero_or_pos P with hP | hP
 ·subst hP;obtain rfl:=hx.len0.2 rfl;refine (made_zero neg a c _ w).mono ?_;rintro e w' ⟨rfl,hb⟩
  exact ⟨_,rfl,by rw [mkq_zero];exact NumV.zero _,hb⟩
 ·by_cases h1:Q=1
  ·exact made_one neg a a' n c n' c' P Q K w (hid hx) (hid hy) (hid sx) (hid sy) (hid hK) hP hQ h1
  ·by_cases h2:Nat.gcd P Q=1
   ·exact made_coprime neg a a' n c n' c' P Q K w (hid hx) (hid hy) (hid sx) (hid sy) (hid hK) hP hQ h1 h2
   ·by_cases h3:Q/Nat.gcd P Q=1
    ·exact made_whole neg a a' n c n' c' P Q K w (hid hx) (hid hy) (hid sx) (hid sy) (hid hK) hP hQ h1 h2 h3
    ·exact made_part neg a a' n c n' c' P Q K w (hid hx) (hid hy) (hid sx) (hid sy) (hid hK) hP hQ h1 h2 h3
theorem NumV.shape {w:World} {v:Value} {q:Rat} (h:NumV w v q):∃ (ng:Bool) (a:Option Addr) (n c:Nat) (a':Option Addr) (n' c':Nat),v=.agg #[.bool ng,.slice a n c,.slice a' n' c']:=by
 obtain ⟨a,n,c,a',n',c',h1,_⟩:=h
 exact ⟨_,a,n,c,a',n',c',h1⟩
theorem NumV.neg {w:World} {ng:Bool} {x y:Value} {q:Rat} (h:NumV w (.agg #[.bool ng,x,y]) q):ng=decide (q.num<0):=by
 obtain ⟨a,n,c,a',n',c',h1,_⟩:=h
 simp at h1;exact h1.1
theorem NumV.p {w:World} {ng:Bool} {x y:Value} {q:Rat} (h:NumV w (.agg #[.bool ng,x,y]) q):NatV w x q.num.natAbs:=by
 obtain ⟨a,n,c,a',n',c',h1,h2,_⟩:=h
 simp at h1;rw [h1.2.1];exact h2
theorem den_pos (q:Rat):0<q.den:=Nat.pos_of_ne_zero q.den_nz
theorem Sm.mul {K L m n:Nat} (h:Sm K m) (k:Sm L n):Sm (K+L) (m*n):=by
 unfold Sm at *
 rw [Nat.pow_add]
 rcases Nat.eq_zero_or_pos n with h0 | h0
 ·subst h0;exact Nat.mul_pos (Nat.pow_pos (by decide)) (Nat.pow_pos (by decide))
 ·exact Nat.mul_lt_mul_of_lt_of_le h (Nat.le_of_lt k) (Nat.pow_pos (by decide))
def Six (x:Nat) (x0 x1 x2:Value) (y:Nat) (y0 y1 y2:Value) (w:World):Prop :=
 w.cell? ⟨x,0,none⟩=some x0∧w.cell? ⟨x,1,none⟩=some x1∧w.cell? ⟨x,2,none⟩=some x2∧w.cell? ⟨y,0,none⟩=some y0∧w.cell? ⟨y,1,none⟩=some y1∧w.cell? ⟨y,2,none⟩=some y2
theorem Six.of {w:World} {x y:Nat} {x0 x1 x2 y0 y1 y2:Value} {t u:TypeId} (h:Box w x #[x0,x1,x2] t) (k:Box w y #[y0,y1,y2] u):Six x x0 x1 x2 y y0 y1 y2 w :=
 ⟨h.cell 0,h.cell 1,h.cell 2,k.cell 0,k.cell 1,k.cell 2⟩
theorem cell_store3 {w:World} {p:Addr} {b:Nat} (h:p.block≠b) (x y z:Value):(((w.setCell ⟨b,0,none⟩ x).setCell ⟨b,1,none⟩ y).setCell ⟨b,2,none⟩ z).cell? p=w.cell? p:=by
 have e:∀ (w:World) (i:Nat) (x:Value),(w.setCell ⟨b,i,none⟩ x).cell? p=w.cell? p:=fun w i x=>by
  unfold World.cell?;rw [Below.heap_setCell _ _ _ _ (show p.block≠(⟨b,i,none⟩:Addr).block from h)]
 rw [e,e,e]
theorem Six.store {w:World} {x y b:Nat} {x0 x1 x2 y0 y1 y2:Value} (h:Six x x0 x1 x2 y y0 y1 y2 w) (hx:x≠b) (hy:y≠b) (u v z:Value) :
  Six x x0 x1 x2 y y0 y1 y2 (((w.setCell ⟨b,0,none⟩ u).setCell ⟨b,1,none⟩ v).setCell ⟨b,2,none⟩ z):=by
 unfold Six at *
 refine ⟨?_,?_,?_,?_,?_,?_⟩
 ·rw [cell_store3 (by exact hx)];exact h.1
 ·rw [cell_store3 (by exact hx)];exact h.2.1
 ·rw [cell_store3 (by exact hx)];exact h.2.2.1
 ·rw [cell_store3 (by exact hy)];exact h.2.2.2.1
 ·rw [cell_store3 (by exact hy)];exact h.2.2.2.2.1
 ·rw [cell_store3 (by exact hy)];exact h.2.2.2.2.2
theorem pro3 (w:World) (cx cy cz:Array Value) (tx ty tz:TypeId):∃ W0,W0=((w.alloc (.cells cx tx)).alloc (.cells cy ty)).alloc (.cells cz tz)∧Ext w W0∧Box W0 w.heap.size cx tx∧Box W0 (w.heap.size+1) cy ty∧Box W0 (w.heap.size+1+1) cz tz:=by
 have hx1:=Box.new w cx tx;have hy1:=Box.new (w.alloc (.cells cx tx)) cy ty;have hz1:=Box.new ((w.alloc (.cells cx tx)).alloc (.cells cy ty)) cz tz;simp only [World.size_alloc] at hy1 hz1;have e1:=Ext.alloc w (.cells cx tx);have e2:=Ext.alloc (w.alloc (.cells cx tx)) (.cells cy ty);have e3:=Ext.alloc ((w.alloc (.cells cx tx)).alloc (.cells cy ty)) (.cells cz tz)
 exact ⟨_,rfl,e1.trans (e2.trans e3),hx1.ext (e2.trans e3),hy1.ext e3,hz1⟩
theorem mul_value (q r:Rat):mkq (decide (q.num<0) != decide (r.num<0)) (q.num.natAbs*r.num.natAbs) (q.den*r.den)=q*r:=by
 rw [←mkq_mul,mkq_self,mkq_self]
theorem Mul_c (x y:Value) (q r:Rat) (K:Nat) (w:World) (hx:NumV w x q) (hy:NumV w y r) (sx:SmQ K q) (sy:SmQ K r) (hK:K≤20000000) :
  Calls Tryz.prog 201 #[x,y] w fun e w'=>∃ v,e=.returned v∧NumV w' v (q*r)∧Ext w w':=by
 obtain ⟨ng,a,n,c,a',n',c',rfl⟩:=hx.shape;obtain ⟨mg,b,m,d,b',m',d',rfl⟩:=hy.shape;obtain ⟨W0,hW0,e0,hBx,hBy,hBz⟩:=pro3 w #[.bool ng,.slice a n c,.slice a' n' c'] #[.bool mg,.slice b m d,.slice b' m' d'] #[.bool false,.slice none 0 0,.slice none 0 0] 40 40 40;have e4:Ext W0 W0.drew:=Below.drew (Below.refl _ W0);have HE:Hid (Ext w W0.drew):=hid (e0.trans e4);have HBz:=hid (hBz.ext e4);have HS:Hid (∀ w',Ext W0.drew w'→Six w.heap.size (.bool ng) (.slice a n c) (.slice a' n' c') (w.heap.size+1) (.bool mg) (.slice b m d) (.slice b' m' d') w'):=hid fun w' h=>Six.of (hBx.ext (e4.trans h)) (hBy.ext (e4.trans h));have Hx:=hid hx;have Hy:=hid hy;have Sxp:=hid sx.1;have Sxd:=hid sx.2;have Syp:=hid sy.1;have Syd:=hid sy.2;have HK2:Hid (K≤100000000):=hid (by omega);have HK3:Hid (K+K≤50000000):=hid (by omega);have HD:=hid (Nat.mul_pos (den_pos q) (den_pos r));have hrefl:Ext W0.drew W0.drew:=Below.refl _ _;clear hx hy sx sy hK e0 e4 hBx hBy hBz
 go_enter Tryz.func201,Tryz.ntmps201
 go_wp2_with fail;rw [←hW0];clear hW0
 go_region_held3 (fun w'=>w'.cell? ⟨w.heap.size,0,none⟩=some (.bool ng)∧w'.cell? ⟨w.heap.size,1,none⟩=some (.slice a n c)∧w'.cell? ⟨w.heap.size,2,none⟩=some (.slice a' n' c') ∧
   w'.cell? ⟨w.heap.size+1,0,none⟩=some (.bool mg)∧w'.cell? ⟨w.heap.size+1,1,none⟩=some (.slice b m d)∧w'.cell? ⟨w.heap.size+1,2,none⟩=some (.slice b' m' d'))
  (first | exact HS.o _ (by assumption) | exact Six.store (HS.o _ (by assumption)) (by omega) (by omega) _ _ _)
  (first
   | (go_at_call 102;(with_reducible refine (mul_c _ _ q.num.natAbs r.num.natAbs K _ (Hx.o.p.ext HE.o) (Hy.o.p.ext HE.o) Sxp.o Syp.o HK2.o).mono ?_);rintro e w1 ⟨a1,n1,c1,rfl,k1,hb1⟩)
   | (go_at_call 103;(with_reducible refine (bottom_c _ q _ (Hx.o.ext (HE.o.trans hb1))).mono ?_);rintro e w2 ⟨a2,n2,c2,rfl,k2,g2⟩;have hb2:Ext W0.drew w2:=hb1.trans g2)
   | (go_at_call 103;(with_reducible refine (bottom_c _ r _ (Hy.o.ext (HE.o.trans hb2))).mono ?_);rintro e w3 ⟨a3,n3,c3,rfl,k3,g3⟩;have hb3:Ext W0.drew w3:=hb2.trans g3)
   | (go_at_call 102;(with_reducible refine (mul_c _ _ q.den r.den K _ (k2.ext g3) k3 Sxd.o Syd.o HK2.o).mono ?_);rintro e w4 ⟨a4,n4,c4,rfl,k4,g4⟩;have hb4:Ext W0.drew w4:=hb3.trans g4)
   | (go_at_call 162;(with_reducible refine (made_c _ _ _ (q.num.natAbs*r.num.natAbs) (q.den*r.den) (K+K) _ (k1.ext (g2.trans (g3.trans g4))) k4 (Sxp.o.mul Syp.o) (Sxd.o.mul Syd.o) HK3.o HD.o).mono ?_);rintro e w5 ⟨v,rfl,k5,g5⟩;obtain ⟨ng5,a5,n5,c5,a5',n5',c5',rfl⟩:=k5.shape;have hb5:Ext W0.drew w5:=hb4.trans g5;obtain ⟨z0,z1,z2,f0,f1,f2⟩:=(HBz.o.ext hb5).three))
 go_wp2_with fail;obtain ⟨q1,q2,q3⟩:=store3 (HE.o.trans hb5) (show w.heap.size≤w.heap.size+1+1 by omega) (HBz.o.ext hb5) (by decide) (.bool ng5) (.slice a5 n5 c5) (.slice a5' n5' c5');have r0:=q3.cell 0;have r1:=q3.cell 1;have r2:=q3.cell 2;refine bodyPost_ret (v:=.agg #[.bool ng5,.slice a5 n5 c5,.slice a5' n5' c5']) (by simp [results,Tryz.results201,go_sem,r0,r1,r2]) rfl ⟨_,rfl,?_,q1⟩;have k6:=k5.keep q2;rw [Hx.o.neg,Hy.o.neg] at k6;have k7:NumV _ _ (mkq (decide (q.num<0) != decide (r.num<0)) (q.num.natAbs*r.num.natAbs) (q.den*r.den)):=k6;rw [mul_value] at k7
 exact k7
theorem sign_core (ng:Bool) (a:Option Addr) (n c:Nat) (y:Value) (w:World) (r:Int) (Hr:Hid (r=if n=0 then 0 else if ng then -1 else 1)) :
  Calls Tryz.prog 25 #[.agg #[.bool ng,.slice a n c,y]] w fun e w'=>e=.returned (.int .i64 r)∧Ext w w':=by
 rcases Nat.eq_zero_or_pos n with h | h
 ·subst h;have hz:(((0:Nat):Int)==0)=true:=rfl;have Hr2:Hid (r=0):=hid (by rw [Hr.o];rfl);clear Hr
  go_enter Tryz.func25,Tryz.ntmps25
  go_wp2_with fail;go_ret
  exact ⟨by rw [Hr2.o];rfl,Ext.alloc w _⟩
 ·have hz:((n:Int)==0)=false:=by simp;omega
  cases ng
  ·have Hr2:Hid (r=1):=hid (by rw [Hr.o,if_neg (by omega)];rfl);clear Hr
   go_enter Tryz.func25,Tryz.ntmps25
   go_wp2_with fail;go_ret
   exact ⟨by rw [Hr2.o];rfl,Ext.alloc w _⟩
  ·have Hr2:Hid (r = -1):=hid (by rw [Hr.o,if_neg (by omega)];rfl);clear Hr
   go_enter Tryz.func25,Tryz.ntmps25
   go_wp2_with fail;go_ret
   exact ⟨by rw [Hr2.o];rfl,Ext.alloc w _⟩
theorem sign_c (v:Value) (q:Rat) (w:World) (h:NumV w v q):Calls Tryz.prog 25 #[v] w fun e w'=>e=.returned (.int .i64 q.num.sign)∧Ext w w':=by
 obtain ⟨ng,a,n,c,a',n',c',rfl⟩:=h.shape;refine sign_core ng a n c _ w _ (hid ?_);have h1:=h.p.len0;have h2:=h.neg
 by_cases hn:n=0
 ·rw [if_pos hn]
  have:q.num=0:=by have:=h1.1 hn;omega
  rw [this];rfl
 ·rw [if_neg hn];have hne:q.num≠0:=fun h=>hn (h1.2 (by omega))
  cases hg:ng
  ·rw [hg] at h2
   have:¬ q.num<0:=by simpa using h2.symm
   rw [Int.sign_eq_one_of_pos (by omega)];rfl
  ·rw [hg] at h2
   have:q.num<0:=by simpa using h2.symm
   rw [Int.sign_eq_neg_one_of_neg this];rfl
theorem isInt_nil (x y:Value) (w:World):Calls Tryz.prog 76 #[.agg #[x,y,.slice none 0 0]] w fun e w'=>e=.returned (.bool true)∧Ext w w':=by
 have hn:=fun w=>eqlNil w
 go_enter Tryz.func76,Tryz.ntmps76
 go_wp2_with fail;go_ret
 exact ⟨rfl,Ext.alloc w _⟩
theorem isInt_some (x y:Value) (p:Addr) (n c:Nat) (w:World):Calls Tryz.prog 76 #[.agg #[x,y,.slice (some p) n c]] w fun e w'=>e=.returned (.bool false)∧Ext w w':=by
 have hn:∀ w,(binOp .eql 38 (.slice (some p) n c) (.slice none 0 0)).run Tryz.prog w=.ok (.bool false) w:=fun w=>Lib.run_eql_slice_nil w 38 195 (some p) n c 0 0 Tryz.underlying38
 go_enter Tryz.func76,Tryz.ntmps76
 go_wp2_with fail;go_ret
 exact ⟨rfl,Ext.alloc w _⟩
theorem isInt_c (v:Value) (q:Rat) (w:World) (h:NumV w v q):Calls Tryz.prog 76 #[v] w fun e w'=>e=.returned (.bool (decide (q.den=1)))∧Ext w w':=by
 obtain ⟨a,n,c,a',n',c',rfl,h2,h3⟩:=h
 rcases h3 with ⟨h3,rfl,rfl,rfl⟩ | ⟨h3,h4,h5⟩
 ·rw [decide_eq_true h3];exact isInt_nil _ _ w
 ·rw [decide_eq_false h3]
  cases a' with
  | none=>simp at h4
  | some p=>exact isInt_some _ _ p n' c' w
theorem pro2 (w:World) (cx cz:Array Value) (tx tz:TypeId):∃ W0,W0=(w.alloc (.cells cx tx)).alloc (.cells cz tz)∧Ext w W0∧Box W0 w.heap.size cx tx∧Box W0 (w.heap.size+1) cz tz:=by
 have hx1:=Box.new w cx tx;have hz1:=Box.new (w.alloc (.cells cx tx)) cz tz;simp only [World.size_alloc] at hz1;have e1:=Ext.alloc w (.cells cx tx);have e3:=Ext.alloc (w.alloc (.cells cx tx)) (.cells cz tz)
 exact ⟨_,rfl,e1.trans e3,hx1.ext e3,hz1⟩
theorem NumV.abs {w:World} {ng:Bool} {x y:Value} {q:Rat} (h:NumV w (.agg #[.bool ng,x,y]) q):NumV w (.agg #[.bool false,x,y]) (mkq false q.num.natAbs q.den):=by
 obtain ⟨a,n,c,a',n',c',h1,h2,h3⟩:=h
 simp at h1
 obtain ⟨rfl,rfl,rfl⟩:=h1;have hg:Nat.gcd q.num.natAbs q.den=1:=q.reduced;refine ⟨a,n,c,a',n',c',?_,?_,?_⟩
 ·rw [mkq_neg false _ _ q.den_nz];rfl
 ·rw [mkq_natAbs false _ _ q.den_nz,hg,Nat.div_one];exact h2
 ·rw [mkq_den false _ _ q.den_nz,hg,Nat.div_one];exact h3
theorem NumV.flip {w:World} {ng:Bool} {x y:Value} {q:Rat} (h:NumV w (.agg #[.bool ng,x,y]) q) (mg:Bool) (hm:mg=(!ng&&decide (q.num.natAbs≠0))):NumV w (.agg #[.bool mg,x,y]) (-q):=by
 have hn:=h.neg;obtain ⟨a,n,c,a',n',c',h1,h2,h3⟩:=h
 simp at h1
 obtain ⟨_,rfl,rfl⟩:=h1;refine ⟨a,n,c,a',n',c',?_,?_,?_⟩
 ·have:decide ((-q).num<0)=mg:=by
   rw [hm,hn,Bool.eq_iff_iff];simp only [Rat.neg_num,decide_eq_true_iff,Bool.and_eq_true,Bool.not_eq_true',decide_eq_false_iff_not]
   omega
  rw [this]
 ·rw [Rat.neg_num,Int.natAbs_neg];exact h2
 ·rw [Rat.neg_den];exact h3
theorem abs_c (v:Value) (q:Rat) (w:World) (h:NumV w v q):Calls Tryz.prog 23 #[v] w fun e w'=>∃ v,e=.returned v∧NumV w' v (mkq false q.num.natAbs q.den)∧Ext w w':=by
 obtain ⟨ng,a,n,c,a',n',c',rfl⟩:=h.shape;have h2:=hid h.abs
 go_enter Tryz.func23,Tryz.ntmps23
 go_wp2_with fail;have e1:=Ext.alloc w (.cells #[.bool ng,.slice a n c,.slice a' n' c'] 40);have e2:=e1.trans (Ext.alloc _ (.cells #[.bool false,.slice a n c,.slice a' n' c'] 40));refine bodyPost_ret (v:=.agg #[.bool false,.slice a n c,.slice a' n' c']) (by simp [results,Tryz.results23,go_sem]) rfl ⟨_,rfl,h2.o.ext e2,e2⟩
theorem neg_num_abs (q:Rat):(mkq false q.num.natAbs q.den)=if q.num<0 then -q else q:=by
 have h:=mkq_self q
 by_cases hq:q.num<0
 ·rw [if_pos hq];have h2:=mkq_self (-q);rw [Rat.neg_num,Rat.neg_den,Int.natAbs_neg,decide_eq_false (by omega)] at h2
  exact h2
 ·rw [if_neg hq];rw [decide_eq_false hq] at h
  exact h
theorem neg_c (v:Value) (q:Rat) (w:World) (h:NumV w v q):Calls Tryz.prog 189 #[v] w fun e w'=>∃ v,e=.returned v∧NumV w' v (-q)∧Ext w w':=by
 obtain ⟨ng,a,n,c,a',n',c',rfl⟩:=h.shape;have h1:=h.p.len0;have h2:=hid (h.flip (!ng&&decide (q.num.natAbs≠0)) rfl);have h3:decide (q.num.natAbs≠0)=decide (0<n):=by rw [Bool.eq_iff_iff,decide_eq_true_iff,decide_eq_true_iff];omega
 rw [h3] at h2;clear h h1 h3
 cases ng
 ·go_enter Tryz.func189,Tryz.ntmps189
  go_wp2_with fail;have e1:=Ext.alloc w (.cells #[.bool false,.slice a n c,.slice a' n' c'] 40);have e2:=e1.trans (Ext.alloc _ (.cells #[.bool (decide (0<n)),.slice a n c,.slice a' n' c'] 40));refine bodyPost_ret (v:=.agg #[.bool (decide (0<n)),.slice a n c,.slice a' n' c']) (by simp [results,Tryz.results189,go_sem]) rfl ⟨_,rfl,h2.o.ext e2,e2⟩
 ·go_enter Tryz.func189,Tryz.ntmps189
  go_wp2_with fail;have e1:=Ext.alloc w (.cells #[.bool true,.slice a n c,.slice a' n' c'] 40);have e2:=e1.trans (Ext.alloc _ (.cells #[.bool false,.slice a n c,.slice a' n' c'] 40));refine bodyPost_ret (v:=.agg #[.bool false,.slice a n c,.slice a' n' c']) (by simp [results,Tryz.results189,go_sem]) rfl ⟨_,rfl,h2.o.ext e2,e2⟩
end Go.Proofs.YtgabigepocfllaaGreatDoor
