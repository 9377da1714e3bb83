/- Rational numbers in memory: how a value reads as one; bottom, made. -/
import Derived.Test.YtoaoebimjmjpeaaGreatDoorT06
namespace Go.Proofs.YtoaoebimjmjpeaaGreatDoor
open Go.RowKit Vn
set_option maxRecDepth 100000
set_option maxHeartbeats 8000000
def NumV (w:World) (v:Value) (q:Rat):Prop:=∃ (a:Option Addr) (n c:Nat) (a':Option Addr) (n' c':Nat),v=.agg #[.bool (decide (q.num<0)),.slice a n c,.slice a' n' c'] ∧
 NatV w (.slice a n c) q.num.natAbs∧((q.den=1∧a'=none∧n'=0∧c'=0)∨(q.den≠1∧a'.isSome=true∧NatV w (.slice a' n' c') q.den))
def SmQ (K:Nat) (q:Rat):Prop:=Sm K q.num.natAbs∧Sm K q.den
theorem SmQ.mono {K L:Nat} {q:Rat} (h:SmQ K q) (hl:K≤L):SmQ L q:=⟨h.1.mono hl,h.2.mono hl⟩
def Keep (w w':World):Prop:=∀ v l,SlAt 240 .u32 w v l→SlAt 240 .u32 w' v l
theorem Keep.of_ext {w w':World} (h:Ext w w'):Keep w w':=fun _ _ k=>k.ext h
theorem Keep.trans {a b c:World} (h:Keep a b) (k:Keep b c):Keep a c:=fun v l x=>k v l (h v l x)
theorem Keep.setCell {w:World} {p:Addr} {c:Array Value} {U:TypeId} {fr:Nat×Nat} (hp:w.heap[p.block]?=some (.cells c U fr)) (hU:U≠240) (x:Value):Keep w (w.setCell p x) :=
 fun _ _ k=>k.setCell hp hU x
theorem NatV.keep {w w':World} {v:Value} {n:Nat} (h:NatV w v n) (k:Keep w w'):NatV w' v n:=by
 obtain ⟨l,h1,h2,h3⟩:=h;exact ⟨l,h1,h2,k _ _ h3⟩
theorem NumV.keep {w w':World} {v:Value} {q:Rat} (h:NumV w v q) (k:Keep w w'):NumV w' v q:=by
 obtain ⟨a,n,c,a',n',c',h1,h2,h3⟩:=h;refine ⟨a,n,c,a',n',c',h1,h2.keep k,?_⟩
 rcases h3 with h3 | ⟨h3,h4,h5⟩
 ·exact .inl h3
 ·exact .inr ⟨h3,h4,h5.keep k⟩
theorem NumV.ext {w w':World} {v:Value} {q:Rat} (h:NumV w v q) (k:Ext w w'):NumV w' v q:=h.keep (Keep.of_ext k)
def Box (w:World) (b:Nat) (cs:Array Value) (t:TypeId):Prop:=w.heap[b]?=some (.cells cs t (0,0))
theorem Box.ext {w w':World} {b:Nat} {cs:Array Value} {t:TypeId} (h:Box w b cs t) (k:Ext w w'):Box w' b cs t:=k.heap h
theorem Box.new (w:World) (cs:Array Value) (t:TypeId):Box (w.alloc (.cells cs t)) w.heap.size cs t:=heap_alloc_new w _
theorem Box.cell {w:World} {b:Nat} {cs:Array Value} {t:TypeId} (h:Box w b cs t) (i:Nat):w.cell? ⟨b,i,none⟩=cs[i]?:=by
 simp [World.cell?,show w.heap[b]?=_ from h]
theorem Box.free {w:World} {b:Nat} {cs:Array Value} {t:TypeId} (h:Box w b cs t) (i:Nat):w.frozen? ⟨b,i,none⟩=false:=by
 simp [World.frozen?,show w.heap[b]?=_ from h]
theorem Box.set {w:World} {b:Nat} {cs:Array Value} {t:TypeId} (h:Box w b cs t) (i:Nat) (x:Value):Box (w.setCell ⟨b,i,none⟩ x) b (cs.setIfInBounds i x) t:=by
 have hlt:=cell_lt h;have h':w.heap[b]=.cells cs t (0,0):=by simpa [Array.getElem?_eq_getElem hlt] using (show w.heap[b]?=_ from h)
 show (w.heap.modify b _)[b]?=_
 rw [Array.getElem?_eq_getElem (by simpa using hlt),Array.getElem_modify_self,h']
 rfl
theorem Box.three {w:World} {b:Nat} {x y z:Value} {t:TypeId} (h:Box w b #[x,y,z] t) :
  w.cell? ⟨b,0,none⟩=some x∧w.cell? ⟨b,1,none⟩=some y∧w.cell? ⟨b,2,none⟩=some z∧w.frozen? ⟨b,0,none⟩=false∧w.frozen? ⟨b,1,none⟩=false∧w.frozen? ⟨b,2,none⟩=false :=
 ⟨h.cell 0,h.cell 1,h.cell 2,h.free 0,h.free 1,h.free 2⟩
theorem store3 {w wk:World} {b:Nat} {x y z:Value} {t:TypeId} (hE:Ext w wk) (hle:w.heap.size≤b) (hB:Box wk b #[x,y,z] t) (ht:t≠240) (x' y' z':Value) :
  Ext w (((wk.setCell ⟨b,0,none⟩ x').setCell ⟨b,1,none⟩ y').setCell ⟨b,2,none⟩ z')∧Keep wk (((wk.setCell ⟨b,0,none⟩ x').setCell ⟨b,1,none⟩ y').setCell ⟨b,2,none⟩ z') ∧
  Box (((wk.setCell ⟨b,0,none⟩ x').setCell ⟨b,1,none⟩ y').setCell ⟨b,2,none⟩ z') b #[x',y',z'] t:=by
 have h1:=hB.set 0 x';have h2:=h1.set 1 y';have h3:=h2.set 2 z'
 exact ⟨((hE.setCell (p:=⟨b,0,none⟩) hle _).setCell (p:=⟨b,1,none⟩) hle _).setCell (p:=⟨b,2,none⟩) hle _,
  ((Keep.setCell (p:=⟨b,0,none⟩) hB ht x').trans (Keep.setCell (p:=⟨b,1,none⟩) h1 ht y')).trans (Keep.setCell (p:=⟨b,2,none⟩) h2 ht z'),h3⟩
theorem eqlNil (w:World):(binOp .eql 47 (.slice none 0 0) (.slice none 0 0)).run Tryz.prog w=.ok (.bool true) w :=
 Lib.run_eql_slice_nil w 47 240 none 0 0 0 0 Tryz.underlying47
theorem bottom_nil (x y:Value) (w:World):Calls Tryz.prog 53 #[.agg #[x,y,.slice none 0 0]] w fun e w'=>∃ a k c,e=.returned (.slice a k c)∧NatV w' (.slice a k c) 1∧Ext w w':=by
 have hn:=fun w=>eqlNil w
 go_enter Tryz.func53,Tryz.ntmps53
 go_wp2_with fail;refine (of_c _ _ (by omega) (by omega)).mono ?_;rintro e w1 ⟨a1,n1,c1,rfl,h1,hb1⟩;go_wp2_with fail;go_ret
 exact ⟨a1,n1,c1,rfl,h1,(Below.alloc (Below.refl _ w) (Nat.le_refl _) _).trans (hb1.mono (by simp))⟩
theorem bottom_some (x y:Value) (p:Addr) (n c:Nat) (w:World):Calls Tryz.prog 53 #[.agg #[x,y,.slice (some p) n c]] w fun e w'=>e=.returned (.slice (some p) n c)∧Ext w w':=by
 have hn:∀ w,(binOp .eql 47 (.slice (some p) n c) (.slice none 0 0)).run Tryz.prog w=.ok (.bool false) w:=fun w=>Lib.run_eql_slice_nil w 47 240 (some p) n c 0 0 Tryz.underlying47
 go_enter Tryz.func53,Tryz.ntmps53
 go_wp2_with fail;go_ret
 exact ⟨rfl,Below.alloc (Below.refl _ w) (Nat.le_refl _) _⟩
theorem bottom_c (v:Value) (q:Rat) (w:World) (h:NumV w v q):Calls Tryz.prog 53 #[v] w fun e w'=>∃ a k c,e=.returned (.slice a k c)∧NatV w' (.slice a k c) q.den∧Ext w w':=by
 obtain ⟨a,n,c,a',n',c',rfl,h2,h3⟩:=h
 rcases h3 with ⟨h3,rfl,rfl,rfl⟩ | ⟨h3,h4,h5⟩
 ·rw [h3];exact bottom_nil _ _ w
 ·cases a' with
  | none=>simp at h4
  | some p =>
   refine (bottom_some _ _ p n' c' w).mono ?_;rintro e w' ⟨rfl,hb⟩
   exact ⟨_,_,_,rfl,h5.ext hb,hb⟩
theorem neg_value {neg:Bool} {P Q:Nat} (hP:0<P) (hQ:Q≠0):decide ((mkq neg P Q).num<0)=neg:=by
 rw [mkq_neg neg P Q hQ,decide_eq_true (by omega:P≠0),Bool.and_true]
theorem NatV.some {w:World} {a:Option Addr} {n c N:Nat} (h:NatV w (.slice a n c) N) (hN:N≠0):a.isSome=true:=by
 have hl:=h.len0;obtain ⟨b,off,l,h1,h2,h3,h4,_⟩:=h.opens;rw [h4.o (by rcases Nat.eq_zero_or_pos n with h0 | h0;exact absurd (hl.1 h0) hN;exact h0)];rfl
theorem NumV.made {w:World} {neg:Bool} {a a':Option Addr} {n c n' c' P Q:Nat} (hP:0<P) (hQ:Q≠0) (h1:NatV w (.slice a n c) (P/Nat.gcd P Q))
  (h2:(Q/Nat.gcd P Q=1∧a'=none∧n'=0∧c'=0)∨(Q/Nat.gcd P Q≠1∧NatV w (.slice a' n' c') (Q/Nat.gcd P Q))) :
  NumV w (.agg #[.bool neg,.slice a n c,.slice a' n' c']) (mkq neg P Q):=by
 refine ⟨a,n,c,a',n',c',?_,?_,?_⟩
 ·rw [neg_value hP hQ]
 ·rw [mkq_natAbs neg P Q hQ];exact h1
 ·rw [mkq_den neg P Q hQ];have hd:Q/Nat.gcd P Q≠0:=by
   have:=Nat.div_pos (Nat.le_of_dvd (by omega) (Nat.gcd_dvd_right P Q)) (Nat.gcd_pos_of_pos_right P (show 0<Q by omega))
   omega
  rcases h2 with h2 | ⟨h2,h3⟩
  ·exact .inl h2
  ·exact .inr ⟨h2,h3.some hd,h3⟩
theorem NumV.zero (w:World):NumV w (.agg #[.bool false,.slice none 0 0,.slice none 0 0]) 0 :=
 ⟨none,0,0,none,0,0,rfl,NatV.zero w,.inl ⟨rfl,rfl,rfl,rfl⟩⟩
theorem made_zero (neg:Bool) (a:Option Addr) (c:Nat) (y:Value) (w:World):Calls Tryz.prog 114 #[.bool neg,.slice a 0 c,y] w fun e w'=>e=.returned (.agg #[.bool false,.slice none 0 0,.slice none 0 0])∧Ext w w':=by
 have hz:(((0:Nat):Int)==0)=true:=rfl
 go_enter Tryz.func114,Tryz.ntmps114
 go_wp2_with fail;refine bodyPost_ret (v:=.agg #[.bool false,.slice none 0 0,.slice none 0 0]) (by simp [results,Tryz.results114,go_sem]) rfl ⟨rfl,?_⟩
 exact Below.alloc (Below.refl _ w) (Nat.le_refl _) _
theorem Ext.alloc (w:World) (o:Obj):Ext w (w.alloc o):=Below.alloc (Below.refl _ w) (Nat.le_refl _) _
theorem len_pos {w:World} {a:Option Addr} {n c N:Nat} (h:NatV w (.slice a n c) N) (hN:0<N):0<n:=by
 rcases Nat.eq_zero_or_pos n with h0 | h0
 ·have:=h.len0.1 h0;omega
 ·exact h0
theorem made_one (neg:Bool) (a a':Option Addr) (n c n' c' P Q K:Nat) (w:World) (HP:Hid (NatV w (.slice a n c) P)) (HQ:Hid (NatV w (.slice a' n' c') Q)) (_SP:Hid (Sm K P)) (_SQ:Hid (Sm K Q)) (_HK:Hid (K≤50000000)) (hP:0<P) (hQ:0<Q)(h1:Q=1) :
  Calls Tryz.prog 114 #[.bool neg,.slice a n c,.slice a' n' c'] w fun e w'=>∃ v,e=.returned v∧NumV w' v (mkq neg P Q)∧Ext w w':=by
 have hn:=len_pos HP.o hP;have hz:((n:Int)==0)=false:=by simp;omega
 have HB0:=hid (Box.new w #[.bool false,.slice none 0 0,.slice none 0 0] 49);have HE0:=hid (Ext.alloc w (.cells #[.bool false,.slice none 0 0,.slice none 0 0] 49))
 go_enter Tryz.func114,Tryz.ntmps114
 go_wp2_with fail;have hq1:decide (Q=1)=true:=decide_eq_true h1;have H1:=hid h1;clear h1;refine (is1_c _ Q _ (HQ.o.ext HE0.o)).mono ?_;rintro e w1 ⟨rfl,hb1⟩;have HE1:=hid (HE0.o.trans hb1);have HB1:=hid (HB0.o.ext hb1);clear hb1;go_wp2_with fail;refine (is1_c _ Q _ (HQ.o.ext HE1.o)).mono ?_;rintro e w2 ⟨rfl,hb2⟩;have HE2:=hid (HE1.o.trans hb2);have HB2:=hid (HB1.o.ext hb2);clear hb2;have hg:Nat.gcd P Q=1:=by rw [H1.o];exact Nat.gcd_one_right P
 obtain ⟨d0,d1,d2,f0,f1,f2⟩:=HB2.o.three;go_wp2_with fail;obtain ⟨q1,q2,q3⟩:=store3 HE2.o (Nat.le_refl _) HB2.o (by decide) (.bool neg) (.slice a n c) (.slice none 0 0);have r0:=q3.cell 0;have r1:=q3.cell 1;have r2:=q3.cell 2;refine bodyPost_ret (v:=.agg #[.bool neg,.slice a n c,.slice none 0 0]) (by simp [results,Tryz.results114,go_sem,r0,r1,r2]) rfl ⟨_,rfl,?_,q1⟩
 exact NumV.keep (NumV.made hP (by omega) (by rw [hg,Nat.div_one];exact HP.o.ext HE2.o) (.inl ⟨by rw [hg,Nat.div_one];exact H1.o,rfl,rfl,rfl⟩)) q2
theorem made_coprime (neg:Bool) (a a':Option Addr) (n c n' c' P Q K:Nat) (w:World) (HP:Hid (NatV w (.slice a n c) P)) (HQ:Hid (NatV w (.slice a' n' c') Q)) (SP:Hid (Sm K P)) (SQ:Hid (Sm K Q)) (HK:Hid (K≤50000000)) (hP:0<P) (hQ:0<Q)(h1:Q≠1) (hg1:Nat.gcd P Q=1) :
  Calls Tryz.prog 114 #[.bool neg,.slice a n c,.slice a' n' c'] w fun e w'=>∃ v,e=.returned v∧NumV w' v (mkq neg P Q)∧Ext w w':=by
 have hn:=len_pos HP.o hP;have hz:((n:Int)==0)=false:=by simp;omega
 have HB0:=hid (Box.new w #[.bool false,.slice none 0 0,.slice none 0 0] 49);have HE0:=hid (Ext.alloc w (.cells #[.bool false,.slice none 0 0,.slice none 0 0] 49))
 go_enter Tryz.func114,Tryz.ntmps114
 go_wp2_with fail;have hq1:decide (Q=1)=false:=decide_eq_false h1;have hg2:decide (Nat.gcd P Q=1)=true:=decide_eq_true hg1;have H1:=hid h1;have G1:=hid hg1;clear h1 hg1;refine (is1_c _ Q _ (HQ.o.ext HE0.o)).mono ?_;rintro e w1 ⟨rfl,hb1⟩;have HE1:=hid (HE0.o.trans hb1);have HB1:=hid (HB0.o.ext hb1);clear hb1;go_wp2_with fail;refine (gcd_c _ _ P Q K _ (HP.o.ext HE1.o) (HQ.o.ext HE1.o) SP.o SQ.o HK.o).mono ?_;rintro e w2 ⟨a2,n2,c2,rfl,h2,hb2⟩;have HG:=hid h2;have HE2:=hid (HE1.o.trans hb2);have HB2:=hid (HB1.o.ext hb2);clear hb2 h2;go_wp2_with fail;refine (is1_c _ (Nat.gcd P Q) _ HG.o).mono ?_;rintro e w3 ⟨rfl,hb3⟩;have HE3:=hid (HE2.o.trans hb3);have HB3:=hid (HB2.o.ext hb3);clear hb3;go_wp2_with fail;refine (is1_c _ Q _ (HQ.o.ext HE3.o)).mono ?_;rintro e w4 ⟨rfl,hb4⟩;have HE4:=hid (HE3.o.trans hb4);have HB4:=hid (HB3.o.ext hb4);clear hb4;obtain ⟨d0,d1,d2,f0,f1,f2⟩:=HB4.o.three;go_wp2_with fail;obtain ⟨q1,q2,q3⟩:=store3 HE4.o (Nat.le_refl _) HB4.o (by decide) (.bool neg) (.slice a n c) (.slice a' n' c');have r0:=q3.cell 0;have r1:=q3.cell 1;have r2:=q3.cell 2;refine bodyPost_ret (v:=.agg #[.bool neg,.slice a n c,.slice a' n' c']) (by simp [results,Tryz.results114,go_sem,r0,r1,r2]) rfl ⟨_,rfl,?_,q1⟩
 exact NumV.keep (NumV.made hP (by omega) (by rw [G1.o,Nat.div_one];exact HP.o.ext HE4.o) (.inr ⟨by rw [G1.o,Nat.div_one];exact H1.o,by rw [G1.o,Nat.div_one];exact HQ.o.ext HE4.o⟩)) q2
theorem made_whole (neg:Bool) (a a':Option Addr) (n c n' c' P Q K:Nat) (w:World) (HP:Hid (NatV w (.slice a n c) P)) (HQ:Hid (NatV w (.slice a' n' c') Q)) (SP:Hid (Sm K P)) (SQ:Hid (Sm K Q)) (HK:Hid (K≤50000000)) (hP:0<P) (hQ:0<Q)(h1:Q≠1) (hg1:Nat.gcd P Q≠1) (h3:Q/Nat.gcd P Q=1) :
  Calls Tryz.prog 114 #[.bool neg,.slice a n c,.slice a' n' c'] w fun e w'=>∃ v,e=.returned v∧NumV w' v (mkq neg P Q)∧Ext w w':=by
 have hn:=len_pos HP.o hP;have hz:((n:Int)==0)=false:=by simp;omega
 have HB0:=hid (Box.new w #[.bool false,.slice none 0 0,.slice none 0 0] 49);have HE0:=hid (Ext.alloc w (.cells #[.bool false,.slice none 0 0,.slice none 0 0] 49))
 go_enter Tryz.func114,Tryz.ntmps114
 go_wp2_with fail;have hq1:decide (Q=1)=false:=decide_eq_false h1;have hg2:decide (Nat.gcd P Q=1)=false:=decide_eq_false hg1;have hq3:decide (Q/Nat.gcd P Q=1)=true:=decide_eq_true h3;have H3:=hid h3;clear h1 hg1 h3;refine (is1_c _ Q _ (HQ.o.ext HE0.o)).mono ?_;rintro e w1 ⟨rfl,hb1⟩;have HE1:=hid (HE0.o.trans hb1);have HB1:=hid (HB0.o.ext hb1);clear hb1;go_wp2_with fail;refine (gcd_c _ _ P Q K _ (HP.o.ext HE1.o) (HQ.o.ext HE1.o) SP.o SQ.o HK.o).mono ?_;rintro e w2 ⟨a2,n2,c2,rfl,h2,hb2⟩;have HG:=hid h2;have HE2:=hid (HE1.o.trans hb2);have HB2:=hid (HB1.o.ext hb2);clear hb2 h2;go_wp2_with fail;refine (is1_c _ (Nat.gcd P Q) _ HG.o).mono ?_;rintro e w3 ⟨rfl,hb3⟩;have HE3:=hid (HE2.o.trans hb3);have HB3:=hid (HB2.o.ext hb3);go_wp2_with fail;have hgp:0<Nat.gcd P Q:=Nat.gcd_pos_of_pos_right P hQ;have hgs:Hid (Sm K (Nat.gcd P Q)):=hid (SQ.o.of_le (Nat.le_of_dvd hQ (Nat.gcd_dvd_right P Q)));have HG3:=hid (HG.o.ext hb3);refine (div_c _ _ P (Nat.gcd P Q) K _ (HP.o.ext HE3.o) HG3.o SP.o hgs.o HK.o hgp).mono ?_;rintro e w5 ⟨a5,n5,c5,a6,n6,c6,rfl,h5,_,hb5⟩;have HP5:=hid h5;have HE5:=hid (HE3.o.trans hb5);have HB5:=hid (HB3.o.ext hb5);have HG5:=hid (HG3.o.ext hb5);clear hb5 h5 hb3;go_wp2_with fail;refine (div_c _ _ Q (Nat.gcd P Q) K _ (HQ.o.ext HE5.o) HG5.o SQ.o hgs.o HK.o hgp).mono ?_;rintro e w7 ⟨a7,n7,c7,a8,n8,c8,rfl,h7,_,hb7⟩;have HQ7:=hid h7;have HP7:=hid (HP5.o.ext hb7);have HE7:=hid (HE5.o.trans hb7);have HB7:=hid (HB5.o.ext hb7);clear hb7 h7;go_wp2_with fail;refine (is1_c _ (Q/Nat.gcd P Q) _ HQ7.o).mono ?_;rintro e w9 ⟨rfl,hb9⟩;have HE9:=hid (HE7.o.trans hb9);have HB9:=hid (HB7.o.ext hb9);obtain ⟨d0,d1,d2,f0,f1,f2⟩:=HB9.o.three;go_wp2_with fail;obtain ⟨q1,q2,q3⟩:=store3 HE9.o (Nat.le_refl _) HB9.o (by decide) (.bool neg) (.slice a5 n5 c5) (.slice none 0 0);have r0:=q3.cell 0;have r1:=q3.cell 1;have r2:=q3.cell 2;refine bodyPost_ret (v:=.agg #[.bool neg,.slice a5 n5 c5,.slice none 0 0]) (by simp [results,Tryz.results114,go_sem,r0,r1,r2]) rfl ⟨_,rfl,?_,q1⟩
 exact NumV.keep (NumV.made hP (by omega) (HP7.o.ext hb9) (.inl ⟨H3.o,rfl,rfl,rfl⟩)) q2
theorem made_part (neg:Bool) (a a':Option Addr) (n c n' c' P Q K:Nat) (w:World) (HP:Hid (NatV w (.slice a n c) P)) (HQ:Hid (NatV w (.slice a' n' c') Q)) (SP:Hid (Sm K P)) (SQ:Hid (Sm K Q)) (HK:Hid (K≤50000000)) (hP:0<P) (hQ:0<Q)(h1:Q≠1) (hg1:Nat.gcd P Q≠1) (h3:Q/Nat.gcd P Q≠1) :
  Calls Tryz.prog 114 #[.bool neg,.slice a n c,.slice a' n' c'] w fun e w'=>∃ v,e=.returned v∧NumV w' v (mkq neg P Q)∧Ext w w':=by
 have hn:=len_pos HP.o hP;have hz:((n:Int)==0)=false:=by simp;omega
 have HB0:=hid (Box.new w #[.bool false,.slice none 0 0,.slice none 0 0] 49);have HE0:=hid (Ext.alloc w (.cells #[.bool false,.slice none 0 0,.slice none 0 0] 49))
 go_enter Tryz.func114,Tryz.ntmps114
 go_wp2_with fail;have hq1:decide (Q=1)=false:=decide_eq_false h1;have hg2:decide (Nat.gcd P Q=1)=false:=decide_eq_false hg1;have hq3:decide (Q/Nat.gcd P Q=1)=false:=decide_eq_false h3;have H3:=hid h3;clear h1 hg1 h3;refine (is1_c _ Q _ (HQ.o.ext HE0.o)).mono ?_;rintro e w1 ⟨rfl,hb1⟩;have HE1:=hid (HE0.o.trans hb1);have HB1:=hid (HB0.o.ext hb1);clear hb1;go_wp2_with fail;refine (gcd_c _ _ P Q K _ (HP.o.ext HE1.o) (HQ.o.ext HE1.o) SP.o SQ.o HK.o).mono ?_;rintro e w2 ⟨a2,n2,c2,rfl,h2,hb2⟩;have HG:=hid h2;have HE2:=hid (HE1.o.trans hb2);have HB2:=hid (HB1.o.ext hb2);clear hb2 h2;go_wp2_with fail;refine (is1_c _ (Nat.gcd P Q) _ HG.o).mono ?_;rintro e w3 ⟨rfl,hb3⟩;have HE3:=hid (HE2.o.trans hb3);have HB3:=hid (HB2.o.ext hb3);go_wp2_with fail;have hgp:0<Nat.gcd P Q:=Nat.gcd_pos_of_pos_right P hQ;have hgs:Hid (Sm K (Nat.gcd P Q)):=hid (SQ.o.of_le (Nat.le_of_dvd hQ (Nat.gcd_dvd_right P Q)));have HG3:=hid (HG.o.ext hb3);refine (div_c _ _ P (Nat.gcd P Q) K _ (HP.o.ext HE3.o) HG3.o SP.o hgs.o HK.o hgp).mono ?_;rintro e w5 ⟨a5,n5,c5,a6,n6,c6,rfl,h5,_,hb5⟩;have HP5:=hid h5;have HE5:=hid (HE3.o.trans hb5);have HB5:=hid (HB3.o.ext hb5);have HG5:=hid (HG3.o.ext hb5);clear hb5 h5 hb3;go_wp2_with fail;refine (div_c _ _ Q (Nat.gcd P Q) K _ (HQ.o.ext HE5.o) HG5.o SQ.o hgs.o HK.o hgp).mono ?_;rintro e w7 ⟨a7,n7,c7,a8,n8,c8,rfl,h7,_,hb7⟩;have HQ7:=hid h7;have HP7:=hid (HP5.o.ext hb7);have HE7:=hid (HE5.o.trans hb7);have HB7:=hid (HB5.o.ext hb7);clear hb7 h7;go_wp2_with fail;refine (is1_c _ (Q/Nat.gcd P Q) _ HQ7.o).mono ?_;rintro e w9 ⟨rfl,hb9⟩;have HE9:=hid (HE7.o.trans hb9);have HB9:=hid (HB7.o.ext hb9);obtain ⟨d0,d1,d2,f0,f1,f2⟩:=HB9.o.three;go_wp2_with fail;obtain ⟨q1,q2,q3⟩:=store3 HE9.o (Nat.le_refl _) HB9.o (by decide) (.bool neg) (.slice a5 n5 c5) (.slice a7 n7 c7);have r0:=q3.cell 0;have r1:=q3.cell 1;have r2:=q3.cell 2;refine bodyPost_ret (v:=.agg #[.bool neg,.slice a5 n5 c5,.slice a7 n7 c7]) (by simp [results,Tryz.results114,go_sem,r0,r1,r2]) rfl ⟨_,rfl,?_,q1⟩
 exact NumV.keep (NumV.made hP (by omega) (HP7.o.ext hb9) (.inr ⟨H3.o,HQ7.o.ext hb9⟩)) q2
theorem made_c (neg:Bool) (x y:Value) (P Q K:Nat) (w:World) (hx:NatV w x P) (hy:NatV w y Q) (sx:Sm K P) (sy:Sm K Q) (hK:K≤50000000) (hQ:0<Q) :
  Calls Tryz.prog 114 #[.bool neg,x,y] w fun e w'=>∃ v,e=.returned v∧NumV w' v (mkq neg P Q)∧Ext w w':=by
 obtain ⟨a,n,c,rfl⟩:=hx.shape;obtain ⟨a',n',c',rfl⟩:=hy.shape
 rcases Nat.eq_zero_or_pos P with hP | hP
 ·subst hP;obtain rfl:=hx.len0.2 rfl;refine (made_zero neg a c _ w).mono ?_;rintro e w' ⟨rfl,hb⟩
  exact ⟨_,rfl,by rw [mkq_zero];exact NumV.zero _,hb⟩
 ·by_cases h1:Q=1
  ·exact made_one neg a a' n c n' c' P Q K w (hid hx) (hid hy) (hid sx) (hid sy) (hid hK) hP hQ h1
  ·by_cases h2:Nat.gcd P Q=1
   ·exact made_coprime neg a a' n c n' c' P Q K w (hid hx) (hid hy) (hid sx) (hid sy) (hid hK) hP hQ h1 h2
   ·by_cases h3:Q/Nat.gcd P Q=1
    ·exact made_whole neg a a' n c n' c' P Q K w (hid hx) (hid hy) (hid sx) (hid sy) (hid hK) hP hQ h1 h2 h3
    ·exact made_part neg a a' n c n' c' P Q K w (hid hx) (hid hy) (hid sx) (hid sy) (hid hK) hP hQ h1 h2 h3
theorem NumV.shape {w:World} {v:Value} {q:Rat} (h:NumV w v q):∃ (ng:Bool) (a:Option Addr) (n c:Nat) (a':Option Addr) (n' c':Nat),v=.agg #[.bool ng,.slice a n c,.slice a' n' c']:=by
 obtain ⟨a,n,c,a',n',c',h1,_⟩:=h
 exact ⟨_,a,n,c,a',n',c',h1⟩
theorem NumV.neg {w:World} {ng:Bool} {x y:Value} {q:Rat} (h:NumV w (.agg #[.bool ng,x,y]) q):ng=decide (q.num<0):=by
 obtain ⟨a,n,c,a',n',c',h1,_⟩:=h
 simp at h1;exact h1.1
theorem NumV.p {w:World} {ng:Bool} {x y:Value} {q:Rat} (h:NumV w (.agg #[.bool ng,x,y]) q):NatV w x q.num.natAbs:=by
 obtain ⟨a,n,c,a',n',c',h1,h2,_⟩:=h
 simp at h1;rw [h1.2.1];exact h2
theorem den_pos (q:Rat):0<q.den:=Nat.pos_of_ne_zero q.den_nz
theorem Sm.mul {K L m n:Nat} (h:Sm K m) (k:Sm L n):Sm (K+L) (m*n):=by
 unfold Sm at *
 rw [Nat.pow_add]
 rcases Nat.eq_zero_or_pos n with h0 | h0
 ·subst h0;exact Nat.mul_pos (Nat.pow_pos (by decide)) (Nat.pow_pos (by decide))
 ·exact Nat.mul_lt_mul_of_lt_of_le h (Nat.le_of_lt k) (Nat.pow_pos (by decide))
def Six (x:Nat) (x0 x1 x2:Value) (y:Nat) (y0 y1 y2:Value) (w:World):Prop :=
 w.cell? ⟨x,0,none⟩=some x0∧w.cell? ⟨x,1,none⟩=some x1∧w.cell? ⟨x,2,none⟩=some x2∧w.cell? ⟨y,0,none⟩=some y0∧w.cell? ⟨y,1,none⟩=some y1∧w.cell? ⟨y,2,none⟩=some y2
theorem Six.of {w:World} {x y:Nat} {x0 x1 x2 y0 y1 y2:Value} {t u:TypeId} (h:Box w x #[x0,x1,x2] t) (k:Box w y #[y0,y1,y2] u):Six x x0 x1 x2 y y0 y1 y2 w :=
 ⟨h.cell 0,h.cell 1,h.cell 2,k.cell 0,k.cell 1,k.cell 2⟩
theorem cell_store3 {w:World} {p:Addr} {b:Nat} (h:p.block≠b) (x y z:Value):(((w.setCell ⟨b,0,none⟩ x).setCell ⟨b,1,none⟩ y).setCell ⟨b,2,none⟩ z).cell? p=w.cell? p:=by
 have e:∀ (w:World) (i:Nat) (x:Value),(w.setCell ⟨b,i,none⟩ x).cell? p=w.cell? p:=fun w i x=>by
  unfold World.cell?;rw [Below.heap_setCell _ _ _ _ (show p.block≠(⟨b,i,none⟩:Addr).block from h)]
 rw [e,e,e]
theorem Six.store {w:World} {x y b:Nat} {x0 x1 x2 y0 y1 y2:Value} (h:Six x x0 x1 x2 y y0 y1 y2 w) (hx:x≠b) (hy:y≠b) (u v z:Value) :
  Six x x0 x1 x2 y y0 y1 y2 (((w.setCell ⟨b,0,none⟩ u).setCell ⟨b,1,none⟩ v).setCell ⟨b,2,none⟩ z):=by
 unfold Six at *
 refine ⟨?_,?_,?_,?_,?_,?_⟩
 ·rw [cell_store3 (by exact hx)];exact h.1
 ·rw [cell_store3 (by exact hx)];exact h.2.1
 ·rw [cell_store3 (by exact hx)];exact h.2.2.1
 ·rw [cell_store3 (by exact hy)];exact h.2.2.2.1
 ·rw [cell_store3 (by exact hy)];exact h.2.2.2.2.1
 ·rw [cell_store3 (by exact hy)];exact h.2.2.2.2.2
theorem pro3 (w:World) (cx cy cz:Array Value) (tx ty tz:TypeId):∃ W0,W0=((w.alloc (.cells cx tx)).alloc (.cells cy ty)).alloc (.cells cz tz)∧Ext w W0∧Box W0 w.heap.size cx tx∧Box W0 (w.heap.size+1) cy ty∧Box W0 (w.heap.size+1+1) cz tz:=by
 have hx1:=Box.new w cx tx;have hy1:=Box.new (w.alloc (.cells cx tx)) cy ty;have hz1:=Box.new ((w.alloc (.cells cx tx)).alloc (.cells cy ty)) cz tz;simp only [World.size_alloc] at hy1 hz1;have e1:=Ext.alloc w (.cells cx tx);have e2:=Ext.alloc (w.alloc (.cells cx tx)) (.cells cy ty);have e3:=Ext.alloc ((w.alloc (.cells cx tx)).alloc (.cells cy ty)) (.cells cz tz)
 exact ⟨_,rfl,e1.trans (e2.trans e3),hx1.ext (e2.trans e3),hy1.ext e3,hz1⟩
theorem mul_value (q r:Rat):mkq (decide (q.num<0) != decide (r.num<0)) (q.num.natAbs*r.num.natAbs) (q.den*r.den)=q*r:=by
 rw [←mkq_mul,mkq_self,mkq_self]
theorem Mul_c (x y:Value) (q r:Rat) (K:Nat) (w:World) (hx:NumV w x q) (hy:NumV w y r) (sx:SmQ K q) (sy:SmQ K r) (hK:K≤20000000) :
  Calls Tryz.prog 200 #[x,y] w fun e w'=>∃ v,e=.returned v∧NumV w' v (q*r)∧Ext w w':=by
 obtain ⟨ng,a,n,c,a',n',c',rfl⟩:=hx.shape;obtain ⟨mg,b,m,d,b',m',d',rfl⟩:=hy.shape;obtain ⟨W0,hW0,e0,hBx,hBy,hBz⟩:=pro3 w #[.bool ng,.slice a n c,.slice a' n' c'] #[.bool mg,.slice b m d,.slice b' m' d'] #[.bool false,.slice none 0 0,.slice none 0 0] 49 49 49;have e4:Ext W0 W0.drew:=Below.drew (Below.refl _ W0);have HE:Hid (Ext w W0.drew):=hid (e0.trans e4);have HBz:=hid (hBz.ext e4);have HS:Hid (∀ w',Ext W0.drew w'→Six w.heap.size (.bool ng) (.slice a n c) (.slice a' n' c') (w.heap.size+1) (.bool mg) (.slice b m d) (.slice b' m' d') w'):=hid fun w' h=>Six.of (hBx.ext (e4.trans h)) (hBy.ext (e4.trans h));have Hx:=hid hx;have Hy:=hid hy;have Sxp:=hid sx.1;have Sxd:=hid sx.2;have Syp:=hid sy.1;have Syd:=hid sy.2;have HK2:Hid (K≤100000000):=hid (by omega);have HK3:Hid (K+K≤50000000):=hid (by omega);have HD:=hid (Nat.mul_pos (den_pos q) (den_pos r));have hrefl:Ext W0.drew W0.drew:=Below.refl _ _;clear hx hy sx sy hK e0 e4 hBx hBy hBz
 go_enter Tryz.func200,Tryz.ntmps200
 go_wp2_with fail;rw [←hW0];clear hW0
 go_region_held3 (fun w'=>w'.cell? ⟨w.heap.size,0,none⟩=some (.bool ng)∧w'.cell? ⟨w.heap.size,1,none⟩=some (.slice a n c)∧w'.cell? ⟨w.heap.size,2,none⟩=some (.slice a' n' c') ∧
   w'.cell? ⟨w.heap.size+1,0,none⟩=some (.bool mg)∧w'.cell? ⟨w.heap.size+1,1,none⟩=some (.slice b m d)∧w'.cell? ⟨w.heap.size+1,2,none⟩=some (.slice b' m' d'))
  (first | exact HS.o _ (by assumption) | exact Six.store (HS.o _ (by assumption)) (by omega) (by omega) _ _ _)
  (first
   | (go_at_call 52;(with_reducible refine (mul_c _ _ q.num.natAbs r.num.natAbs K _ (Hx.o.p.ext HE.o) (Hy.o.p.ext HE.o) Sxp.o Syp.o HK2.o).mono ?_);rintro e w1 ⟨a1,n1,c1,rfl,k1,hb1⟩)
   | (go_at_call 53;(with_reducible refine (bottom_c _ q _ (Hx.o.ext (HE.o.trans hb1))).mono ?_);rintro e w2 ⟨a2,n2,c2,rfl,k2,g2⟩;have hb2:Ext W0.drew w2:=hb1.trans g2)
   | (go_at_call 53;(with_reducible refine (bottom_c _ r _ (Hy.o.ext (HE.o.trans hb2))).mono ?_);rintro e w3 ⟨a3,n3,c3,rfl,k3,g3⟩;have hb3:Ext W0.drew w3:=hb2.trans g3)
   | (go_at_call 52;(with_reducible refine (mul_c _ _ q.den r.den K _ (k2.ext g3) k3 Sxd.o Syd.o HK2.o).mono ?_);rintro e w4 ⟨a4,n4,c4,rfl,k4,g4⟩;have hb4:Ext W0.drew w4:=hb3.trans g4)
   | (go_at_call 114;(with_reducible refine (made_c _ _ _ (q.num.natAbs*r.num.natAbs) (q.den*r.den) (K+K) _ (k1.ext (g2.trans (g3.trans g4))) k4 (Sxp.o.mul Syp.o) (Sxd.o.mul Syd.o) HK3.o HD.o).mono ?_);rintro e w5 ⟨v,rfl,k5,g5⟩;obtain ⟨ng5,a5,n5,c5,a5',n5',c5',rfl⟩:=k5.shape;have hb5:Ext W0.drew w5:=hb4.trans g5;obtain ⟨z0,z1,z2,f0,f1,f2⟩:=(HBz.o.ext hb5).three))
 go_wp2_with fail;obtain ⟨q1,q2,q3⟩:=store3 (HE.o.trans hb5) (show w.heap.size≤w.heap.size+1+1 by omega) (HBz.o.ext hb5) (by decide) (.bool ng5) (.slice a5 n5 c5) (.slice a5' n5' c5');have r0:=q3.cell 0;have r1:=q3.cell 1;have r2:=q3.cell 2;refine bodyPost_ret (v:=.agg #[.bool ng5,.slice a5 n5 c5,.slice a5' n5' c5']) (by simp [results,Tryz.results200,go_sem,r0,r1,r2]) rfl ⟨_,rfl,?_,q1⟩;have k6:=k5.keep q2;rw [Hx.o.neg,Hy.o.neg] at k6;have k7:NumV _ _ (mkq (decide (q.num<0) != decide (r.num<0)) (q.num.natAbs*r.num.natAbs) (q.den*r.den)):=k6;rw [mul_value] at k7
 exact k7
theorem sign_core (ng:Bool) (a:Option Addr) (n c:Nat) (y:Value) (w:World) (r:Int) (Hr:Hid (r=if n=0 then 0 else if ng then -1 else 1)) :
  Calls Tryz.prog 17 #[.agg #[.bool ng,.slice a n c,y]] w fun e w'=>e=.returned (.int .i64 r)∧Ext w w':=by
 rcases Nat.eq_zero_or_pos n with h | h
 ·subst h;have hz:(((0:Nat):Int)==0)=true:=rfl;have Hr2:Hid (r=0):=hid (by rw [Hr.o];rfl);clear Hr
  go_enter Tryz.func17,Tryz.ntmps17
  go_wp2_with fail;go_ret
  exact ⟨by rw [Hr2.o];rfl,Ext.alloc w _⟩
 ·have hz:((n:Int)==0)=false:=by simp;omega
  cases ng
  ·have Hr2:Hid (r=1):=hid (by rw [Hr.o,if_neg (by omega)];rfl);clear Hr
   go_enter Tryz.func17,Tryz.ntmps17
   go_wp2_with fail;go_ret
   exact ⟨by rw [Hr2.o];rfl,Ext.alloc w _⟩
  ·have Hr2:Hid (r = -1):=hid (by rw [Hr.o,if_neg (by omega)];rfl);clear Hr
   go_enter Tryz.func17,Tryz.ntmps17
   go_wp2_with fail;go_ret
   exact ⟨by rw [Hr2.o];rfl,Ext.alloc w _⟩
theorem sign_c (v:Value) (q:Rat) (w:World) (h:NumV w v q):Calls Tryz.prog 17 #[v] w fun e w'=>e=.returned (.int .i64 q.num.sign)∧Ext w w':=by
 obtain ⟨ng,a,n,c,a',n',c',rfl⟩:=h.shape;refine sign_core ng a n c _ w _ (hid ?_);have h1:=h.p.len0;have h2:=h.neg
 by_cases hn:n=0
 ·rw [if_pos hn]
  have:q.num=0:=by have:=h1.1 hn;omega
  rw [this];rfl
 ·rw [if_neg hn];have hne:q.num≠0:=fun h=>hn (h1.2 (by omega))
  cases hg:ng
  ·rw [hg] at h2
   have:¬ q.num<0:=by simpa using h2.symm
   rw [Int.sign_eq_one_of_pos (by omega)];rfl
  ·rw [hg] at h2
   have:q.num<0:=by simpa using h2.symm
   rw [Int.sign_eq_neg_one_of_neg this];rfl
theorem isInt_nil (x y:Value) (w:World):Calls Tryz.prog 182 #[.agg #[x,y,.slice none 0 0]] w fun e w'=>e=.returned (.bool true)∧Ext w w':=by
 have hn:=fun w=>eqlNil w
 go_enter Tryz.func182,Tryz.ntmps182
 go_wp2_with fail;go_ret
 exact ⟨rfl,Ext.alloc w _⟩
theorem isInt_some (x y:Value) (p:Addr) (n c:Nat) (w:World):Calls Tryz.prog 182 #[.agg #[x,y,.slice (some p) n c]] w fun e w'=>e=.returned (.bool false)∧Ext w w':=by
 have hn:∀ w,(binOp .eql 47 (.slice (some p) n c) (.slice none 0 0)).run Tryz.prog w=.ok (.bool false) w:=fun w=>Lib.run_eql_slice_nil w 47 240 (some p) n c 0 0 Tryz.underlying47
 go_enter Tryz.func182,Tryz.ntmps182
 go_wp2_with fail;go_ret
 exact ⟨rfl,Ext.alloc w _⟩
theorem isInt_c (v:Value) (q:Rat) (w:World) (h:NumV w v q):Calls Tryz.prog 182 #[v] w fun e w'=>e=.returned (.bool (decide (q.den=1)))∧Ext w w':=by
 obtain ⟨a,n,c,a',n',c',rfl,h2,h3⟩:=h
 rcases h3 with ⟨h3,rfl,rfl,rfl⟩ | ⟨h3,h4,h5⟩
 ·rw [decide_eq_true h3];exact isInt_nil _ _ w
 ·rw [decide_eq_false h3]
  cases a' with
  | none=>simp at h4
  | some p=>exact isInt_some _ _ p n' c' w
theorem pro2 (w:World) (cx cz:Array Value) (tx tz:TypeId):∃ W0,W0=(w.alloc (.cells cx tx)).alloc (.cells cz tz)∧Ext w W0∧Box W0 w.heap.size cx tx∧Box W0 (w.heap.size+1) cz tz:=by
 have hx1:=Box.new w cx tx;have hz1:=Box.new (w.alloc (.cells cx tx)) cz tz;simp only [World.size_alloc] at hz1;have e1:=Ext.alloc w (.cells cx tx);have e3:=Ext.alloc (w.alloc (.cells cx tx)) (.cells cz tz)
 exact ⟨_,rfl,e1.trans e3,hx1.ext e3,hz1⟩
theorem NumV.abs {w:World} {ng:Bool} {x y:Value} {q:Rat} (h:NumV w (.agg #[.bool ng,x,y]) q):NumV w (.agg #[.bool false,x,y]) (mkq false q.num.natAbs q.den):=by
 obtain ⟨a,n,c,a',n',c',h1,h2,h3⟩:=h
 simp at h1
 obtain ⟨rfl,rfl,rfl⟩:=h1;have hg:Nat.gcd q.num.natAbs q.den=1:=q.reduced;refine ⟨a,n,c,a',n',c',?_,?_,?_⟩
 ·rw [mkq_neg false _ _ q.den_nz];rfl
 ·rw [mkq_natAbs false _ _ q.den_nz,hg,Nat.div_one];exact h2
 ·rw [mkq_den false _ _ q.den_nz,hg,Nat.div_one];exact h3
theorem NumV.flip {w:World} {ng:Bool} {x y:Value} {q:Rat} (h:NumV w (.agg #[.bool ng,x,y]) q) (mg:Bool) (hm:mg=(!ng&&decide (q.num.natAbs≠0))):NumV w (.agg #[.bool mg,x,y]) (-q):=by
 have hn:=h.neg;obtain ⟨a,n,c,a',n',c',h1,h2,h3⟩:=h
 simp at h1
 obtain ⟨_,rfl,rfl⟩:=h1;refine ⟨a,n,c,a',n',c',?_,?_,?_⟩
 ·have:decide ((-q).num<0)=mg:=by
   rw [hm,hn,Bool.eq_iff_iff];simp only [Rat.neg_num,decide_eq_true_iff,Bool.and_eq_true,Bool.not_eq_true',decide_eq_false_iff_not]
   omega
  rw [this]
 ·rw [Rat.neg_num,Int.natAbs_neg];exact h2
 ·rw [Rat.neg_den];exact h3
theorem abs_c (v:Value) (q:Rat) (w:World) (h:NumV w v q):Calls Tryz.prog 78 #[v] w fun e w'=>∃ v,e=.returned v∧NumV w' v (mkq false q.num.natAbs q.den)∧Ext w w':=by
 obtain ⟨ng,a,n,c,a',n',c',rfl⟩:=h.shape;have h2:=hid h.abs
 go_enter Tryz.func78,Tryz.ntmps78
 go_wp2_with fail;have e1:=Ext.alloc w (.cells #[.bool ng,.slice a n c,.slice a' n' c'] 49);have e2:=e1.trans (Ext.alloc _ (.cells #[.bool false,.slice a n c,.slice a' n' c'] 49));refine bodyPost_ret (v:=.agg #[.bool false,.slice a n c,.slice a' n' c']) (by simp [results,Tryz.results78,go_sem]) rfl ⟨_,rfl,h2.o.ext e2,e2⟩
theorem neg_num_abs (q:Rat):(mkq false q.num.natAbs q.den)=if q.num<0 then -q else q:=by
 have h:=mkq_self q
 by_cases hq:q.num<0
 ·rw [if_pos hq];have h2:=mkq_self (-q);rw [Rat.neg_num,Rat.neg_den,Int.natAbs_neg,decide_eq_false (by omega)] at h2
  exact h2
 ·rw [if_neg hq];rw [decide_eq_false hq] at h
  exact h
theorem neg_c (v:Value) (q:Rat) (w:World) (h:NumV w v q):Calls Tryz.prog 85 #[v] w fun e w'=>∃ v,e=.returned v∧NumV w' v (-q)∧Ext w w':=by
 obtain ⟨ng,a,n,c,a',n',c',rfl⟩:=h.shape;have h1:=h.p.len0;have h2:=hid (h.flip (!ng&&decide (q.num.natAbs≠0)) rfl);have h3:decide (q.num.natAbs≠0)=decide (0<n):=by rw [Bool.eq_iff_iff,decide_eq_true_iff,decide_eq_true_iff];omega
 rw [h3] at h2;clear h h1 h3
 cases ng
 ·go_enter Tryz.func85,Tryz.ntmps85
  go_wp2_with fail;have e1:=Ext.alloc w (.cells #[.bool false,.slice a n c,.slice a' n' c'] 49);have e2:=e1.trans (Ext.alloc _ (.cells #[.bool (decide (0<n)),.slice a n c,.slice a' n' c'] 49));refine bodyPost_ret (v:=.agg #[.bool (decide (0<n)),.slice a n c,.slice a' n' c']) (by simp [results,Tryz.results85,go_sem]) rfl ⟨_,rfl,h2.o.ext e2,e2⟩
 ·go_enter Tryz.func85,Tryz.ntmps85
  go_wp2_with fail;have e1:=Ext.alloc w (.cells #[.bool true,.slice a n c,.slice a' n' c'] 49);have e2:=e1.trans (Ext.alloc _ (.cells #[.bool false,.slice a n c,.slice a' n' c'] 49));refine bodyPost_ret (v:=.agg #[.bool false,.slice a n c,.slice a' n' c']) (by simp [results,Tryz.results85,go_sem]) rfl ⟨_,rfl,h2.o.ext e2,e2⟩
theorem Sm.add {K m n:Nat} (h:Sm K m) (k:Sm K n):Sm (K+1) (m+n):=by
 unfold Sm at *
 rw [Nat.pow_succ];omega
theorem cmpN_neg {a b:Nat}:cmpN a b<0↔a<b:=by
 unfold cmpN
 by_cases h1:a<b
 ·simp [h1]
 ·by_cases h2:b<a<;>simp [h1,h2]
theorem add_value (q r:Rat):q+r=mkRat (sg (decide (q.num<0)) (q.num.natAbs*r.den)+sg (decide (r.num<0)) (r.num.natAbs*q.den)) (q.den*r.den):=by
 have h:=mkq_add (decide (q.num<0)) (decide (r.num<0)) q.num.natAbs r.num.natAbs q.den r.den q.den_nz r.den_nz;rw [mkq_self,mkq_self] at h
 exact h
theorem sg_same (m:Bool) (x y:Nat):sg m x+sg m y=sg m (x+y):=by unfold sg;cases m<;>simp<;>omega
theorem sg_other (m n:Bool) (h:(m==n)=false) (x y:Nat) (k:x≤y):sg m x+sg n y=sg n (y-x):=by
 unfold sg;cases m<;>cases n<;>simp at h ⊢ <;> omega
theorem add_same (x y:Value) (q r:Rat) (K:Nat) (w:World) (hx:NumV w x q) (hy:NumV w y r) (sx:SmQ K q) (sy:SmQ K r) (hK:K≤20000000)
  (hg:(decide (q.num<0)==decide (r.num<0))=true) :
  Calls Tryz.prog 47 #[x,y] w fun e w'=>∃ v,e=.returned v∧NumV w' v (q+r)∧Ext w w':=by
 obtain ⟨ng,a,n,c,a',n',c',rfl⟩:=hx.shape;obtain ⟨mg,b,m,d,b',m',d',rfl⟩:=hy.shape;obtain ⟨W0,hW0,e0,hBx,hBy,hBz⟩:=pro3 w #[.bool ng,.slice a n c,.slice a' n' c'] #[.bool mg,.slice b m d,.slice b' m' d'] #[.bool false,.slice none 0 0,.slice none 0 0] 49 49 49;have e4:Ext W0 W0.drew:=Below.drew (Below.refl _ W0);have HE:Hid (Ext w W0.drew):=hid (e0.trans e4);have HBz:=hid (hBz.ext e4);have HS:Hid (∀ w',Ext W0.drew w'→Six w.heap.size (.bool ng) (.slice a n c) (.slice a' n' c') (w.heap.size+1) (.bool mg) (.slice b m d) (.slice b' m' d') w'):=hid fun w' h=>Six.of (hBx.ext (e4.trans h)) (hBy.ext (e4.trans h));have Hx:=hid hx;have Hy:=hid hy;have hrefl:Ext W0.drew W0.drew:=Below.refl _ _;have Sxp:=hid sx.1;have Sxd:=hid sx.2;have Syp:=hid sy.1;have Syd:=hid sy.2;have HK2:Hid (K≤100000000):=hid (by omega);have HK3:Hid (K+K+1≤50000000):=hid (by omega);have HK4:Hid (K+K≤100000000):=hid (by omega);have HD:=hid (Nat.mul_pos (den_pos q) (den_pos r));have Hne:=hid hx.neg;have Hme:=hid hy.neg;rw [←Hne.o,←Hme.o] at hg;have Hg:=hid hg;have HV:Hid (mkq ng (q.num.natAbs*r.den+r.num.natAbs*q.den) (q.den*r.den)=q+r):=hid (by
  rw [add_value,←Hne.o,←Hme.o];unfold mkq;rw [show mg=ng from (eq_of_beq hg).symm,sg_same])
 clear hx hy sx sy hK e0 e4 hBx hBy hBz Hne Hme
 go_enter Tryz.func47,Tryz.ntmps47
 go_wp2_with fail;rw [←hW0];clear hW0
 go_region_held3 (fun w'=>w'.cell? ⟨w.heap.size,0,none⟩=some (.bool ng)∧w'.cell? ⟨w.heap.size,1,none⟩=some (.slice a n c)∧w'.cell? ⟨w.heap.size,2,none⟩=some (.slice a' n' c') ∧
   w'.cell? ⟨w.heap.size+1,0,none⟩=some (.bool mg)∧w'.cell? ⟨w.heap.size+1,1,none⟩=some (.slice b m d)∧w'.cell? ⟨w.heap.size+1,2,none⟩=some (.slice b' m' d'))
  (first | exact HS.o _ (by assumption) | exact Six.store (HS.o _ (by assumption)) (by omega) (by omega) _ _ _)
  (first
   | (go_at_call 53;(with_reducible refine (bottom_c _ r _ (Hy.o.ext HE.o)).mono ?_);rintro e w1 ⟨a1,n1,c1,rfl,k1,g1⟩;have hb1:Ext W0.drew w1:=g1)
   | (go_at_call 52;(with_reducible refine (mul_c _ _ q.num.natAbs r.den K _ (Hx.o.p.ext (HE.o.trans hb1)) k1 Sxp.o Syd.o HK2.o).mono ?_);rintro e w2 ⟨a2,n2,c2,rfl,k2,g2⟩;have hb2:Ext W0.drew w2:=hb1.trans g2)
   | (go_at_call 53;(with_reducible refine (bottom_c _ q _ (Hx.o.ext (HE.o.trans hb2))).mono ?_);rintro e w3 ⟨a3,n3,c3,rfl,k3,g3⟩;have hb3:Ext W0.drew w3:=hb2.trans g3)
   | (go_at_call 52;(with_reducible refine (mul_c _ _ r.num.natAbs q.den K _ (Hy.o.p.ext (HE.o.trans hb3)) k3 Syp.o Sxd.o HK2.o).mono ?_);rintro e w4 ⟨a4,n4,c4,rfl,k4,g4⟩;have hb4:Ext W0.drew w4:=hb3.trans g4)
   | (go_at_call 53;(with_reducible refine (bottom_c _ q _ (Hx.o.ext (HE.o.trans hb4))).mono ?_);rintro e w5 ⟨a5,n5,c5,rfl,k5,g5⟩;have hb5:Ext W0.drew w5:=hb4.trans g5)
   | (go_at_call 53;(with_reducible refine (bottom_c _ r _ (Hy.o.ext (HE.o.trans hb5))).mono ?_);rintro e w6 ⟨a6,n6,c6,rfl,k6,g6⟩;have hb6:Ext W0.drew w6:=hb5.trans g6)
   | (go_at_call 52;(with_reducible refine (mul_c _ _ q.den r.den K _ (k5.ext g6) k6 Sxd.o Syd.o HK2.o).mono ?_);rintro e w7 ⟨a7,n7,c7,rfl,k7,g7⟩;have hb7:Ext W0.drew w7:=hb6.trans g7))
 have k2':=k2.ext (g3.trans (g4.trans (g5.trans (g6.trans g7))));have k4':=k4.ext (g5.trans (g6.trans g7));clear k1 k2 k3 k4 k5 k6 g1 g2 g3 g4 g5 g6 g7 hb1 hb2 hb3 hb4 hb5 hb6;go_wp2_with fail;have hd:Ext w7 w7.drew:=Below.drew (Below.refl _ w7);have hb9:Ext W0.drew w7.drew:=hb7.trans hd;have A2:=hid (k2'.ext hd);have A4:=hid (k4'.ext hd);have A7:=hid (k7.ext hd);clear k2' k4' k7 hd
 go_region_held3 (fun w'=>w'.cell? ⟨w.heap.size,0,none⟩=some (.bool ng)∧w'.cell? ⟨w.heap.size,1,none⟩=some (.slice a n c)∧w'.cell? ⟨w.heap.size,2,none⟩=some (.slice a' n' c') ∧
   w'.cell? ⟨w.heap.size+1,0,none⟩=some (.bool mg)∧w'.cell? ⟨w.heap.size+1,1,none⟩=some (.slice b m d)∧w'.cell? ⟨w.heap.size+1,2,none⟩=some (.slice b' m' d'))
  (first | exact HS.o _ (by assumption) | exact Six.store (HS.o _ (by assumption)) (by omega) (by omega) _ _ _)
  (first
   | (go_at_call 115;(with_reducible refine (add_c _ _ _ _ (K+K) _ A2.o A4.o (Sxp.o.mul Syd.o) (Syp.o.mul Sxd.o) HK4.o).mono ?_);rintro e w19 ⟨a19,n19,c19,rfl,k19,g19⟩;have hb19:Ext W0.drew w19:=hb9.trans g19)
   | (go_at_call 114;(with_reducible refine (made_c _ _ _ _ _ (K+K+1) _ k19 (A7.o.ext g19) ((Sxp.o.mul Syd.o).add (Syp.o.mul Sxd.o)) ((Sxd.o.mul Syd.o).mono (Nat.le_succ _)) HK3.o HD.o).mono ?_);rintro e w10 ⟨v,rfl,k10,g10⟩;have hb10:Ext W0.drew w10:=hb19.trans g10;obtain ⟨ng10,a10,n10,c10,a10',n10',c10',rfl⟩:=k10.shape;obtain ⟨z0,z1,z2,f0,f1,f2⟩:=(HBz.o.ext hb10).three))
 go_wp2_with fail;obtain ⟨q1,q2,q3⟩:=store3 (HE.o.trans hb10) (show w.heap.size≤w.heap.size+1+1 by omega) (HBz.o.ext hb10) (by decide) (.bool ng10) (.slice a10 n10 c10) (.slice a10' n10' c10');have r0:=q3.cell 0;have r1:=q3.cell 1;have r2:=q3.cell 2;refine bodyPost_ret (v:=.agg #[.bool ng10,.slice a10 n10 c10,.slice a10' n10' c10']) (by simp [results,Tryz.results47,go_sem,r0,r1,r2]) rfl ⟨_,rfl,?_,q1⟩;have k11:=k10.keep q2;rw [HV.o] at k11
 exact k11
theorem add_less (x y:Value) (q r:Rat) (K:Nat) (w:World) (hx:NumV w x q) (hy:NumV w y r) (sx:SmQ K q) (sy:SmQ K r) (hK:K≤20000000)
  (hg:(decide (q.num<0)==decide (r.num<0))=false) (hl:q.num.natAbs*r.den<r.num.natAbs*q.den) :
  Calls Tryz.prog 47 #[x,y] w fun e w'=>∃ v,e=.returned v∧NumV w' v (q+r)∧Ext w w':=by
 obtain ⟨ng,a,n,c,a',n',c',rfl⟩:=hx.shape;obtain ⟨mg,b,m,d,b',m',d',rfl⟩:=hy.shape;obtain ⟨W0,hW0,e0,hBx,hBy,hBz⟩:=pro3 w #[.bool ng,.slice a n c,.slice a' n' c'] #[.bool mg,.slice b m d,.slice b' m' d'] #[.bool false,.slice none 0 0,.slice none 0 0] 49 49 49;have e4:Ext W0 W0.drew:=Below.drew (Below.refl _ W0);have HE:Hid (Ext w W0.drew):=hid (e0.trans e4);have HBz:=hid (hBz.ext e4);have HS:Hid (∀ w',Ext W0.drew w'→Six w.heap.size (.bool ng) (.slice a n c) (.slice a' n' c') (w.heap.size+1) (.bool mg) (.slice b m d) (.slice b' m' d') w'):=hid fun w' h=>Six.of (hBx.ext (e4.trans h)) (hBy.ext (e4.trans h));have Hx:=hid hx;have Hy:=hid hy;have hrefl:Ext W0.drew W0.drew:=Below.refl _ _;have Sxp:=hid sx.1;have Sxd:=hid sx.2;have Syp:=hid sy.1;have Syd:=hid sy.2;have HK2:Hid (K≤100000000):=hid (by omega);have HK3:Hid (K+K+1≤50000000):=hid (by omega);have HK4:Hid (K+K≤100000000):=hid (by omega);have HD:=hid (Nat.mul_pos (den_pos q) (den_pos r));have Hne:=hid hx.neg;have Hme:=hid hy.neg;rw [←Hne.o,←Hme.o] at hg;have Hg:=hid hg;have HL:=hid (Nat.le_of_lt hl);have hc:decide (cmpN (q.num.natAbs*r.den) (r.num.natAbs*q.den)<0)=true:=decide_eq_true (cmpN_neg.2 hl);have HK5:Hid (K+K≤50000000):=hid (by omega);have HV:Hid (mkq mg (r.num.natAbs*q.den-q.num.natAbs*r.den) (q.den*r.den)=q+r):=hid (by
  rw [add_value,←Hne.o,←Hme.o];unfold mkq;rw [sg_other _ _ Hg.o _ _ (Nat.le_of_lt hl)])
 clear hx hy sx sy hK e0 e4 hBx hBy hBz Hne Hme
 go_enter Tryz.func47,Tryz.ntmps47
 go_wp2_with fail;rw [←hW0];clear hW0
 go_region_held3 (fun w'=>w'.cell? ⟨w.heap.size,0,none⟩=some (.bool ng)∧w'.cell? ⟨w.heap.size,1,none⟩=some (.slice a n c)∧w'.cell? ⟨w.heap.size,2,none⟩=some (.slice a' n' c') ∧
   w'.cell? ⟨w.heap.size+1,0,none⟩=some (.bool mg)∧w'.cell? ⟨w.heap.size+1,1,none⟩=some (.slice b m d)∧w'.cell? ⟨w.heap.size+1,2,none⟩=some (.slice b' m' d'))
  (first | exact HS.o _ (by assumption) | exact Six.store (HS.o _ (by assumption)) (by omega) (by omega) _ _ _)
  (first
   | (go_at_call 53;(with_reducible refine (bottom_c _ r _ (Hy.o.ext HE.o)).mono ?_);rintro e w1 ⟨a1,n1,c1,rfl,k1,g1⟩;have hb1:Ext W0.drew w1:=g1)
   | (go_at_call 52;(with_reducible refine (mul_c _ _ q.num.natAbs r.den K _ (Hx.o.p.ext (HE.o.trans hb1)) k1 Sxp.o Syd.o HK2.o).mono ?_);rintro e w2 ⟨a2,n2,c2,rfl,k2,g2⟩;have hb2:Ext W0.drew w2:=hb1.trans g2)
   | (go_at_call 53;(with_reducible refine (bottom_c _ q _ (Hx.o.ext (HE.o.trans hb2))).mono ?_);rintro e w3 ⟨a3,n3,c3,rfl,k3,g3⟩;have hb3:Ext W0.drew w3:=hb2.trans g3)
   | (go_at_call 52;(with_reducible refine (mul_c _ _ r.num.natAbs q.den K _ (Hy.o.p.ext (HE.o.trans hb3)) k3 Syp.o Sxd.o HK2.o).mono ?_);rintro e w4 ⟨a4,n4,c4,rfl,k4,g4⟩;have hb4:Ext W0.drew w4:=hb3.trans g4)
   | (go_at_call 53;(with_reducible refine (bottom_c _ q _ (Hx.o.ext (HE.o.trans hb4))).mono ?_);rintro e w5 ⟨a5,n5,c5,rfl,k5,g5⟩;have hb5:Ext W0.drew w5:=hb4.trans g5)
   | (go_at_call 53;(with_reducible refine (bottom_c _ r _ (Hy.o.ext (HE.o.trans hb5))).mono ?_);rintro e w6 ⟨a6,n6,c6,rfl,k6,g6⟩;have hb6:Ext W0.drew w6:=hb5.trans g6)
   | (go_at_call 52;(with_reducible refine (mul_c _ _ q.den r.den K _ (k5.ext g6) k6 Sxd.o Syd.o HK2.o).mono ?_);rintro e w7 ⟨a7,n7,c7,rfl,k7,g7⟩;have hb7:Ext W0.drew w7:=hb6.trans g7))
 have k2':=k2.ext (g3.trans (g4.trans (g5.trans (g6.trans g7))));have k4':=k4.ext (g5.trans (g6.trans g7));clear k1 k2 k3 k4 k5 k6 g1 g2 g3 g4 g5 g6 g7 hb1 hb2 hb3 hb4 hb5 hb6;go_wp2_with fail;refine (cmp_c _ _ _ _ (K+K) _ k2' k4' (Sxp.o.mul Syd.o) (Syp.o.mul Sxd.o) HK4.o).mono ?_;rintro e w8 ⟨rfl,g8⟩;have hb8:Ext W0.drew w8:=hb7.trans g8;replace k2':=k2'.ext g8;replace k4':=k4'.ext g8;replace k7:=k7.ext g8;clear hb7 g8;go_wp2_with fail;have hd:Ext w8 w8.drew:=Below.drew (Below.refl _ w8);have hb9:Ext W0.drew w8.drew:=hb8.trans hd;have A2:=hid (k2'.ext hd);have A4:=hid (k4'.ext hd);have A7:=hid (k7.ext hd);clear k2' k4' k7 hd
 go_region_held3 (fun w'=>w'.cell? ⟨w.heap.size,0,none⟩=some (.bool ng)∧w'.cell? ⟨w.heap.size,1,none⟩=some (.slice a n c)∧w'.cell? ⟨w.heap.size,2,none⟩=some (.slice a' n' c') ∧
   w'.cell? ⟨w.heap.size+1,0,none⟩=some (.bool mg)∧w'.cell? ⟨w.heap.size+1,1,none⟩=some (.slice b m d)∧w'.cell? ⟨w.heap.size+1,2,none⟩=some (.slice b' m' d'))
  (first | exact HS.o _ (by assumption) | exact Six.store (HS.o _ (by assumption)) (by omega) (by omega) _ _ _)
  (first
   | (go_at_call 116;(with_reducible refine (sub_c _ _ _ _ (K+K) _ A4.o A2.o (Syp.o.mul Sxd.o) HK4.o HL.o).mono ?_);rintro e w19 ⟨a19,n19,c19,rfl,k19,g19⟩;have hb19:Ext W0.drew w19:=hb9.trans g19)
   | (go_at_call 114;(with_reducible refine (made_c _ _ _ _ _ (K+K) _ k19 (A7.o.ext g19) ((Syp.o.mul Sxd.o).of_le (Nat.sub_le _ _)) (Sxd.o.mul Syd.o) HK5.o HD.o).mono ?_);rintro e w10 ⟨v,rfl,k10,g10⟩;have hb10:Ext W0.drew w10:=hb19.trans g10;obtain ⟨ng10,a10,n10,c10,a10',n10',c10',rfl⟩:=k10.shape;obtain ⟨z0,z1,z2,f0,f1,f2⟩:=(HBz.o.ext hb10).three))
 go_wp2_with fail;obtain ⟨q1,q2,q3⟩:=store3 (HE.o.trans hb10) (show w.heap.size≤w.heap.size+1+1 by omega) (HBz.o.ext hb10) (by decide) (.bool ng10) (.slice a10 n10 c10) (.slice a10' n10' c10');have r0:=q3.cell 0;have r1:=q3.cell 1;have r2:=q3.cell 2;refine bodyPost_ret (v:=.agg #[.bool ng10,.slice a10 n10 c10,.slice a10' n10' c10']) (by simp [results,Tryz.results47,go_sem,r0,r1,r2]) rfl ⟨_,rfl,?_,q1⟩;have k11:=k10.keep q2;rw [HV.o] at k11
 exact k11
theorem add_more (x y:Value) (q r:Rat) (K:Nat) (w:World) (hx:NumV w x q) (hy:NumV w y r) (sx:SmQ K q) (sy:SmQ K r) (hK:K≤20000000)
  (hg:(decide (q.num<0)==decide (r.num<0))=false) (hl:r.num.natAbs*q.den≤q.num.natAbs*r.den) :
  Calls Tryz.prog 47 #[x,y] w fun e w'=>∃ v,e=.returned v∧NumV w' v (q+r)∧Ext w w':=by
 obtain ⟨ng,a,n,c,a',n',c',rfl⟩:=hx.shape;obtain ⟨mg,b,m,d,b',m',d',rfl⟩:=hy.shape;obtain ⟨W0,hW0,e0,hBx,hBy,hBz⟩:=pro3 w #[.bool ng,.slice a n c,.slice a' n' c'] #[.bool mg,.slice b m d,.slice b' m' d'] #[.bool false,.slice none 0 0,.slice none 0 0] 49 49 49;have e4:Ext W0 W0.drew:=Below.drew (Below.refl _ W0);have HE:Hid (Ext w W0.drew):=hid (e0.trans e4);have HBz:=hid (hBz.ext e4);have HS:Hid (∀ w',Ext W0.drew w'→Six w.heap.size (.bool ng) (.slice a n c) (.slice a' n' c') (w.heap.size+1) (.bool mg) (.slice b m d) (.slice b' m' d') w'):=hid fun w' h=>Six.of (hBx.ext (e4.trans h)) (hBy.ext (e4.trans h));have Hx:=hid hx;have Hy:=hid hy;have hrefl:Ext W0.drew W0.drew:=Below.refl _ _;have Sxp:=hid sx.1;have Sxd:=hid sx.2;have Syp:=hid sy.1;have Syd:=hid sy.2;have HK2:Hid (K≤100000000):=hid (by omega);have HK3:Hid (K+K+1≤50000000):=hid (by omega);have HK4:Hid (K+K≤100000000):=hid (by omega);have HD:=hid (Nat.mul_pos (den_pos q) (den_pos r));have Hne:=hid hx.neg;have Hme:=hid hy.neg;rw [←Hne.o,←Hme.o] at hg;have Hg:=hid hg;have HL:=hid hl;have hc:decide (cmpN (q.num.natAbs*r.den) (r.num.natAbs*q.den)<0)=false:=decide_eq_false (fun h=>absurd (cmpN_neg.1 h) (by omega));have HK5:Hid (K+K≤50000000):=hid (by omega);have HV:Hid (mkq ng (q.num.natAbs*r.den-r.num.natAbs*q.den) (q.den*r.den)=q+r):=hid (by
  rw [add_value,←Hne.o,←Hme.o];unfold mkq;rw [Int.add_comm,sg_other _ _ ((BEq.comm).trans Hg.o) _ _ hl])
 clear hx hy sx sy hK e0 e4 hBx hBy hBz Hne Hme
 go_enter Tryz.func47,Tryz.ntmps47
 go_wp2_with fail;rw [←hW0];clear hW0
 go_region_held3 (fun w'=>w'.cell? ⟨w.heap.size,0,none⟩=some (.bool ng)∧w'.cell? ⟨w.heap.size,1,none⟩=some (.slice a n c)∧w'.cell? ⟨w.heap.size,2,none⟩=some (.slice a' n' c') ∧
   w'.cell? ⟨w.heap.size+1,0,none⟩=some (.bool mg)∧w'.cell? ⟨w.heap.size+1,1,none⟩=some (.slice b m d)∧w'.cell? ⟨w.heap.size+1,2,none⟩=some (.slice b' m' d'))
  (first | exact HS.o _ (by assumption) | exact Six.store (HS.o _ (by assumption)) (by omega) (by omega) _ _ _)
  (first
   | (go_at_call 53;(with_reducible refine (bottom_c _ r _ (Hy.o.ext HE.o)).mono ?_);rintro e w1 ⟨a1,n1,c1,rfl,k1,g1⟩;have hb1:Ext W0.drew w1:=g1)
   | (go_at_call 52;(with_reducible refine (mul_c _ _ q.num.natAbs r.den K _ (Hx.o.p.ext (HE.o.trans hb1)) k1 Sxp.o Syd.o HK2.o).mono ?_);rintro e w2 ⟨a2,n2,c2,rfl,k2,g2⟩;have hb2:Ext W0.drew w2:=hb1.trans g2)
   | (go_at_call 53;(with_reducible refine (bottom_c _ q _ (Hx.o.ext (HE.o.trans hb2))).mono ?_);rintro e w3 ⟨a3,n3,c3,rfl,k3,g3⟩;have hb3:Ext W0.drew w3:=hb2.trans g3)
   | (go_at_call 52;(with_reducible refine (mul_c _ _ r.num.natAbs q.den K _ (Hy.o.p.ext (HE.o.trans hb3)) k3 Syp.o Sxd.o HK2.o).mono ?_);rintro e w4 ⟨a4,n4,c4,rfl,k4,g4⟩;have hb4:Ext W0.drew w4:=hb3.trans g4)
   | (go_at_call 53;(with_reducible refine (bottom_c _ q _ (Hx.o.ext (HE.o.trans hb4))).mono ?_);rintro e w5 ⟨a5,n5,c5,rfl,k5,g5⟩;have hb5:Ext W0.drew w5:=hb4.trans g5)
   | (go_at_call 53;(with_reducible refine (bottom_c _ r _ (Hy.o.ext (HE.o.trans hb5))).mono ?_);rintro e w6 ⟨a6,n6,c6,rfl,k6,g6⟩;have hb6:Ext W0.drew w6:=hb5.trans g6)
   | (go_at_call 52;(with_reducible refine (mul_c _ _ q.den r.den K _ (k5.ext g6) k6 Sxd.o Syd.o HK2.o).mono ?_);rintro e w7 ⟨a7,n7,c7,rfl,k7,g7⟩;have hb7:Ext W0.drew w7:=hb6.trans g7))
 have k2':=k2.ext (g3.trans (g4.trans (g5.trans (g6.trans g7))));have k4':=k4.ext (g5.trans (g6.trans g7));clear k1 k2 k3 k4 k5 k6 g1 g2 g3 g4 g5 g6 g7 hb1 hb2 hb3 hb4 hb5 hb6;go_wp2_with fail;refine (cmp_c _ _ _ _ (K+K) _ k2' k4' (Sxp.o.mul Syd.o) (Syp.o.mul Sxd.o) HK4.o).mono ?_;rintro e w8 ⟨rfl,g8⟩;have hb8:Ext W0.drew w8:=hb7.trans g8;replace k2':=k2'.ext g8;replace k4':=k4'.ext g8;replace k7:=k7.ext g8;clear hb7 g8;go_wp2_with fail;have hd:Ext w8 w8.drew:=Below.drew (Below.refl _ w8);have hb9:Ext W0.drew w8.drew:=hb8.trans hd;have A2:=hid (k2'.ext hd);have A4:=hid (k4'.ext hd);have A7:=hid (k7.ext hd);clear k2' k4' k7 hd
 go_region_held3 (fun w'=>w'.cell? ⟨w.heap.size,0,none⟩=some (.bool ng)∧w'.cell? ⟨w.heap.size,1,none⟩=some (.slice a n c)∧w'.cell? ⟨w.heap.size,2,none⟩=some (.slice a' n' c') ∧
   w'.cell? ⟨w.heap.size+1,0,none⟩=some (.bool mg)∧w'.cell? ⟨w.heap.size+1,1,none⟩=some (.slice b m d)∧w'.cell? ⟨w.heap.size+1,2,none⟩=some (.slice b' m' d'))
  (first | exact HS.o _ (by assumption) | exact Six.store (HS.o _ (by assumption)) (by omega) (by omega) _ _ _)
  (first
   | (go_at_call 116;(with_reducible refine (sub_c _ _ _ _ (K+K) _ A2.o A4.o (Sxp.o.mul Syd.o) HK4.o HL.o).mono ?_);rintro e w19 ⟨a19,n19,c19,rfl,k19,g19⟩;have hb19:Ext W0.drew w19:=hb9.trans g19)
   | (go_at_call 114;(with_reducible refine (made_c _ _ _ _ _ (K+K) _ k19 (A7.o.ext g19) ((Sxp.o.mul Syd.o).of_le (Nat.sub_le _ _)) (Sxd.o.mul Syd.o) HK5.o HD.o).mono ?_);rintro e w10 ⟨v,rfl,k10,g10⟩;have hb10:Ext W0.drew w10:=hb19.trans g10;obtain ⟨ng10,a10,n10,c10,a10',n10',c10',rfl⟩:=k10.shape;obtain ⟨z0,z1,z2,f0,f1,f2⟩:=(HBz.o.ext hb10).three))
 go_wp2_with fail;obtain ⟨q1,q2,q3⟩:=store3 (HE.o.trans hb10) (show w.heap.size≤w.heap.size+1+1 by omega) (HBz.o.ext hb10) (by decide) (.bool ng10) (.slice a10 n10 c10) (.slice a10' n10' c10');have r0:=q3.cell 0;have r1:=q3.cell 1;have r2:=q3.cell 2;refine bodyPost_ret (v:=.agg #[.bool ng10,.slice a10 n10 c10,.slice a10' n10' c10']) (by simp [results,Tryz.results47,go_sem,r0,r1,r2]) rfl ⟨_,rfl,?_,q1⟩;have k11:=k10.keep q2;rw [HV.o] at k11
 exact k11
theorem Add_c (x y:Value) (q r:Rat) (K:Nat) (w:World) (hx:NumV w x q) (hy:NumV w y r) (sx:SmQ K q) (sy:SmQ K r) (hK:K≤20000000) :
  Calls Tryz.prog 47 #[x,y] w fun e w'=>∃ v,e=.returned v∧NumV w' v (q+r)∧Ext w w':=by
 cases hg:(decide (q.num<0)==decide (r.num<0))
 ·rcases Nat.lt_or_ge (q.num.natAbs*r.den) (r.num.natAbs*q.den) with hl | hl
  ·exact add_less x y q r K w hx hy sx sy hK hg hl
  ·exact add_more x y q r K w hx hy sx sy hK hg hl
 ·exact add_same x y q r K w hx hy sx sy hK hg
theorem SmQ.neg {K:Nat} {q:Rat} (h:SmQ K q):SmQ K (-q):=by
 unfold SmQ at *
 rw [Rat.neg_num,Rat.neg_den,Int.natAbs_neg];exact h
theorem sub_value (q r:Rat):q + -r=q-r:=(Rat.sub_eq_add_neg q r).symm
theorem Sub_c (x y:Value) (q r:Rat) (K:Nat) (w:World) (hx:NumV w x q) (hy:NumV w y r) (sx:SmQ K q) (sy:SmQ K r) (hK:K≤20000000) :
  Calls Tryz.prog 77 #[x,y] w fun e w'=>∃ v,e=.returned v∧NumV w' v (q-r)∧Ext w w':=by
 obtain ⟨ng,a,n,c,a',n',c',rfl⟩:=hx.shape;obtain ⟨mg,b,m,d,b',m',d',rfl⟩:=hy.shape;obtain ⟨W0,hW0,e0,hBx,hBy,hBz⟩:=pro3 w #[.bool ng,.slice a n c,.slice a' n' c'] #[.bool mg,.slice b m d,.slice b' m' d'] #[.bool false,.slice none 0 0,.slice none 0 0] 49 49 49;have e4:Ext W0 W0.drew:=Below.drew (Below.refl _ W0);have HE:Hid (Ext w W0.drew):=hid (e0.trans e4);have HBz:=hid (hBz.ext e4);have HS:Hid (∀ w',Ext W0.drew w'→Six w.heap.size (.bool ng) (.slice a n c) (.slice a' n' c') (w.heap.size+1) (.bool mg) (.slice b m d) (.slice b' m' d') w'):=hid fun w' h=>Six.of (hBx.ext (e4.trans h)) (hBy.ext (e4.trans h));have Hx:=hid hx;have Hy:=hid hy;have hrefl:Ext W0.drew W0.drew:=Below.refl _ _;have Sx:=hid sx;have Sy:=hid sy.neg;have HK:=hid hK;clear hx hy sx sy hK e0 e4 hBx hBy hBz
 go_enter Tryz.func77,Tryz.ntmps77
 go_wp2_with fail;rw [←hW0];clear hW0
 go_region_held3 (fun w'=>w'.cell? ⟨w.heap.size,0,none⟩=some (.bool ng)∧w'.cell? ⟨w.heap.size,1,none⟩=some (.slice a n c)∧w'.cell? ⟨w.heap.size,2,none⟩=some (.slice a' n' c') ∧
   w'.cell? ⟨w.heap.size+1,0,none⟩=some (.bool mg)∧w'.cell? ⟨w.heap.size+1,1,none⟩=some (.slice b m d)∧w'.cell? ⟨w.heap.size+1,2,none⟩=some (.slice b' m' d'))
  (first | exact HS.o _ (by assumption) | exact Six.store (HS.o _ (by assumption)) (by omega) (by omega) _ _ _)
  (first
   | (go_at_call 85;(with_reducible refine (neg_c _ r _ (Hy.o.ext HE.o)).mono ?_);rintro e w1 ⟨v1,rfl,k1,g1⟩;have hb1:Ext W0.drew w1:=g1)
   | (go_at_call 47;(with_reducible refine (Add_c _ _ q (-r) K _ (Hx.o.ext (HE.o.trans hb1)) k1 Sx.o Sy.o HK.o).mono ?_);rintro e w2 ⟨v,rfl,k2,g2⟩;have hb2:Ext W0.drew w2:=hb1.trans g2;obtain ⟨ng2,a2,n2,c2,a2',n2',c2',rfl⟩:=k2.shape;obtain ⟨z0,z1,z2,f0,f1,f2⟩:=(HBz.o.ext hb2).three))
 go_wp2_with fail;obtain ⟨q1,q2,q3⟩:=store3 (HE.o.trans hb2) (show w.heap.size≤w.heap.size+1+1 by omega) (HBz.o.ext hb2) (by decide) (.bool ng2) (.slice a2 n2 c2) (.slice a2' n2' c2');have r0:=q3.cell 0;have r1:=q3.cell 1;have r2:=q3.cell 2;refine bodyPost_ret (v:=.agg #[.bool ng2,.slice a2 n2 c2,.slice a2' n2' c2']) (by simp [results,Tryz.results77,go_sem,r0,r1,r2]) rfl ⟨_,rfl,?_,q1⟩;have k3:=k2.keep q2;rw [sub_value] at k3
 exact k3
def cmpQ (q r:Rat):Int:=if q<r then -1 else if r<q then 1 else 0
theorem cmp_other (x y:Value) (q r:Rat) (w:World) (hx:NumV w x q) (hy:NumV w y r) (z:Int) (hs:q.num.sign≠r.num.sign) (hz:Hid (z=if q.num.sign<r.num.sign then -1 else 1)) :
  Calls Tryz.prog 13 #[x,y] w fun e w'=>e=.returned (.int .i64 z)∧Ext w w':=by
 obtain ⟨ng,a,n,c,a',n',c',rfl⟩:=hx.shape;obtain ⟨mg,b,m,d,b',m',d',rfl⟩:=hy.shape;obtain ⟨W0,hW0,e0,hBx,hBy⟩:=pro2 w #[.bool ng,.slice a n c,.slice a' n' c'] #[.bool mg,.slice b m d,.slice b' m' d'] 49 49;have e4:Ext W0 W0.drew:=Below.drew (Below.refl _ W0);have HE:Hid (Ext w W0.drew):=hid (e0.trans e4);have HS:Hid (∀ w',Ext W0.drew w'→Six w.heap.size (.bool ng) (.slice a n c) (.slice a' n' c') (w.heap.size+1) (.bool mg) (.slice b m d) (.slice b' m' d') w'):=hid fun w' h=>Six.of (hBx.ext (e4.trans h)) (hBy.ext (e4.trans h));have Hx:=hid hx;have Hy:=hid hy;have hrefl:Ext W0.drew W0.drew:=Below.refl _ _;have hs1:(q.num.sign==r.num.sign)=false:=beq_eq_false_iff_ne.2 hs;clear hx hy e0 e4 hBx hBy
 go_enter Tryz.func13,Tryz.ntmps13
 go_wp2_with fail;rw [←hW0];clear hW0
 go_region_held3 (fun w'=>w'.cell? ⟨w.heap.size,0,none⟩=some (.bool ng)∧w'.cell? ⟨w.heap.size,1,none⟩=some (.slice a n c)∧w'.cell? ⟨w.heap.size,2,none⟩=some (.slice a' n' c') ∧
   w'.cell? ⟨w.heap.size+1,0,none⟩=some (.bool mg)∧w'.cell? ⟨w.heap.size+1,1,none⟩=some (.slice b m d)∧w'.cell? ⟨w.heap.size+1,2,none⟩=some (.slice b' m' d'))
  (exact HS.o _ (by assumption))
  (first
   | (go_at_call 17;(with_reducible refine (sign_c _ q _ (Hx.o.ext HE.o)).mono ?_);rintro e w1 ⟨rfl,g1⟩;have hb1:Ext W0.drew w1:=g1)
   | (go_at_call 17;(with_reducible refine (sign_c _ r _ (Hy.o.ext (HE.o.trans hb1))).mono ?_);rintro e w2 ⟨rfl,g2⟩;have hb2:Ext W0.drew w2:=hb1.trans g2))
 by_cases hl:q.num.sign<r.num.sign
 ·have hl1:decide (q.num.sign<r.num.sign)=true:=decide_eq_true hl;have hz1:Hid (z = -1):=hid (by rw [hz.o,if_pos hl]);go_wp2_with fail;go_ret
  exact ⟨by rw [hz1.o];rfl,HE.o.trans hb2⟩
 ·have hl1:decide (q.num.sign<r.num.sign)=false:=decide_eq_false hl;have hz1:Hid (z=1):=hid (by rw [hz.o,if_neg hl]);go_wp2_with fail;go_ret
  exact ⟨by rw [hz1.o];rfl,HE.o.trans hb2⟩
theorem cmp_same (x y:Value) (q r:Rat) (K:Nat) (w:World) (hx:NumV w x q) (hy:NumV w y r) (sx:SmQ K q) (sy:SmQ K r) (hK:K≤20000000) (z:Int) (hs:q.num.sign=r.num.sign) (hz:Hid (z=q.num.sign*cmpN (q.num.natAbs*r.den) (r.num.natAbs*q.den))) :
  Calls Tryz.prog 13 #[x,y] w fun e w'=>e=.returned (.int .i64 z)∧Ext w w':=by
 obtain ⟨ng,a,n,c,a',n',c',rfl⟩:=hx.shape;obtain ⟨mg,b,m,d,b',m',d',rfl⟩:=hy.shape;obtain ⟨W0,hW0,e0,hBx,hBy⟩:=pro2 w #[.bool ng,.slice a n c,.slice a' n' c'] #[.bool mg,.slice b m d,.slice b' m' d'] 49 49;have e4:Ext W0 W0.drew:=Below.drew (Below.refl _ W0);have HE:Hid (Ext w W0.drew):=hid (e0.trans e4);have HS:Hid (∀ w',Ext W0.drew w'→Six w.heap.size (.bool ng) (.slice a n c) (.slice a' n' c') (w.heap.size+1) (.bool mg) (.slice b m d) (.slice b' m' d') w'):=hid fun w' h=>Six.of (hBx.ext (e4.trans h)) (hBy.ext (e4.trans h));have Hx:=hid hx;have Hy:=hid hy;have hrefl:Ext W0.drew W0.drew:=Below.refl _ _;have hs1:(q.num.sign==r.num.sign)=true:=beq_iff_eq.2 hs;have Sxp:=hid sx.1;have Sxd:=hid sx.2;have Syp:=hid sy.1;have Syd:=hid sy.2;have HK2:Hid (K≤100000000):=hid (by omega);have HK4:Hid (K+K≤100000000):=hid (by omega);clear hx hy e0 e4 hBx hBy hs sx sy hK
 go_enter Tryz.func13,Tryz.ntmps13
 go_wp2_with fail;rw [←hW0];clear hW0
 go_region_held3 (fun w'=>w'.cell? ⟨w.heap.size,0,none⟩=some (.bool ng)∧w'.cell? ⟨w.heap.size,1,none⟩=some (.slice a n c)∧w'.cell? ⟨w.heap.size,2,none⟩=some (.slice a' n' c') ∧
   w'.cell? ⟨w.heap.size+1,0,none⟩=some (.bool mg)∧w'.cell? ⟨w.heap.size+1,1,none⟩=some (.slice b m d)∧w'.cell? ⟨w.heap.size+1,2,none⟩=some (.slice b' m' d'))
  (exact HS.o _ (by assumption))
  (first
   | (go_at_call 17;(with_reducible refine (sign_c _ q _ (Hx.o.ext HE.o)).mono ?_);rintro e w1 ⟨rfl,g1⟩;have hb1:Ext W0.drew w1:=g1)
   | (go_at_call 17;(with_reducible refine (sign_c _ r _ (Hy.o.ext (HE.o.trans hb1))).mono ?_);rintro e w2 ⟨rfl,g2⟩;have hb2:Ext W0.drew w2:=hb1.trans g2))
 go_wp2_with fail;have hd:Ext w2 w2.drew:=Below.drew (Below.refl _ w2);have hb9:Ext W0.drew w2.drew:=hb2.trans hd;clear hd g1 g2 hb1 hb2
 go_region_held3 (fun w'=>w'.cell? ⟨w.heap.size,0,none⟩=some (.bool ng)∧w'.cell? ⟨w.heap.size,1,none⟩=some (.slice a n c)∧w'.cell? ⟨w.heap.size,2,none⟩=some (.slice a' n' c') ∧
   w'.cell? ⟨w.heap.size+1,0,none⟩=some (.bool mg)∧w'.cell? ⟨w.heap.size+1,1,none⟩=some (.slice b m d)∧w'.cell? ⟨w.heap.size+1,2,none⟩=some (.slice b' m' d'))
  (exact HS.o _ (by assumption))
  (first
   | (go_at_call 53;(with_reducible refine (bottom_c _ r _ (Hy.o.ext (HE.o.trans hb9))).mono ?_);rintro e w3 ⟨a3,n3,c3,rfl,k3,g3⟩;have hb3:Ext W0.drew w3:=hb9.trans g3)
   | (go_at_call 52;(with_reducible refine (mul_c _ _ q.num.natAbs r.den K _ (Hx.o.p.ext (HE.o.trans hb3)) k3 Sxp.o Syd.o HK2.o).mono ?_);rintro e w4 ⟨a4,n4,c4,rfl,k4,g4⟩;have hb4:Ext W0.drew w4:=hb3.trans g4)
   | (go_at_call 53;(with_reducible refine (bottom_c _ q _ (Hx.o.ext (HE.o.trans hb4))).mono ?_);rintro e w5 ⟨a5,n5,c5,rfl,k5,g5⟩;have hb5:Ext W0.drew w5:=hb4.trans g5)
   | (go_at_call 52;(with_reducible refine (mul_c _ _ r.num.natAbs q.den K _ (Hy.o.p.ext (HE.o.trans hb5)) k5 Syp.o Sxd.o HK2.o).mono ?_);rintro e w6 ⟨a6,n6,c6,rfl,k6,g6⟩;have hb6:Ext W0.drew w6:=hb5.trans g6)
   | (go_at_call 54;(with_reducible refine (cmp_c _ _ _ _ (K+K) _ (k4.ext (g5.trans g6)) k6 (Sxp.o.mul Syd.o) (Syp.o.mul Sxd.o) HK4.o).mono ?_);rintro e w7 ⟨rfl,g7⟩;have hb7:Ext W0.drew w7:=hb6.trans g7))
 go_wp2_with fail;go_ret;refine ⟨?_,HE.o.trans hb7⟩;rw [hz.o]
 show Ending.returned (Value.int .i64 (IntKind.i64.wrap (q.num.sign*cmpN (q.num.natAbs*r.den) (r.num.natAbs*q.den))))=_
 obtain ⟨u,hv⟩:∃ u,Hid (u=cmpN (q.num.natAbs*r.den) (r.num.natAbs*q.den)):=⟨_,hid rfl⟩;rw [←hv.o];have hu:u = -1∨u=0∨u=1:=by rw [hv.o];unfold cmpN;split;exact Or.inl rfl;split;exact Or.inr (Or.inr rfl);exact Or.inr (Or.inl rfl)
 rcases Int.sign_trichotomy q.num with h | h | h<;>rcases hu with k | k | k<;>rw [h,k]<;>rfl
theorem cmpQ_sign {q r:Rat} (hs:q.num.sign=r.num.sign):cmpQ q r=q.num.sign*cmpN (q.num.natAbs*r.den) (r.num.natAbs*q.den):=by
 have hq:q.num*r.den=q.num.sign*((q.num.natAbs*r.den:Nat):Int):=by
  rw [Int.natCast_mul,←Int.mul_assoc,Int.sign_mul_natAbs]
 have hr:r.num*q.den=q.num.sign*((r.num.natAbs*q.den:Nat):Int):=by
  rw [Int.natCast_mul,←Int.mul_assoc,hs,Int.sign_mul_natAbs]
 unfold cmpQ cmpN;simp only [Rat.lt_iff,hq,hr];have hz:q.num.sign=0→q.num.natAbs*r.den=0∧r.num.natAbs*q.den=0:=fun h=>by
  have h1:=Int.sign_eq_zero_iff_zero.1 h;rw [hs] at h;have h2:=Int.sign_eq_zero_iff_zero.1 h;rw [h1,h2];simp
 generalize q.num.natAbs*r.den=A at *
 generalize r.num.natAbs*q.den=B at *
 rcases Int.sign_trichotomy q.num with h | h | h<;>rw [h]
 ·simp only [Int.one_mul,Int.ofNat_lt]
 ·have:=hz h
  simp
 ·simp only [Int.neg_mul,Int.one_mul,Int.neg_lt_neg_iff,Int.ofNat_lt]
  by_cases h1:A<B
  ·have h2:¬ B<A:=by omega
   simp [h1,h2]
  ·by_cases h2:B<A<;>simp [h1,h2]
theorem cmpQ_other {q r:Rat} (hs:q.num.sign≠r.num.sign):cmpQ q r=if q.num.sign<r.num.sign then -1 else 1:=by
 have hdq:=den_pos q;have hdr:=den_pos r;have aux:∀ {q r:Rat},0<q.den→0<r.den→q.num.sign<r.num.sign→q<r:=by
  intro q r hq hr h
  rw [Rat.lt_iff]
  rcases Int.lt_trichotomy q.num 0 with k | k | k
  ·have h1:q.num*r.den<0:=Int.mul_neg_of_neg_of_pos k (by omega)
   rcases Int.lt_trichotomy r.num 0 with k2 | k2 | k2
   ·rw [Int.sign_eq_neg_one_of_neg k,Int.sign_eq_neg_one_of_neg k2] at h;omega
   ·rw [k2];omega
   ·have:0<r.num*q.den:=Int.mul_pos k2 (by omega)
    omega
  ·rcases Int.lt_trichotomy r.num 0 with k2 | k2 | k2
   ·rw [k,Int.sign_eq_neg_one_of_neg k2] at h;simp at h
   ·rw [k,k2] at h;simp at h
   ·have:0<r.num*q.den:=Int.mul_pos k2 (by omega)
    rw [k];omega
  ·rcases Int.lt_trichotomy r.num 0 with k2 | k2 | k2
   ·rw [Int.sign_eq_one_of_pos k,Int.sign_eq_neg_one_of_neg k2] at h;omega
   ·rw [Int.sign_eq_one_of_pos k,k2] at h;simp at h
   ·rw [Int.sign_eq_one_of_pos k,Int.sign_eq_one_of_pos k2] at h;omega
 unfold cmpQ
 rcases Int.lt_trichotomy q.num.sign r.num.sign with h | h | h
 ·rw [if_pos (aux hdq hdr h),if_pos h]
 ·exact absurd h hs
 ·have h2:=aux hdr hdq h;rw [if_neg (Rat.not_lt.2 (Rat.le_of_lt h2)),if_pos h2,if_neg (by omega)]
theorem Cmp_c (x y:Value) (q r:Rat) (K:Nat) (w:World) (hx:NumV w x q) (hy:NumV w y r) (sx:SmQ K q) (sy:SmQ K r) (hK:K≤20000000) :
  Calls Tryz.prog 13 #[x,y] w fun e w'=>e=.returned (.int .i64 (cmpQ q r))∧Ext w w':=by
 by_cases hs:q.num.sign=r.num.sign
 ·exact cmp_same x y q r K w hx hy sx sy hK _ hs (hid (cmpQ_sign hs))
 ·exact cmp_other x y q r w hx hy _ hs (hid (cmpQ_other hs))
theorem quo_value (q r:Rat) (hr:r≠0):mkq (decide (q.num<0) != decide (r.num<0)) (q.num.natAbs*r.den) (q.den*r.num.natAbs)=q/r:=by
 have h1:r.num.natAbs≠0:=fun h=>hr (Rat.num_eq_zero.1 (by omega))
 have:=mkq_div (decide (q.num<0)) (decide (r.num<0)) q.num.natAbs r.num.natAbs q.den r.den h1 r.den_nz
 rw [mkq_self,mkq_self] at this
 exact this.symm
theorem quo_some (x y:Value) (q r:Rat) (K:Nat) (w:World) (hx:NumV w x q) (hy:NumV w y r) (sx:SmQ K q) (sy:SmQ K r) (hK:K≤20000000) (hr:r≠0) :
  Calls Tryz.prog 215 #[x,y] w fun e w'=>∃ v,e=.returned (.tuple #[v,.int .i64 0])∧NumV w' v (q/r)∧Ext w w':=by
 obtain ⟨ng,a,n,c,a',n',c',rfl⟩:=hx.shape;obtain ⟨mg,b,m,d,b',m',d',rfl⟩:=hy.shape;obtain ⟨W0,hW0,e0,hBx,hBy,hBz⟩:=pro3 w #[.bool ng,.slice a n c,.slice a' n' c'] #[.bool mg,.slice b m d,.slice b' m' d'] #[.bool false,.slice none 0 0,.slice none 0 0] 49 49 49;have HE:Hid (Ext w W0):=hid e0;have HBz:=hid hBz;have HS:Hid (∀ w',Ext W0 w'→Six w.heap.size (.bool ng) (.slice a n c) (.slice a' n' c') (w.heap.size+1) (.bool mg) (.slice b m d) (.slice b' m' d') w'):=hid fun w' h=>Six.of (hBx.ext h) (hBy.ext h);have Hx:=hid hx;have Hy:=hid hy;have hb0:Ext W0 W0.drew:=Below.drew (Below.refl _ W0);have hs:(r.num.sign==0)=false:=by
  have:r.num≠0:=fun h=>hr (Rat.num_eq_zero.1 h)
  have:r.num.sign≠0:=fun h=>this (Int.sign_eq_zero_iff_zero.1 h)
  exact beq_eq_false_iff_ne.2 this
 have hpos:Hid (0<q.den*r.num.natAbs):=hid (Nat.mul_pos (den_pos q) (Nat.pos_of_ne_zero fun h=>hr (Rat.num_eq_zero.1 (by omega))));have Sxp:=hid sx.1;have Sxd:=hid sx.2;have Syp:=hid sy.1;have Syd:=hid sy.2;have HK2:Hid (K≤100000000):=hid (by omega);have HK3:Hid (K+K≤50000000):=hid (by omega);have HV:=hid (quo_value q r hr);have Hne:=hid hx.neg;have Hme:=hid hy.neg;have HW0:Hid (Ext w W0):=hid e0;clear hx hy e0 hBx hBy hBz hr sx sy hK
 go_enter Tryz.func215,Tryz.ntmps215
 go_wp2_with fail;rw [←hW0];clear hW0;refine (sign_c _ r _ (Hy.o.ext HE.o)).mono ?_;rintro e w1 ⟨rfl,g1⟩;have hs6:=HS.o _ g1;go_wp2_with fail;have hb1:Ext W0 w1.drew:=g1.trans (Below.drew (Below.refl _ w1));clear hs6
 go_region_held3 (fun w'=>w'.cell? ⟨w.heap.size,0,none⟩=some (.bool ng)∧w'.cell? ⟨w.heap.size,1,none⟩=some (.slice a n c)∧w'.cell? ⟨w.heap.size,2,none⟩=some (.slice a' n' c') ∧
   w'.cell? ⟨w.heap.size+1,0,none⟩=some (.bool mg)∧w'.cell? ⟨w.heap.size+1,1,none⟩=some (.slice b m d)∧w'.cell? ⟨w.heap.size+1,2,none⟩=some (.slice b' m' d'))
  (first | exact HS.o _ (by assumption) | exact Six.store (HS.o _ (by assumption)) (by omega) (by omega) _ _ _)
  (first
   | (go_at_call 53;(with_reducible refine (bottom_c _ r _ (Hy.o.ext (HE.o.trans hb1))).mono ?_);rintro e w2 ⟨a2,n2,c2,rfl,k2,g2⟩;have hb2:Ext W0 w2:=hb1.trans g2)
   | (go_at_call 52;(with_reducible refine (mul_c _ _ q.num.natAbs r.den K _ (Hx.o.p.ext (HE.o.trans hb2)) k2 Sxp.o Syd.o HK2.o).mono ?_);rintro e w3 ⟨a3,n3,c3,rfl,k3,g3⟩;have hb3:Ext W0 w3:=hb2.trans g3)
   | (go_at_call 53;(with_reducible refine (bottom_c _ q _ (Hx.o.ext (HE.o.trans hb3))).mono ?_);rintro e w4 ⟨a4,n4,c4,rfl,k4,g4⟩;have hb4:Ext W0 w4:=hb3.trans g4)
   | (go_at_call 52;(with_reducible refine (mul_c _ _ q.den r.num.natAbs K _ k4 (Hy.o.p.ext (HE.o.trans hb4)) Sxd.o Syp.o HK2.o).mono ?_);rintro e w5 ⟨a5,n5,c5,rfl,k5,g5⟩;have hb5:Ext W0 w5:=hb4.trans g5)
   | (go_at_call 114;(with_reducible refine (made_c _ _ _ _ _ (K+K) _ (k3.ext (g4.trans g5)) k5 (Sxp.o.mul Syd.o) (Sxd.o.mul Syp.o) HK3.o hpos.o).mono ?_);rintro e w6 ⟨v,rfl,k6,g6⟩;have hb6:Ext W0 w6:=hb5.trans g6;obtain ⟨ng6,a6,n6,c6,a6',n6',c6',rfl⟩:=k6.shape;obtain ⟨z0,z1,z2,f0,f1,f2⟩:=(HBz.o.ext hb6).three))
 go_wp2_with fail;obtain ⟨q1,q2,q3⟩:=store3 (HE.o.trans hb6) (show w.heap.size≤w.heap.size+1+1 by omega) (HBz.o.ext hb6) (by decide) (.bool ng6) (.slice a6 n6 c6) (.slice a6' n6' c6');have r0:=q3.cell 0;have r1:=q3.cell 1;have r2:=q3.cell 2;refine bodyPost_ret (v:=.tuple #[.agg #[.bool ng6,.slice a6 n6 c6,.slice a6' n6' c6'],.int .i64 0]) (by simp [results,Tryz.results215,go_sem,r0,r1,r2]) rfl ⟨_,rfl,?_,q1⟩;have k7:=k6.keep q2;rw [Hne.o,Hme.o] at k7;have k8:NumV _ _ (mkq (decide (q.num<0) != decide (r.num<0)) (q.num.natAbs*r.den) (q.den*r.num.natAbs)):=k7;rw [HV.o] at k8
 exact k8
theorem mkq_int (n:Int):mkq (decide (n<0)) n.natAbs 1=(n:Rat):=by
 have:=mkq_self (n:Rat)
 rw [Rat.num_intCast,Rat.den_intCast] at this
 exact this
theorem store3' {w W0 wk:World} {b:Nat} {x y z:Value} {t:TypeId} (h0:Ext w W0) (hk:Ext W0 wk) (hle:w.heap.size≤b) (hB:Box W0 b #[x,y,z] t) (ht:t≠240) (x' y' z':Value) :
  Ext w (((wk.setCell ⟨b,0,none⟩ x').setCell ⟨b,1,none⟩ y').setCell ⟨b,2,none⟩ z')∧Keep wk (((wk.setCell ⟨b,0,none⟩ x').setCell ⟨b,1,none⟩ y').setCell ⟨b,2,none⟩ z') ∧
  Box (((wk.setCell ⟨b,0,none⟩ x').setCell ⟨b,1,none⟩ y').setCell ⟨b,2,none⟩ z') b #[x',y',z'] t:=store3 (h0.trans hk) hle (hB.ext hk) ht x' y' z'
theorem Int_c (n:Int) (w:World) (h0 : -9223372036854775808≤n) (h1:n<9223372036854775808) :
  Calls Tryz.prog 49 #[.int .i64 n] w fun e w'=>∃ v,e=.returned v∧NumV w' v (n:Rat)∧Ext w w':=by
 have H0:=hid h0;have H1:=hid h1;have HN:=hid (mkq_int n);obtain ⟨W0,hW0⟩:∃ W0,W0=w.alloc (.cells #[.bool false,.slice none 0 0,.slice none 0 0] 49):=⟨_,rfl⟩;have HE:Hid (Ext w W0):=hid (by rw [hW0];exact Ext.alloc w _);have HB:Hid (Box W0 w.heap.size #[.bool false,.slice none 0 0,.slice none 0 0] 49):=hid (by rw [hW0];exact Box.new w _ _);clear h0 h1
 by_cases hn:n<0
 ·have hn1:decide (n<0)=true:=decide_eq_true hn;have Hn:=hid hn;clear hn
  go_enter Tryz.func49,Tryz.ntmps49
  go_wp2_with fail;rw [←hW0];clear hW0;refine (of_c _ _ (by rw [w64];omega) (by rw [w64];omega)).mono ?_;rintro e w1 ⟨a1,n1,c1,rfl,k1,g1⟩;go_wp2_with fail;refine (of_c _ _ (by decide) (by decide)).mono ?_;rintro e w2 ⟨a2,n2,c2,rfl,k2,g2⟩;go_wp2_with fail;refine (made_c _ _ _ n.natAbs 1 64 _ ?_ k2 (show n.natAbs<2^64 by have:=H0.o;have:=Hn.o;omega) (show 1<2^64 by decide) (by decide) (by decide)).mono ?_
  ·have e1:(IntKind.u64.wrap (-(IntKind.u64.wrap n))).toNat=n.natAbs:=by
    rw [w64,w64];have:=H0.o;have:=Hn.o;omega
   rw [←e1];exact k1.ext g2
  rintro e w3 ⟨v,rfl,k3,g3⟩;obtain ⟨ng3,a3,n3,c3,a3',n3',c3',rfl⟩:=k3.shape;have hb3:=g1.trans (g2.trans g3);obtain ⟨z0,z1,z2,f0,f1,f2⟩:=(HB.o.ext hb3).three;go_wp2_with fail;obtain ⟨q1,q2,q3⟩:=store3' HE.o hb3 (Nat.le_refl _) HB.o (by decide) (.bool ng3) (.slice a3 n3 c3) (.slice a3' n3' c3');have r0:=q3.cell 0;have r1:=q3.cell 1;have r2:=q3.cell 2;refine bodyPost_ret (v:=.agg #[.bool ng3,.slice a3 n3 c3,.slice a3' n3' c3']) (by simp [results,Tryz.results49,go_sem,r0,r1,r2]) rfl ⟨_,rfl,?_,q1⟩;have k4:=k3.keep q2;have k5:=HN.o;rw [hn1] at k5;rw [k5] at k4
  exact k4
 ·have hn1:decide (n<0)=false:=decide_eq_false hn;have Hn:=hid hn;clear hn
  go_enter Tryz.func49,Tryz.ntmps49
  go_wp2_with fail;rw [←hW0];clear hW0;refine (of_c _ _ (by rw [w64];omega) (by rw [w64];omega)).mono ?_;rintro e w1 ⟨a1,n1,c1,rfl,k1,g1⟩;go_wp2_with fail;refine (of_c _ _ (by decide) (by decide)).mono ?_;rintro e w2 ⟨a2,n2,c2,rfl,k2,g2⟩;go_wp2_with fail;refine (made_c _ _ _ n.natAbs 1 64 _ ?_ k2 (show n.natAbs<2^64 by have:=H1.o;have:=Hn.o;omega) (show 1<2^64 by decide) (by decide) (by decide)).mono ?_
  ·have e1:(IntKind.u64.wrap n).toNat=n.natAbs:=by
    rw [w64];have:=H1.o;have:=Hn.o;omega
   rw [←e1];exact k1.ext g2
  rintro e w3 ⟨v,rfl,k3,g3⟩;obtain ⟨ng3,a3,n3,c3,a3',n3',c3',rfl⟩:=k3.shape;have hb3:=g1.trans (g2.trans g3);obtain ⟨z0,z1,z2,f0,f1,f2⟩:=(HB.o.ext hb3).three;go_wp2_with fail;obtain ⟨q1,q2,q3⟩:=store3' HE.o hb3 (Nat.le_refl _) HB.o (by decide) (.bool ng3) (.slice a3 n3 c3) (.slice a3' n3' c3');have r0:=q3.cell 0;have r1:=q3.cell 1;have r2:=q3.cell 2;refine bodyPost_ret (v:=.agg #[.bool ng3,.slice a3 n3 c3,.slice a3' n3' c3']) (by simp [results,Tryz.results49,go_sem,r0,r1,r2]) rfl ⟨_,rfl,?_,q1⟩;have k4:=k3.keep q2;have k5:=HN.o;rw [hn1] at k5;rw [k5] at k4
  exact k4
theorem SmQ.int {K:Nat} {n:Int} (hK:0<K) (h:n.natAbs<2^K):SmQ K (n:Rat):=by
 unfold SmQ;rw [Rat.num_intCast,Rat.den_intCast]
 exact ⟨h,Nat.one_lt_two_pow (by omega)⟩
theorem mkq_nat (n:Nat):mkq false n 1=(n:Rat):=by
 have:=mkq_int (n:Int)
 rw [decide_eq_false (by omega),Int.natAbs_natCast] at this;rw [this];rfl
theorem shift_up (m:Bool) (P Q n:Nat):mkq m (P*2^n) Q=mkq m P Q*(2:Rat)^(n:Int):=by
 have h:=mkq_mul m false P (2^n) Q 1;rw [mkq_nat,Nat.mul_one,Bool.bne_false] at h;rw [←h,Rat.zpow_natCast];push_cast;rfl
theorem shift_down (m:Bool) (P Q n:Nat) (_hQ:Q≠0):mkq m P (Q*2^n)=mkq m P Q*(2:Rat)^(-(n:Int)):=by
 have hp:(2^n:Nat)≠0:=Nat.pos_iff_ne_zero.1 (Nat.pow_pos (by decide));have h:=mkq_div m false P (2^n) Q 1 hp (by decide);rw [mkq_nat,Nat.mul_one,Bool.bne_false] at h;rw [←h,Rat.zpow_neg,Rat.zpow_natCast,Rat.div_def];push_cast;rfl
def Tri (x:Nat) (x0 x1 x2:Value) (w:World):Prop :=
 w.cell? ⟨x,0,none⟩=some x0∧w.cell? ⟨x,1,none⟩=some x1∧w.cell? ⟨x,2,none⟩=some x2
theorem Tri.of {w:World} {x:Nat} {x0 x1 x2:Value} {t:TypeId} (h:Box w x #[x0,x1,x2] t):Tri x x0 x1 x2 w:=⟨h.cell 0,h.cell 1,h.cell 2⟩
theorem Tri.store {w:World} {x b:Nat} {x0 x1 x2:Value} (h:Tri x x0 x1 x2 w) (hx:x≠b) (u v z:Value) :
  Tri x x0 x1 x2 (((w.setCell ⟨b,0,none⟩ u).setCell ⟨b,1,none⟩ v).setCell ⟨b,2,none⟩ z):=by
 unfold Tri at *
 refine ⟨?_,?_,?_⟩
 ·rw [cell_store3 (by exact hx)];exact h.1
 ·rw [cell_store3 (by exact hx)];exact h.2.1
 ·rw [cell_store3 (by exact hx)];exact h.2.2
theorem Sm.pow {K P n:Nat} (h:Sm K P):Sm (K+n) (P*2^n):=by
 unfold Sm at *
 rw [Nat.pow_add]
 exact Nat.mul_lt_mul_of_pos_right h (Nat.pow_pos (by decide))
theorem shifted_down (x:Value) (q:Rat) (K:Nat) (k:Int) (w:World) (hx:NumV w x q) (sx:SmQ K q) (hk:k<0) (hk1 : -1000000≤k) (hK:K≤20000000) :
  Calls Tryz.prog 170 #[x,.int .i64 k] w fun e w'=>∃ v,e=.returned v∧NumV w' v (q*(2:Rat)^k)∧Ext w w':=by
 obtain ⟨ng,a,n,c,a',n',c',rfl⟩:=hx.shape;obtain ⟨W0,hW0,e0,hBx,hBz⟩:=pro2 w #[.bool ng,.slice a n c,.slice a' n' c'] #[.bool false,.slice none 0 0,.slice none 0 0] 49 49;have HE:Hid (Ext w W0):=hid e0;have HBz:=hid hBz;have HS:Hid (∀ w',Ext W0 w'→Tri w.heap.size (.bool ng) (.slice a n c) (.slice a' n' c') w'):=hid fun w' h=>Tri.of (hBx.ext h);have Hx:=hid hx;have hb0:Ext W0 W0.drew:=Below.drew (Below.refl _ W0);have hk2:decide (k<0)=true:=decide_eq_true hk;have hw:IntKind.i64.wrap (-k) = -k:=by rw [IntKind.wrap_i64];omega
 obtain ⟨u,hu⟩:∃ u:Nat,k = -(u:Int):=⟨k.natAbs,by omega⟩;have Hu:=hid hu;have Hu0:Hid (u≤1000000):=hid (by omega);have Hk0:Hid (0 ≤ -k):=hid (by omega);have Hk1:Hid (-k≤100000000):=hid (by omega);have HK:Hid (K≤100000000):=hid (by omega);have HK3:Hid (K+u≤50000000):=hid (by omega);have HQ:Hid (0<q.den*2^u):=hid (Nat.mul_pos (den_pos q) (Nat.pow_pos (by decide)));have HT:Hid ((-k).toNat=u):=hid (by omega);have Sp:=hid (sx.1.mono (show K≤K+u by omega));have Sd:=hid sx.2;have Hne:=hid hx.neg;clear sx hK hk hk1 hu;clear hx e0 hBx hBz
 go_enter Tryz.func170,Tryz.ntmps170
 go_wp2_with fail;rw [←hW0];clear hW0
 go_region_held3 (fun w'=>w'.cell? ⟨w.heap.size,0,none⟩=some (.bool ng)∧w'.cell? ⟨w.heap.size,1,none⟩=some (.slice a n c)∧w'.cell? ⟨w.heap.size,2,none⟩=some (.slice a' n' c'))
  (first | exact HS.o _ (by assumption) | exact Tri.store (HS.o _ (by assumption)) (by omega) _ _ _)
  (first
   | (go_at_call 53;(with_reducible refine (bottom_c _ q _ (Hx.o.ext (HE.o.trans hb0))).mono ?_);rintro e w1 ⟨a1,n1,c1,rfl,k1,g1⟩;have hb1:Ext W0 w1:=hb0.trans g1)
   | (go_at_call 209;(with_reducible refine (shl_c _ _ K _ _ k1 Sd.o HK.o Hk0.o Hk1.o).mono ?_);rintro e w2 ⟨a2,n2,c2,rfl,k2,g2⟩;have hb2:Ext W0 w2:=hb1.trans g2;rw [HT.o] at k2)
   | (go_at_call 114;(with_reducible refine (made_c _ _ _ q.num.natAbs _ (K+u) _ (Hx.o.p.ext (HE.o.trans hb2)) k2 Sp.o Sd.o.pow HK3.o HQ.o).mono ?_);rintro e w3 ⟨v,rfl,k3,g3⟩;have hb3:Ext W0 w3:=hb2.trans g3;obtain ⟨ng3,a3,n3,c3,a3',n3',c3',rfl⟩:=k3.shape;obtain ⟨z0,z1,z2,f0,f1,f2⟩:=(HBz.o.ext hb3).three))
 go_wp2_with fail;obtain ⟨q1,q2,q3⟩:=store3 (HE.o.trans hb3) (show w.heap.size≤w.heap.size+1 by omega) (HBz.o.ext hb3) (by decide) (.bool ng3) (.slice a3 n3 c3) (.slice a3' n3' c3');have r0:=q3.cell 0;have r1:=q3.cell 1;have r2:=q3.cell 2;refine bodyPost_ret (v:=.agg #[.bool ng3,.slice a3 n3 c3,.slice a3' n3' c3']) (by simp [results,Tryz.results170,go_sem,r0,r1,r2]) rfl ⟨_,rfl,?_,q1⟩;have kk:=k3.keep q2;rw [shift_down _ _ _ _ q.den_nz,Hne.o,mkq_self,←Hu.o] at kk
 exact kk
theorem shifted_up (x:Value) (q:Rat) (K:Nat) (k:Int) (w:World) (hx:NumV w x q) (sx:SmQ K q) (hk:0≤k) (hk1:k≤1000000) (hK:K≤20000000) :
  Calls Tryz.prog 170 #[x,.int .i64 k] w fun e w'=>∃ v,e=.returned v∧NumV w' v (q*(2:Rat)^k)∧Ext w w':=by
 obtain ⟨ng,a,n,c,a',n',c',rfl⟩:=hx.shape;obtain ⟨W0,hW0,e0,hBx,hBz⟩:=pro2 w #[.bool ng,.slice a n c,.slice a' n' c'] #[.bool false,.slice none 0 0,.slice none 0 0] 49 49;have HE:Hid (Ext w W0):=hid e0;have HBz:=hid hBz;have HS:Hid (∀ w',Ext W0 w'→Tri w.heap.size (.bool ng) (.slice a n c) (.slice a' n' c') w'):=hid fun w' h=>Tri.of (hBx.ext h);have Hx:=hid hx;have hb0:Ext W0 W0.drew:=Below.drew (Below.refl _ W0);have hk2:decide (k<0)=false:=decide_eq_false (by omega);obtain ⟨u,hu⟩:∃ u:Nat,k=(u:Int):=⟨k.natAbs,by omega⟩;have Hu:=hid hu;have Hk0:Hid (0≤k):=hid (by omega);have Hk1:Hid (k≤100000000):=hid (by omega);have HK:Hid (K≤100000000):=hid (by omega);have HK3:Hid (K+u≤50000000):=hid (by omega);have HT:Hid (k.toNat=u):=hid (by omega);have Sp:=hid sx.1;have Sd:=hid (sx.2.mono (show K≤K+u by omega));have HQ:=hid (den_pos q);have Hne:=hid hx.neg;clear sx hK hk hk1 hu;clear hx e0 hBx hBz
 go_enter Tryz.func170,Tryz.ntmps170
 go_wp2_with fail;rw [←hW0];clear hW0
 go_region_held3 (fun w'=>w'.cell? ⟨w.heap.size,0,none⟩=some (.bool ng)∧w'.cell? ⟨w.heap.size,1,none⟩=some (.slice a n c)∧w'.cell? ⟨w.heap.size,2,none⟩=some (.slice a' n' c'))
  (first | exact HS.o _ (by assumption) | exact Tri.store (HS.o _ (by assumption)) (by omega) _ _ _)
  (first
   | (go_at_call 209;(with_reducible refine (shl_c _ q.num.natAbs K _ _ (Hx.o.p.ext (HE.o.trans hb0)) Sp.o HK.o Hk0.o Hk1.o).mono ?_);rintro e w1 ⟨a1,n1,c1,rfl,k1,g1⟩;have hb1:Ext W0 w1:=hb0.trans g1;rw [HT.o] at k1)
   | (go_at_call 53;(with_reducible refine (bottom_c _ q _ (Hx.o.ext (HE.o.trans hb1))).mono ?_);rintro e w2 ⟨a2,n2,c2,rfl,k2,g2⟩;have hb2:Ext W0 w2:=hb1.trans g2)
   | (go_at_call 114;(with_reducible refine (made_c _ _ _ _ q.den (K+u) _ (k1.ext g2) k2 Sp.o.pow Sd.o HK3.o HQ.o).mono ?_);rintro e w3 ⟨v,rfl,k3,g3⟩;have hb3:Ext W0 w3:=hb2.trans g3;obtain ⟨ng3,a3,n3,c3,a3',n3',c3',rfl⟩:=k3.shape;obtain ⟨z0,z1,z2,f0,f1,f2⟩:=(HBz.o.ext hb3).three))
 go_wp2_with fail;obtain ⟨q1,q2,q3⟩:=store3 (HE.o.trans hb3) (show w.heap.size≤w.heap.size+1 by omega) (HBz.o.ext hb3) (by decide) (.bool ng3) (.slice a3 n3 c3) (.slice a3' n3' c3');have r0:=q3.cell 0;have r1:=q3.cell 1;have r2:=q3.cell 2;refine bodyPost_ret (v:=.agg #[.bool ng3,.slice a3 n3 c3,.slice a3' n3' c3']) (by simp [results,Tryz.results170,go_sem,r0,r1,r2]) rfl ⟨_,rfl,?_,q1⟩;have kk:=k3.keep q2;rw [shift_up,Hne.o,mkq_self,←Hu.o] at kk
 exact kk
theorem shifted_c (x:Value) (q:Rat) (K:Nat) (k:Int) (w:World) (hx:NumV w x q) (sx:SmQ K q) (h0 : -1000000≤k) (h1:k≤1000000) (hK:K≤20000000) :
  Calls Tryz.prog 170 #[x,.int .i64 k] w fun e w'=>∃ v,e=.returned v∧NumV w' v (q*(2:Rat)^k)∧Ext w w':=by
 by_cases hk:k<0
 ·exact shifted_down x q K k w hx sx hk h0 hK
 ·exact shifted_up x q K k w hx sx (by omega) h1 hK
theorem Sm.one (K:Nat):Sm (K+1) 1:=Nat.one_lt_two_pow (by omega)
theorem Shift_c (x:Value) (q:Rat) (K:Nat) (k:Int) (w:World) (hx:NumV w x q) (sx:SmQ K q) (h0 : -20000≤k) (h1:k≤20000) (hK:K≤20000000) :
  Calls Tryz.prog 79 #[x,.int .i64 k] w fun e w'=>∃ v,e=.returned (.tuple #[v,.int .i64 0])∧NumV w' v (q*(2:Rat)^k)∧Ext w w':=by
 obtain ⟨ng,a,n,c,a',n',c',rfl⟩:=hx.shape;obtain ⟨W0,hW0,e0,hBx,hBz⟩:=pro2 w #[.bool ng,.slice a n c,.slice a' n' c'] #[.bool false,.slice none 0 0,.slice none 0 0] 49 49;have HE:Hid (Ext w W0):=hid e0;have HBz:=hid hBz;have HS:Hid (∀ w',Ext W0 w'→Tri w.heap.size (.bool ng) (.slice a n c) (.slice a' n' c') w'):=hid fun w' h=>Tri.of (hBx.ext h);have Hx:=hid hx;have hb0:Ext W0 W0.drew:=Below.drew (Below.refl _ W0);have hk1:decide (k < -20000)=false:=decide_eq_false (by omega);have hk2:decide (20000<k)=false:=decide_eq_false (by omega);have H0:Hid (-1000000≤k):=hid (by omega);have H1:Hid (k≤1000000):=hid (by omega);have HK:=hid hK;have Sx:=hid sx;clear hx e0 hBx h0 h1 hK sx;obtain ⟨x0,x1,x2⟩:=HS.o _ (Below.refl _ W0)
 go_enter Tryz.func79,Tryz.ntmps79
 go_wp2_with fail;rw [←hW0];clear hW0;refine (shifted_c _ q K k _ (Hx.o.ext HE.o) Sx.o H0.o H1.o HK.o).mono ?_;rintro e w1 ⟨v,rfl,k1,hb1⟩;obtain ⟨ng1,a1,n1,c1,a1',n1',c1',rfl⟩:=k1.shape;obtain ⟨z0,z1,z2,f0,f1,f2⟩:=(HBz.o.ext hb1).three;go_wp2_with fail;obtain ⟨q1,q2,q3⟩:=store3 (HE.o.trans hb1) (show w.heap.size≤w.heap.size+1 by omega) (HBz.o.ext hb1) (by decide) (.bool ng1) (.slice a1 n1 c1) (.slice a1' n1' c1');have r0:=q3.cell 0;have r1:=q3.cell 1;have r2:=q3.cell 2;refine bodyPost_ret (v:=.tuple #[.agg #[.bool ng1,.slice a1 n1 c1,.slice a1' n1' c1'],.int .i64 0]) (by simp [results,Tryz.results79,go_sem,r0,r1,r2]) rfl ⟨_,rfl,?_,q1⟩
 exact k1.keep q2
theorem Two_c (k:Int) (w:World) (h0 : -20000≤k) (h1:k≤20000) :
  Calls Tryz.prog 207 #[.int .i64 k] w fun e w'=>∃ v,e=.returned (.tuple #[v,.int .i64 0])∧NumV w' v ((2:Rat)^k)∧Ext w w':=by
 obtain ⟨W0,hW0⟩:∃ W0,W0=w.alloc (.cells #[.bool false,.slice none 0 0,.slice none 0 0] 49):=⟨_,rfl⟩;have HE:Hid (Ext w W0):=hid (by rw [hW0];exact Ext.alloc w _);have HBz:Hid (Box W0 w.heap.size #[.bool false,.slice none 0 0,.slice none 0 0] 49):=hid (by rw [hW0];exact Box.new w _ _);have H0:=hid h0;have H1:=hid h1;have S1:Hid (SmQ 64 (1:Rat)):=hid (SmQ.int (n:=1) (by decide) (by decide));clear h0 h1
 go_enter Tryz.func207,Tryz.ntmps207
 go_wp2_with fail;rw [←hW0];clear hW0;refine (Int_c 1 _ (by decide) (by decide)).mono ?_;rintro e w1 ⟨v1,rfl,k1,hb1⟩;go_wp2_with fail;refine (Shift_c _ 1 64 k _ k1 S1.o H0.o H1.o (by decide)).mono ?_;rintro e w2 ⟨v,rfl,k2,g2⟩;have hb2:=hb1.trans g2;obtain ⟨ng2,a2,n2,c2,a2',n2',c2',rfl⟩:=k2.shape;obtain ⟨z0,z1,z2,f0,f1,f2⟩:=(HBz.o.ext hb2).three;go_wp2_with fail;obtain ⟨q1,q2,q3⟩:=store3 (HE.o.trans hb2) (show w.heap.size≤w.heap.size by omega) (HBz.o.ext hb2) (by decide) (.bool ng2) (.slice a2 n2 c2) (.slice a2' n2' c2');have r0:=q3.cell 0;have r1:=q3.cell 1;have r2:=q3.cell 2;refine bodyPost_ret (v:=.tuple #[.agg #[.bool ng2,.slice a2 n2 c2,.slice a2' n2' c2'],.int .i64 0]) (by simp [results,Tryz.results207,go_sem,r0,r1,r2]) rfl ⟨_,rfl,?_,q1⟩;rw [Rat.one_mul] at k2
 exact k2.keep q2
theorem whole_down (x:Value) (q:Rat) (K:Nat) (w:World) (hx:NumV w x q) (sx:SmQ K q) (hK:K≤20000000)  :
  Calls Tryz.prog 171 #[x,.bool false] w fun e w'=>∃ v,e=.returned v∧NumV w' v (mkq (decide (q.num<0)) (q.num.natAbs/q.den) 1)∧Ext w w':=by
 obtain ⟨ng,a,n,c,a',n',c',rfl⟩:=hx.shape;obtain ⟨W0,hW0,e0,hBx,hBz⟩:=pro2 w #[.bool ng,.slice a n c,.slice a' n' c'] #[.bool false,.slice none 0 0,.slice none 0 0] 49 49;have HE:Hid (Ext w W0):=hid e0;have HBz:=hid hBz;have HS:Hid (∀ w',Ext W0 w'→Tri w.heap.size (.bool ng) (.slice a n c) (.slice a' n' c') w'):=hid fun w' h=>Tri.of (hBx.ext h);have Hx:=hid hx;have hb0:Ext W0 W0.drew:=Below.drew (Below.refl _ W0);have HK:Hid (K≤50000000):=hid (by omega);have Sp:=hid sx.1;have Sd:=hid sx.2;have HQ:=hid (den_pos q);have Hne:=hid hx.neg;have HK1:Hid (K+1≤50000000):=hid (by omega);clear hx e0 hBx hBz sx hK
 go_enter Tryz.func171,Tryz.ntmps171
 go_wp2_with fail;rw [←hW0];clear hW0
 go_region_held3 (fun w'=>w'.cell? ⟨w.heap.size,0,none⟩=some (.bool ng)∧w'.cell? ⟨w.heap.size,1,none⟩=some (.slice a n c)∧w'.cell? ⟨w.heap.size,2,none⟩=some (.slice a' n' c'))
  (first | exact HS.o _ (by assumption) | exact Tri.store (HS.o _ (by assumption)) (by omega) _ _ _)
  (first
   | (go_at_call 53;(with_reducible refine (bottom_c _ q _ (Hx.o.ext (HE.o.trans hb0))).mono ?_);rintro e w1 ⟨a1,n1,c1,rfl,k1,g1⟩;have hb1:Ext W0 w1:=hb0.trans g1)
   | (go_at_call 210;(with_reducible refine (div_c _ _ q.num.natAbs q.den K _ (Hx.o.p.ext (HE.o.trans hb1)) k1 Sp.o Sd.o HK.o HQ.o).mono ?_);rintro e w2 ⟨a2,n2,c2,a3,n3,c3,rfl,k2,k3,g2⟩;have hb2:Ext W0 w2:=hb1.trans g2))
 go_wp2_with fail;have hd:Ext w2 w2.drew:=Below.drew (Below.refl _ w2);have hb4:=hb2.trans hd;have A2:=hid (k2.ext hd);have Sq:Hid (Sm K (q.num.natAbs/q.den)):=hid (Sp.o.of_le (Nat.div_le_self _ _))
 go_region_held3 (fun w'=>w'.cell? ⟨w.heap.size,0,none⟩=some (.bool ng)∧w'.cell? ⟨w.heap.size,1,none⟩=some (.slice a n c)∧w'.cell? ⟨w.heap.size,2,none⟩=some (.slice a' n' c'))
  (first | exact HS.o _ (by assumption) | exact Tri.store (HS.o _ (by assumption)) (by omega) _ _ _)
  (first
   | (go_at_call 117;(with_reducible refine (of_c 1 _ (by decide) (by decide)).mono ?_);rintro e w5 ⟨a5,n5,c5,rfl,k5,g5⟩;have hb5:Ext W0 w5:=hb4.trans g5)
   | (go_at_call 114;(with_reducible refine (made_c _ _ _ (q.num.natAbs/q.den) 1 (K+1) _ (A2.o.ext g5) k5 (Sq.o.mono (Nat.le_succ _)) (Sm.one K) HK1.o (by decide)).mono ?_);rintro e w6 ⟨v,rfl,k6,g6⟩;have hb6:Ext W0 w6:=hb5.trans g6;obtain ⟨ng6,a6,n6,c6,a6',n6',c6',rfl⟩:=k6.shape;obtain ⟨z0,z1,z2,f0,f1,f2⟩:=(HBz.o.ext hb6).three))
 go_wp2_with fail;obtain ⟨q1,q2,q3⟩:=store3 (HE.o.trans hb6) (show w.heap.size≤w.heap.size+1 by omega) (HBz.o.ext hb6) (by decide) (.bool ng6) (.slice a6 n6 c6) (.slice a6' n6' c6');have r0:=q3.cell 0;have r1:=q3.cell 1;have r2:=q3.cell 2;refine bodyPost_ret (v:=.agg #[.bool ng6,.slice a6 n6 c6,.slice a6' n6' c6']) (by simp [results,Tryz.results171,go_sem,r0,r1,r2]) rfl ⟨_,rfl,?_,q1⟩;have kk:=k6.keep q2;rw [Hne.o] at kk
 exact kk
theorem whole_int (x:Value) (q:Rat) (K:Nat) (w:World) (hx:NumV w x q) (sx:SmQ K q) (hK:K≤20000000) (hr:q.num.natAbs%q.den=0) :
  Calls Tryz.prog 171 #[x,.bool true] w fun e w'=>∃ v,e=.returned v∧NumV w' v (mkq (decide (q.num<0)) (q.num.natAbs/q.den) 1)∧Ext w w':=by
 obtain ⟨ng,a,n,c,a',n',c',rfl⟩:=hx.shape;obtain ⟨W0,hW0,e0,hBx,hBz⟩:=pro2 w #[.bool ng,.slice a n c,.slice a' n' c'] #[.bool false,.slice none 0 0,.slice none 0 0] 49 49;have HE:Hid (Ext w W0):=hid e0;have HBz:=hid hBz;have HS:Hid (∀ w',Ext W0 w'→Tri w.heap.size (.bool ng) (.slice a n c) (.slice a' n' c') w'):=hid fun w' h=>Tri.of (hBx.ext h);have Hx:=hid hx;have hb0:Ext W0 W0.drew:=Below.drew (Below.refl _ W0);have HK:Hid (K≤50000000):=hid (by omega);have Sp:=hid sx.1;have Sd:=hid sx.2;have HQ:=hid (den_pos q);have Hne:=hid hx.neg;have HK1:Hid (K+1≤50000000):=hid (by omega);clear hx e0 hBx hBz sx hK
 go_enter Tryz.func171,Tryz.ntmps171
 go_wp2_with fail;rw [←hW0];clear hW0
 go_region_held3 (fun w'=>w'.cell? ⟨w.heap.size,0,none⟩=some (.bool ng)∧w'.cell? ⟨w.heap.size,1,none⟩=some (.slice a n c)∧w'.cell? ⟨w.heap.size,2,none⟩=some (.slice a' n' c'))
  (first | exact HS.o _ (by assumption) | exact Tri.store (HS.o _ (by assumption)) (by omega) _ _ _)
  (first
   | (go_at_call 53;(with_reducible refine (bottom_c _ q _ (Hx.o.ext (HE.o.trans hb0))).mono ?_);rintro e w1 ⟨a1,n1,c1,rfl,k1,g1⟩;have hb1:Ext W0 w1:=hb0.trans g1)
   | (go_at_call 210;(with_reducible refine (div_c _ _ q.num.natAbs q.den K _ (Hx.o.p.ext (HE.o.trans hb1)) k1 Sp.o Sd.o HK.o HQ.o).mono ?_);rintro e w2 ⟨a2,n2,c2,a3,n3,c3,rfl,k2,k3,g2⟩;have hb2:Ext W0 w2:=hb1.trans g2))
 have h3:decide (0<n3)=false:=decide_eq_false (by have:=k3.len0.2 hr;omega);go_wp2_with fail;have hd:Ext w2 w2.drew:=Below.drew (Below.refl _ w2);have hb4:=hb2.trans hd;have A2:=hid (k2.ext hd);have Sq:Hid (Sm K (q.num.natAbs/q.den)):=hid (Sp.o.of_le (Nat.div_le_self _ _))
 go_region_held3 (fun w'=>w'.cell? ⟨w.heap.size,0,none⟩=some (.bool ng)∧w'.cell? ⟨w.heap.size,1,none⟩=some (.slice a n c)∧w'.cell? ⟨w.heap.size,2,none⟩=some (.slice a' n' c'))
  (first | exact HS.o _ (by assumption) | exact Tri.store (HS.o _ (by assumption)) (by omega) _ _ _)
  (first
   | (go_at_call 117;(with_reducible refine (of_c 1 _ (by decide) (by decide)).mono ?_);rintro e w5 ⟨a5,n5,c5,rfl,k5,g5⟩;have hb5:Ext W0 w5:=hb4.trans g5)
   | (go_at_call 114;(with_reducible refine (made_c _ _ _ (q.num.natAbs/q.den) 1 (K+1) _ (A2.o.ext g5) k5 (Sq.o.mono (Nat.le_succ _)) (Sm.one K) HK1.o (by decide)).mono ?_);rintro e w6 ⟨v,rfl,k6,g6⟩;have hb6:Ext W0 w6:=hb5.trans g6;obtain ⟨ng6,a6,n6,c6,a6',n6',c6',rfl⟩:=k6.shape;obtain ⟨z0,z1,z2,f0,f1,f2⟩:=(HBz.o.ext hb6).three))
 go_wp2_with fail;obtain ⟨q1,q2,q3⟩:=store3 (HE.o.trans hb6) (show w.heap.size≤w.heap.size+1 by omega) (HBz.o.ext hb6) (by decide) (.bool ng6) (.slice a6 n6 c6) (.slice a6' n6' c6');have r0:=q3.cell 0;have r1:=q3.cell 1;have r2:=q3.cell 2;refine bodyPost_ret (v:=.agg #[.bool ng6,.slice a6 n6 c6,.slice a6' n6' c6']) (by simp [results,Tryz.results171,go_sem,r0,r1,r2]) rfl ⟨_,rfl,?_,q1⟩;have kk:=k6.keep q2;rw [Hne.o] at kk
 exact kk
theorem whole_up (x:Value) (q:Rat) (K:Nat) (w:World) (hx:NumV w x q) (sx:SmQ K q) (hK:K≤20000000) (hr:q.num.natAbs%q.den≠0) :
  Calls Tryz.prog 171 #[x,.bool true] w fun e w'=>∃ v,e=.returned v∧NumV w' v (mkq (decide (q.num<0)) (q.num.natAbs/q.den+1) 1)∧Ext w w':=by
 obtain ⟨ng,a,n,c,a',n',c',rfl⟩:=hx.shape;obtain ⟨W0,hW0,e0,hBx,hBz⟩:=pro2 w #[.bool ng,.slice a n c,.slice a' n' c'] #[.bool false,.slice none 0 0,.slice none 0 0] 49 49;have HE:Hid (Ext w W0):=hid e0;have HBz:=hid hBz;have HS:Hid (∀ w',Ext W0 w'→Tri w.heap.size (.bool ng) (.slice a n c) (.slice a' n' c') w'):=hid fun w' h=>Tri.of (hBx.ext h);have Hx:=hid hx;have hb0:Ext W0 W0.drew:=Below.drew (Below.refl _ W0);have HK:Hid (K≤50000000):=hid (by omega);have Sp:=hid sx.1;have Sd:=hid sx.2;have HQ:=hid (den_pos q);have Hne:=hid hx.neg;have HK1:Hid (K+1+1≤50000000):=hid (by omega);have HK2:Hid (K+1≤100000000):=hid (by omega);clear hx e0 hBx hBz sx hK
 go_enter Tryz.func171,Tryz.ntmps171
 go_wp2_with fail;rw [←hW0];clear hW0
 go_region_held3 (fun w'=>w'.cell? ⟨w.heap.size,0,none⟩=some (.bool ng)∧w'.cell? ⟨w.heap.size,1,none⟩=some (.slice a n c)∧w'.cell? ⟨w.heap.size,2,none⟩=some (.slice a' n' c'))
  (first | exact HS.o _ (by assumption) | exact Tri.store (HS.o _ (by assumption)) (by omega) _ _ _)
  (first
   | (go_at_call 53;(with_reducible refine (bottom_c _ q _ (Hx.o.ext (HE.o.trans hb0))).mono ?_);rintro e w1 ⟨a1,n1,c1,rfl,k1,g1⟩;have hb1:Ext W0 w1:=hb0.trans g1)
   | (go_at_call 210;(with_reducible refine (div_c _ _ q.num.natAbs q.den K _ (Hx.o.p.ext (HE.o.trans hb1)) k1 Sp.o Sd.o HK.o HQ.o).mono ?_);rintro e w2 ⟨a2,n2,c2,a3,n3,c3,rfl,k2,k3,g2⟩;have hb2:Ext W0 w2:=hb1.trans g2))
 have h3:decide (0<n3)=true:=decide_eq_true (by have:=k3.len0.1;omega);go_wp2_with fail;refine (of_c 1 _ (by decide) (by decide)).mono ?_;rintro e w7 ⟨a7,n7,c7,rfl,k7,g7⟩;have hb7:=hb2.trans g7;have k2':=k2.ext g7;have Sq:Hid (Sm K (q.num.natAbs/q.den)):=hid (Sp.o.of_le (Nat.div_le_self _ _));have So:Hid (Sm (K+1) 1):=hid (Sm.one K);go_wp2_with fail;refine (add_c _ _ (q.num.natAbs/q.den) 1 (K+1) _ k2' k7 (Sq.o.mono (Nat.le_succ _)) So.o HK2.o).mono ?_;rintro e w8 ⟨a8,n8,c8,rfl,k8,g8⟩;have hb8:=hb7.trans g8;clear k1 k2 k2' k3 k7 g7 g8 hb7 hb2 hb1 h3;go_wp2_with fail;have hd:Ext w8 w8.drew:=Below.drew (Below.refl _ w8);have hb4:=hb8.trans hd;have A2:=hid (k8.ext hd)
 go_region_held3 (fun w'=>w'.cell? ⟨w.heap.size,0,none⟩=some (.bool ng)∧w'.cell? ⟨w.heap.size,1,none⟩=some (.slice a n c)∧w'.cell? ⟨w.heap.size,2,none⟩=some (.slice a' n' c'))
  (first | exact HS.o _ (by assumption) | exact Tri.store (HS.o _ (by assumption)) (by omega) _ _ _)
  (first
   | (go_at_call 117;(with_reducible refine (of_c 1 _ (by decide) (by decide)).mono ?_);rintro e w5 ⟨a5,n5,c5,rfl,k5,g5⟩;have hb5:Ext W0 w5:=hb4.trans g5)
   | (go_at_call 114;(with_reducible refine (made_c _ _ _ (q.num.natAbs/q.den+1) 1 (K+1+1) _ (A2.o.ext g5) k5 ((Sq.o.mono (Nat.le_succ _)).add So.o) (So.o.mono (Nat.le_succ _)) HK1.o (by decide)).mono ?_);rintro e w6 ⟨v,rfl,k6,g6⟩;have hb6:Ext W0 w6:=hb5.trans g6;obtain ⟨ng6,a6,n6,c6,a6',n6',c6',rfl⟩:=k6.shape;obtain ⟨z0,z1,z2,f0,f1,f2⟩:=(HBz.o.ext hb6).three))
 go_wp2_with fail;obtain ⟨q1,q2,q3⟩:=store3 (HE.o.trans hb6) (show w.heap.size≤w.heap.size+1 by omega) (HBz.o.ext hb6) (by decide) (.bool ng6) (.slice a6 n6 c6) (.slice a6' n6' c6');have r0:=q3.cell 0;have r1:=q3.cell 1;have r2:=q3.cell 2;refine bodyPost_ret (v:=.agg #[.bool ng6,.slice a6 n6 c6,.slice a6' n6' c6']) (by simp [results,Tryz.results171,go_sem,r0,r1,r2]) rfl ⟨_,rfl,?_,q1⟩;have kk:=k6.keep q2;rw [Hne.o] at kk
 exact kk
theorem floor_pos (q:Rat) (h:¬ q.num<0):mkq (decide (q.num<0)) (q.num.natAbs/q.den) 1=((q.floor:Int):Rat):=by
 have e:q.floor=((q.num.natAbs/q.den:Nat):Int):=by
  rw [Rat.floor_def,Int.natCast_ediv,Int.natAbs_of_nonneg (by omega)]
 rw [decide_eq_false h,mkq_nat,e];rfl
theorem floor_neg (q:Rat) (h:q.num<0) (k:Nat) (hk:k=q.num.natAbs/q.den+if q.num.natAbs%q.den=0 then 0 else 1):mkq (decide (q.num<0)) k 1=((q.floor:Int):Rat):=by
 have e:q.floor = -(k:Int):=by
  rw [Rat.floor_def];have hd:=den_pos q;have e1:q.num = -(q.num.natAbs:Int):=by omega
  have e2:=Nat.div_add_mod q.num.natAbs q.den;have e3:=Nat.mod_lt q.num.natAbs hd;generalize q.num.natAbs/q.den=a at *
  generalize q.num.natAbs%q.den=r at *
  have e4:(q.num.natAbs:Int)=q.den*a+r:=by rw [←e2];push_cast;rfl
  rw [e1,e4];have hd0:(q.den:Int)≠0:=by omega
  by_cases hr:r=0
  ·rw [if_pos hr] at hk;have : -((q.den:Int)*a+r)=q.den*(-(k:Int)):=by rw [hk,hr,Int.mul_neg];simp
   rw [this,Int.mul_ediv_cancel_left _ hd0]
  ·rw [if_neg hr] at hk;have : -((q.den:Int)*a+r)=((q.den:Int)-r)+q.den*(-(k:Int)):=by rw [hk,Int.mul_neg,Int.natCast_add,Int.mul_add];simp;omega
   rw [this,Int.add_mul_ediv_left _ _ hd0,Int.ediv_eq_zero_of_lt (by omega) (by omega)];omega
 have h2:=mkq_int (-(k:Int))
 by_cases hk0:k=0
 ·rw [e,hk0,mkq_zero];rfl
 ·rw [e,decide_eq_true h];rw [decide_eq_true (by omega),Int.natAbs_neg,Int.natAbs_natCast] at h2
  exact h2
def floorBody (q:Rat):Prop:=∀ (x:Value) (K:Nat) (w:World),NumV w x q→SmQ K q→K≤20000000 →
  Calls Tryz.prog 171 #[x,.bool (decide (q.num<0))] w fun e w'=>∃ v,e=.returned v∧NumV w' v ((q.floor:Int):Rat)∧Ext w w'
theorem floor_body (q:Rat):floorBody q:=by
 intro x K w hx sx hK
 by_cases h:q.num<0
 ·rw [decide_eq_true h]
  by_cases hr:q.num.natAbs%q.den=0
  ·have:=whole_int x q K w hx sx hK hr
   rw [floor_neg q h _ (by rw [if_pos hr];rfl)] at this
   exact this
  ·have:=whole_up x q K w hx sx hK hr
   rw [floor_neg q h _ (by rw [if_neg hr])] at this
   exact this
 ·rw [decide_eq_false h]
  have:=whole_down x q K w hx sx hK
  rw [floor_pos q h] at this
  exact this
theorem Floor_c (x:Value) (q:Rat) (K:Nat) (w:World) (hx:NumV w x q) (sx:SmQ K q) (hK:K≤20000000) :
  Calls Tryz.prog 80 #[x] w fun e w'=>∃ v,e=.returned v∧NumV w' v ((q.floor:Int):Rat)∧Ext w w':=by
 obtain ⟨ng,a,n,c,a',n',c',rfl⟩:=hx.shape;obtain ⟨W0,hW0,e0,hBx,hBz⟩:=pro2 w #[.bool ng,.slice a n c,.slice a' n' c'] #[.bool false,.slice none 0 0,.slice none 0 0] 49 49;have HE:Hid (Ext w W0):=hid e0;have HBz:=hid hBz;have HS:Hid (∀ w',Ext W0 w'→Tri w.heap.size (.bool ng) (.slice a n c) (.slice a' n' c') w'):=hid fun w' h=>Tri.of (hBx.ext h);have Hx:=hid hx;have hb0:Ext W0 W0.drew:=Below.drew (Below.refl _ W0);have HK:=hid hK;have Sx:=hid sx;have Hne:=hid hx.neg;clear hx e0 hBx hK sx;obtain ⟨x0,x1,x2⟩:=HS.o _ (Below.refl _ W0)
 go_enter Tryz.func80,Tryz.ntmps80
 go_wp2_with fail;rw [←hW0];clear hW0;rw [Hne.o] at Hx ⊢;refine (floor_body q _ K _ (Hx.o.ext HE.o) Sx.o HK.o).mono ?_;rintro e w1 ⟨v,rfl,k1,hb1⟩;obtain ⟨ng1,a1,n1,c1,a1',n1',c1',rfl⟩:=k1.shape;obtain ⟨z0,z1,z2,f0,f1,f2⟩:=(HBz.o.ext hb1).three;go_wp2_with fail;obtain ⟨q1,q2,q3⟩:=store3 (HE.o.trans hb1) (show w.heap.size≤w.heap.size+1 by omega) (HBz.o.ext hb1) (by decide) (.bool ng1) (.slice a1 n1 c1) (.slice a1' n1' c1');have r0:=q3.cell 0;have r1:=q3.cell 1;have r2:=q3.cell 2;refine bodyPost_ret (v:=.agg #[.bool ng1,.slice a1 n1 c1,.slice a1' n1' c1']) (by simp [results,Tryz.results80,go_sem,r0,r1,r2]) rfl ⟨_,rfl,?_,q1⟩
 exact k1.keep q2
end Go.Proofs.YtoaoebimjmjpeaaGreatDoor
