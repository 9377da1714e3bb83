/- exact: Parse of the text of one. -/
import Derived.Test.YtoaoebimjmjpeaaGreatDoorT10
import Derived.Test.YtoaoebimjmjpeaaGreatDoorT13
namespace Go.Proofs.YtoaoebimjmjpeaaGreatDoor
open Go.RowKit Vn
set_option maxRecDepth 100000
set_option maxHeartbeats 8000000
def WM (w:World):Prop:=∃ m:Int,w.cell? ⟨5,0,none⟩=some (.int .i64 m)
theorem WM.ext {w w':World} (h:WM w) (k:Ext w w'):WM w':=by
 obtain ⟨m,hm⟩:=h
 exact ⟨m,k.cell hm⟩
theorem Ext.drewN (w:World) (n:Nat):Ext w (w.drewN n):=⟨rfl,rfl,rfl,Nat.le_refl _,fun _ _=>rfl⟩
def ba (l:List UInt8):ByteArray:=⟨l.toArray⟩
theorem ba_toList (l:List UInt8):(ba l).toList=l:=ByteArray.toList_eq _
theorem ba_size (l:List UInt8):(ba l).size=l.length:=by show l.toArray.size=l.length;simp
def parseBad (neg broken:Bool) (s1 s2:List UInt8):Bool := !rowB s1||(neg&&s1==[48])||(broken&&(!rowB s2||s2==[48]||s2==[49]))
def pNeg (l:List UInt8):Bool:=Lib.hasPrefix l [45]
def pCut (l:List UInt8):List UInt8×List UInt8×Bool:=Lib.cut (Lib.trimPrefix l [45]) [47]
def parseV (l:List UInt8):Rat×Int :=
 if parseBad (pNeg l) (pCut l).2.2 (pCut l).1 (pCut l).2.1=true then (0,6)
 else if 2000<max (pCut l).1.length (pCut l).2.1.length then (0,3)
 else if (pCut l).2.2=false then (mkq (pNeg l) (decV (pCut l).1) 1,0)
 else if Nat.gcd (decV (pCut l).1) (decV (pCut l).2.1)=1 then (mkq (pNeg l) (decV (pCut l).1) (decV (pCut l).2.1),0) else (0,6)
def ParsePost (r:Rat×Int) (w:World) (e:Ending) (w':World):Prop:=∃ v,e=.returned (.tuple #[v,.int .i64 r.2])∧NumV w' v r.1∧Ext w w'
theorem rowB_digs {l:List UInt8} (h:rowB l=true):Digs l:=by
 intro b hb
 unfold rowB at h;simp only [Bool.and_eq_true] at h
 have:=List.all_eq_true.1 h.1.2 b hb
 unfold isDig at this;have h2:=of_decide_eq_true this
 exact ⟨UInt8.le_iff_toNat_le.1 h2.1,UInt8.le_iff_toNat_le.1 h2.2⟩
theorem rowB_ne {l:List UInt8} (h:rowB l=true):l≠[]:=by
 rintro rfl;exact absurd h (by decide)
theorem decV_foldl:∀ (l:List UInt8) (n:Nat),1≤n→n≤l.foldl (fun n b=>10*n+(b.toNat-48)) n
 | [],n,_=>Nat.le_refl _
 | b :: l,n,h=>by
  rw [List.foldl_cons]
  exact Nat.le_trans (by omega) (decV_foldl l (10*n+(b.toNat-48)) (by omega))
theorem decV_big {l:List UInt8} (h:rowB l=true) (h0:l≠[48]) (h1:l≠[49]):1<decV l:=by
 have hd:=rowB_digs h;have hne:=rowB_ne h;obtain ⟨b,l',rfl⟩:=List.exists_cons_of_ne_nil hne;have hb:=hd b (by simp);have hb48:b.toNat≠48:=by
  intro e
  have eb:b=48:=UInt8.toNat_inj.1 e;unfold rowB at h;simp only [Bool.and_eq_true,Bool.or_eq_true] at h
  rcases h.2 with h2 | h2
  ·exact h0 (eq_of_beq h2)
  ·rw [eb] at h2;exact absurd h2 (by simp)
 cases l' with
 | nil =>
  have:b.toNat≠49:=fun e=>h1 (by rw [show b=49 from UInt8.toNat_inj.1 e])
  show 1<10*0+(b.toNat-48)
  omega
 | cons c l'' =>
  show 1<(c :: l'').foldl _ (10*0+(b.toNat-48))
  rw [List.foldl_cons]
  exact Nat.lt_of_lt_of_le (by omega) (decV_foldl l'' _ (by omega))
theorem sm8000:Sm 8000 1:=(show Sm 1 1 by unfold Sm;decide).mono (by decide)
theorem decV_small {l:List UInt8} (h:rowB l=true) (hl:l.length≤2000):Sm 8000 (decV l):=by
 have h1:=decV_lt l.length l rfl (rowB_digs h);have h2:10^l.length≤(2^4)^l.length:=Nat.pow_le_pow_left (by decide) _;have h3:(2^4)^l.length=2^(4*l.length):=by rw [Nat.pow_mul]
 rw [h3] at h2;have h4:Sm (4*l.length) (decV l):=Nat.lt_of_lt_of_le h1 h2
 exact h4.mono (by omega)
theorem NumV.coprime (neg:Bool) {w:World} {a a':Option Addr} {n c n' c' P Q:Nat} (hp:NatV w (.slice a n c) P) (hq:NatV w (.slice a' n' c') Q) (h1:1<Q) (hg:Nat.gcd P Q=1) :
  NumV w (.agg #[.bool neg,.slice a n c,.slice a' n' c']) (mkq neg P Q):=by
 have hP:0<P:=by
  rcases Nat.eq_zero_or_pos P with e | e
  ·subst e;rw [Nat.gcd_zero_left] at hg
   omega
  ·exact e
 exact NumV.made hP (by omega) (by rw [hg,Nat.div_one];exact hp) (.inr ⟨by rw [hg,Nat.div_one];omega,by rw [hg,Nat.div_one];exact hq⟩)
theorem Parse_x (l s s1 s2:List UInt8) (neg broken cnd:Bool) (r:Rat×Int) (w:World) (hw:WM w) (z1:s1.length≤9223372036854775807) (z2:s2.length≤9223372036854775807) (C1:Hid (∀ w,Calls Tryz.prog 174 #[.string (ba l),.string ⟨#[45]⟩] w fun e w'=>e=.returned (.tuple #[.string (ba s),.bool neg])∧Ext w w')) (C2:Hid (∀ w,WM w→Calls Tryz.prog 175 #[.string (ba s),.string ⟨#[47]⟩] w fun e w'=>e=.returned (.tuple #[.string (ba s1),.string (ba s2),.bool broken])∧Ext w w')) (hcnd:cnd=parseBad neg broken s1 s2) (hr:r=if cnd=true then (0,6) else if 2000<max s1.length s2.length then (0,3) else if broken=false then (mkq neg (decV s1) 1,0) else if Nat.gcd (decV s1) (decV s2)=1 then (mkq neg (decV s1) (decV s2),0) else (0,6)) :
  Calls Tryz.prog 86 #[.string (ba l)] w fun e w'=>ParsePost r w e w':=by
 obtain ⟨S,hS⟩:∃ S,S=ba l:=⟨_,rfl⟩;obtain ⟨S0,hS0⟩:∃ S,S=ba s:=⟨_,rfl⟩;obtain ⟨S1,hS1⟩:∃ S,S=ba s1:=⟨_,rfl⟩;obtain ⟨S2,hS2⟩:∃ S,S=ba s2:=⟨_,rfl⟩;obtain ⟨rt,hrt⟩:∃ b,b=rowB s1:=⟨_,rfl⟩;obtain ⟨rb,hrb⟩:∃ b,b=rowB s2:=⟨_,rfl⟩;obtain ⟨t0,ht0⟩:∃ b,b=(s1==[48]):=⟨_,rfl⟩;obtain ⟨b0,hb0⟩:∃ b,b=(s2==[48]):=⟨_,rfl⟩;obtain ⟨b1,hb1⟩:∃ b,b=(s2==[49]):=⟨_,rfl⟩;have et0:(S1.toList==[48])=t0:=by rw [hS1,ba_toList,ht0]
 have eb0:(S2.toList==[48])=b0:=by rw [hS2,ba_toList,hb0]
 have eb1:(S2.toList==[49])=b1:=by rw [hS2,ba_toList,hb1]
 have e1s:S1.size=s1.length:=by rw [hS1,ba_size]
 have e2s:S2.size=s2.length:=by rw [hS2,ba_size]
 have CT:Hid (∀ w,Calls Tryz.prog 176 #[.string S1] w fun e w'=>e=.returned (.bool rt)∧Ext w w'):=hid fun w=>by
  rw [hrt,hS1];exact row_c (ba s1) w (by rw [ba_size];omega)
 have CB:Hid (∀ w,Calls Tryz.prog 176 #[.string S2] w fun e w'=>e=.returned (.bool rb)∧Ext w w'):=hid fun w=>by
  rw [hrb,hS2];exact row_c (ba s2) w (by rw [ba_size];omega)
 have HC:Hid (cnd=(!rt||(neg&&t0)||(broken&&(!rb||b0||b1)))):=hid (by rw [hcnd,hrt,hrb,ht0,hb0,hb1];rfl);have CR1:Hid (rt=true→s1.length≤2000→∀ w,Calls Tryz.prog 177 #[.string S1] w fun e w'=>∃ a k c,e=.returned (.slice a k c)∧NatV w' (.slice a k c) (decV s1)∧Ext w w'):=hid fun h h2 w=>by
  rw [hS1];exact read_c s1 (rowB_digs (by rw [←hrt];exact h)) (by omega) w
 have CR2:Hid (rb=true→s2.length≤2000→∀ w,Calls Tryz.prog 177 #[.string S2] w fun e w'=>∃ a k c,e=.returned (.slice a k c)∧NatV w' (.slice a k c) (decV s2)∧Ext w w'):=hid fun h h2 w=>by
  rw [hS2];exact read_c s2 (rowB_digs (by rw [←hrb];exact h)) (by omega) w
 have SM1:Hid (rt=true→s1.length≤2000→Sm 8000 (decV s1)):=hid fun h h2=>decV_small (by rw [←hrt];exact h) h2;have SM2:Hid (rb=true→s2.length≤2000→Sm 8000 (decV s2)):=hid fun h h2=>decV_small (by rw [←hrb];exact h) h2;have BG:Hid (rb=true→b0=false→b1=false→1<decV s2):=hid fun h h0 h1=>decV_big (by rw [←hrb];exact h) (beq_eq_false_iff_ne.1 (by rw [←hb0];exact h0)) (beq_eq_false_iff_ne.1 (by rw [←hb1];exact h1));rw [←hS,←hS0] at C1;rw [←hS0,←hS1,←hS2] at C2;rw [←hS];have HW:=hid hw;have HR:=hid hr;have E1:=hid e1s;have E2:=hid e2s;clear hcnd hr hw hS hS0 hS1 hS2 hrt hrb ht0 hb0 hb1 e1s e2s z1 z2;obtain ⟨W0,hW0,g0,hz0,B_Z⟩:=pro1 w #[.bool false,.slice none 0 0,.slice none 0 0] 49;have HE:=hid g0;have HB_Z:=hid B_Z;clear g0 B_Z
 go_enter Tryz.func86,Tryz.ntmps86
 go_upto_region 1 with (fail)
 rw [←hW0];clear hW0;go_wp2_with fail;refine (C1.o _).mono ?_;rintro e w1 ⟨rfl,g1⟩;have hz_w1:=g1.size;replace HE:=hid (HE.o.trans g1);replace HB_Z:=hid (HB_Z.o.ext g1);go_wp2_with fail;refine (C2.o _ (HW.o.ext HE.o)).mono ?_;rintro e w2 ⟨rfl,g2⟩;have hz_w2:=g2.size;replace HE:=hid (HE.o.trans g2);replace HB_Z:=hid (HB_Z.o.ext g2)
 go_upto_region 3 with (fail)
 go_cut [22] (fun sv wx=>sv=.bool cnd∧Hid (Ext w wx)∧Hid (Box wx w.heap.size #[.bool false,.slice none 0 0,.slice none 0 0] 49)∧(cnd=false→Hid (rt=true∧(neg=true→t0=false)∧(broken=true→rb=true∧b0=false∧b1=false))))
 case first =>
  cases rt
  ·go_wp2_with fail;refine (CT.o _).mono ?_;rintro e w3 ⟨rfl,g3⟩;have hz_w3:=g3.size;replace HE:=hid (HE.o.trans g3);replace HB_Z:=hid (HB_Z.o.ext g3);go_wp2_with fail;go_meet
   exact ⟨by rw [HC.o];simp,HE,HB_Z,fun h=>absurd (HC.o.symm.trans h) (by simp)⟩
  ·cases neg
   ·cases broken
    ·go_wp2_with fail;refine (CT.o _).mono ?_;rintro e w3 ⟨rfl,g3⟩;have hz_w3:=g3.size;replace HE:=hid (HE.o.trans g3);replace HB_Z:=hid (HB_Z.o.ext g3);go_wp2_with fail;go_meet
     exact ⟨by rw [HC.o];simp,HE,HB_Z,fun _=>hid ⟨by simp,by simp,by simp⟩⟩
    ·cases rb
     ·go_wp2_with fail;refine (CT.o _).mono ?_;rintro e w3 ⟨rfl,g3⟩;have hz_w3:=g3.size;replace HE:=hid (HE.o.trans g3);replace HB_Z:=hid (HB_Z.o.ext g3);go_wp2_with fail;refine (CB.o _).mono ?_;rintro e w4 ⟨rfl,g4⟩;have hz_w4:=g4.size;replace HE:=hid (HE.o.trans g4);replace HB_Z:=hid (HB_Z.o.ext g4);go_wp2_with fail;go_meet
      exact ⟨by rw [HC.o];simp,HE,HB_Z,fun h=>absurd (HC.o.symm.trans h) (by simp)⟩
     ·cases b0
      ·cases b1
       ·go_wp2_with fail;refine (CT.o _).mono ?_;rintro e w3 ⟨rfl,g3⟩;have hz_w3:=g3.size;replace HE:=hid (HE.o.trans g3);replace HB_Z:=hid (HB_Z.o.ext g3);go_wp2_with fail;refine (CB.o _).mono ?_;rintro e w4 ⟨rfl,g4⟩;have hz_w4:=g4.size;replace HE:=hid (HE.o.trans g4);replace HB_Z:=hid (HB_Z.o.ext g4);go_wp2_with fail;go_meet
        exact ⟨by rw [HC.o];simp,HE,HB_Z,fun _=>hid ⟨by simp,by simp,by simp⟩⟩
       ·go_wp2_with fail;refine (CT.o _).mono ?_;rintro e w3 ⟨rfl,g3⟩;have hz_w3:=g3.size;replace HE:=hid (HE.o.trans g3);replace HB_Z:=hid (HB_Z.o.ext g3);go_wp2_with fail;refine (CB.o _).mono ?_;rintro e w4 ⟨rfl,g4⟩;have hz_w4:=g4.size;replace HE:=hid (HE.o.trans g4);replace HB_Z:=hid (HB_Z.o.ext g4);go_wp2_with fail;go_meet
        exact ⟨by rw [HC.o];simp,HE,HB_Z,fun h=>absurd (HC.o.symm.trans h) (by simp)⟩
      ·go_wp2_with fail;refine (CT.o _).mono ?_;rintro e w3 ⟨rfl,g3⟩;have hz_w3:=g3.size;replace HE:=hid (HE.o.trans g3);replace HB_Z:=hid (HB_Z.o.ext g3);go_wp2_with fail;refine (CB.o _).mono ?_;rintro e w4 ⟨rfl,g4⟩;have hz_w4:=g4.size;replace HE:=hid (HE.o.trans g4);replace HB_Z:=hid (HB_Z.o.ext g4);go_wp2_with fail;go_meet
       exact ⟨by rw [HC.o];simp,HE,HB_Z,fun h=>absurd (HC.o.symm.trans h) (by simp)⟩
   ·cases t0
    ·cases broken
     ·go_wp2_with fail;refine (CT.o _).mono ?_;rintro e w3 ⟨rfl,g3⟩;have hz_w3:=g3.size;replace HE:=hid (HE.o.trans g3);replace HB_Z:=hid (HB_Z.o.ext g3);go_wp2_with fail;go_meet
      exact ⟨by rw [HC.o];simp,HE,HB_Z,fun _=>hid ⟨by simp,by simp,by simp⟩⟩
     ·cases rb
      ·go_wp2_with fail;refine (CT.o _).mono ?_;rintro e w3 ⟨rfl,g3⟩;have hz_w3:=g3.size;replace HE:=hid (HE.o.trans g3);replace HB_Z:=hid (HB_Z.o.ext g3);go_wp2_with fail;refine (CB.o _).mono ?_;rintro e w4 ⟨rfl,g4⟩;have hz_w4:=g4.size;replace HE:=hid (HE.o.trans g4);replace HB_Z:=hid (HB_Z.o.ext g4);go_wp2_with fail;go_meet
       exact ⟨by rw [HC.o];simp,HE,HB_Z,fun h=>absurd (HC.o.symm.trans h) (by simp)⟩
      ·cases b0
       ·cases b1
        ·go_wp2_with fail;refine (CT.o _).mono ?_;rintro e w3 ⟨rfl,g3⟩;have hz_w3:=g3.size;replace HE:=hid (HE.o.trans g3);replace HB_Z:=hid (HB_Z.o.ext g3);go_wp2_with fail;refine (CB.o _).mono ?_;rintro e w4 ⟨rfl,g4⟩;have hz_w4:=g4.size;replace HE:=hid (HE.o.trans g4);replace HB_Z:=hid (HB_Z.o.ext g4);go_wp2_with fail;go_meet
         exact ⟨by rw [HC.o];simp,HE,HB_Z,fun _=>hid ⟨by simp,by simp,by simp⟩⟩
        ·go_wp2_with fail;refine (CT.o _).mono ?_;rintro e w3 ⟨rfl,g3⟩;have hz_w3:=g3.size;replace HE:=hid (HE.o.trans g3);replace HB_Z:=hid (HB_Z.o.ext g3);go_wp2_with fail;refine (CB.o _).mono ?_;rintro e w4 ⟨rfl,g4⟩;have hz_w4:=g4.size;replace HE:=hid (HE.o.trans g4);replace HB_Z:=hid (HB_Z.o.ext g4);go_wp2_with fail;go_meet
         exact ⟨by rw [HC.o];simp,HE,HB_Z,fun h=>absurd (HC.o.symm.trans h) (by simp)⟩
       ·go_wp2_with fail;refine (CT.o _).mono ?_;rintro e w3 ⟨rfl,g3⟩;have hz_w3:=g3.size;replace HE:=hid (HE.o.trans g3);replace HB_Z:=hid (HB_Z.o.ext g3);go_wp2_with fail;refine (CB.o _).mono ?_;rintro e w4 ⟨rfl,g4⟩;have hz_w4:=g4.size;replace HE:=hid (HE.o.trans g4);replace HB_Z:=hid (HB_Z.o.ext g4);go_wp2_with fail;go_meet
        exact ⟨by rw [HC.o];simp,HE,HB_Z,fun h=>absurd (HC.o.symm.trans h) (by simp)⟩
    ·go_wp2_with fail;refine (CT.o _).mono ?_;rintro e w3 ⟨rfl,g3⟩;have hz_w3:=g3.size;replace HE:=hid (HE.o.trans g3);replace HB_Z:=hid (HB_Z.o.ext g3);go_wp2_with fail;go_meet
     exact ⟨by rw [HC.o];simp,HE,HB_Z,fun h=>absurd (HC.o.symm.trans h) (by simp)⟩
 case rest =>
  obtain ⟨rfl,HE,HB_Z,HK⟩:=hcut
  cases cnd
  ·obtain ⟨hrt,hneg,hbr⟩:=(HK rfl).out;have HRT:=hid hrt;have HBR:=hid hbr;clear HK hrt hneg hbr et0 eb0 eb1;obtain ⟨n1,hn1⟩:∃ n,n=s1.length:=⟨_,rfl⟩;obtain ⟨n2,hn2⟩:∃ n,n=s2.length:=⟨_,rfl⟩;have e1:S1.size=n1:=by rw [E1.o,hn1]
   have e2:S2.size=n2:=by rw [E2.o,hn2]
   have HN1:=hid hn1;have HN2:=hid hn2;clear hn1 hn2
   by_cases hlen:2000<max n1 n2
   ·have hd:decide ((2000:Int)<max (n1:Int) (n2:Int))=true:=decide_eq_true (by omega);have HLEN:=hid hlen;clear hlen;obtain ⟨J1,J2,J3⟩:=HB_Z.o.c3;obtain ⟨U4,U5,U6⟩:=HB_Z.o.f3;go_wp2_with fail;clear J1 J2 J3 U4 U5 U6;obtain ⟨W3,hW3,g3,q3,B3,hy3,ho3⟩:=sto3 HE.o (by omega) HB_Z.o (by decide) (.bool false) (.slice none 0 0) (.slice none 0 0);rw [←hW3];clear hW3;replace HE:=hid g3;replace HB_Z:=hid B3;unfold ParsePost;have HR2:Hid (r=(0,3)):=hid (by rw [HR.o,if_neg (by decide),if_pos (by rw [←HN1.o,←HN2.o];exact HLEN.o)]);rw [HR2.o];obtain ⟨J7,J8,J9⟩:=HB_Z.o.c3;refine bodyPost_ret (v:=.tuple #[.agg #[.bool false,.slice none 0 0,.slice none 0 0],.int .i64 3]) (by simp [results,Tryz.results86,go_sem,J7,J8,J9]) rfl ⟨_,rfl,NumV.zero _,HE.o⟩
   ·have hd:decide ((2000:Int)<max (n1:Int) (n2:Int))=false:=decide_eq_false (by omega);have HLEN:=hid hlen;have hl1:n1≤2000:=by omega
    have hl2:n2≤2000:=by omega
    have CR1:=hid (CR1.o HRT.o (by rw [←HN1.o];exact hl1));have SM1:=hid (SM1.o HRT.o (by rw [←HN1.o];exact hl1));have HR0:Hid (r=if broken=false then (mkq neg (decV s1) 1,0) else if Nat.gcd (decV s1) (decV s2)=1 then (mkq neg (decV s1) (decV s2),0) else (0,6)):=hid (by rw [HR.o,if_neg (by decide),if_neg (by rw [←HN1.o,←HN2.o];exact HLEN.o)]);clear hlen HR
    cases broken
    ·have HR2:Hid (r=(mkq neg (decV s1) 1,0)):=hid (by rw [HR0.o,if_pos rfl]);clear HR0;go_wp2_with fail;refine (CR1.o _).mono ?_;rintro e w3 ⟨a1,k1,c1,rfl,m1,g3⟩;have hz_w3:=g3.size;replace HE:=hid (HE.o.trans g3);replace HB_Z:=hid (HB_Z.o.ext g3);go_wp2_with fail;refine (of_c 1 _ (by decide) (by decide)).mono ?_;rintro e w4 ⟨a2,k2,c2,rfl,m2,g4⟩;have hz_w4:=g4.size;replace HE:=hid (HE.o.trans g4);replace HB_Z:=hid (HB_Z.o.ext g4);replace m1:=m1.ext g4;go_wp2_with fail;refine (made_c neg _ _ (decV s1) 1 8000 _ m1 m2 SM1.o sm8000 (by decide) (by decide)).mono ?_;rintro e w5 ⟨v3,rfl,m3,g5⟩;have hz_w5:=g5.size;replace HE:=hid (HE.o.trans g5);replace HB_Z:=hid (HB_Z.o.ext g5);replace m1:=m1.ext g5;replace m2:=m2.ext g5;obtain ⟨ng3,a3,n3,c3,a3',n3',c3',rfl⟩:=m3.shape;obtain ⟨J1,J2,J3⟩:=HB_Z.o.c3;obtain ⟨U4,U5,U6⟩:=HB_Z.o.f3;go_wp2_with fail;clear J1 J2 J3 U4 U5 U6;obtain ⟨W6,hW6,g6,q6,B6,hy6,ho6⟩:=sto3 HE.o (by omega) HB_Z.o (by decide) (.bool ng3) (.slice a3 n3 c3) (.slice a3' n3' c3');rw [←hW6];clear hW6;replace HE:=hid g6;replace HB_Z:=hid B6;replace m1:=m1.keep q6;replace m2:=m2.keep q6;replace m3:=m3.keep q6;unfold ParsePost;rw [HR2.o];obtain ⟨J7,J8,J9⟩:=HB_Z.o.c3;refine bodyPost_ret (v:=.tuple #[.agg #[.bool ng3,.slice a3 n3 c3,.slice a3' n3' c3'],.int .i64 0]) (by simp [results,Tryz.results86,go_sem,J7,J8,J9]) rfl ⟨_,rfl,m3,HE.o⟩
    ·obtain ⟨hb,h0,h1⟩:=HBR.o rfl;have CR2:=hid (CR2.o hb (by rw [←HN2.o];exact hl2));have SM2:=hid (SM2.o hb (by rw [←HN2.o];exact hl2));have BG2:=hid (BG.o hb h0 h1);have HR1:Hid (r=if Nat.gcd (decV s1) (decV s2)=1 then (mkq neg (decV s1) (decV s2),0) else (0,6)):=hid (by rw [HR0.o,if_neg (by decide)]);clear HR0 hb h0 h1 HBR;go_wp2_with fail;refine (CR1.o _).mono ?_;rintro e w3 ⟨a1,k1,c1,rfl,m1,g3⟩;have hz_w3:=g3.size;replace HE:=hid (HE.o.trans g3);replace HB_Z:=hid (HB_Z.o.ext g3);go_wp2_with fail;refine (CR2.o _).mono ?_;rintro e w4 ⟨a2,k2,c2,rfl,m2,g4⟩;have hz_w4:=g4.size;replace HE:=hid (HE.o.trans g4);replace HB_Z:=hid (HB_Z.o.ext g4);replace m1:=m1.ext g4;go_wp2_with fail;refine (gcd_c _ _ (decV s1) (decV s2) 8000 _ m1 m2 SM1.o SM2.o (by decide)).mono ?_;rintro e w5 ⟨a3,k3,c3,rfl,m3,g5⟩;have hz_w5:=g5.size;replace HE:=hid (HE.o.trans g5);replace HB_Z:=hid (HB_Z.o.ext g5);replace m1:=m1.ext g5;replace m2:=m2.ext g5;go_wp2_with fail;refine (is1_c _ _ _ m3).mono ?_;rintro e w6 ⟨rfl,g6⟩;have hz_w6:=g6.size;replace HE:=hid (HE.o.trans g6);replace HB_Z:=hid (HB_Z.o.ext g6);replace m1:=m1.ext g6;replace m2:=m2.ext g6;replace m3:=m3.ext g6
     by_cases hg:Nat.gcd (decV s1) (decV s2)=1
     ·have hdg:decide (Nat.gcd (decV s1) (decV s2)=1)=true:=decide_eq_true hg;rw [hdg];have HR2:Hid (r=(mkq neg (decV s1) (decV s2),0)):=hid (by rw [HR1.o,if_pos hg]);have HG:=hid hg;clear hg hdg HR1;obtain ⟨J1,J2,J3⟩:=HB_Z.o.c3;obtain ⟨U4,U5,U6⟩:=HB_Z.o.f3;go_wp2_with fail;clear J1 J2 J3 U4 U5 U6;obtain ⟨W7,hW7,g7,q7,B7,hy7,ho7⟩:=sto3 HE.o (by omega) HB_Z.o (by decide) (.bool neg) (.slice a1 k1 c1) (.slice a2 k2 c2);rw [←hW7];clear hW7;replace HE:=hid g7;replace HB_Z:=hid B7;replace m1:=m1.keep q7;replace m2:=m2.keep q7;replace m3:=m3.keep q7;unfold ParsePost;rw [HR2.o];have hmk:=NumV.coprime neg m1 m2 BG2.o HG.o;obtain ⟨J7,J8,J9⟩:=HB_Z.o.c3;refine bodyPost_ret (v:=.tuple #[.agg #[.bool neg,.slice a1 k1 c1,.slice a2 k2 c2],.int .i64 0]) (by simp [results,Tryz.results86,go_sem,J7,J8,J9]) rfl ⟨_,rfl,hmk,HE.o⟩
     ·have hdg:decide (Nat.gcd (decV s1) (decV s2)=1)=false:=decide_eq_false hg;rw [hdg];have HR2:Hid (r=(0,6)):=hid (by rw [HR1.o,if_neg hg]);clear hg hdg HR1;obtain ⟨J1,J2,J3⟩:=HB_Z.o.c3;obtain ⟨U4,U5,U6⟩:=HB_Z.o.f3;go_wp2_with fail;clear J1 J2 J3 U4 U5 U6;obtain ⟨W7,hW7,g7,q7,B7,hy7,ho7⟩:=sto3 HE.o (by omega) HB_Z.o (by decide) (.bool false) (.slice none 0 0) (.slice none 0 0);rw [←hW7];clear hW7;replace HE:=hid g7;replace HB_Z:=hid B7;replace m1:=m1.keep q7;replace m2:=m2.keep q7;replace m3:=m3.keep q7;unfold ParsePost;rw [HR2.o];obtain ⟨J7,J8,J9⟩:=HB_Z.o.c3;refine bodyPost_ret (v:=.tuple #[.agg #[.bool false,.slice none 0 0,.slice none 0 0],.int .i64 6]) (by simp [results,Tryz.results86,go_sem,J7,J8,J9]) rfl ⟨_,rfl,NumV.zero _,HE.o⟩
  ·obtain ⟨J1,J2,J3⟩:=HB_Z.o.c3;obtain ⟨U4,U5,U6⟩:=HB_Z.o.f3;go_wp2_with fail;clear J1 J2 J3 U4 U5 U6;obtain ⟨W3,hW3,g3,q3,B3,hy3,ho3⟩:=sto3 HE.o (by omega) HB_Z.o (by decide) (.bool false) (.slice none 0 0) (.slice none 0 0);rw [←hW3];clear hW3;replace HE:=hid g3;replace HB_Z:=hid B3;unfold ParsePost;have HR2:Hid (r=(0,6)):=hid (by rw [HR.o];rfl);rw [HR2.o];obtain ⟨J7,J8,J9⟩:=HB_Z.o.c3;refine bodyPost_ret (v:=.tuple #[.agg #[.bool false,.slice none 0 0,.slice none 0 0],.int .i64 6]) (by simp [results,Tryz.results86,go_sem,J7,J8,J9]) rfl ⟨_,rfl,NumV.zero _,HE.o⟩
end Go.Proofs.YtoaoebimjmjpeaaGreatDoor
