/- A run of which everything is known: slices that grow. -/
import Derived.Laws.AppendOwn
import Derived.Test.YtoaoebimjmjpeaaGreatDoorT33
namespace Go.Proofs.YtoaoebimjmjpeaaGreatDoor
open Go.RowKit Vn
open Go.ChangeMaps (setBlock)
set_option maxRecDepth 100000
set_option maxHeartbeats 8000000
section
variable {P:Program} {O:Opq} {T:ZTs} {β:Nat→Option Nat} {w w0 w':World} {H:Nat→Option ZB} {V:Operand→ZX} {ev:Operand→Value} {nm:Nat} {o:Oper}
theorem ZH.name (Z:ZH O w0 β H w) {a:Nat} (hn:H nm=none) (h0:w0.heap.size≤a) (h1:a<w.heap.size) (hno:∀ b B,H b=some B→B.live=true→β b≠some a) {B:ZB} (r:ZBR O (upd β nm (some a)) w a B) :
  ZE O β (upd β nm (some a)) w w∧ZH O w0 (upd β nm (some a)) (upd H nm (some B)) w:=by
 have hb:β nm=none:=by
  cases e:β nm with
  | none=>rfl
  | some x=>have:=Z.nb nm x e;rw [hn] at this;cases this
 have E:ZE O β (upd β nm (some a)) w w:=ZE.more (Below.refl _ _) hb;have old:∀ b x,b≠nm→upd β nm (some a) b=some x→β b=some x:=fun b x hne e=>by rwa [upd_ne _ _ hne] at e
 refine ⟨E,fun b C e => ?_,fun b x e => ?_,fun b b' C C' x e e' l l' k k' => ?_,Z.ex,Z.iv⟩
 ·by_cases hbn:b=nm
  ·subst hbn;rw [upd_same] at e;cases e
   exact ⟨a,upd_same _ _ _,r,h0,h1⟩
  ·rw [upd_ne _ _ hbn] at e;obtain ⟨x,h1,h2,h3,h4⟩:=Z.bl b C e
   exact ⟨x,by rw [upd_ne _ _ hbn];exact h1,h2.ev E rfl,h3,h4⟩
 ·by_cases hbn:b=nm
  ·subst hbn;rw [upd_same];rfl
  ·rw [upd_ne _ _ hbn];exact Z.nb b x (old b x hbn e)
 ·by_cases hbn:b=nm
  ·by_cases hbn':b'=nm
   ·rw [hbn,hbn']
   ·subst hbn;rw [upd_same] at k;cases k;rw [upd_ne _ _ hbn'] at e'
    exact absurd (old b' _ hbn' k') (hno b' C' e' l')
  ·by_cases hbn':b'=nm
   ·subst hbn';rw [upd_same] at k';cases k';rw [upd_ne _ _ hbn] at e
    exact absurd (old b _ hbn k) (hno b C e l)
   ·rw [upd_ne _ _ hbn] at e;rw [upd_ne _ _ hbn'] at e'
    exact Z.inj b b' C C' x e e' l l' (old b x hbn k) (old b' x hbn' k')
theorem ZH.row (Z:ZH O w0 β H w) {b a U:Nat} {cs ds:List ZC} (hb:H b=some (.b U cs)) (ha:β b=some a) {cur new:Array Value} (hg:w.heap[a]?=some (.cells cur U (0,0))) (hsz:new.size=cur.size) (hU:O.box U=true) (r:ZE O β β w (w.setRow a new)→∃ vs ts:List Value,new=(vs++ts).toArray∧ZRs O β (w.setRow a new) ds vs) :
  ZE O β β w (w.setRow a new)∧ZH O w0 β (upd H b (some (.b U ds))) (w.setRow a new):=by
 have hnew:=setRow_heap w a cur new U (0,0) hg;have hk:∀ j,j≠a→(w.setRow a new).heap[j]?=w.heap[j]?:=fun j hj=>setRow_other w a j new hj;have E:ZE O β β w (w.setRow a new):=⟨fun _ _ h=>h,fun r=>O.row r hg hU (fun j _ hj=>hk j hj),fun {k c T fr} g1=>by
  by_cases e:k=a
  ·subst e;rw [hg] at g1;cases g1
   exact ⟨_,_,hnew,hsz⟩
  ·exact ⟨c,fr,by rw [hk k e];exact g1,rfl⟩⟩
 obtain ⟨vs,ts,e,r⟩:=r E
 exact ⟨E,Z.chg hb rfl ha hk (by simp [World.setRow]) rfl rfl rfl E ⟨vs,ts,by rw [hnew,e],r,hU⟩⟩
def zElems (x:ZX) (B:Option ZB) (wd:Nat):Option (Nat×List ZC):=match x,B with
 | .c (.s _ off n wd' _),some B=>match B.rd with
  | some cs=>cond (Nat.beq wd wd'&&Nat.ble (off+n*wd) cs.length) (some (n,(cs.drop off).take (n*wd))) none
  | none=>none
 | _,_=>none
theorem zElems_ok (Z:ZH O w0 β H w) {x:ZX} {b off n wd wd':Nat} {cap:Option Nat} (e1:x=.c (.s b off n wd' cap)) {B:Option ZB} (hB:B=H b) {m:Nat} {cs:List ZC} (h:zElems x B wd=some (m,cs)) {v:Value} (r:ZV O β w x v) :
  m=n∧wd=wd'∧∃ (a c:Nat) (vs:List Value),v=.slice (some ⟨a,off,none⟩) n c∧vs.length=n*wd∧(∀ (j:Nat) u,vs[j]?=some u→w.cell? ((⟨a,off,none⟩:Addr).add j)=some u)∧ZRs O β w cs vs:=by
 subst e1;unfold zElems at h
 split at h
 ·rename_i b' off' n' wd'' cap' B' e2
  cases e2
  split at h
  ·rename_i ds hds
   cases hc:Nat.beq wd wd'&&Nat.ble (off+n*wd) ds.length with
   | false=>rw [hc] at h;cases h
   | true =>
    rw [hc] at h;simp only [cond_true,Option.some.injEq,Prod.mk.injEq] at h;obtain ⟨rfl,rfl⟩:=h;simp only [Bool.and_eq_true,Nat.ble_eq] at hc;simp only [ZV,ZR] at r;obtain ⟨a,cp,c,T',fr,ha,ex,g,hs,hm,hn,hcap⟩:=r;obtain ⟨a',q1,q2,_⟩:=Z.bl b B' hB.symm;rw [ha] at q1;cases q1;obtain ⟨vs,ts,U,fr',g',rv⟩:=ZB.rd_ok hds q2;have hl:=rv.len;refine ⟨rfl,beq_t' hc.1,a,cp,(vs.drop off).take (n*wd),ex,by simp;omega,fun j u hj => ?_,(rv.drop off).take _⟩;rw [Addr.add_mid];rw [List.getElem?_take] at hj
    split at hj
    ·rw [List.getElem?_drop] at hj;have hl':=(List.getElem?_eq_some_iff.1 hj).1;simp only [World.cell?,g']
     simpa [List.getElem?_append_left hl'] using hj
    ·cases hj
  ·cases h
 ·cases h
def zBase (x:ZX):Option Nat:=match x with
 | .c (.s b _ _ _ _)=>some b
 | _=>none
def zAppend (O:Opq) (T:ZTs) (V:Operand→ZX) (nm:Nat) (t t':TypeId) (s x:Operand) (B B2:Option ZB):Option ZD:=match T t with
 | some y=>match y.d with
  | .slice e=>match T e with
   | some z=>cond (Nat.beq t t'&&O.box e&&Nat.blt 0 z.sz&&Nat.ble z.nb 4096) (match zElems (V x) B2 z.sz with
    | some (m,new)=>cond (Nat.blt 0 m&&Nat.ble m 1000000) (match V s with
     | .c (.v (.slice none 0 0))=>some ⟨.c (.s nm 0 m z.sz none),none,some (.b e new)⟩
     | .c (.s _ off n _ cap)=>match zElems (V s) B z.sz,B with
      | some (_,old),some (.b U _)=>cond (Nat.ble n 1000000&&Nat.beq U e) (match cap with
       | some c=>cond (Nat.blt c (n+m)) (some ⟨.c (.s nm 0 (n+m) z.sz none),none,some (.b e (old++new))⟩) none
       | none=>cond (Nat.beq off 0) (some ⟨.c (.s nm 0 (n+m) z.sz none),some .x,some (.b e (old++new))⟩) none) none
      | _,_=>none
     | _=>none) none
    | none=>none) none
   | none=>none
  | _=>none
 | none=>none
theorem zAppend_ok (TK:ZTOK P O T) (hV:∀ x,ZV O β w (V x) (ev x)) (Z:ZH O w0 β H w) (hn:H nm=none) {c:Call} (ho:o.op=.call c) (hc:c.callee=.builtin .append) {t t':TypeId} {s x:Operand} (ha:c.args=#[s,x]) (hat:c.argTypes=#[t,t']) {fp:Option Nat} (hfp:zBase (V s)=fp) {B B2:Option ZB} (hB:∀ b,zBase (V s)=some b→B=H b) (hB2:∀ b,zBase (V x)=some b→B2=H b) {r:ZD} (h:zAppend O T V nm t t' s x B B2=some r):ZOk P O w0 β H w fp nm r (execOp ev o):=by
 have hs:=hV s;have hx:=hV x;unfold zAppend at h
 split at h
 ·rename_i y ht
  have hu:=(TK t y ht).und
  split at h
  ·rename_i e hd
   rw [hd] at hu
   split at h
   ·rename_i z hz
    obtain ⟨ie,zz,i1,i2,i3,i4,i5,rz,_⟩:=(TK e z hz).inf
    cases hcnd:Nat.beq t t'&&O.box e&&Nat.blt 0 z.sz&&Nat.ble z.nb 4096 with
    | false=>rw [hcnd] at h;cases h
    | true =>
     rw [hcnd] at h;simp only [cond_true] at h;simp only [Bool.and_eq_true,Nat.ble_eq,Nat.blt_eq] at hcnd;obtain ⟨⟨⟨htt,hbox⟩,hsz⟩,hnb⟩:=hcnd;have htt:=beq_t' htt;subst htt
     split at h
     ·rename_i m new hel
      cases hm:Nat.blt 0 m&&Nat.ble m 1000000 with
      | false=>rw [hm] at h;cases h
      | true =>
       rw [hm] at h;simp only [cond_true] at h;simp only [Bool.and_eq_true,Nat.ble_eq,Nat.blt_eq] at hm;obtain ⟨hm0,hm1⟩:=hm
       -- what is appended
       have src:∃ (a2:Addr) (c2:Nat) (vs:List Value),ev x=.slice (some a2) m c2∧vs.length=m*ie.size∧(∀ (j:Nat) u,vs[j]?=some u→w.cell? (a2.add j)=some u)∧ZRs O β w new vs:=by
        cases hvx:V x with
        | c cx =>
         cases cx with
         | s b2 off2 n2 wd2 cap2 =>
          obtain ⟨e1,_,a2,c2,vs,q1,q2,q3,q4⟩:=zElems_ok Z hvx (hB2 b2 (by rw [hvx];rfl)) hel hx;subst e1
          exact ⟨_,c2,vs,q1,by rw [i2];exact q2,q3,q4⟩
         | _=>rw [hvx] at hel;simp [zElems] at hel
        | _=>rw [hvx] at hel;simp [zElems] at hel
       obtain ⟨a2,c2,vs,ex,hvl,hnews,rnew⟩:=src;have hone:=rnew.all;have bytes:∀ k:Nat,k≤2000000→k*ie.bytes≤140737488355328:=fun k hk=>by
        have:=Nat.mul_le_mul hk (show ie.bytes≤4096 by omega)
        omega
       have exec:∀ {v:Value} {w':World},(Builtin.append_ #[t,t] o.type #[ev s,.slice (some a2) m c2]).run P w=.ok v w'→(execOp ev o).run P w=.ok (.value v) w':=by
        intro v w' hr
        unfold execOp
        simp [ho,resolve,hc,ha,hat,invoke,builtin,ex,hr]
       -- a new block
       have fresh:∀ {N gc:Nat} {cells:List ZC} {us:List Value} {w1:World},(execOp ev o).run P w=.ok (.value (.slice (some ⟨w.heap.size,0,none⟩) N gc)) w1→w1=w.drew.alloc (.cells (us++(Builtin.zeroCells zz.cells (gc-N)).toList).toArray e)→N≤gc→gc≤maxLen→us.length=N*z.sz→ZRs O β w cells us →
         ZOk P O w0 β H w fp nm ⟨.c (.s nm 0 N z.sz none),none,some (.b e cells)⟩ (execOp ev o):=by
        intro N gc cells us w1 hr hw1 hge hmx hul ru
        have hext:Ext w w1:=by rw [hw1];exact (Below.refl _ _).drew.alloc (Nat.le_refl _) _
        have hnew:w1.heap[w.heap.size]?=some (.cells (us++(Builtin.zeroCells zz.cells (gc-N)).toList).toArray e (0,0)):=by
         rw [hw1];exact (MapKept.heap_alloc w.drew _).1
        have hlt:w.heap.size<w1.heap.size:=cell_lt hnew;have hb:β nm=none:=by
         cases e:β nm with
         | none=>rfl
         | some x=>have:=Z.nb nm x e;rw [hn] at this;cases this
        obtain ⟨E,Z'⟩:=Z.new hn hext (Nat.le_refl _) hlt (B:=.b e cells) ⟨us,_,hnew,ZRs.ev (ZE.more hext hb) _ _ ru,hbox⟩;refine ⟨_,w1,_,.inl hr,E,Z',?_⟩;simp only [ZV,ZR];refine ⟨_,gc,_,e,(0,0),upd_same _ _ _,rfl,hnew,?_,hmx,hge,fun k hk=>by cases hk⟩
        simp [size_zeroCells,hul,i5,Nat.sub_mul]
        have:=Nat.mul_le_mul_right z.sz hge
        omega
       split at h
       ·rename_i es
        cases h
        have esv:=vV es hs;have hrun:=run_append_nil (P:=P) w t o.type e ie zz hu i1 i4 a2 m c2 vs hvl hnews hm0 (by omega) (by have:=bytes m (by omega);omega);refine fresh (us:=vs) (exec (by rw [esv];exact hrun)) (by congr 2;simp) (grownCap_ge w m 0 e) (grownCap_le_maxLen w m 0 e (by simp only [maxLen];omega)) (by rw [hvl,i2]) rnew
       ·rename_i b off n wdb cap es
        split at h
        ·rename_i n' old U cs hold
         cases hc2:Nat.ble n 1000000&&Nat.beq U e with
         | false=>rw [hc2] at h;cases h
         | true =>
          rw [hc2] at h;simp only [cond_true] at h;simp only [Bool.and_eq_true,Nat.ble_eq] at hc2;obtain ⟨hn1,hUe⟩:=hc2;have hUe:=beq_t' hUe;subst hUe;have hBb:=hB b (by rw [es];rfl);obtain ⟨e1,hwd,a1,c1,us,q1,q2,q3,q4⟩:=zElems_ok Z es hBb hold hs;subst e1;rw [es] at hs;simp only [ZV,ZR] at hs;obtain ⟨a,cp,cc,T',fr,hba,esv,hg,hroom,hmx,hncp,hcap⟩:=hs;rw [q1] at esv;obtain ⟨rfl,rfl⟩:a1=a∧c1=cp:=by
           cases esv;exact ⟨rfl,rfl⟩
          obtain ⟨a',p1,p2,p3,p4⟩:=Z.bl b _ hBb.symm;rw [hba] at p1;cases p1;obtain ⟨vs0,ts0,g0,rv0,_⟩:=p2;rw [hg] at g0;cases g0;have hlen:(us++vs).length=(n'+m)*z.sz:=by rw [List.length_append,q2,hvl,i2,Nat.add_mul]
          have grow:c1<n'+m→∃ gc w1,(execOp ev o).run P w=.ok (.value (.slice (some ⟨w.heap.size,0,none⟩) (n'+m) gc)) w1∧w1=w.drew.alloc (.cells ((us++vs)++(Builtin.zeroCells zz.cells (gc-(n'+m))).toList).toArray U)∧n'+m≤gc∧gc≤maxLen:=fun hlt=>by
           have hrun:=run_append_grow (P:=P) w t o.type U ie zz hu i1 i4 ⟨a1,off,none⟩ n' c1 us (by rw [q2,i2]) q3 a2 m c2 vs hvl hnews (by omega) (by omega) (growslice_fits (by omega) (bytes (n'+m) (by omega)));refine ⟨_,_,exec (by rw [q1];exact hrun),?_,grownCap_ge w (n'+m) c1 U,grownCap_le_maxLen w (n'+m) c1 U (by simp only [maxLen];omega)⟩
           congr 2;simp
          split at h
          ·rename_i k
           cases hlt:Nat.blt k (n'+m) with
           | false=>rw [hlt] at h;cases h
           | true =>
            rw [hlt] at h
            cases h
            simp only [Nat.blt_eq] at hlt;have hk:=hcap k rfl;subst hk;obtain ⟨gc,w1,r1,r2,r3,r4⟩:=grow hlt
            exact fresh r1 r2 r3 r4 hlen (q4.app rnew)
          ·cases ho0:Nat.beq off 0 with
           | false=>rw [ho0] at h;cases h
           | true =>
            rw [ho0] at h
            cases h
            have ho0:=beq_t' ho0;subst ho0;have hfp:fp=some b:=by rw [←hfp,es];rfl
            subst hfp
            by_cases hlt:c1<n'+m
            ·-- a new block;the old one is not asked any more
             obtain ⟨gc,w1,r1,r2,r3,r4⟩:=grow hlt;obtain ⟨v,w2,β2,h1,h2,h3,h4⟩:=fresh r1 r2 r3 r4 hlen (q4.app rnew);refine ⟨v,w2,β2,h1,h2,?_,h4⟩;have hne:b≠nm:=fun e=>by rw [←e,←hBb] at hn;cases hn
             have hk:=h3.kill (b:=b) (B:=.b U cs) (by show upd H nm _ b=_;rw [upd_ne _ _ hne];exact hBb.symm);have e3:upd (zPut H (some b) nm ⟨.c (.s nm 0 (n'+m) z.sz none),none,some (.b U (old++new))⟩) b (some .x)=zPut H (some b) nm ⟨.c (.s nm 0 (n'+m) z.sz none),some .x,some (.b U (old++new))⟩:=by
              show upd (upd H nm _) b _=upd (upd H b _) nm _
              exact upd_comm _ _ _ (Ne.symm hne)
             rw [e3] at hk;exact hk
            ·-- there is room
             subst hwd;have hfit:n'*ie.size+vs.length≤(vs0++ts0).toArray.size:=by
              rw [hvl,i2,←Nat.add_mul]
              have:=Nat.mul_le_mul_right z.sz (show n'+m≤c1 by omega)
              omega
             have hrun:=run_append_room (P:=P) w t o.type U ie hu i1 a1 n' c1 _ hg a2 m c2 vs hvl hnews hone (by omega) hfit;obtain ⟨new',hnew'⟩:∃ x,x=((vs0++ts0).toArray.toList.take (n'*ie.size)++vs++(vs0++ts0).toArray.toList.drop (n'*ie.size+vs.length)).toArray:=⟨_,rfl⟩;rw [←hnew'] at hrun;have hus:(vs0++ts0).toArray.toList.take (n'*ie.size)=us:=by
              apply List.ext_getElem?
              intro j
              rw [List.getElem?_take]
              by_cases hj:j<n'*ie.size
              ·rw [if_pos hj];have hju:j<us.length:=by rw [q2,←i2];exact hj
               have h1:=q3 j _ (List.getElem?_eq_getElem hju);rw [Addr.add_mid,Nat.zero_add] at h1;simp only [World.cell?,hg] at h1;rw [List.getElem?_eq_getElem hju,←h1]
               simp
              ·rw [if_neg hj,List.getElem?_eq_none (by rw [q2,←i2];omega)]
             have hns:new'.size=(vs0++ts0).toArray.size:=by
              have:((vs0++ts0).toArray.toList).length=(vs0++ts0).toArray.size:=by simp
              rw [hnew'];simp only [List.size_toArray,List.length_append,List.length_take,List.length_drop] at this hfit ⊢
              omega
             obtain ⟨E1,Z1⟩:=Z.row (ds:=old++new) hBb.symm hba hg hns hbox (fun E=>⟨us++vs,_,by rw [hnew',hus],ZRs.ev E _ _ (q4.app rnew)⟩);have hne:b≠nm:=fun e=>by rw [←e,←hBb] at hn;cases hn
             have Z2:=Z1.kill (b:=b) (B:=.b U (old++new)) (upd_same _ _ _);have eH:upd (upd H b (some (.b U (old++new)))) b (some .x)=upd H b (some .x):=by
              funext k
              by_cases hk:k=b
              ·rw [hk,upd_same,upd_same]
              ·rw [upd_ne _ _ hk,upd_ne _ _ hk,upd_ne _ _ hk]
             rw [eH] at Z2;have hnew2:=setRow_heap w a1 _ new' U (0,0) hg;have hn2:upd H b (some .x) nm=none:=by rw [upd_ne _ _ (Ne.symm hne)];exact hn
             have hbn:β nm=none:=by
              cases e:β nm with
              | none=>rfl
              | some x=>have:=Z.nb nm x e;rw [hn] at this;cases this
             obtain ⟨E3,Z3⟩:=Z2.name hn2 p3 (cell_lt hnew2) (fun b' B' hb' hl' hb''=>by
              by_cases e:b'=b
              ·subst e;rw [upd_same] at hb';cases hb';cases hl'
              ·rw [upd_ne _ _ e] at hb'
               exact e (Z.inj b' b B' _ a1 hb' hBb.symm hl' rfl hb'' hba)) (B:=.b U (old++new)) ⟨us++vs,_,by rw [hnew2,hnew',hus],ZRs.ev (E1.trans (ZE.more (Below.refl _ _) hbn)) _ _ (q4.app rnew),hbox⟩
             refine ⟨_,_,_,.inl (exec (by rw [q1];exact hrun)),E1.trans E3,Z3,?_⟩;simp only [ZV,ZR];refine ⟨a1,c1,_,U,(0,0),upd_same _ _ _,rfl,hnew2,?_,hmx,by omega,fun k hk=>by cases hk⟩;rw [hns];exact hroom
        ·cases h
       ·cases h
     ·cases h
   ·cases h
  ·cases h
 ·cases h
end
end Go.Proofs.YtoaoebimjmjpeaaGreatDoor
