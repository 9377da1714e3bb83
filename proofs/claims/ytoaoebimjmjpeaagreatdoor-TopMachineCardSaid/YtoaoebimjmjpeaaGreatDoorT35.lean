/- A run of which everything is known: the bytes of a text in a new block. -/
import Derived.Laws.IdiomStrings
import Derived.Test.YtoaoebimjmjpeaaGreatDoorT34
namespace Go.Proofs.YtoaoebimjmjpeaaGreatDoor
open Go.RowKit Vn
open Go.ChangeMaps (setBlock)
set_option maxRecDepth 100000
set_option maxHeartbeats 8000000
section
variable {P:Program} {O:Opq} {T:ZTs} {β:Nat→Option Nat} {w w0 w':World} {H:Nat→Option ZB} {V:Operand→ZX} {ev:Operand→Value} {nm:Nat} {o:Oper} {fp:Option Nat}
def zU8 (T:ZTs) (e:TypeId):Bool:=match T e with
 | some y=>match y.d with
  | .int .u8=>true
  | _=>false
 | none=>false
def zByte (b:Nat):ZC:=.v (.int .u8 (Int.ofNat b))
def zConvB (T:ZTs) (V:Operand→ZX) (nm:Nat) (s d:TypeId) (x:Operand):Option ZD:=match T s,T d with
 | some y,some z=>match y.d,z.d,V x with
  | .string,.slice e,.c (.w l)=>cond (zU8 T e&&Nat.ble l.length 1000000) (some ⟨.c (.s nm 0 l.length 1 none),none,some (.k e (l.map zByte))⟩) none
  | _,_,_=>none
 | _,_=>none
theorem zByte_rep:∀ (l:List Nat),(∀ n∈l,n<256)→ZRs O β w (l.map zByte) ((l.map UInt8.ofNat).map fun (b:UInt8)=>Value.int .u8 b.toNat)
 | [],_=>by simp only [List.map,ZRs]
 | n :: l,h=>by
  have hn:=h n (by simp);simp only [List.map,ZRs,zByte,ZR];refine ⟨⟨?_,rfl⟩,zByte_rep l (fun m hm=>h m (by simp [hm]))⟩
  have:(UInt8.ofNat n).toNat=n:=by simp;omega
  rw [this];rfl
theorem zConvB_ok (TK:ZTOK P O T) (hV:∀ x,ZV O β w (V x) (ev x)) (Z:ZH O w0 β H w) (hn:H nm=none) {s d:TypeId} {x:Operand} (ho:o.op=.convert s d x) {r:ZD} (h:zConvB T V nm s d x=some r):ZOk P O w0 β H w fp nm r (execOp ev o):=by
 have hx:=hV x;unfold zConvB at h
 split at h
 ·rename_i y z hs hd
  have us:=(TK s y hs).und;have ud:=(TK d z hd).und
  split at h<;>(try cases h)
  rename_i e l e1 e2 e3
  rw [e1] at us;rw [e2] at ud;rw [e3] at hx;simp only [ZV,ZR] at hx;obtain ⟨ex,hl⟩:=hx
  cases hc:zU8 T e&&Nat.ble l.length 1000000 with
  | false=>rw [hc] at h;cases h
  | true =>
   rw [hc] at h
   cases h
   simp only [Bool.and_eq_true,Nat.ble_eq] at hc;obtain ⟨hu8,hle⟩:=hc;have ue:P.underlying e=some (.int .u8):=by
    unfold zU8 at hu8
    split at hu8
    ·rename_i ye he
     have:=(TK e ye he).und
     split at hu8
     ·rename_i e4;rw [e4] at this;exact this
     ·cases hu8
    ·cases hu8
   have hrun:=run_bytes_of_string (P:=P) w s d e (zba l) us ud ue;obtain ⟨cp,hcp⟩:∃ cp,cp=grownCap w (zba l).size 0 e:=⟨_,rfl⟩;rw [←hcp] at hrun;have hge:l.length≤cp:=by rw [hcp,←zba_size l];exact grownCap_ge _ _ _ _
   have hmx:cp≤maxLen:=by rw [hcp];exact grownCap_le_maxLen _ _ _ _ (by rw [zba_size];simp only [maxLen];omega)
   have hrow:bytesRow (zba l) cp=(((l.map UInt8.ofNat).map fun (b:UInt8)=>Value.int .u8 b.toNat)++List.replicate (cp-l.length) (Value.int .u8 0)).toArray:=by
    unfold bytesRow;rw [zba_size]
    apply Array.toList_inj.1
    simp [zba]
   have hsz:(bytesRow (zba l) cp).size=cp:=by rw [hrow];simp;omega
   obtain ⟨fr,hfr⟩:∃ fr,fr=((bytesRow (zba l) cp).size,(bytesRow (zba l) cp).size+1):=⟨_,rfl⟩;rw [←hfr] at hrun;obtain ⟨w1,hw1⟩:∃ w1,w1=w.drew.alloc (.cells (bytesRow (zba l) cp) e fr):=⟨_,rfl⟩;rw [←hw1] at hrun;have hext:Ext w w1:=by rw [hw1];exact (Below.refl _ _).drew.alloc (Nat.le_refl _) _
   have hnew:w1.heap[w.heap.size]?=some (.cells (bytesRow (zba l) cp) e fr):=by
    rw [hw1];exact (MapKept.heap_alloc w.drew _).1
   have hlt:w.heap.size<w1.heap.size:=cell_lt hnew;have hb:β nm=none:=by
    cases e:β nm with
    | none=>rfl
    | some x=>have:=Z.nb nm x e;rw [hn] at this;cases this
   obtain ⟨E,Z'⟩:=Z.new hn hext (Nat.le_refl _) hlt (B:=.k e (l.map zByte)) ⟨_,_,fr,by rw [hnew,hrow],zByte_rep l hl⟩;refine ⟨.slice (some ⟨w.heap.size,0,none⟩) (zba l).size cp,w1,_,.inl ?_,E,Z',?_⟩
   ·unfold execOp
    simp [ho,ex,hrun]
   ·simp only [ZV,ZR];refine ⟨_,cp,_,e,fr,upd_same _ _ _,by rw [zba_size],hnew,?_,hmx,hge,fun k hk=>by cases hk⟩;rw [hsz];omega
 ·cases h
end
section
variable {P:Program} {O:Opq} {T:ZTs} {β:Nat→Option Nat} {w w0 w':World} {H:Nat→Option ZB} {V:Operand→ZX} {ev:Operand→Value} {nm:Nat} {o:Oper} {fp:Option Nat}
def zBuildSlice0 (O:Opq) (T:ZTs) (nm:Nat) (t:TypeId) (n:Nat) (ps:Array (Nat×Operand)):Option ZD:=match T t with
 | some y=>match y.d with
  | .slice e=>match T e with
   | some z=>match ps with
    | ⟨[]⟩=>cond (Nat.beq n 0&&O.box e) (some ⟨.c (.s nm 0 0 z.sz (some 0)),none,some (.b e [])⟩) none
    | _=>none
   | none=>none
  | _=>none
 | none=>none
theorem zBuildSlice0_ok (TK:ZTOK P O T) (Z:ZH O w0 β H w) (hn:H nm=none) {t:TypeId} {n:Nat} {ps:Array (Nat×Operand)} (ho:o.op=.buildSlice t n ps) {r:ZD} (h:zBuildSlice0 O T nm t n ps=some r):ZOk P O w0 β H w fp nm r (execOp ev o):=by
 unfold zBuildSlice0 at h
 split at h
 ·rename_i y ht
  have hu:=(TK t y ht).und
  split at h
  ·rename_i e hd
   rw [hd] at hu
   split at h
   ·rename_i z hz
    obtain ⟨ie,zz,i1,i2,_⟩:=(TK e z hz).inf
    split at h
    ·cases hc:Nat.beq n 0&&O.box e with
     | false=>rw [hc] at h;cases h
     | true =>
      rw [hc] at h
      cases h
      simp only [Bool.and_eq_true] at hc;have hn0:=beq_t' hc.1;subst hn0;refine ZOk.new Z hn (v:=.slice (some ⟨w.heap.size,0,none⟩) 0 0) (o:=.cells #[] e) ?_ fun β' E hβ hnew=>⟨⟨[],[],by simpa using hnew,by simp only [ZRs],hc.2⟩,?_⟩
      ·unfold execOp
       simp [ho,Instr.buildSlice,run_underlying hu,sizeOf,typeInfo,i1,Instr.fill,newRow]
       congr 2
       exact Array.eq_empty_of_size_eq_zero (by simp)
      ·simp only [ZV,ZR]
       exact ⟨_,0,_,e,(0,0),hβ,rfl,hnew,by simp,by simp [maxLen],Nat.le_refl _,fun j hj=>by cases hj;rfl⟩
    ·cases h
   ·cases h
  ·cases h
 ·cases h
def zNone:ZX→Bool
 | .c (.v (.slice none 0 0))=>true
 | .c .n=>true
 | .c (.s _ _ 0 _ _)=>true
 | _=>false
theorem zNone_ok {x:ZX} {v:Value} (h:zNone x=true) (r:ZV O β w x v):∃ b c,v=.slice b 0 c:=by
 unfold zNone at h
 split at h
 ·rename_i e;exact ⟨_,_,vV rfl r⟩
 ·simp only [ZV,ZR] at r;obtain ⟨a,cp,e,_⟩:=r
  exact ⟨_,_,e⟩
 ·simp only [ZV,ZR] at r;obtain ⟨a,cp,c,T,fr,_,e,_⟩:=r
  exact ⟨_,_,e⟩
 ·cases h
def zAppend0 (T:ZTs) (V:Operand→ZX) (t t':TypeId) (s x:Operand):Option ZD:=match T t with
 | some y=>match y.d with
  | .slice e=>match T e with
   | some _=>cond (Nat.beq t t'&&zNone (V x)) (match V s with
    | .c (.v (.slice none 0 0))=>some ⟨.c (.v (.slice none 0 0)),none,none⟩
    | .c .n=>some ⟨.c .n,none,none⟩
    | .c (.s b off n wd cap)=>some ⟨.c (.s b off n wd cap),none,none⟩
    | _=>none) none
   | none=>none
  | _=>none
 | none=>none
theorem run_append_none (w:World) {t ty e:TypeId} {ie:TypeInfo} (hu:P.underlying t=some (.slice e)) (hi:P.info? e=some ie) (b b':Option Addr) (n c c':Nat) (hc:n≤c) :
  (Builtin.append_ #[t,t] ty #[.slice b n c,.slice b' 0 c']).run P w=.ok (.slice b n c) w:=by
 have h1:(Builtin.firstCells ie.size 0 (.slice b' 0 c')).run P w=.ok #[] w:=by
  cases b'<;>simp [Builtin.firstCells,loadCells,loadCellsFrom]
 cases b<;>simp [Builtin.append_,run_underlying hu,sizeOf,typeInfo,hi,Builtin.lenOf,hc,h1,storeCells]
theorem zAppend0_ok (TK:ZTOK P O T) (hV:∀ x,ZV O β w (V x) (ev x)) (Z:ZH O w0 β H w) {c:Call} (ho:o.op=.call c) (hc:c.callee=.builtin .append) {t t':TypeId} {s x:Operand} (ha:c.args=#[s,x]) (hat:c.argTypes=#[t,t']) {r:ZD} (h:zAppend0 T V t t' s x=some r):ZOk P O w0 β H w fp nm r (execOp ev o):=by
 have hs:=hV s;have hx:=hV x;unfold zAppend0 at h
 split at h
 ·rename_i y ht
  have hu:=(TK t y ht).und
  split at h
  ·rename_i e hd
   rw [hd] at hu
   split at h
   ·rename_i z hz
    obtain ⟨ie,zz,i1,i2,_⟩:=(TK e z hz).inf
    cases hcnd:Nat.beq t t'&&zNone (V x) with
    | false=>rw [hcnd] at h;cases h
    | true =>
     rw [hcnd] at h;simp only [cond_true] at h;simp only [Bool.and_eq_true] at hcnd;have htt:=beq_t' hcnd.1;subst htt;obtain ⟨b',c',ex⟩:=zNone_ok hcnd.2 hx;have go:∀ {b:Option Addr} {n cc:Nat},ev s=.slice b n cc→n≤cc→r=⟨V s,none,none⟩→ZOk P O w0 β H w fp nm r (execOp ev o):=by
      intro b n cc es hn hr
      subst hr;refine ZOk.val Z (v:=ev s) ?_ hs;unfold execOp
      simp [ho,resolve,hc,ha,hat,invoke,builtin,ex,es,run_append_none w hu i1 b b' n cc c' hn]
     split at h
     ·rename_i e1
      cases h
      exact go (vV e1 hs) (Nat.le_refl _) (by rw [e1])
     ·rename_i e1
      cases h
      have h2:=hs;rw [e1] at h2;simp only [ZV,ZR] at h2;obtain ⟨a,cp,es,_⟩:=h2
      exact go es (Nat.zero_le _) (by rw [e1])
     ·rename_i b off n wd cap e1
      cases h
      have h2:=hs;rw [e1] at h2;simp only [ZV,ZR] at h2;obtain ⟨a,cp,cc,T',fr,_,es,_,_,_,hn,_⟩:=h2
      exact go es hn (by rw [e1])
     ·cases h
   ·cases h
  ·cases h
 ·cases h
end
section
variable {P:Program} {O:Opq} {T:ZTs} {β:Nat→Option Nat} {w w0 w':World} {H:Nat→Option ZB} {V:Operand→ZX} {ev:Operand→Value} {nm:Nat} {o:Oper}
def zFp (V:Operand→ZX) (op:Op):Option Nat:=match op with
 | .load _ x=>zAt (V x)
 | .store _ x _=>zAt (V x)
 | .lookup _ x _ _=>zAt (V x)
 | .mapUpdate _ x _ _=>zAt (V x)
 | .insert _ x _ _=>zAt (V x)
 | .slice _ x _ _ none=>zAt (V x)
 | .call c=>match c.callee,c.args.toList with
  | .builtin .append,s :: _=>zBase (V s)
  | _,_=>none
 | _=>none
def zFp2 (V:Operand→ZX) (op:Op):Option Nat:=match op with
 | .call c=>match c.callee,c.args.toList with
  | .builtin .append,_ :: x :: _=>zBase (V x)
  | _,_=>none
 | _=>none
def zOp (O:Opq) (T:ZTs) (V:Operand→ZX) (nm:Nat) (op:Op) (B B2:Option ZB):Option ZD:=match op with
 | .move x=>zMove V x
 | .assign x=>zMove V x
 | .pick c a b=>zPick V c a b
 | .alloc t=>zAlloc O T nm t
 | .box t x=>zBox O V nm t x
 | .build t ps=>zBuild T V t ps
 | .buildSlice t n ps=>match zBuildSlice O T V nm t n ps with
  | some r=>some r
  | none=>zBuildSlice0 O T nm t n ps
 | .load t x=>zLoad O T V t x B
 | .store t x y=>zStore T V t x y B
 | .nilCheck x=>zNil T V x
 | .binOp op t x y _=>zBin T V op t x y
 | .unOp op _ x=>zUn V op x
 | .convert s d x=>match zConv T V s d x with
  | some r=>some r
  | none=>zConvB T V nm s d x
 | .makeInterface t x=>zIface T V t x
 | .makeFunc fn fs cs=>zFunc V fn fs cs
 | .makeMap t none=>zMap T nm t
 | .makeSlice t l c=>zMake O T V nm t l c
 | .slice t x lo hi mx=>match zSlice T V t x lo hi mx,mx with
  | some r,_=>some r
  | none,none=>zSliceA T V t x lo hi B
  | none,some _=>none
 | .fieldAddr s x f=>zFieldAddr T V s x f
 | .field s x f=>zField T V s x f
 | .indexAddr t x i=>zIndexAddr T V t x i
 | .index t x i=>zIndex T V t x i
 | .lookup t x i ok=>zLookup T V t x i ok B
 | .mapUpdate t x i y=>zUpdate T V t x i y B
 | .insert t x i y=>zUpdate T V t x i y B
 | .typeAssert x _ t ok=>zAssert T V x t ok
 | .extract x i=>zExtract V x i
 | .call c=>match c.callee with
  | .builtin .append=>match c.args.toList,c.argTypes.toList with
   | [s,x],[t,t']=>match zAppend O T V nm t t' s x B B2 with
    | some r=>some r
    | none=>zAppend0 T V t t' s x
   | _,_=>none
  | .builtin b=>zBuiltin T V b c.argTypes.toList c.args.toList
  | _=>none
 | _=>none
theorem zOp_ok (TK:ZTOK P O T) (hV:∀ x,ZV O β w (V x) (ev x)) (hcv:∀ c,ev (.const c)=c) (Z:ZH O w0 β H w) (hn:H nm=none) {r:ZD} (h:zOp O T V nm o.op ((zFp V o.op).bind H) ((zFp2 V o.op).bind H)=some r):ZOk P O w0 β H w (zFp V o.op) nm r (execOp ev o):=by
 have bnd:∀ {x:Option Nat} b,x=some b→x.bind H=H b:=fun b e=>by rw [e];rfl
 cases ho:o.op<;>rw [ho] at h<;>simp only [zOp] at h<;>try (cases h;done)
 case move x=>exact zMove_ok hV Z (.inl ho) h
 case assign x=>exact zMove_ok hV Z (.inr ho) h
 case pick c x y=>exact zPick_ok hV Z ho h
 case alloc t=>exact zAlloc_ok TK Z hn ho h
 case box t x=>exact zBox_ok hV Z hn ho h
 case build t ps=>exact zBuild_ok TK hV Z ho h
 case buildSlice t n ps =>
  split at h
  ·rename_i r' hr
   cases h
   exact zBuildSlice_ok TK hV Z hn ho hr
  ·exact zBuildSlice0_ok TK Z hn ho h
 case load t x=>exact zLoad_ok TK hV Z ho (fun b e=>bnd b e) h
 case store t x y=>exact zStore_ok TK hV Z ho rfl (fun b e=>bnd b e) h
 case nilCheck x=>exact zNil_ok TK hV Z ho h
 case binOp op t x y u=>exact zBin_ok TK hV Z (fun c e=>by rw [e];exact hcv c) ho h
 case unOp op t x=>exact zUn_ok hV Z ho h
 case convert s d x =>
  split at h
  ·rename_i r' hr
   cases h
   exact zConv_ok TK hV Z ho hr
  ·exact zConvB_ok TK hV Z hn ho h
 case makeInterface t x=>exact zIface_ok TK hV Z ho h
 case makeFunc fn fs cs=>exact zFunc_ok hV Z ho h
 case makeMap t r =>
  cases r with
  | none=>exact zMap_ok Z hn ho h
  | some _=>cases h
 case makeSlice t l c=>exact zMake_ok TK hV Z hn ho h
 case slice t x lo hi mx =>
  split at h
  ·rename_i r' hr
   cases h
   exact zSlice_ok TK hV Z ho hr
  ·exact zSliceA_ok TK hV Z ho (fun b e=>bnd b e) h
  ·cases h
 case fieldAddr s x f=>exact zFieldAddr_ok TK hV Z ho h
 case field s x f=>exact zField_ok TK hV Z ho h
 case indexAddr t x i=>exact zIndexAddr_ok TK hV Z ho h
 case index t x i=>exact zIndex_ok TK hV Z ho h
 case lookup t x i ok=>exact zLookup_ok TK hV Z ho (fun b e=>bnd b e) h
 case mapUpdate t x i y=>exact zUpdate_ok TK hV Z (.inl ho) rfl (fun b e=>bnd b e) h
 case insert t x i y=>exact zUpdate_ok TK hV Z (.inr ho) rfl (fun b e=>bnd b e) h
 case typeAssert x s t ok=>exact zAssert_ok TK hV Z ho h
 case extract x i=>exact zExtract_ok hV Z ho h
 case call c =>
  split at h
  ·rename_i hc
   split at h
   ·rename_i s x t t' ha hat
    have e1:c.args=#[s,x]:=by rw [←Array.toList_inj];exact ha
    have e2:c.argTypes=#[t,t']:=by rw [←Array.toList_inj];exact hat
    have f1:zFp V (.call c)=zBase (V s):=by simp only [zFp,hc,ha]
    have f2:zFp2 V (.call c)=zBase (V x):=by simp only [zFp2,hc,ha]
    rw [f1,f2] at h;rw [f1]
    split at h
    ·rename_i r' hr
     cases h
     exact zAppend_ok TK hV Z hn ho hc e1 e2 rfl (fun b e=>bnd b e) (fun b e=>bnd b e) hr
    ·exact zAppend0_ok TK hV Z ho hc e1 e2 h
   ·cases h
  ·rename_i b hb hc
   have f1:zFp V (.call c)=none:=by
    simp only [zFp]
    split
    ·rename_i e _;rw [hc] at e;cases e;exact (hb rfl).elim
    ·rfl
   rw [f1]
   exact zBuiltin_ok TK hV Z ho hc h
  ·cases h
end
section
variable {O:Opq} {T:ZTs} {V V':Operand→ZX} {nm:Nat}
theorem zFill_congr (place:Nat→Option (Nat×Nat)):∀ (ps:List (Nat×Operand)) (cs:List ZC),(∀ p∈ps,V p.2=V' p.2)→zFill V place ps cs=zFill V' place ps cs
 | [],_,_=>rfl
 | (i,x) :: ps,cs,h=>by
  have h1:V x=V' x:=h (i,x) (by simp);simp only [zFill,h1];have ih:=fun cs=>zFill_congr place ps cs (fun p hp=>h p (by simp [hp]));simp only [ih]
theorem zCaps_congr:∀ (l:List Operand),(∀ x∈l,V x=V' x)→zCaps V l=zCaps V' l
 | [],_=>rfl
 | x :: l,h=>by
  have h1:V x=V' x:=h x (by simp);simp only [zCaps,h1,zCaps_congr l (fun y hy=>h y (by simp [hy]))]
theorem zBou_congr (l:List Operand) (h:∀ x∈l,V x=V' x):zBou V l=zBou V' l:=by
 unfold zBou
 split
 ·rename_i x
  simp only [h x (by simp)]
 ·rw [zCaps_congr l h]
theorem zOp_congr {op:Op} (h:∀ x∈op.operands,V x=V' x):(∀ B B2,zOp O T V nm op B B2=zOp O T V' nm op B B2)∧zFp V op=zFp V' op∧zFp2 V op=zFp2 V' op:=by
 cases op<;>simp only [Op.operands] at h<;>try (exact ⟨fun _ _=>rfl,rfl,rfl⟩)
 case move x=>have h1:=h x (by simp);exact ⟨fun _ _=>by simp only [zOp,zMove,h1],rfl,rfl⟩
 case assign x=>have h1:=h x (by simp);exact ⟨fun _ _=>by simp only [zOp,zMove,h1],rfl,rfl⟩
 case pick c a b=>have h1:=h c (by simp);have h2:=h a (by simp);have h3:=h b (by simp);exact ⟨fun _ _=>by simp only [zOp,zPick,h1,h2,h3],rfl,rfl⟩
 case box t x=>have h1:=h x (by simp);exact ⟨fun _ _=>by simp only [zOp,zBox,h1],rfl,rfl⟩
 case build t ps =>
  have h1:∀ p∈ps.toList,V p.2=V' p.2:=fun p hp=>h p.2 (by simp;exact ⟨p.1,by simpa using hp⟩)
  exact ⟨fun _ _=>by simp only [zOp,zBuild,zFill_congr _ _ _ h1],rfl,rfl⟩
 case buildSlice t n ps =>
  have h1:∀ p∈ps.toList,V p.2=V' p.2:=fun p hp=>h p.2 (by simp;exact ⟨p.1,by simpa using hp⟩)
  exact ⟨fun _ _=>by simp only [zOp,zBuildSlice,zFill_congr _ _ _ h1],rfl,rfl⟩
 case load t x=>have h1:=h x (by simp);exact ⟨fun _ _=>by simp only [zOp,zLoad,h1],by simp only [zFp,h1],rfl⟩
 case store t x y=>have h1:=h x (by simp);have h2:=h y (by simp);exact ⟨fun _ _=>by simp only [zOp,zStore,h1,h2],by simp only [zFp,h1],rfl⟩
 case nilCheck x=>have h1:=h x (by simp);exact ⟨fun _ _=>by simp only [zOp,zNil,h1],rfl,rfl⟩
 case binOp op t x y u=>have h1:=h x (by simp);have h2:=h y (by simp);exact ⟨fun _ _=>by simp only [zOp,zBin,h1,h2],rfl,rfl⟩
 case unOp op t x=>have h1:=h x (by simp);exact ⟨fun _ _=>by simp only [zOp,zUn,h1],rfl,rfl⟩
 case convert s d x=>have h1:=h x (by simp);exact ⟨fun _ _=>by simp only [zOp,zConv,zConvB,h1],rfl,rfl⟩
 case makeInterface t x=>have h1:=h x (by simp);exact ⟨fun _ _=>by simp only [zOp,zIface,h1],rfl,rfl⟩
 case makeFunc fn fs cs =>
  have h1:=zCaps_congr cs.toList (fun x hx=>h x (by simp;exact .inr (by simpa using hx)));have h2:=zBou_congr fs.toList (fun x hx=>h x (by simp;exact .inl (by simpa using hx)));refine ⟨fun _ _ => ?_,rfl,rfl⟩;simp only [zOp,zFunc,h1,h2]
  split
  ·rfl
  ·split
   ·rename_i x
    split
    ·rw [h x (by simp)]
    ·rfl
   ·rfl
  ·rfl
 case makeSlice t l c=>have h1:=h l (by simp);have h2:=h c (by simp);exact ⟨fun _ _=>by simp only [zOp,zMake,h1,h2],rfl,rfl⟩
 case slice t x lo hi mx =>
  have h1:=h x (by simp);have m:∀ {z:Option Operand},(∀ y,z=some y→V y=V' y)→z.map V=z.map V':=fun {z} hz=>by
   cases z with
   | none=>rfl
   | some y=>exact congrArg some (hz y rfl)
  have h2:lo.map V=lo.map V':=m fun y e=>h y (by subst e;simp);have h3:hi.map V=hi.map V':=m fun y e=>h y (by subst e;simp);have h4:mx.map V=mx.map V':=m fun y e=>h y (by subst e;simp)
  exact ⟨fun _ _=>by simp only [zOp,zSlice,zSliceA,h1,h2,h3,h4],by cases mx<;>simp only [zFp,h1],rfl⟩
 case fieldAddr s x f=>have h1:=h x (by simp);exact ⟨fun _ _=>by simp only [zOp,zFieldAddr,h1],rfl,rfl⟩
 case field s x f=>have h1:=h x (by simp);exact ⟨fun _ _=>by simp only [zOp,zField,h1],rfl,rfl⟩
 case indexAddr t x i=>have h1:=h x (by simp);have h2:=h i (by simp);exact ⟨fun _ _=>by simp only [zOp,zIndexAddr,h1,h2],rfl,rfl⟩
 case index t x i=>have h1:=h x (by simp);have h2:=h i (by simp);exact ⟨fun _ _=>by simp only [zOp,zIndex,h1,h2],rfl,rfl⟩
 case lookup t x i ok=>have h1:=h x (by simp);have h2:=h i (by simp);exact ⟨fun _ _=>by simp only [zOp,zLookup,h1,h2],by simp only [zFp,h1],rfl⟩
 case mapUpdate t x i y=>have h1:=h x (by simp);have h2:=h i (by simp);have h3:=h y (by simp);exact ⟨fun _ _=>by simp only [zOp,zUpdate,h1,h2,h3],by simp only [zFp,h1],rfl⟩
 case insert t x i y=>have h1:=h x (by simp);have h2:=h i (by simp);have h3:=h y (by simp);exact ⟨fun _ _=>by simp only [zOp,zUpdate,h1,h2,h3],by simp only [zFp,h1],rfl⟩
 case typeAssert x s t ok=>have h1:=h x (by simp);exact ⟨fun _ _=>by simp only [zOp,zAssert,h1],rfl,rfl⟩
 case extract x i=>have h1:=h x (by simp);exact ⟨fun _ _=>by simp only [zOp,zExtract,h1],rfl,rfl⟩
 case makeMap t r=>cases r<;>exact ⟨fun _ _=>rfl,rfl,rfl⟩
 case call c =>
  have ha:∀ x∈c.args.toList,V x=V' x:=fun x hx=>h x (by simp [Call.operands];exact .inr (by simpa using hx));have f1:zFp V (.call c)=zFp V' (.call c):=by
   simp only [zFp]
   split
   ·rename_i s _ _ e;rw [ha s (by rw [e];simp)]
   ·rfl
  have f2:zFp2 V (.call c)=zFp2 V' (.call c):=by
   simp only [zFp2]
   split
   ·rename_i _ x _ _ e;rw [ha x (by rw [e];simp)]
   ·rfl
  refine ⟨fun B B2 => ?_,f1,f2⟩;simp only [zOp]
  split
  ·split
   ·rename_i s x t t' e _
    have h1:=ha s (by rw [e];simp);have h2:=ha x (by rw [e];simp);simp only [zAppend,zAppend0,h1,h2]
   ·rfl
  ·unfold zBuiltin
   split
   ·rename_i t x _ e _ _
    have h1:=ha x (by rw [e];simp);simp only [zLen,h1]
   ·rename_i x y e _ _
    have h1:=ha x (by rw [e];simp);have h2:=ha y (by rw [e];simp);simp only [zMax,h1,h2]
   ·rename_i x y e _ _
    have h1:=ha x (by rw [e];simp);have h2:=ha y (by rw [e];simp);simp only [zMin,h1,h2]
   ·rfl
  ·rfl
end
structure ZSt where
 tr:ZT ZX
 h:ZT ZB
 n:Nat
/-! ### values brought out -/
def zFN (m:Nat):Option Nat:=match m with
 | 0=>some 0
 | k+1=>some (Nat.succ k)
theorem zFN_eq (m:Nat):zFN m=some m:=by cases m<;>rfl
def zFL:List Nat→Option (List Nat)
 | []=>some []
 | a :: l=>match zFN a,zFL l with
  | some a,some l=>some (a :: l)
  | _,_=>none
theorem zFL_eq:∀ l,zFL l=some l
 | []=>rfl
 | a :: l=>by simp only [zFL,zFN_eq,zFL_eq l]
mutual
def zFC:ZC→Option ZC
 | .v x=>match x with
  | .int k (.ofNat m)=>match zFN m with
   | some m=>some (.v (.int k (.ofNat m)))
   | none=>none
  | .int k (.negSucc m)=>match zFN m with
   | some m=>some (.v (.int k (.negSucc m)))
   | none=>none
  | .bool b=>match b with
   | true=>some (.v (.bool true))
   | false=>some (.v (.bool false))
  | x=>some (.v x)
 | .w l=>match zFL l with
  | some l=>some (.w l)
  | none=>none
 | .o k n=>match zFN n with
  | some n=>some (.o k n)
  | none=>none
 | .p b off=>match zFN b,zFN off with
  | some b,some off=>some (.p b off)
  | _,_=>none
 | .s b off n wd cap=>match zFN b,zFN off,zFN n,zFN wd with
  | some b,some off,some n,some wd=>match cap with
   | some c=>match zFN c with
    | some c=>some (.s b off n wd (some c))
    | none=>none
   | none=>some (.s b off n wd none)
  | _,_,_,_=>none
 | .n=>some .n
 | .m b=>match zFN b with
  | some b=>some (.m b)
  | none=>none
 | .f k ag fs cs=>match zFCs fs,zFCs cs with
  | some fs,some cs=>some (.f k ag fs cs)
  | _,_=>none
 | .y b=>match zFN b with
  | some b=>some (.y b)
  | none=>none
 | .i t ag cs=>match zFCs cs with
  | some cs=>some (.i t ag cs)
  | none=>none
 | .q name t ag cs=>match zFCs cs with
  | some cs=>some (.q name t ag cs)
  | none=>none
 | .u=>some .u
def zFCs:List ZC→Option (List ZC)
 | []=>some []
 | c :: l=>match zFC c,zFCs l with
  | some c,some l=>some (c :: l)
  | _,_=>none
end
mutual
theorem zFC_eq:∀ c,zFC c=some c
 | .v x=>by
  simp only [zFC]
  split<;>(try rfl)
  ·simp only [zFN_eq]
  ·simp only [zFN_eq]
  ·rename_i b;cases b<;>rfl
 | .w l=>by simp only [zFC,zFL_eq]
 | .o k n=>by simp only [zFC,zFN_eq]
 | .p b off=>by simp only [zFC,zFN_eq]
 | .s b off n wd cap=>by cases cap<;>simp only [zFC,zFN_eq]
 | .n=>rfl
 | .m b=>by simp only [zFC,zFN_eq]
 | .f k ag fs cs=>by simp only [zFC,zFCs_eq fs,zFCs_eq cs]
 | .y b=>by simp only [zFC,zFN_eq]
 | .i t ag cs=>by simp only [zFC,zFCs_eq cs]
 | .q name t ag cs=>by simp only [zFC,zFCs_eq cs]
 | .u=>rfl
theorem zFCs_eq:∀ l,zFCs l=some l
 | []=>rfl
 | c :: l=>by simp only [zFCs,zFC_eq c,zFCs_eq l]
end
mutual
def zFX:ZX→Option ZX
 | .c x=>match zFC x with
  | some x=>some (.c x)
  | none=>none
 | .g l=>match zFCs l with
  | some l=>some (.g l)
  | none=>none
 | .t l=>match zFXs l with
  | some l=>some (.t l)
  | none=>none
 | .j=>some .j
def zFXs:List ZX→Option (List ZX)
 | []=>some []
 | c :: l=>match zFX c,zFXs l with
  | some c,some l=>some (c :: l)
  | _,_=>none
end
mutual
theorem zFX_eq:∀ c,zFX c=some c
 | .c x=>by simp only [zFX,zFC_eq]
 | .g l=>by simp only [zFX,zFCs_eq]
 | .t l=>by simp only [zFX,zFXs_eq l]
 | .j=>rfl
theorem zFXs_eq:∀ l,zFXs l=some l
 | []=>rfl
 | c :: l=>by simp only [zFXs,zFX_eq c,zFXs_eq l]
end
def zFE:List (ZK×List ZC)→Option (List (ZK×List ZC))
 | []=>some []
 | (k,cs) :: l=>match zFCs cs,zFE l with
  | some cs,some l=>some ((k,cs) :: l)
  | _,_=>none
theorem zFE_eq:∀ l,zFE l=some l
 | []=>rfl
 | (k,cs) :: l=>by simp only [zFE,zFCs_eq,zFE_eq l]
def zFB:ZB→Option ZB
 | .b T cs=>match zFCs cs with
  | some cs=>some (.b T cs)
  | none=>none
 | .k T cs=>match zFCs cs with
  | some cs=>some (.k T cs)
  | none=>none
 | .m ag es=>match zFE es with
  | some es=>some (.m ag es)
  | none=>none
 | B=>some B
theorem zFB_eq (B:ZB):zFB B=some B:=by
 cases B<;>simp only [zFB,zFCs_eq,zFE_eq]
/-! ### several entries put -/
def zPuts {α:Type}:List (Nat×α)→ZT α→Option (ZT α)
 | [],t=>some t
 | (i,x) :: l,t=>match ZT.put 24 t i x with
  | some t=>zPuts l t
  | none=>none
theorem zPuts_one {α:Type} (i:Nat) (x:α):∀ (l:List (Nat×α)) (t:ZT α),(∀ p∈l,p.1≠i)→(ZT.put 24 t i x).bind (zPuts l)=(zPuts l t).bind (fun t=>ZT.put 24 t i x)
 | [],t,_=>by
  simp only [zPuts,Option.bind_some]
  cases ZT.put 24 t i x<;>rfl
 | (j,y) :: l,t,h=>by
  have hne:i≠j:=fun e=>h (j,y) (by simp) e.symm;have hc:=ZT.put_comm 24 t i j x y hne;have ih:=fun t=>zPuts_one i x l t (fun p hp=>h p (by simp [hp]));have e1:(ZT.put 24 t i x).bind (zPuts ((j,y) :: l))=((ZT.put 24 t i x).bind (fun t=>ZT.put 24 t j y)).bind (zPuts l):=by
   cases ZT.put 24 t i x with
   | none=>rfl
   | some t'=>simp only [Option.bind_some,zPuts];cases ZT.put 24 t' j y<;>rfl
  have e2:(zPuts ((j,y) :: l) t).bind (fun t=>ZT.put 24 t i x)=((ZT.put 24 t j y).bind (zPuts l)).bind (fun t=>ZT.put 24 t i x):=by
   simp only [zPuts];cases ZT.put 24 t j y<;>rfl
  rw [e1,e2,hc]
  cases ZT.put 24 t j y with
  | none=>rfl
  | some t'=>exact ih t'
theorem zPuts_comm {α:Type}:∀ (l m:List (Nat×α)) (t:ZT α),(∀ p∈l,∀ q∈m,p.1≠q.1)→(zPuts l t).bind (zPuts m)=(zPuts m t).bind (zPuts l)
 | [],m,t,_=>by
  simp only [zPuts,Option.bind_some]
  cases zPuts m t<;>rfl
 | (i,x) :: l,m,t,h=>by
  have h1:=zPuts_one i x m t (fun p hp e=>h (i,x) (by simp) p hp e.symm);have ih:=fun t=>zPuts_comm l m t (fun p hp=>h p (by simp [hp]));have e1:(zPuts ((i,x) :: l) t).bind (zPuts m)=(ZT.put 24 t i x).bind (fun t=>(zPuts l t).bind (zPuts m)):=by
   simp only [zPuts];cases ZT.put 24 t i x<;>rfl
  have e2:(zPuts m t).bind (zPuts ((i,x) :: l))=((zPuts m t).bind (fun t=>ZT.put 24 t i x)).bind (zPuts l):=by
   cases zPuts m t with
   | none=>rfl
   | some t'=>simp only [Option.bind_some,zPuts];cases ZT.put 24 t' i x<;>rfl
  rw [e1,e2,←h1]
  cases ZT.put 24 t i x with
  | none=>rfl
  | some t'=>exact ih t'
theorem zPuts_get {α:Type}:∀ (l:List (Nat×α)) (t t':ZT α),zPuts l t=some t'→t'.get=l.foldl (fun f p=>upd f p.1 (some p.2)) t.get
 | [],t,t',h=>by cases h;rfl
 | (i,x) :: l,t,t',h=>by
  simp only [zPuts] at h
  split at h
  ·rename_i t1 h1
   rw [zPuts_get l t1 t' h,ZT.put_ok _ _ _ _ _ h1];rfl
  ·cases h
/-! ### what an operation leaves -/
def zDs (d:Option Nat) (x:ZX):List (Nat×ZX):=match d with
 | some t=>[(t,x)]
 | none=>[]
def zWr (fp:Option Nat) (nm:Nat) (r:ZD):Option (List (Nat×ZB)):=match r.up,fp,r.nw with
 | none,_,none=>some []
 | none,_,some B=>match zFB B with
  | some B=>some [(nm,B)]
  | none=>none
 | some B,some b,none=>match zFB B with
  | some B=>some [(b,B)]
  | none=>none
 | some B,some b,some B2=>match zFB B,zFB B2 with
  | some B,some B2=>some [(b,B),(nm,B2)]
  | _,_=>none
 | some _,none,_=>none
def zApp (d:Option Nat) (fp:Option Nat) (nm:Nat) (r:ZD) (s:ZSt):Option ZSt:=match zFX r.x,zWr fp nm r with
 | some x,some l=>match zPuts (zDs d x) s.tr,zPuts l s.h with
  | some tr,some h=>some ⟨tr,h,s.n⟩
  | _,_=>none
 | _,_=>none
def updO (f:Nat→Option ZX) (d:Option Nat) (x:ZX):Nat→Option ZX:=match d with
 | some t=>upd f t (some x)
 | none=>f
theorem zApp_out {d fp:Option Nat} {nm:Nat} {r:ZD} {s s':ZSt} (h:zApp d fp nm r s=some s'):∃ l,zWr fp nm r=some l∧zPuts (zDs d r.x) s.tr=some s'.tr∧zPuts l s.h=some s'.h∧s'.n=s.n:=by
 unfold zApp at h;rw [zFX_eq] at h
 split at h
 ·rename_i x l hx hl
  cases hx
  split at h
  ·rename_i tr h1 e1 e2
   cases h
   exact ⟨l,hl,e1,e2,rfl⟩
  ·cases h
 ·cases h
theorem zApp_in {d fp:Option Nat} {nm:Nat} {r:ZD} {s s':ZSt} {l:List (Nat×ZB)} (h1:zWr fp nm r=some l) (h2:zPuts (zDs d r.x) s.tr=some s'.tr) (h3:zPuts l s.h=some s'.h) (h4:s'.n=s.n):zApp d fp nm r s=some s':=by
 unfold zApp;rw [zFX_eq,h1];simp only [h2,h3];rw [←h4]
theorem zApp_get {d fp:Option Nat} {nm:Nat} {r:ZD} {s s':ZSt} (h:zApp d fp nm r s=some s'):s'.tr.get=updO s.tr.get d r.x∧s'.h.get=zPut s.h.get fp nm r∧s'.n=s.n:=by
 obtain ⟨l,h1,h2,h3,h4⟩:=zApp_out h;have e1:=zPuts_get _ _ _ h2;have e2:=zPuts_get _ _ _ h3;refine ⟨by rw [e1];cases d<;>rfl,?_,h4⟩;rw [e2];unfold zWr at h1;obtain ⟨x,up,nw⟩:=r
 cases up<;>cases fp<;>cases nw<;>simp only [zFB_eq] at h1<;>first | (cases h1;rfl) | cases h1
def zKeys (fp:Option Nat) (nm:Nat) (r:ZD):List Nat:=(match r.up,fp with
 | some _,some b=>[b]
 | _,_=>[])++(match r.nw with
 | some _=>[nm]
 | none=>[])
theorem zWr_keys {fp:Option Nat} {nm:Nat} {r:ZD} {l:List (Nat×ZB)} (h:zWr fp nm r=some l):∀ p∈l,p.1∈zKeys fp nm r:=by
 unfold zWr at h;unfold zKeys;obtain ⟨x,up,nw⟩:=r
 cases up<;>cases fp<;>cases nw<;>simp only [zFB_eq] at h<;>first | (cases h;simp) | cases h
theorem zApp_comm {d d' fp fp':Option Nat} {nm nm':Nat} {r r':ZD} {s s1 s2:ZSt} (hd:∀ t,d=some t→d'≠some t) (hk:∀ b∈zKeys fp nm r,b ∉ zKeys fp' nm' r') (h1:zApp d fp nm r s=some s1) (h2:zApp d' fp' nm' r' s1=some s2) :
  ∃ s1',zApp d' fp' nm' r' s=some s1'∧zApp d fp nm r s1'=some s2:=by
 obtain ⟨l,a1,a2,a3,a4⟩:=zApp_out h1;obtain ⟨l',b1,b2,b3,b4⟩:=zApp_out h2;have c1:=zPuts_comm (zDs d r.x) (zDs d' r'.x) s.tr (fun p hp q hq e=>by
  cases d with
  | none=>simp [zDs] at hp
  | some t =>
   cases d' with
   | none=>simp [zDs] at hq
   | some t' =>
    simp only [zDs,List.mem_singleton] at hp hq;subst hp;subst hq
    exact hd t rfl (by rw [show t=t' from e]))
 have c2:=zPuts_comm l l' s.h (fun p hp q hq e=>hk _ (zWr_keys a1 p hp) (by rw [e];exact zWr_keys b1 q hq));rw [a2,Option.bind_some,b2] at c1;rw [a3,Option.bind_some,b3] at c2
 cases e1:zPuts (zDs d' r'.x) s.tr with
 | none=>rw [e1] at c1;cases c1
 | some tr' =>
  cases e2:zPuts l' s.h with
  | none=>rw [e2] at c2;cases c2
  | some h' =>
   rw [e1,Option.bind_some] at c1;rw [e2,Option.bind_some] at c2
   exact ⟨⟨tr',h',s.n⟩,zApp_in b1 e1 e2 rfl,zApp_in a1 c1.symm c2.symm (by rw [b4,a4])⟩
structure ZHd where
 ct:FuncId→List ZX→Option ZX
 im:TypeId→String→Option FuncId
 call:FuncId→List ZX→ZT ZB→Nat→Option (ZX×ZT ZB×Nat)
 yld:Nat→List ZX→ZT ZB→Nat→Option (ZX×ZT ZB×Nat)
inductive ZTg where
 | fn (k:FuncId) (xs:List ZX)
 | yl (b:Nat) (xs:List ZX)
def zTg (D:ZHd) (V:Operand→ZX) (c:Call):Option ZTg:=match c.callee with
 | .value f=>match V f with
  | .c (.v (.func (.func k) ⟨[]⟩ ⟨[]⟩))=>some (.fn k (c.args.toList.map V))
  | .c (.f k ag fs cs)=>some (.fn k (zBd ag fs++c.args.toList.map V++cs.map .c))
  | .c (.y b)=>some (.yl b (c.args.toList.map V))
  | _=>none
 | .invoke x name=>match V x with
  | .c (.i t ag cs)=>match D.im t name,zMk ag cs with
   | some k,some v=>some (.fn k (v :: c.args.toList.map V))
   | _,_=>none
  | _=>none
 | .builtin _=>none
def isBuiltin (c:Call):Bool:=match c.callee with
 | .builtin _=>true
 | _=>false
def zWant (ops:Array Oper) (o:Oper) (f:Nat→Option ZX):Option Bool:=match o.guard with
 | none=>some true
 | some (j,want)=>match (ops[j]?).bind (·.dst) with
  | some t=>match (f t).getD (.t []) with
   | .c (.v (.bool b))=>some (b==want)
   | .t _=>some false
   | _=>none
  | none=>none
/-! ### the same, told by a Bool -/
def zsL:List Nat→List Nat→Bool
 | [],[]=>true
 | a :: l,b :: m=>Nat.beq a b&&zsL l m
 | _,_=>false
def zsV:Value→Value→Bool
 | .int k (.ofNat m),.int k' (.ofNat m')=>decide (k=k')&&Nat.beq m m'
 | .int k (.negSucc m),.int k' (.negSucc m')=>decide (k=k')&&Nat.beq m m'
 | .bool true,.bool true=>true
 | .bool false,.bool false=>true
 | .pointer none,.pointer none=>true
 | .slice none 0 0,.slice none 0 0=>true
 | .map none,.map none=>true
 | .nilFunc,.nilFunc=>true
 | .nilIface,.nilIface=>true
 | .func (.func k) ⟨[]⟩ ⟨[]⟩,.func (.func k') ⟨[]⟩ ⟨[]⟩=>Nat.beq k k'
 | _,_=>false
def zsO:Option Nat→Option Nat→Bool
 | none,none=>true
 | some a,some b=>Nat.beq a b
 | _,_=>false
def zsBo:Bool→Bool→Bool
 | true,true=>true
 | false,false=>true
 | _,_=>false
mutual
def zsC:ZC→ZC→Bool
 | .v x,.v y=>zsV x y
 | .w l,.w m=>zsL l m
 | .o k n,.o k' n'=>Nat.beq k k'&&Nat.beq n n'
 | .p b o,.p b' o'=>Nat.beq b b'&&Nat.beq o o'
 | .s b o n w c,.s b' o' n' w' c'=>Nat.beq b b'&&Nat.beq o o'&&Nat.beq n n'&&Nat.beq w w'&&zsO c c'
 | .n,.n=>true
 | .m b,.m b'=>Nat.beq b b'
 | .f k ag fs cs,.f k' ag' fs' cs'=>Nat.beq k k'&&zsBo ag ag'&&zsCs fs fs'&&zsCs cs cs'
 | .y b,.y b'=>Nat.beq b b'
 | .i t ag cs,.i t' ag' cs'=>Nat.beq t t'&&zsBo ag ag'&&zsCs cs cs'
 | .u,.u=>true
 | _,_=>false
def zsCs:List ZC→List ZC→Bool
 | [],[]=>true
 | a :: l,b :: m=>zsC a b&&zsCs l m
 | _,_=>false
end
def zsK:ZK→ZK→Bool
 | .i p n,.i p' n'=>zsV (.int p n) (.int p' n')
 | .s l,.s m=>zsL l m
 | _,_=>false
def zsE:List (ZK×List ZC)→List (ZK×List ZC)→Bool
 | [],[]=>true
 | (k,cs) :: l,(k',cs') :: m=>zsK k k'&&zsCs cs cs'&&zsE l m
 | _,_=>false
def zsX:Option ZB→Option ZB→Bool
 | none,none=>true
 | some (.b T cs),some (.b T' cs')=>Nat.beq T T'&&zsCs cs cs'
 | some (.k T cs),some (.k T' cs')=>Nat.beq T T'&&zsCs cs cs'
 | some (.m ag es),some (.m ag' es')=>zsBo ag ag'&&zsE es es'
 | _,_=>false
theorem zsL_ok:∀ {l m:List Nat},zsL l m=true→l=m
 | [],[],_=>rfl
 | a :: l,b :: m,h=>by
  simp only [zsL,Bool.and_eq_true] at h;rw [beq_t' h.1,zsL_ok h.2]
 | [],_ :: _,h=>by cases h
 | _ :: _,[],h=>by cases h
theorem zsV_ok {x y:Value} (h:zsV x y=true):x=y:=by
 unfold zsV at h
 split at h<;>first | rfl | (simp only [Bool.and_eq_true,decide_eq_true_eq] at h;rw [h.1,beq_t' h.2]) | (rw [beq_t' h]) | cases h
theorem zsO_ok {x y:Option Nat} (h:zsO x y=true):x=y:=by
 unfold zsO at h
 split at h<;>first | rfl | (rw [beq_t' h]) | cases h
theorem zsBo_ok {x y:Bool} (h:zsBo x y=true):x=y:=by
 cases x<;>cases y<;>first | rfl | cases h
mutual
theorem zsC_ok:∀ (x y:ZC),zsC x y=true→x=y:=fun x y h=>by
 cases x<;>cases y<;>simp only [zsC,Bool.and_eq_true] at h<;>(try cases h;done)
 case v.v=>rw [zsV_ok h]
 case w.w=>rw [zsL_ok h]
 case o.o=>rw [beq_t' h.1,beq_t' h.2]
 case p.p=>rw [beq_t' h.1,beq_t' h.2]
 case s.s=>rw [beq_t' h.1.1.1.1,beq_t' h.1.1.1.2,beq_t' h.1.1.2,beq_t' h.1.2,zsO_ok h.2]
 case n.n=>rfl
 case m.m=>rw [beq_t' h]
 case f.f=>rw [beq_t' h.1.1.1,zsBo_ok h.1.1.2,zsCs_ok _ _ h.1.2,zsCs_ok _ _ h.2]
 case y.y=>rw [beq_t' h]
 case i.i=>rw [beq_t' h.1.1,zsBo_ok h.1.2,zsCs_ok _ _ h.2]
 case u.u=>rfl
theorem zsCs_ok:∀ (x y:List ZC),zsCs x y=true→x=y
 | [],[],_=>rfl
 | a :: l,b :: m,h=>by
  simp only [zsCs,Bool.and_eq_true] at h;rw [zsC_ok _ _ h.1,zsCs_ok _ _ h.2]
 | [],_ :: _,h=>by cases h
 | _ :: _,[],h=>by cases h
end
theorem zsK_ok {x y:ZK} (h:zsK x y=true):x=y:=by
 cases x<;>cases y<;>simp only [zsK] at h<;>(try cases h;done)
 ·cases zsV_ok h;rfl
 ·rw [zsL_ok h]
theorem zsE_ok:∀ (x y:List (ZK×List ZC)),zsE x y=true→x=y
 | [],[],_=>rfl
 | (k,cs) :: l,(k',cs') :: m,h=>by
  simp only [zsE,Bool.and_eq_true] at h;rw [zsK_ok h.1.1,zsCs_ok _ _ h.1.2,zsE_ok _ _ h.2]
 | [],_ :: _,h=>by cases h
 | _ :: _,[],h=>by cases h
theorem zsX_ok {x y:Option ZB} (h:zsX x y=true):x=y:=by
 unfold zsX at h
 split at h<;>first | rfl | (simp only [Bool.and_eq_true] at h;rw [beq_t' h.1,zsCs_ok _ _ h.2]) | (simp only [Bool.and_eq_true] at h;rw [zsBo_ok h.1,zsE_ok _ _ h.2]) | cases h
inductive ZEf where
 | d (fp fp2:Option Nat) (nm:Nat) (r:ZD)
 | k (x:ZX) (h:ZT ZB) (n:Nat) (kp:Nat→Bool)
def zDo (O:Opq) (T:ZTs) (V:Operand→ZX) (nm:Nat) (op:Op) (H:Nat→Option ZB):Option ZEf:=match zOp O T V nm op ((zFp V op).bind H) ((zFp2 V op).bind H) with
 | some r=>cond (r.up.isNone||((zFp V op).bind H).isSome) (some (.d (zFp V op) (zFp2 V op) nm r)) none
 | none=>none
def zEf (O:Opq) (T:ZTs) (D:ZHd) (ops:Array Oper) (nm:Nat) (o:Oper) (s:ZSt):Option ZEf:=match zWant ops o s.tr.get with
 | none=>none
 | some false=>some (.d none none 0 ⟨.t [],none,none⟩)
 | some true=>match o.op with
  | .call c=>match isBuiltin c with
   | true=>zDo O T (zE s.tr.get) nm o.op s.h.get
   | false=>match zTg D (zE s.tr.get) c with
    | some (.fn k xs)=>match D.ct k xs with
     | some r=>some (.d none none 0 ⟨r,none,none⟩)
     | none=>match D.call k xs s.h s.n with
      | some (x,h,n)=>some (.k x h n (fun b=>zsX (s.h.get b) (h.get b)))
      | none=>none
    | some (.yl b xs)=>match D.yld b xs s.h s.n with
     | some (x,h,n)=>some (.k x h n (fun b=>zsX (s.h.get b) (h.get b)))
     | none=>none
    | none=>none
  | op=>zDo O T (zE s.tr.get) nm op s.h.get
def zAp (d:Option Nat) (e:ZEf) (s:ZSt):Option ZSt:=match e with
 | .d fp _ nm r=>zApp d fp nm r s
 | .k x h n _=>zApp d none 0 ⟨x,none,none⟩ ⟨s.tr,h,n⟩
structure ZA where
 fp:Option Nat
 fp2:Option Nat
 ks:List Nat
 cl:Option (Nat→Bool)
def ZEf.ac:ZEf→ZA
 | .d fp fp2 nm r=>⟨fp,fp2,zKeys fp nm r,none⟩
 | .k _ _ _ kp=>⟨none,none,[],some kp⟩
def zSt (O:Opq) (T:ZTs) (D:ZHd) (ops:Array Oper) (nm:Nat) (o:Oper) (s:ZSt):Option (ZSt×ZA):=match zEf O T D ops nm o s with
 | some e=>match zAp o.dst e s with
  | some s'=>some (s',e.ac)
  | none=>none
 | none=>none
/-! ### two operations that do not meet -/
def kpO (kp:Nat→Bool):Option Nat→Bool
 | none=>true
 | some b=>kp b
def clOk (c:Option (Nat→Bool)) (a:ZA):Bool:=match c with
 | none=>true
 | some kp=>a.ks.isEmpty&&a.cl.isNone&&kpO kp a.fp&&kpO kp a.fp2
def nmem (b:Nat):List Nat→Bool
 | []=>true
 | x :: l=>cond (Nat.beq b x) false (nmem b l)
def nopt (b:Option Nat) (l:List Nat):Bool:=match b with
 | none=>true
 | some b=>nmem b l
def apartM (a b:ZA):Bool:=clOk a.cl b&&clOk b.cl a&&a.ks.all (fun k=>nmem k b.ks)&&nopt a.fp b.ks&&nopt a.fp2 b.ks&&nopt b.fp a.ks&&nopt b.fp2 a.ks
theorem nmem_ok {b:Nat}:∀ {l:List Nat},nmem b l=true→b ∉ l
 | [],_=>by simp
 | x :: l,h=>by
  simp only [nmem] at h
  cases hb:Nat.beq b x with
  | true=>rw [hb] at h;cases h
  | false =>
   rw [hb] at h;simp only [cond_false] at h;simp only [List.mem_cons,not_or]
   exact ⟨beq_f' hb,nmem_ok h⟩
theorem nopt_ok {b:Option Nat} {l:List Nat} (h:nopt b l=true):∀ x,b=some x→x ∉ l:=fun x e=>by
 subst e;exact nmem_ok h
section
variable {O:Opq} {T:ZTs} {D:ZHd} {ops:Array Oper}
structure Alike (ops:Array Oper) (o:Oper) (s s':ZSt):Prop where
 sl:∀ t∈o.looksAt ops,s'.tr.get t=s.tr.get t
theorem alike_V {o:Oper} {s s':ZSt} (h:Alike ops o s s'):∀ x∈o.op.operands,zE s'.tr.get x=zE s.tr.get x:=fun x hx=>by
 cases x with
 | tmp t =>
  have:=h.sl t (by unfold Oper.looksAt;exact List.mem_append_left _ (List.mem_filterMap.2 ⟨.tmp t,by simpa using hx,rfl⟩))
  simp only [zE,this]
 | _=>rfl
theorem alike_want {o:Oper} {s s':ZSt} (h:Alike ops o s s'):zWant ops o s'.tr.get=zWant ops o s.tr.get:=by
 unfold zWant
 cases hg:o.guard with
 | none=>rfl
 | some gw =>
  obtain ⟨j,want⟩:=gw;simp only []
  cases ht:(ops[j]?).bind (·.dst) with
  | none=>rfl
  | some t =>
   have:=h.sl t (by unfold Oper.looksAt;rw [hg];simp only [ht];simp)
   simp only [this]
theorem zTg_congr {V V':Operand→ZX} {c:Call} (h:∀ x∈(Op.call c).operands,V x=V' x):zTg D V c=zTg D V' c:=by
 simp only [Op.operands] at h;have ha:c.args.toList.map V=c.args.toList.map V':=List.map_congr_left fun x hx=>h x (by simp [Call.operands];exact .inr (by simpa using hx));unfold zTg
 cases hc:c.callee with
 | value f=>have h1:=h f (by simp [Call.operands,hc]);simp only [h1,ha]
 | invoke x name=>have h1:=h x (by simp [Call.operands,hc]);simp only [h1,ha]
 | builtin b=>rfl
theorem zEf_d {nm:Nat} {o:Oper} {s s':ZSt} {fp fp2:Option Nat} {nm':Nat} {r:ZD} (h:zEf O T D ops nm o s=some (.d fp fp2 nm' r)) (A:Alike ops o s s') (h1:∀ b,fp=some b→s'.h.get b=s.h.get b) (h2:∀ b,fp2=some b→s'.h.get b=s.h.get b):zEf O T D ops nm o s'=some (.d fp fp2 nm' r):=by
 have hV:=alike_V A;have hw:=alike_want A;have bnd:∀ {x:Option Nat},(∀ b,x=some b→s'.h.get b=s.h.get b)→x.bind s'.h.get=x.bind s.h.get:=fun {x} hx=>by
  cases x with
  | none=>rfl
  | some b=>exact hx b rfl
 have core:∀ op,o.op=op→zDo O T (zE s.tr.get) nm op s.h.get=some (.d fp fp2 nm' r)→zDo O T (zE s'.tr.get) nm op s'.h.get=some (.d fp fp2 nm' r):=by
  intro op ho h
  rw [ho] at hV;obtain ⟨c1,c2,c3⟩:=zOp_congr (O:=O) (T:=T) (nm:=nm) hV;unfold zDo at h ⊢;rw [c1,c2,c3]
  split at h
  ·rename_i r' hr
   cases hc:r'.up.isNone||((zFp (zE s.tr.get) op).bind s.h.get).isSome with
   | false=>rw [hc] at h;cases h
   | true =>
    have hc':=hc;rw [hc] at h
    cases h
    rw [bnd h1,bnd h2,hr];simp only [hc',cond_true]
  ·cases h
 unfold zEf at h ⊢;rw [hw]
 split at h
 ·cases h
 ·exact h
 ·split at h
  ·rename_i c hop
   cases hb:isBuiltin c with
   | true =>
    rw [hb] at h;simp only [] at h ⊢;rw [hop] at h ⊢
    exact core _ hop h
   | false =>
    rw [hb] at h;simp only [] at h ⊢;have hV':∀ x∈(Op.call c).operands,zE s'.tr.get x=zE s.tr.get x:=by rw [←hop];exact hV
    rw [zTg_congr hV']
    split at h
    ·rename_i k xs hk
     split at h
     ·rename_i r' hr
      exact h
     ·split at h<;>cases h
    ·split at h<;>cases h
    ·cases h
  ·rename_i op hop hne
   exact core _ rfl h
theorem zEf_kp {nm:Nat} {o:Oper} {s:ZSt} {x:ZX} {h0:ZT ZB} {n0:Nat} {kp:Nat→Bool} (h:zEf O T D ops nm o s=some (.k x h0 n0 kp)) {b:Nat} (hk:kp b=true):s.h.get b=h0.get b:=by
 have core:∀ op,zDo O T (zE s.tr.get) nm op s.h.get=some (.k x h0 n0 kp)→False:=fun op h=>by
  unfold zDo at h
  split at h
  ·rename_i r _
   cases hc:r.up.isNone||((zFp (zE s.tr.get) op).bind s.h.get).isSome<;>rw [hc] at h<;>cases h
  ·cases h
 unfold zEf at h
 split at h
 ·cases h
 ·cases h
 ·split at h
  ·rename_i c hop
   cases hb:isBuiltin c with
   | true=>rw [hb] at h;exact (core _ h).elim
   | false =>
    rw [hb] at h;simp only [] at h
    split at h
    ·split at h
     ·cases h
     ·split at h
      ·cases h;exact zsX_ok hk
      ·cases h
    ·split at h
     ·cases h;exact zsX_ok hk
     ·cases h
    ·cases h
  ·exact (core _ h).elim
theorem zEf_k {nm:Nat} {o:Oper} {s s':ZSt} {x:ZX} {h0:ZT ZB} {n0:Nat} {kp:Nat→Bool} (h:zEf O T D ops nm o s=some (.k x h0 n0 kp)) (A:Alike ops o s s') (h1:s'.h=s.h) (h2:s'.n=s.n):zEf O T D ops nm o s'=some (.k x h0 n0 kp):=by
 have hV:=alike_V A;have hw:=alike_want A;unfold zEf at h ⊢;rw [hw]
 split at h
 ·cases h
 ·cases h
 ·split at h
  ·rename_i c hop
   cases hb:isBuiltin c with
   | true =>
    rw [hb] at h;simp only [] at h;unfold zDo at h
    split at h
    ·rename_i r _
     cases hc:r.up.isNone||((zFp (zE s.tr.get) o.op).bind s.h.get).isSome<;>rw [hc] at h<;>cases h
    ·cases h
   | false =>
    rw [hb] at h;simp only [] at h ⊢;have hV':∀ x∈(Op.call c).operands,zE s'.tr.get x=zE s.tr.get x:=by rw [←hop];exact hV
    rw [zTg_congr hV',h1,h2]
    exact h
  ·unfold zDo at h
   split at h
   ·rename_i r _
    cases hc:r.up.isNone||((zFp (zE s.tr.get) o.op).bind s.h.get).isSome<;>rw [hc] at h<;>cases h
   ·cases h
end
section
variable {O:Opq} {T:ZTs} {D:ZHd} {ops:Array Oper}
theorem zAp_tr {d:Option Nat} {e:ZEf} {s s':ZSt} (h:zAp d e s=some s'):∃ v,s'.tr.get=updO s.tr.get d v:=by
 cases e with
 | d fp fp2 nm r=>exact ⟨_,(zApp_get h).1⟩
 | k x h0 n0=>exact ⟨_,(zApp_get h).1⟩
theorem updO_ne {f:Nat→Option ZX} {d:Option Nat} {x:ZX} {t:Nat} (h:d≠some t):updO f d x t=f t:=by
 cases d with
 | none=>rfl
 | some u=>exact upd_ne _ _ (fun e=>h (by rw [e]))
theorem zPut_ne {H:Nat→Option ZB} {fp:Option Nat} {nm:Nat} {r:ZD} {b:Nat} (h:b ∉ zKeys fp nm r):zPut H fp nm r b=H b:=by
 obtain ⟨x,up,nw⟩:=r;unfold zKeys at h;unfold zPut
 cases up<;>cases fp<;>cases nw<;>simp only [List.append_nil,List.nil_append,List.mem_cons,List.mem_append,List.not_mem_nil,or_false,not_or] at h<;>simp only []
 ·exact upd_ne _ _ h
 ·exact upd_ne _ _ h
 ·exact upd_ne _ _ h
 ·exact upd_ne _ _ h
 ·rw [upd_ne _ _ h.2,upd_ne _ _ h.1]
theorem alike_of {y:Oper} {s s1:ZSt} {d:Option Nat} {v:ZX} (h:s1.tr.get=updO s.tr.get d v) (hd:∀ t,d=some t→t ∉ y.looksAt ops):Alike ops y s1 s:=⟨fun t ht=>by
 rw [h,updO_ne]
 intro e;exact hd t e ht⟩
theorem alike_to {y:Oper} {s s1:ZSt} {d:Option Nat} {v:ZX} (h:s1.tr.get=updO s.tr.get d v) (hd:∀ t,d=some t→t ∉ y.looksAt ops):Alike ops y s s1:=⟨fun t ht=>by
 rw [h,updO_ne]
 intro e;exact hd t e ht⟩
theorem zWr_nil {fp:Option Nat} {nm:Nat} {r:ZD} {l:List (Nat×ZB)} (h:zWr fp nm r=some l) (hk:zKeys fp nm r=[]):l=[]:=by
 cases l with
 | nil=>rfl
 | cons p l=>have:=zWr_keys h p (by simp);rw [hk] at this;cases this
theorem zApp_quiet {d fp:Option Nat} {nm:Nat} {r:ZD} {s s':ZSt} (h:zApp d fp nm r s=some s') (hk:zKeys fp nm r=[]):s'.h=s.h∧s'.n=s.n∧∀ h0 n0,zApp d fp nm r ⟨s.tr,h0,n0⟩=some ⟨s'.tr,h0,n0⟩:=by
 obtain ⟨l,a1,a2,a3,a4⟩:=zApp_out h
 have:=zWr_nil a1 hk
 subst this
 exact ⟨(Option.some.inj a3).symm,a4,fun h0 n0=>zApp_in a1 a2 rfl rfl⟩
theorem clOk_out {kp:Nat→Bool} {a:ZA} (h:clOk (some kp) a=true):(∀ b,a.fp=some b→kp b=true)∧(∀ b,a.fp2=some b→kp b=true)∧a.ks=[]∧a.cl=none:=by
 simp only [clOk,Bool.and_eq_true,Option.isNone_iff_eq_none,List.isEmpty_iff] at h
 exact ⟨fun b e=>by have:=h.1.2;rw [e] at this;exact this,fun b e=>by have:=h.2;rw [e] at this;exact this,h.1.1.1,h.1.1.2⟩
theorem zSwap {nx ny:Nat} {x y:Oper} {s s1 s2:ZSt} {ax ay:ZA} (hap:x.apart ops y=true) (ham:apartM ax ay=true) (h1:zSt O T D ops nx x s=some (s1,ax)) (h2:zSt O T D ops ny y s1=some (s2,ay)) :
  ∃ s1',zSt O T D ops ny y s=some (s1',ay)∧zSt O T D ops nx x s1'=some (s2,ax):=by
 obtain ⟨p1,p2,p3⟩:=Oper.apart_spec hap;simp only [apartM,Bool.and_eq_true,List.all_eq_true] at ham;obtain ⟨⟨⟨⟨⟨⟨m1,m2⟩,m3⟩,m4⟩,m5⟩,m6⟩,m7⟩:=ham;unfold zSt at h1 h2
 split at h1
 ·rename_i Ex hEx
  split at h1
  ·rename_i t1 ht1
   cases h1
   split at h2
   ·rename_i Ey hEy
    split at h2
    ·rename_i t2 ht2
     cases h2
     obtain ⟨v1,g1⟩:=zAp_tr ht1;have Ay:Alike ops y s1 s:=alike_of g1 p1;have fin:∀ {s1':ZSt},zEf O T D ops ny y s=some Ey→zAp y.dst Ey s=some s1'→zEf O T D ops nx x s1'=some Ex→zAp x.dst Ex s1'=some s2→∃ s1',zSt O T D ops ny y s=some (s1',Ey.ac)∧zSt O T D ops nx x s1'=some (s2,Ex.ac):=fun {s1'} q1 q2 q3 q4 =>
      ⟨s1',by unfold zSt;simp only [q1,q2],by unfold zSt;simp only [q3,q4]⟩
     cases hy:Ey with
     | k y0 h0 n0 kp =>
      subst hy;have hq:clOk (some kp) Ex.ac=true:=m2
      cases hx:Ex with
      | k x0 h1 n1 kp1=>subst hx;have:=(clOk_out hq).2.2.2;cases this
      | d fp fp2 nm r =>
       subst hx;obtain ⟨q1,q2,q3,_⟩:=clOk_out hq;obtain ⟨e1,e2,e3⟩:=zApp_quiet (show zApp x.dst fp nm r s=some s1 from ht1) q3;have hEy':=zEf_k hEy Ay e1.symm e2.symm
       -- from a state with the call's boxes
       have hx0:=e3 h0 n0;have hy0:zApp y.dst none 0 ⟨y0,none,none⟩ ⟨s1.tr,h0,n0⟩=some s2:=ht2;obtain ⟨s1',c1,c2⟩:=zApp_comm (fun t ht=>p2 t ht) (fun b hb=>by rw [show zKeys fp nm r=[] from q3] at hb;cases hb) hx0 hy0;obtain ⟨v2,g2⟩:=zAp_tr (d:=y.dst) (e:=.k y0 h0 n0 kp) (s:=s) c1;have hs1:s1'.h=h0:=(zApp_quiet c1 rfl).1;have hk:∀ b,kp b=true→s1'.h.get b=s.h.get b:=fun b hb=>by rw [hs1,←e1];exact (zEf_kp hEy hb).symm
       have hEx':=zEf_d hEx (alike_to g2 p3) (fun b hb=>hk b (q1 b hb)) (fun b hb=>hk b (q2 b hb))
       exact fin hEy' c1 hEx' c2
     | d fp' fp2' nm' r' =>
      subst hy
      cases hx:Ex with
      | k x0 h0 n0 kp =>
       subst hx;have hq:clOk (some kp) (ZEf.d fp' fp2' nm' r').ac=true:=m1;obtain ⟨q1,q2,q3,_⟩:=clOk_out hq;have hs1:s1.h=h0:=(zApp_quiet (show zApp x.dst none 0 ⟨x0,none,none⟩ ⟨s.tr,h0,n0⟩=some s1 from ht1) rfl).1;have hk:∀ b,kp b=true→s.h.get b=s1.h.get b:=fun b hb=>by rw [hs1];exact zEf_kp hEx hb
       have hEy':=zEf_d hEy Ay (fun b hb=>hk b (q1 b hb)) (fun b hb=>hk b (q2 b hb));obtain ⟨s1'',c1,c2⟩:=zApp_comm (fun t ht=>p2 t ht) (fun b hb=>by simp [zKeys] at hb) (show zApp x.dst none 0 ⟨x0,none,none⟩ ⟨s.tr,h0,n0⟩=some s1 from ht1) (show zApp y.dst fp' nm' r' s1=some s2 from ht2);obtain ⟨f1,f2,f3⟩:=zApp_quiet c1 q3;have hy1:=f3 s.h s.n;obtain ⟨v2,g2⟩:=zAp_tr (d:=y.dst) (e:=.d fp' fp2' nm' r') (s:=s) hy1;have hEx':=zEf_k hEx (alike_to g2 p3) rfl rfl;refine fin hEy' hy1 hEx' ?_
       have:(⟨s1''.tr,h0,n0⟩:ZSt)=s1'':=by
        have f1:s1''.h=h0:=f1;have f2:s1''.n=n0:=f2;rw [←f1,←f2]
       show zApp x.dst none 0 ⟨x0,none,none⟩ ⟨s1''.tr,h0,n0⟩=some s2
       rw [this];exact c2
      | d fp fp2 nm r =>
       subst hx;have hb1:∀ b,b ∉ zKeys fp nm r→s.h.get b=s1.h.get b:=fun b hb=>by
        rw [(zApp_get (show zApp x.dst fp nm r s=some s1 from ht1)).2.1,zPut_ne hb]
       have hEy':=zEf_d hEy Ay (fun b hb=>hb1 b (nopt_ok m6 b hb)) (fun b hb=>hb1 b (nopt_ok m7 b hb));obtain ⟨s1',c1,c2⟩:=zApp_comm (fun t ht=>p2 t ht) (fun b hb=>nmem_ok (m3 b hb)) (show zApp x.dst fp nm r s=some s1 from ht1) (show zApp y.dst fp' nm' r' s1=some s2 from ht2);obtain ⟨v2,g2⟩:=zAp_tr (d:=y.dst) (e:=.d fp' fp2' nm' r') (s:=s) c1;have hb2:∀ b,b ∉ zKeys fp' nm' r'→s1'.h.get b=s.h.get b:=fun b hb=>by
        rw [(zApp_get c1).2.1,zPut_ne hb]
       have hEx':=zEf_d hEx (alike_to g2 p3) (fun b hb=>hb2 b (nopt_ok m4 b hb)) (fun b hb=>hb2 b (nopt_ok m5 b hb))
       exact fin hEy' c1 hEx' c2
    ·cases h2
   ·cases h2
  ·cases h1
 ·cases h1
def ZRun (O:Opq) (T:ZTs) (D:ZHd) (ops:Array Oper) (base:Nat) (A:Nat→ZA):List (Nat×Oper)→ZSt→ZSt→Prop
 | [],s,s'=>s=s'
 | (i,o) :: l,s,s''=>∃ s',zSt O T D ops (base+i) o s=some (s',A i)∧ZRun O T D ops base A l s' s''
theorem zFront {base:Nat} {A:Nat→ZA} {i:Nat} {y:Oper} {l2:List (Nat×Oper)}:∀ (l1:List (Nat×Oper)) (s s':ZSt),(∀ p∈l1,p.2.apart ops y=true∧apartM (A p.1) (A i)=true)→ZRun O T D ops base A (l1++(i,y) :: l2) s s' →
  ∃ s1,zSt O T D ops (base+i) y s=some (s1,A i)∧ZRun O T D ops base A (l1++l2) s1 s'
 | [],s,s',_,h=>h
 | (k,x) :: l1,s,s',ha,h=>by
  obtain ⟨sx,hx,h⟩:=h;obtain ⟨s1,hy,h⟩:=zFront l1 sx s' (fun p hp=>ha p (by simp [hp])) h;obtain ⟨a1,a2⟩:=ha (k,x) (by simp);obtain ⟨s1',q1,q2⟩:=zSwap a1 a2 hx hy
  exact ⟨s1',q1,s1,q2,h⟩
end
def ZDf (β:Nat→Option Nat):List Nat→List Deferred→Prop
 | [],[]=>True
 | b :: l,d :: ds=>(∃ a,β b=some a∧d = { target:=.collected a,args:=#[] })∧ZDf β l ds
 | _,_=>False
theorem ZDf.ev {β β':Nat→Option Nat} (h:∀ b a,β b=some a→β' b=some a):∀ {l:List Nat} {ds:List Deferred},ZDf β l ds→ZDf β' l ds
 | [],[],_=>trivial
 | _ :: _,_ :: _,⟨⟨a,h1,h2⟩,r⟩=>⟨⟨a,h _ _ h1,h2⟩,ZDf.ev h r⟩
 | [],_ :: _,r=>r.elim
 | _ :: _,[],r=>r.elim
structure ZSit (O:Opq) (w0:World) (N:Nat) (dl:List Nat) (β:Nat→Option Nat) (s:ZSt) (a:Act) (w:World):Prop where
 zh:ZH O w0 β s.h.get w
 zs:ZS O β w s.tr.get a.tmps
 sz:a.tmps.size=N
 fr:∀ b,s.n≤b→s.h.get b=none
 df:ZDf β dl a.defers
def ZBody (P:Program) (k:FuncId):Prop:=∃ fn,P.funcs[k]?=some fn∧(fn.name == "runtime.NumGoroutine")=false∧fn.body.isNone=false
def ZPost (O:Opq) (w0:World) (β:Nat→Option Nat) (h:ZT ZB) (n:Nat) (x:ZX) (h':ZT ZB) (n':Nat) (w:World) (e:Ending) (w':World):Prop :=
 ∃ v β',e=.returned v∧ZE O β β' w w'∧ZH O w0 β' h'.get w'∧ZV O β' w' x v∧n≤n'∧(∀ b,n'≤b→h'.get b=none)∧∀ b,b<n→h.get b=none→h'.get b=none
structure ZHOK (P:Program) (O:Opq) (D:ZHd):Prop where
 ct:∀ {k xs r},D.ct k xs=some r→(ZBody P k∧∀ {β:Nat→Option Nat} {w:World} {vs:List Value},O.inv w→ZVs O β w xs vs→Calls P k vs.toArray w fun e w'=>∃ v,e=.returned v∧Ext w w'∧ZV O β w' r v) ∨
  ∀ {β:Nat→Option Nat} {w:World} {vs:List Value},ZVs O β w xs vs→∃ v,(callFunc k vs.toArray).run P w=.ok (.value v) w∧ZV O β w r v
 im:∀ {t name k},D.im t name=some k→ZBody P k∧∀ v w,(method (P.types.size+Made.depth) t v name).run P w=.ok (k,v) w
 call:∀ {k xs h n x h' n'},D.call k xs h n=some (x,h',n')→ZBody P k∧∀ {w0:World} {β:Nat→Option Nat} {w:World} {vs:List Value},ZH O w0 β h.get w→(∀ b,n≤b→h.get b=none)→ZVs O β w xs vs→Calls P k vs.toArray w (ZPost O w0 β h n x h' n' w)
 yld:∀ {b xs h n x h' n'},D.yld b xs h n=some (x,h',n')→∀ {w0:World} {β:Nat→Option Nat} {w:World} {vs:List Value} {lo:Nat},ZH O w0 β h.get w→(∀ b,n≤b→h.get b=none)→ZVs O β w xs vs→β b=some lo →
  ∃ f tmps assign body,(Instr.yield lo vs.toArray).run P w=.ok (.round lo f tmps assign body) w∧∀ m,RoundIn (Fr none) m P lo f tmps assign body w (ZPost O w0 β h n x h' n' w)
theorem ZVs.app {O:Opq} {β:Nat→Option Nat} {w:World}:∀ {cs ds:List ZX} {us vs:List Value},ZVs O β w cs us→ZVs O β w ds vs→ZVs O β w (cs++ds) (us++vs)
 | [],_,[],_,_,h=>h
 | c :: cs,_,u :: us,_,h,h'=>by
  simp only [ZVs,List.cons_append] at h ⊢
  exact ⟨h.1,ZVs.app h.2 h'⟩
 | [],_,_ :: _,_,h,_=>by simp only [ZVs] at h
 | _ :: _,_,[],_,h,_=>by simp only [ZVs] at h
theorem ZRs.toV {O:Opq} {β:Nat→Option Nat} {w:World}:∀ {cs:List ZC} {us:List Value},ZRs O β w cs us→ZVs O β w (cs.map .c) us
 | [],[],_=>by simp only [List.map,ZVs]
 | c :: cs,u :: us,h=>by
  simp only [ZRs] at h;simp only [List.map,ZVs]
  exact ⟨by simp only [ZV];exact h.1,ZRs.toV h.2⟩
 | [],_ :: _,h=>by simp only [ZRs] at h
 | _ :: _,[],h=>by simp only [ZRs] at h
theorem zBd_rep {O:Opq} {β:Nat→Option Nat} {w:World} {ag:Bool} {cs:List ZC} {us:List Value} (h:ZRs O β w cs us):ZVs O β w (zBd ag cs) (bnd ag us):=by
 cases ag with
 | false=>exact h.toV
 | true=>simp only [zBd,bnd,cond_true,ZVs,ZV,and_true];exact ⟨us,rfl,h⟩
theorem zMap_rep {O:Opq} {β:Nat→Option Nat} {w:World} {V:Operand→ZX} {ev:Operand→Value} (hV:∀ x,ZV O β w (V x) (ev x)):∀ l:List Operand,ZVs O β w (l.map V) (l.map ev)
 | []=>by simp only [List.map,ZVs]
 | x :: l=>by simp only [List.map,ZVs];exact ⟨hV x,zMap_rep hV l⟩
section
variable {P:Program} {O:Opq} {T:ZTs} {D:ZHd} {w0:World} {N:Nat} {dl:List Nat} {β:Nat→Option Nat} {s:ZSt} {a:Act} {w:World}
theorem ZSit.app (S:ZSit O w0 N dl β s a w) {β':Nat→Option Nat} {w':World} {d fp:Option Nat} {nm:Nat} {r:ZD} {s':ZSt} (hnm:nm<s.n∨r.nw=none) (hfp:r.up=none∨∀ b,fp=some b→s.h.get b≠none) (hd:∀ t,d=some t→t<N) (h:zApp d fp nm r s=some s') (E:ZE O β β' w w') (Z:ZH O w0 β' (zPut s.h.get fp nm r) w') {v:Value} (hv:ZV O β' w' r.x v) :
  ZSit O w0 N dl β' s' (a.put d v) w':=by
 obtain ⟨g1,g2,g3⟩:=zApp_get h;refine ⟨by rw [g2];exact Z,?_,?_,fun b hb => ?_,?_⟩
 ·rw [g1]
  cases d with
  | none=>exact S.zs.ev E
  | some t=>exact (S.zs.ev E).put (by rw [S.sz];exact hd t rfl) hv
 ·cases d with
  | none=>exact S.sz
  | some t=>simp [Act.put,S.sz]
 ·rw [g3] at hb;rw [g2,zPut_ne]
  ·exact S.fr b hb
  ·intro hk
   unfold zKeys at hk
   rcases List.mem_append.1 hk with hk | hk
   ·split at hk
    ·rename_i B b' e1 e2
     simp only [List.mem_singleton] at hk;subst hk
     rcases hfp with h | h
     ·rw [e1] at h;cases h
     ·exact h b rfl (S.fr b hb)
    ·cases hk
   ·split at hk
    ·rename_i B e
     simp only [List.mem_singleton] at hk;subst hk
     rcases hnm with h | h
     ·omega
     ·rw [e] at h;cases h
    ·cases hk
 ·have:(a.put d v).defers=a.defers:=by cases d<;>rfl
  rw [this];exact S.df.ev E.nm
theorem zWant_ok (S:ZSit O w0 N dl β s a w) {ops:Array Oper} {o:Oper} {b:Bool} (h:zWant ops o s.tr.get=some b):Region.wanted o (yielded ops a.tmps)=b:=by
 unfold zWant at h;unfold Region.wanted
 cases hg:o.guard with
 | none=>rw [hg] at h;cases h;rfl
 | some gw =>
  obtain ⟨j,want⟩:=gw;rw [hg] at h;simp only [] at h ⊢
  cases ht:(ops[j]?).bind (·.dst) with
  | none=>rw [ht] at h;cases h
  | some t =>
   rw [ht] at h;simp only [] at h;have hr:=S.zs t;have hy:yielded ops a.tmps j=(match a.tmps[t]? with
    | some (.bool b)=>some b
    | _=>none):=by
    unfold yielded;rw [ht]
    rfl
   rw [hy];rw [Array.getD_eq_getD_getElem?] at hr
   split at h
   ·rename_i c e
    cases h
    rw [e] at hr;have e2:=vV rfl hr
    cases h1:a.tmps[t]? with
    | none=>rw [h1] at e2;cases e2
    | some v =>
     rw [h1] at e2;have e2:v=.bool c:=e2;subst e2
     cases c<;>cases want<;>rfl
   ·rename_i l e
    cases h
    rw [e] at hr;simp only [ZV] at hr;obtain ⟨us,e2,_⟩:=hr
    cases h1:a.tmps[t]? with
    | none=>cases want<;>rfl
    | some v =>
     rw [h1] at e2;have e2:v=.tuple us.toArray:=e2;subst e2
     cases want<;>rfl
   ·cases h
def ZNm (nm:Nat) (s s':ZSt):Prop:=s.n≤s'.n∧∀ b,b<s.n→b≠nm→s.h.get b=none→s'.h.get b=none
theorem ZNm.app {d fp:Option Nat} {nm nm':Nat} {r:ZD} {s s':ZSt} (hnm:nm'=nm∨r.nw=none) (hfp:r.up=none∨∀ b,fp=some b→s.h.get b≠none) (h:zApp d fp nm' r s=some s'):ZNm nm s s':=by
 obtain ⟨g1,g2,g3⟩:=zApp_get h;refine ⟨by rw [g3];exact Nat.le_refl _,fun b _ hne hb => ?_⟩;rw [g2,zPut_ne]
 ·exact hb
 ·intro hk
  unfold zKeys at hk
  rcases List.mem_append.1 hk with hk | hk
  ·split at hk
   ·rename_i B b' e1 e2
    simp only [List.mem_singleton] at hk;subst hk
    rcases hfp with h | h
    ·rw [e1] at h;cases h
    ·exact h b rfl hb
   ·cases hk
  ·split at hk
   ·rename_i B e
    simp only [List.mem_singleton] at hk
    rcases hnm with h | h
    ·exact hne (hk.trans h)
    ·rw [e] at h;cases h
   ·cases hk
theorem ZOk.wp {o:Oper} {fp:Option Nat} {nm:Nat} {r:ZD} (hd:∀ c,o.op≠.defer c) (h:ZOk P O w0 β s.h.get w fp nm r (execOp a.eval o)) {next:Act→World→Prop} {Q:Exit→Act→World→Prop} {r0:Option Nat} {m:Nat}
  (K:∀ v w' β',ZE O β β' w w'→ZH O w0 β' (zPut s.h.get fp nm r) w'→ZV O β' w' r.x v→next (a.put o.dst v) w'):o.wpIn (Fr r0) m P a w next Q:=by
 obtain ⟨v,w',β',h1,h2,h3,h4⟩:=h;refine wpIn_of_wp hd ?_;unfold Oper.wp
 rcases h1 with h1 | ⟨h1,rfl⟩
 ·rw [h1];exact K v w' β' h2 h3 h4
 ·rw [h1];exact K undef w' β' h2 h3 h4
theorem zDo_ok (TK:ZTOK P O T) (S:ZSit O w0 N dl β s a w) {o:Oper} (hd:∀ t,o.dst=some t→t<N) {nm:Nat} (hn:s.h.get nm=none) (hlt:nm<s.n) {e:ZEf} (h:zDo O T (zE s.tr.get) nm o.op s.h.get=some e) {s':ZSt} (h':zAp o.dst e s=some s') {next:Act→World→Prop} {Q:Exit→Act→World→Prop} {r0:Option Nat} {m:Nat}
  (K:∀ β' a' w',ZE O β β' w w'→ZSit O w0 N dl β' s' a' w'→ZNm nm s s'→next a' w'):o.wpIn (Fr r0) m P a w next Q:=by
 unfold zDo at h
 split at h
 ·rename_i r hr
  cases hc:r.up.isNone||((zFp (zE s.tr.get) o.op).bind s.h.get).isSome with
  | false=>rw [hc] at h;cases h
  | true =>
   rw [hc] at h
   cases h
   have hfp:r.up=none∨∀ b,zFp (zE s.tr.get) o.op=some b→s.h.get b≠none:=by
    simp only [Bool.or_eq_true,Option.isNone_iff_eq_none] at hc;refine hc.imp id fun h b hb hn => ?_;rw [hb] at h;rw [show (some b).bind s.h.get=s.h.get b from rfl,hn] at h
    cases h
   have ok:=zOp_ok TK (fun x=>zE_rep S.zs x) (fun _=>rfl) S.zh hn hr;refine ZOk.wp (fun c hc => ?_) ok fun v w' β' E Z hv=>K β' _ w' E (S.app (.inl hlt) hfp hd h' E Z hv) (ZNm.app (.inl rfl) hfp h');rw [hc] at hr;cases hr
 ·cases h
theorem zTg_call (HD:ZHOK P O D) (S:ZSit O w0 N dl β s a w) {o:Oper} {c:Call} (ho:o.op=.call c) {k:FuncId} {xs:List ZX} (h:zTg D (zE s.tr.get) c=some (.fn k xs)):∃ vs:List Value,(execOp a.eval o).run P w=(callFunc k vs.toArray).run P w∧ZVs O β w xs vs:=by
 have hV:=fun x=>zE_rep S.zs x;have hm:=zMap_rep hV c.args.toList;have hma:c.args.map a.eval=(c.args.toList.map a.eval).toArray:=by rw [←Array.toList_map]
 unfold zTg at h
 split at h
 ·rename_i f hc
  split at h
  ·rename_i k' e
   cases h
   have ef:=vV e (hV f);refine ⟨c.args.toList.map a.eval,?_,hm⟩;rw [←hma];unfold execOp
   simp [ho,resolve,hc,ef,Deferred.ofValue,invoke]
  ·rename_i k' ag fs cs e
   cases h
   have ef:=hV f;rw [e] at ef;simp only [ZV,ZR] at ef;obtain ⟨us,vs,ef,r1,r2⟩:=ef;refine ⟨bnd ag us++c.args.toList.map a.eval++vs,?_,((zBd_rep r1).app hm).app (ZRs.toV r2)⟩;have e1:(bnd ag us++c.args.toList.map a.eval++vs).toArray=(bnd ag us).toArray++c.args.map a.eval++vs.toArray:=by rw [hma];simp
   rw [e1];unfold execOp
   simp [ho,resolve,hc,ef,Deferred.ofValue,invoke]
  ·cases h
  ·cases h
 ·rename_i x name hc
  split at h
  ·rename_i t ag cs e
   split at h
   ·rename_i k' v hk hv
    cases h
    have ex:=hV x;rw [e] at ex;simp only [ZV,ZR] at ex;obtain ⟨us,ex,hl,ru⟩:=ex;obtain ⟨_,him⟩:=HD.im hk;refine ⟨pack ag us :: c.args.toList.map a.eval,?_,by simp only [ZVs];exact ⟨zMk_ok hv ru,hm⟩⟩;have e1:(pack ag us :: c.args.toList.map a.eval).toArray=#[pack ag us]++c.args.map a.eval:=by rw [hma];simp
    rw [e1];have hmeth:=him (pack ag us) w;have hex:(#[Value.iface t (pack ag us)]++c.args.map a.eval).extract 1 (#[Value.iface t (pack ag us)]++c.args.map a.eval).size=c.args.map a.eval:=by
     apply Array.toList_inj.1;simp;exact List.take_of_length_le (by simp)
    unfold execOp;simp only [ho,resolve,hc,ex,Sem.run_bind,Sem.run_pure,Result.andThen_ok,invoke];have h0:(#[Value.iface t (pack ag us)]++c.args.map a.eval)[0]?=some (Value.iface t (pack ag us)):=by rw [Array.getElem?_append_left (by simp)];rfl
    simp only [h0,hex,callMethod,Sem.run_bind,program,Sem.run,Result.andThen_ok,hmeth]
   ·cases h
  ·cases h
 ·cases h
theorem zTg_run (HD:ZHOK P O D) (S:ZSit O w0 N dl β s a w) {o:Oper} {c:Call} (ho:o.op=.call c) {k:FuncId} {xs:List ZX} (h:zTg D (zE s.tr.get) c=some (.fn k xs)) (hb:ZBody P k):∃ vs:List Value,(execOp a.eval o).run P w=.ok (.enter k vs.toArray) w∧ZVs O β w xs vs:=by
 obtain ⟨fn,f1,f2,f3⟩:=hb;have hn':¬ fn.name = "runtime.NumGoroutine" := by simpa using f2
 have hb':¬ fn.body=none:=fun e=>by rw [e] at f3;cases f3
 obtain ⟨vs,h1,h2⟩:=zTg_call HD S ho h;refine ⟨vs,h1.trans ?_,h2⟩;simp only [callFunc,Sem.run_bind,program,Sem.run,Result.andThen_ok,f1]
 simp [hn',hb']
theorem zTg_yl {V:Operand→ZX} {c:Call} {b:Nat} {xs:List ZX} (h:zTg D V c=some (.yl b xs)):∃ f,c.callee=.value f∧V f=.c (.y b)∧xs=c.args.toList.map V:=by
 unfold zTg at h
 split at h
 ·rename_i f hc
  split at h<;>(try cases h)
  rename_i e
  exact ⟨f,hc,e,rfl⟩
 ·split at h
  ·split at h<;>cases h
  ·cases h
 ·cases h
theorem zSt_ok (TK:ZTOK P O T) (HD:ZHOK P O D) (S:ZSit O w0 N dl β s a w) {ops:Array Oper} {i:Nat} {o:Oper} (ho:ops[i]?=some o) (hd:∀ t,o.dst=some t→t<N) {nm:Nat} (hn:s.h.get nm=none) (hlt:nm<s.n) {s':ZSt} {A:ZA} (h:zSt O T D ops nm o s=some (s',A)) {next:Act→World→Prop} {Q:Exit→Act→World→Prop} {m:Nat} {r0:Option Nat}
  (K:∀ β' a' w',ZE O β β' w w'→ZSit O w0 N dl β' s' a' w'→ZNm nm s s'→next a' w'):wpOpIn (Fr r0) m P ops Q i next a w:=by
 unfold zSt at h
 split at h
 ·rename_i e he
  split at h
  ·rename_i s1 h'
   cases h
   unfold wpOpIn;simp only [ho];unfold zEf at he
   split at he
   ·cases he
   ·rename_i hw
    cases he
    rw [if_neg (by rw [zWant_ok S hw];simp)];have h':zApp o.dst none 0 ⟨.t [],none,none⟩ s=some s':=h'
    exact ⟨fun _ _=>trivial,K β _ w (ZE.refl _ _ _) (S.app (.inr rfl) (.inl rfl) hd h' (ZE.refl _ _ _) S.zh zvT) (ZNm.app (.inr rfl) (.inl rfl) h')⟩
   ·rename_i hw
    rw [if_pos (zWant_ok S hw)]
    split at he
    ·rename_i c hop
     cases hb:isBuiltin c with
     | true =>
      rw [hb] at he
      exact zDo_ok TK S hd hn hlt he h' K
     | false =>
      rw [hb] at he;simp only [] at he;have hnd:∀ c',o.op≠.defer c':=fun c' e=>by rw [hop] at e;cases e
      split at he
      ·rename_i k xs hk
       split at he
       ·rename_i r hr
        cases he
        have h':zApp o.dst none 0 ⟨r,none,none⟩ s=some s':=h'
        rcases HD.ct hr with ⟨hbody,hcal⟩ | hval
        ·obtain ⟨vs,hrun,hvs⟩:=zTg_run HD S hop hk hbody;refine wpIn_of_wp hnd ?_;unfold Oper.wp;rw [hrun];refine (hcal S.zh.inv hvs).mono ?_;rintro e w' ⟨v,rfl,hx,hv⟩
         exact K β _ w' (ZE.of_ext hx) (S.app (.inr rfl) (.inl rfl) hd h' (ZE.of_ext hx) (S.zh.ext hx) hv) (ZNm.app (.inr rfl) (.inl rfl) h')
        ·obtain ⟨vs,hrun,hvs⟩:=zTg_call HD S hop hk;obtain ⟨v,h1,h2⟩:=hval hvs;refine wpIn_of_wp hnd ?_;unfold Oper.wp;rw [hrun,h1]
         exact K β _ w (ZE.refl _ _ _) (S.app (.inr rfl) (.inl rfl) hd h' (ZE.refl _ _ _) S.zh h2) (ZNm.app (.inr rfl) (.inl rfl) h')
       ·split at he
        ·rename_i x h0 n0 hc
         cases he
         have h':zApp o.dst none 0 ⟨x,none,none⟩ ⟨s.tr,h0,n0⟩=some s':=h';obtain ⟨hbody,hcal⟩:=HD.call hc;obtain ⟨vs,hrun,hvs⟩:=zTg_run HD S hop hk hbody;refine wpIn_of_wp hnd ?_;unfold Oper.wp;rw [hrun];refine (hcal S.zh S.fr hvs).mono ?_;rintro e w' ⟨v,β',rfl,E,Z,hv,q1,q2,q3⟩;have S0:ZSit O w0 N dl β' ⟨s.tr,h0,n0⟩ a w':=⟨Z,S.zs.ev E,S.sz,q2,S.df.ev E.nm⟩;refine K β' _ w' E (S0.app (.inr rfl) (.inl rfl) hd h' (ZE.refl _ _ _) Z hv) ?_;obtain ⟨g1,g2,g3⟩:=zApp_get (show zApp o.dst none 0 ⟨x,none,none⟩ ⟨s.tr,h0,n0⟩=some s' from h');refine ⟨by rw [g3];exact q1,fun b hb _ hn' => ?_⟩;rw [g2];exact q3 b hb hn'
        ·cases he
      ·rename_i b xs hk
       split at he
       ·rename_i x h0 n0 hc
        cases he
        have h':zApp o.dst none 0 ⟨x,none,none⟩ ⟨s.tr,h0,n0⟩=some s':=h';obtain ⟨f,hcf,hvf,rfl⟩:=zTg_yl hk;have hV:=fun x=>zE_rep S.zs x;have hf:=hV f;rw [hvf] at hf;simp only [ZV,ZR] at hf;obtain ⟨lo,hlo,ef⟩:=hf;obtain ⟨g,tmps,assign,body,hyl,hR⟩:=HD.yld hc S.zh S.fr (zMap_rep hV c.args.toList) hlo;have hmm:(c.args.toList.map a.eval).toArray=c.args.map a.eval:=by rw [←Array.toList_map]
        rw [hmm] at hyl;have hrun:(execOp a.eval o).run P w=.ok (.round lo g tmps assign body) w:=by
         unfold execOp
         simp [hop,resolve,hcf,ef,Deferred.ofValue,invoke,hyl]
        refine ⟨fun _ _=>trivial,?_⟩;rw [Oper.semAt_eq _ _ _ hnd,hrun];refine ⟨(fun hx=>absurd hx (by simp [Fence.wide])),?_⟩;refine RoundIn.mono (show RoundIn (Fr none) (m-1) P lo g tmps assign body w _ from hR _) ?_;rintro e w' ⟨v,β',rfl,E,Z,hv,q1,q2,q3⟩;have S0:ZSit O w0 N dl β' ⟨s.tr,h0,n0⟩ a w':=⟨Z,S.zs.ev E,S.sz,q2,S.df.ev E.nm⟩;refine K β' _ w' E (S0.app (.inr rfl) (.inl rfl) hd h' (ZE.refl _ _ _) Z hv) ?_;obtain ⟨g1,g2,g3⟩:=zApp_get (show zApp o.dst none 0 ⟨x,none,none⟩ ⟨s.tr,h0,n0⟩=some s' from h');refine ⟨by rw [g3];exact q1,fun b' hb' _ hn' => ?_⟩;rw [g2];exact q3 b' hb' hn'
       ·cases he
      ·cases he
    ·exact zDo_ok TK S hd hn hlt he h' K
  ·cases h
 ·cases h
end
/-! ### what is reckoned -/
def zSeq (O:Opq) (T:ZTs) (D:ZHd) (ops:Array Oper) (base:Nat):Nat→List Oper→ZSt→List ZA→Option (ZSt×List ZA)
 | _,[],s,acc=>some (s,acc)
 | i,o :: l,s,acc=>match zSt O T D ops (base+i) o s with
  | some (s,a)=>zSeq O T D ops base (i+1) l s (acc++[a])
  | none=>none
def zMeet (ops:Array Oper) (ms:List Nat) (as:List ZA):Bool:=(List.range ops.size).all fun i=>match ops[i]?,as[i]? with
 | some y,some b=>(edgesOf y).all (fun e=>Nat.blt e i)&&(List.range i).all fun k=>(ms.getD i 0).testBit k||match ops[k]?,as[k]? with
  | some x,some a=>x.apart ops y&&apartM a b
  | _,_=>false
 | _,_=>false
def zReg (O:Opq) (T:ZTs) (D:ZHd) (ops:Array Oper) (d:Bool) (s:ZSt):Option ZSt:=match zFN (s.n+ops.size) with
 | some n=>match zSeq O T D ops s.n 0 ops.toList ⟨s.tr,s.h,n⟩ [] with
  | some (s',as)=>match d with
   | false=>some s'
   | true=>cond (zMeet ops (masks ops.toList []) as) (some s') none
  | none=>none
 | none=>none
section
variable {P:Program} {O:Opq} {T:ZTs} {D:ZHd} {w0:World} {N:Nat} {dl:List Nat} {β:Nat→Option Nat} {s:ZSt} {a:Act} {w:World} {ops:Array Oper}
def ZFree (base:Nat) (l:List Nat) (s:ZSt):Prop:=∀ i∈l,base+i<s.n∧s.h.get (base+i)=none
theorem ZFree.next {base i:Nat} {l l':List Nat} {s s':ZSt} (h:ZFree base l s) (hl:∀ j∈l',j∈l∧j≠i) (hn:ZNm (base+i) s s'):ZFree base l' s':=fun j hj=>by
 obtain ⟨h1,h2⟩:=hl j hj;obtain ⟨q1,q2⟩:=h j h1
 exact ⟨Nat.lt_of_lt_of_le q1 hn.1,hn.2 _ q1 (by omega) q2⟩
def ZKp (n0:Nat) (H0:Nat→Option ZB) (s:ZSt):Prop:=n0≤s.n∧∀ b,b<n0→H0 b=none→s.h.get b=none
theorem ZKp.refl (s:ZSt):ZKp s.n s.h.get s:=⟨Nat.le_refl _,fun _ _ h=>h⟩
theorem ZKp.next {n0:Nat} {H0:Nat→Option ZB} {nm:Nat} {s s':ZSt} (h:ZKp n0 H0 s) (hn:n0≤nm) (k:ZNm nm s s'):ZKp n0 H0 s' :=
 ⟨Nat.le_trans h.1 k.1,fun b hb h0=>k.2 b (Nat.lt_of_lt_of_le hb h.1) (by omega) (h.2 b hb h0)⟩
theorem ZKp.trans {n0:Nat} {H0:Nat→Option ZB} {s s':ZSt} (h:ZKp n0 H0 s) (k:ZKp s.n s.h.get s'):ZKp n0 H0 s' :=
 ⟨Nat.le_trans h.1 k.1,fun b hb h0=>k.2 b (Nat.lt_of_lt_of_le hb h.1) (h.2 b hb h0)⟩
def ZBeh (O:Opq) (w0:World) (N:Nat) (dl:List Nat) (β:Nat→Option Nat) (w:World) (n0:Nat) (H0:Nat→Option ZB) (s':ZSt) (Qn:Act→World→Prop):Prop:=∀ β' a' w',ZE O β β' w w'→ZSit O w0 N dl β' s' a' w'→ZKp n0 H0 s'→Qn a' w'
theorem zSeq_acc {base:Nat}:∀ {l:List Oper} {i:Nat} {s s':ZSt} {acc as:List ZA},zSeq O T D ops base i l s acc=some (s',as)→∃ bs,as=acc++bs∧bs.length=l.length
 | [],_,_,_,_,_,h=>by cases h;exact ⟨[],by simp,rfl⟩
 | o :: l,i,s,s',acc,as,h=>by
  simp only [zSeq] at h
  split at h
  ·rename_i s1 a1 h1
   obtain ⟨bs,e,hl⟩:=zSeq_acc h
   exact ⟨a1 :: bs,by rw [e];simp,by simp [hl]⟩
  ·cases h
theorem zSeq_ok (TK:ZTOK P O T) (HD:ZHOK P O D) (hd:∀ o∈ops.toList,∀ t,o.dst=some t→t<N) {Q:Exit→Act→World→Prop} {r0:Option Nat} {m:Nat} {base:Nat} {s':ZSt} {as:List ZA} {n0:Nat} {H0:Nat→Option ZB} (hb:n0≤base) :
  ∀ (l:List Oper) (k:Nat),(∀ j,l[j]?=ops[k+j]?)→∀ {β s a w acc},zSeq O T D ops base k l s acc=some (s',as)→ZSit O w0 N dl β s a w→ZFree base (List.range' k l.length) s→ZKp n0 H0 s→ZBeh O w0 N dl β w n0 H0 s' (Q .normal)→wpOpsIn (Fr r0) m P ops Q (List.range' k l.length) a w
 | [],k,hr,β,s,a,w,acc,h,S,_,hK,hQ=>by
  cases h
  exact hQ β a w (ZE.refl _ _ _) S hK
 | o :: l,k,hr,β,s,a,w,acc,h,S,hF,hK,hQ=>by
  have ho:ops[k]?=some o:=by have:=hr 0;simpa using this.symm
  rw [List.length_cons,List.range'_succ,wpOpsIn_cons];simp only [zSeq] at h
  split at h
  ·rename_i s1 a1 h1
   obtain ⟨f1,f2⟩:=hF k (by rw [List.length_cons,List.range'_succ];simp);refine zSt_ok TK HD S ho (hd o (by rw [←Array.getElem?_toList] at ho;exact List.mem_of_getElem? ho)) f2 f1 h1 fun β' a' w' E S' hN => ?_;refine zSeq_ok TK HD hd hb l (k+1) (fun j=>by have:=hr (j+1);simp only [List.getElem?_cons_succ] at this;rw [this];congr 1;omega) h S' (hF.next (fun j hj => ?_) hN) (hK.next (by omega) hN) fun β'' a'' w'' E' S''=>hQ β'' a'' w'' (E.trans E') S'';rw [List.length_cons,List.range'_succ]
   have:=(List.mem_range'_1.1 hj).1
   exact ⟨by simp only [List.mem_cons];exact .inr hj,by omega⟩
  ·cases h
theorem zSeq_run {base:Nat} {s':ZSt} {A:Nat→ZA}:∀ (l:List Oper) (k:Nat),(∀ j,l[j]?=ops[k+j]?)→∀ {s acc as},zSeq O T D ops base k l s acc=some (s',as)→acc.length=k→(∀ i,as[i]?=none∨as[i]?=some (A i))→ZRun O T D ops base A (prs ops (List.range' k l.length)) s s'
 | [],k,_,s,acc,as,h,_,_=>by cases h;rfl
 | o :: l,k,hr,s,acc,as,h,hk,hA=>by
  have ho:ops[k]?=some o:=by have:=hr 0;simpa using this.symm
  simp only [zSeq] at h
  split at h
  ·rename_i s1 a1 h1
   have hp:prs ops (List.range' k (o :: l).length)=(k,o) :: prs ops (List.range' (k+1) l.length):=by
    rw [List.length_cons,List.range'_succ];unfold prs;rw [List.filterMap_cons,ho]
    rfl
   rw [hp];obtain ⟨bs,e,_⟩:=zSeq_acc h;have ha:as[k]?=some a1:=by rw [e,List.append_assoc,List.getElem?_append_right (by omega),hk];simp
   have:a1=A k:=by
    rcases hA k with h | h
    ·rw [ha] at h;cases h
    ·rw [ha] at h;exact Option.some.inj h
   exact ⟨s1,by rw [←this];exact h1,zSeq_run l (k+1) (fun j=>by have:=hr (j+1);simp only [List.getElem?_cons_succ] at this;rw [this];congr 1;omega) h (by simp [hk]) hA⟩
  ·cases h
instance:Inhabited ZA:=⟨⟨none,none,[],none⟩⟩
theorem zAny_ok (TK:ZTOK P O T) (HD:ZHOK P O D) {r:Option Nat} {m:Nat} {as:List ZA} (hM:zMeet ops (masks ops.toList []) as=true) {Q:Exit→Act→World→Prop} {base:Nat} {s':ZSt} {n0:Nat} {H0:Nat→Option ZB} (hb0:n0≤base) (hd:∀ o∈ops.toList,∀ t,o.dst=some t→t<N) :
  ∀ (fuel:Nat) (listed:Array Bool),listed.size=ops.size→(∀ i o,ops[i]?=some o→listed.getD i true=true→∀ e∈edgesOf o,listed.getD e false=true) →
   ((List.range ops.size).filter fun i => !listed.getD i true).length≤fuel→∀ {β s a w},ZRun O T D ops base (fun i=>(as[i]?).getD default) (prs ops ((List.range ops.size).filter fun i => !listed.getD i true)) s s'→ZSit O w0 N dl β s a w→ZFree base ((List.range ops.size).filter fun i => !listed.getD i true) s→ZKp n0 H0 s→ZBeh O w0 N dl β w n0 H0 s' (Q .normal)→wpAnyIn (Fr r) m P .any ops Q fuel listed a w:=by
 have hB':∀ i,i<ops.size→∃ y b,ops[i]?=some y∧as[i]?=some b∧(∀ e∈edgesOf y,e<i)∧∀ k,k<i→((masks ops.toList []).getD i 0).testBit k=true∨∃ x a,ops[k]?=some x∧as[k]?=some a∧x.apart ops y=true∧apartM a b=true:=by
  intro i hi
  simp only [zMeet,List.all_eq_true,List.mem_range] at hM;have h:=hM i hi
  split at h
  ·rename_i y b e1 e2
   simp only [Bool.and_eq_true,List.all_eq_true,List.mem_range,Bool.or_eq_true,Nat.blt_eq] at h;refine ⟨y,b,e1,e2,h.1,fun k hk => ?_⟩
   rcases h.2 k hk with h' | h'
   ·exact .inl h'
   ·split at h'
    ·rename_i x a e3 e4
     simp only [Bool.and_eq_true] at h'
     exact .inr ⟨x,a,e3,e4,h'.1,h'.2⟩
    ·cases h'
  ·cases h
 -- the least of what is left is ready
 have ready_least:∀ (listed:Array Bool),listed.size=ops.size→Region.ready .any ops listed=[]→(List.range ops.size).filter (fun i => !listed.getD i true)=[]:=by
  intro listed hs hr
  have key:∀ i,i<ops.size→listed.getD i true=true:=by
   intro i
   induction i using Nat.strongRecOn with
   | _ i ih =>
    intro hi
    cases hl:listed.getD i true with
    | true=>rfl
    | false =>
     exfalso
     have ho:ops[i]?=some ops[i]:=Array.getElem?_eq_getElem hi;obtain ⟨y,b,e1,_,hb,_⟩:=hB' i hi;rw [ho] at e1;cases e1
     have:i∈Region.ready .any ops listed:=by
      simp only [Region.ready,List.mem_filter,List.mem_range];refine ⟨hi,?_⟩;simp only [hl,ho,Bool.not_false,Bool.true_and,Option.map_some,Option.getD_some];rw [Array.all_eq_true']
      intro e he
      cases hbd:Region.binds .any e with
      | false=>rfl
      | true =>
       have hm:e.on∈edgesOf ops[i]:=by
        simp only [edgesOf,List.mem_filterMap]
        exact ⟨e,by simpa using he,by simp [hbd]⟩
       have hlt:=hb _ hm
       have:=ih e.on hlt (by omega)
       have he':e.on<listed.size:=by omega
       simp [Array.getD,he'] at this ⊢
       exact this
     rw [hr] at this;cases this
  rw [List.filter_eq_nil_iff]
  intro i hi
  simp [key i (by simpa using hi)]
 intro fuel
 induction fuel with
 | zero =>
  intro listed hs hcl hf β s a w h S hF hK hQ
  have hnil:(List.range ops.size).filter (fun i => !listed.getD i true)=[]:=List.length_eq_zero_iff.1 (by omega);rw [hnil] at h;have h:s=s':=h;subst h;refine ⟨?_,hQ β a w (ZE.refl _ _ _) S hK⟩;simp only [Region.ready];rw [List.filter_eq_nil_iff] at hnil ⊢
  intro i hi
  have:=hnil i hi
  simp only [Bool.not_eq_true,Bool.not_eq_false'] at this
  simp [this]
 | succ fuel ih =>
  intro listed hs hcl hf β s a w h S hF hK hQ
  refine ⟨fun hr => ?_,fun i hi => ?_⟩
  ·rw [ready_least listed hs hr] at h;have h:s=s':=h;subst h
   exact hQ β a w (ZE.refl _ _ _) S hK
  ·simp only [Region.ready,List.mem_filter,List.mem_range] at hi;obtain ⟨hlt,hi⟩:=hi;have ho:ops[i]?=some ops[i]:=Array.getElem?_eq_getElem hlt;rw [ho] at hi;simp only [Option.map_some,Option.getD_some,Bool.and_eq_true,Bool.not_eq_true'] at hi;obtain ⟨hun,hed⟩:=hi;have hedges:∀ e∈edgesOf ops[i],listed.getD e false=true:=by
    intro e he
    simp only [edgesOf,List.mem_filterMap] at he;obtain ⟨ed,hm,he⟩:=he;rw [Array.all_eq_true'] at hed
    have:=hed ed (by simpa using hm)
    split at he
    ·rename_i hbd
     cases he
     simpa [hbd] using this
    ·cases he
   -- what stands ahead of it does not meet it
   obtain ⟨y,b,e1,eb,hb,hb2⟩:=hB' i hlt;rw [ho] at e1;cases e1;have hap:∀ k,k<i→listed.getD k true=false→∀ x,ops[k]?=some x→x.apart ops ops[i]=true∧apartM ((as[k]?).getD default) ((as[i]?).getD default)=true:=by
    intro k hk hku x hx
    rcases hb2 k hk with h1 | ⟨x',a',h1,h2,h3,h4⟩
    ·exfalso
     have hL:∀ j o,ops[j]?=some o→(listed.getD j true=true∧j<ops.size)→∀ e∈edgesOf o,listed.getD e true=true∧e<ops.size:=by
      intro j o hj hjl e he
      have:=hcl j o hj hjl.1 e he
      have hlt':e<listed.size:=by
       rcases Nat.lt_or_ge e listed.size with h' | h'
       ·exact h'
       ·simp [Array.getD,Nat.not_lt.2 h'] at this
      refine ⟨?_,by omega⟩
      simp [Array.getD,hlt'] at this ⊢;exact this
     have hm:=masks_sound (L:=fun j=>listed.getD j true=true∧j<ops.size) hL ops.toList [] (fun j=>by simp) (fun i m h=>by simp at h) i
     cases hms:(masks ops.toList [])[i]? with
     | none=>rw [List.getD_eq_getElem?_getD,hms] at h1;simp at h1
     | some m =>
      rw [List.getD_eq_getElem?_getD,hms] at h1;obtain ⟨o',ho',hm'⟩:=hm m hms;rw [ho] at ho';cases ho'
      have:=(hm' (fun e he=>by
       have h2:=hedges e he;have hlt':e<listed.size:=by
        rcases Nat.lt_or_ge e listed.size with h' | h'
        ·exact h'
        ·simp [Array.getD,Nat.not_lt.2 h'] at h2
       refine ⟨?_,by omega⟩
       simp [Array.getD,hlt'] at h2 ⊢;exact h2) k h1).1
      rw [hku] at this;cases this
    ·rw [hx] at h1;cases h1;rw [h2,eb];exact ⟨h3,h4⟩
   -- the list of what is left,around it
   have hsplit:(List.range ops.size).filter (fun j => !listed.getD j true)=(List.range i).filter (fun j => !listed.getD j true)++i :: (List.range' (i+1) (ops.size-(i+1))).filter (fun j => !listed.getD j true):=by
    rw [range_split hlt,List.filter_append,List.filter_cons]
    simp [hun]
   have hprs:∀ (l1 l2:List Nat),prs ops (l1++i :: l2)=prs ops l1++(i,ops[i]) :: prs ops l2:=by
    intro l1 l2
    unfold prs;rw [List.filterMap_append,List.filterMap_cons,ho]
    rfl
   rw [hsplit,hprs] at h;obtain ⟨s1,f0,f1⟩:=zFront _ _ _ (fun p hp=>by
    simp only [prs,List.mem_filterMap,List.mem_filter,List.mem_range,Bool.not_eq_true'] at hp;obtain ⟨k,hk,hp⟩:=hp
    cases hx:ops[k]? with
    | none=>rw [hx] at hp;cases hp
    | some x =>
     rw [hx] at hp
     cases hp
     exact hap k hk.1 hk.2 x hx) h
   have hset:∀ j,(listed.setIfInBounds i true).getD j true=if j=i then true else listed.getD j true:=by
    intro j
    by_cases e:j=i
    ·subst e;simp [Array.getD,hs,hlt]
    ·simp only [Array.getD_eq_getD_getElem?,if_neg e];rw [Array.getElem?_setIfInBounds_ne (fun h=>e h.symm)]
   have hrest:(List.range ops.size).filter (fun j => !(listed.setIfInBounds i true).getD j true)=(List.range i).filter (fun j => !listed.getD j true)++(List.range' (i+1) (ops.size-(i+1))).filter (fun j => !listed.getD j true):=by
    rw [range_split hlt,List.filter_append,List.filter_cons];rw [hset i];simp only [if_true,Bool.not_true,Bool.false_eq_true,if_false]
    congr 1
    ·refine List.filter_congr fun j hj => ?_;rw [hset j,if_neg (by have:=List.mem_range.1 hj;omega)]
    ·refine List.filter_congr fun j hj => ?_;rw [hset j,if_neg (by have:=(List.mem_range'_1.1 hj).1;omega)]
   obtain ⟨q1,q2⟩:=hF i (by rw [hsplit];simp);refine zSt_ok TK HD S ho (hd _ (by rw [←Array.getElem?_toList] at ho;exact List.mem_of_getElem? ho)) q2 q1 f0 fun β' a' w' E S' hN => ?_;refine ih _ (by simp [hs]) (fun j o hj hjl e he => ?_) ?_ (by rw [hrest];unfold prs at f1 ⊢;rw [List.filterMap_append];exact f1) S' (hF.next (fun j hj => ?_) hN) (hK.next (by omega) hN) fun β'' a'' w'' E' S''=>hQ β'' a'' w'' (E.trans E') S''
   ·have:listed.getD e false=true:=by
     rw [hset j] at hjl
     by_cases ej:j=i
     ·subst ej;rw [ho] at hj;cases hj;exact hedges e he
     ·rw [if_neg ej] at hjl;exact hcl j o hj hjl e he
    by_cases ee:e=i
    ·subst ee;simp [Array.getD,hs,hlt]
    ·simp only [Array.getD_eq_getD_getElem?] at this ⊢;rw [Array.getElem?_setIfInBounds_ne (fun h=>ee h.symm)];exact this
   ·have h1:=congrArg List.length hsplit;have h2:=congrArg List.length hrest;rw [List.length_append,List.length_cons] at h1;rw [List.length_append] at h2
    omega
   ·rw [hrest] at hj;rw [hsplit]
    rcases List.mem_append.1 hj with h' | h'
    ·refine ⟨List.mem_append_left _ h',?_⟩
     have:=List.mem_range.1 (List.mem_filter.1 h').1
     omega
    ·refine ⟨List.mem_append_right _ (by simp only [List.mem_cons];exact .inr h'),?_⟩
     have:=(List.mem_range'_1.1 (List.mem_filter.1 h').1).1
     omega
theorem zReg_ok (TK:ZTOK P O T) (HD:ZHOK P O D) (hm:P.follows .mixedOrders=true) {r:Option Nat} {m:Nat} {id:Nat} {d:Bool} (hdB:dstB N ops=true) {s':ZSt} (h:zReg O T D ops d s=some s') (S:ZSit O w0 N dl β s a w) {Q:Exit→Act→World→Prop} (hQ:ZBeh O w0 N dl β w s.n s.h.get s' (Q .normal)):(Code.region id ops d).wpIn (Fr r) m P Q a w:=by
 have hd:∀ o∈ops.toList,∀ t,o.dst=some t→t<N:=by
  intro o ho t ht
  simp only [dstB,List.all_eq_true] at hdB
  have:=hdB o ho
  rw [ht] at this
  simpa [Nat.blt_eq] using this
 unfold zReg at h;rw [zFN_eq] at h;simp only [] at h
 split at h
 ·rename_i s1 as hs
  have S1:ZSit O w0 N dl β ⟨s.tr,s.h,s.n+ops.size⟩ a w:=⟨S.zh,S.zs,S.sz,fun b hb=>S.fr b (by have hb:s.n+ops.size≤b:=hb;omega),S.df⟩;have hK1:ZKp s.n s.h.get ⟨s.tr,s.h,s.n+ops.size⟩:=⟨Nat.le_add_right _ _,fun _ _ h=>h⟩
  cases d with
  | false =>
   cases h
   refine wpIn_region ?_
   have:=zSeq_ok (r0:=r) (m:=m) (Q:=Q) TK HD hd (Nat.le_refl _) ops.toList 0 (fun j=>by simp) hs S1 (fun i hi=>by
    have:=(List.mem_range'_1.1 hi).2
    have hl:ops.toList.length=ops.size:=by simp
    exact ⟨by show s.n+i<s.n+ops.size;omega,S.fr _ (by omega)⟩) hK1 hQ
   simpa [List.range_eq_range'] using this
  | true =>
   cases hM:zMeet ops (masks ops.toList []) as with
   | false=>rw [hM] at h;cases h
   | true =>
    rw [hM] at h
    cases h
    refine wpIn_region_any hm ?_;have he:Ext w { w with drawn:=w.drawn+1 }:=(Below.refl _ _).drew;have S2:ZSit O w0 N dl β ⟨s.tr,s.h,s.n+ops.size⟩ a { w with drawn:=w.drawn+1 }:=⟨S1.zh.ext he,S1.zs.ev (ZE.of_ext he),S1.sz,S1.fr,S1.df⟩;have hun:∀ i,i<ops.size→(Array.replicate ops.size false).getD i true=false:=by
     intro i hi;simp [Array.getD,hi]
    have hf:(List.range ops.size).filter (fun i => !(Array.replicate ops.size false).getD i true)=List.range ops.size:=by
     rw [List.filter_eq_self]
     intro i hi
     rw [hun i (by simpa using hi)];rfl
    have hrun:=zSeq_run (A:=fun i=>(as[i]?).getD default) ops.toList 0 (fun j=>by simp) hs rfl (fun i=>by
     cases as[i]? with
     | none=>exact .inl rfl
     | some x=>exact .inr rfl)
    refine zAny_ok (base:=s.n) (s':=s') TK HD hM (Nat.le_refl _) hd ops.size _ (by simp) (fun i o ho hl e he => ?_) (by rw [hf];simp) (by rw [hf];simpa [List.range_eq_range'] using hrun) S2 (fun i hi => ?_) hK1 fun β' a' w' E S'=>hQ β' a' w' ((ZE.of_ext he).trans E) S'
    ·have hlt:i<ops.size:=(Array.getElem?_eq_some_iff.1 ho).1;rw [hun i hlt] at hl;cases hl
    ·rw [hf] at hi
     have:=List.mem_range.1 hi
     exact ⟨by show s.n+i<s.n+ops.size;omega,S.fr _ (by omega)⟩
 ·cases h
end
/-! ### what is reckoned -/
abbrev ZOut:=Option (Exit×ZSt×List Nat)
def zLoop (f:ZSt→List Nat→ZOut):Nat→ZSt→List Nat→ZOut
 | 0,_,_=>none
 | m+1,s,dl=>match f s dl with
  | some (.normal,s,dl)=>zLoop f m s dl
  | r=>r
def zPutB (h:ZT ZB) (b:Nat) (B:ZB):Option (ZT ZB):=ZT.put 24 h b B
def zCode (O:Opq) (T:ZTs) (D:ZHd) (N:Nat):Code→ZSt→List Nat→ZOut
 | .skip,s,dl=>some (.normal,s,dl)
 | .label _,s,dl=>some (.normal,s,dl)
 | .region _ ops d,s,dl=>match zReg O T D ops d s with
  | some s=>some (.normal,s,dl)
  | none=>none
 | .seq a b,s,dl=>match zCode O T D N a s dl with
  | some (.normal,s,dl)=>zCode O T D N b s dl
  | r=>r
 | .cond c a b,s,dl=>match zE s.tr.get c with
  | .c (.v (.bool true))=>zCode O T D N a s dl
  | .c (.v (.bool false))=>zCode O T D N b s dl
  | _=>none
 | .block id c,s,dl=>match zCode O T D N c s dl with
  | some (.exit i,s,dl)=>cond (Nat.beq i id) (some (.normal,s,dl)) (some (.exit i,s,dl))
  | r=>r
 | .loop c,s,dl=>zLoop (zCode O T D N c) 4096 s dl
 | .exit id,s,dl=>some (.exit id,s,dl)
 | .scope c,s,dl=>match zCode O T D N c s dl with
  | some (.goto _,_,_)=>none
  | r=>r
 | .ret,s,dl=>some (.ret,s,dl)
 | .rangeFunc g ps asg body,s,dl=>match zE s.tr.get g with
  | .c (.f k ag fs cs)=>match zPutB s.h s.n (.d false) with
   | some h1=>match zPutB h1 (s.n+1) (.l .ready none s.tr N ps.toList asg body) with
    | some h2=>match zFN (s.n+2) with
     | some n2=>match D.call k (zBd ag fs++[.c (.y (s.n+1))]++cs.map .c) h2 n2 with
      | some (_,h3,n3)=>match h3.get (s.n+1) with
       | some (.l st pd tm nt ps' asg' body')=>match st,pd with
        | .busy,_=>none
        | _,none=>match zPutB h3 (s.n+1) (.l .exhausted none tm nt ps' asg' body') with
         | some h4=>some (.normal,⟨s.tr,h4,n3⟩,s.n :: dl)
         | none=>none
        | _,some .ret=>match zPutB h3 (s.n+1) (.l .exhausted (some .ret) tm nt ps' asg' body') with
         | some h4=>some (.ret,⟨s.tr,h4,n3⟩,s.n :: dl)
         | none=>none
        | _,some (.exit id)=>match zPutB h3 (s.n+1) (.l .exhausted (some (.exit id)) tm nt ps' asg' body') with
         | some h4=>some (.exit id,⟨s.tr,h4,n3⟩,s.n :: dl)
         | none=>none
        | _,_=>none
       | _=>none
      | none=>none
     | none=>none
    | none=>none
   | none=>none
  | _=>none
 | _,_,_=>none
section
variable {P:Program} {O:Opq} {T:ZTs} {D:ZHd} {w0:World} {N:Nat}
def ZSnd (P:Program) (O:Opq) (w0:World) (N:Nat) (c:Code) (f:ZSt→List Nat→ZOut) (r0:Option Nat) (m:Nat):Prop:=∀ {s s':ZSt} {dl dl':List Nat} {e:Exit},f s dl=some (e,s',dl')→∀ {β:Nat→Option Nat} {a:Act} {w:World},ZSit O w0 N dl β s a w→∀ {Q:Exit→Act→World→Prop},(∀ β' a' w',ZE O β β' w w'→ZSit O w0 N dl' β' s' a' w'→ZKp s.n s.h.get s'→Q e a' w')→c.wpIn (Fr r0) m P Q a w
theorem zLoop_ok {c:Code} {f:ZSt→List Nat→ZOut} {r0:Option Nat} {m:Nat} (hs:ZSnd P O w0 N c f r0 m):∀ (k:Nat) {s s':ZSt} {dl dl':List Nat} {e:Exit},zLoop f k s dl=some (e,s',dl')→∀ {β:Nat→Option Nat} {a:Act} {w:World},ZSit O w0 N dl β s a w→∀ {Q:Exit→Act→World→Prop},(∀ β' a' w',ZE O β β' w w'→ZSit O w0 N dl' β' s' a' w'→ZKp s.n s.h.get s'→Q e a' w')→LWI r0 P c Q a w
 | 0,s,s',dl,dl',e,h,β,a,w,S,Q,hQ=>by cases h
 | k+1,s,s',dl,dl',e,h,β,a,w,S,Q,hQ=>by
  simp only [zLoop] at h
  split at h
  ·rename_i s1 dl1 h1
   refine LWI_of_wpIn (m:=m) (hs h1 S fun β' a' w' E S' hK => ?_)
   exact zLoop_ok hs k h S' fun β'' a'' w'' E' S'' hK'=>hQ β'' a'' w'' (E.trans E') S'' (hK.trans hK')
  ·rename_i hne
   refine LWI_of_wpIn (m:=m) (hs h S fun β' a' w' E S' hK => ?_)
   have:=hQ β' a' w' E S' hK
   cases e with
   | normal=>exact absurd h (hne _ _)
   | _=>exact this
theorem zRange_ok (HD:ZHOK P O D) {g:Operand} {ps:Array Tmp} {asg body:Code} (h1:zcodeB N false asg=true) (h2:zcodeB N false body=true) (hps:∀ p∈ps.toList,p<N) {m:Nat}:ZSnd P O w0 N (.rangeFunc g ps asg body) (zCode O T D N (.rangeFunc g ps asg body)) none m:=by
 intro s s' dl dl' e h β a w S Q hQ
 simp only [zCode] at h
 split at h
 case h_2=>cases h
 rename_i k ag fs cs eg
 split at h
 case h_2=>cases h
 rename_i hh1 e1
 split at h
 case h_2=>cases h
 rename_i hh2 e2
 rw [zFN_eq] at h;simp only [] at h
 split at h
 case h_2=>cases h
 rename_i x hh3 n3 ecall
 have p1:=ZT.put_ok _ _ _ _ _ e1;have p2:=ZT.put_ok _ _ _ _ _ e2;obtain ⟨hbody,hcal⟩:=HD.call ecall;obtain ⟨fnk,f1,f2,f3⟩:=hbody;have hg:=zE_rep S.zs g;rw [eg] at hg;simp only [ZV,ZR] at hg;obtain ⟨us,vs,ex,r1,r2⟩:=hg;refine wpIn_rangeFunc ?_
 intro fn _
 obtain ⟨rec,hrec⟩:∃ rec:Loop,rec = { state:=.ready,pending:=none,fn,tmps:=a.tmps,params:=ps,assign:=asg,body,defers:=w.heap.size }:=⟨_,rfl⟩
 -- the two new blocks
 have hx1:Ext w (w.alloc (.deferred (some []))):=(Below.refl _ w).alloc (Nat.le_refl _) _;have hnew1:(w.alloc (.deferred (some []))).heap[w.heap.size]?=some (.deferred (some [])):=World.alloc_heap_new w _;have hn1:s.h.get s.n=none:=S.fr _ (Nat.le_refl _);obtain ⟨E1,Z1⟩:=S.zh.new (nm:=s.n) (B:=.d false) hn1 hx1 (Nat.le_refl _) (cell_lt hnew1) hnew1;obtain ⟨W1,hW1⟩:∃ W1,(w.alloc (.deferred (some []))).alloc (.loop rec)=W1:=⟨_,rfl⟩;have hsz1:(w.alloc (.deferred (some []))).heap.size=w.heap.size+1:=World.size_alloc _ _;have hL1:W1.heap[w.heap.size+1]?=some (.loop rec):=by
  rw [←hW1];have:=World.alloc_heap_new (w.alloc (.deferred (some []))) (.loop rec);rwa [hsz1] at this
 have hx2:Ext (w.alloc (.deferred (some []))) W1:=by rw [←hW1];exact (Below.refl _ _).alloc (Nat.le_refl _) _
 have hn2:upd s.h.get s.n (some (.d false)) (s.n+1)=none:=by rw [upd_ne _ _ (by omega)];exact S.fr _ (by omega)
 have hb2:∀ {b x},upd β s.n (some w.heap.size) b=some x→True:=fun _=>trivial;have E12:ZE O β (upd (upd β s.n (some w.heap.size)) (s.n+1) (some (w.heap.size+1))) w W1:=E1.trans (ZE.more hx2 (by
  rw [upd_ne _ _ (by omega)]
  cases e:β (s.n+1) with
  | none=>rfl
  | some x=>have:=S.zh.nb _ x e;rw [S.fr _ (by omega)] at this;cases this))
 obtain ⟨E2,Z2⟩:=Z1.new (nm:=s.n+1) (a:=w.heap.size+1) (B:=.l .ready none s.tr N ps.toList asg body) hn2 hx2 (by rw [hsz1];exact Nat.le_refl _) (cell_lt hL1) ⟨rec,hL1,by rw [hrec],by rw [hrec],by rw [hrec],by rw [hrec],by rw [hrec],by rw [hrec];exact S.sz,by rw [hrec];exact S.zs.ev E12,h1,h2,hps⟩;have Z2':ZH O w0 (upd (upd β s.n (some w.heap.size)) (s.n+1) (some (w.heap.size+1))) hh2.get W1:=by rw [p2,p1];exact Z2
 have fr2:∀ b,s.n+2≤b→hh2.get b=none:=fun b hb=>by
  rw [p2,p1,upd_ne _ _ (by omega),upd_ne _ _ (by omega)];exact S.fr b (by omega)
 have hb1:upd (upd β s.n (some w.heap.size)) (s.n+1) (some (w.heap.size+1)) s.n=some w.heap.size:=by rw [upd_ne _ _ (by omega),upd_same]
 have hbl:upd (upd β s.n (some w.heap.size)) (s.n+1) (some (w.heap.size+1)) (s.n+1)=some (w.heap.size+1):=upd_same _ _ _;have hargs:ZVs O (upd (upd β s.n (some w.heap.size)) (s.n+1) (some (w.heap.size+1))) W1 (zBd ag fs++[.c (.y (s.n+1))]++cs.map .c) (bnd ag us++[.func (.yield (w.heap.size+1)) #[] #[]]++vs) :=
  ((zBd_rep (ZRs.ev E12 _ _ r1)).app (by simp only [ZVs,and_true,ZV,ZR];exact ⟨_,hbl,rfl⟩)).app (ZRs.toV (ZRs.ev E12 _ _ r2))
 have hcall:=hcal Z2' fr2 hargs;have hargs':(bnd ag us++[Value.func (.yield (w.heap.size+1)) #[] #[]]++vs).toArray=(bnd ag us).toArray++#[.func (.yield (w.heap.size+1)) #[] #[]]++vs.toArray:=by simp
 rw [hargs'] at hcall;refine ⟨w.heap.size+1,[{ target:=.collected w.heap.size,args:=#[] }],W1,{ target:=.fn (.func k) vs.toArray,args:=(bnd ag us).toArray++#[.func (.yield (w.heap.size+1)) #[] #[]] },W1,k,(bnd ag us).toArray++#[.func (.yield (w.heap.size+1)) #[] #[]]++vs.toArray,W1,?_,?_,fun _ _=>trivial,?_,(fun hx=>absurd hx (by simp [Fence.wide])),?_⟩
 ·rw [←hW1,hrec];exact run_enterLoop_outer _ _ _ _ _
 ·simp only [resolve];rw [ex]
  simp [Deferred.ofValue,Act.eval]
 ·have hn':¬ fnk.name = "runtime.NumGoroutine" := by simpa using f2
  have hb':¬ fnk.body=none:=fun e=>by rw [e] at f3;cases f3
  simp [invoke,callFunc,f1,hn',hb']
 ·refine (callsFr hcall).mono ?_;rintro en W2 ⟨v,β2,rfl,E3,Z3,_,q1,q2,q3⟩
  -- behind the loop
  have fin:∀ {st:LoopState} {pd:Option Code} {tm:ZT ZX} {nt:Nat} {ps':List Nat} {asg' body':Code} {hh4:ZT ZB},hh3.get (s.n+1)=some (.l st pd tm nt ps' asg' body')→st≠.busy→zPutB hh3 (s.n+1) (.l .exhausted pd tm nt ps' asg' body')=some hh4 →
    ∃ W4,(Instr.endLoop (w.heap.size+1)).run P W2=.ok pd W4∧ZE O β β2 w W4∧ZSit O w0 N (s.n :: dl) β2 ⟨s.tr,hh4,n3⟩ { a with defers:=[{ target:=.collected w.heap.size,args:=#[] }]++a.defers } W4∧ZKp s.n s.h.get ⟨s.tr,hh4,n3⟩:=by
   intro st pd tm nt ps' asg' body' hh4 hL hst hput
   have pp:=ZT.put_ok _ _ _ _ _ hput;obtain ⟨aL,b1,b2,b3,b4⟩:=Z3.bl _ _ hL;have haL:=E3.nm _ _ hbl;rw [haL] at b1;cases b1;obtain ⟨L,l1,l2,l3,l4,l5,l6,l7,l8,l9⟩:=b2;obtain ⟨E4,Z4⟩:=Z3.obj (B':=.l .exhausted pd tm nt ps' asg' body') (g':=.loop { L with state:=.exhausted }) hL rfl haL l1 rfl (fun E hh=>⟨_,hh,rfl,l3,l4,l5,l6,l7,l8.ev E,l9⟩);have hend:=run_endLoop (P:=P) l1 (by rw [l2];exact hst);have Et:=(E12.trans E3).trans E4;refine ⟨_,hend.trans (by rw [l3];rfl),Et,?_,?_⟩
   case refine_2 =>
    refine ⟨by have:s.n+2≤n3:=q1;show s.n≤n3;omega,fun b hb h0 => ?_⟩
    show hh4.get b=none
    rw [pp,upd_ne _ _ (by omega)];refine q3 b (by omega) ?_;rw [p2,p1,upd_ne _ _ (by omega),upd_ne _ _ (by omega)];exact h0
   refine ⟨by rw [pp];exact Z4,S.zs.ev Et,S.sz,fun b hb => ?_,⟨⟨w.heap.size,E3.nm _ _ hb1,rfl⟩,S.df.ev Et.nm⟩⟩;rw [pp,upd_ne]
   ·exact q2 b hb
   ·have:s.n+2≤n3:=q1
    have hb:n3≤b:=hb
    omega
  split at h
  ·rename_i st pd tm nt ps' asg' body' hL
   split at h
   ·cases h
   ·rename_i hst
    split at h
    ·rename_i hh4 hput
     cases h
     obtain ⟨W4,k1,k2,k3,k4⟩:=fin hL (fun e=>hst e) hput
     exact ⟨none,W4,k1,hQ β2 _ W4 k2 k3 k4⟩
    ·cases h
   ·rename_i hst
    split at h
    ·rename_i hh4 hput
     cases h
     obtain ⟨W4,k1,k2,k3,k4⟩:=fin hL (fun e=>hst e) hput
     exact ⟨some .ret,W4,k1,wpIn_ret (hQ β2 _ W4 k2 k3 k4)⟩
    ·cases h
   ·rename_i id hst
    split at h
    ·rename_i hh4 hput
     cases h
     obtain ⟨W4,k1,k2,k3,k4⟩:=fin hL (fun e=>hst e) hput
     exact ⟨some (.exit id),W4,k1,wpIn_exit (hQ β2 _ W4 k2 k3 k4)⟩
    ·cases h
   ·cases h
  ·cases h
theorem zCode_ok (TK:ZTOK P O T) (HD:ZHOK P O D) (hm:P.follows .mixedOrders=true) {r0:Option Nat} {m:Nat}:∀ (c:Code) {rf:Bool},zcodeB N rf c=true→(rf=true→r0=none)→ZSnd P O w0 N c (zCode O T D N c) r0 m
 | .skip,_,_,_,s,s',dl,dl',e,h,β,a,w,S,Q,hQ=>by cases h;exact wpIn_skip (hQ β a w (ZE.refl _ _ _) S (ZKp.refl _))
 | .label _,_,_,_,s,s',dl,dl',e,h,β,a,w,S,Q,hQ=>by cases h;exact wpIn_label (hQ β a w (ZE.refl _ _ _) S (ZKp.refl _))
 | .region id ops d,_,hc,_,s,s',dl,dl',e,h,β,a,w,S,Q,hQ=>by
  simp only [zCode] at h
  split at h
  ·rename_i s1 h1
   cases h
   exact zReg_ok TK HD hm hc h1 S fun β' a' w' E S' hK=>hQ β' a' w' E S' hK
  ·cases h
 | .seq x y,_,hc,hr,s,s',dl,dl',e,h,β,a,w,S,Q,hQ=>by
  simp only [zcodeB,Bool.and_eq_true] at hc;simp only [zCode] at h
  split at h
  ·rename_i s1 dl1 h1
   refine wpIn_seq (zCode_ok TK HD hm x hc.1 hr h1 S fun β' a' w' E S' hK => ?_)
   exact zCode_ok TK HD hm y hc.2 hr h S' fun β'' a'' w'' E' S'' hK'=>hQ β'' a'' w'' (E.trans E') S'' (hK.trans hK')
  ·rename_i hne
   refine wpIn_seq (zCode_ok TK HD hm x hc.1 hr h S fun β' a' w' E S' hK => ?_)
   have:=hQ β' a' w' E S' hK
   cases e with
   | normal=>exact absurd h (hne _ _)
   | _=>exact this
 | .cond c x y,_,hc,hr,s,s',dl,dl',e,h,β,a,w,S,Q,hQ=>by
  simp only [zcodeB,Bool.and_eq_true] at hc;simp only [zCode] at h;have hv:=zE_rep S.zs c
  split at h
  ·rename_i ec
   exact wpIn_cond_true (vV ec hv) (zCode_ok TK HD hm x hc.1 hr h S hQ)
  ·rename_i ec
   exact wpIn_cond_false (vV ec hv) (zCode_ok TK HD hm y hc.2 hr h S hQ)
  ·cases h
 | .block id c,_,hc,hr,s,s',dl,dl',e,h,β,a,w,S,Q,hQ=>by
  simp only [zcodeB] at hc;simp only [zCode] at h
  split at h
  ·rename_i i s1 dl1 h1
   refine wpIn_block (zCode_ok TK HD hm c hc hr h1 S fun β' a' w' E S' hK => ?_)
   show if i=id then _ else _
   cases hb:Nat.beq i id with
   | true =>
    rw [hb] at h
    cases h
    rw [if_pos (beq_t' hb)]
    exact hQ β' a' w' E S' hK
   | false =>
    rw [hb] at h
    cases h
    rw [if_neg (beq_f' hb)]
    exact hQ β' a' w' E S' hK
  ·rename_i hne
   refine wpIn_block (zCode_ok TK HD hm c hc hr h S fun β' a' w' E S' hK => ?_)
   have:=hQ β' a' w' E S' hK
   cases e with
   | exit i=>exact absurd h (hne _ _ _)
   | _=>exact this
 | .loop c,_,hc,hr,s,s',dl,dl',e,h,β,a,w,S,Q,hQ=>by
  simp only [zcodeB] at hc;simp only [zCode] at h
  exact wpIn_of_LWI (zLoop_ok (m:=m) (zCode_ok TK HD hm c hc hr) 4096 h S hQ)
 | .exit id,_,_,_,s,s',dl,dl',e,h,β,a,w,S,Q,hQ=>by cases h;exact wpIn_exit (hQ β a w (ZE.refl _ _ _) S (ZKp.refl _))
 | .scope c,_,hc,hr,s,s',dl,dl',e,h,β,a,w,S,Q,hQ=>by
  simp only [zcodeB] at hc;simp only [zCode] at h
  split at h
  ·cases h
  ·rename_i hne
   refine wpIn_scope_straight (zCode_ok TK HD hm c hc hr h S fun β' a' w' E S' hK => ?_)
   have:=hQ β' a' w' E S' hK
   cases e with
   | goto l=>exact absurd h (hne _ _ _)
   | _=>exact this
 | .ret,_,_,_,s,s',dl,dl',e,h,β,a,w,S,Q,hQ=>by cases h;exact wpIn_ret (hQ β a w (ZE.refl _ _ _) S (ZKp.refl _))
 | .rangeFunc g ps asg body,rf,hc,hr,s,s',dl,dl',e,h,β,a,w,S,Q,hQ=>by
  simp only [zcodeB,Bool.and_eq_true,List.all_eq_true,Nat.blt_eq] at hc;have hr:=hr hc.1.1.1;subst hr
  exact zRange_ok HD hc.1.1.2 hc.1.2 (fun p hp=>hc.2 p hp) h S hQ
 | .goto _,_,_,_,s,s',dl,dl',e,h,β,a,w,S,Q,hQ=>by cases h
 | .refuse _,_,_,_,s,s',dl,dl',e,h,β,a,w,S,Q,hQ=>by cases h
end
/-! ### what is reckoned -/
def zArgs:List ZX→Nat→ZT ZX→Option (ZT ZX)
 | [],_,t=>some t
 | x :: l,i,t=>match zFX x with
  | some x=>match ZT.put 24 t i x with
   | some t=>zArgs l (i+1) t
   | none=>none
  | none=>none
def zMarks:List Nat→ZT ZB→Option (ZT ZB)
 | [],h=>some h
 | b :: l,h=>match h.get b with
  | some (.d false)=>match ZT.put 24 h b (.d true) with
   | some h=>zMarks l h
   | none=>none
  | _=>none
def zRes (T:ZTs) (tr:ZT ZX) (h:ZT ZB):List ResultVar→Option (List ZX)
 | []=>some []
 | .tmp t :: l=>match zRes T tr h l with
  | some r=>some ((tr.get t).getD (.t []) :: r)
  | none=>none
 | .cell a t :: l=>match T t,(tr.get a).getD (.t []) with
  | some y,.c (.p b off)=>match h.get b with
   | some B=>match B.rd with
    | some cs=>match zPart y cs off,zRes T tr h l with
     | some x,some r=>some (x :: r)
     | _,_=>none
    | none=>none
   | none=>none
  | _,_=>none
def zJoin:List ZX→ZX
 | [x]=>x
 | l=>.t l
def zFn (O:Opq) (T:ZTs) (D:ZHd) (fn:Func) (xs:List ZX) (h:ZT ZB) (n:Nat):Option (ZX×ZT ZB×Nat):=match zArgs xs 0 .e with
 | some tr=>cond (Nat.ble xs.length fn.ntmps) (match zCode O T D fn.ntmps (bodyF fn) ⟨tr,h,n⟩ [] with
  | some (e,s,dl)=>match (match e with
    | .normal=>true
    | .ret=>true
    | _=>false) with
   | true=>match zMarks dl s.h with
    | some h'=>match zRes T s.tr h' fn.results.toList with
     | some l=>match zFX (zJoin l) with
      | some x=>some (x,h',s.n)
      | none=>none
     | none=>none
    | none=>none
   | false=>none
  | none=>none) none
 | none=>none
def zPs:List Nat→List ZX→ZT ZX→Option (ZT ZX)
 | p :: ps,x :: xs,t=>match zFX x with
  | some x=>match ZT.put 24 t p x with
   | some t=>zPs ps xs t
   | none=>none
  | none=>none
 | [],[],t=>some t
 | _,_,_=>none
def zRnd (O:Opq) (T:ZTs) (D:ZHd) (b:Nat) (xs:List ZX) (h:ZT ZB) (n:Nat):Option (ZX×ZT ZB×Nat):=match h.get b with
 | some (.l .ready none tm nt ps asg body)=>match zPs ps xs tm with
  | some tr=>match zCode O T D nt asg ⟨tr,h,n⟩ [] with
   | some (.normal,s1,[])=>match s1.h.get b with
    | some (.l .ready none tm1 nt1 ps1 asg1 body1)=>match ZT.put 24 s1.h b (.l .busy none tm1 nt1 ps1 asg1 body1) with
     | some h1=>match zCode O T D nt body ⟨s1.tr,h1,s1.n⟩ [] with
      | some (e,s2,[])=>match s2.h.get b with
       | some (.l .busy none tm2 nt2 ps2 asg2 body2)=>match e with
        | .normal=>match ZT.put 24 s2.h b (.l .ready none tm2 nt2 ps2 asg2 body2) with
         | some h2=>some (.c (.v (.bool true)),h2,s2.n)
         | none=>none
        | .ret=>match ZT.put 24 s2.h b (.l .done (some .ret) tm2 nt2 ps2 asg2 body2) with
         | some h2=>some (.c (.v (.bool false)),h2,s2.n)
         | none=>none
        | .exit id=>match ZT.put 24 s2.h b (.l .done (some (.exit id)) tm2 nt2 ps2 asg2 body2) with
         | some h2=>some (.c (.v (.bool false)),h2,s2.n)
         | none=>none
        | _=>none
       | _=>none
      | _=>none
     | none=>none
    | _=>none
   | _=>none
  | none=>none
 | _=>none
section
variable {P:Program} {O:Opq} {T:ZTs} {D:ZHd} {w0:World} {β:Nat→Option Nat} {w:World}
theorem zArgs_get:∀ (xs:List ZX) (i:Nat) (t t':ZT ZX),zArgs xs i t=some t'→∀ j,t'.get j=if i≤j∧j<i+xs.length then xs[j-i]? else t.get j
 | [],i,t,t',h,j=>by cases h;rw [if_neg (by simp)]
 | x :: l,i,t,t',h,j=>by
  simp only [zArgs,zFX_eq] at h
  split at h
  ·rename_i t1 h1
   have ih:=zArgs_get l (i+1) t1 t' h j;rw [ih,ZT.put_ok _ _ _ _ _ h1]
   by_cases hj:j=i
   ·subst hj;rw [if_neg (by omega),if_pos (by simp),upd_same];simp
   ·rw [upd_ne _ _ hj]
    by_cases hc:i+1≤j∧j<i+1+l.length
    ·rw [if_pos hc,if_pos (by simp;omega)];rw [show j-i=(j-(i+1))+1 by omega];simp
    ·rw [if_neg hc,if_neg (by simp;omega)]
  ·cases h
theorem ZVs.get {xs:List ZX} {vs:List Value} (h:ZVs O β w xs vs) (i:Nat):ZV O β w ((xs[i]?).getD (.t [])) ((vs[i]?).getD undef):=by
 cases hx:xs[i]? with
 | none =>
  have:vs[i]?=none:=by
   rw [List.getElem?_eq_none_iff] at hx ⊢;rw [←h.len];exact hx
  rw [this];exact zvT
 | some x =>
  obtain ⟨v,hv,r⟩:=h.at i x hx;rw [hv];exact r
theorem zsit_enter {h:ZT ZB} {n N:Nat} {xs:List ZX} {vs:List Value} {tr:ZT ZX} (Z:ZH O w0 β h.get w) (hf:∀ b,n≤b→h.get b=none) (hv:ZVs O β w xs vs) (ha:zArgs xs 0 .e=some tr) (hl:xs.length≤N):ZSit O w0 N [] β ⟨tr,h,n⟩ { tmps:=vs.toArray++Array.replicate (N-vs.toArray.size) undef,defers:=[] } w:=by
 have hlen:=hv.len;refine ⟨Z,fun i => ?_,by simp;omega,hf,trivial⟩;have hg:=zArgs_get xs 0 .e tr ha i;have e1:tr.get i=xs[i]?:=by
  rw [hg]
  by_cases hi:i<xs.length
  ·rw [if_pos ⟨Nat.zero_le _,by omega⟩];simp
  ·rw [if_neg (by omega),List.getElem?_eq_none (by omega)];rfl
 have e2:(vs.toArray++Array.replicate (N-vs.toArray.size) undef).getD i undef=(vs[i]?).getD undef:=by
  rw [Array.getD_eq_getD_getElem?]
  by_cases hi:i<vs.length
  ·rw [Array.getElem?_append_left (by simpa using hi)];simp
  ·rw [Array.getElem?_append_right (by simp;omega),List.getElem?_eq_none (by omega)];simp only [List.size_toArray,Option.getD_none]
   by_cases hi2:i-vs.length<N-vs.length
   ·simp [hi2]
   ·simp [Nat.le_of_not_lt hi2]
 show ZV O β w ((tr.get i).getD (.t [])) _
 rw [e1,e2]
 exact hv.get i
theorem zRes_ok (TK:ZTOK P O T) {N:Nat} {dl:List Nat} {s:ZSt} {a:Act} (S:ZSit O w0 N dl β s a w):∀ {rs:List ResultVar} {l:List ZX},zRes T s.tr s.h rs=some l→∃ us:List Value,(rs.mapM (readR a.tmps)).run P w=.ok us w∧ZVs O β w l us
 | [],l,h=>by cases h;exact ⟨[],rfl,by simp only [ZVs]⟩
 | .tmp t :: rs,l,h=>by
  simp only [zRes] at h
  split at h
  ·rename_i r hr
   cases h
   obtain ⟨us,h1,h2⟩:=zRes_ok TK S hr;refine ⟨a.tmps.getD t undef :: us,?_,by simp only [ZVs];exact ⟨S.zs t,h2⟩⟩;rw [List.mapM_cons,Sem.run_bind]
   show Result.andThen (Result.ok _ w) _=_
   rw [Result.andThen_ok,Sem.run_bind,h1];rfl
  ·cases h
 | .cell c t :: rs,l,h=>by
  simp only [zRes] at h
  split at h
  ·rename_i y b off ht hc
   split at h
   ·rename_i B hB
    split at h
    ·rename_i cs hcs
     split at h
     ·rename_i x r hx hr
      cases h
      obtain ⟨us,h1,h2⟩:=zRes_ok TK S hr;have hv:=S.zs c;rw [hc] at hv;simp only [ZV,ZR] at hv;obtain ⟨q,hq,ex⟩:=hv;obtain ⟨q',q1,q2,_⟩:=S.zh.bl b B hB;rw [hq] at q1;cases q1;obtain ⟨vs,ts,U,fr,g,rv⟩:=ZB.rd_ok hcs q2;obtain ⟨v,hv,rx⟩:=zPart_load (TK t y ht) (b:=q) hx rv (fun j v hj=>by
       have hl:=(List.getElem?_eq_some_iff.1 hj).1;simp only [World.cell?,g]
       simpa [List.getElem?_append_left hl] using hj)
      refine ⟨v :: us,?_,by simp only [ZVs];exact ⟨rx,h2⟩⟩;have hrd:(readR a.tmps (.cell c t)).run P w=.ok v w:=by
       show (do loadVar t (←asAddr (a.tmps.getD c undef)):Sem Value).run P w=_
       rw [ex];simp only [asAddr,Sem.run_bind,Sem.run_pure,Result.andThen_ok]
       simpa [Instr.loadAt,Instr.sureAddr] using hv
      rw [List.mapM_cons,Sem.run_bind,hrd,Result.andThen_ok,Sem.run_bind,h1];rfl
     ·cases h
    ·cases h
   ·cases h
  ·cases h
theorem zJoin_ok {l:List ZX} {us:List Value} (h:ZVs O β w l us):ZV O β w (zJoin l) (if h:us.toArray.size=1 then us.toArray[0] else .tuple us.toArray):=by
 match l,us,h with
 | [],[],h=>simp only [zJoin,ZV];exact ⟨[],rfl,h⟩
 | [x],[u],h =>
  simp only [ZVs,and_true] at h
  exact h
 | x :: y :: l,u :: v :: us,h =>
  have:¬ (u :: v :: us).toArray.size=1:=by simp
  rw [dif_neg this];simp only [zJoin,ZV];exact ⟨_,rfl,h⟩
 | [],_ :: _,h=>simp only [ZVs] at h
 | _ :: _,[],h=>simp only [ZVs] at h
 | [x],u :: v :: us,h=>simp [ZVs] at h
 | x :: y :: l,[u],h=>simp [ZVs] at h
theorem zFn_ok (TK:ZTOK P O T) (HD:ZHOK P O D) (hm:P.follows .mixedOrders=true) {k:FuncId} {fn:Func} (hf:P.funcs[k]?=some fn) (hb:fn.body.isNone=false) (hc:zcodeB fn.ntmps true (bodyF fn)=true) {xs:List ZX} {h h':ZT ZB} {n n':Nat} {x:ZX} (he:zFn O T D fn xs h n=some (x,h',n')) {vs:List Value}
  (Z:ZH O w0 β h.get w) (hfr:∀ b,n≤b→h.get b=none) (hv:ZVs O β w xs vs):Calls P k vs.toArray w (ZPost O w0 β h n x h' n' w):=by
 have hbody:fn.body=some (bodyF fn):=by
  cases e:fn.body with
  | none=>rw [e] at hb;cases hb
  | some c=>unfold bodyF;rw [e]
 unfold zFn at he
 split at he
 ·rename_i tr htr
  cases hl:Nat.ble xs.length fn.ntmps with
  | false=>rw [hl] at he;cases he
  | true =>
   rw [hl] at he;simp only [cond_true] at he
   split at he
   ·rename_i e s dl hcode
    split at he
    ·rename_i hex
     split at he
     ·rename_i h1 hmk
      split at he
      ·rename_i l hres
       rw [zFX_eq] at he
       cases he
       have S0:=zsit_enter Z hfr hv htr (Nat.le_of_ble_eq_true hl);refine (callsIn_wide (n:=0)).1 ?_;refine callsIn_of_wp_marks hf hbody trivial ?_
       show (bodyF fn).wpIn (Fr none) 0 P _ _ w
       refine zCode_ok TK HD hm (bodyF fn) hc (fun _=>rfl) hcode S0 fun β1 a1 w1 E1 S1 hK1 => ?_
       -- the marks,the results
       have go:∀ (dl:List Nat) (ds:List Deferred) (s1:ZSt) (β1:Nat→Option Nat) (w1:World),zMarks dl s1.h=some h'→ZDf β1 dl ds→ZE O β β1 w w1→ZSit O w0 fn.ntmps dl β1 s1 { a1 with defers:=ds } w1→s1.tr=s.tr→s1.n=s.n→ZKp n h.get s1 →
         LeavesInM Fence.wide 0 P fn a1.tmps (ZPost O w0 β h n (zJoin l) h' s.n w) ds .returning w1:=by
        intro dl
        induction dl with
        | nil =>
         intro ds s1 β1 w1 hm' hdf E S hs hn hK
         cases ds with
         | cons _ _=>exact hdf.elim
         | nil =>
          cases hm'
          rw [←hs] at hres;obtain ⟨us,r1,r2⟩:=zRes_ok TK S hres;refine ⟨_,results_run (a := { a1 with defers:=[] }) r1,_,β1,rfl,E,S.zh,zJoin_ok r2,?_,?_,fun b hb h0=>hK.2 b hb h0⟩
          ·rw [←hn];exact hK.1
          ·rw [←hn];exact S.fr
        | cons b dl ih =>
         intro ds s1 β1 w1 hm' hdf E S hs hn hK
         cases ds with
         | nil=>exact hdf.elim
         | cons d ds =>
          obtain ⟨⟨q,hq,hd⟩,hdf'⟩:=hdf;subst hd;simp only [zMarks] at hm'
          split at hm'
          ·rename_i hgb
           split at hm'
           ·rename_i h2 hput
            have pp:=ZT.put_ok _ _ _ _ _ hput;obtain ⟨q',p1,p2,p3,p4⟩:=S.zh.bl b _ hgb;rw [hq] at p1;cases p1;have p2:w1.heap[q]?=some (.deferred (some [])):=p2;obtain ⟨E2,Z2⟩:=S.zh.obj (B':=.d true) (g':=.deferred none) hgb rfl hq p2 rfl (fun _ hh=>hh);refine ⟨(fun h=>by cases h),.inl ⟨q,_,rfl,run_takeDeferred p2,?_⟩⟩;refine ih ds ⟨s1.tr,h2,s1.n⟩ β1 _ hm' hdf' (E.trans E2) ⟨by rw [pp];exact Z2,S.zs.ev E2,S.sz,fun c hc => ?_,hdf'⟩ hs hn ⟨hK.1,fun c hc h0 => ?_⟩
            ·show h2.get c=none
             rw [pp,upd_ne]
             ·exact S.fr c hc
             ·intro e;rw [e] at hc;have:=S.fr b hc;rw [hgb] at this;cases this
            ·show h2.get c=none
             rw [pp,upd_ne]
             ·exact hK.2 c hc h0
             ·intro e;rw [e] at hc h0;have:=hK.2 b hc h0;rw [hgb] at this;cases this
           ·cases hm'
          ·cases hm'
       have main:=go dl a1.defers s β1 w1 hmk S1.df E1 S1 rfl rfl hK1
       cases e with
       | normal=>exact main
       | ret=>exact main
       | _=>cases hex
      ·cases he
     ·cases he
    ·cases he
   ·cases he
 ·cases he
end
section
variable {P:Program} {O:Opq} {T:ZTs} {D:ZHd} {w0:World} {β:Nat→Option Nat} {w:World}
theorem zPs_ok:∀ (ps:List Nat) (xs:List ZX) (vs:List Value) (t t':ZT ZX) (tm:Array Value),zPs ps xs t=some t'→ZVs O β w xs vs→(∀ p∈ps,p<tm.size)→ZS O β w t.get tm→ps.length=vs.length∧ZS O β w t'.get ((ps.zip vs).foldl (fun t (x:Nat×Value)=>t.setIfInBounds x.1 x.2) tm)
 | [],[],[],t,t',tm,h,_,_,hs=>by cases h;exact ⟨rfl,hs⟩
 | p :: ps,x :: xs,v :: vs,t,t',tm,h,hv,hp,hs=>by
  simp only [zPs,zFX_eq] at h;simp only [ZVs] at hv
  split at h
  ·rename_i t1 h1
   have:=zPs_ok ps xs vs t1 t' (tm.setIfInBounds p v) h hv.2 (fun q hq=>by simp;exact hp q (by simp [hq])) (by rw [ZT.put_ok _ _ _ _ _ h1];exact hs.put (hp p (by simp)) hv.1)
   exact ⟨by simp [this.1],this.2⟩
  ·cases h
 | [],_ :: _,_,_,_,_,h,_,_,_=>by simp [zPs] at h
 | _ :: _,[],_,_,_,_,h,_,_,_=>by simp [zPs] at h
 | [],[],_ :: _,_,_,_,_,hv,_,_=>by simp only [ZVs] at hv
 | _ :: _,_ :: _,[],_,_,_,_,hv,_,_=>by simp only [ZVs] at hv
theorem ZSit.recd {N:Nat} {s:ZSt} {a:Act} (S:ZSit O w0 N [] β s a w) {b lo:Nat} {st:LoopState} {pd:Option Code} {tm:ZT ZX} {nt:Nat} {ps:List Nat} {asg body:Code} (hb:s.h.get b=some (.l st pd tm nt ps asg body)) (hlo:β b=some lo) :
  ∃ L:Loop,w.heap[lo]?=some (.loop L)∧L.state=st∧∀ (st':LoopState) (pd':Option Code) {h':ZT ZB},ZT.put 24 s.h b (.l st' pd' tm nt ps asg body)=some h'→ZE O β β w (setBlock w lo (.loop { L with state:=st',pending:=pd' }))∧ZSit O w0 N [] β ⟨s.tr,h',s.n⟩ a (setBlock w lo (.loop { L with state:=st',pending:=pd' }))∧ZKp s.n s.h.get ⟨s.tr,h',s.n⟩:=by
 obtain ⟨q,q1,q2,_⟩:=S.zh.bl b _ hb;rw [hlo] at q1;cases q1;obtain ⟨L,l1,l2,l3,l4,l5,l6,l7,l8,l9⟩:=q2;refine ⟨L,l1,l2,fun st' pd' {h'} hput => ?_⟩;have pp:=ZT.put_ok _ _ _ _ _ hput;obtain ⟨E,Z'⟩:=S.zh.obj (B':=.l st' pd' tm nt ps asg body) (g':=.loop { L with state:=st',pending:=pd' }) hb rfl hlo l1 rfl (fun E hh=>⟨_,hh,rfl,rfl,l4,l5,l6,l7,l8.ev E,l9⟩);refine ⟨E,⟨by rw [pp];exact Z',S.zs.ev E,S.sz,fun c hc => ?_,S.df⟩,Nat.le_refl _,fun c _ h0 => ?_⟩
 ·show h'.get c=none
  rw [pp,upd_ne]
  ·exact S.fr c hc
  ·intro e;rw [e] at hc;have:=S.fr b hc;rw [hb] at this;cases this
 ·show h'.get c=none
  rw [pp,upd_ne]
  ·exact h0
  ·intro e;rw [e,hb] at h0;cases h0
theorem zRnd_ok (TK:ZTOK P O T) (HD:ZHOK P O D) (hm:P.follows .mixedOrders=true) {b:Nat} {xs:List ZX} {h h':ZT ZB} {n n':Nat} {x:ZX} (he:zRnd O T D b xs h n=some (x,h',n')) {vs:List Value} {lo:Nat}
  (Z:ZH O w0 β h.get w) (hfr:∀ b,n≤b→h.get b=none) (hv:ZVs O β w xs vs) (hlo:β b=some lo) :
  ∃ f tmps assign body,(Instr.yield lo vs.toArray).run P w=.ok (.round lo f tmps assign body) w∧∀ m,RoundIn (Fr none) m P lo f tmps assign body w (ZPost O w0 β h n x h' n' w):=by
 unfold zRnd at he
 split at he
 case h_2=>cases he
 rename_i tm nt ps asg body hgb
 split at he
 case h_2=>cases he
 rename_i tr htr
 split at he
 case h_2=>cases he
 rename_i s1 hc1
 split at he
 case h_2=>cases he
 rename_i tm1 nt1 ps1 asg1 body1 hg1
 split at he
 case h_2=>cases he
 rename_i h1 hput1
 split at he
 case h_2=>cases he
 rename_i e s2 hc2
 split at he
 case h_2=>cases he
 rename_i tm2 nt2 ps2 asg2 body2 hg2
 obtain ⟨q,q1,q2,_⟩:=Z.bl b _ hgb;rw [hlo] at q1;cases q1;obtain ⟨L,l1,l2,l3,l4,l5,l6,l7,l8,l9,l10,l11⟩:=q2;obtain ⟨hlen,hzs⟩:=zPs_ok ps xs vs tm tr L.tmps htr hv (fun p hp=>by rw [l7];exact l11 p hp) l8;refine ⟨L.fn,_,L.assign,L.body,run_yield l1 (by rw [l4];simp [hlen]),fun m => ?_⟩;refine roundIn_of_wpIn (F:=Fr none) trivial ?_;rw [l5,l6]
 show asg.wpIn (Fr (some lo)) m P _ _ w
 have hz:(L.params.zip vs.toArray).foldl (fun tmps (x:Tmp×Value)=>tmps.setIfInBounds x.1 x.2) L.tmps=(ps.zip vs).foldl (fun t (x:Nat×Value)=>t.setIfInBounds x.1 x.2) L.tmps:=by
  rw [l4,List.zip_toArray,List.foldl_toArray]
 have hz':(L.params.zip vs.toArray).foldl (fun tmps (t,a)=>tmps.setIfInBounds t a) L.tmps=(ps.zip vs).foldl (fun t (x:Nat×Value)=>t.setIfInBounds x.1 x.2) L.tmps:=hz;rw [hz'];have fs:∀ (l:List (Nat×Value)) (t:Array Value),(l.foldl (fun t (x:Nat×Value)=>t.setIfInBounds x.1 x.2) t).size=t.size:=by
  intro l
  induction l with
  | nil=>intro t;rfl
  | cons p l ih=>intro t;rw [List.foldl_cons,ih];simp
 have S0:ZSit O w0 nt [] β ⟨tr,h,n⟩ { tmps:=(ps.zip vs).foldl (fun t (x:Nat×Value)=>t.setIfInBounds x.1 x.2) L.tmps,defers:=[] } w:=⟨Z,hzs,by rw [fs,l7],hfr,trivial⟩;refine zCode_ok TK HD hm asg l9 (fun e=>by cases e) hc1 S0 fun β1 a1 w1 E1 S1 hK1 => ?_
 show ∃ w₂,_
 have hlo1:=E1.nm _ _ hlo;obtain ⟨L1,r1,r2,r3⟩:=S1.recd hg1 hlo1;obtain ⟨E2,S2,hK2⟩:=r3 .busy none hput1;have hL1:L1.pending=none:=by
  obtain ⟨q,q1,q2,_⟩:=S1.zh.bl b _ hg1;rw [hlo1] at q1;cases q1;obtain ⟨L',t1,_,t3,_⟩:=q2;rw [r1] at t1;cases t1;exact t3
 have hLb:({ L1 with state:=.busy,pending:=none }:Loop) = { L1 with state:=.busy }:=by rw [←hL1]
 rw [hLb] at E2 S2;refine ⟨_,run_beginRound r1 r2,?_⟩
 show body.wpIn (Fr (some lo)) m P _ a1 (setBlock w1 lo (.loop { L1 with state:=.busy }))
 refine zCode_ok TK HD hm body l10 (fun e=>by cases e) hc2 S2 fun β3 a3 w3 E3 S3 hK3 => ?_;have hlo3:=E3.nm _ _ hlo1;obtain ⟨L3,t1,t2,t3⟩:=S3.recd hg2 hlo3;have hKn:ZKp n h.get s2:=(hK1.trans hK2).trans hK3;have fin:∀ (jump:Option Code) (st:LoopState) (v:Bool) {h2:ZT ZB},(if jump.isNone then LoopState.ready else .done)=st→jump.isNone=v→ZT.put 24 s2.h b (.l st jump tm2 nt2 ps2 asg2 body2)=some h2 →
   ∃ u w',(Instr.endRound lo jump).run P w3=.ok u w'∧ZPost O w0 β h n (.c (.v (.bool v))) h2 s2.n w (.returned u) w':=by
  intro jump st v h2 hst hv' hput
  obtain ⟨E4,S4,hK4⟩:=t3 st jump hput;have he:=run_endRound (P:=P) jump t1;rw [hst,hv'] at he;have hK:=hKn.trans hK4
  exact ⟨_,_,he,_,β3,rfl,((E1.trans E2).trans E3).trans E4,S4.zh,zvc rfl,hK.1,S4.fr,fun c hc h0=>hK.2 c hc h0⟩
 split at he
 ·split at he
  ·rename_i h2 hput;cases he;exact fin none .ready true rfl rfl hput
  ·cases he
 ·split at he
  ·rename_i h2 hput;cases he;exact fin (some .ret) .done false rfl rfl hput
  ·cases he
 ·split at he
  ·rename_i h2 hput;cases he;exact fin (some (.exit _)) .done false rfl rfl hput
  ·cases he
 ·cases he
end
/-! ### so many calls deep -/
def zCaught (D:ZHd) (te:TypeId) (xs:List ZX) (h:ZT ZB) (n:Nat):Option (ZX×ZT ZB×Nat):=match xs with
 | [.c (.f k ag fs cs)]=>match ZT.put 24 h n (.b te [.v (.int .i64 0)]) with
  | some h1=>match zFN (n+1) with
   | some n1=>match D.call k (zBd ag fs++cs.map .c) h1 n1 with
    | some (_,h2,n2)=>match h2.get n with
     | some (.b T [.v (.int .i64 (.ofNat 0))])=>cond (Nat.beq T te) (some (.c (.v (.int .i64 0)),h2,n2)) none
     | _=>none
    | none=>none
   | none=>none
  | none=>none
 | _=>none
abbrev ZFT:=FuncId→Option Func
def zRun (O:Opq) (T:ZTs) (FT:ZFT) (ct:FuncId→List ZX→Option ZX) (im:TypeId→String→Option FuncId) (ck:FuncId) (te:TypeId):Nat→ZHd
 | 0=>⟨ct,im,fun _ _ _ _=>none,fun _ _ _ _=>none⟩
 | j+1=>⟨ct,im,fun k xs h n=>cond (Nat.beq k ck) (zCaught (zRun O T FT ct im ck te j) te xs h n) (match FT k with
  | some fn=>zFn O T (zRun O T FT ct im ck te j) fn xs h n
  | none=>none),zRnd O T (zRun O T FT ct im ck te j)⟩
structure ZFOK (P:Program) (k:FuncId) (fn:Func):Prop where
 at_:P.funcs[k]?=some fn
 nm:(fn.name == "runtime.NumGoroutine")=false
 bd:fn.body.isNone=false
 ok:zcodeB fn.ntmps true (bodyF fn)=true
def CaughtOK (P:Program) (O:Opq) (te:TypeId) (ck:FuncId):Prop:=ZBody P ck∧O.box te=true∧∀ {w:World} {k:FuncId} {us vs:List Value} {Po:Ending→World→Prop},ZBody P k →
 Calls P k (us++vs).toArray (w.alloc (.cells #[.int .i64 0] te)) Po→(∀ e w',Po e w'→(∃ v,e=.returned v)∧∃ ts:List Value,w'.heap[w.heap.size]?=some (.cells (Value.int .i64 0 :: ts).toArray te (0,0))) →
  Calls P ck #[.func (.func k) us.toArray vs.toArray] w fun e w'=>∃ e1,e=.returned (.int .i64 0)∧Po e1 w'
section
variable {P:Program} {O:Opq} {T:ZTs} {w0:World} {β:Nat→Option Nat} {w:World}
theorem zCaught_ok {D:ZHd} (HD:ZHOK P O D) {ck:FuncId} {te:TypeId} (HC:CaughtOK P O te ck) {xs:List ZX} {h h':ZT ZB} {n n':Nat} {x:ZX} (he:zCaught D te xs h n=some (x,h',n')) {vs:List Value}
  (Z:ZH O w0 β h.get w) (hfr:∀ b,n≤b→h.get b=none) (hv:ZVs O β w xs vs):Calls P ck vs.toArray w (ZPost O w0 β h n x h' n' w):=by
 unfold zCaught at he
 split at he
 case h_2=>cases he
 rename_i k ag fs cs
 split at he
 case h_2=>cases he
 rename_i h1 hput
 rw [zFN_eq] at he;simp only [] at he
 split at he
 case h_2=>cases he
 rename_i x1 h2 n2 hcall
 split at he
 case h_2=>cases he
 rename_i T1 hg
 cases hT:Nat.beq T1 te with
 | false=>rw [hT] at he;cases he
 | true =>
  rw [hT] at he
  cases he
  have hT:=beq_t' hT;subst hT
  match vs,hv with
  | [v],hv =>
   simp only [ZVs,and_true,ZV,ZR] at hv;obtain ⟨us,vs',rfl,r1,r2⟩:=hv;obtain ⟨hb,hbox,hc⟩:=HC;obtain ⟨hbk,hk⟩:=HD.call hcall;have pp:=ZT.put_ok _ _ _ _ _ hput;have hx1:Ext w (w.alloc (.cells #[.int .i64 0] T1)):=(Below.refl _ w).alloc (Nat.le_refl _) _;have hnew:(w.alloc (.cells #[.int .i64 0] T1)).heap[w.heap.size]?=some (.cells #[.int .i64 0] T1 (0,0)):=World.alloc_heap_new w _;have hn1:h.get n=none:=hfr _ (Nat.le_refl _);obtain ⟨E1,Z1⟩:=Z.new (nm:=n) (a:=w.heap.size) (B:=.b T1 [.v (.int .i64 0)]) hn1 hx1 (Nat.le_refl _) (cell_lt hnew) ⟨[.int .i64 0],[],by simpa using hnew,by simp only [ZRs,ZR,and_true];exact ⟨trivial,rfl⟩,hbox⟩;have Z1':ZH O w0 (upd β n (some w.heap.size)) h1.get (w.alloc (.cells #[.int .i64 0] T1)):=by rw [pp];exact Z1
   have fr1:∀ b,n+1≤b→h1.get b=none:=fun b hb=>by rw [pp,upd_ne _ _ (by omega)];exact hfr b (by omega)
   have hargs:ZVs O (upd β n (some w.heap.size)) (w.alloc (.cells #[.int .i64 0] T1)) (zBd ag fs++cs.map .c) (bnd ag us++vs') :=
    (zBd_rep (ZRs.ev E1 _ _ r1)).app (ZRs.toV (ZRs.ev E1 _ _ r2))
   refine (hc hbk (hk Z1' fr1 hargs) fun e w' ⟨v,β2,he,E2,Z2,_⟩=>⟨⟨v,he⟩,?_⟩).mono ?_
   ·obtain ⟨a,q1,⟨us1,ts,q2,q3,_⟩,_⟩:=Z2.bl n _ hg;rw [E2.nm _ _ (upd_same _ _ _)] at q1
    cases q1
    match us1,q3 with
    | [u],q3 =>
     simp only [ZRs,ZR,and_true] at q3;rw [q3.1] at q2
     exact ⟨ts,q2⟩
   ·rintro e w' ⟨e1,rfl,v,β2,rfl,E2,Z2,_,q1,q2,q3⟩;refine ⟨_,β2,rfl,E1.trans E2,Z2,zvc rfl,by omega,q2,fun b hb h0=>q3 b (by omega) ?_⟩;rw [pp,upd_ne _ _ (by omega)];exact h0
theorem zRun_ok {FT:ZFT} {ct:FuncId→List ZX→Option ZX} {im:TypeId→String→Option FuncId} {ck:FuncId} {te:TypeId} (TK:ZTOK P O T) (hm:P.follows .mixedOrders=true) (HF:∀ k fn,FT k=some fn→ZFOK P k fn)
  (H0:ZHOK P O ⟨ct,im,fun _ _ _ _=>none,fun _ _ _ _=>none⟩) (HC:CaughtOK P O te ck):∀ j,ZHOK P O (zRun O T FT ct im ck te j)
 | 0=>H0
 | j+1=>by
  have ih:=zRun_ok TK hm HF H0 HC j;refine ⟨H0.ct,H0.im,?_,?_⟩
  ·intro k xs h n x h' n' he
   have he:cond (Nat.beq k ck) (zCaught (zRun O T FT ct im ck te j) te xs h n) (match FT k with
    | some fn=>zFn O T (zRun O T FT ct im ck te j) fn xs h n
    | none=>none)=some (x,h',n'):=he
   cases hk:Nat.beq k ck with
   | true =>
    rw [hk] at he
    have:=beq_t' hk
    subst this
    exact ⟨HC.1,fun Z hfr hv=>zCaught_ok ih HC he Z hfr hv⟩
   | false =>
    rw [hk] at he;simp only [cond_false] at he
    split at he
    ·rename_i fn hf
     have hF:=HF k fn hf
     exact ⟨⟨fn,hF.at_,hF.nm,hF.bd⟩,fun Z hfr hv=>zFn_ok TK ih hm hF.at_ hF.bd hF.ok he Z hfr hv⟩
    ·cases he
  ·intro b xs h n x h' n' he w0 β w vs lo Z hfr hv hlo
   exact zRnd_ok TK ih hm he Z hfr hv hlo
end
end Go.Proofs.YtoaoebimjmjpeaaGreatDoor
