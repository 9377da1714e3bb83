/- A run of which everything is known, over this program: types, functions and contracts are checked by a Bool; trees of them. -/
import Derived.Lib.Bytealg
import Derived.Lib.Strings
import Derived.Test.YtoaoebimjmjpeaaGreatDoorT35
import Derived.Test.YtoaoebimjmjpeaaGreatDoorT25
namespace Go.Proofs.YtoaoebimjmjpeaaGreatDoor
open Go.RowKit Vn
open Go.ChangeMaps (setBlock)
set_option maxRecDepth 100000
set_option maxHeartbeats 8000000
/-! ### types -/
def zz1:ZC→Value→Bool
 | .v x,y=>zsV x y
 | .w [],.string ⟨⟨[]⟩⟩=>true
 | .o 0 0,.slice none 0 0=>true
 | .o 1 1,.slice none 0 0=>true
 | _,_=>false
def zzB:List ZC→List Value→Bool
 | [],[]=>true
 | c :: l,y :: m=>zz1 c y&&zzB l m
 | _,_=>false
theorem zsV_one {x y:Value} (h:zsV x y=true):y.oneCell'=true:=by
 unfold zsV at h
 split at h<;>first | rfl | cases h
theorem zz1_ok {c:ZC} {y:Value} (h:zz1 c y=true) (β:Nat→Option Nat) (w:World):ZR OQ β w c y:=by
 unfold zz1 at h
 split at h
 ·simp only [ZR];exact ⟨(zsV_ok h).symm,by rw [zsV_ok h];exact zsV_one h⟩
 ·simp only [ZR];exact ⟨rfl,fun n hn=>by cases hn⟩
 ·simp only [ZR];exact NatV.zero w
 ·simp only [ZR];exact .inl ⟨rfl,rfl⟩
 ·cases h
theorem zzB_ok:∀ {l:List ZC} {m:List Value},zzB l m=true→∀ (β:Nat→Option Nat) (w:World),ZRs OQ β w l m
 | [],[],_,_,_=>by simp only [ZRs]
 | c :: l,y :: m,h,β,w=>by
  simp only [zzB,Bool.and_eq_true] at h;simp only [ZRs]
  exact ⟨zz1_ok h.1 β w,zzB_ok h.2 β w⟩
 | [],_ :: _,h,_,_=>by cases h
 | _ :: _,[],h,_,_=>by cases h
def zzRow (b:Bool) (z:Value):Bool:=match z with
 | .agg _=>b
 | .tuple _=>false
 | _ => !b
theorem zzRow_ok {b:Bool} {z:Value} (h:zzRow b z=true):z=pack b z.cells.toList:=by
 cases z<;>cases b<;>first | rfl | cases h
def ztB (y:ZTy) (i:TypeInfo):Bool:=match i.zero with
 | some z=>Nat.beq i.size y.sz&&(Nat.beq i.bytes y.nb&&(Nat.beq z.cells.size y.sz&&(zzB y.zero z.cells.toList&&zzRow y.d.isRow z)))
 | none=>false
theorem ztf_of {P:Program} {t:TypeId} {y:ZTy} {i:TypeInfo} (hu:P.underlying t=some y.d) (hi:P.info? t=some i) (hb:ztB y i=true) (hm:∀ s∈y.me,∀ n v w,(nilAhead (n+1) t v s).run P w=.ok (some false) w):ZTF P OQ t y:=by
 unfold ztB at hb
 split at hb
 ·rename_i z hz
  simp only [Bool.and_eq_true] at hb;obtain ⟨h1,h2,h3,h4,h5⟩:=hb
  exact ⟨hu,⟨i,z,hi,beq_t' h1,beq_t' h2,hz,beq_t' h3,fun β w=>zzB_ok h4 β w,zzRow_ok h5⟩,hm⟩
 ·cases hb
/-! ### contracts -/
def zcA:ZC→Option AC
 | .v x=>some (.v x)
 | .o k n=>some (.o k n)
 | .w l=>some (.v (.string (zba l)))
 | _=>none
def zcAs:List ZC→Option (List AC)
 | []=>some []
 | c :: l=>match zcA c,zcAs l with
  | some a,some m=>some (a :: m)
  | _,_=>none
def zxA:ZX→Option AV
 | .c c=>match zcA c with
  | some a=>some (.c a)
  | none=>none
 | .g l=>match zcAs l with
  | some m=>some (.g m)
  | none=>none
 | _=>none
def zxAs:List ZX→Option (List AV)
 | []=>some []
 | c :: l=>match zxA c,zxAs l with
  | some a,some m=>some (a :: m)
  | _,_=>none
def zrA:ZX→Option AV
 | .t l=>match zxAs l with
  | some m=>some (.t m)
  | none=>none
 | x=>zxA x
def zby:List Nat→Bool
 | []=>true
 | n :: l=>Nat.blt n 256&&zby l
def zcW:ZC→Bool
 | .w l=>zby l
 | .v x=>x.oneCell'
 | _=>true
def zcWs:List ZC→Bool
 | []=>true
 | c :: l=>zcW c&&zcWs l
def zxW:ZX→Bool
 | .c c=>zcW c
 | .g l=>zcWs l
 | _=>true
def zxWs:List ZX→Bool
 | []=>true
 | c :: l=>zxW c&&zxWs l
def zrW:ZX→Bool
 | .t l=>zxWs l
 | x=>zxW x
theorem zby_ok:∀ {l:List Nat},zby l=true→∀ n∈l,n<256
 | [],_,n,hn=>by cases hn
 | a :: l,h,n,hn=>by
  simp only [zby,Bool.and_eq_true,Nat.blt_eq] at h
  cases hn with
  | head=>exact h.1
  | tail _ hn=>exact zby_ok h.2 n hn
section
variable {O:Opq} {β β':Nat→Option Nat} {S:Nat→Prop} {w:World}
theorem zcA_in {c:ZC} {a:AC} (h:zcA c=some a) {x:Value} (r:ZR O β w c x):RepC O β' S w x a:=by
 cases c<;>simp only [zcA] at h<;>(try cases h;done)
 ·cases h
  simp only [ZR] at r
  exact Rep0.toC (Rep0.v' r.1 r.2)
 ·cases h
  simp only [ZR] at r
  exact Rep0.toC (Rep0.v' r.1 rfl)
 ·cases h
  simp only [ZR] at r
  exact Rep0.toC (Rep0.o' r)
theorem zcAs_in:∀ {l:List ZC} {m:List AC} {vs:List Value},zcAs l=some m→ZRs O β w l vs→All2 (fun x c=>RepC O β' S w x c) vs m
 | [],_,[],h,_=>by cases h;trivial
 | c :: l,m,v :: vs,h,r=>by
  simp only [zcAs] at h;simp only [ZRs] at r
  split at h
  ·rename_i a m' h1 h2
   cases h
   exact ⟨zcA_in h1 r.1,zcAs_in h2 r.2⟩
  ·cases h
 | [],_,_ :: _,_,r=>by simp only [ZRs] at r
 | _ :: _,_,[],_,r=>by simp only [ZRs] at r
theorem zxA_in {x:ZX} {a:AV} (h:zxA x=some a) {v:Value} (r:ZV O β w x v):RepW O β' S w v a:=by
 cases x<;>simp only [zxA] at h<;>(try cases h;done)
 ·split at h
  ·rename_i a h1
   cases h
   simp only [ZV] at r
   exact zcA_in h1 r
  ·cases h
 ·split at h
  ·rename_i m h1
   cases h
   simp only [ZV] at r;obtain ⟨us,e,r⟩:=r
   exact ⟨us,e,zcAs_in h1 r⟩
  ·cases h
theorem zxAs_in:∀ {l:List ZX} {m:List AV} {vs:List Value},zxAs l=some m→ZVs O β w l vs→All2 (RepW O β' S w) vs m
 | [],_,[],h,_=>by cases h;trivial
 | c :: l,m,v :: vs,h,r=>by
  simp only [zxAs] at h;simp only [ZVs] at r
  split at h
  ·rename_i a m' h1 h2
   cases h
   exact ⟨zxA_in h1 r.1,zxAs_in h2 r.2⟩
  ·cases h
 | [],_,_ :: _,_,r=>by simp only [ZVs] at r
 | _ :: _,_,[],_,r=>by simp only [ZVs] at r
theorem zcA_out {c:ZC} {a:AC} (h:zcA c=some a) (hw:zcW c=true) {x:Value} (r:RepC O β' S w x a):ZR O β w c x:=by
 cases c<;>simp only [zcA] at h<;>(try cases h;done)
 ·cases h
  have r:Rep0 O S w (.v _) x:=r;rw [Rep0] at r;simp only [ZR]
  exact ⟨r.1,hw⟩
 ·cases h
  have r:Rep0 O S w (.v _) x:=r;rw [Rep0] at r;simp only [ZR]
  exact ⟨r.1,zby_ok hw⟩
 ·cases h
  have r:Rep0 O S w (.o _ _) x:=r;rw [Rep0] at r;simp only [ZR]
  exact r
theorem zcAs_out:∀ {l:List ZC} {m:List AC} {vs:List Value},zcAs l=some m→zcWs l=true→All2 (fun x c=>RepC O β' S w x c) vs m→ZRs O β w l vs
 | [],m,vs,h,_,r=>by
  cases h
  cases vs with
  | nil=>simp only [ZRs]
  | cons _ _=>exact r.elim
 | c :: l,m,vs,h,hw,r=>by
  simp only [zcAs] at h;simp only [zcWs,Bool.and_eq_true] at hw
  split at h
  ·rename_i a m' h1 h2
   cases h
   cases vs with
   | nil=>exact r.elim
   | cons v vs =>
    simp only [ZRs]
    exact ⟨zcA_out h1 hw.1 r.1,zcAs_out h2 hw.2 r.2⟩
  ·cases h
theorem zxA_out {x:ZX} {a:AV} (h:zxA x=some a) (hw:zxW x=true) {v:Value} (r:RepW O β' S w v a):ZV O β w x v:=by
 cases x<;>simp only [zxA] at h<;>(try cases h;done)
 ·split at h
  ·rename_i a h1
   cases h
   simp only [ZV]
   exact zcA_out h1 hw r
  ·cases h
 ·split at h
  ·rename_i m h1
   cases h
   obtain ⟨us,e,r⟩:=r;simp only [ZV]
   exact ⟨us,e,zcAs_out h1 hw r⟩
  ·cases h
theorem zxAs_out:∀ {l:List ZX} {m:List AV} {vs:List Value},zxAs l=some m→zxWs l=true→All2 (RepW O β' S w) vs m→ZVs O β w l vs
 | [],m,vs,h,_,r=>by
  cases h
  cases vs with
  | nil=>simp only [ZVs]
  | cons _ _=>exact r.elim
 | c :: l,m,vs,h,hw,r=>by
  simp only [zxAs] at h;simp only [zxWs,Bool.and_eq_true] at hw
  split at h
  ·rename_i a m' h1 h2
   cases h
   cases vs with
   | nil=>exact r.elim
   | cons v vs =>
    simp only [ZVs]
    exact ⟨zxA_out h1 hw.1 r.1,zxAs_out h2 hw.2 r.2⟩
  ·cases h
theorem zrA_out {x:ZX} {a:AV} (h:zrA x=some a) (hw:zrW x=true) {v:Value} (r:RepV O β' S w v a):ZV O β w x v:=by
 cases x with
 | t l =>
  simp only [zrA] at h
  split at h
  ·rename_i m h1
   cases h
   obtain ⟨us,e,r⟩:=r;simp only [ZV]
   exact ⟨us,e,zxAs_out h1 hw r⟩
  ·cases h
 | c c =>
  have h:zxA (.c c)=some a:=h
  cases a with
  | c a=>exact zxA_out h hw r
  | _=>simp only [zxA] at h;split at h<;>cases h
 | g l =>
  have h:zxA (.g l)=some a:=h
  cases a with
  | g a=>exact zxA_out h hw r
  | _=>simp only [zxA] at h;split at h<;>cases h
 | j=>cases h
end
def ZCt (P:Program) (O:Opq) (k:FuncId) (xs:List ZX) (r:ZX):Prop:=(ZBody P k∧∀ {β:Nat→Option Nat} {w:World} {vs:List Value},O.inv w→ZVs O β w xs vs→Calls P k vs.toArray w fun e w'=>∃ v,e=.returned v∧Ext w w'∧ZV O β w' r v) ∨
  ∀ {β:Nat→Option Nat} {w:World} {vs:List Value},ZVs O β w xs vs→∃ v,(callFunc k vs.toArray).run P w=.ok (.value v) w∧ZV O β w r v
theorem ctOf {P:Program} {O:Opq} {k:FuncId} {xs:List ZX} {r:ZX} {args:List AV} {ra:AV} (hc:Cal P O k args ra) (ha:zxAs xs=some args) (hr:zrA r=some ra) (hw:zrW r=true):ZCt P O k xs r :=
 .inl ⟨hc.body,fun {_ w vs} hi hv=>(hc.run (fun _=>False) w vs (fun _ h=>h.elim) hi (zxAs_in ha hv)).mono fun _ _ ⟨v,h1,h2,h3⟩=>⟨v,h1,h2,zrA_out hr hw h3⟩⟩
mutual
def zsXX:ZX→ZX→Bool
 | .c a,.c b=>zsC a b
 | .g l,.g m=>zsCs l m
 | .t l,.t m=>zsXXs l m
 | .j,.j=>true
 | _,_=>false
def zsXXs:List ZX→List ZX→Bool
 | [],[]=>true
 | a :: l,b :: m=>zsXX a b&&zsXXs l m
 | _,_=>false
end
mutual
theorem zsXX_ok:∀ (x y:ZX),zsXX x y=true→x=y
 | .c a,.c b,h=>by simp only [zsXX] at h;rw [zsC_ok _ _ h]
 | .g l,.g m,h=>by simp only [zsXX] at h;rw [zsCs_ok _ _ h]
 | .t l,.t m,h=>by simp only [zsXX] at h;rw [zsXXs_ok _ _ h]
 | .j,.j,_=>rfl
 | .c _,.g _,h=>by simp [zsXX] at h
 | .c _,.t _,h=>by simp [zsXX] at h
 | .c _,.j,h=>by simp [zsXX] at h
 | .g _,.c _,h=>by simp [zsXX] at h
 | .g _,.t _,h=>by simp [zsXX] at h
 | .g _,.j,h=>by simp [zsXX] at h
 | .t _,.c _,h=>by simp [zsXX] at h
 | .t _,.g _,h=>by simp [zsXX] at h
 | .t _,.j,h=>by simp [zsXX] at h
 | .j,.c _,h=>by simp [zsXX] at h
 | .j,.g _,h=>by simp [zsXX] at h
 | .j,.t _,h=>by simp [zsXX] at h
theorem zsXXs_ok:∀ (x y:List ZX),zsXXs x y=true→x=y
 | [],[],_=>rfl
 | a :: l,b :: m,h=>by
  simp only [zsXXs,Bool.and_eq_true] at h;rw [zsXX_ok _ _ h.1,zsXXs_ok _ _ h.2]
 | [],_ :: _,h=>by simp [zsXXs] at h
 | _ :: _,[],h=>by simp [zsXXs] at h
end
def zCtL:List (List ZX×ZX)→List ZX→Option ZX
 | [],_=>none
 | (k,r) :: l,xs=>cond (zsXXs k xs) (some r) (zCtL l xs)
theorem zCtL_ok {Q:List ZX→ZX→Prop}:∀ {l:List (List ZX×ZX)} {xs:List ZX} {r:ZX},(∀ p∈l,Q p.1 p.2)→zCtL l xs=some r→Q xs r
 | [],_,_,_,h=>by cases h
 | (k,r') :: l,xs,r,hl,h=>by
  simp only [zCtL] at h
  cases hk:zsXXs k xs with
  | true =>
   rw [hk] at h
   cases h
   have:=zsXXs_ok _ _ hk
   subst this
   exact hl (k,_) (by simp)
  | false =>
   rw [hk] at h
   exact zCtL_ok (fun p hp=>hl p (by simp [hp])) h
/-! ### bytes of texts -/
def zInc:Int→Int
 | .ofNat n=>.ofNat (n+1)
 | .negSucc n=>.negSucc n
def zIxB (c:Nat):List Nat→Int
 | []=>.negSucc 0
 | b :: l=>cond (Nat.beq b c) (.ofNat 0) (zInc (zIxB c l))
def zCnt (c:Nat):List Nat→Nat
 | []=>0
 | b :: l=>cond (Nat.beq b c) (zCnt c l+1) (zCnt c l)
def zPre:List Nat→List Nat→Bool
 | [],_=>true
 | _ :: _,[]=>false
 | a :: l,b :: m=>Nat.beq a b&&zPre l m
def zIx (m:List Nat):List Nat→Int
 | []=>cond m.isEmpty (.ofNat 0) (.negSucc 0)
 | b :: l=>cond (zPre m (b :: l)) (.ofNat 0) (zInc (zIx m l))
abbrev ziA (n:Int):ZX:=.c (.v (.int .i64 n))
abbrev zbA (b:Bool):ZX:=.c (.v (.bool b))
abbrev zwA (l:List Nat):ZX:=.c (.w l)
def zCtIxB:List ZX→Option ZX
 | [.c (.w l),.c (.v (.int .u8 (.ofNat c)))]=>cond (Nat.blt c 256) (some (ziA (zIxB c l))) none
 | _=>none
def zCtCnt:List ZX→Option ZX
 | [.c (.w l),.c (.v (.int .u8 (.ofNat c)))]=>cond (Nat.blt c 256) (some (ziA (.ofNat (zCnt c l)))) none
 | _=>none
def zCtIx:List ZX→Option ZX
 | [.c (.w l),.c (.w m)]=>cond (Nat.ble l.length 1000000) (some (ziA (zIx m l))) none
 | _=>none
abbrev zN (b:Bool) (n d:Nat):ZX:=.g [.v (.bool b),.o 0 n,.o 1 d]
abbrev zF:ZX:=.g [.v (.int .i64 5),.v (.int .i64 11)]
def zLCheck:List (List ZX×ZX):=[([zF],ziA 0)]
def zLInt:List (List ZX×ZX):=[([ziA 0],zN false 0 1)]
def zLHas:List (List ZX×ZX):=[([zF,zN false 0 1],zbA true),([zF,zN false 1 1],zbA true),([zF,zN false 1 4096],zbA true)]
def zLParse:List (List ZX×ZX):=[([zwA [49]],.t [zN false 1 1,ziA 0]),([zwA [48]],.t [zN false 0 1,ziA 0]),([zwA [49,47,52,48,57,54]],.t [zN false 1 4096,ziA 0])]
def zLChk:List (List ZX×ZX):=[([zwA [49]],ziA 0)]
def zLQuo:List (List ZX×ZX):=[([zN false 1 1,zN false 1 1],.t [zN false 1 1,ziA 0])]
def zLCmp:List (List ZX×ZX):=[([zN false 0 1,zN false 1 1],ziA (-1)),([zN false 0 1,zN false 1 4096],ziA (-1)),([zN false 1 4096,zN false 1 1],ziA (-1))]
def zLText:List (List ZX×ZX):=[([zN false 0 1],zwA [48]),([zN false 1 1],zwA [49]),([zN false 1 4096],zwA [49,47,52,48,57,54])]
def zLNear:List (List ZX×ZX):=[([zF,ziA 0,zN false 1 1],.t [zN false 1 1,ziA 0]),([zF,ziA 0,zN false 4097 4096],.t [zN false 1 1,ziA 0])]
def zLAdd:List (List ZX×ZX):=[([zN false 1 4096,zN false 1 1],zN false 4097 4096)]
def zLDig:List (List ZX×ZX):=[([zN false 4097 4096],ziA 4)]
def zLSub:List (List ZX×ZX):=[([zN false 1 1,zN false 4097 4096],zN true 1 4096)]
def zLAbs:List (List ZX×ZX):=[([zN true 1 4096],zN false 1 4096)]
def zLShift:List (List ZX×ZX):=[([zN false 1 4096,ziA 12],.t [zN false 1 1,ziA 0]),([zN false 1 1,ziA (-12)],.t [zN false 1 4096,ziA 0])]
def zLFloor:List (List ZX×ZX):=[([zN false 1 1],zN false 1 1)]
def zLCeil:List (List ZX×ZX):=[([zN false 1 1],zN false 1 1)]
def zCtF (k:FuncId):List ZX→Option ZX:=match k with
 | 346=>zCtIxB
 | 294=>zCtCnt
 | 295=>zCtIx
 | 62=>zCtL zLCheck
 | 49=>zCtL zLInt
 | 87=>zCtL zLHas
 | 86=>zCtL zLParse
 | 89=>zCtL zLChk
 | 215=>zCtL zLQuo
 | 13=>zCtL zLCmp
 | 21=>zCtL zLText
 | 138=>zCtL zLNear
 | 47=>zCtL zLAdd
 | 269=>zCtL zLDig
 | 77=>zCtL zLSub
 | 78=>zCtL zLAbs
 | 79=>zCtL zLShift
 | 80=>zCtL zLFloor
 | 81=>zCtL zLCeil
 | _=>fun _=>none
def zIm (t:TypeId) (s:String):Option FuncId:=match t with
 | 212=>cond (decide (s = "vernier/run.input")) (some 425) (cond (decide (s = "vernier/run.full")) (some 424) (cond (decide (s = "vernier/run.operate")) (some 426) none))
 | 103=>cond (decide (s = "vernier/run.input")) (some 414) (cond (decide (s = "vernier/run.full")) (some 413) (cond (decide (s = "vernier/run.operate")) (some 415) none))
 | _=>none
end Go.Proofs.YtoaoebimjmjpeaaGreatDoor
namespace Go.Proofs.YtoaoebimjmjpeaaGreatDoor
open Go.RowKit Vn
set_option maxRecDepth 100000
set_option maxHeartbeats 8000000
theorem find_out {i:TypeInfo} {s:String} {x:FuncId×Bool} (hm:(i.methods.find? (fun m=>m.name==s)).map (fun m=>(m.path,m.func))=some (#[],some x)):∃ m,i.methods.find? (fun m=>m.name==s)=some m∧m.path=#[]∧m.func=some x:=by
 cases h:i.methods.find? (fun m=>m.name==s) with
 | none=>rw [h] at hm;cases hm
 | some m =>
  rw [h] at hm;simp only [Option.map_some,Option.some.injEq,Prod.mk.injEq] at hm
  exact ⟨m,rfl,hm⟩
theorem nilAhead_ref {P:Program} {t:TypeId} {s:String} {i:TypeInfo} {f:FuncId} (hi:P.info? t=some i) (hm:(i.methods.find? (fun m=>m.name==s)).map (fun m=>(m.path,m.func))=some (#[],some (f,true))) (n:Nat) (v:Value) (w:World):(nilAhead (n+1) t v s).run P w=.ok (some false) w:=by
 obtain ⟨m,h1,h2,h3⟩:=find_out hm
 simp [nilAhead,typeInfo,hi,h1,h2,h3,followBlind,Sem.run_bind]
theorem nilAhead_val {P:Program} {t:TypeId} {s:String} {i:TypeInfo} {f:FuncId} {fs:Array Field} (hi:P.info? t=some i) (hu:P.underlying t=some (.struct fs)) (hm:(i.methods.find? (fun m=>m.name==s)).map (fun m=>(m.path,m.func))=some (#[],some (f,false))) (n:Nat) (v:Value) (w:World):(nilAhead (n+1) t v s).run P w=.ok (some false) w:=by
 obtain ⟨m,h1,h2,h3⟩:=find_out hm
 simp [nilAhead,typeInfo,hi,h1,h2,h3,followBlind,Sem.run_bind,underlying,hu]
theorem method_ref {P:Program} {t e:TypeId} {s:String} {i:TypeInfo} {f:FuncId} (hi:P.info? t=some i) (hu:P.underlying t=some (.pointer e)) (hm:(i.methods.find? (fun m=>m.name==s)).map (fun m=>(m.path,m.func))=some (#[],some (f,true))) (n:Nat) (v:Value) (w:World):(method (n+1) t v s).run P w=.ok (f,v) w:=by
 obtain ⟨m,h1,h2,h3⟩:=find_out hm
 simp [method,typeInfo,hi,h1,h2,h3,follow,receiverAt,Place.get,Sem.run_bind,underlying,hu]
theorem method_val {P:Program} {t:TypeId} {s:String} {i:TypeInfo} {f:FuncId} {fs:Array Field} (hi:P.info? t=some i) (hu:P.underlying t=some (.struct fs)) (hm:(i.methods.find? (fun m=>m.name==s)).map (fun m=>(m.path,m.func))=some (#[],some (f,false))) (n:Nat) (v:Value) (w:World):(method (n+1) t v s).run P w=.ok (f,v) w:=by
 obtain ⟨m,h1,h2,h3⟩:=find_out hm
 simp [method,typeInfo,hi,h1,h2,h3,follow,receiverAt,Place.get,Sem.run_bind,underlying,hu]
theorem fuel1 (P:Program):∃ n,P.types.size+Made.depth=n+1:=⟨P.types.size+Made.depth-1,by unfold Made.depth;omega⟩
theorem nq103_input:∀ n v w,(nilAhead (n+1) 103 v "vernier/run.input").run Tryz.prog w=.ok (some false) w:=nilAhead_ref (i:=Tryz.t103) (f:=414) (by kernel_rfl) (by kernel_rfl)
theorem mq103_input:∀ v w,(method (Tryz.prog.types.size+Made.depth) 103 v "vernier/run.input").run Tryz.prog w=.ok (414,v) w:=fun v w=>by
 obtain ⟨n,e⟩:=fuel1 Tryz.prog;rw [e]
 exact method_ref (i:=Tryz.t103) (by kernel_rfl) Tryz.underlying103 (by kernel_rfl) n v w
theorem nq103_full:∀ n v w,(nilAhead (n+1) 103 v "vernier/run.full").run Tryz.prog w=.ok (some false) w:=nilAhead_ref (i:=Tryz.t103) (f:=413) (by kernel_rfl) (by kernel_rfl)
theorem mq103_full:∀ v w,(method (Tryz.prog.types.size+Made.depth) 103 v "vernier/run.full").run Tryz.prog w=.ok (413,v) w:=fun v w=>by
 obtain ⟨n,e⟩:=fuel1 Tryz.prog;rw [e]
 exact method_ref (i:=Tryz.t103) (by kernel_rfl) Tryz.underlying103 (by kernel_rfl) n v w
theorem nq103_operate:∀ n v w,(nilAhead (n+1) 103 v "vernier/run.operate").run Tryz.prog w=.ok (some false) w:=nilAhead_ref (i:=Tryz.t103) (f:=415) (by kernel_rfl) (by kernel_rfl)
theorem mq103_operate:∀ v w,(method (Tryz.prog.types.size+Made.depth) 103 v "vernier/run.operate").run Tryz.prog w=.ok (415,v) w:=fun v w=>by
 obtain ⟨n,e⟩:=fuel1 Tryz.prog;rw [e]
 exact method_ref (i:=Tryz.t103) (by kernel_rfl) Tryz.underlying103 (by kernel_rfl) n v w
theorem nq212_input:∀ n v w,(nilAhead (n+1) 212 v "vernier/run.input").run Tryz.prog w=.ok (some false) w:=nilAhead_val (i:=Tryz.t212) (f:=425) (by kernel_rfl) Tryz.underlying212 (by kernel_rfl)
theorem mq212_input:∀ v w,(method (Tryz.prog.types.size+Made.depth) 212 v "vernier/run.input").run Tryz.prog w=.ok (425,v) w:=fun v w=>by
 obtain ⟨n,e⟩:=fuel1 Tryz.prog;rw [e]
 exact method_val (i:=Tryz.t212) (by kernel_rfl) Tryz.underlying212 (by kernel_rfl) n v w
theorem nq212_full:∀ n v w,(nilAhead (n+1) 212 v "vernier/run.full").run Tryz.prog w=.ok (some false) w:=nilAhead_val (i:=Tryz.t212) (f:=424) (by kernel_rfl) Tryz.underlying212 (by kernel_rfl)
theorem mq212_full:∀ v w,(method (Tryz.prog.types.size+Made.depth) 212 v "vernier/run.full").run Tryz.prog w=.ok (424,v) w:=fun v w=>by
 obtain ⟨n,e⟩:=fuel1 Tryz.prog;rw [e]
 exact method_val (i:=Tryz.t212) (by kernel_rfl) Tryz.underlying212 (by kernel_rfl) n v w
theorem nq212_operate:∀ n v w,(nilAhead (n+1) 212 v "vernier/run.operate").run Tryz.prog w=.ok (some false) w:=nilAhead_val (i:=Tryz.t212) (f:=426) (by kernel_rfl) Tryz.underlying212 (by kernel_rfl)
theorem mq212_operate:∀ v w,(method (Tryz.prog.types.size+Made.depth) 212 v "vernier/run.operate").run Tryz.prog w=.ok (426,v) w:=fun v w=>by
 obtain ⟨n,e⟩:=fuel1 Tryz.prog;rw [e]
 exact method_val (i:=Tryz.t212) (by kernel_rfl) Tryz.underlying212 (by kernel_rfl) n v w
abbrev zNm:List ZC:=[.v (.bool false),.o 0 0,.o 1 1]
def zOv (t:Nat):Option (List ZC):=cond (Nat.beq t 49) (some zNm) (cond (Nat.beq t 106) (some (.v (.bool false) :: zNm++[.v (.int .i64 0)])) (cond (Nat.beq t 108) (some ([.v (.pointer none),.v (.slice none 0 0),.v (.int .i64 0),.v (.int .i64 0),.v (.int .i64 0),.v (.bool false)]++zNm++[.v (.int .i64 0)])) (cond (Nat.beq t 197) (some (zNm++zNm)) none)))
def zML:List String:=["vernier/run.input", "vernier/run.full", "vernier/run.operate"]
def zMe (t:Nat):List String:=cond (Nat.beq t 103) zML (cond (Nat.beq t 212) zML [])
def zZe (t:Nat) (z:Option Value):List ZC:=match zOv t,z with
 | some l,_=>l
 | none,some z=>z.cells.toList.map zcV
 | none,none=>[]
noncomputable def zT0 (t:Nat):Option ZTy:=match Tryz.prog.underlying t,Tryz.prog.info? t with
 | some d,some i=>cond (ztB ⟨d,i.size,i.bytes,zZe t i.zero,zMe t⟩ i) (some ⟨d,i.size,i.bytes,zZe t i.zero,zMe t⟩) none
 | _,_=>none
theorem zMe_ok {t:Nat}:∀ s∈zMe t,∀ n v w,(nilAhead (n+1) t v s).run Tryz.prog w=.ok (some false) w:=by
 intro s hs
 unfold zMe at hs
 cases h1:Nat.beq t 103 with
 | true =>
  have:=beq_t' h1
  subst this;simp only [Nat.beq_refl,cond_true,zML,List.mem_cons,List.not_mem_nil,or_false] at hs
  rcases hs with rfl | rfl | rfl
  ·exact nq103_input
  ·exact nq103_full
  ·exact nq103_operate
 | false =>
  rw [h1] at hs
  cases h2:Nat.beq t 212 with
  | true =>
   have:=beq_t' h2
   subst this;simp only [Nat.beq_refl,cond_true,cond_false,zML,List.mem_cons,List.not_mem_nil,or_false] at hs
   rcases hs with rfl | rfl | rfl
   ·exact nq212_input
   ·exact nq212_full
   ·exact nq212_operate
  | false =>
   rw [h2] at hs
   cases hs
theorem zTK:ZTOK Tryz.prog OQ zT0:=by
 intro t y h
 unfold zT0 at h
 split at h
 ·rename_i d i hu hi
  cases hb:ztB ⟨d,i.size,i.bytes,zZe t i.zero,zMe t⟩ i with
  | false=>rw [hb] at h;cases h
  | true =>
   rw [hb] at h
   cases h
   exact ztf_of hu hi hb zMe_ok
 ·cases h
def zfB (fn:Func):Bool := !fn.body.isNone&&zcodeB fn.ntmps true (bodyF fn)
noncomputable def zF0 (k:Nat):Option Func:=match Tryz.prog.funcs[k]? with
 | some fn=>cond (zfB fn) (some fn) none
 | none=>none
theorem no_go:(Tryz.prog.funcs.toList.all fun fn => !(fn.name == "runtime.NumGoroutine"))=true:=by kernel_rfl
theorem zFK:∀ k fn,zF0 k=some fn→ZFOK Tryz.prog k fn:=by
 intro k fn h
 unfold zF0 at h
 split at h
 ·rename_i f hf
  cases hb:zfB f with
  | false=>rw [hb] at h;cases h
  | true =>
   rw [hb] at h;have e:f=fn:=Option.some.inj h;subst e;simp only [zfB,Bool.and_eq_true,Bool.not_eq_true'] at hb;have hm:f∈Tryz.prog.funcs.toList:=by
    rw [←Array.getElem?_toList] at hf
    exact List.mem_of_getElem? hf
   exact ⟨hf,by simpa using List.all_eq_true.1 no_go f hm,hb.1,hb.2⟩
 ·cases h
end Go.Proofs.YtoaoebimjmjpeaaGreatDoor
