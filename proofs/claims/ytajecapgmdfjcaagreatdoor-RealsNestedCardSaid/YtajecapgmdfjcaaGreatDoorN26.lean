/- A function's text, reckoned. -/
import Derived.RangeFuncSeq
import Derived.Test.YtajecapgmdfjcaaGreatDoorN25
namespace Go.Proofs.YtajecapgmdfjcaaGreatDoor
open Go.RowKit Vn
open Go.ChangeMaps (setBlock)
section
variable {P : Program} {O : Opq} {T : Tys} {B : Bxs} {n : Nat} {w0 : W0}
def isMk : Op → Bool
 | .range _ _ => true
 | op => isNew op
def newsOf : List Oper → List Nat
 | [] => []
 | o :: r => match isMk o.op, o.dst with
  | true, some t => t :: newsOf r
  | _, _ => newsOf r
def anyB (V : View) : List Nat → Bool
 | [] => false
 | t :: l => (V.bv t).isSome || anyB V l
def iter (f : View → (Exit → View → Prop) → Prop) (J : View → Prop) (K : Exit → View → Prop) : Nat → View → Prop
 | 0, V => J V
 | m + 1, V => f V fun e V' => match e with
  | .normal => iter f J K m V'
  | e => K e V'
def LoopI (f : View → (Exit → View → Prop) → Prop) (K : Exit → View → Prop) (V : View) : Prop :=
 ∃ (σ : Type) (l : σ → List (Nat × AV)) (m : σ → List (Nat × Bx)) (μ : σ → Nat) (fz : List Nat) (s0 : σ), Agree (l s0) (m s0) (V.fzs fz) ∧
  ∀ s, f (Vw (l s) (m s)) fun e V' => match e with
   | .normal => ∃ fz s', μ s' < μ s ∧ Agree (l s') (m s') (V'.fzs fz)
   | e => K e V'
def lookN {α : Type} (i : Nat) : List (Nat × α) → Option α
 | [] => none
 | (j, b) :: l => cond (Nat.beq i j) (some b) (lookN i l)
def bxW (B : Bxs) (id : Nat) : Nat → Option Nat := match lookN id B with
 | none => fun _ => none
 | some l => fun i => lookN i l
def fzOf : List (Nat × Nat) → List Nat
 | [] => []
 | (i, h) :: l => cond (Nat.beq i 1000000) (h :: fzOf l) (fzOf l)
def argsI (ρ : Operand → AV) : List Operand → (List AV → Prop) → Prop
 | [], k => k []
 | x :: r, k => match ρ x with
  | .c c => argsI ρ r fun l => k (.c c :: l)
  | .g cs => allK cs fun m => argsI ρ r fun l => k (.g m :: l)
  | _ => False
def isYl (o : Op) (V : View) : Bool := match o with
 | .call c => match c.callee with
  | .value (.tmp t) => match V.tv t with
   | .c (.clp k _ _) => Nat.beq k 1000000
   | _ => false
  | _ => false
 | _ => false
def evY (H : Hnd) (o : Oper) (V : View) (K : View → Prop) : Prop := match o.op with
 | .call c => match c.callee with
  | .value (.tmp t) => match V.tv t with
   | .c (.clp k h []) => cond (Nat.beq k 1000000) (argsI V.ev c.args.toList fun l => H.yld h l V fun V' b => K (V'.put o.dst (.c (.v (.bool b))))) False
   | _ => False
  | _ => False
 | _ => False
def guardK (ops : Array Oper) (o : Oper) (V : View) (go no : Prop) : Prop := match o.guard with
 | none => go
 | some (j, want) => match (ops[j]?).bind (·.dst) with
  | some t => match V.tv t with
   | .c (.v (.bool b)) => match want with
    | true => cond b go no
    | false => cond b no go
   | .t _ => no
   | _ => False
  | none => False
def evS (P : Program) (O : Opq) (T : Tys) (H : Hnd) (ops : Array Oper) (o : Oper) (V : View) (K : View → Prop) : Prop :=
 cond (isInl o.op) (evI H o V K) (cond (isSpec o.op) (guardK ops o V (cond (isYl o.op V) (evY H o V K) (evX P O T o V K)) (K (V.app (.val (.t [])) o.dst)))
  (evG P O T ops o V fun e => K (V.app e o.dst)))
def evSeq (P : Program) (O : Opq) (T : Tys) (H : Hnd) (ops : Array Oper) : List Oper → View → (View → Prop) → Prop
 | [], V, K => K V
 | o :: r, V, K => evS P O T H ops o V fun V' => evSeq P O T H ops r V' K
def evD (P : Program) (O : Opq) (T : Tys) (H : Hnd) (bl : Option (List (Nat × Nat))) (ops : Array Oper) (d : Bool) (V : View) (K : View → Prop) : Prop := match d with
 | false => evSeq P O T H ops ops.toList V K
 | true => match bl with
  | none => evPr P O T H ops (fun _ => none) (pairs 0 ops.toList) V K
  | some l => evPr P O T H ops (fun i => lookN i l) (pairs 0 ops.toList) V K
def evQ (P : Program) (O : Opq) (T : Tys) (H : Hnd) (bl : Option (List (Nat × Nat))) (ops : Array Oper) (d : Bool) (V : View) (K : View → Prop) : Prop :=
 cond (anyB V (newsOf ops.toList)) (evD P O T H bl ops d (V.clean (newsOf ops.toList)) K) (evD P O T H bl ops d V K)
def setPm (f : Nat → AV) : List Nat → List AV → Nat → AV
 | p :: ps, x :: xs => setPm (upd f p x) ps xs
 | _, _ => f
def LpB (R : Loop) (s : LoopState) (p : Option Code) : Bx := .z (.loop { R with state := s, pending := p })
def endRd (R : Loop) (Kb : View → Bool → Prop) (e : Exit) (V : View) : Prop := match V.sv with
 | it :: own :: pt :: rest => match pt 1 with
  | .c (.p h 0) => V.bv h = some (LpB R .busy none) ∧ match e with
   | .normal => Kb ⟨it, upd V.bv h (some (LpB R .ready none)), own :: pt :: rest, []⟩ true
   | .ret => Kb ⟨it, upd V.bv h (some (LpB R .done (some .ret))), own :: pt :: rest, []⟩ false
   | _ => False
  | _ => False
 | _ => False
def begRd (R : Loop) (f : View → (Exit → View → Prop) → Prop) (Kb : View → Bool → Prop) (V : View) : Prop := match V.sv with
 | _ :: _ :: pt :: _ => match pt 1 with
  | .c (.p h 0) => V.bv h = some (LpB R .ready none) ∧ f ⟨V.tv, upd V.bv h (some (LpB R .busy none)), V.sv, []⟩ (endRd R Kb)
  | _ => False
 | _ => False
def rndV (ps : List Nat) (g f : View → (Exit → View → Prop) → Prop) (R : Loop) (h : Nat) (args : List AV) (V : View) (Kb : View → Bool → Prop) : Prop := match V.sv with
 | own :: pt :: _ => match pt 1 with
  | .c (.p h1 0) => cond (Nat.beq h h1 && Nat.beq ps.length args.length) (V.bv h = some (LpB R .ready none) ∧ g ⟨setPm own ps args, V.bv, V.tv :: V.sv, []⟩ fun e V' => match e with
   | .normal => begRd R f Kb V'
   | _ => False) False
  | _ => False
 | _ => False
def ptr2 (h g : Nat) : Nat → AV
 | 0 => .c (.p h 0)
 | 1 => .c (.p g 0)
 | _ => .j
def endLp (K : Exit → View → Prop) (V : View) : Prop := match V.sv with
 | own :: pt :: rest => match pt 0, pt 1 with
  | .c d, .c (.p h 0) => match V.bv h with
   | some (.z (.loop r)) => match r.state with
    | .busy => False
    | _ => match r.pending with
     | none => K .normal ⟨own, upd V.bv h (some (.z (.loop { r with state := .exhausted }))), rest, [d]⟩
     | some .ret => K .ret ⟨own, upd V.bv h (some (.z (.loop { r with state := .exhausted }))), rest, [d]⟩
     | _ => False
   | _ => False
  | _, _ => False
 | _ => False
def ev (P : Program) (O : Opq) (T : Tys) (H : Hnd) (B : Bxs) : Code → View → (Exit → View → Prop) → Prop
 | .skip, V, K => K .normal V
 | .label _, V, K => K .normal V
 | .region id ops d, V, K => match lookN id B with
  | none => evQ P O T H none ops d V (K .normal)
  | some l => evQ P O T H (some l) ops d (V.fzs (fzOf l)) (K .normal)
 | .seq a b, V, K => ev P O T H B a V fun e V' => match e with
  | .normal => ev P O T H B b V' K
  | e => K e V'
 | .cond c a b, V, K => match V.ev c with
  | .c (.v (.bool t)) => cond t (ev P O T H B a V K) (ev P O T H B b V K)
  | _ => False
 | .block id c, V, K => ev P O T H B c V fun e V' => match e with
  | .exit i => cond (Nat.beq i id) (K .normal V') (K (.exit i) V')
  | e => K e V'
 | .loop c, V, K => ∃ m, iter (ev P O T H B c) (LoopI (ev P O T H B c) K) K m V
 | .exit id, V, K => K (.exit id) V
 | .scope c, V, K => ev P O T H B c V fun e V' => match e with
  | .goto _ => False
  | e => K e V'
 | .ret, V, K => K .ret V
 | .rangeFunc g ps assign body, V, K => match V.ev g with
  | .c y => cond ((V.bv 990).isSome || (V.bv 991).isSome || !V.df.isEmpty) False (∀ R : Loop,
    H.iter y (rndV ps.toList (ev P O T H B assign) (ev P O T H B body) R) ⟨fun _ => .j, upd (upd V.bv 990 (some (.z (.deferred (some []))))) 991 (some (LpB R .ready none)), V.tv :: ptr2 990 991 :: V.sv, []⟩ (endLp K))
  | _ => False
 | _, _, _ => False
def codeB (B : Bxs) (n : Nat) : Code → Bool
 | .region id ops d => (ops.toList.all fun o => match o.dst with
  | some t => Nat.blt t n
  | none => true) && (!d || regB ops (bxW B id))
 | .seq a b => codeB B n a && codeB B n b
 | .cond _ a b => codeB B n a && codeB B n b
 | .block _ c => codeB B n c
 | .loop c => codeB B n c
 | .scope c => codeB B n c
 | .rangeFunc _ ps a b => codeB B n a && codeB B n b && ps.toList.all (fun p => Nat.blt p n)
 | _ => true
def kindB (nd : Bool) : Code → Bool
 | .seq a b => kindB nd a && kindB nd b
 | .cond _ a b => kindB nd a && kindB nd b
 | .block _ c => kindB nd c
 | .loop c => nd && kindB nd c
 | .scope c => kindB nd c
 | .rangeFunc _ _ a b => !nd && kindB true a && kindB true b
 | _ => true
theorem TyOK.zok (TK : TyOK P O T) : ZOK T := by
 intro t ty ht
 obtain ⟨i, z, _, _, _, r⟩ := (TK t ty ht).info
 have r := r (fun _ => True) (default : World)
 generalize z.cells.toList = vs at r
 generalize ty.zero = cs at r
 induction vs generalizing cs with
 | nil => cases cs with
  | nil => intro c hc; cases hc
  | cons _ _ => exact r.elim
 | cons v vs ih => cases cs with
  | nil => intro c hc; cases hc
  | cons c cs =>
   intro d hd
   cases hd with
   | head =>
    cases hr : refC c with
    | none => rfl
    | some h => obtain ⟨b, hb⟩ := RepC.ref r.1 hr; cases hb
   | tail _ hd => exact ih cs r.2 d hd
theorem news_lt : ∀ {l : List Oper}, (∀ o ∈ l, ∀ t, o.dst = some t → t < n) → ∀ t ∈ newsOf l, t < n
 | [], _, t, h => by cases h
 | o :: r, hd, t, h => by
  simp only [newsOf] at h
  split at h
  ·rename_i u _ hu
   cases h with
   | head => exact hd o (by simp) _ hu
   | tail _ h => exact news_lt (fun o ho => hd o (by simp [ho])) t h
  ·exact news_lt (fun o ho => hd o (by simp [ho])) t h
/-! ### that it is so -/
def YOK (P : Program) (O : Opq) (yld : Nat → List AV → View → (View → Bool → Prop) → Prop) (w0 : W0) : Prop := ∀ {n : Nat} {β : Nat → Option Nat} {S : Nat → Prop} {V : View} {a : Act} {w : World} {h lo : Nat} {l : List AV} {vs : List Value} {K : View → Bool → Prop},
 Corr O n w0 β S V a w → yld h l V K → β h = some lo → All2 (RepV O β S w) vs l → ∃ f tmps assign body, (Instr.yield lo vs.toArray).run P w = .ok (.round lo f tmps assign body) w ∧
  ∀ m, RoundIn (Fr none) m P lo f tmps assign body w fun e w' => ∃ b V' β' S', e = .returned (.bool b) ∧ Corr O n w0 β' S' V' a w' ∧ K V' b
def IterOK (P : Program) (O : Opq) (H : Hnd) : Prop := ∀ {n : Nat} {w0 : W0} {β : Nat → Option Nat} {S : Nat → Prop} {V : View} {a : Act} {w : World} {y : AC} {x : Value} {yld : Nat → List AV → View → (View → Bool → Prop) → Prop} {K : View → Prop},
 w0.m = none → w0.nd = true → Corr O n w0 β S V a w → H.iter y yld V K → RepC O β S w x y → YOK P O yld w0 → ∀ {own pt : Nat → AV} {rest : List (Nat → AV)} {h l : Nat}, V.sv = own :: pt :: rest → pt 1 = .c (.p h 0) → β h = some l →
  ∃ k lb, x = .func (.func k) #[] lb ∧ (∃ fn, P.funcs[k]? = some fn ∧ (fn.name == "runtime.NumGoroutine") = false ∧ fn.body.isNone = false) ∧
   ∀ m, CallsIn (Fr none) m P k (#[Value.func (.yield l) #[] #[]] ++ lb) w fun e w' => (∃ v, e = .returned v) ∧ ∃ V' β' S', Corr O n w0 β' S' ⟨fun _ => .j, V'.bv, V'.sv, []⟩ a w' ∧ K V'
structure HOK (P : Program) (O : Opq) (H : Hnd) (w0 : W0) : Prop where
 call : CallOK P O H
 iter : IterOK P O H
 yld : YOK P O H.yld w0
 all : w0.nd = false → ∀ w1, YOK P O H.yld w1
 m0 : w0.m = none ∨ H = H0
theorem HOK.h0 (w0 : W0) : HOK P O H0 w0 := ⟨fun _ _ h => h.elim, fun _ _ _ h => h.elim, fun _ h => h.elim, fun _ _ _ _ _ _ _ _ _ _ _ _ _ _ h => h.elim, .inr rfl⟩
theorem argsI_rep {ρ : Operand → AV} {ev : Operand → Value} {β : Nat → Option Nat} {S : Nat → Prop} {w : World} (hρ : ∀ x, RepV O β S w (ev x) (ρ x)) : ∀ (l : List Operand) (k : List AV → Prop), argsI ρ l k → ∃ xs, k xs ∧ All2 (RepV O β S w) (l.map ev) xs ∧ ∀ t, AV.t t ∉ xs
 | [], k, h => ⟨[], h, trivial, fun _ h => by cases h⟩
 | x :: l, k, h => by
  simp only [argsI] at h
  have hx := hρ x
  split at h
  ·rename_i c e
   rw [e] at hx
   obtain ⟨xs, h1, h2, h3⟩ := argsI_rep hρ l _ h
   exact ⟨_, h1, ⟨hx, h2⟩, fun t ht => by cases ht with | tail _ ht => exact h3 t ht⟩
  ·rename_i cs e
   rw [e] at hx
   rw [allK_iff] at h
   obtain ⟨xs, h1, h2, h3⟩ := argsI_rep hρ l _ h
   exact ⟨_, h1, ⟨hx, h2⟩, fun t ht => by cases ht with | tail _ ht => exact h3 t ht⟩
  ·exact h.elim
theorem guard_sound {β : Nat → Option Nat} {S : Nat → Prop} {V : View} {a : Act} {w : World} (C : Corr O n w0 β S V a w) {ops : Array Oper} {i : Nat} {o : Oper} (ho : ops[i]? = some o) {go no : Prop} (h : guardK ops o V go no) {next : Act → World → Prop} {Q : Exit → Act → World → Prop} {r : Option Nat} {m : Nat}
  (hgo : go → o.wpIn (Fr r) m P a w next Q) (hno : no → next (a.put o.dst undef) w) : wpOpIn (Fr r) m P ops Q i next a w := by
 unfold wpOpIn
 simp only [ho]
 unfold guardK at h
 split at h
 ·rename_i hg
  rw [if_pos (by simp [Region.wanted, hg])]
  exact hgo h
 ·rename_i j want hg
  cases ht : (ops[j]?).bind (·.dst) with
  | none => simp only [ht] at h
  | some t =>
   simp only [ht] at h
   have hr := C.tm t
   have hy : ∀ b, V.tv t = .c (.v (.bool b)) → yielded ops a.tmps j = some b := by
    intro b hb
    rw [hb] at hr
    have e : a.tmps.getD t undef = .bool b := hr.1
    unfold yielded
    rw [ht]
    rw [Array.getD_eq_getD_getElem?] at e
    cases h1 : a.tmps[t]? with
    | none => rw [h1] at e; cases e
    | some v => rw [h1] at e; have e : v = .bool b := e; subst e; simp [h1]
   cases hv : V.tv t with
   | t xs =>
    rw [hv] at h
    rw [hv] at hr
    obtain ⟨vs, e, _⟩ := hr
    have : yielded ops a.tmps j = none := by
     unfold yielded
     rw [ht]
     rw [Array.getD_eq_getD_getElem?] at e
     cases h1 : a.tmps[t]? with
     | none => simp [h1]
     | some v => rw [h1] at e; have e : v = .tuple vs.toArray := e; subst e; simp [h1]
    rw [if_neg (by simp [Region.wanted, hg, this])]
    exact ⟨fun _ _ => trivial, hno h⟩
   | g _ => rw [hv] at h; exact h.elim
   | j => rw [hv] at h; exact h.elim
   | c y =>
    cases y with
    | v x =>
     cases x with
     | bool b =>
      rw [hv] at h
      have := hy b hv
      cases want <;> cases b
      ·rw [if_pos (by simp [Region.wanted, hg, this])]; exact hgo h
      ·rw [if_neg (by simp [Region.wanted, hg, this])]; exact ⟨fun _ _ => trivial, hno h⟩
      ·rw [if_neg (by simp [Region.wanted, hg, this])]; exact ⟨fun _ _ => trivial, hno h⟩
      ·rw [if_pos (by simp [Region.wanted, hg, this])]; exact hgo h
     | _ => rw [hv] at h; exact h.elim
    | _ => rw [hv] at h; exact h.elim
theorem yl_sound {H : Hnd} (HY : YOK P O H.yld w0) {β : Nat → Option Nat} {S : Nat → Prop} {V : View} {a : Act} {w : World} (C : Corr O n w0 β S V a w) {o : Oper} {Kp : View → Prop} (h : evY H o V Kp) (hd : ∀ t, o.dst = some t → t < n)
  {next : Act → World → Prop} {Q : Exit → Act → World → Prop} {r : Option Nat} {m : Nat} (K : ∀ V' a' w' β' S', Kp V' → Corr O n w0 β' S' V' a' w' → next a' w') : o.wpIn (Fr r) m P a w next Q := by
 unfold evY at h
 split at h
 ·rename_i c hop
  split at h
  ·rename_i t hc
   split at h
   ·rename_i k g ht
    obtain ⟨hk, h⟩ := cond_ff h
    have hk := Nat.eq_of_beq_eq_true hk
    subst hk
    obtain ⟨l, h1, h2, _⟩ := argsI_rep C.ev c.args.toList _ h
    have hx := C.tm t
    rw [ht] at hx
    obtain ⟨lo, us, hb, ex, ru⟩ := hx
    obtain ⟨f, tmps, assign, body, hy, hR⟩ := HY C h1 hb h2
    have hmm : (c.args.toList.map a.eval).toArray = c.args.map a.eval := by rw [← Array.toList_map]
    rw [hmm] at hy
    have ev : a.eval (.tmp t) = Value.func (.yield lo) #[] #[] := ex
    have hrun : (execOp a.eval o).run P w = .ok (.round lo f tmps assign body) w := by
     unfold execOp
     simp [hop, resolve, hc, ev, Deferred.ofValue, invoke, hy]
    refine ⟨fun _ _ => trivial, ?_⟩
    rw [Oper.semAt_eq _ _ _ (fun c' hc' => by rw [hop] at hc'; cases hc'), hrun]
    refine ⟨(fun hx => absurd hx (by simp [Fence.wide])), ?_⟩
    refine RoundIn.mono (show RoundIn (Fr none) (m - 1) P lo f tmps assign body w _ from hR _) ?_
    rintro e w' ⟨b, V', β', S', rfl, C', hk⟩
    exact K _ _ _ _ _ hk (C'.put hd (x := .c (.v (.bool b))) ⟨rfl, rfl⟩)
   ·exact h.elim
  ·exact h.elim
 ·exact h.elim
theorem seq_sound (TK : TyOK P O T) {H : Hnd} (HK : HOK P O H w0) {r0 : Option Nat} {m : Nat} {ops : Array Oper} {Q : Exit → Act → World → Prop} {K : View → Prop} (hQ : Behind O n w0 K (Q .normal)) (hd : ∀ o ∈ ops.toList, ∀ t, o.dst = some t → t < n) :
  ∀ (r : List Oper) (k : Nat), (∀ j, r[j]? = ops[k + j]?) → ∀ {β S V a w}, evSeq P O T H ops r V K → Corr O n w0 β S V a w → wpOpsIn (Fr r0) m P ops Q (List.range' k r.length) a w
 | [], k, hr, _, _, _, _, _, h, C => hQ _ _ _ _ _ h C
 | o :: r, k, hr, β, S, V, a, w, h, C => by
  have ho : ops[k]? = some o := by have := hr 0; simpa using this.symm
  rw [List.length_cons, List.range'_succ, wpOpsIn_cons]
  have hdo := hd o (by rw [← Array.getElem?_toList] at ho; exact List.mem_of_getElem? ho)
  have next : ∀ {β S V a w}, evSeq P O T H ops r V K → Corr O n w0 β S V a w → wpOpsIn (Fr r0) m P ops Q (List.range' (k + 1) r.length) a w := fun h C =>
   seq_sound TK HK hQ hd r (k + 1) (fun j => by have := hr (j + 1); simp only [List.getElem?_cons_succ] at this; rw [this]; congr 1; omega) h C
  simp only [evSeq, evS] at h
  cases hi : isInl o.op with
  | true =>
   rw [hi] at h
   refine u_sound TK HK.call HK.m0 (Kp := fun V' => evSeq P O T H ops r V' K) C ho ?_ hdo fun V' a' w' β' S' he C' => next he C'
   unfold evU
   rw [hi]; exact h
  | false =>
  rw [hi] at h
  simp only [cond_false] at h
  cases hs : isSpec o.op with
  | true =>
   rw [hs] at h
   simp only [cond_true] at h
   refine guard_sound C ho h (fun h => ?_) (fun h => next h (C.put hdo (x := .t []) ⟨[], rfl, trivial⟩))
   cases hy : isYl o.op V with
   | true => rw [hy] at h; simp only [cond_true] at h; exact yl_sound HK.yld C h hdo fun V' a' w' β' S' h C => next h C
   | false =>
    rw [hy] at h
    simp only [cond_false] at h
    refine wpIn_of_wp (fun c hc => by rw [hc] at hs; cases hs) ?_
    exact evX_sound TK C h hdo fun V' a' w' β' S' h C => next h C
  | false =>
   rw [hs] at h
   simp only [cond_false] at h
   exact g_sound TK C ho h hdo fun e a' w' β' S' he C' => next he C'
def Beyond (O : Opq) (n : Nat) (w0 : W0) (K : Exit → View → Prop) (Q : Exit → Act → World → Prop) : Prop := ∀ e V a w β S, K e V → Corr O n w0 β S V a w → Q e a w
theorem evD_sound (TK : TyOK P O T) (hm : P.follows .mixedOrders = true) {H : Hnd} (HK : HOK P O H w0) {r0 : Option Nat} {m : Nat} {id : Nat} {ops : Array Oper} {d : Bool} (hc : codeB B n (.region id ops d) = true) {bl : Option (List (Nat × Nat))} (hbl : lookN id B = bl) {β : Nat → Option Nat} {S : Nat → Prop} {V : View} {a : Act} {w : World} (C : Corr O n w0 β S V a w)
  {K : Exit → View → Prop} {Q : Exit → Act → World → Prop} (h : evD P O T H bl ops d V (K .normal)) (hQ : Beyond O n w0 K Q) : (Code.region id ops d).wpIn (Fr r0) m P Q a w := by
 simp only [codeB, Bool.and_eq_true, List.all_eq_true] at hc
 have hd : ∀ o ∈ ops.toList, ∀ t, o.dst = some t → t < n := by
  intro o ho t ht
  have := hc.1 o ho
  rw [ht] at this
  simpa [Nat.blt_eq] using this
 have hB : Behind O n w0 (K .normal) (Q .normal) := fun V a w β S hk C => hQ _ _ _ _ _ _ hk C
 cases d with
 | false =>
  refine wpIn_region ?_
  have := seq_sound TK HK (r0 := r0) (m := m) hB hd ops.toList 0 (fun j => by simp) h C
  simpa [List.range_eq_range'] using this
 | true =>
  have hr : regB ops (bxW B id) = true := by simpa using hc.2
  refine wpIn_region_any hm ?_
  have he : Ext w { w with drawn := w.drawn + 1 } := (Below.refl _ _).drew
  have C1 := C.evo he (S' := S) (fun _ h => h) (fun _ h => .inl h)
  have h1 : evPr P O T H ops (bxW B id) (pairs 0 ops.toList) V (K .normal) := by
   unfold bxW
   rw [hbl]
   cases bl with
   | none => exact h
   | some l => exact h
  rw [pairs_prs (ops := ops) ops.toList 0 (fun j => by simp)] at h1
  have hun : ∀ i, i < ops.size → (Array.replicate ops.size false).getD i true = false := by
   intro i hi; simp [Array.getD, hi]
  have hf : (List.range ops.size).filter (fun i => !(Array.replicate ops.size false).getD i true) = List.range ops.size := by
   rw [List.filter_eq_self]
   intro i hi
   rw [hun i (by simpa using hi)]; rfl
  refine any_sound TK TK.zok HK.call HK.m0 hr hB hd ops.size _ (by simp) (fun i o ho hl e he => ?_) (by rw [hf]; simp) (by rw [hf]; simpa [List.range_eq_range'] using h1) C1 C1.wf
  have hlt : i < ops.size := (Array.getElem?_eq_some_iff.1 ho).1
  rw [hun i hlt] at hl; cases hl
theorem evC_sound (TK : TyOK P O T) (hm : P.follows .mixedOrders = true) {H : Hnd} (HK : HOK P O H w0) {r0 : Option Nat} {m : Nat} {id : Nat} {ops : Array Oper} {d : Bool} (hc : codeB B n (.region id ops d) = true) {bl : Option (List (Nat × Nat))} (hbl : lookN id B = bl) {β : Nat → Option Nat} {S : Nat → Prop} {V : View} {a : Act} {w : World} (C : Corr O n w0 β S V a w)
  {K : Exit → View → Prop} {Q : Exit → Act → World → Prop} (h : evQ P O T H bl ops d V (K .normal)) (hQ : Beyond O n w0 K Q) : (Code.region id ops d).wpIn (Fr r0) m P Q a w := by
 unfold evQ at h
 cases ha : anyB V (newsOf ops.toList) with
 | false => rw [ha] at h; exact evD_sound TK hm HK hc hbl C h hQ
 | true =>
  rw [ha] at h
  have hc' := hc
  simp only [codeB, Bool.and_eq_true, List.all_eq_true] at hc'
  refine evD_sound TK hm HK hc hbl (C.clean (l := newsOf ops.toList) (news_lt fun o ho t ht => ?_)) h hQ
  have := hc'.1 o ho
  rw [ht] at this
  simpa [Nat.blt_eq] using this
end
end Go.Proofs.YtajecapgmdfjcaaGreatDoor
