/- A small logic of owned blocks: what is known of a frame's slots and of the heap; regions; calls; control. Conditions: none. -/
import Derived.Test.YtbfheafpecgphaaGreatSla
set_option linter.unusedSimpArgs false
set_option linter.unusedVariables false
set_option linter.unnecessarySimpa false
set_option linter.unusedSectionVars false
namespace Go.Proofs.YtbfheafpecgphaaGreat
open Go

/-! ### What is known of the slots -/
abbrev Env := List (Nat × Value)
def look : Env → Nat → Option Value
  | [], _ => none
  | (k, v) :: l, t => bif Nat.beq k t then some v else look l t
def evO (σ : Env) : Operand → Option Value
  | .tmp t => look σ t
  | .const v => some v
  | .func f => some (.func (.func f) #[] #[])
  | .global g => some (.pointer (some ⟨g, 0, none⟩))
def evL (σ : Env) : List Operand → Option (List Value)
  | [] => some []
  | x :: xs => match evO σ x with
    | none => none
    | some v => match evL σ xs with
      | none => none
      | some vs => some (v :: vs)

def Knows (σ : Env) (a : Act) : Prop := ∀ t v, look σ t = some v → a.tmps[t]? = some v
structure StA (n : Nat) (D : List Deferred) (σ : Env) (a : Act) : Prop where
  size : a.tmps.size = n
  defers : a.defers = D
  env : Knows σ a
structure St (B : World) (n : Nat) (D : List Deferred) (σ : Env) (H : List HP) (a : Act) (w : World) : Prop extends StA n D σ a where
  holds : Holds B H w
def GO (B : World) (n : Nat) (D : List Deferred) (σ : Env) (H : List HP) (K : Act → World → Prop) : Prop := ∀ a w, St B n D σ H a w → K a w

theorem Knows.eval {σ : Env} {a : Act} {x : Operand} {v : Value} (k : Knows σ a) (h : evO σ x = some v) : a.eval x = v := by
  cases x with
  | tmp t =>
    have e := k t v h
    show a.tmps.getD t undef = v
    rw [Array.getD_eq_getD_getElem?, e]; rfl
  | const u => exact Option.some.inj h
  | func f => exact Option.some.inj h
  | global g => exact Option.some.inj h

theorem Knows.evals {σ : Env} {a : Act} (k : Knows σ a) : ∀ {xs : List Operand} {vs : List Value}, evL σ xs = some vs → xs.map a.eval = vs
  | [], vs, h => by simp [evL] at h; simp [h]
  | x :: xs, vs, h => by
    simp only [evL] at h
    cases hx : evO σ x with
    | none => simp [hx] at h
    | some v =>
      cases hxs : evL σ xs with
      | none => simp [hx, hxs] at h
      | some us => simp [hx, hxs] at h; subst h; simp [k.eval hx, k.evals hxs]

theorem Knows.evalsA {σ : Env} {a : Act} (k : Knows σ a) {xs : Array Operand} {vs : List Value} (h : evL σ xs.toList = some vs) : xs.map a.eval = vs.toArray := by
  have e := k.evals h
  apply Array.ext'
  rw [Array.toList_map]; exact e

theorem beq_no {a b : Nat} (h : ¬ a = b) : Nat.beq a b = false := by
  cases e : Nat.beq a b with
  | false => rfl
  | true => exact absurd (Nat.eq_of_beq_eq_true e) h

theorem StA.put {n : Nat} {D : List Deferred} {σ : Env} {a : Act} (s : StA n D σ a) {d : Nat} (hd : Nat.blt d n = true) (v : Value) : StA n D ((d, v) :: σ) (a.put (some d) v) := by
  have hd' : d < n := by simpa [Nat.blt_eq] using hd
  refine ⟨by simp [Act.put, s.size], by simp [Act.put, s.defers], fun t u h => ?_⟩
  simp only [look] at h
  have h1 := s.size
  by_cases e : d = t
  · subst e; simp at h; subst h; simp [Act.put, h1, hd']
  · have e' : Nat.beq d t = false := beq_no e
    rw [e'] at h
    have := s.env t u h
    simp [Act.put, e, this]

theorem StA.sub {n : Nat} {D : List Deferred} {σ σ' : Env} {a : Act} (s : StA n D σ a) (h : ∀ t v, look σ' t = some v → look σ t = some v) : StA n D σ' a := ⟨s.size, s.defers, fun t v e => s.env t v (h t v e)⟩

/-- Keep the slots of a list alone. -/
def keep (σ : Env) : List Nat → Env
  | [] => []
  | t :: ts => match look σ t with
    | some v => (t, v) :: keep σ ts
    | none => keep σ ts
theorem look_keep {σ : Env} : ∀ {ts : List Nat} {t : Nat} {v : Value}, look (keep σ ts) t = some v → look σ t = some v
  | [], _, _, h => by simp [keep, look] at h
  | t' :: ts, t, v, h => by
    simp only [keep] at h
    cases e : look σ t' with
    | none => rw [e] at h; exact look_keep h
    | some u =>
      rw [e] at h
      simp only [look] at h
      by_cases q : t' = t
      · subst q; simp at h; rw [e, h]
      · have q' : Nat.beq t' t = false := beq_no q
        rw [q'] at h; exact look_keep h

/-- Forget slots, change how the heap is told. -/
theorem go_keep {B : World} {n : Nat} {D : List Deferred} {σ : Env} {H : List HP} {K : Act → World → Prop} (ts : List Nat) (h : GO B n D (keep σ ts) H K) : GO B n D σ H K :=
  fun a w s => h a w ⟨s.toStA.sub fun _ _ => look_keep, s.holds⟩
theorem go_conv {B : World} {n : Nat} {D : List Deferred} {σ : Env} {H H' : List HP} {K : Act → World → Prop} (f : ∀ w, Holds B H w → Holds B H' w) (h : GO B n D σ H' K) : GO B n D σ H K :=
  fun a w s => h a w ⟨s.toStA, f w s.holds⟩
theorem go_mono {B : World} {n : Nat} {D : List Deferred} {σ : Env} {H : List HP} {K K' : Act → World → Prop} (f : ∀ a w, K a w → K' a w) (h : GO B n D σ H K) : GO B n D σ H K' :=
  fun a w s => f a w (h a w s)
theorem go_hex {B : World} {n : Nat} {D : List Deferred} {σ : Env} {α : Type} {A : α → HP} {H : List HP} {K : Act → World → Prop} (h : ∀ x, GO B n D σ (A x :: H) K) : GO B n D σ (hex A :: H) K :=
  fun a w s => let ⟨x, hx⟩ := s.holds.hex; h x a w ⟨s.toStA, hx⟩
theorem go_pr {B : World} {n : Nat} {D : List Deferred} {σ : Env} {p : Prop} {H : List HP} {K : Act → World → Prop} (h : p → GO B n D σ H K) : GO B n D σ (pr p :: H) K :=
  fun a w s => h s.holds.pr.1 a w ⟨s.toStA, s.holds.pr.2⟩
theorem go_grp {B : World} {n : Nat} {D : List Deferred} {σ : Env} {l H : List HP} {K : Act → World → Prop} (h : GO B n D σ (l ++ H) K) : GO B n D σ (grp l :: H) K :=
  fun a w s => h a w ⟨s.toStA, s.holds.grp⟩
theorem go_ungrp {B : World} {n : Nat} {D : List Deferred} {σ : Env} (l : List HP) {H : List HP} {K : Act → World → Prop} (h : GO B n D σ (grp l :: H) K) : GO B n D σ (l ++ H) K :=
  fun a w s => h a w ⟨s.toStA, s.holds.ungrp⟩
theorem go_front {B : World} {n : Nat} {D : List Deferred} {σ : Env} {H : List HP} {A : HP} {K : Act → World → Prop} (i : Nat) (e : H[i]? = some A) (h : GO B n D σ (A :: H.eraseIdx i) K) : GO B n D σ H K :=
  fun a w s => h a w ⟨s.toStA, s.holds.front i e⟩

/-! ### Fences: wide, in a round or not -/
/-- Where a piece of code is run: in which round; in which function's own frame, where that is known. -/
structure Cx where
  ro : Option Nat
  fn : Option FuncId
abbrev Wd (ro : Cx) : Fence := { fn := fun _ => True, depth := none, alive := false, round := ro.ro }
theorem rmW (ro : Cx) (n : Nat) : (Wd ro).room n := fun _ h => by cases h
/-- What is asked where a piece of code is left otherwise than at its end. -/
structure Ext where
  ret : Act → World → Prop
  pan : List PanicEntry → Act → World → Prop
  ex : Nat → Act → World → Prop
def toQ (K : Act → World → Prop) (X : Ext) : Exit → Act → World → Prop
  | .normal => K
  | .ret => X.ret
  | .panic c => X.pan c
  | .exit i => X.ex i
  | .goto _ => fun _ _ => False
  | .outgrown => fun _ _ => False
def cw (ro : Cx) (P : Program) (c : Code) (K : Act → World → Prop) (X : Ext) : Act → World → Prop := fun a w =>
  ∀ (b : Frame) (k : List Item) (cs : List Frame), b.roundOf = ro.ro → (∀ f, ro.fn = some f → b.fn = f) →
    ∃ e a' w', toQ K X e a' w' ∧ ArrivesIn (Machine.fenced P (Wd ro)) P (lone (b.atR a (.code c :: k)) cs w) b k cs e a' w'
theorem cw_of {ro : Cx} {P : Program} {c : Code} {K : Act → World → Prop} {X : Ext} {a : Act} {w : World} (h : c.wpIn (Wd ro) 0 P (toQ K X) a w) : cw ro P c K X a w := fun b k cs hro _ => h b k cs hro trivial (rmW _ _)
theorem cw_to {ro : Cx} (hf : ro.fn = none) {P : Program} {c : Code} {K : Act → World → Prop} {X : Ext} {a : Act} {w : World} (h : cw ro P c K X a w) : c.wpIn (Wd ro) 0 P (toQ K X) a w := fun b k cs hro _ _ => h b k cs hro (fun f e => by rw [hf] at e; cases e)
theorem cw_mono {ro : Cx} {P : Program} {c : Code} {K K' : Act → World → Prop} {X X' : Ext} {a : Act} {w : World} (h : cw ro P c K X a w) (f : ∀ e a w, toQ K X e a w → toQ K' X' e a w) : cw ro P c K' X' a w := fun b k cs hro hf =>
  let ⟨e, a', w', q, r⟩ := h b k cs hro hf; ⟨e, a', w', f _ _ _ q, r⟩
def lw (ro : Cx) (P : Program) (ops : Array Oper) (K : Act → World → Prop) (X : Ext) (l : List Oper) : Act → World → Prop := wpListIn (Wd ro) 0 P ops (toQ K X) l
theorem calls_wd {ro : Cx} {n : Nat} {P : Program} {f : FuncId} {args : Array Value} {w : World} {R : Ending → World → Prop} : CallsIn (Wd ro) n P f args w R ↔ Calls P f args w R :=
  (Iff.rfl : CallsIn (Wd ro) n P f args w R ↔ CallsIn Fence.wide n P f args w R).trans callsIn_wide

section
variable {B : World} {n : Nat} {D : List Deferred} {σ : Env} {H : List HP} {P : Program} {ro : Cx} {K : Act → World → Prop} {X : Ext} {ops : Array Oper} {rest : List Oper}

/-! ### Operations that yield a value and leave the world alone -/
def Evs (P : Program) (B : World) (σ : Env) (H : List HP) (o : Oper) (v : Value) : Prop :=
  ∀ a w, Knows σ a → Holds B H w → (execOp a.eval o).run P w = .ok (.value v) w
/-- Operations that enter a function. -/
def Ent (P : Program) (B : World) (σ : Env) (H : List HP) (o : Oper) (f : FuncId) (vs : Array Value) : Prop :=
  ∀ a w, Knows σ a → Holds B H w → (execOp a.eval o).run P w = .ok (.enter f vs) w
/-- Operations that change the world: v is what they leave, H' what then holds. -/
def Chg (P : Program) (B : World) (σ : Env) (H : List HP) (o : Oper) (Y : Value → List HP → Prop) : Prop :=
  ∀ a w, Knows σ a → Holds B H w → ∃ r w', (execOp a.eval o).run P w = .ok r w' ∧ ∃ v, (r = .value v ∨ (r = .skip ∧ v = undef)) ∧ ∃ H', Y v H' ∧ Holds B H' w'

/-- No 'defer' statement. -/
def ndef : Op → Bool
  | .defer _ => false
  | _ => true
theorem semAt_nd {r : Option Nat} {o : Oper} (h : ndef o.op = true) (ρ : Operand → Value) : o.semAt r ρ = execOp ρ o :=
  Oper.semAt_eq r ρ o fun c e => by rw [e] at h; cases h

/-- Whether an operation is carried out. -/
inductive Wants (ops : Array Oper) (σ : Env) : Option (Nat × Bool) → Bool → Prop
  | free : Wants ops σ none true
  | on {j : Nat} {t : Nat} {b c r : Bool} (h : (ops[j]?).bind (·.dst) = some t) (hv : look σ t = some (.bool c)) (hr : (c == b) = r) : Wants ops σ (some (j, b)) r
  | und {j : Nat} {t : Nat} {b : Bool} (h : (ops[j]?).bind (·.dst) = some t) (hv : look σ t = some undef) : Wants ops σ (some (j, b)) false

theorem Wants.wanted {o : Oper} {b : Bool} (h : Wants ops σ o.guard b) {a : Act} (k : Knows σ a) : Region.wanted o (yielded ops a.tmps) = b := by
  unfold Region.wanted
  generalize o.guard = g at h
  cases h with
  | free => rfl
  | on h hv hr =>
    have := k _ _ hv
    subst hr
    simp only [yielded, h, Option.bind_some, this]
    rename_i c b
    cases c <;> cases b <;> rfl
  | und h hv =>
    have := k _ _ hv
    simp only [yielded, h, Option.bind_some, this]
    rfl

theorem p_val {o : Oper} {d : Nat} {v : Value} (hd : o.dst = some d) (he : Evs P B σ H o v) (hw : Wants ops σ o.guard true) (hn : ndef o.op = true) (hb : Nat.blt d n = true)
    (k : GO B n D ((d, v) :: σ) H (lw ro P ops K X rest)) : GO B n D σ H (lw ro P ops K X (o :: rest)) := by
  intro a w s
  show (if Region.wanted o (yielded ops a.tmps) then _ else _)
  rw [hw.wanted s.env, if_pos rfl]
  refine ⟨fun _ _ => trivial, ?_⟩
  rw [semAt_nd hn, he a w s.env s.holds, Oper.uponIn_value, hd]
  exact k _ _ ⟨s.toStA.put hb v, s.holds⟩

theorem p_skip {o : Oper} {d : Nat} (hd : o.dst = some d) (hw : Wants ops σ o.guard false) (hb : Nat.blt d n = true) (k : GO B n D ((d, undef) :: σ) H (lw ro P ops K X rest)) : GO B n D σ H (lw ro P ops K X (o :: rest)) := by
  intro a w s
  show (if Region.wanted o (yielded ops a.tmps) then _ else _)
  rw [hw.wanted s.env, if_neg (by simp)]
  refine ⟨fun _ _ => trivial, ?_⟩
  rw [hd]
  exact k _ _ ⟨s.toStA.put hb undef, s.holds⟩

theorem p_skip0 {o : Oper} (hd : o.dst = none) (hw : Wants ops σ o.guard false) (k : GO B n D σ H (lw ro P ops K X rest)) : GO B n D σ H (lw ro P ops K X (o :: rest)) := by
  intro a w s
  show (if Region.wanted o (yielded ops a.tmps) then _ else _)
  rw [hw.wanted s.env, if_neg (by simp)]
  refine ⟨fun _ _ => trivial, ?_⟩
  rw [hd]
  exact k _ _ s

theorem p_chg {o : Oper} {d : Nat} {Y : Value → List HP → Prop} (hd : o.dst = some d) (he : Chg P B σ H o Y) (hw : Wants ops σ o.guard true) (hn : ndef o.op = true) (hb : Nat.blt d n = true)
    (k : ∀ v H', Y v H' → GO B n D ((d, v) :: σ) H' (lw ro P ops K X rest)) : GO B n D σ H (lw ro P ops K X (o :: rest)) := by
  intro a w s
  show (if Region.wanted o (yielded ops a.tmps) then _ else _)
  rw [hw.wanted s.env, if_pos rfl]
  refine ⟨fun _ _ => trivial, ?_⟩
  obtain ⟨r, w', hr, v, hv, H', hX, hH⟩ := he a w s.env s.holds
  rw [semAt_nd hn, hr]
  rcases hv with rfl | ⟨rfl, rfl⟩
  · rw [Oper.uponIn_value, hd]; exact k v H' hX _ _ ⟨s.toStA.put hb v, hH⟩
  · rw [Oper.uponIn_skip, hd]; exact k _ H' hX _ _ ⟨s.toStA.put hb undef, hH⟩

theorem p_chg0 {o : Oper} {Y : Value → List HP → Prop} (hd : o.dst = none) (he : Chg P B σ H o Y) (hw : Wants ops σ o.guard true) (hn : ndef o.op = true)
    (k : ∀ v H', Y v H' → GO B n D σ H' (lw ro P ops K X rest)) : GO B n D σ H (lw ro P ops K X (o :: rest)) := by
  intro a w s
  show (if Region.wanted o (yielded ops a.tmps) then _ else _)
  rw [hw.wanted s.env, if_pos rfl]
  refine ⟨fun _ _ => trivial, ?_⟩
  obtain ⟨r, w', hr, v, hv, H', hX, hH⟩ := he a w s.env s.holds
  rw [semAt_nd hn, hr]
  rcases hv with rfl | ⟨rfl, rfl⟩
  · rw [Oper.uponIn_value, hd]; exact k v H' hX _ _ ⟨s.toStA, hH⟩
  · rw [Oper.uponIn_skip, hd]; exact k _ H' hX _ _ ⟨s.toStA, hH⟩

theorem p_nil (k : GO B n D σ H K) : GO B n D σ H (lw ro P ops K X []) := k

/-! ### Calls -/
/-- How a call ends: a value and a list that holds; or a panic. -/
def Ret (B : World) (Φ : Value → List HP → Prop) (Ψ : List PanicEntry → List HP → Prop) : Ending → World → Prop
  | .returned v, w => ∃ H, Φ v H ∧ Holds B H w
  | .panicked c, w => ∃ H, Ψ c H ∧ Holds B H w
  | .outgrown, _ => False

theorem Ret.mono {B : World} {Φ Φ' : Value → List HP → Prop} {Ψ Ψ' : List PanicEntry → List HP → Prop} (f : ∀ v H, Φ v H → Φ' v H) (g : ∀ c H, Ψ c H → Ψ' c H) (e : Ending) (w : World) (h : Ret B Φ Ψ e w) : Ret B Φ' Ψ' e w := by
  cases e with
  | returned v => obtain ⟨H, a, b⟩ := h; exact ⟨H, f _ _ a, b⟩
  | panicked v => obtain ⟨H, a, b⟩ := h; exact ⟨H, g _ _ a, b⟩
  | outgrown => exact h

theorem p_call {o : Oper} {d : Nat} {f : FuncId} {vs : Array Value} {Φ : Value → List HP → Prop} {Ψ : List PanicEntry → List HP → Prop} (hd : o.dst = some d) (he : Ent P B σ H o f vs)
    (hs : ∀ w, Holds B H w → Calls P f vs w (Ret B Φ Ψ)) (hw : Wants ops σ o.guard true) (hn : ndef o.op = true) (hb : Nat.blt d n = true)
    (k : ∀ v H', Φ v H' → GO B n D ((d, v) :: σ) H' (lw ro P ops K X rest)) (kp : ∀ c H', Ψ c H' → GO B n D σ H' (X.pan c)) : GO B n D σ H (lw ro P ops K X (o :: rest)) := by
  intro a w s
  show (if Region.wanted o (yielded ops a.tmps) then _ else _)
  rw [hw.wanted s.env, if_pos rfl]
  refine ⟨fun _ _ => trivial, ?_⟩
  rw [semAt_nd hn, he a w s.env s.holds, Oper.uponIn_enter, hd]
  refine ⟨fun h => by simp at h, calls_wd.2 ((hs w s.holds).mono fun e w' h => ?_)⟩
  cases e with
  | returned v => obtain ⟨H', hΦ, hH⟩ := h; exact k v H' hΦ _ _ ⟨s.toStA.put hb v, hH⟩
  | panicked c => obtain ⟨H', hΨ, hH⟩ := h; exact kp c H' hΨ _ _ ⟨s.toStA, hH⟩
  | outgrown => exact h.elim

/-! ### Control -/
theorem g_seq {x y : Code} (h : GO B n D σ H (cw ro P x (cw ro P y K X) X)) : GO B n D σ H (cw ro P (.seq x y) K X) := fun a w s => by
  intro b k cs hro hf
  have h0 : (lone (b.atR a (.code (.seq x y) :: k)) cs w).fenced P (Wd ro) := fenced_calm (n := 0) trivial (rmW _ _) rfl
  obtain ⟨e, a₁, w₁, hq, harr⟩ := h a w s b (.code y :: k) cs hro hf
  cases e with
  | normal =>
    obtain ⟨e₂, a₂, w₂, hq₂, harr₂⟩ := hq b k cs hro hf
    exact ⟨e₂, a₂, w₂, hq₂, .of_steps (.head h0 stepR_seq harr) harr₂⟩
  | exit id => exact ⟨.exit id, a₁, w₁, hq, .of_steps (.one h0 stepR_seq) (.pass (x := .code y) rfl (fun _ _ => .inl (by simp)) harr)⟩
  | goto l => exact hq.elim
  | ret => exact ⟨.ret, a₁, w₁, hq, .of_steps (.one h0 stepR_seq) (.pass (x := .code y) rfl (fun _ _ => .inl (by simp)) harr)⟩
  | panic ch => exact ⟨.panic ch, a₁, w₁, hq, .of_steps (.one h0 stepR_seq) (.pass (x := .code y) rfl (fun _ _ => .inl (by simp)) harr)⟩
  | outgrown => exact hq.elim
theorem g_skip (h : GO B n D σ H K) : GO B n D σ H (cw ro P .skip K X) := fun a w s => cw_of (wpIn_skip (h a w s))
theorem g_label {l : Nat} (h : GO B n D σ H K) : GO B n D σ H (cw ro P (.label l) K X) := fun a w s => cw_of (wpIn_label (h a w s))
theorem g_exit {id : Nat} (h : GO B n D σ H (X.ex id)) : GO B n D σ H (cw ro P (.exit id) K X) := fun a w s => cw_of (wpIn_exit (h a w s))
theorem g_ret (h : GO B n D σ H X.ret) : GO B n D σ H (cw ro P .ret K X) := fun a w s => cw_of (wpIn_ret (h a w s))
def Ext.inB (X : Ext) (id : Nat) (K : Act → World → Prop) : Ext := { X with ex := fun i => bif Nat.beq i id then K else X.ex i }
theorem g_block {id : Nat} {c : Code} (h : GO B n D σ H (cw ro P c K (X.inB id K))) : GO B n D σ H (cw ro P (.block id c) K X) := fun a w s => by
  intro b k cs hro hf
  have h0 : (lone (b.atR a (.code (.block id c) :: k)) cs w).fenced P (Wd ro) := fenced_calm (n := 0) trivial (rmW _ _) rfl
  obtain ⟨e, a₁, w₁, hq, harr⟩ := h a w s b (.inBlock id :: k) cs hro hf
  cases e with
  | normal => exact ⟨.normal, a₁, w₁, hq, .head h0 stepR_block (StepsIn.trans harr (.one (fenced_calm (n := 0) trivial (rmW _ _) rfl) stepR_inBlock))⟩
  | exit id' =>
    simp only [toQ, Ext.inB] at hq
    by_cases hid : id' = id
    · subst hid
      have hq' : K a₁ w₁ := by simpa using hq
      exact ⟨.normal, a₁, w₁, hq', .head h0 stepR_block (harr.1 k (by simp [exitTo]))⟩
    · rw [beq_no hid] at hq
      have this : (id == id') = false := by simp; exact fun h => hid h.symm
      have hx : exitTo id' (.inBlock id :: k) = exitTo id' k := by simp [exitTo, this]
      exact ⟨.exit id', a₁, w₁, hq, fun k' hk => .head h0 stepR_block (harr.1 k' (by rw [hx]; exact hk)),
        fun hr' hk => let ⟨k₁, h1, h2⟩ := harr.2 hr' (by rw [hx]; exact hk); ⟨k₁, h1, .head h0 stepR_block h2⟩⟩
  | goto l => exact hq.elim
  | ret => exact ⟨.ret, a₁, w₁, hq, ArrivesIn.of_steps (k := k) (e := .ret) (.one h0 stepR_block) harr⟩
  | panic ch => exact ⟨.panic ch, a₁, w₁, hq, ArrivesIn.of_steps (k := k) (e := .panic ch) (.one h0 stepR_block) harr⟩
  | outgrown => exact hq.elim
theorem cw_cond {c : Operand} {x y : Code} {t : Bool} {a : Act} {w : World} (hc : a.eval c = .bool t) (h : cw ro P (if t then x else y) K X a w) : cw ro P (.cond c x y) K X a w :=
  fun b k cs hro hf => let ⟨e, a', w', q, r⟩ := h b k cs hro hf; ⟨e, a', w', q, .of_steps (.one (fenced_calm (n := 0) trivial (rmW _ _) rfl) (stepR_cond hc)) r⟩
theorem g_if {c : Operand} {x y : Code} {t : Bool} (hc : evO σ c = some (.bool t)) (ht : t = true → GO B n D σ H (cw ro P x K X)) (hf : t = false → GO B n D σ H (cw ro P y K X)) : GO B n D σ H (cw ro P (.cond c x y) K X) :=
  fun a w s => cw_cond (s.env.eval hc) (by
    cases t
    · exact hf rfl a w s
    · exact ht rfl a w s)
theorem g_ift {c : Operand} {x y : Code} {t : Bool} (hc : evO σ c = some (.bool t)) (ht : t = true) (h : GO B n D σ H (cw ro P x K X)) : GO B n D σ H (cw ro P (.cond c x y) K X) := by
  subst ht; exact fun a w s => cw_cond (s.env.eval hc) (h a w s)
theorem g_iff {c : Operand} {x y : Code} {t : Bool} (hc : evO σ c = some (.bool t)) (ht : t = false) (h : GO B n D σ H (cw ro P y K X)) : GO B n D σ H (cw ro P (.cond c x y) K X) := by
  subst ht; exact fun a w s => cw_cond (s.env.eval hc) (h a w s)
theorem g_region {id : Nat} {l : List Oper} (h : GO B n D σ H (lw ro P l.toArray K X l)) : GO B n D σ H (cw ro P (.region id l.toArray false) K X) := fun a w s => cw_of (wpIn_region_lit (h a w s))

/-- What is known of fewer slots. -/
def SubE : Env → Env → Prop
  | [], _ => True
  | (k, v) :: l, σ => look σ k = some v ∧ SubE l σ
theorem SubE.look {σ : Env} : ∀ {σ' : Env} {t : Nat} {v : Value}, SubE σ' σ → Go.Proofs.YtbfheafpecgphaaGreat.look σ' t = some v → Go.Proofs.YtbfheafpecgphaaGreat.look σ t = some v
  | [], _, _, _, h => by simp [Go.Proofs.YtbfheafpecgphaaGreat.look] at h
  | (k, u) :: l, t, v, ⟨h1, h2⟩, h => by
    simp only [Go.Proofs.YtbfheafpecgphaaGreat.look] at h
    by_cases e : k = t
    · subst e; simp at h; subst h; exact h1
    · rw [beq_no e] at h; exact SubE.look h2 h
theorem St.to {σ' : Env} {H' : List HP} {a : Act} {w : World} (s : St B n D σ H a w) (h : SubE σ' σ) (f : Holds B H w → Holds B H' w) : St B n D σ' H' a w := ⟨s.toStA.sub fun _ _ => h.look, f s.holds⟩
theorem go_sub {σ' : Env} (h : SubE σ' σ) (k : GO B n D σ' H K) : GO B n D σ H K := fun a w s => k a w (s.to h id)
theorem go_to {σ' : Env} {H' : List HP} (h : SubE σ' σ) (f : ∀ w, Holds B H w → Holds B H' w) : GO B n D σ H (fun a w => St B n D σ' H' a w) := fun _ w s => s.to h (f w)

/-- A cut within a region: what is known behind its first k operations. -/
theorem p_cut {σ' : Env} {H' : List HP} (k : Nat) {l : List Oper} (h1 : GO B n D σ H (lw ro P ops (fun a w => St B n D σ' H' a w) X (l.take k))) (h2 : GO B n D σ' H' (lw ro P ops K X (l.drop k))) : GO B n D σ H (lw ro P ops K X l) := by
  have key : ∀ (l₁ l₂ : List Oper) a w, lw ro P ops (fun a w => St B n D σ' H' a w) X l₁ a w → GO B n D σ' H' (lw ro P ops K X l₂) → lw ro P ops K X (l₁ ++ l₂) a w := by
    intro l₁
    induction l₁ with
    | nil => intro l₂ a w h g; exact g a w h
    | cons o l₁ ih =>
      intro l₂ a w h g
      simp only [lw, List.cons_append, wpListIn] at h ⊢
      split
      · rename_i hw
        rw [if_pos hw] at h
        refine ⟨h.1, ?_⟩
        have h' := (Oper.wpIn_mono (F := Wd ro) (n := 0) (P := P) (K' := wpListIn (Wd ro) 0 P ops (toQ K X) (l₁ ++ l₂)) (fun a w hh => ih l₂ a w hh g) h).2
        unfold Oper.uponIn at h' ⊢
        generalize (o.semAt (Wd ro).round a.eval).run P w = r at h' ⊢
        cases r with
        | ok v w' =>
          cases v <;> first | exact h' | (obtain ⟨q1, q2⟩ := h'; exact ⟨q1, q2.mono fun e w'' he => by cases e <;> exact he⟩)
        | halt v w' => cases v <;> exact h'
      · rename_i hw
        rw [if_neg hw] at h
        exact ⟨h.1, ih l₂ _ _ h.2 g⟩
  intro a w s
  have := key (l.take k) (l.drop k) a w (h1 a w s) h2
  rwa [List.take_append_drop] at this

/-! ### Guarded operations: '&&', '||' -/
theorem beq_eq {c b : Bool} (h : c = b) : (c == b) = true := by subst h; cases c <;> rfl
theorem beq_ne {c b : Bool} (h : c = !b) : (c == b) = false := by subst h; cases b <;> rfl
theorem p_and {c y : Bool} {t tp : Nat} {σ1 : Env} (k : Nat) {l : List Oper} (hc : look σ t = some (.bool c)) (_hs : SubE σ1 σ)
    (h1 : c = true → GO B n D σ H (lw ro P ops (fun a w => St B n D ((tp, .bool (c && y)) :: σ1) H a w) X (l.take k)))
    (h0 : c = false → GO B n D σ H (lw ro P ops (fun a w => St B n D ((tp, .bool (c && y)) :: σ1) H a w) X (l.take k)))
    (h2 : GO B n D ((tp, .bool (c && y)) :: σ1) H (lw ro P ops K X (l.drop k))) : GO B n D σ H (lw ro P ops K X l) := by
  refine p_cut k ?_ h2
  cases hcc : c with
  | true => subst hcc; exact h1 rfl
  | false => subst hcc; exact h0 rfl
theorem p_or {c y : Bool} {t tp : Nat} {σ1 : Env} (k : Nat) {l : List Oper} (hc : look σ t = some (.bool c)) (_hs : SubE σ1 σ)
    (h1 : c = false → GO B n D σ H (lw ro P ops (fun a w => St B n D ((tp, .bool (c || y)) :: σ1) H a w) X (l.take k)))
    (h0 : c = true → GO B n D σ H (lw ro P ops (fun a w => St B n D ((tp, .bool (c || y)) :: σ1) H a w) X (l.take k)))
    (h2 : GO B n D ((tp, .bool (c || y)) :: σ1) H (lw ro P ops K X (l.drop k))) : GO B n D σ H (lw ro P ops K X l) := by
  refine p_cut k ?_ h2
  cases hcc : c with
  | true => subst hcc; exact h0 rfl
  | false => subst hcc; exact h1 rfl
theorem p_seg {tp : Nat} {r y : Bool} {σ1 : Env} (h : look σ tp = some (.bool y)) (hs : SubE σ1 σ) (e : y = r) : GO B n D σ H (lw ro P ops (fun a w => St B n D ((tp, .bool r) :: σ1) H a w) X []) := by
  subst e; exact fun a w s => s.to ⟨h, hs⟩ id
theorem and_t {c y : Bool} (h : c = true) : y = (c && y) := by subst h; rfl
theorem and_f {c y : Bool} (h : c = false) : false = (c && y) := by subst h; rfl
theorem or_f {c y : Bool} (h : c = false) : y = (c || y) := by subst h; rfl
theorem or_t {c y : Bool} (h : c = true) : true = (c || y) := by subst h; rfl

theorem g_loop {c : Code} {ι : Type} (I : ι → Prop) (σI : ι → Env) (HI : ι → List HP) (μ : ι → Nat) (i₀ : ι)
    (h0 : I i₀) (h1 : ∀ a w, St B n D σ H a w → St B n D (σI i₀) (HI i₀) a w)
    (round : ∀ i, I i → GO B n D (σI i) (HI i) (cw ro P c (fun a w => ∃ j, I j ∧ μ j < μ i ∧ St B n D (σI j) (HI j) a w) X)) :
    GO B n D σ H (cw ro P (.loop c) K X) := by
  intro a w s b k cs hro hb
  have h00 : (lone (b.atR a (.code (.loop c) :: k)) cs w).fenced P (Wd ro) := fenced_calm (n := 0) trivial (rmW _ _) rfl
  have key : ∀ m i, I i → μ i = m → ∀ a w, St B n D (σI i) (HI i) a w →
      ∃ e a' w', toQ K X e a' w' ∧ ArrivesIn (Machine.fenced P (Wd ro)) P (lone (b.atR a (.code c :: .inLoop c :: k)) cs w) b k cs e a' w' := by
    intro m
    induction m using Nat.strongRecOn with
    | _ m ih =>
      intro i hI hi a w s
      obtain ⟨e, a₁, w₁, hq, harr⟩ := round i hI a w s b (.inLoop c :: k) cs hro hb
      cases e with
      | normal =>
        obtain ⟨j, hIj, hj, sj⟩ := hq
        obtain ⟨e₂, a₂, w₂, hq₂, harr₂⟩ := ih (μ j) (by omega) j hIj rfl a₁ w₁ sj
        exact ⟨e₂, a₂, w₂, hq₂, .of_steps (StepsIn.trans harr (.one (fenced_calm (n := 0) trivial (rmW _ _) rfl) stepR_inLoop)) harr₂⟩
      | exit id => exact ⟨.exit id, a₁, w₁, hq, .pass (x := .inLoop c) rfl (fun _ _ => .inl (by simp)) harr⟩
      | goto l => exact hq.elim
      | ret => exact ⟨.ret, a₁, w₁, hq, .pass (x := .inLoop c) rfl (fun _ _ => .inl (by simp)) harr⟩
      | panic ch => exact ⟨.panic ch, a₁, w₁, hq, .pass (x := .inLoop c) rfl (fun _ _ => .inl (by simp)) harr⟩
      | outgrown => exact hq.elim
  obtain ⟨e, a', w', q, r⟩ := key _ i₀ h0 rfl a w (h1 a w s)
  exact ⟨e, a', w', q, .of_steps (.one h00 stepR_loop) r⟩

/-! ### Functions -/
def fnK (P : Program) (fn : Func) (R : Ending → World → Prop) : Act → World → Prop := bodyPost P fn R .normal
def fnX (P : Program) (fn : Func) (R : Ending → World → Prop) : Ext := { ret := bodyPost P fn R .ret, pan := fun c => bodyPost P fn R (.panic c), ex := fun _ _ _ => False }
def argE : Nat → List Value → Env
  | _, [] => []
  | i, v :: vs => (i, v) :: argE (i + 1) vs
theorem look_argE : ∀ (vs : List Value) (i t : Nat) (v : Value), look (argE i vs) t = some v → i ≤ t ∧ vs[t - i]? = some v
  | [], _, _, _, h => by simp [argE, look] at h
  | u :: vs, i, t, v, h => by
    simp only [argE, look] at h
    by_cases e : i = t
    · subst e; simp at h; subst h; simp
    · rw [beq_no e] at h
      obtain ⟨h1, h2⟩ := look_argE vs (i + 1) t v h
      refine ⟨by omega, ?_⟩
      rw [show t - i = (t - (i + 1)) + 1 by omega]; simpa using h2
/-- A function, entered: in its own frame. -/
def cxF (f : FuncId) : Cx := ⟨none, some f⟩
theorem calls_of_cw {f : FuncId} {fn : Func} {c : Code} {args : Array Value} {w : World} {R : Ending → World → Prop} (hf : P.funcs[f]? = some fn) (hb : fn.body = some c)
    (h : cw (cxF f) P c (bodyPostM (Wd (cxF f)) 0 P fn R .normal) ⟨bodyPostM (Wd (cxF f)) 0 P fn R .ret, fun c => bodyPostM (Wd (cxF f)) 0 P fn R (.panic c), fun _ _ _ => False⟩ { tmps := args ++ Array.replicate (fn.ntmps - args.size) undef, defers := [] } w) : Calls P f args w R := by
  refine (calls_wd (ro := cxF f) (n := 0)).1 ⟨trivial, fun cs hr => ?_⟩
  let b : Frame := { (default : Frame) with fn := f, kind := .normal, roundOf := none }
  have henter : Frame.enter P f args .normal =
      b.atR { tmps := args ++ Array.replicate (fn.ntmps - args.size) undef, defers := [] } [.code c] := by
    simp [Frame.enter, Frame.atR, hf, hb, b]
  obtain ⟨e, a', w', hq, harr⟩ := h b [] cs rfl (fun g hg => by cases hg; rfl)
  rw [← henter] at harr
  cases e with
  | normal =>
    obtain ⟨e', w'', fr', hR, hs, hfn, hl⟩ := leaves_stepsInM a'.defers .returning w' { b.atR a' [] with mode := .returning } cs rfl rfl rfl hf rfl trivial hr hq
    exact ⟨e', w'', fr', hR, ComesIn.of_steps (StepsIn.trans harr (.one (fenced_calm (n := 0) (fr := b.atR a' []) trivial (rmW _ _) rfl) (stepR_end rfl))) hs, hfn, hl⟩
  | ret =>
    obtain ⟨todo, hs₀⟩ := harr.1 rfl
    obtain ⟨e', w'', fr', hR, hs, hfn, hl⟩ := leaves_stepsInM a'.defers .returning w' { b.atR a' todo with mode := .returning } cs rfl rfl rfl hf rfl trivial hr hq
    exact ⟨e', w'', fr', hR, ComesIn.of_steps hs₀ hs, hfn, hl⟩
  | panic chain =>
    obtain ⟨todo, hs₀⟩ := harr
    obtain ⟨e', w'', fr', hR, hs, hfn, hl⟩ := leaves_stepsInM a'.defers (.panicking chain) w' { b.atR a' todo with mode := .panicking chain } cs rfl rfl rfl hf rfl trivial hr hq
    exact ⟨e', w'', fr', hR, ComesIn.of_steps hs₀ hs, hfn, hl⟩
  | exit id => exact hq.elim
  | goto l => exact hq.elim
  | outgrown => exact hq.elim
theorem post_m {f : FuncId} {fn : Func} {R : Ending → World → Prop} : ∀ e a w, toQ (fnK P fn R) (fnX P fn R) e a w → toQ (bodyPostM (Wd (cxF f)) 0 P fn R .normal) ⟨bodyPostM (Wd (cxF f)) 0 P fn R .ret, fun c => bodyPostM (Wd (cxF f)) 0 P fn R (.panic c), fun _ _ _ => False⟩ e a w := by
  intro e a w q
  cases e with
  | normal => obtain ⟨hd, q⟩ := q; show LeavesInM _ _ _ _ _ _ a.defers _ _; rw [hd]; exact q
  | ret => obtain ⟨hd, q⟩ := q; show LeavesInM _ _ _ _ _ _ a.defers _ _; rw [hd]; exact q
  | panic c => obtain ⟨hd, q⟩ := q; show LeavesInM _ _ _ _ _ _ a.defers _ _; rw [hd]; exact q
  | exit i => exact q.elim
  | goto l => exact q.elim
  | outgrown => exact q.elim
theorem fn_enter {f : FuncId} {fn : Func} {c : Code} {vs : List Value} {R : Ending → World → Prop} (hf : P.funcs[f]? = some fn) (hb : fn.body = some c) (hn : fn.ntmps = n) (hl : Nat.ble vs.length n = true)
    (h : GO B n [] (argE 0 vs) H (cw (cxF f) P c (fnK P fn R) (fnX P fn R))) : ∀ w, Holds B H w → Calls P f vs.toArray w R := by
  intro w hw
  refine calls_of_cw hf hb (cw_mono (h _ w ⟨⟨?_, rfl, ?_⟩, hw⟩) post_m)
  · have : vs.length ≤ n := by simpa [Nat.ble_eq] using hl
    simp [hn]; omega
  · intro t v ht
    have := (look_argE vs 0 t v ht).2
    simp at this ⊢
    rw [Array.getElem?_append_left]
    · simpa using this
    · have := (List.getElem?_eq_some_iff.1 this).1; simpa using this

theorem ret_tmp {fn : Func} {R : Ending → World → Prop} {t : Nat} {v : Value} (hr : fn.results = #[.tmp t]) (hv : look σ t = some v) (h : ∀ w, Holds B H w → R (.returned v) w) : GO B n [] σ H (fnX P fn R).ret := fun _ w s => by
  refine ⟨s.defers, v, ?_, h w s.holds⟩
  rw [results_tmp hr, Array.getD_eq_getD_getElem?, s.env t v hv]; rfl
theorem ret_none {fn : Func} {R : Ending → World → Prop} (hr : fn.results = #[]) (h : ∀ w, Holds B H w → R (.returned (.tuple #[])) w) : GO B n [] σ H (fnX P fn R).ret := fun _ w s =>
  ⟨s.defers, _, results_none hr _ _ _, h w s.holds⟩
theorem end_none {fn : Func} {R : Ending → World → Prop} (hr : fn.results = #[]) (h : ∀ w, Holds B H w → R (.returned (.tuple #[])) w) : GO B n [] σ H (fnK P fn R) := fun _ w s =>
  ⟨s.defers, _, results_none hr _ _ _, h w s.holds⟩
theorem ret_tmp2 {fn : Func} {R : Ending → World → Prop} {t u : Nat} {v x : Value} (hr : fn.results = #[.tmp t, .tmp u]) (hv : look σ t = some v) (hx : look σ u = some x) (h : ∀ w, Holds B H w → R (.returned (.tuple #[v, x])) w) : GO B n [] σ H (fnX P fn R).ret := fun _ w s => by
  refine ⟨s.defers, .tuple #[v, x], ?_, h w s.holds⟩
  rw [results_tmp2 hr, Array.getD_eq_getD_getElem?, Array.getD_eq_getD_getElem?, s.env t v hv, s.env u x hx]; rfl
theorem pan_fn {R : Ending → World → Prop} {c : List PanicEntry} (h : ∀ w, Holds B H w → R (.panicked c) w) : GO B n [] σ H (fun a w => a.defers = [] ∧ R (.panicked c) w) := fun _ w s => ⟨s.defers, h w s.holds⟩

end
end Go.Proofs.YtbfheafpecgphaaGreat
