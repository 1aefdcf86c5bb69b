/- A small logic of owned blocks: a range over a function. Conditions: none. -/
import Derived.Test.YtbfheafpecgphaaGreatSle
import Derived.RangeFuncRecord
set_option linter.unusedSimpArgs false
set_option linter.unusedVariables false
set_option linter.unnecessarySimpa false
set_option linter.unusedSectionVars false
namespace Go.Proofs.YtbfheafpecgphaaGreat
open Go

section
variable {B : World} {n : Nat} {D : List Deferred} {σ : Env} {H : List HP} {P : Program} {K : Act → World → Prop} {X : Ext} {ops : Array Oper} {rest : List Oper}

/-- The record of a loop, as it is laid. -/
def lrec (f : FuncId) (tmps : Array Value) (ps : Array Tmp) (assign body : Code) (m : Nat) : Loop := { state := .ready, pending := none, fn := f, tmps, params := ps, assign, body, defers := m }
abbrev mark1 (m : Nat) : Deferred := { target := .collected m, args := #[] }
theorem Holds.putl {l : Nat} {r r' : Loop} {w : World} (h : Holds B (blk l (.loop r) :: H) w) : Holds B (blk l (.loop r') :: H) (w.putObj l (.loop r')) := h.put 0 rfl (.loop r')

theorem g_range {f gf : FuncId} {g : Operand} {ps : Array Tmp} {assign body : Code} {fi ca : List Value} (hg : evO σ g = some (.func (.func gf) fi.toArray ca.toArray)) (hcall : ∀ args w, (callFunc gf args).run P w = .ok (.enter gf args) w)
    (h : ∀ (l m : Nat) (tmps : Array Value), tmps.size = n → Knows σ ⟨tmps, []⟩ → ∀ w, Holds B (blk l (.loop (lrec f tmps ps assign body m)) :: blk m (.deferred (some [])) :: H) w →
      Calls P gf (fi ++ [(.func (.yield l) #[] #[] : Value)] ++ ca).toArray w (Ret B (fun _ H' => ∃ r H1, (∀ w, Holds B H' w → Holds B (blk l (.loop r) :: H1) w) ∧ r.state ≠ .busy ∧
          (r.pending = none → GO B n (mark1 m :: D) σ (blk l (.loop { r with state := .exhausted }) :: H1) K) ∧
          (∀ c, r.pending = some c → GO B n (mark1 m :: D) σ (blk l (.loop { r with state := .exhausted }) :: H1) (cw (cxF f) P c K X)))
        (fun c H' => GO B n (mark1 m :: D) σ H' (X.pan c)))) :
    GO B n D σ H (cw (cxF f) P (.rangeFunc g ps assign body) K X) := by
  intro a w s b k cs hro hbf
  have hfn : b.fn = f := hbf f rfl
  have he : (Instr.enterLoop b.fn a.tmps ps assign body b.roundOf).run P w =
      .ok (w.heap.size + 1, [mark1 w.heap.size]) ((w.alloc (.deferred (some []))).alloc (.loop (lrec f a.tmps ps assign body w.heap.size))) := by
    rw [hfn, hro]; exact run_enterLoop_outer f a.tmps ps assign body
  generalize hw1 : (w.alloc (.deferred (some []))).alloc (.loop (lrec f a.tmps ps assign body w.heap.size)) = w₁ at he
  have hres : (resolve a.eval (rangeCall g (w.heap.size + 1)) 0).run P w₁ = .ok (Deferred.mk (.fn (.func gf) ca.toArray) (fi.toArray ++ #[(.func (.yield (w.heap.size + 1)) #[] #[] : Value)])) w₁ := by
    simp [resolve, rangeCall, Deferred.ofValue, s.env.eval hg]
    rfl
  have hinv : (invoke (.fn (.func gf) ca.toArray) (fi.toArray ++ #[(.func (.yield (w.heap.size + 1)) #[] #[] : Value)])).run P w₁ = .ok (.enter gf (fi ++ [(.func (.yield (w.heap.size + 1)) #[] #[] : Value)] ++ ca).toArray) w₁ := by
    simp [invoke, hcall]
  have hH : Holds B (blk (w.heap.size + 1) (.loop (lrec f a.tmps ps assign body w.heap.size)) :: blk w.heap.size (.deferred (some [])) :: H) w₁ := by
    rw [← hw1]
    have h1 := s.holds.new (.deferred (some []))
    have h2 := h1.new (.loop (lrec f a.tmps ps assign body w.heap.size))
    have e2 : (w.heap.push (.deferred (some []))).size = w.heap.size + 1 := by simp
    rw [e2] at h2
    exact h2
  have hc := calls_wd (ro := cxF f) (n := 0) |>.2 (h (w.heap.size + 1) w.heap.size a.tmps s.size s.env w₁ hH)
  have h0 : (lone (b.atR a (.code (.rangeFunc g ps assign body) :: k)) cs w).fenced P (Wd (cxF f)) := fenced_lone (.inl trivial) (fun _ _ => trivial) (rmW _ _)
  have henter := stepR_rangeFunc (P := P) (b := b) (a := a) (k := k) (cs := cs) (w := w) he hres hinv
  have hsb : ∀ H' w', Holds B H' w' → St B n (mark1 w.heap.size :: D) σ H' { a with defers := [mark1 w.heap.size] ++ a.defers } w' := fun H' w' hw' => ⟨⟨s.size, by simp [s.defers], s.env⟩, hw'⟩
  obtain ⟨e, w₃, fr, hR, hsteps, hfn', hleave⟩ := hc.2 (b.atR { a with defers := [mark1 w.heap.size] ++ a.defers } (.inRangeFunc (w.heap.size + 1) :: k) :: cs) (rmW _ _)
  cases e with
  | outgrown => exact hR.elim
  | returned v =>
    have hl : (lone fr (b.atR { a with defers := [mark1 w.heap.size] ++ a.defers } (.inRangeFunc (w.heap.size + 1) :: k) :: cs) w₃).fenced P (Wd (cxF f)) := fenced_leaving (n := 0) trivial (rmW _ _) hleave
    obtain ⟨H', ⟨r, H1, hconv, hbusy, hj1, hj2⟩, hHold⟩ := hR
    have hH3 := hconv w₃ hHold
    have hend := run_endLoop (P := P) (hH3.read 0 rfl) hbusy
    have hH4 := hH3.putl (r' := { r with state := .exhausted })
    have sback : StepsIn (Machine.fenced P (Wd (cxF f))) P (lone (b.atR a (.code (.rangeFunc g ps assign body) :: k)) cs w) (lone (b.atR { a with defers := [mark1 w.heap.size] ++ a.defers } ((r.pending.map Item.code).toList ++ k)) cs (w₃.putObj (w.heap.size + 1) (.loop { r with state := .exhausted }))) := by
      refine .head h0 henter (StepsIn.trans hsteps (.head hl ?_ (.one (fenced_calm (n := 0) (fr := b.atR { a with defers := [mark1 w.heap.size] ++ a.defers } (.endRangeFunc (w.heap.size + 1) :: k)) trivial (rmW _ _) rfl) (stepR_endRangeFunc hend))))
      rw [← finish_atR_inRangeFunc (w.heap.size + 1) v]; exact step_leave_returned hleave
    generalize w₃.putObj (w.heap.size + 1) (.loop { r with state := .exhausted }) = w4 at hH4 sback
    cases hp : r.pending with
    | none => rw [hp] at sback; exact ⟨.normal, _, _, hj1 hp _ _ (hsb _ _ hH4), sback⟩
    | some c =>
      rw [hp] at sback
      obtain ⟨e', a'', w₅, hq, harr⟩ := hj2 c hp _ _ (hsb _ _ hH4) b k cs hro hbf
      exact ⟨e', a'', w₅, hq, .of_steps sback harr⟩
  | panicked chain =>
    have hl : (lone fr (b.atR { a with defers := [mark1 w.heap.size] ++ a.defers } (.inRangeFunc (w.heap.size + 1) :: k) :: cs) w₃).fenced P (Wd (cxF f)) := fenced_leaving (n := 0) trivial (rmW _ _) hleave
    obtain ⟨H', hX, hHold⟩ := hR
    refine ⟨.panic chain, _, w₃, hX _ _ (hsb _ _ hHold), .inRangeFunc (w.heap.size + 1) :: k, .head h0 henter (StepsIn.trans hsteps (.one hl ?_))⟩
    rw [← Frame.raise_atR]; exact step_leave_panicked hleave

/-- The like, where no round leaves the loop otherwise than by a panic. -/
theorem g_range0 {ι : Type} {f gf : FuncId} {g : Operand} {ps : Array Tmp} {assign body : Code} {fi ca : List Value} (Hx : ι → List HP) (Q Q' : ι → Prop) (c0 : List PanicEntry) (hg : evO σ g = some (.func (.func gf) fi.toArray ca.toArray)) (hcall : ∀ args w, (callFunc gf args).run P w = .ok (.enter gf args) w)
    (h : ∀ (l m : Nat) (tmps : Array Value), tmps.size = n → Knows σ ⟨tmps, []⟩ → ∀ w, Holds B (blk l (.loop (lrec f tmps ps assign body m)) :: blk m (.deferred (some [])) :: H) w →
      Calls P gf (fi ++ [(.func (.yield l) #[] #[] : Value)] ++ ca).toArray w (Ret B (fun _ H' => ∃ x, Q x ∧ ∀ w, Holds B H' w → Holds B (blk l (.loop (lrec f tmps ps assign body m)) :: blk m (.deferred (some [])) :: Hx x) w)
        (fun c H' => c = c0 ∧ ∃ x, Q' x ∧ ∀ w, Holds B H' w → Holds B (blk m (.deferred (some [])) :: Hx x) w)))
    (k : ∀ m x, Q x → GO B n (mark1 m :: D) σ (blk m (.deferred (some [])) :: Hx x) K)
    (kp : ∀ m x, Q' x → GO B n (mark1 m :: D) σ (blk m (.deferred (some [])) :: Hx x) (X.pan c0)) :
    GO B n D σ H (cw (cxF f) P (.rangeFunc g ps assign body) K X) := by
  refine g_range hg hcall fun l m tmps hs hk w hw => (h l m tmps hs hk w hw).mono (Ret.mono ?_ ?_)
  · rintro v H' ⟨x, hx, hc⟩
    refine ⟨_, _, hc, by simp [lrec], fun _ => ?_, fun c e => by simp [lrec] at e⟩
    exact go_conv (fun w hw => hw.tail) (k m x hx)
  · rintro c H' ⟨rfl, x, hx, hc⟩
    exact go_conv hc (kp m x hx)
/-! ### A round -/
def rK (B : World) (l : Nat) (R : Ending → World → Prop) : Act → World → Prop := fun _ w => ∃ r H, Holds B (blk l (.loop r) :: H) w ∧ ∀ w', Holds B (blk l (.loop { r with state := .ready, pending := none }) :: H) w' → R (.returned (.bool true)) w'
def rJ (B : World) (l : Nat) (R : Ending → World → Prop) (c : Code) : Act → World → Prop := fun _ w => ∃ r H, Holds B (blk l (.loop r) :: H) w ∧ ∀ w', Holds B (blk l (.loop { r with state := .done, pending := some c }) :: H) w' → R (.returned (.bool false)) w'
def rX (B : World) (l : Nat) (R : Ending → World → Prop) : Ext := { ret := rJ B l R .ret, pan := fun c a w => a.defers = [] ∧ R (.panicked c) w, ex := fun i => rJ B l R (.exit i) }
theorem round_go {l : Nat} {f : FuncId} {fnc : Func} {tmps : Array Value} {assign body : Code} {r : Loop} {R : Ending → World → Prop} (hf : P.funcs[f]? = some fnc) (hs : tmps.size = n) (hk : Knows σ ⟨tmps, []⟩) (hr : r.state = .ready)
    (h : GO B n [] σ (blk l (.loop r) :: H) (cw ⟨some l, some f⟩ P assign (fun a w => ∃ σ1 H1, St B n [] σ1 (blk l (.loop r) :: H1) a w ∧ GO B n [] σ1 (blk l (.loop { r with state := .busy }) :: H1) (cw ⟨some l, some f⟩ P body (rK B l R) (rX B l R))) noX)) :
    ∀ w, Holds B (blk l (.loop r) :: H) w → RoundIn (Wd (cxF f)) 0 P l f tmps assign body w R := by
  intro w hw
  refine ⟨trivial, fun c cs hroom => ?_⟩
  let b : Frame := { (default : Frame) with fn := f, kind := .normal, roundOf := some l }
  have hb0 : Frame.round l f tmps assign body .normal = b.atR { tmps := tmps, defers := [] } [.code assign, .beginRound, .code body] := by
    simp [Frame.round, Frame.atR, b]
  have hfn : ∀ g, (⟨some l, some f⟩ : Cx).fn = some g → b.fn = g := fun g hg => by cases hg; rfl
  obtain ⟨e, a₁, w₁, hq, harr⟩ := h { tmps := tmps, defers := [] } w ⟨⟨hs, rfl, hk⟩, hw⟩ b [.beginRound, .code body] (c :: cs) rfl hfn
  rw [← hb0] at harr
  cases e with
  | normal =>
    obtain ⟨σ1, H1, st1, hbody⟩ := hq
    have hbr := run_beginRound (P := P) (st1.holds.read 0 rfl) hr
    have hH2 := st1.holds.putl (r' := { r with state := .busy })
    have s1 : StepsIn (Machine.fenced P (Wd (cxF f))) P (lone (b.atR a₁ [.beginRound, .code body]) (c :: cs) w₁) (lone (b.atR a₁ [.code body]) (c :: cs) (w₁.putObj l (.loop { r with state := .busy }))) :=
      .one (fenced_calm (n := 0) (fr := b.atR a₁ [.beginRound, .code body]) trivial (rmW _ _) rfl) (stepR_beginRound rfl hbr)
    obtain ⟨e₂, a₂, w₃, hq₂, harr₂⟩ := hbody _ _ ⟨st1.toStA, hH2⟩ b [] (c :: cs) rfl hfn
    cases e₂ with
    | normal =>
      obtain ⟨r3, H3, h3, hR⟩ := hq₂
      have hend := run_endRound (P := P) none (h3.read 0 rfl)
      exact ⟨.returned _, _, hR _ h3.putl, (StepsIn.trans harr s1).trans (StepsIn.trans harr₂ (.one (fenced_calm (n := 0) (fr := b.atR a₂ []) trivial (rmW _ _) rfl) (stepR_round_end rfl rfl hend)))⟩
    | ret =>
      obtain ⟨r3, H3, h3, hR⟩ := hq₂
      have hend := run_endRound (P := P) (some .ret) (h3.read 0 rfl)
      obtain ⟨k₁, hs'⟩ := harr₂.2 rfl
      exact ⟨.returned _, _, hR _ h3.putl, (StepsIn.trans harr s1).trans (StepsIn.trans hs' (.one (fenced_calm (n := 0) (fr := b.atR a₂ (.code .ret :: k₁)) trivial (rmW _ _) rfl) (stepR_round_ret rfl rfl hend)))⟩
    | exit id =>
      obtain ⟨r3, H3, h3, hR⟩ := hq₂
      have hend := run_endRound (P := P) (some (.exit id)) (h3.read 0 rfl)
      obtain ⟨k₁, hk', hs'⟩ := harr₂.2 rfl rfl
      exact ⟨.returned _, _, hR _ h3.putl, (StepsIn.trans harr s1).trans (StepsIn.trans hs' (.one (fenced_calm (n := 0) (fr := b.atR a₂ (.code (.exit id) :: k₁)) trivial (rmW _ _) rfl) (stepR_round_exit rfl rfl hk' hend)))⟩
    | goto t => exact hq₂.elim
    | panic chain =>
      obtain ⟨hd, hR⟩ := hq₂
      obtain ⟨todo, hs'⟩ := harr₂
      have hleave : ({ b.atR a₂ todo with mode := .panicking chain } : Frame).leaving P w₃ (.panicked chain) := ⟨rfl, hd, fnc, hf⟩
      exact ⟨.panicked chain, w₃, hR, (StepsIn.trans harr s1).trans (StepsIn.trans hs' (.one (fenced_leaving (n := 0) trivial (rmW _ _) hleave) (step_leave_panicked hleave)))⟩
    | outgrown => exact hq₂.elim
  | exit id => exact hq.elim
  | goto t => exact hq.elim
  | ret => exact hq.elim
  | panic chain => exact hq.elim
  | outgrown => exact hq.elim

theorem go_mid {ro : Cx} {l : Nat} {r : Loop} {body : Code} {R : Ending → World → Prop} (h : GO B n [] σ (blk l (.loop { r with state := .busy }) :: H) (cw ro P body (rK B l R) (rX B l R))) :
    GO B n [] σ (blk l (.loop r) :: H) (fun a w => ∃ σ1 H1, St B n [] σ1 (blk l (.loop r) :: H1) a w ∧ GO B n [] σ1 (blk l (.loop { r with state := .busy }) :: H1) (cw ro P body (rK B l R) (rX B l R))) := fun _ _ st => ⟨σ, H, st, h⟩
theorem go_rK {l : Nat} {r : Loop} {R : Ending → World → Prop} (h : ∀ w', Holds B (blk l (.loop { r with state := .ready, pending := none }) :: H) w' → R (.returned (.bool true)) w') : GO B n D σ (blk l (.loop r) :: H) (rK B l R) := fun _ w st => ⟨r, H, st.holds, h⟩
theorem go_rJ {l : Nat} {r : Loop} {c : Code} {R : Ending → World → Prop} (h : ∀ w', Holds B (blk l (.loop { r with state := .done, pending := some c }) :: H) w' → R (.returned (.bool false)) w') : GO B n D σ (blk l (.loop r) :: H) (rJ B l R c) := fun _ w st => ⟨r, H, st.holds, h⟩
/-- A call of the loop's own function: a round. -/
theorem p_yield {ro : Cx} {f : FuncId} {l d : Nat} {r : Loop} {x : Operand} {xs : Array Operand} {at_ : Array TypeId} {ty : TypeId} {p : String} {af : Array Edge} {g : Option (Nat × Bool)} {vs : List Value} {H1 : List HP} {Φ : Value → List HP → Prop} {Ψ : List PanicEntry → List HP → Prop}
    (hx : evO σ x = some (.func (.yield l) #[] #[])) (hv : evL σ xs.toList = some vs) (hl : ∀ w, Holds B H w → Holds B (blk l (.loop r) :: H1) w) (hp : vs.length = r.params.size) (hfn : r.fn = f)
    (hr : ∀ w, Holds B (blk l (.loop r) :: H1) w → RoundIn (Wd (cxF f)) 0 P l f ((r.params.zip vs.toArray).foldl (fun tmps (t, a) => tmps.setIfInBounds t a) r.tmps) r.assign r.body w (Ret B Φ Ψ)) (hw : Wants ops σ g true) (hb : Nat.blt d n = true)
    (k : ∀ v H', Φ v H' → GO B n D ((d, v) :: σ) H' (lw ro P ops K X rest)) (kp : ∀ c H', Ψ c H' → GO B n D σ H' (X.pan c)) : GO B n D σ H (lw ro P ops K X (⟨some d, .call ⟨.value x, xs, at_⟩, ty, p, af, g⟩ :: rest)) := by
  intro a w s
  show (if Region.wanted _ (yielded ops a.tmps) then _ else _)
  rw [hw.wanted (o := ⟨some d, .call ⟨.value x, xs, at_⟩, ty, p, af, g⟩) s.env, if_pos rfl]
  refine ⟨fun _ _ => trivial, ?_⟩
  have h1 := hl w s.holds
  have hy := run_yield (P := P) (args := vs.toArray) (h1.read 0 rfl) (by simpa using hp)
  have he : (execOp a.eval ⟨some d, .call ⟨.value x, xs, at_⟩, ty, p, af, g⟩).run P w = .ok (.round l r.fn ((r.params.zip vs.toArray).foldl (fun tmps (t, a) => tmps.setIfInBounds t a) r.tmps) r.assign r.body) w := by
    simp [execOp, resolve, Deferred.ofValue, invoke, s.env.eval hx, s.env.evalsA hv, hy]
  rw [semAt_nd rfl, he, Oper.uponIn_round]
  refine ⟨fun h => by simp at h, ?_⟩
  rw [hfn]
  have h2 : RoundIn (Wd ro) 0 P l f ((r.params.zip vs.toArray).foldl (fun tmps (t, a) => tmps.setIfInBounds t a) r.tmps) r.assign r.body w (Ret B Φ Ψ) := hr w h1
  refine h2.mono fun e w' h => ?_
  cases e with
  | returned v => obtain ⟨H', hΦ, hH⟩ := h; exact k v H' hΦ _ _ ⟨s.toStA.put hb v, hH⟩
  | panicked c => obtain ⟨H', hΨ, hH⟩ := h; exact kp c H' hΨ _ _ ⟨s.toStA, hH⟩
  | outgrown => exact h.elim

/-! ### Functions with a range over a function in them -/
def fnKM (P : Program) (f : FuncId) (fn : Func) (R : Ending → World → Prop) : Act → World → Prop := bodyPostM (Wd (cxF f)) 0 P fn R .normal
def fnXM (P : Program) (f : FuncId) (fn : Func) (R : Ending → World → Prop) : Ext := ⟨bodyPostM (Wd (cxF f)) 0 P fn R .ret, fun c => bodyPostM (Wd (cxF f)) 0 P fn R (.panic c), fun _ _ _ => False⟩
theorem fn_enter_m {f : FuncId} {fn : Func} {c : Code} {vs : List Value} {R : Ending → World → Prop} (hf : P.funcs[f]? = some fn) (hb : fn.body = some c) (hn : fn.ntmps = n) (hl : Nat.ble vs.length n = true)
    (h : GO B n [] (argE 0 vs) H (cw (cxF f) P c (fnKM P f fn R) (fnXM P f fn R))) : ∀ w, Holds B H w → Calls P f vs.toArray w R := by
  intro w hw
  refine calls_of_cw hf hb (h _ w ⟨⟨?_, rfl, ?_⟩, hw⟩)
  · have : vs.length ≤ n := by simpa [Nat.ble_eq] using hl
    simp [hn]; omega
  · intro t v ht
    have := (look_argE vs 0 t v ht).2
    simp at this ⊢
    rw [Array.getElem?_append_left]
    · simpa using this
    · have := (List.getElem?_eq_some_iff.1 this).1; simpa using this
/-- The marks of a frame, each with its block in the list: the list behind them. -/
inductive Marks : List Deferred → List HP → List HP → Prop
  | nil {H : List HP} : Marks [] H H
  | cons {D : List Deferred} {H H2 : List HP} {m : Nat} {i : Nat} (h : H[i]? = some (blk m (.deferred (some [])))) (h2 : Marks D (H.set i (blk m (.deferred none))) H2) : Marks (mark1 m :: D) H H2
  | conv {D : List Deferred} {H H' H2 : List HP} (f : ∀ k, Go.Proofs.YtbfheafpecgphaaGreat.sat H k → Go.Proofs.YtbfheafpecgphaaGreat.sat H' k) (h2 : Marks D H' H2) : Marks D H H2
theorem Marks.leave {f : FuncId} {fn : Func} {R : Ending → World → Prop} {u : FrameMode} (hu : u ≠ .run) {tmps : Array Value} {D : List Deferred} {H H2 : List HP} (m : Marks D H H2) : ∀ w, Holds B H w → (∀ w', Holds B H2 w' → LeavesInM (Wd (cxF f)) 0 P fn tmps R [] u w') → LeavesInM (Wd (cxF f)) 0 P fn tmps R D u w := by
  induction m with
  | nil => intro w hw h; exact h w hw
  | @cons D H H2 m i h1 h2 ih =>
    intro w hw h
    refine ⟨hu, .inl ⟨m, _, rfl, run_takeDeferred (hw.read i h1), ?_⟩⟩
    exact ih _ (hw.put i h1 (.deferred none)) h
  | conv f h2 ih =>
    intro w hw h
    exact ih w (hw.map f) h
theorem ret_none_m {f : FuncId} {fn : Func} {R : Ending → World → Prop} {H2 : List HP} (hr : fn.results = #[]) (m : Marks D H H2) (h : ∀ w, Holds B H2 w → R (.returned (.tuple #[])) w) : GO B n D σ H (fnXM P f fn R).ret := fun a w s => by
  show LeavesInM _ _ _ _ _ _ a.defers _ _
  rw [s.defers]
  exact m.leave (by simp) w s.holds fun w' hw' => ⟨_, results_none hr _ _ _, h w' hw'⟩
theorem end_none_m {f : FuncId} {fn : Func} {R : Ending → World → Prop} {H2 : List HP} (hr : fn.results = #[]) (m : Marks D H H2) (h : ∀ w, Holds B H2 w → R (.returned (.tuple #[])) w) : GO B n D σ H (fnKM P f fn R) := fun a w s => by
  show LeavesInM _ _ _ _ _ _ a.defers _ _
  rw [s.defers]
  exact m.leave (by simp) w s.holds fun w' hw' => ⟨_, results_none hr _ _ _, h w' hw'⟩
theorem ret_tmp_m {f : FuncId} {fn : Func} {R : Ending → World → Prop} {H2 : List HP} {t : Nat} {v : Value} (hr : fn.results = #[.tmp t]) (hv : look σ t = some v) (m : Marks D H H2) (h : ∀ w, Holds B H2 w → R (.returned v) w) : GO B n D σ H (fnXM P f fn R).ret := fun a w s => by
  show LeavesInM _ _ _ _ _ _ a.defers _ _
  rw [s.defers]
  refine m.leave (by simp) w s.holds fun w' hw' => ⟨v, ?_, h w' hw'⟩
  rw [results_tmp hr, Array.getD_eq_getD_getElem?, s.env t v hv]; rfl
theorem pan_fn_m {f : FuncId} {fn : Func} {R : Ending → World → Prop} {H2 : List HP} {c : List PanicEntry} (m : Marks D H H2) (h : ∀ w, Holds B H2 w → R (.panicked c) w) : GO B n D σ H ((fnXM P f fn R).pan c) := fun a w s => by
  show LeavesInM _ _ _ _ _ _ a.defers _ _
  rw [s.defers]
  exact m.leave (by simp) w s.holds fun w' hw' => h w' hw'
end
end Go.Proofs.YtbfheafpecgphaaGreat
