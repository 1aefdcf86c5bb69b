/- Part of the texts beneath a law: what its proof names. Conditions: none. -/
import Derived.Test.YtbfheafpecgphaaGreatQL16Mb
import Derived.RangeFuncRecord
set_option linter.unusedSimpArgs false
set_option linter.unusedVariables false
set_option linter.unnecessarySimpa false
set_option linter.unusedSectionVars false
namespace Go.Proofs.YtbfheafpecgphaaGreat
open Go
section
variable {B : World} {n : Nat} {D : List Deferred} {σ : Env} {H : List HP} {P : Program} {K : Act → World → Prop} {X : Ext} {ops : Array Oper} {rest : List Oper}
def lrec (f : FuncId) (tmps : Array Value) (ps : Array Tmp) (assign body : Code) (m : Nat) : Loop := { state := .ready, pending := none, fn := f, tmps, params := ps, assign, body, defers := m }
abbrev mark1 (m : Nat) : Deferred := { target := .collected m, args := #[] }
theorem Holds.putl {l : Nat} {r r' : Loop} {w : World} (h : Holds B (blk l (.loop r) :: H) w) : Holds B (blk l (.loop r') :: H) (w.putObj l (.loop r')) := h.put 0 rfl (.loop r')
theorem g_range {f gf : FuncId} {g : Operand} {ps : Array Tmp} {assign body : Code} {fi ca : List Value} (hg : evO σ g = some (.func (.func gf) fi.toArray ca.toArray)) (hcall : ∀ args w, (callFunc gf args).run P w = .ok (.enter gf args) w)
    (h : ∀ (l m : Nat) (tmps : Array Value), tmps.size = n → Knows σ ⟨tmps, []⟩ → ∀ w, Holds B (blk l (.loop (lrec f tmps ps assign body m)) :: blk m (.deferred (some [])) :: H) w →
      Calls P gf (fi ++ [(.func (.yield l) #[] #[] : Value)] ++ ca).toArray w (Ret B (fun _ H' => ∃ r H1, (∀ w, Holds B H' w → Holds B (blk l (.loop r) :: H1) w) ∧ r.state ≠ .busy ∧
          (r.pending = none → GO B n (mark1 m :: D) σ (blk l (.loop { r with state := .exhausted }) :: H1) K) ∧
          (∀ c, r.pending = some c → GO B n (mark1 m :: D) σ (blk l (.loop { r with state := .exhausted }) :: H1) (cw (cxF f) P c K X)))
        (fun c H' => GO B n (mark1 m :: D) σ H' (X.pan c)))) :
    GO B n D σ H (cw (cxF f) P (.rangeFunc g ps assign body) K X) := by
  intro a w s b k cs hro hbf
  have hfn : b.fn = f := hbf f rfl
  have he : (Instr.enterLoop b.fn a.tmps ps assign body b.roundOf).run P w =
      .ok (w.heap.size + 1, [mark1 w.heap.size]) ((w.alloc (.deferred (some []))).alloc (.loop (lrec f a.tmps ps assign body w.heap.size))) := by
    rw [hfn, hro]; exact run_enterLoop_outer f a.tmps ps assign body
  generalize hw1 : (w.alloc (.deferred (some []))).alloc (.loop (lrec f a.tmps ps assign body w.heap.size)) = w₁ at he
  have hres : (resolve a.eval (rangeCall g (w.heap.size + 1)) 0).run P w₁ = .ok (Deferred.mk (.fn (.func gf) ca.toArray) (fi.toArray ++ #[(.func (.yield (w.heap.size + 1)) #[] #[] : Value)])) w₁ := by
    simp [resolve, rangeCall, Deferred.ofValue, s.env.eval hg]
    rfl
  have hinv : (invoke (.fn (.func gf) ca.toArray) (fi.toArray ++ #[(.func (.yield (w.heap.size + 1)) #[] #[] : Value)])).run P w₁ = .ok (.enter gf (fi ++ [(.func (.yield (w.heap.size + 1)) #[] #[] : Value)] ++ ca).toArray) w₁ := by
    simp [invoke, hcall]
  have hH : Holds B (blk (w.heap.size + 1) (.loop (lrec f a.tmps ps assign body w.heap.size)) :: blk w.heap.size (.deferred (some [])) :: H) w₁ := by
    rw [← hw1]
    have h1 := s.holds.new (.deferred (some []))
    have h2 := h1.new (.loop (lrec f a.tmps ps assign body w.heap.size))
    have e2 : (w.heap.push (.deferred (some []))).size = w.heap.size + 1 := by simp
    rw [e2] at h2
    exact h2
  have hc := calls_wd (ro := cxF f) (n := 0) |>.2 (h (w.heap.size + 1) w.heap.size a.tmps s.size s.env w₁ hH)
  have h0 : (lone (b.atR a (.code (.rangeFunc g ps assign body) :: k)) cs w).fenced P (Wd (cxF f)) := fenced_lone (.inl trivial) (fun _ _ => trivial) (rmW _ _)
  have henter := stepR_rangeFunc (P := P) (b := b) (a := a) (k := k) (cs := cs) (w := w) he hres hinv
  have hsb : ∀ H' w', Holds B H' w' → St B n (mark1 w.heap.size :: D) σ H' { a with defers := [mark1 w.heap.size] ++ a.defers } w' := fun H' w' hw' => ⟨⟨s.size, by simp [s.defers], s.env⟩, hw'⟩
  obtain ⟨e, w₃, fr, hR, hsteps, hfn', hleave⟩ := hc.2 (b.atR { a with defers := [mark1 w.heap.size] ++ a.defers } (.inRangeFunc (w.heap.size + 1) :: k) :: cs) (rmW _ _)
  cases e with
  | outgrown => exact hR.elim
  | returned v =>
    have hl : (lone fr (b.atR { a with defers := [mark1 w.heap.size] ++ a.defers } (.inRangeFunc (w.heap.size + 1) :: k) :: cs) w₃).fenced P (Wd (cxF f)) := fenced_leaving (n := 0) trivial (rmW _ _) hleave
    obtain ⟨H', ⟨r, H1, hconv, hbusy, hj1, hj2⟩, hHold⟩ := hR
    have hH3 := hconv w₃ hHold
    have hend := run_endLoop (P := P) (hH3.read 0 rfl) hbusy
    have hH4 := hH3.putl (r' := { r with state := .exhausted })
    have sback : StepsIn (Machine.fenced P (Wd (cxF f))) P (lone (b.atR a (.code (.rangeFunc g ps assign body) :: k)) cs w) (lone (b.atR { a with defers := [mark1 w.heap.size] ++ a.defers } ((r.pending.map Item.code).toList ++ k)) cs (w₃.putObj (w.heap.size + 1) (.loop { r with state := .exhausted }))) := by
      refine .head h0 henter (StepsIn.trans hsteps (.head hl ?_ (.one (fenced_calm (n := 0) (fr := b.atR { a with defers := [mark1 w.heap.size] ++ a.defers } (.endRangeFunc (w.heap.size + 1) :: k)) trivial (rmW _ _) rfl) (stepR_endRangeFunc hend))))
      rw [← finish_atR_inRangeFunc (w.heap.size + 1) v]; exact step_leave_returned hleave
    generalize w₃.putObj (w.heap.size + 1) (.loop { r with state := .exhausted }) = w4 at hH4 sback
    cases hp : r.pending with
    | none => rw [hp] at sback; exact ⟨.normal, _, _, hj1 hp _ _ (hsb _ _ hH4), sback⟩
    | some c =>
      rw [hp] at sback
      obtain ⟨e', a'', w₅, hq, harr⟩ := hj2 c hp _ _ (hsb _ _ hH4) b k cs hro hbf
      exact ⟨e', a'', w₅, hq, .of_steps sback harr⟩
  | panicked chain =>
    have hl : (lone fr (b.atR { a with defers := [mark1 w.heap.size] ++ a.defers } (.inRangeFunc (w.heap.size + 1) :: k) :: cs) w₃).fenced P (Wd (cxF f)) := fenced_leaving (n := 0) trivial (rmW _ _) hleave
    obtain ⟨H', hX, hHold⟩ := hR
    refine ⟨.panic chain, _, w₃, hX _ _ (hsb _ _ hHold), .inRangeFunc (w.heap.size + 1) :: k, .head h0 henter (StepsIn.trans hsteps (.one hl ?_))⟩
    rw [← Frame.raise_atR]; exact step_leave_panicked hleave
theorem g_range0 {ι : Type} {f gf : FuncId} {g : Operand} {ps : Array Tmp} {assign body : Code} {fi ca : List Value} (Hx : ι → List HP) (Q Q' : ι → Prop) (c0 : List PanicEntry) (hg : evO σ g = some (.func (.func gf) fi.toArray ca.toArray)) (hcall : ∀ args w, (callFunc gf args).run P w = .ok (.enter gf args) w)
    (h : ∀ (l m : Nat) (tmps : Array Value), tmps.size = n → Knows σ ⟨tmps, []⟩ → ∀ w, Holds B (blk l (.loop (lrec f tmps ps assign body m)) :: blk m (.deferred (some [])) :: H) w →
      Calls P gf (fi ++ [(.func (.yield l) #[] #[] : Value)] ++ ca).toArray w (Ret B (fun _ H' => ∃ x, Q x ∧ ∀ w, Holds B H' w → Holds B (blk l (.loop (lrec f tmps ps assign body m)) :: blk m (.deferred (some [])) :: Hx x) w)
        (fun c H' => c = c0 ∧ ∃ x, Q' x ∧ ∀ w, Holds B H' w → Holds B (blk m (.deferred (some [])) :: Hx x) w)))
    (k : ∀ m x, Q x → GO B n (mark1 m :: D) σ (blk m (.deferred (some [])) :: Hx x) K)
    (kp : ∀ m x, Q' x → GO B n (mark1 m :: D) σ (blk m (.deferred (some [])) :: Hx x) (X.pan c0)) :
    GO B n D σ H (cw (cxF f) P (.rangeFunc g ps assign body) K X) := by
  refine g_range hg hcall fun l m tmps hs hk w hw => (h l m tmps hs hk w hw).mono (Ret.mono ?_ ?_)
  · rintro v H' ⟨x, hx, hc⟩
    refine ⟨_, _, hc, by simp [lrec], fun _ => ?_, fun c e => by simp [lrec] at e⟩
    exact go_conv (fun w hw => hw.tail) (k m x hx)
  · rintro c H' ⟨rfl, x, hx, hc⟩
    exact go_conv hc (kp m x hx)
def rK (B : World) (l : Nat) (R : Ending → World → Prop) : Act → World → Prop := fun _ w => ∃ r H, Holds B (blk l (.loop r) :: H) w ∧ ∀ w', Holds B (blk l (.loop { r with state := .ready, pending := none }) :: H) w' → R (.returned (.bool true)) w'
def rJ (B : World) (l : Nat) (R : Ending → World → Prop) (c : Code) : Act → World → Prop := fun _ w => ∃ r H, Holds B (blk l (.loop r) :: H) w ∧ ∀ w', Holds B (blk l (.loop { r with state := .done, pending := some c }) :: H) w' → R (.returned (.bool false)) w'
def rX (B : World) (l : Nat) (R : Ending → World → Prop) : Ext := { ret := rJ B l R .ret, pan := fun c a w => a.defers = [] ∧ R (.panicked c) w, ex := fun i => rJ B l R (.exit i) }
theorem round_go {l : Nat} {f : FuncId} {fnc : Func} {tmps : Array Value} {assign body : Code} {r : Loop} {R : Ending → World → Prop} (hf : P.funcs[f]? = some fnc) (hs : tmps.size = n) (hk : Knows σ ⟨tmps, []⟩) (hr : r.state = .ready)
    (h : GO B n [] σ (blk l (.loop r) :: H) (cw ⟨some l, some f⟩ P assign (fun a w => ∃ σ1 H1, St B n [] σ1 (blk l (.loop r) :: H1) a w ∧ GO B n [] σ1 (blk l (.loop { r with state := .busy }) :: H1) (cw ⟨some l, some f⟩ P body (rK B l R) (rX B l R))) noX)) :
    ∀ w, Holds B (blk l (.loop r) :: H) w → RoundIn (Wd (cxF f)) 0 P l f tmps assign body w R := by
  intro w hw
  refine ⟨trivial, fun c cs hroom => ?_⟩
  let b : Frame := { (default : Frame) with fn := f, kind := .normal, roundOf := some l }
  have hb0 : Frame.round l f tmps assign body .normal = b.atR { tmps := tmps, defers := [] } [.code assign, .beginRound, .code body] := by
    simp [Frame.round, Frame.atR, b]
  have hfn : ∀ g, (⟨some l, some f⟩ : Cx).fn = some g → b.fn = g := fun g hg => by cases hg; rfl
  obtain ⟨e, a₁, w₁, hq, harr⟩ := h { tmps := tmps, defers := [] } w ⟨⟨hs, rfl, hk⟩, hw⟩ b [.beginRound, .code body] (c :: cs) rfl hfn
  rw [← hb0] at harr
  cases e with
  | normal =>
    obtain ⟨σ1, H1, st1, hbody⟩ := hq
    have hbr := run_beginRound (P := P) (st1.holds.read 0 rfl) hr
    have hH2 := st1.holds.putl (r' := { r with state := .busy })
    have s1 : StepsIn (Machine.fenced P (Wd (cxF f))) P (lone (b.atR a₁ [.beginRound, .code body]) (c :: cs) w₁) (lone (b.atR a₁ [.code body]) (c :: cs) (w₁.putObj l (.loop { r with state := .busy }))) :=
      .one (fenced_calm (n := 0) (fr := b.atR a₁ [.beginRound, .code body]) trivial (rmW _ _) rfl) (stepR_beginRound rfl hbr)
    obtain ⟨e₂, a₂, w₃, hq₂, harr₂⟩ := hbody _ _ ⟨st1.toStA, hH2⟩ b [] (c :: cs) rfl hfn
    cases e₂ with
    | normal =>
      obtain ⟨r3, H3, h3, hR⟩ := hq₂
      have hend := run_endRound (P := P) none (h3.read 0 rfl)
      exact ⟨.returned _, _, hR _ h3.putl, (StepsIn.trans harr s1).trans (StepsIn.trans harr₂ (.one (fenced_calm (n := 0) (fr := b.atR a₂ []) trivial (rmW _ _) rfl) (stepR_round_end rfl rfl hend)))⟩
    | ret =>
      obtain ⟨r3, H3, h3, hR⟩ := hq₂
      have hend := run_endRound (P := P) (some .ret) (h3.read 0 rfl)
      obtain ⟨k₁, hs'⟩ := harr₂.2 rfl
      exact ⟨.returned _, _, hR _ h3.putl, (StepsIn.trans harr s1).trans (StepsIn.trans hs' (.one (fenced_calm (n := 0) (fr := b.atR a₂ (.code .ret :: k₁)) trivial (rmW _ _) rfl) (stepR_round_ret rfl rfl hend)))⟩
    | exit id =>
      obtain ⟨r3, H3, h3, hR⟩ := hq₂
      have hend := run_endRound (P := P) (some (.exit id)) (h3.read 0 rfl)
      obtain ⟨k₁, hk', hs'⟩ := harr₂.2 rfl rfl
      exact ⟨.returned _, _, hR _ h3.putl, (StepsIn.trans harr s1).trans (StepsIn.trans hs' (.one (fenced_calm (n := 0) (fr := b.atR a₂ (.code (.exit id) :: k₁)) trivial (rmW _ _) rfl) (stepR_round_exit rfl rfl hk' hend)))⟩
    | goto t => exact hq₂.elim
    | panic chain =>
      obtain ⟨hd, hR⟩ := hq₂
      obtain ⟨todo, hs'⟩ := harr₂
      have hleave : ({ b.atR a₂ todo with mode := .panicking chain } : Frame).leaving P w₃ (.panicked chain) := ⟨rfl, hd, fnc, hf⟩
      exact ⟨.panicked chain, w₃, hR, (StepsIn.trans harr s1).trans (StepsIn.trans hs' (.one (fenced_leaving (n := 0) trivial (rmW _ _) hleave) (step_leave_panicked hleave)))⟩
    | outgrown => exact hq₂.elim
  | exit id => exact hq.elim
  | goto t => exact hq.elim
  | ret => exact hq.elim
  | panic chain => exact hq.elim
  | outgrown => exact hq.elim
theorem go_mid {ro : Cx} {l : Nat} {r : Loop} {body : Code} {R : Ending → World → Prop} (h : GO B n [] σ (blk l (.loop { r with state := .busy }) :: H) (cw ro P body (rK B l R) (rX B l R))) :
    GO B n [] σ (blk l (.loop r) :: H) (fun a w => ∃ σ1 H1, St B n [] σ1 (blk l (.loop r) :: H1) a w ∧ GO B n [] σ1 (blk l (.loop { r with state := .busy }) :: H1) (cw ro P body (rK B l R) (rX B l R))) := fun _ _ st => ⟨σ, H, st, h⟩
theorem go_rK {l : Nat} {r : Loop} {R : Ending → World → Prop} (h : ∀ w', Holds B (blk l (.loop { r with state := .ready, pending := none }) :: H) w' → R (.returned (.bool true)) w') : GO B n D σ (blk l (.loop r) :: H) (rK B l R) := fun _ w st => ⟨r, H, st.holds, h⟩
theorem go_rJ {l : Nat} {r : Loop} {c : Code} {R : Ending → World → Prop} (h : ∀ w', Holds B (blk l (.loop { r with state := .done, pending := some c }) :: H) w' → R (.returned (.bool false)) w') : GO B n D σ (blk l (.loop r) :: H) (rJ B l R c) := fun _ w st => ⟨r, H, st.holds, h⟩
theorem p_yield {ro : Cx} {f : FuncId} {l d : Nat} {r : Loop} {x : Operand} {xs : Array Operand} {at_ : Array TypeId} {ty : TypeId} {p : String} {af : Array Edge} {g : Option (Nat × Bool)} {vs : List Value} {H1 : List HP} {Φ : Value → List HP → Prop} {Ψ : List PanicEntry → List HP → Prop}
    (hx : evO σ x = some (.func (.yield l) #[] #[])) (hv : evL σ xs.toList = some vs) (hl : ∀ w, Holds B H w → Holds B (blk l (.loop r) :: H1) w) (hp : vs.length = r.params.size) (hfn : r.fn = f)
    (hr : ∀ w, Holds B (blk l (.loop r) :: H1) w → RoundIn (Wd (cxF f)) 0 P l f ((r.params.zip vs.toArray).foldl (fun tmps (t, a) => tmps.setIfInBounds t a) r.tmps) r.assign r.body w (Ret B Φ Ψ)) (hw : Wants ops σ g true) (hb : Nat.blt d n = true)
    (k : ∀ v H', Φ v H' → GO B n D ((d, v) :: σ) H' (lw ro P ops K X rest)) (kp : ∀ c H', Ψ c H' → GO B n D σ H' (X.pan c)) : GO B n D σ H (lw ro P ops K X (⟨some d, .call ⟨.value x, xs, at_⟩, ty, p, af, g⟩ :: rest)) := by
  intro a w s
  show (if Region.wanted _ (yielded ops a.tmps) then _ else _)
  rw [hw.wanted (o := ⟨some d, .call ⟨.value x, xs, at_⟩, ty, p, af, g⟩) s.env, if_pos rfl]
  refine ⟨fun _ _ => trivial, ?_⟩
  have h1 := hl w s.holds
  have hy := run_yield (P := P) (args := vs.toArray) (h1.read 0 rfl) (by simpa using hp)
  have he : (execOp a.eval ⟨some d, .call ⟨.value x, xs, at_⟩, ty, p, af, g⟩).run P w = .ok (.round l r.fn ((r.params.zip vs.toArray).foldl (fun tmps (t, a) => tmps.setIfInBounds t a) r.tmps) r.assign r.body) w := by
    simp [execOp, resolve, Deferred.ofValue, invoke, s.env.eval hx, s.env.evalsA hv, hy]
  rw [semAt_nd rfl, he, Oper.uponIn_round]
  refine ⟨fun h => by simp at h, ?_⟩
  rw [hfn]
  have h2 : RoundIn (Wd ro) 0 P l f ((r.params.zip vs.toArray).foldl (fun tmps (t, a) => tmps.setIfInBounds t a) r.tmps) r.assign r.body w (Ret B Φ Ψ) := hr w h1
  refine h2.mono fun e w' h => ?_
  cases e with
  | returned v => obtain ⟨H', hΦ, hH⟩ := h; exact k v H' hΦ _ _ ⟨s.toStA.put hb v, hH⟩
  | panicked c => obtain ⟨H', hΨ, hH⟩ := h; exact kp c H' hΨ _ _ ⟨s.toStA, hH⟩
  | outgrown => exact h.elim
def fnKM (P : Program) (f : FuncId) (fn : Func) (R : Ending → World → Prop) : Act → World → Prop := bodyPostM (Wd (cxF f)) 0 P fn R .normal
def fnXM (P : Program) (f : FuncId) (fn : Func) (R : Ending → World → Prop) : Ext := ⟨bodyPostM (Wd (cxF f)) 0 P fn R .ret, fun c => bodyPostM (Wd (cxF f)) 0 P fn R (.panic c), fun _ _ _ => False⟩
theorem fn_enter_m {f : FuncId} {fn : Func} {c : Code} {vs : List Value} {R : Ending → World → Prop} (hf : P.funcs[f]? = some fn) (hb : fn.body = some c) (hn : fn.ntmps = n) (hl : Nat.ble vs.length n = true)
    (h : GO B n [] (argE 0 vs) H (cw (cxF f) P c (fnKM P f fn R) (fnXM P f fn R))) : ∀ w, Holds B H w → Calls P f vs.toArray w R := by
  intro w hw
  refine calls_of_cw hf hb (h _ w ⟨⟨?_, rfl, ?_⟩, hw⟩)
  · have : vs.length ≤ n := by simpa [Nat.ble_eq] using hl
    simp [hn]; omega
  · intro t v ht
    have := (look_argE vs 0 t v ht).2
    simp at this ⊢
    rw [Array.getElem?_append_left]
    · simpa using this
    · have := (List.getElem?_eq_some_iff.1 this).1; simpa using this
inductive Marks : List Deferred → List HP → List HP → Prop
  | nil {H : List HP} : Marks [] H H
  | cons {D : List Deferred} {H H2 : List HP} {m : Nat} {i : Nat} (h : H[i]? = some (blk m (.deferred (some [])))) (h2 : Marks D (H.set i (blk m (.deferred none))) H2) : Marks (mark1 m :: D) H H2
  | conv {D : List Deferred} {H H' H2 : List HP} (f : ∀ k, Go.Proofs.YtbfheafpecgphaaGreat.sat H k → Go.Proofs.YtbfheafpecgphaaGreat.sat H' k) (h2 : Marks D H' H2) : Marks D H H2
theorem Marks.leave {f : FuncId} {fn : Func} {R : Ending → World → Prop} {u : FrameMode} (hu : u ≠ .run) {tmps : Array Value} {D : List Deferred} {H H2 : List HP} (m : Marks D H H2) : ∀ w, Holds B H w → (∀ w', Holds B H2 w' → LeavesInM (Wd (cxF f)) 0 P fn tmps R [] u w') → LeavesInM (Wd (cxF f)) 0 P fn tmps R D u w := by
  induction m with
  | nil => intro w hw h; exact h w hw
  | @cons D H H2 m i h1 h2 ih =>
    intro w hw h
    refine ⟨hu, .inl ⟨m, _, rfl, run_takeDeferred (hw.read i h1), ?_⟩⟩
    exact ih _ (hw.put i h1 (.deferred none)) h
  | conv f h2 ih =>
    intro w hw h
    exact ih w (hw.map f) h
theorem ret_none_m {f : FuncId} {fn : Func} {R : Ending → World → Prop} {H2 : List HP} (hr : fn.results = #[]) (m : Marks D H H2) (h : ∀ w, Holds B H2 w → R (.returned (.tuple #[])) w) : GO B n D σ H (fnXM P f fn R).ret := fun a w s => by
  show LeavesInM _ _ _ _ _ _ a.defers _ _
  rw [s.defers]
  exact m.leave (by simp) w s.holds fun w' hw' => ⟨_, results_none hr _ _ _, h w' hw'⟩
theorem end_none_m {f : FuncId} {fn : Func} {R : Ending → World → Prop} {H2 : List HP} (hr : fn.results = #[]) (m : Marks D H H2) (h : ∀ w, Holds B H2 w → R (.returned (.tuple #[])) w) : GO B n D σ H (fnKM P f fn R) := fun a w s => by
  show LeavesInM _ _ _ _ _ _ a.defers _ _
  rw [s.defers]
  exact m.leave (by simp) w s.holds fun w' hw' => ⟨_, results_none hr _ _ _, h w' hw'⟩
theorem ret_tmp_m {f : FuncId} {fn : Func} {R : Ending → World → Prop} {H2 : List HP} {t : Nat} {v : Value} (hr : fn.results = #[.tmp t]) (hv : look σ t = some v) (m : Marks D H H2) (h : ∀ w, Holds B H2 w → R (.returned v) w) : GO B n D σ H (fnXM P f fn R).ret := fun a w s => by
  show LeavesInM _ _ _ _ _ _ a.defers _ _
  rw [s.defers]
  refine m.leave (by simp) w s.holds fun w' hw' => ⟨v, ?_, h w' hw'⟩
  rw [results_tmp hr, Array.getD_eq_getD_getElem?, s.env t v hv]; rfl
theorem pan_fn_m {f : FuncId} {fn : Func} {R : Ending → World → Prop} {H2 : List HP} {c : List PanicEntry} (m : Marks D H H2) (h : ∀ w, Holds B H2 w → R (.panicked c) w) : GO B n D σ H ((fnXM P f fn R).pan c) := fun a w s => by
  show LeavesInM _ _ _ _ _ _ a.defers _ _
  rw [s.defers]
  exact m.leave (by simp) w s.holds fun w' hw' => h w' hw'
end
end Go.Proofs.YtbfheafpecgphaaGreat
namespace Go.Proofs.YtbfheafpecgphaaGreat
open Go
section
variable {B : World} {n : Nat} {D : List Deferred} {σ : Env} {H : List HP} {P : Program} {ro : Cx} {K : Act → World → Prop} {X : Ext}
theorem Chg.mono {o : Oper} {Y Y' : Value → List HP → Prop} (h : Chg P B σ H o Y) (f : ∀ v H', Y v H' → Y' v H') : Chg P B σ H o Y' := fun a w k hh =>
  let ⟨r, w', e, v, hv, H', y, hh'⟩ := h a w k hh; ⟨r, w', e, v, hv, H', f _ _ y, hh'⟩
theorem Chg.env {σ' : Env} {o : Oper} {Y : Value → List HP → Prop} (h : Chg P B σ' H o Y) (hs : ∀ a : Act, Knows σ a → Knows σ' a) : Chg P B σ H o Y := fun a w k hh => h a w (hs a k) hh
def KnowsDone (ops : Array Oper) (V : Nat → Value) (listed : Array Bool) (a : Act) : Prop := ∀ (i : Nat) (o : Oper) (d : Nat), ops[i]? = some o → o.dst = some d → listed.getD i false = true → a.tmps[d]? = some (V i)
structure RJ {G : Type} (B : World) (n : Nat) (D : List Deferred) (σ : Env) (ops : Array Oper) (V : G → Nat → Value) (HH : Array Bool → G → List HP) (listed : Array Bool) (g : G) (a : Act) (w : World) : Prop extends StA n D σ a where
  dn : KnowsDone ops (V g) listed a
  len : listed.size = ops.size
  cl : ∀ (j : Nat) (oj : Oper), ops[j]? = some oj → listed.getD j false = true → ∀ e ∈ oj.after, Region.binds .any e = true → listed.getD e.on false = true
  holds : Holds B (HH listed g) w
def anyOk (n : Nat) (ks : List Nat) (ops : Array Oper) : Bool :=
  (List.range ops.size).all fun i => match (ops[i]? : Option Oper) with
    | none => true
    | some o => ndef o.op && o.guard.isNone && (match o.dst with
        | none => true
        | some d => Nat.blt d n && !ks.contains d && (List.range ops.size).all (fun j => match (ops[j]? : Option Oper) with | some o' => (match o'.dst with | some d' => !(Nat.beq d' d) || Nat.beq j i | none => true) | none => true)) &&
      o.after.all (fun e => !Region.binds .any e || Nat.blt e.on i)
structure AnyOk (n : Nat) (ks : List Nat) (ops : Array Oper) : Prop where
  nd : ∀ (i : Nat) (o : Oper), ops[i]? = some o → ndef o.op = true ∧ o.guard = none
  dst : ∀ (i : Nat) (o : Oper) (d : Nat), ops[i]? = some o → o.dst = some d → d < n ∧ d ∉ ks
  uniq : ∀ (i j : Nat) (o o' : Oper) (d : Nat), ops[i]? = some o → ops[j]? = some o' → o.dst = some d → o'.dst = some d → j = i
  low : ∀ (i : Nat) (o : Oper), ops[i]? = some o → ∀ e ∈ o.after, Region.binds .any e = true → e.on < i
theorem anyOk_spec {ks : List Nat} {ops : Array Oper} (h : anyOk n ks ops = true) : AnyOk n ks ops := by
  have key : ∀ (i : Nat) (o : Oper), ops[i]? = some o → (ndef o.op && o.guard.isNone && (match o.dst with
        | none => true
        | some d => Nat.blt d n && !ks.contains d && (List.range ops.size).all (fun j => match (ops[j]? : Option Oper) with | some o' => (match o'.dst with | some d' => !(Nat.beq d' d) || Nat.beq j i | none => true) | none => true)) &&
      o.after.all (fun e => !Region.binds .any e || Nat.blt e.on i)) = true := by
    intro i o ho
    have hi := (Array.getElem?_eq_some_iff.1 ho).1
    have := List.all_eq_true.1 h i (List.mem_range.2 hi)
    simpa only [ho] using this
  refine ⟨fun i o ho => ?_, fun i o d ho hd => ?_, fun i j o o' d ho ho' hd hd' => ?_, fun i o ho e he hb => ?_⟩
  · have := key i o ho
    simp only [Bool.and_eq_true] at this
    exact ⟨this.1.1.1, by simpa using this.1.1.2⟩
  · have := key i o ho
    simp only [Bool.and_eq_true, hd] at this
    exact ⟨by simpa [Nat.blt_eq] using this.1.2.1.1, by simpa using this.1.2.1.2⟩
  · have := key i o ho
    simp only [Bool.and_eq_true, hd] at this
    have h2 := List.all_eq_true.1 this.1.2.2 j (List.mem_range.2 (Array.getElem?_eq_some_iff.1 ho').1)
    simp only [ho', hd'] at h2
    simp at h2; exact h2
  · have := key i o ho
    simp only [Bool.and_eq_true] at this
    have h2 := Array.all_eq_true'.1 this.2 e he
    simp only [hb, Bool.not_true, Bool.false_or, Nat.blt_eq] at h2
    exact h2
def Doz (P : Program) (o : Oper) (a : Act) (w : World) (Post : Value → World → Prop) : Prop :=
  (∃ r w' v, (execOp a.eval o).run P w = .ok r w' ∧ (r = .value v ∨ (r = .skip ∧ v = undef)) ∧ Post v w') ∨ ∃ f vs, (execOp a.eval o).run P w = .ok (.enter f vs) w ∧ Calls P f vs w (fun e w' => ∃ v, e = .returned v ∧ Post v w')
theorem doz_val {o : Oper} {v : Value} {a : Act} {w : World} {Post : Value → World → Prop} (h : Evs P B σ H o v) (hk : Knows σ a) (hw : Holds B H w) (hp : Post v w) : Doz P o a w Post := .inl ⟨.value v, w, v, h a w hk hw, .inl rfl, hp⟩
theorem doz_chg {o : Oper} {Y : Value → List HP → Prop} {a : Act} {w : World} {Post : Value → World → Prop} (h : Chg P B σ H o Y) (hk : Knows σ a) (hw : Holds B H w) (hp : ∀ v H', Y v H' → ∀ w', Holds B H' w' → Post v w') : Doz P o a w Post := by
  obtain ⟨r, w', e, v, hv, H', y, hh⟩ := h a w hk hw
  exact .inl ⟨r, w', v, e, hv, hp v H' y w' hh⟩
theorem doz_call {o : Oper} {f : FuncId} {vs : Array Value} {Φ : Value → List HP → Prop} {a : Act} {w : World} {Post : Value → World → Prop} (he : Ent P B σ H o f vs) (hc : ∀ w, Holds B H w → Calls P f vs w (Ret B Φ (fun _ _ => False))) (hk : Knows σ a) (hw : Holds B H w) (hp : ∀ v H', Φ v H' → ∀ w', Holds B H' w' → Post v w') : Doz P o a w Post :=
  .inr ⟨f, vs, he a w hk hw, (hc w hw).mono fun e w' q => by
    cases e with
    | returned v => obtain ⟨H', hΦ, hh⟩ := q; exact ⟨v, rfl, hp v H' hΦ w' hh⟩
    | panicked c => obtain ⟨_, h, _⟩ := q; exact h.elim
    | outgrown => exact q.elim⟩
theorem knows_cons {a : Act} {t : Nat} {v : Value} (h : a.tmps[t]? = some v) (hk : Knows σ a) : Knows ((t, v) :: σ) a := fun u x e => by
  simp only [look] at e
  by_cases q : t = u
  · subst q; simp at e; subst e; exact h
  · rw [beq_no q] at e; exact hk u x e
theorem getD_set_eq {listed : Array Bool} {i : Nat} (h : i < listed.size) : (listed.setIfInBounds i true).getD i false = true := by simp [h]
theorem g_any {G : Type} {id : Nat} {l : List Oper} (ks : List Nat) (V : G → Nat → Value) (HH : Array Bool → G → List HP) (g0 : G) (hm : P.follows .mixedOrders = true) (hok : anyOk n ks l.toArray = true) (hks : ∀ t v, look σ t = some v → t ∈ ks)
    (h0 : HH (Array.replicate l.toArray.size false) g0 = H)
    (step : ∀ (i : Nat) (o : Oper), l.toArray[i]? = some o → ∀ (listed : Array Bool) (g : G), listed.size = l.toArray.size → listed.getD i true = false → (∀ (j : Nat) (oj : Oper), l.toArray[j]? = some oj → listed.getD j false = true → ∀ e ∈ oj.after, Region.binds .any e = true → listed.getD e.on false = true) → (∀ e ∈ o.after, Region.binds .any e = true → listed.getD e.on false = true) →
      ∀ a, Knows σ a → KnowsDone l.toArray (V g) listed a → ∀ w, Holds B (HH listed g) w → Doz P o a w (fun v w' => ∃ g', (o.dst ≠ none → V g' i = v) ∧ (∀ j, j ≠ i → listed.getD j false = true → V g' j = V g j) ∧ Holds B (HH (listed.setIfInBounds i true) g') w'))
    (fin : ∀ (listed : Array Bool) (g : G), (∀ i, i < l.toArray.size → listed.getD i false = true) → ∀ a w, StA n D σ a → KnowsDone l.toArray (V g) listed a → Holds B (HH listed g) w → K a w) :
    GO B n D σ H (cw ro P (.region id l.toArray true) K X) := by
  have ok := anyOk_spec hok
  have main : ∀ (fuel : Nat) (listed : Array Bool) (g : G) (a : Act) (w : World), RJ B n D σ l.toArray V HH listed g a w → (∀ i, i < l.toArray.size → listed.getD i false = false → fuel ≠ 0) → ((List.range l.toArray.size).filter fun i => !listed.getD i false).length ≤ fuel →
      wpAnyIn (Wd ro) 0 P .any l.toArray (toQ K X) fuel listed a w := by
    intro fuel
    induction fuel with
    | zero =>
      intro listed g a w J hz hf
      have hall : ∀ i, i < l.toArray.size → listed.getD i false = true := fun i hi => by
        cases h : listed.getD i false with
        | true => rfl
        | false => exact absurd rfl (hz i hi h)
      refine ⟨?_, fin listed g hall a w J.toStA J.dn J.holds⟩
      cases hr : Region.ready .any l.toArray listed with
      | nil => rfl
      | cons j t =>
        have hj : j ∈ Region.ready .any l.toArray listed := by rw [hr]; simp
        obtain ⟨h1, o, ho, _⟩ := mem_ready.1 hj
        have := hall j (Array.getElem?_eq_some_iff.1 ho).1
        rw [getD_both h1] at this; cases this
    | succ fuel ih =>
      intro listed g a w J hz hf
      refine ⟨fun hr => ?_, fun i hi => ?_⟩
      · refine fin listed g (fun i => ?_) a w J.toStA J.dn J.holds
        induction i using Nat.strongRecOn with
        | _ i ihh =>
          intro hi
          cases h : listed.getD i false with
          | true => rfl
          | false =>
            have hin : i ∈ Region.ready .any l.toArray listed := by
              refine mem_ready.2 ⟨getD_in (by rw [J.len]; exact hi) h, l.toArray[i], by simp [hi], fun e he hb => ?_⟩
              have hlow := ok.low i _ (Array.getElem?_eq_getElem hi) e he hb
              exact ihh e.on hlow (by omega)
            rw [hr] at hin; cases hin
      · obtain ⟨hun, o, ho, hdep⟩ := mem_ready.1 hi
        obtain ⟨hnd, hg⟩ := ok.nd i o ho
        have hsz := (Array.getElem?_eq_some_iff.1 ho).1
        have hstep := step i o ho listed g J.len hun J.cl hdep a J.env J.dn w J.holds
        have hun' := getD_both hun
        -- what is known behind it
        have J' : ∀ v w' g', (o.dst ≠ none → V g' i = v) → (∀ j, j ≠ i → listed.getD j false = true → V g' j = V g j) → Holds B (HH (listed.setIfInBounds i true) g') w' → ∀ a', a'.tmps = (a.put o.dst v).tmps → a'.defers = a.defers → RJ B n D σ l.toArray V HH (listed.setIfInBounds i true) g' a' w' := by
          intro v w' g' hV hst hH a' hp hd
          have htm : ∀ t, o.dst ≠ some t → a'.tmps[t]? = a.tmps[t]? := fun t ht => by
            rw [hp]
            cases hdst : o.dst with
            | none => rfl
            | some d =>
              have : d ≠ t := by rintro rfl; exact ht hdst
              simp [Act.put, this]
          refine ⟨⟨?_, by rw [hd]; exact J.defers, fun t u h => ?_⟩, ?_, by simp [J.len], fun j oj hoj hlj e he hb => ?_, hH⟩
          · rw [hp]; cases hdst : o.dst with
            | none => exact J.size
            | some d => simp [Act.put, J.size]
          · rw [htm t (fun hd => (ok.dst i o t ho hd).2 (hks t u h))]; exact J.env t u h
          · intro j oj d hoj hdj hlj
            by_cases e : j = i
            · subst e
              rw [hoj] at ho; cases ho
              rw [hp, hdj]
              have hdn := (ok.dst _ _ d hoj hdj).1
              have hs := J.size
              simp [Act.put, hs, hdn]
              exact (hV (by rw [hdj]; simp)).symm
            · have hlj' : listed.getD j false = true := by rwa [getD_set_ne false (Ne.symm e)] at hlj
              rw [htm d (fun hd => e (ok.uniq i j o oj d ho hoj hd hdj)), J.dn j oj d hoj hdj hlj', hst j e hlj']
          · refine getD_set_true ?_
            by_cases ej : j = i
            · subst ej
              have hoo : o = oj := by rw [hoj] at ho; exact (Option.some.inj ho).symm
              subst hoo
              exact hdep e he hb
            · rw [getD_set_ne false (Ne.symm ej)] at hlj
              exact J.cl j oj hoj hlj e he hb
        have hcount : ((List.range l.toArray.size).filter fun j => !(listed.setIfInBounds i true).getD j false).length < ((List.range l.toArray.size).filter fun j => !listed.getD j false).length := by
          have hsub : ∀ L : List Nat, L.Nodup → i ∈ L → (L.filter fun j => !(listed.setIfInBounds i true).getD j false).length < (L.filter fun j => !listed.getD j false).length := by
            intro L
            induction L with
            | nil => intro _ h; cases h
            | cons x L ihL =>
              intro hnd hin
              rw [List.nodup_cons] at hnd
              by_cases hx : x = i
              · subst hx
                have e1 : (L.filter fun j => !(listed.setIfInBounds x true).getD j false) = L.filter fun j => !listed.getD j false := List.filter_congr fun j hj => by
                  rw [getD_set_ne false (by rintro rfl; exact hnd.1 hj)]
                have e2 : (listed.setIfInBounds x true).getD x false = true := by simp [J.len]; exact hsz
                rw [List.filter_cons_of_neg (by simp [e2]), List.filter_cons_of_pos (by simp only [hun']; rfl), e1]; simp
              · have hin' : i ∈ L := by
                  rcases List.mem_cons.1 hin with h | h
                  · exact absurd h.symm hx
                  · exact h
                have := ihL hnd.2 hin'
                have e3 : (listed.setIfInBounds i true).getD x false = listed.getD x false := getD_set_ne false (Ne.symm hx)
                simp only [List.filter_cons, e3]
                split
                · simp only [List.length_cons]; omega
                · omega
          exact hsub _ List.nodup_range (List.mem_range.2 hsz)
        have hnext : ∀ v w', (∃ g', (o.dst ≠ none → V g' i = v) ∧ (∀ j, j ≠ i → listed.getD j false = true → V g' j = V g j) ∧ Holds B (HH (listed.setIfInBounds i true) g') w') → ∀ a', a'.tmps = (a.put o.dst v).tmps → a'.defers = a.defers → wpAnyIn (Wd ro) 0 P .any l.toArray (toQ K X) fuel (listed.setIfInBounds i true) a' w' := fun v w' ⟨g', hV, hst, hH⟩ a' hp hd => by
          refine ih _ g' a' w' (J' v w' g' hV hst hH a' hp hd) (fun j hj hf' => ?_) (by omega)
          intro hz
          subst hz
          have h0 : ((List.range l.toArray.size).filter fun j => !(listed.setIfInBounds i true).getD j false).length = 0 := by omega
          have : j ∈ (List.range l.toArray.size).filter fun j => !(listed.setIfInBounds i true).getD j false := List.mem_filter.2 ⟨List.mem_range.2 hj, by simp only [hf']; rfl⟩
          rw [List.length_eq_zero_iff.1 h0] at this; cases this
        show wpOpIn _ _ _ _ _ _ _ _ _
        unfold wpOpIn
        rw [ho]
        have hw : Region.wanted o (yielded l.toArray a.tmps) = true := by unfold Region.wanted; rw [hg]
        simp only [hw, if_true]
        refine ⟨fun _ _ => trivial, ?_⟩
        rw [semAt_nd hnd]
        rcases hstep with ⟨r, w', v, e1, hv, hp⟩ | ⟨f, vs, e1, hc⟩
        · rw [e1]
          rcases hv with rfl | ⟨rfl, rfl⟩
          · rw [Oper.uponIn_value]; exact hnext v w' hp _ rfl (by cases o.dst <;> rfl)
          · rw [Oper.uponIn_skip]; exact hnext undef w' hp _ rfl (by cases o.dst <;> rfl)
        · rw [e1, Oper.uponIn_enter]
          refine ⟨fun h => by simp at h, calls_wd.2 (hc.mono fun e w' q => ?_)⟩
          obtain ⟨v, rfl, hp⟩ := q
          exact hnext v w' hp _ rfl (by cases o.dst <;> rfl)
  intro a w s
  refine cw_of (wpIn_region_any hm ?_)
  refine main _ _ g0 a _ ⟨s.toStA, fun i o d _ _ h => (by rw [getD_replicate_false] at h; cases h), by simp, fun j oj _ h => (by rw [getD_replicate_false] at h; cases h), by rw [h0]; exact s.holds.drew _⟩ (fun i hi _ h0 => by omega) ?_
  exact Nat.le_trans (List.length_filter_le _ _) (by simp)
theorem look_mem : ∀ {σ : Env} {t : Nat} {v : Value}, look σ t = some v → t ∈ σ.map Prod.fst
  | [], _, _, h => by simp [look] at h
  | (k, u) :: l, t, v, h => by
    simp only [look] at h
    by_cases e : k = t
    · subst e; simp
    · rw [beq_no e] at h
      exact List.mem_cons_of_mem _ (look_mem h)
theorem g_anyg {G : Type} {id : Nat} {l : List Oper} (ks : List Nat) (V : G → Nat → Value) (HH : Array Bool → G → List HP) (g0 : G) (σx : G → Env) (Hx : G → List HP) (hm : P.follows .mixedOrders = true) (hok : anyOk n ks l.toArray = true) (hks : ∀ t v, look σ t = some v → t ∈ ks)
    (h0 : HH (Array.replicate l.toArray.size false) g0 = H)
    (step : ∀ (i : Nat) (o : Oper), l.toArray[i]? = some o → ∀ (listed : Array Bool) (g : G), listed.size = l.toArray.size → listed.getD i true = false → (∀ (j : Nat) (oj : Oper), l.toArray[j]? = some oj → listed.getD j false = true → ∀ e ∈ oj.after, Region.binds .any e = true → listed.getD e.on false = true) → (∀ e ∈ o.after, Region.binds .any e = true → listed.getD e.on false = true) →
      ∀ a, Knows σ a → KnowsDone l.toArray (V g) listed a → ∀ w, Holds B (HH listed g) w → Doz P o a w (fun v w' => ∃ g', (o.dst ≠ none → V g' i = v) ∧ (∀ j, j ≠ i → listed.getD j false = true → V g' j = V g j) ∧ Holds B (HH (listed.setIfInBounds i true) g') w'))
    (fin : ∀ (listed : Array Bool) (g : G), (∀ i, i < l.toArray.size → listed.getD i false = true) → ∀ a w, Knows σ a → KnowsDone l.toArray (V g) listed a → Holds B (HH listed g) w → Knows (σx g) a ∧ Holds B (Hx g) w)
    (k : ∀ g, GO B n D (σx g) (Hx g) K) : GO B n D σ H (cw ro P (.region id l.toArray true) K X) :=
  g_any ks V HH g0 hm hok hks h0 step fun listed g hall a w st dn hw => by
    obtain ⟨h1, h2⟩ := fin listed g hall a w st.env dn hw
    exact k g a w ⟨⟨st.size, st.defers, h1⟩, h2⟩
theorem run_eq_fn {t : TypeId} {td : TypeDesc} {f : Fn} {fi ca : Array Value} (ht : ∀ w, (underlying t).run P w = .ok td w) (htd : ∃ a b c, td = .func a b c) (w : World) : (Op.equal t (.func f fi ca) .nilFunc).run P w = .ok false w := by
  obtain ⟨a, b, c, rfl⟩ := htd
  show (Op.equalIn (9999 + 1) t (.func f fi ca) .nilFunc).run P w = _
  rw [Op.equalIn]; simp only [Sem.run_bind, ht, Result.andThen_ok]; rfl
theorem ev_eqfn {op : BinOp} {x y : Operand} {f : Fn} {fi ca : Array Value} {c : Bool} {t u : TypeId} {td : TypeDesc} {d : Option Tmp} {ty : TypeId} {p : String} {af : Array Edge} {g : Option (Nat × Bool)} (ht : ∀ w, (underlying t).run P w = .ok td w) (htd : ∃ a b c, td = .func a b c) (hx : evO σ x = some (.func f fi ca)) (hy : evO σ y = some .nilFunc) (hc : (match op with | .eql => some false | .neq => some true | _ => none) = some c) :
    Evs P B σ H ⟨d, .binOp op t x y u, ty, p, af, g⟩ (.bool c) := by
  intro a w kn _
  cases op <;> simp at hc <;> subst hc <;> simp only [execOp, kn.eval hx, kn.eval hy] <;> simp [binOp, eqGuard, run_eq_fn ht htd]
inductive ResV (P : Program) (σ : Env) (H : List HP) : ResultVar → Value → Prop
  | tmp {t : Nat} {v : Value} (h : look σ t = some v) : ResV P σ H (.tmp t) v
  | cellA {t ty b k m : Nat} {cs : List Value} {T : TypeId} {U : List Value → List HP} {v : Value} (h : look σ t = some (.pointer (some ⟨b, k, none⟩))) (ht : ∀ w, (isAgg ty).run P w = .ok true w) (hs : ∀ w, (sizeOf ty).run P w = .ok m w) [RowU H b cs T U] (hk : Nat.ble (k + m) cs.length = true) (hv : v = .agg ((cs.drop k).take m).toArray) : ResV P σ H (.cell t ty) v
  | cell1 {t ty b k : Nat} {cs : List Value} {T : TypeId} {U : List Value → List HP} {v : Value} (h : look σ t = some (.pointer (some ⟨b, k, none⟩))) (ht : ∀ w, (isAgg ty).run P w = .ok false w) [RowU H b cs T U] (hv : cs[k]? = some v) : ResV P σ H (.cell t ty) v
theorem ResV.run {x : ResultVar} {v : Value} (r : ResV P σ H x v) {a : Act} {w : World} (k : Knows σ a) (hw : Holds B H w) : (match x with | .tmp t => (pure (a.tmps.getD t undef) : Sem Value) | .cell t ty => do loadVar ty (← asAddr (a.tmps.getD t undef))).run P w = .ok v w := by
  cases r with
  | tmp h =>
    simp only [Sem.run_pure, Array.getD_eq_getD_getElem?, k _ _ h]; rfl
  | @cellA t ty b kk m cs T U v h ht hs hU hk hv =>
    subst hv
    have := run_loadA (P := P) (b := b) (U := U) hw ht hs hk
    simp [k _ _ h, asAddr, this]
  | @cell1 t ty b kk cs T U v h ht hU hv =>
    have := run_load (P := P) (b := b) (U := U) hw ht hv
    simp [k _ _ h, asAddr, this]
theorem ret_1 {fn : Func} {R : Ending → World → Prop} {x : ResultVar} {v : Value} (hr : fn.results = #[x]) (h1 : ResV P σ H x v) (h : ∀ w, Holds B H w → R (.returned v) w) : GO B n [] σ H (fnX P fn R).ret := fun a w s => by
  refine ⟨s.defers, v, ?_, h w s.holds⟩
  have e1 := h1.run s.env s.holds
  simp [results, hr] at e1 ⊢
  cases x <;> simp_all
theorem ret_2 {fn : Func} {R : Ending → World → Prop} {x y : ResultVar} {v u : Value} (hr : fn.results = #[x, y]) (h1 : ResV P σ H x v) (h2 : ResV P σ H y u) (h : ∀ w, Holds B H w → R (.returned (.tuple #[v, u])) w) : GO B n [] σ H (fnX P fn R).ret := fun a w s => by
  refine ⟨s.defers, .tuple #[v, u], ?_, h w s.holds⟩
  have e1 := h1.run s.env s.holds
  have e2 := h2.run s.env s.holds
  simp [results, hr] at e1 e2 ⊢
  cases x <;> cases y <;> simp_all
end
end Go.Proofs.YtbfheafpecgphaaGreat
namespace Go.Proofs.YtbfheafpecgphaaGreat
open Go
section
variable {P : Program} {ops : Array Oper} {md : Region.Mode} {C : World → Prop} {ro : Cx}
def starB (md : Region.Mode) (ops : Array Oper) (n : Nat) : Bool := (List.range ops.size).all fun t => decide (t ≤ n) || (List.range t).any fun u => decide (n ≤ u) && Region.waitsFor md ops t u
theorem tail_waits2 {n : Nat} {listed : Array Bool} (hs : Region.sinkB md ops n = true) (hc : starB md ops n = true) (hn : n < ops.size) (inv : HeadInv md ops n listed) :
    ∀ (d i : Nat), n - i = d → i < n → listed.getD i true = false → ∀ t, n ≤ t → t ∉ Region.ready md ops listed := by
  intro d
  induction d using Nat.strongRecOn with
  | _ d ih =>
    intro i hd hi hun t ht hr
    obtain ⟨_, ot, hot, hall⟩ := mem_ready.1 hr
    have htlt : t < ops.size := (Array.getElem?_eq_some_iff.1 hot).1
    by_cases htn : t = n
    · subst htn
      have h1 := List.all_eq_true.1 hs i (List.mem_range.2 hi)
      obtain ⟨j, hj, hj2⟩ := List.any_eq_true.1 h1
      simp only [Bool.and_eq_true, decide_eq_true_eq] at hj2
      obtain ⟨oj, hoj, e, he, hb, hon⟩ := Region.waitsFor_spec hj2.2
      have hjle : j ≤ t := by have := List.mem_range.1 hj; omega
      by_cases hjt : j = t
      · subst hjt
        have : oj = ot := Option.some.inj (hoj.symm.trans hot)
        subst this
        have h2 := hall e he hb
        rw [hon, getD_both hun] at h2
        cases h2
      · cases hl : listed.getD j false with
        | true =>
          have h2 := inv.closed j oj hoj hl e he hb
          rw [hon, getD_both hun] at h2
          cases h2
        | false =>
          have hjs : j < listed.size := by rw [inv.size]; omega
          exact ih (t - j) (by omega) j rfl (by omega) (getD_in hjs hl) t (Nat.le_refl _) hr
    · have h1 := List.all_eq_true.1 hc t (List.mem_range.2 htlt)
      simp only [Bool.or_eq_true, decide_eq_true_eq] at h1
      rcases h1 with h1 | h1
      · omega
      · obtain ⟨u, hu, hu2⟩ := List.any_eq_true.1 h1
        simp only [Bool.and_eq_true, decide_eq_true_eq] at hu2
        have hut := List.mem_range.1 hu
        obtain ⟨o', ho', e, he, hb, hon⟩ := Region.waitsFor_spec hu2.2
        have : o' = ot := Option.some.inj (ho'.symm.trans hot)
        subst this
        have h2 := hall e he hb
        rw [hon, getD_both (inv.tail u (by omega) (by omega))] at h2
        cases h2
theorem wpAnyLQ_first2 {n i : Nat} {oi : Oper} {v : Value} {L : Array Bool → Act → Prop} (hi : ops[i]? = some oi) (hsel : ∀ (j : Nat) (o : Oper) cs b, ops[j]? = some o → o.op ≠ .select cs b)
    (hs : Region.sinkB md ops n = true) (hc : starB md ops n = true) (hn : n < ops.size) (hin : i < n)
    (hdone : ∀ listed a, L listed a → ∀ j ∈ Region.ready md ops listed, n ≤ j) :
    ∀ (f : Nat) (listed : Array Bool) (a : Act), HeadInv md ops n listed →
      (∀ j oj, ops[j]? = some oj → j ≠ i → listed.getD j true = false → (∀ e ∈ oj.after, Region.binds md e = true → e.on ≠ i) → oi.apart ops oj = true) →
      i ∈ Region.ready md ops listed → YieldsIn P ops C oi v a →
      wpAnyLQ P md ops C n L f (listed.setIfInBounds i true) (a.put oi.dst v) → wpAnyLQ P md ops C n L (f + 1) listed a := by
  intro f
  induction f with
  | zero =>
    intro listed a inv _ hr hy HH
    refine ⟨fun h => (by rw [h] at hr; cases hr), fun j hj => ?_⟩
    have hun := (mem_ready.1 hr).1
    have hjn : j < n := by
      rcases Nat.lt_or_ge j n with h | h
      · exact h
      · exact absurd hj (tail_waits2 hs hc hn inv _ i rfl hin hun j h)
    refine ⟨hjn, ?_⟩
    by_cases hji : j = i
    · subst hji; exact hy.qOp hi HH
    · have := hdone _ _ HH j (ready_mono hj hji)
      omega
  | succ f ih =>
    intro listed a inv hfree hr hy HH
    have hun := (mem_ready.1 hr).1
    refine ⟨fun h => (by rw [h] at hr; cases hr), fun j hj => ?_⟩
    have hjn : j < n := by
      rcases Nat.lt_or_ge j n with h | h
      · exact h
      · exact absurd hj (tail_waits2 hs hc hn inv _ i rfl hin hun j h)
    refine ⟨hjn, ?_⟩
    by_cases hji : j = i
    · subst hji; exact hy.qOp hi HH
    · have h1 := (HH.2 j (ready_mono hj hji)).2
      obtain ⟨hjun, oj, hoj, hall⟩ := mem_ready.1 hj
      have hnot : ∀ e ∈ oj.after, Region.binds md e = true → e.on ≠ i := fun e he hb heq => by
        have h1 := hall e he hb
        rw [heq, getD_both hun] at h1
        cases h1
      have h2 := qOp_put hoj (hfree j oj hoj hji hjun hnot) (fun cs b => hsel i oi cs b hi) (fun cs b => hsel j oj cs b hoj) hy h1
      have hfree' : ∀ k ok, ops[k]? = some ok → k ≠ i → (listed.setIfInBounds j true).getD k true = false →
          (∀ e ∈ ok.after, Region.binds md e = true → e.on ≠ i) → oi.apart ops ok = true := fun k ok hk hki hun hno => by
        refine hfree k ok hk hki ?_ hno
        by_cases hjk : j = k
        · subst hjk; exact hjun
        · rw [getD_set_ne true hjk] at hun; exact hun
      refine qOp_mono (fun a' h3 => ih (listed.setIfInBounds j true) a' (inv.set hj hjn) hfree' (ready_mono hr (Ne.symm hji)) h3.1 ?_) h2
      rw [Array.setIfInBounds_comm _ _ hji]
      exact h3.2
def headB (md : Region.Mode) (ops : Array Oper) (E : Array Bool → Bool) : Nat → Nat → Array Bool → Bool
  | 0, _, listed => E listed
  | f + 1, k, listed => (Region.ready md ops listed).contains k && Region.free md ops listed k && headB md ops E f (k + 1) (listed.setIfInBounds k true)
theorem wpAnyLQ_head {n : Nat} {Lq : Act → Prop} {E : Array Bool → Bool} (hE : ∀ listed, E listed = true → ∀ j ∈ Region.ready md ops listed, n ≤ j) (hsel : Region.noSelect ops = true) (hs : Region.sinkB md ops n = true) (hc : starB md ops n = true) (hn : n < ops.size) :
    ∀ (l : List Oper) (k : Nat) (listed : Array Bool) (a : Act), (∀ j, j < l.length → l[j]? = ops[k + j]?) → k + l.length = n → HeadInv md ops n listed →
    headB md ops E l.length k listed = true → wpQuiet P ops C Lq l a →
    wpAnyLQ P md ops C n (fun listed' a' => (E listed' = true ∧ HeadInv md ops n listed') ∧ Lq a') l.length listed a
  | [], k, listed, a, _, hk, inv, hB, h => ⟨⟨by simpa [headB] using hB, inv⟩, h⟩
  | o :: l, k, listed, a, hl, hk, inv, hB, h => by
    have h0 : ops[k]? = some o := by simpa using (hl 0 (by simp)).symm
    simp only [List.length_cons, headB, Bool.and_eq_true] at hB
    obtain ⟨⟨hr, hf⟩, hB'⟩ := hB
    have hkn : k < n := by simp only [List.length_cons] at hk; omega
    have hr' : k ∈ Region.ready md ops listed := by simpa using hr
    have hst : qOp P ops C k (wpQuiet P ops C Lq l) a := by unfold qOp; simp only [h0]; exact h
    obtain ⟨v, hy, hK⟩ := yieldsIn_of_qOp h0 hst
    exact wpAnyLQ_first2 h0 (Region.noSelect_spec hsel) hs hc hn hkn (fun listed' a' hL => hE listed' hL.1.1) l.length listed a inv (Region.free_spec h0 hf) hr' hy
      (wpAnyLQ_head hE hsel hs hc hn l (k + 1) _ _ (fun j hj => by have := hl (j + 1) (by simp; omega); simpa [Nat.add_assoc, Nat.add_comm 1 j] using this) (by simp only [List.length_cons] at hk; omega) (inv.set hr' hkn) hB' hK)
def planB (md : Region.Mode) (ops : Array Oper) : List Nat → Nat → Array Bool → Bool
  | [], k, listed => Region.lexFrom md ops (ops.size - k) k listed
  | m :: ms, k, listed => decide (k ≤ m) && decide (m < ops.size) && Region.sinkB md ops m && starB md ops m &&
      headB md ops (fun listed' => decide (Region.ready md ops listed' = [m]) && planB md ops ms (m + 1) (listed'.setIfInBounds m true)) (m - k) k listed
def marksB (md : Region.Mode) (ops : Array Oper) (ms : List Nat) : Bool := Region.noSelect ops && planB md ops ms 0 (Array.replicate ops.size false)
end
section
variable {B : World} {n : Nat} {D : List Deferred} {σ : Env} {H : List HP} {P : Program} {ro : Cx} {K : Act → World → Prop} {X : Ext} {ops : Array Oper} {rest : List Oper} {Kq : Act → Prop}
def Seg (P : Program) (ro : Cx) (B : World) (K : Act → World → Prop) (X : Ext) (l : List Oper) : List Nat → Nat → Act → World → Prop
  | [], k => fun a w => ∃ H, Holds B H w ∧ qw P l.toArray B H (atH B H K) (l.drop k) a
  | m :: ms, k => fun a w => ∃ H, Holds B H w ∧ qw P l.toArray B H (atH B H (lw ro P l.toArray (Seg P ro B K X l ms (m + 1)) X ((l.drop m).take 1))) ((l.drop k).take (m - k)) a
theorem seg_q {l : List Oper} {m k : Nat} {ms : List Nat} (h : QO n D σ (qw P l.toArray B H (atH B H (lw ro P l.toArray (Seg P ro B K X l ms (m + 1)) X ((l.drop m).take 1))) ((l.drop k).take (m - k)))) : GO B n D σ H (Seg P ro B K X l (m :: ms) k) := fun a w s => ⟨H, s.holds, h a s.toStA⟩
theorem seg_e {l : List Oper} {k : Nat} (h : QO n D σ (qw P l.toArray B H (atH B H K) (l.drop k))) : GO B n D σ H (Seg P ro B K X l [] k) := fun a w s => ⟨H, s.holds, h a s.toStA⟩
theorem seg_run {l : List Oper} (hnd : ndefs l.toArray = true) (hsel : Region.noSelect l.toArray = true) : ∀ (ms : List Nat) (k : Nat) (listed : Array Bool) (a : Act) (w : World), k ≤ l.length → (∀ t, k ≤ t → t < l.toArray.size → listed.getD t true = false) → (listed.size = l.toArray.size) → (∀ j oj, l.toArray[j]? = some oj → listed.getD j false = true → ∀ e ∈ oj.after, Region.binds .any e = true → listed.getD e.on false = true) →
    planB .any l.toArray ms k listed = true → Seg P ro B K X l ms k a w → wpAnyIn (Wd ro) 0 P .any l.toArray (toQ K X) (l.length - k) listed a w
  | [], k, listed, a, w, hk, _, _, _, hB, ⟨H, hw, h⟩ => by
    simp only [planB] at hB
    have hdl : (l.drop k).length = l.length - k := by simp
    refine wpAnyIn_of_quiet (C := Holds B H) (Q := atH B H K) hnd (fun a w hw q => q w hw) _ _ _ _ hw ?_
    have := wpAnyQ_lex (P := P) (C := Holds B H) (Q := atH B H K) (md := .any) hsel (l.drop k) k listed a (fun j => by simp) (by rw [hdl]; simpa using hB) h
    rwa [hdl] at this
  | m :: ms, k, listed, a, w, hk, ht, hsz, hcl, hB, ⟨H, hw, h⟩ => by
    simp only [planB, Bool.and_eq_true, decide_eq_true_eq] at hB
    obtain ⟨⟨⟨⟨hkm, hml⟩, hs⟩, hc⟩, hh⟩ := hB
    have hml' : m < l.length := by simpa using hml
    have hlen : ((l.drop k).take (m - k)).length = m - k := by simp; omega
    have inv : HeadInv .any l.toArray m listed := ⟨hsz, hcl, fun t h1 h2 => ht t (by omega) h2⟩
    have HH := wpAnyLQ_head (P := P) (C := Holds B H) (md := .any) (ops := l.toArray) (n := m) (E := fun listed' => decide (Region.ready .any l.toArray listed' = [m]) && planB .any l.toArray ms (m + 1) (listed'.setIfInBounds m true)) (fun listed' hE j hj => by
      simp only [Bool.and_eq_true, decide_eq_true_eq] at hE
      rw [hE.1] at hj
      have : j = m := by simpa using hj
      omega) hsel hs hc hml ((l.drop k).take (m - k)) k listed a (fun j hj => by
        rw [hlen] at hj
        rw [List.getElem?_take_of_lt hj]; simp) (by rw [hlen]; omega) inv (by rw [hlen]; exact hh) h
    have fin : ∀ (listed' : Array Bool) (a' : Act), (((decide (Region.ready .any l.toArray listed' = [m]) && planB .any l.toArray ms (m + 1) (listed'.setIfInBounds m true)) = true ∧ HeadInv .any l.toArray m listed') ∧ (atH B H (lw ro P l.toArray (Seg P ro B K X l ms (m + 1)) X ((l.drop m).take 1))) a') → ∀ w, Holds B H w → wpAnyIn (Wd ro) 0 P .any l.toArray (toQ K X) (l.length - m) listed' a' w := by
      intro listed' a' hL w hw
      obtain ⟨⟨hE, inv'⟩, hq⟩ := hL
      simp only [Bool.and_eq_true, decide_eq_true_eq] at hE
      obtain ⟨hr, hpl⟩ := hE
      rw [show l.length - m = (l.length - (m + 1)) + 1 by omega]
      refine ⟨fun h0 => (by rw [hr] at h0; cases h0), fun i hi => ?_⟩
      rw [hr] at hi
      obtain rfl : i = m := by simpa using hi
      have h0 : l.toArray[i]? = some l[i] := by simp [hml']
      have h1 : (l.drop i).take 1 = [l[i]] := by rw [List.drop_eq_getElem_cons hml']; rfl
      have h2 := hq w hw
      rw [h1] at h2
      have h3 : wpOpIn (Wd ro) 0 P l.toArray (toQ K X) i (Seg P ro B K X l ms (i + 1)) a' w := by unfold wpOpIn; simp only [h0]; exact h2
      obtain ⟨_, oi, hoi, hall⟩ := mem_ready.1 (show i ∈ Region.ready .any l.toArray listed' by rw [hr]; simp)
      refine wpOpIn_mono (fun a'' w'' h4 => seg_run hnd hsel ms (i + 1) _ a'' w'' (by omega) (fun t h5 h6 => ?_) (by simp [inv'.size]) ?_ hpl h4) h3
      · rw [getD_set_ne true (by omega)]; exact inv'.tail t (by omega) h6
      · intro j oj hj hl e he hb
        by_cases hij : i = j
        · subst hij
          have : oj = oi := Option.some.inj (hj.symm.trans hoi)
          subst this
          exact getD_set_true (hall e he hb)
        · rw [getD_set_ne false hij] at hl
          exact getD_set_true (inv'.closed j oj hj hl e he hb)
    have := wpAnyIn_of_head (ro := ro) (Q' := toQ K X) (g := l.length - m) hnd fin _ _ _ w hw HH
    rwa [hlen, show m - k + (l.length - m) = l.length - k by omega] at this
theorem g_drawm {id : Nat} {l : List Oper} (ms : List Nat) (hm : P.follows .mixedOrders = true) (hnd : ndefs l.toArray = true) (hB : marksB .any l.toArray ms = true)
    (h : GO B n D σ H (Seg P ro B K X l ms 0)) : GO B n D σ H (cw ro P (.region id l.toArray true) K X) := by
  intro a w s
  simp only [marksB, Bool.and_eq_true] at hB
  refine cw_of <| wpIn_region_any hm ?_
  have s' : St B n D σ H a { w with drawn := w.drawn + 1 } := ⟨s.toStA, s.holds.drew _⟩
  have := seg_run (ro := ro) (K := K) (X := X) hnd hB.1 ms 0 (Array.replicate l.toArray.size false) a _ (Nat.zero_le _) (fun t _ ht => getD_in (by simpa using ht) (getD_replicate_false _ _)) (by simp) (fun j oj _ hl => (by rw [getD_replicate_false] at hl; cases hl)) hB.2 (h a _ s')
  simpa using this
end
end Go.Proofs.YtbfheafpecgphaaGreat
namespace Go.Proofs.YtbfheafpecgphaaGreat
open Go
section
variable {P : Program} {ops : Array Oper} {md : Region.Mode} {ro : Cx}
def YV (P : Program) (ops : Array Oper) (C : World → Prop) (o : Oper) (v : Value) (a : Act) : Prop :=
  (Region.wanted o (yielded ops a.tmps) = true ∧ ∀ w, C w → (execOp a.eval o).run P w = .ok (.value v) w) ∨ (Region.wanted o (yielded ops a.tmps) = false ∧ v = undef)
theorem YV.of_same {C : World → Prop} {o : Oper} {v : Value} {a a' : Act} (hy : YV P ops C o v a) (he : execOp a'.eval o = execOp a.eval o)
    (hw : Region.wanted o (yielded ops a'.tmps) = Region.wanted o (yielded ops a.tmps)) : YV P ops C o v a' := by
  unfold YV at *
  rw [he, hw]
  exact hy
theorem YV.op {C : World → Prop} {i : Nat} {o : Oper} {v : Value} {a : Act} {w : World} {K : Act → World → Prop} {Q : Exit → Act → World → Prop} (hnd : ndefs ops = true) (hi : ops[i]? = some o) (hw : C w) (hy : YV P ops C o v a) (h : K (a.put o.dst v) w) : wpOpIn (Wd ro) 0 P ops Q i K a w := by
  unfold wpOpIn
  simp only [hi]
  rcases hy with ⟨h1, h2⟩ | ⟨h1, rfl⟩
  · rw [if_pos h1]
    refine ⟨fun _ _ => trivial, ?_⟩
    rw [semAt_nd (ndefs_get hnd hi), h2 w hw]
    exact h
  · rw [if_neg (by rw [h1]; simp)]
    exact ⟨fun _ _ => trivial, h⟩
def wpAnyV (P : Program) (ro : Cx) (md : Region.Mode) (ops : Array Oper) (mk cc : Nat → Bool) (C : World → Prop) (Q : Exit → Act → World → Prop) : Nat → Array Bool → Act → World → Prop
  | 0, listed, a, w => Region.ready md ops listed = [] ∧ Q .normal a w
  | f + 1, listed, a, w => (Region.ready md ops listed = [] → Q .normal a w) ∧ ∀ i ∈ Region.ready md ops listed,
      (mk i = true → wpOpIn (Wd ro) 0 P ops Q i (fun a w => (cc i = true → C w) ∧ wpAnyV P ro md ops mk cc C Q f (listed.setIfInBounds i true) a w) a w) ∧
      (mk i = false → ∃ oi v, ops[i]? = some oi ∧ YV P ops (· = w) oi v a ∧ wpAnyV P ro md ops mk cc C Q f (listed.setIfInBounds i true) (a.put oi.dst v) w)
theorem wpAnyV.any {mk cc : Nat → Bool} {C : World → Prop} {Q : Exit → Act → World → Prop} (hnd : ndefs ops = true) : ∀ {f : Nat} {listed : Array Bool} {a : Act} {w : World}, wpAnyV P ro md ops mk cc C Q f listed a w → wpAnyIn (Wd ro) 0 P md ops Q f listed a w
  | 0, _, _, _, h => h
  | f + 1, listed, a, w, h => ⟨h.1, fun i hi => by
    cases hm : mk i with
    | true => exact wpOpIn_mono (fun _ _ h => wpAnyV.any hnd h.2) ((h.2 i hi).1 hm)
    | false =>
      obtain ⟨oi, v, h1, h2, h3⟩ := (h.2 i hi).2 hm
      exact h2.op (C := (· = w)) hnd h1 rfl (wpAnyV.any hnd h3)⟩
theorem wpOpIn_put {C : World → Prop} {j : Nat} {oi oj : Oper} {v : Value} {K0 : Act → World → Prop} {X : Ext} {K : Act → World → Prop} {a : Act} {w : World} (hnd : ndefs ops = true) (hj : ops[j]? = some oj) (hap : oi.apart ops oj = true)
    (hsi : ∀ cs b, oi.op ≠ .select cs b) (hsj : ∀ cs b, oj.op ≠ .select cs b) (hX : ∀ c a w d v, X.pan c (a.put d v) w → X.pan c a w) (hy : YV P ops C oi v a)
    (h : wpOpIn (Wd ro) 0 P ops (toQ K0 X) j K (a.put oi.dst v) w) : wpOpIn (Wd ro) 0 P ops (toQ K0 X) j (fun a' w' => YV P ops C oi v a' ∧ K (a'.put oi.dst v) w') a w := by
  obtain ⟨h1, h2, h3⟩ := Oper.apart_spec hap
  have keep : ∀ (a : Act), YV P ops C oi v a → ∀ u, YV P ops C oi v (a.put oj.dst u) := fun a hy u => hy.of_same (execOp_put oi hsi a oj.dst u h3) (wanted_put oi a oj.dst u h3)
  unfold wpOpIn at *
  simp only [hj] at h ⊢
  rw [wanted_put oj a oi.dst v h1] at h
  split
  · rename_i hw
    rw [if_pos hw] at h
    obtain ⟨-, h⟩ := h
    refine ⟨fun _ _ => trivial, ?_⟩
    rw [semAt_nd (ndefs_get hnd hj)] at h ⊢
    rw [execOp_put oj hsj a oi.dst v h1] at h
    generalize (execOp a.eval oj).run P w = r at h ⊢
    cases r with
    | ok n w' =>
      cases n with
      | value u => exact ⟨keep a hy u, by rw [← Act.put_comm a v u h2]; exact h⟩
      | skip => exact ⟨keep a hy undef, by rw [← Act.put_comm a v undef h2]; exact h⟩
      | enter f args =>
        obtain ⟨g1, g2⟩ := h
        refine ⟨g1, g2.mono fun e w'' q => ?_⟩
        cases e with
        | returned u => exact ⟨keep a hy u, by rw [← Act.put_comm a v u h2]; exact q⟩
        | panicked c => exact hX c a w'' oi.dst v q
        | outgrown => exact q
      | row r args =>
        obtain ⟨g1, g2⟩ := h
        exact ⟨g1, g2.mono fun u w'' q => ⟨keep a hy u, by rw [← Act.put_comm a v u h2]; exact q⟩⟩
      | round l f tm as bo =>
        obtain ⟨g1, g2⟩ := h
        refine ⟨g1, g2.mono fun e w'' q => ?_⟩
        cases e with
        | returned u => exact ⟨keep a hy u, by rw [← Act.put_comm a v u h2]; exact q⟩
        | panicked c => exact hX c a w'' oi.dst v q
        | outgrown => exact q
      | defer d =>
        have e1 := Act.put_comm { a with defers := d :: a.defers } v undef h2
        have e2 : ({ a.put oi.dst v with defers := d :: (a.put oi.dst v).defers } : Act) = ({ a with defers := d :: a.defers } : Act).put oi.dst v := by cases oi.dst <;> rfl
        exact ⟨keep { a with defers := d :: a.defers } (hy.of_same rfl rfl) undef, by rw [← e1, ← e2]; exact h⟩
      | _ => exact h
    | halt x w' =>
      cases x with
      | panic u => exact hX _ a w' oi.dst v h
      | _ => exact h
  · rename_i hw
    rw [if_neg hw] at h
    exact ⟨fun _ _ => trivial, keep a hy undef, by rw [← Act.put_comm a v undef h2]; exact h.2⟩
def anchB (md : Region.Mode) (ops : Array Oper) (ms : List Nat) (i : Nat) : Bool :=
  let can := (List.range ops.size).foldl (fun (c : List Bool) t => (match (ops[t]? : Option Oper) with
    | some o => !(Nat.beq t i) && o.after.all (fun e => !Region.binds md e || c.getD e.on false)
    | none => false) |> fun b => c ++ [b]) []
  ms.all (fun m => !can.getD m false) &&
  (List.range ops.size).all fun t => match (ops[t]? : Option Oper) with
    | some o => Nat.beq t i || can.getD t false || o.after.any (fun e => Region.binds md e && !can.getD e.on false)
    | none => true
def lowB (md : Region.Mode) (ops : Array Oper) : Bool := (List.range ops.size).all fun t => match (ops[t]? : Option Oper) with
    | some o => o.after.all fun e => !Region.binds md e || Nat.blt e.on t
    | none => true
structure ListInv (md : Region.Mode) (ops : Array Oper) (listed : Array Bool) : Prop where
  size : listed.size = ops.size
  closed : ∀ j oj, ops[j]? = some oj → listed.getD j false = true → ∀ e ∈ oj.after, Region.binds md e = true → listed.getD e.on false = true
theorem ListInv.set {listed : Array Bool} {i : Nat} (inv : ListInv md ops listed) (hi : i ∈ Region.ready md ops listed) : ListInv md ops (listed.setIfInBounds i true) := by
  obtain ⟨_, oi, hoi, hall⟩ := mem_ready.1 hi
  refine ⟨by simp [inv.size], fun j oj hj hl e he hb => ?_⟩
  by_cases hij : i = j
  · subst hij
    have : oj = oi := Option.some.inj (hj.symm.trans hoi)
    subst this
    exact getD_set_true (hall e he hb)
  · rw [getD_set_ne false hij] at hl
    exact getD_set_true (inv.closed j oj hj hl e he hb)
theorem anchB_spec {ms : List Nat} {i : Nat} (h : anchB md ops ms i = true) (hlow : lowB md ops = true) {listed : Array Bool} (inv : ListInv md ops listed) (hun : listed.getD i true = false) (hmi : ∀ m ∈ ms, m ≠ i) : ∀ m ∈ ms, m ∉ Region.ready md ops listed := by
  unfold anchB at h
  generalize (List.range ops.size).foldl _ [] = can at h
  simp only [Bool.and_eq_true] at h
  obtain ⟨h1, h2⟩ := h
  have hl : ∀ t o, ops[t]? = some o → ∀ e ∈ o.after, Region.binds md e = true → e.on < t := fun t o ho e he hb => by
    have := List.all_eq_true.1 hlow t (List.mem_range.2 (Array.getElem?_eq_some_iff.1 ho).1)
    simp only [ho] at this
    have := Array.all_eq_true'.1 this e he
    simpa [hb, Nat.blt_eq] using this
  have step : ∀ t o, ops[t]? = some o → t ≠ i → (∀ e ∈ o.after, Region.binds md e = true → can.getD e.on false = true) → can.getD t false = true := fun t o ho hti hd => by
    have := List.all_eq_true.1 h2 t (List.mem_range.2 (Array.getElem?_eq_some_iff.1 ho).1)
    simp only [ho, Bool.or_eq_true] at this
    rcases this with (h3 | h3) | h3
    · exact absurd (Nat.eq_of_beq_eq_true h3) hti
    · exact h3
    · obtain ⟨e, he, h4⟩ := Array.any_eq_true'.1 h3
      simp only [Bool.and_eq_true, Bool.not_eq_true'] at h4
      rw [hd e he h4.1] at h4; cases h4.2
  have key : ∀ t, listed.getD t false = true → can.getD t false = true := fun t => by
    induction t using Nat.strongRecOn with
    | _ t ih =>
      intro ht
      have htl : t < ops.size := by
        rw [← inv.size]
        rcases Nat.lt_or_ge t listed.size with h | h
        · exact h
        · simp [h] at ht
      have ho := Array.getElem?_eq_getElem htl
      refine step t _ ho (fun e => ?_) fun e he hb => ih e.on (hl t _ ho e he hb) (inv.closed t _ ho ht e he hb)
      subst e
      rw [getD_both hun] at ht; cases ht
  intro m hm hr
  obtain ⟨_, o, ho, hall⟩ := mem_ready.1 hr
  have h3 := List.all_eq_true.1 h1 m hm
  by_cases e : m = i
  · subst e
    exact hmi m hm rfl
  · rw [step m o ho e fun e he hb => key e.on (hall e he hb)] at h3; cases h3
theorem wpAnyV_first {mk cc : Nat → Bool} {C Ci : World → Prop} {K : Act → World → Prop} {X : Ext} {i : Nat} {oi : Oper} {v : Value} (hnd : ndefs ops = true) (hsel : Region.noSelect ops = true) (hX : ∀ c a w d v, X.pan c (a.put d v) w → X.pan c a w) (hi : ops[i]? = some oi) (hmi : mk i = false)
    (base : Array Bool) (hCi : ∀ listed, ListInv md ops listed → (∀ t, base.getD t false = true → listed.getD t false = true) → listed.getD i true = false → ∀ j ∈ Region.ready md ops listed, mk j = true → Ci = C ∧ cc j = true) :
    ∀ (f : Nat) (listed : Array Bool) (a : Act) (w : World), ListInv md ops listed → (∀ t, base.getD t false = true → listed.getD t false = true) →
      (∀ j oj, ops[j]? = some oj → j ≠ i → listed.getD j true = false → (∀ e ∈ oj.after, Region.binds md e = true → e.on ≠ i) → oi.apart ops oj = true) →
      i ∈ Region.ready md ops listed → Ci w → YV P ops Ci oi v a → wpAnyV P ro md ops mk cc C (toQ K X) f (listed.setIfInBounds i true) (a.put oi.dst v) w → wpAnyV P ro md ops mk cc C (toQ K X) (f + 1) listed a w := by
  have hs := Region.noSelect_spec hsel
  intro f
  induction f with
  | zero =>
    intro listed a w inv hbase hfree hr hw hy H
    refine ⟨fun h => (by rw [h] at hr; cases hr), fun j hj => ?_⟩
    by_cases hji : j = i
    · subst hji
      refine ⟨fun h => (by rw [hmi] at h; cases h), fun _ => ⟨oi, v, hi, ?_, H⟩⟩
      rcases hy with ⟨h1, h2⟩ | h1
      · exact .inl ⟨h1, fun w' e => (by subst e; exact h2 _ hw)⟩
      · exact .inr h1
    · have := ready_mono hj hji
      rw [H.1] at this; cases this
  | succ f ih =>
    intro listed a w inv hbase hfree hr hw hy H
    have hun := (mem_ready.1 hr).1
    refine ⟨fun h => (by rw [h] at hr; cases hr), fun j hj => ?_⟩
    by_cases hji : j = i
    · subst hji
      refine ⟨fun h => (by rw [hmi] at h; cases h), fun _ => ⟨oi, v, hi, ?_, H⟩⟩
      rcases hy with ⟨h1, h2⟩ | h1
      · exact .inl ⟨h1, fun w' e => (by subst e; exact h2 _ hw)⟩
      · exact .inr h1
    · obtain ⟨hjun, oj, hoj, hall⟩ := mem_ready.1 hj
      have hnot : ∀ e ∈ oj.after, Region.binds md e = true → e.on ≠ i := fun e he hb heq => by
        have h1 := hall e he hb
        rw [heq, getD_both hun] at h1
        cases h1
      have hap := hfree j oj hoj hji hjun hnot
      have hfree' : ∀ k ok, ops[k]? = some ok → k ≠ i → (listed.setIfInBounds j true).getD k true = false →
          (∀ e ∈ ok.after, Region.binds md e = true → e.on ≠ i) → oi.apart ops ok = true := fun k ok hk hki hun hno => by
        refine hfree k ok hk hki ?_ hno
        by_cases hjk : j = k
        · subst hjk; exact hjun
        · rw [getD_set_ne true hjk] at hun; exact hun
      have Hj := H.2 j (ready_mono hj hji)
      rw [Array.setIfInBounds_comm _ _ (Ne.symm hji)] at Hj
      refine ⟨fun hm => ?_, fun hm => ?_⟩
      · obtain ⟨rfl, hcc⟩ := hCi listed inv hbase hun j hj hm
        refine wpOpIn_mono (fun a' w' ⟨g1, g2, g3⟩ => ⟨g2, ih _ a' w' (inv.set hj) (fun t ht => getD_set_true (hbase t ht)) hfree' (ready_mono hr (Ne.symm hji)) (g2 hcc) g1 g3⟩) (wpOpIn_put hnd hoj hap (fun cs b => hs i oi cs b hi) (fun cs b => hs j oj cs b hoj) hX hy (Hj.1 hm))
      · obtain ⟨oj', u, hoj', yu, hK⟩ := Hj.2 hm
        obtain rfl : oj = oj' := by rw [hoj] at hoj'; exact Option.some.inj hoj'
        obtain ⟨h1, h2, h3⟩ := Oper.apart_spec hap
        refine ⟨oj, u, hoj, yu.of_same (execOp_put oj (fun cs b => hs j oj cs b hoj) a oi.dst v h1).symm (wanted_put oj a oi.dst v h1).symm, ?_⟩
        rw [Act.put_comm a v u h2] at hK
        exact ih _ _ w (inv.set hj) (fun t ht => getD_set_true (hbase t ht)) hfree' (ready_mono hr (Ne.symm hji)) hw (hy.of_same (execOp_put oi (fun cs b => hs i oi cs b hi) a oj.dst u h3) (wanted_put oi a oj.dst u h3)) hK
def wpV (P : Program) (ro : Cx) (ops : Array Oper) (ms hs cs : List Nat) (C : World → Prop) (X : Ext) (K : Act → World → Prop) : List Nat → Act → World → Prop
  | [] => K
  | k :: ord => bif ms.contains k then fun a w => wpOpIn (Wd ro) 0 P ops (toQ K X) k (fun a w => (cs.contains k = true → C w) ∧ wpV P ro ops ms hs cs C X K ord a w) a w
    else bif hs.contains k then fun a w => C w ∧ ∃ oi v, ops[k]? = some oi ∧ YV P ops C oi v a ∧ wpV P ro ops ms hs cs C X K ord (a.put oi.dst v) w
    else fun a w => ∃ oi v, ops[k]? = some oi ∧ YV P ops (· = w) oi v a ∧ wpV P ro ops ms hs cs C X K ord (a.put oi.dst v) w
def planV (md : Region.Mode) (ops : Array Oper) (ms hs cs : List Nat) : List Nat → Array Bool → Bool
  | [], listed => (Region.ready md ops listed).isEmpty
  | k :: ord, listed => (Region.ready md ops listed).contains k && (bif ms.contains k then decide (Region.ready md ops listed = [k]) else Region.free md ops listed k && anchB md ops (ms.filter fun m => !listed.getD m false && !(hs.contains k && cs.contains m)) k) && planV md ops ms hs cs ord (listed.setIfInBounds k true)
theorem wpV_run {ms hs cs : List Nat} {C : World → Prop} {K : Act → World → Prop} {X : Ext} (hnd : ndefs ops = true) (hsel : Region.noSelect ops = true) (hlow : lowB md ops = true) (hX : ∀ c a w d v, X.pan c (a.put d v) w → X.pan c a w) : ∀ (ord : List Nat) (listed : Array Bool) (a : Act) (w : World), ListInv md ops listed → planV md ops ms hs cs ord listed = true → wpV P ro ops ms hs cs C X K ord a w →
    wpAnyV P ro md ops (fun i => ms.contains i) (fun i => cs.contains i) C (toQ K X) ord.length listed a w
  | [], listed, a, w, _, hp, h => ⟨by simpa [planV] using hp, h⟩
  | k :: ord, listed, a, w, inv, hp, h => by
    simp only [planV, Bool.and_eq_true] at hp
    obtain ⟨⟨hr, hc⟩, hp'⟩ := hp
    have hr' : k ∈ Region.ready md ops listed := by simpa using hr
    simp only [wpV] at h
    cases hm : ms.contains k with
    | true =>
      rw [hm] at hc h
      simp only [cond_true, decide_eq_true_eq] at hc h
      refine ⟨fun h0 => (by rw [h0] at hr'; cases hr'), fun i hi => ?_⟩
      rw [hc] at hi
      obtain rfl : i = k := by simpa using hi
      exact ⟨fun _ => wpOpIn_mono (fun a' w' ⟨g1, g2⟩ => ⟨g1, wpV_run hnd hsel hlow hX ord _ a' w' (inv.set hr') hp' g2⟩) h, fun hf => (by simp only [hm] at hf; cases hf)⟩
    | false =>
      rw [hm] at hc h
      simp only [cond_false, Bool.and_eq_true] at hc h
      obtain ⟨hf, ha⟩ := hc
      have hno : ∀ (Ci : World → Prop), (hs.contains k = true → Ci = C) → ∀ listed', ListInv md ops listed' → (∀ t, listed.getD t false = true → listed'.getD t false = true) → listed'.getD k true = false → ∀ j ∈ Region.ready md ops listed', ms.contains j = true → Ci = C ∧ cs.contains j = true := fun Ci hCi listed' inv' hb' hun' j hj hmj => by
        by_cases hx : hs.contains k = true ∧ cs.contains j = true
        · exact ⟨hCi hx.1, hx.2⟩
        · exfalso
          cases hlj : listed.getD j false with
          | true =>
            have := (mem_ready.1 hj).1
            have h5 := hb' j hlj
            rw [getD_both this] at h5; cases h5
          | false =>
            refine absurd hj (anchB_spec ha hlow inv' hun' (fun m hmm e => by
              subst e
              rw [List.contains_iff_mem.2 (List.mem_filter.1 hmm).1] at hm; cases hm) j (List.mem_filter.2 ⟨List.contains_iff_mem.1 hmj, ?_⟩))
            rw [hlj]
            simp only [Bool.not_false, Bool.true_and, Bool.not_eq_true']
            cases h1 : hs.contains k with
            | false => rfl
            | true =>
              cases h2 : cs.contains j with
              | false => rfl
              | true => exact absurd ⟨h1, h2⟩ hx
      cases hh : hs.contains k with
      | true =>
        rw [hh] at h
        simp only [cond_true] at h
        obtain ⟨hC, oi, v, h1, h2, h3⟩ := h
        exact wpAnyV_first (Ci := C) hnd hsel hX h1 hm listed (hno C fun _ => rfl) _ _ _ _ inv (fun _ h => h) (Region.free_spec h1 hf) hr' hC h2 (wpV_run hnd hsel hlow hX ord _ _ _ (inv.set hr') hp' h3)
      | false =>
        rw [hh] at h
        simp only [cond_false] at h
        obtain ⟨oi, v, h1, h2, h3⟩ := h
        exact wpAnyV_first (Ci := (· = w)) hnd hsel hX h1 hm listed (hno _ fun h => (by rw [hh] at h; cases h)) _ _ _ _ inv (fun _ h => h) (Region.free_spec h1 hf) hr' rfl h2 (wpV_run hnd hsel hlow hX ord _ _ _ (inv.set hr') hp' h3)
end
class SubH (H H0 : List HP) : Prop where
  sub : ∀ h, sat H h → sat H0 h
class PullH (H : List HP) (A : HP) (Fr : outParam (List HP)) : Prop where
  get : ∃ i : Nat, H[i]? = some A ∧ Fr = H.eraseIdx i
instance PullH.head {A : HP} {l : List HP} : PullH (A :: l) A l := ⟨0, rfl, rfl⟩
instance PullH.tail {A A' : HP} {l Fr : List HP} [r : PullH l A Fr] : PullH (A' :: l) A (A' :: Fr) := ⟨let ⟨i, h1, h2⟩ := r.get; ⟨i + 1, by simpa using h1, by simp [h2]⟩⟩
instance SubH.nil {H : List HP} : SubH H [] := ⟨fun _ _ => trivial⟩
instance SubH.cons {H Fr L : List HP} {A : HP} [r : PullH H A Fr] [s : SubH Fr L] : SubH H (A :: L) := ⟨fun h hh => by
  obtain ⟨i, h1, h2⟩ := r.get
  subst h2
  exact sat_cons (fun k hk => s.sub k hk) (sat_front i h1 hh)⟩
class PanI (X : Ext) : Prop where
  put : ∀ c a w d v, X.pan c (a.put d v) w → X.pan c a w
instance PanI.fn {P : Program} {fn : Func} {R : Ending → World → Prop} : PanI (fnX P fn R) := ⟨fun c a w d v h => by cases d <;> exact h⟩
instance PanI.inB {X : Ext} {id : Nat} {K : Act → World → Prop} [h : PanI X] : PanI (X.inB id K) := ⟨h.put⟩
instance PanI.rX {B : World} {l : Nat} {R : Ending → World → Prop} : PanI (rX B l R) := ⟨fun c a w d v h => by cases d <;> exact h⟩
section
variable {B : World} {n : Nat} {D : List Deferred} {σ : Env} {H H0 : List HP} {P : Program} {ro : Cx} {K : Act → World → Prop} {X : Ext} {ops : Array Oper} {ms hs cs : List Nat} {ord : List Nat} {C : World → Prop}
theorem g_drawv {id : Nat} {l : List Oper} (ord ms hs cs : List Nat) (H0 : List HP) (hm : P.follows .mixedOrders = true) [hX : PanI X] (hB : (ndefs l.toArray && Region.noSelect l.toArray && lowB .any l.toArray && Nat.beq ord.length l.length && planV .any l.toArray ms hs cs ord (Array.replicate l.toArray.size false)) = true)
    (h : GO B n D σ H (wpV P ro l.toArray ms hs cs (Holds B H0) X K ord)) : GO B n D σ H (cw ro P (.region id l.toArray true) K X) := by
  intro a w s
  simp only [Bool.and_eq_true] at hB
  obtain ⟨⟨⟨⟨hnd, hsel⟩, hlow⟩, hlen⟩, hp⟩ := hB
  refine cw_of <| wpIn_region_any hm ?_
  have s' : St B n D σ H a { w with drawn := w.drawn + 1 } := ⟨s.toStA, s.holds.drew _⟩
  have := (wpV_run (ro := ro) hnd hsel hlow hX.put ord _ a _ ⟨by simp, fun j oj _ hl => (by rw [getD_replicate_false] at hl; cases hl)⟩ hp (h a _ s')).any hnd
  rw [Nat.eq_of_beq_eq_true hlen] at this
  simpa using this
theorem v_val {k : Nat} {o : Oper} {d : Nat} {v : Value} (ho : ops[k]? = some o) (hk : (ms.contains k || hs.contains k) = false) (hd : o.dst = some d) (he : Evs P B σ H o v) (hw : Wants ops σ o.guard true) (hb : Nat.blt d n = true)
    (h : GO B n D ((d, v) :: σ) H (wpV P ro ops ms hs cs C X K ord)) : GO B n D σ H (wpV P ro ops ms hs cs C X K (k :: ord)) := by
  simp only [Bool.or_eq_false_iff] at hk
  intro a w s
  simp only [wpV, hk.1, hk.2, cond_false]
  exact ⟨o, v, ho, .inl ⟨hw.wanted s.env, fun w' e => by subst e; exact he a _ s.env s.holds⟩, by rw [hd]; exact h _ _ ⟨s.toStA.put hb v, s.holds⟩⟩
theorem v_hoist {k : Nat} {o : Oper} {d : Nat} {v : Value} (ho : ops[k]? = some o) (hk : (!ms.contains k && hs.contains k) = true) (hd : o.dst = some d) (he : Evs P B σ H0 o v) (hw : Wants ops σ o.guard true) (hb : Nat.blt d n = true) [s0 : SubH H H0]
    (h : GO B n D ((d, v) :: σ) H (wpV P ro ops ms hs cs (Holds B H0) X K ord)) : GO B n D σ H (wpV P ro ops ms hs cs (Holds B H0) X K (k :: ord)) := by
  simp only [Bool.and_eq_true, Bool.not_eq_true'] at hk
  intro a w s
  simp only [wpV, hk.1, hk.2, cond_false, cond_true]
  exact ⟨s.holds.map s0.sub, o, v, ho, .inl ⟨hw.wanted s.env, fun w' hw' => he a w' s.env hw'⟩, by rw [hd]; exact h _ _ ⟨s.toStA.put hb v, s.holds⟩⟩
theorem v_mark {k : Nat} {o : Oper} (ho : ops[k]? = some o) (hk : ms.contains k = true)
    (h : GO B n D σ H (lw ro P ops (fun a w => (cs.contains k = true → C w) ∧ wpV P ro ops ms hs cs C X K ord a w) X [o])) : GO B n D σ H (wpV P ro ops ms hs cs C X K (k :: ord)) := by
  intro a w s
  simp only [wpV, hk, cond_true]
  have h1 := h a w s
  unfold wpOpIn
  simp only [ho]
  exact h1
theorem v_on {c : Bool} [s0 : SubH H H0] (h : GO B n D σ H (wpV P ro ops ms hs cs (Holds B H0) X K ord)) : GO B n D σ H (fun a w => (c = true → Holds B H0 w) ∧ wpV P ro ops ms hs cs (Holds B H0) X K ord a w) := fun a w s => ⟨fun _ => s.holds.map s0.sub, h a w s⟩
theorem v_off {c : Bool} (hc : c = false) (h : GO B n D σ H (wpV P ro ops ms hs cs C X K ord)) : GO B n D σ H (fun a w => (c = true → C w) ∧ wpV P ro ops ms hs cs C X K ord a w) := fun a w s => ⟨fun hf => (by rw [hc] at hf; cases hf), h a w s⟩
theorem v_nil (h : GO B n D σ H K) : GO B n D σ H (wpV P ro ops ms hs cs C X K []) := h
end
end Go.Proofs.YtbfheafpecgphaaGreat
namespace Go.Proofs.YtbfheafpecgphaaGreat
open Go
section
variable {B : World} {n : Nat} {D : List Deferred} {σ : Env} {H : List HP} {P : Program} {ro : Cx} {K : Act → World → Prop} {X : Ext} {ops : Array Oper} {rest : List Oper} {Kq : Act → Prop} {d : Nat} {op : Op} {ty : TypeId} {p : String} {af : Array Edge} {v : Value} {x : Operand}
theorem kPv (he : Evs P B σ H ⟨some d, op, ty, p, af, none⟩ v) (hb : (Nat.blt d n && ndef op) = true) (k : GO B n D ((d, v) :: σ) H (lw ro P ops K X rest)) : GO B n D σ H (lw ro P ops K X (⟨some d, op, ty, p, af, none⟩ :: rest)) := by
  simp only [Bool.and_eq_true] at hb
  exact p_val rfl he .free hb.2 hb.1 k
theorem kPm (hx : evO σ x = some v) (hb : Nat.blt d n = true) (k : GO B n D ((d, v) :: σ) H (lw ro P ops K X rest)) : GO B n D σ H (lw ro P ops K X (⟨some d, .move x, ty, p, af, none⟩ :: rest)) := p_val rfl (ev_move hx) .free rfl hb k
theorem kPa (hx : evO σ x = some v) (hb : Nat.blt d n = true) (k : GO B n D ((d, v) :: σ) H (lw ro P ops K X rest)) : GO B n D σ H (lw ro P ops K X (⟨some d, .assign x, ty, p, af, none⟩ :: rest)) := p_val rfl (ev_assign hx) .free rfl hb k
theorem kQv (he : Evs P B σ H ⟨some d, op, ty, p, af, none⟩ v) (hb : Nat.blt d n = true) (k : QO n D ((d, v) :: σ) (qw P ops B H Kq rest)) : QO n D σ (qw P ops B H Kq (⟨some d, op, ty, p, af, none⟩ :: rest)) := q_val rfl he .free hb k
theorem kQm (hx : evO σ x = some v) (hb : Nat.blt d n = true) (k : QO n D ((d, v) :: σ) (qw P ops B H Kq rest)) : QO n D σ (qw P ops B H Kq (⟨some d, .move x, ty, p, af, none⟩ :: rest)) := q_val rfl (ev_move hx) .free hb k
theorem kQa (hx : evO σ x = some v) (hb : Nat.blt d n = true) (k : QO n D ((d, v) :: σ) (qw P ops B H Kq rest)) : QO n D σ (qw P ops B H Kq (⟨some d, .assign x, ty, p, af, none⟩ :: rest)) := q_val rfl (ev_assign hx) .free hb k
end
end Go.Proofs.YtbfheafpecgphaaGreat
