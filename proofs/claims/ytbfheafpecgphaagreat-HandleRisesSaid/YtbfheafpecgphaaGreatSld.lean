/- A small logic of owned blocks: regions that draw the order of their operations. Conditions: none. -/
import Derived.Test.YtbfheafpecgphaaGreatSlc
set_option linter.unusedSimpArgs false
set_option linter.unusedVariables false
set_option linter.unnecessarySimpa false
set_option linter.unusedSectionVars false
namespace Go.Proofs.YtbfheafpecgphaaGreat
open Go

section
variable {P : Program} {ops : Array Oper} {md : Region.Mode} {C : World → Prop} {ro : Cx}

def ndefs (ops : Array Oper) : Bool := ops.all fun o => ndef o.op
theorem ndefs_get {ops : Array Oper} (h : ndefs ops = true) {i : Nat} {o : Oper} (ho : ops[i]? = some o) : ndef o.op = true := by
  unfold ndefs at h
  obtain ⟨hi, e⟩ := Array.getElem?_eq_some_iff.1 ho
  have := Array.all_eq_true.1 h i hi
  rwa [e] at this

theorem wpIn_of_quiet {o : Oper} {a : Act} {K : Act → Prop} {K' : Act → World → Prop} {Q' : Exit → Act → World → Prop} {w : World} (hn : ndef o.op = true) (hw : C w) (h : ∀ a w', C w' → K a → K' a w') (hh : o.quiet P a C K) :
    o.wpIn (Wd ro) 0 P a w K' Q' := by
  obtain ⟨v, h1, h2⟩ := hh
  have h3 := h1 w hw
  unfold Oper.quietAt at h3
  refine ⟨fun _ _ => trivial, ?_⟩
  rw [semAt_nd hn]
  generalize (execOp a.eval o).run P w = r at *
  cases r with
  | ok n w' =>
    cases n <;> simp only [Oper.quietUpon] at h3 <;> simp only [Oper.uponIn]
    case value u =>
      obtain ⟨e1, e2⟩ := h3
      rw [e1, e2]
      exact h _ _ hw h2
    case skip =>
      obtain ⟨e1, e2⟩ := h3
      rw [e1, ← e2]
      exact h _ _ hw h2
    case enter f args =>
      obtain ⟨e1, hc⟩ := h3
      rw [e1]
      exact ⟨fun h => by simp at h, calls_wd.2 (hc.mono fun e w'' ⟨he, hw''⟩ => by subst he; exact h _ _ hw'' h2)⟩
  | halt x w' => simp only [Oper.quietUpon] at h3

theorem wpOpIn_of_qOp {i : Nat} {a : Act} {K : Act → Prop} {K' : Act → World → Prop} {Q' : Exit → Act → World → Prop} {w : World} (hnd : ndefs ops = true) (hC : C w) (h : ∀ a w', C w' → K a → K' a w') (hh : qOp P ops C i K a) :
    wpOpIn (Wd ro) 0 P ops Q' i K' a w := by
  unfold qOp at hh
  unfold wpOpIn
  split
  · rename_i ho; simp only [ho] at hh; exact h _ _ hC hh
  · rename_i o ho
    simp only [ho] at hh
    split
    · rename_i hw; simp only [hw, if_true] at hh; exact wpIn_of_quiet (ndefs_get hnd ho) hC h hh
    · rename_i hw; simp only [hw] at hh; exact ⟨fun _ _ => trivial, h _ _ hC hh⟩

theorem wpAnyIn_of_quiet {Q : Act → Prop} {Q' : Exit → Act → World → Prop} (hnd : ndefs ops = true) (hQ : ∀ a w, C w → Q a → Q' .normal a w) : ∀ (fuel : Nat) (listed : Array Bool) (a : Act) (w : World), C w →
    wpAnyQ P md ops C Q fuel listed a → wpAnyIn (Wd ro) 0 P md ops Q' fuel listed a w
  | 0, _, _, _, hw, h => ⟨h.1, hQ _ _ hw h.2⟩
  | fuel + 1, _, _, _, hw, h => ⟨fun h0 => hQ _ _ hw (h.1 h0), fun i hi => wpOpIn_of_qOp hnd hw (fun a' w' hw' => wpAnyIn_of_quiet hnd hQ fuel _ a' w' hw') (h.2 i hi)⟩

/-! ### Quiet operations, then a tail in a forced order -/
def wpAnyLQ (P : Program) (md : Region.Mode) (ops : Array Oper) (C : World → Prop) (n : Nat) (L : Array Bool → Act → Prop) : Nat → Array Bool → Act → Prop
  | 0, listed, a => L listed a
  | f + 1, listed, a =>
    Region.ready md ops listed ≠ [] ∧ ∀ i ∈ Region.ready md ops listed, i < n ∧ qOp P ops C i (wpAnyLQ P md ops C n L f (listed.setIfInBounds i true)) a

theorem wpAnyIn_of_head {n g : Nat} {L : Array Bool → Act → Prop} {Q' : Exit → Act → World → Prop} (hnd : ndefs ops = true) (hL : ∀ listed a, L listed a → ∀ w, C w → wpAnyIn (Wd ro) 0 P md ops Q' g listed a w) :
    ∀ (f : Nat) (listed : Array Bool) (a : Act) (w : World), C w → wpAnyLQ P md ops C n L f listed a → wpAnyIn (Wd ro) 0 P md ops Q' (f + g) listed a w
  | 0, listed, a, w, hw, h => by rw [Nat.zero_add]; exact hL _ _ h w hw
  | f + 1, listed, a, w, hw, h => by
    rw [show f + 1 + g = (f + g) + 1 by omega]
    exact ⟨fun h0 => absurd h0 h.1, fun i hi => wpOpIn_of_qOp hnd hw (fun a' w' hw' h' => wpAnyIn_of_head hnd hL f _ a' w' hw' h') (h.2 i hi).2⟩

theorem wpAnyLQ_first {n i : Nat} {oi : Oper} {v : Value} {L : Array Bool → Act → Prop} (hi : ops[i]? = some oi) (hsel : ∀ (j : Nat) (o : Oper) cs b, ops[j]? = some o → o.op ≠ .select cs b)
    (hs : Region.sinkB md ops n = true) (hc : Region.chainB md ops n = true) (hn : n < ops.size) (hin : i < n)
    (hdone : ∀ listed a, L listed a → ∀ j ∈ Region.ready md ops listed, n ≤ j) :
    ∀ (f : Nat) (listed : Array Bool) (a : Act), HeadInv md ops n listed →
      (∀ j oj, ops[j]? = some oj → j ≠ i → listed.getD j true = false → (∀ e ∈ oj.after, Region.binds md e = true → e.on ≠ i) → oi.apart ops oj = true) →
      i ∈ Region.ready md ops listed → YieldsIn P ops C oi v a →
      wpAnyLQ P md ops C n L f (listed.setIfInBounds i true) (a.put oi.dst v) → wpAnyLQ P md ops C n L (f + 1) listed a := by
  intro f
  induction f with
  | zero =>
    intro listed a inv _ hr hy HH
    refine ⟨fun h => (by rw [h] at hr; cases hr), fun j hj => ?_⟩
    have hun := (mem_ready.1 hr).1
    have hjn : j < n := by
      rcases Nat.lt_or_ge j n with h | h
      · exact h
      · exact absurd hj (tail_waits hs hc hn inv _ i rfl hin hun j h)
    refine ⟨hjn, ?_⟩
    by_cases hji : j = i
    · subst hji; exact hy.qOp hi HH
    · have := hdone _ _ HH j (ready_mono hj hji)
      omega
  | succ f ih =>
    intro listed a inv hfree hr hy HH
    have hun := (mem_ready.1 hr).1
    refine ⟨fun h => (by rw [h] at hr; cases hr), fun j hj => ?_⟩
    have hjn : j < n := by
      rcases Nat.lt_or_ge j n with h | h
      · exact h
      · exact absurd hj (tail_waits hs hc hn inv _ i rfl hin hun j h)
    refine ⟨hjn, ?_⟩
    by_cases hji : j = i
    · subst hji; exact hy.qOp hi HH
    · have h1 := (HH.2 j (ready_mono hj hji)).2
      obtain ⟨hjun, oj, hoj, hall⟩ := mem_ready.1 hj
      have hnot : ∀ e ∈ oj.after, Region.binds md e = true → e.on ≠ i := fun e he hb heq => by
        have h1 := hall e he hb
        rw [heq, getD_both hun] at h1
        cases h1
      have h2 := qOp_put hoj (hfree j oj hoj hji hjun hnot) (fun cs b => hsel i oi cs b hi) (fun cs b => hsel j oj cs b hoj) hy h1
      have hfree' : ∀ k ok, ops[k]? = some ok → k ≠ i → (listed.setIfInBounds j true).getD k true = false →
          (∀ e ∈ ok.after, Region.binds md e = true → e.on ≠ i) → oi.apart ops ok = true := fun k ok hk hki hun hno => by
        refine hfree k ok hk hki ?_ hno
        by_cases hjk : j = k
        · subst hjk; exact hjun
        · rw [getD_set_ne true hjk] at hun; exact hun
      refine qOp_mono (fun a' h3 => ih (listed.setIfInBounds j true) a' (inv.set hj hjn) hfree' (ready_mono hr (Ne.symm hji)) h3.1 ?_) h2
      rw [Array.setIfInBounds_comm _ _ hji]
      exact h3.2

theorem wpAnyIn_of_seq {Q' : Exit → Act → World → Prop} : ∀ (l : List Oper) (k : Nat) (listed : Array Bool) (a : Act) (w : World), (∀ j, l[j]? = ops[k + j]?) →
    Region.seqB md ops l.length k listed = true → wpListIn (Wd ro) 0 P ops Q' l a w → wpAnyIn (Wd ro) 0 P md ops Q' l.length listed a w
  | [], _, _, _, _, _, hB, h => ⟨by simpa [Region.seqB] using hB, h⟩
  | o :: l, k, listed, a, w, hl, hB, h => by
    have h0 : ops[k]? = some o := by simpa using (hl 0).symm
    simp only [List.length_cons, Region.seqB, Bool.and_eq_true, decide_eq_true_eq] at hB
    refine ⟨fun h1 => (by rw [hB.1] at h1; cases h1), fun i hi => ?_⟩
    rw [hB.1] at hi
    have hik : i = k := by simpa using hi
    subst hik
    have hw : wpOpIn (Wd ro) 0 P ops Q' i (wpListIn (Wd ro) 0 P ops Q' l) a w := by unfold wpOpIn; simp only [h0]; exact h
    exact wpOpIn_mono (fun a' w' h' => wpAnyIn_of_seq l (i + 1) _ a' w' (fun j => by have := hl (j + 1); simpa [Nat.add_assoc, Nat.add_comm 1 j] using this) hB.2 h') hw

theorem wpAnyLQ_lex {n g : Nat} {Lq : Act → Prop} (hsel : Region.noSelect ops = true) (hs : Region.sinkB md ops n = true) (hc : Region.chainB md ops n = true) (hn : n < ops.size) :
    ∀ (l : List Oper) (k : Nat) (listed : Array Bool) (a : Act), (∀ j, j < l.length → l[j]? = ops[k + j]?) → k + l.length = n → HeadInv md ops n listed →
    Region.lexHead md ops g l.length k listed = true → wpQuiet P ops C Lq l a →
    wpAnyLQ P md ops C n (fun listed' a' => Region.seqB md ops g n listed' = true ∧ Lq a') l.length listed a
  | [], k, listed, a, _, hk, _, hB, h => by
    have : k = n := by simpa using hk
    subst this
    exact ⟨by simpa [Region.lexHead] using hB, h⟩
  | o :: l, k, listed, a, hl, hk, inv, hB, h => by
    have h0 : ops[k]? = some o := by simpa using (hl 0 (by simp)).symm
    simp only [List.length_cons, Region.lexHead, Bool.and_eq_true] at hB
    obtain ⟨⟨hr, hf⟩, hB'⟩ := hB
    have hkn : k < n := by simp only [List.length_cons] at hk; omega
    have hr' : k ∈ Region.ready md ops listed := by simpa using hr
    have hst : qOp P ops C k (wpQuiet P ops C Lq l) a := by unfold qOp; simp only [h0]; exact h
    obtain ⟨v, hy, hK⟩ := yieldsIn_of_qOp h0 hst
    exact wpAnyLQ_first h0 (Region.noSelect_spec hsel) hs hc hn hkn (fun listed' a' hL => seqB_ready hL.1) l.length listed a inv (Region.free_spec h0 hf) hr' hy
      (wpAnyLQ_lex hsel hs hc hn l (k + 1) _ _ (fun j hj => by have := hl (j + 1) (by simp; omega); simpa [Nat.add_assoc, Nat.add_comm 1 j] using this) (by simp only [List.length_cons] at hk; omega) (inv.set hr' hkn) hB' hK)

end

section
variable {B : World} {n : Nat} {D : List Deferred} {σ : Env} {H : List HP} {P : Program} {ro : Cx} {K : Act → World → Prop} {X : Ext} {ops : Array Oper} {rest : List Oper} {Kq : Act → Prop}

def QO (n : Nat) (D : List Deferred) (σ : Env) (F : Act → Prop) : Prop := ∀ a, StA n D σ a → F a
abbrev qw (P : Program) (ops : Array Oper) (B : World) (H : List HP) (Kq : Act → Prop) (l : List Oper) : Act → Prop := wpQuiet P ops (Holds B H) Kq l
def atH (B : World) (H : List HP) (K : Act → World → Prop) : Act → Prop := fun a => ∀ w, Holds B H w → K a w

/-- Every operation of a region that draws is quiet. -/
theorem g_draw {id : Nat} {l : List Oper} (hm : P.follows .mixedOrders = true) (hnd : ndefs l.toArray = true) (hB : Region.lexB .any l.toArray = true)
    (h : QO n D σ (qw P l.toArray B H (atH B H K) l)) : GO B n D σ H (cw ro P (.region id l.toArray true) K X) := by
  intro a w s
  simp only [Region.lexB, Bool.and_eq_true] at hB
  refine cw_of <| wpIn_region_any hm (wpAnyIn_of_quiet (C := Holds B H) (Q := atH B H K) hnd (fun a w hw q => q w hw) _ _ _ _ (s.holds.drew _) ?_)
  have := wpAnyQ_lex (P := P) (C := Holds B H) (Q := atH B H K) (md := .any) hB.1 l.toArray.toList 0 (Array.replicate l.toArray.size false) a (by simp) (by simpa using hB.2) (by simpa using h a s.toStA)
  simpa using this

/-- The first m operations are quiet; the others come behind them, in their order. -/
theorem g_drawt {id : Nat} {l : List Oper} (m : Nat) (hm : P.follows .mixedOrders = true) (hnd : ndefs l.toArray = true) (hB : Region.lexTailB .any l.toArray m = true)
    (h : QO n D σ (qw P l.toArray B H (atH B H (lw ro P l.toArray K X (l.drop m))) (l.take m))) : GO B n D σ H (cw ro P (.region id l.toArray true) K X) := by
  intro a w s
  simp only [Region.lexTailB, Bool.and_eq_true, decide_eq_true_eq] at hB
  obtain ⟨⟨⟨⟨hsel, hn⟩, hs⟩, hc⟩, hlex⟩ := hB
  have hn' : m < l.length := by simpa using hn
  have htl : (l.take m).length = m := by simp; omega
  have hdl : (l.drop m).length = l.toArray.size - m := by simp
  have inv0 : HeadInv .any l.toArray m (Array.replicate l.toArray.size false) :=
    ⟨by simp, fun j oj _ hl => (by rw [getD_replicate_false] at hl; cases hl), fun t _ ht => getD_in (by simpa using ht) (getD_replicate_false _ _)⟩
  have HH := wpAnyLQ_lex (P := P) (C := Holds B H) (md := .any) (g := l.toArray.size - m) hsel hs hc hn (l.take m) 0 _ a (fun j hj => by
    have hj' : j < m := by rw [htl] at hj; exact hj
    simp [hj']) (by simpa using htl) inv0 (by rw [htl]; exact hlex) (h a s.toStA)
  refine cw_of <| wpIn_region_any hm ?_
  have := wpAnyIn_of_head (ro := ro) (Q' := toQ K X) (g := l.toArray.size - m) hnd (fun listed a' hL w hw => by
    have := wpAnyIn_of_seq (md := .any) (ro := ro) (P := P) (Q' := toQ K X) (l.drop m) m listed a' w (fun j => by simp [List.getElem?_drop]) (by rw [hdl]; exact hL.1) (hL.2 w hw)
    rwa [hdl] at this) _ _ _ { w with drawn := w.drawn + 1 } (s.holds.drew _) HH
  rw [htl, show m + (l.toArray.size - m) = l.toArray.size by omega] at this
  exact this

theorem q_val {o : Oper} {d : Nat} {v : Value} (hd : o.dst = some d) (he : Evs P B σ H o v) (hw : Wants ops σ o.guard true) (hb : Nat.blt d n = true)
    (k : QO n D ((d, v) :: σ) (qw P ops B H Kq rest)) : QO n D σ (qw P ops B H Kq (o :: rest)) := by
  intro a s
  show (if Region.wanted o (yielded ops a.tmps) then _ else _)
  rw [hw.wanted s.env, if_pos rfl]
  refine ⟨v, fun w hw => ?_, ?_⟩
  · unfold Oper.quietAt; rw [he a w s.env hw]; exact ⟨rfl, rfl⟩
  · rw [hd]; exact k _ (s.put hb v)
theorem q_skip {o : Oper} {d : Nat} (hd : o.dst = some d) (hw : Wants ops σ o.guard false) (hb : Nat.blt d n = true) (k : QO n D ((d, undef) :: σ) (qw P ops B H Kq rest)) : QO n D σ (qw P ops B H Kq (o :: rest)) := by
  intro a s
  show (if Region.wanted o (yielded ops a.tmps) then _ else _)
  rw [hw.wanted s.env, if_neg (by simp), hd]
  exact k _ (s.put hb undef)
theorem q_call {o : Oper} {d : Nat} {f : FuncId} {vs : Array Value} {v : Value} (hd : o.dst = some d) (he : Ent P B σ H o f vs)
    (hs : ∀ w, Holds B H w → Calls P f vs w fun e w' => e = .returned v ∧ Holds B H w') (hw : Wants ops σ o.guard true) (hb : Nat.blt d n = true)
    (k : QO n D ((d, v) :: σ) (qw P ops B H Kq rest)) : QO n D σ (qw P ops B H Kq (o :: rest)) := by
  intro a s
  show (if Region.wanted o (yielded ops a.tmps) then _ else _)
  rw [hw.wanted s.env, if_pos rfl]
  refine ⟨v, fun w hw => ?_, ?_⟩
  · unfold Oper.quietAt; rw [he a w s.env hw]; exact ⟨rfl, hs w hw⟩
  · rw [hd]; exact k _ (s.put hb v)
theorem q_nil (k : GO B n D σ H K) : QO n D σ (qw P ops B H (atH B H K) []) := fun a s w hw => k a w ⟨s, hw⟩
theorem q_cut {σ' : Env} (k : Nat) {l : List Oper} (h1 : QO n D σ (qw P ops B H (fun a => StA n D σ' a) (l.take k))) (h2 : QO n D σ' (qw P ops B H Kq (l.drop k))) : QO n D σ (qw P ops B H Kq l) := by
  have key : ∀ (l₁ l₂ : List Oper) a, qw P ops B H (fun a => StA n D σ' a) l₁ a → QO n D σ' (qw P ops B H Kq l₂) → qw P ops B H Kq (l₁ ++ l₂) a := by
    intro l₁
    induction l₁ with
    | nil => intro l₂ a h g; exact g a h
    | cons o l₁ ih =>
      intro l₂ a h g
      simp only [qw, List.cons_append, wpQuiet] at h ⊢
      split
      · rename_i hw; rw [if_pos hw] at h
        obtain ⟨v, q1, q2⟩ := h
        exact ⟨v, q1, ih l₂ _ q2 g⟩
      · rename_i hw; rw [if_neg hw] at h; exact ih l₂ _ h g
  intro a s
  have := key (l.take k) (l.drop k) a (h1 a s) h2
  rwa [List.take_append_drop] at this
theorem q_and {c y : Bool} {t tp : Nat} {σ1 : Env} (k : Nat) {l : List Oper} (hc : look σ t = some (.bool c)) (_hs : SubE σ1 σ)
    (h1 : c = true → QO n D σ (qw P ops B H (fun a => StA n D ((tp, .bool (c && y)) :: σ1) a) (l.take k)))
    (h0 : c = false → QO n D σ (qw P ops B H (fun a => StA n D ((tp, .bool (c && y)) :: σ1) a) (l.take k)))
    (h2 : QO n D ((tp, .bool (c && y)) :: σ1) (qw P ops B H Kq (l.drop k))) : QO n D σ (qw P ops B H Kq l) := by
  refine q_cut k ?_ h2
  cases hcc : c with
  | true => subst hcc; exact h1 rfl
  | false => subst hcc; exact h0 rfl
theorem q_or {c y : Bool} {t tp : Nat} {σ1 : Env} (k : Nat) {l : List Oper} (hc : look σ t = some (.bool c)) (_hs : SubE σ1 σ)
    (h1 : c = false → QO n D σ (qw P ops B H (fun a => StA n D ((tp, .bool (c || y)) :: σ1) a) (l.take k)))
    (h0 : c = true → QO n D σ (qw P ops B H (fun a => StA n D ((tp, .bool (c || y)) :: σ1) a) (l.take k)))
    (h2 : QO n D ((tp, .bool (c || y)) :: σ1) (qw P ops B H Kq (l.drop k))) : QO n D σ (qw P ops B H Kq l) := by
  refine q_cut k ?_ h2
  cases hcc : c with
  | true => subst hcc; exact h0 rfl
  | false => subst hcc; exact h1 rfl
theorem q_seg {tp : Nat} {r y : Bool} {σ1 : Env} (h : look σ tp = some (.bool y)) (hs : SubE σ1 σ) (e : y = r) : QO n D σ (qw P ops B H (fun a => StA n D ((tp, .bool r) :: σ1) a) []) := by
  subst e; exact fun _ s => s.sub fun _ _ => SubE.look (σ' := (tp, .bool y) :: σ1) ⟨h, hs⟩
theorem qo_sub {σ' : Env} {F : Act → Prop} (h : SubE σ' σ) (k : QO n D σ' F) : QO n D σ F := fun a s => k a (s.sub fun _ _ => h.look)
theorem q_to {σ' : Env} (h : SubE σ' σ) : QO n D σ (fun a => StA n D σ' a) := fun _ s => s.sub fun _ _ => h.look
theorem q_end {σ' : Env} (h : SubE σ' σ) : QO n D σ (qw P ops B H (fun a => StA n D σ' a) []) := fun _ s => s.sub fun _ _ => h.look

end
end Go.Proofs.YtbfheafpecgphaaGreat
