/- Part of the texts beneath a law: what its proof names. Conditions: none. -/
import Derived.Test.YtbfheafpecgphaaGreatQL16Ma
import Derived.MapKept
set_option linter.unusedSimpArgs false
set_option linter.unusedVariables false
set_option linter.unnecessarySimpa false
set_option linter.unusedSectionVars false
namespace Go.Proofs.YtbfheafpecgphaaGreat
open Go
section
variable {P : Program} {ops : Array Oper} {md : Region.Mode} {C : World → Prop} {ro : Cx}
def ndefs (ops : Array Oper) : Bool := ops.all fun o => ndef o.op
theorem ndefs_get {ops : Array Oper} (h : ndefs ops = true) {i : Nat} {o : Oper} (ho : ops[i]? = some o) : ndef o.op = true := by
  unfold ndefs at h
  obtain ⟨hi, e⟩ := Array.getElem?_eq_some_iff.1 ho
  have := Array.all_eq_true.1 h i hi
  rwa [e] at this
theorem wpIn_of_quiet {o : Oper} {a : Act} {K : Act → Prop} {K' : Act → World → Prop} {Q' : Exit → Act → World → Prop} {w : World} (hn : ndef o.op = true) (hw : C w) (h : ∀ a w', C w' → K a → K' a w') (hh : o.quiet P a C K) :
    o.wpIn (Wd ro) 0 P a w K' Q' := by
  obtain ⟨v, h1, h2⟩ := hh
  have h3 := h1 w hw
  unfold Oper.quietAt at h3
  refine ⟨fun _ _ => trivial, ?_⟩
  rw [semAt_nd hn]
  generalize (execOp a.eval o).run P w = r at *
  cases r with
  | ok n w' =>
    cases n <;> simp only [Oper.quietUpon] at h3 <;> simp only [Oper.uponIn]
    case value u =>
      obtain ⟨e1, e2⟩ := h3
      rw [e1, e2]
      exact h _ _ hw h2
    case skip =>
      obtain ⟨e1, e2⟩ := h3
      rw [e1, ← e2]
      exact h _ _ hw h2
    case enter f args =>
      obtain ⟨e1, hc⟩ := h3
      rw [e1]
      exact ⟨fun h => by simp at h, calls_wd.2 (hc.mono fun e w'' ⟨he, hw''⟩ => by subst he; exact h _ _ hw'' h2)⟩
  | halt x w' => simp only [Oper.quietUpon] at h3
theorem wpOpIn_of_qOp {i : Nat} {a : Act} {K : Act → Prop} {K' : Act → World → Prop} {Q' : Exit → Act → World → Prop} {w : World} (hnd : ndefs ops = true) (hC : C w) (h : ∀ a w', C w' → K a → K' a w') (hh : qOp P ops C i K a) :
    wpOpIn (Wd ro) 0 P ops Q' i K' a w := by
  unfold qOp at hh
  unfold wpOpIn
  split
  · rename_i ho; simp only [ho] at hh; exact h _ _ hC hh
  · rename_i o ho
    simp only [ho] at hh
    split
    · rename_i hw; simp only [hw, if_true] at hh; exact wpIn_of_quiet (ndefs_get hnd ho) hC h hh
    · rename_i hw; simp only [hw] at hh; exact ⟨fun _ _ => trivial, h _ _ hC hh⟩
theorem wpAnyIn_of_quiet {Q : Act → Prop} {Q' : Exit → Act → World → Prop} (hnd : ndefs ops = true) (hQ : ∀ a w, C w → Q a → Q' .normal a w) : ∀ (fuel : Nat) (listed : Array Bool) (a : Act) (w : World), C w →
    wpAnyQ P md ops C Q fuel listed a → wpAnyIn (Wd ro) 0 P md ops Q' fuel listed a w
  | 0, _, _, _, hw, h => ⟨h.1, hQ _ _ hw h.2⟩
  | fuel + 1, _, _, _, hw, h => ⟨fun h0 => hQ _ _ hw (h.1 h0), fun i hi => wpOpIn_of_qOp hnd hw (fun a' w' hw' => wpAnyIn_of_quiet hnd hQ fuel _ a' w' hw') (h.2 i hi)⟩
def wpAnyLQ (P : Program) (md : Region.Mode) (ops : Array Oper) (C : World → Prop) (n : Nat) (L : Array Bool → Act → Prop) : Nat → Array Bool → Act → Prop
  | 0, listed, a => L listed a
  | f + 1, listed, a =>
    Region.ready md ops listed ≠ [] ∧ ∀ i ∈ Region.ready md ops listed, i < n ∧ qOp P ops C i (wpAnyLQ P md ops C n L f (listed.setIfInBounds i true)) a
theorem wpAnyIn_of_head {n g : Nat} {L : Array Bool → Act → Prop} {Q' : Exit → Act → World → Prop} (hnd : ndefs ops = true) (hL : ∀ listed a, L listed a → ∀ w, C w → wpAnyIn (Wd ro) 0 P md ops Q' g listed a w) :
    ∀ (f : Nat) (listed : Array Bool) (a : Act) (w : World), C w → wpAnyLQ P md ops C n L f listed a → wpAnyIn (Wd ro) 0 P md ops Q' (f + g) listed a w
  | 0, listed, a, w, hw, h => by rw [Nat.zero_add]; exact hL _ _ h w hw
  | f + 1, listed, a, w, hw, h => by
    rw [show f + 1 + g = (f + g) + 1 by omega]
    exact ⟨fun h0 => absurd h0 h.1, fun i hi => wpOpIn_of_qOp hnd hw (fun a' w' hw' h' => wpAnyIn_of_head hnd hL f _ a' w' hw' h') (h.2 i hi).2⟩
theorem wpAnyLQ_first {n i : Nat} {oi : Oper} {v : Value} {L : Array Bool → Act → Prop} (hi : ops[i]? = some oi) (hsel : ∀ (j : Nat) (o : Oper) cs b, ops[j]? = some o → o.op ≠ .select cs b)
    (hs : Region.sinkB md ops n = true) (hc : Region.chainB md ops n = true) (hn : n < ops.size) (hin : i < n)
    (hdone : ∀ listed a, L listed a → ∀ j ∈ Region.ready md ops listed, n ≤ j) :
    ∀ (f : Nat) (listed : Array Bool) (a : Act), HeadInv md ops n listed →
      (∀ j oj, ops[j]? = some oj → j ≠ i → listed.getD j true = false → (∀ e ∈ oj.after, Region.binds md e = true → e.on ≠ i) → oi.apart ops oj = true) →
      i ∈ Region.ready md ops listed → YieldsIn P ops C oi v a →
      wpAnyLQ P md ops C n L f (listed.setIfInBounds i true) (a.put oi.dst v) → wpAnyLQ P md ops C n L (f + 1) listed a := by
  intro f
  induction f with
  | zero =>
    intro listed a inv _ hr hy HH
    refine ⟨fun h => (by rw [h] at hr; cases hr), fun j hj => ?_⟩
    have hun := (mem_ready.1 hr).1
    have hjn : j < n := by
      rcases Nat.lt_or_ge j n with h | h
      · exact h
      · exact absurd hj (tail_waits hs hc hn inv _ i rfl hin hun j h)
    refine ⟨hjn, ?_⟩
    by_cases hji : j = i
    · subst hji; exact hy.qOp hi HH
    · have := hdone _ _ HH j (ready_mono hj hji)
      omega
  | succ f ih =>
    intro listed a inv hfree hr hy HH
    have hun := (mem_ready.1 hr).1
    refine ⟨fun h => (by rw [h] at hr; cases hr), fun j hj => ?_⟩
    have hjn : j < n := by
      rcases Nat.lt_or_ge j n with h | h
      · exact h
      · exact absurd hj (tail_waits hs hc hn inv _ i rfl hin hun j h)
    refine ⟨hjn, ?_⟩
    by_cases hji : j = i
    · subst hji; exact hy.qOp hi HH
    · have h1 := (HH.2 j (ready_mono hj hji)).2
      obtain ⟨hjun, oj, hoj, hall⟩ := mem_ready.1 hj
      have hnot : ∀ e ∈ oj.after, Region.binds md e = true → e.on ≠ i := fun e he hb heq => by
        have h1 := hall e he hb
        rw [heq, getD_both hun] at h1
        cases h1
      have h2 := qOp_put hoj (hfree j oj hoj hji hjun hnot) (fun cs b => hsel i oi cs b hi) (fun cs b => hsel j oj cs b hoj) hy h1
      have hfree' : ∀ k ok, ops[k]? = some ok → k ≠ i → (listed.setIfInBounds j true).getD k true = false →
          (∀ e ∈ ok.after, Region.binds md e = true → e.on ≠ i) → oi.apart ops ok = true := fun k ok hk hki hun hno => by
        refine hfree k ok hk hki ?_ hno
        by_cases hjk : j = k
        · subst hjk; exact hjun
        · rw [getD_set_ne true hjk] at hun; exact hun
      refine qOp_mono (fun a' h3 => ih (listed.setIfInBounds j true) a' (inv.set hj hjn) hfree' (ready_mono hr (Ne.symm hji)) h3.1 ?_) h2
      rw [Array.setIfInBounds_comm _ _ hji]
      exact h3.2
theorem wpAnyIn_of_seq {Q' : Exit → Act → World → Prop} : ∀ (l : List Oper) (k : Nat) (listed : Array Bool) (a : Act) (w : World), (∀ j, l[j]? = ops[k + j]?) →
    Region.seqB md ops l.length k listed = true → wpListIn (Wd ro) 0 P ops Q' l a w → wpAnyIn (Wd ro) 0 P md ops Q' l.length listed a w
  | [], _, _, _, _, _, hB, h => ⟨by simpa [Region.seqB] using hB, h⟩
  | o :: l, k, listed, a, w, hl, hB, h => by
    have h0 : ops[k]? = some o := by simpa using (hl 0).symm
    simp only [List.length_cons, Region.seqB, Bool.and_eq_true, decide_eq_true_eq] at hB
    refine ⟨fun h1 => (by rw [hB.1] at h1; cases h1), fun i hi => ?_⟩
    rw [hB.1] at hi
    have hik : i = k := by simpa using hi
    subst hik
    have hw : wpOpIn (Wd ro) 0 P ops Q' i (wpListIn (Wd ro) 0 P ops Q' l) a w := by unfold wpOpIn; simp only [h0]; exact h
    exact wpOpIn_mono (fun a' w' h' => wpAnyIn_of_seq l (i + 1) _ a' w' (fun j => by have := hl (j + 1); simpa [Nat.add_assoc, Nat.add_comm 1 j] using this) hB.2 h') hw
theorem wpAnyLQ_lex {n g : Nat} {Lq : Act → Prop} (hsel : Region.noSelect ops = true) (hs : Region.sinkB md ops n = true) (hc : Region.chainB md ops n = true) (hn : n < ops.size) :
    ∀ (l : List Oper) (k : Nat) (listed : Array Bool) (a : Act), (∀ j, j < l.length → l[j]? = ops[k + j]?) → k + l.length = n → HeadInv md ops n listed →
    Region.lexHead md ops g l.length k listed = true → wpQuiet P ops C Lq l a →
    wpAnyLQ P md ops C n (fun listed' a' => Region.seqB md ops g n listed' = true ∧ Lq a') l.length listed a
  | [], k, listed, a, _, hk, _, hB, h => by
    have : k = n := by simpa using hk
    subst this
    exact ⟨by simpa [Region.lexHead] using hB, h⟩
  | o :: l, k, listed, a, hl, hk, inv, hB, h => by
    have h0 : ops[k]? = some o := by simpa using (hl 0 (by simp)).symm
    simp only [List.length_cons, Region.lexHead, Bool.and_eq_true] at hB
    obtain ⟨⟨hr, hf⟩, hB'⟩ := hB
    have hkn : k < n := by simp only [List.length_cons] at hk; omega
    have hr' : k ∈ Region.ready md ops listed := by simpa using hr
    have hst : qOp P ops C k (wpQuiet P ops C Lq l) a := by unfold qOp; simp only [h0]; exact h
    obtain ⟨v, hy, hK⟩ := yieldsIn_of_qOp h0 hst
    exact wpAnyLQ_first h0 (Region.noSelect_spec hsel) hs hc hn hkn (fun listed' a' hL => seqB_ready hL.1) l.length listed a inv (Region.free_spec h0 hf) hr' hy
      (wpAnyLQ_lex hsel hs hc hn l (k + 1) _ _ (fun j hj => by have := hl (j + 1) (by simp; omega); simpa [Nat.add_assoc, Nat.add_comm 1 j] using this) (by simp only [List.length_cons] at hk; omega) (inv.set hr' hkn) hB' hK)
end
section
variable {B : World} {n : Nat} {D : List Deferred} {σ : Env} {H : List HP} {P : Program} {ro : Cx} {K : Act → World → Prop} {X : Ext} {ops : Array Oper} {rest : List Oper} {Kq : Act → Prop}
def QO (n : Nat) (D : List Deferred) (σ : Env) (F : Act → Prop) : Prop := ∀ a, StA n D σ a → F a
abbrev qw (P : Program) (ops : Array Oper) (B : World) (H : List HP) (Kq : Act → Prop) (l : List Oper) : Act → Prop := wpQuiet P ops (Holds B H) Kq l
def atH (B : World) (H : List HP) (K : Act → World → Prop) : Act → Prop := fun a => ∀ w, Holds B H w → K a w
theorem g_draw {id : Nat} {l : List Oper} (hm : P.follows .mixedOrders = true) (hnd : ndefs l.toArray = true) (hB : Region.lexB .any l.toArray = true)
    (h : QO n D σ (qw P l.toArray B H (atH B H K) l)) : GO B n D σ H (cw ro P (.region id l.toArray true) K X) := by
  intro a w s
  simp only [Region.lexB, Bool.and_eq_true] at hB
  refine cw_of <| wpIn_region_any hm (wpAnyIn_of_quiet (C := Holds B H) (Q := atH B H K) hnd (fun a w hw q => q w hw) _ _ _ _ (s.holds.drew _) ?_)
  have := wpAnyQ_lex (P := P) (C := Holds B H) (Q := atH B H K) (md := .any) hB.1 l.toArray.toList 0 (Array.replicate l.toArray.size false) a (by simp) (by simpa using hB.2) (by simpa using h a s.toStA)
  simpa using this
theorem g_drawt {id : Nat} {l : List Oper} (m : Nat) (hm : P.follows .mixedOrders = true) (hnd : ndefs l.toArray = true) (hB : Region.lexTailB .any l.toArray m = true)
    (h : QO n D σ (qw P l.toArray B H (atH B H (lw ro P l.toArray K X (l.drop m))) (l.take m))) : GO B n D σ H (cw ro P (.region id l.toArray true) K X) := by
  intro a w s
  simp only [Region.lexTailB, Bool.and_eq_true, decide_eq_true_eq] at hB
  obtain ⟨⟨⟨⟨hsel, hn⟩, hs⟩, hc⟩, hlex⟩ := hB
  have hn' : m < l.length := by simpa using hn
  have htl : (l.take m).length = m := by simp; omega
  have hdl : (l.drop m).length = l.toArray.size - m := by simp
  have inv0 : HeadInv .any l.toArray m (Array.replicate l.toArray.size false) :=
    ⟨by simp, fun j oj _ hl => (by rw [getD_replicate_false] at hl; cases hl), fun t _ ht => getD_in (by simpa using ht) (getD_replicate_false _ _)⟩
  have HH := wpAnyLQ_lex (P := P) (C := Holds B H) (md := .any) (g := l.toArray.size - m) hsel hs hc hn (l.take m) 0 _ a (fun j hj => by
    have hj' : j < m := by rw [htl] at hj; exact hj
    simp [hj']) (by simpa using htl) inv0 (by rw [htl]; exact hlex) (h a s.toStA)
  refine cw_of <| wpIn_region_any hm ?_
  have := wpAnyIn_of_head (ro := ro) (Q' := toQ K X) (g := l.toArray.size - m) hnd (fun listed a' hL w hw => by
    have := wpAnyIn_of_seq (md := .any) (ro := ro) (P := P) (Q' := toQ K X) (l.drop m) m listed a' w (fun j => by simp [List.getElem?_drop]) (by rw [hdl]; exact hL.1) (hL.2 w hw)
    rwa [hdl] at this) _ _ _ { w with drawn := w.drawn + 1 } (s.holds.drew _) HH
  rw [htl, show m + (l.toArray.size - m) = l.toArray.size by omega] at this
  exact this
theorem q_val {o : Oper} {d : Nat} {v : Value} (hd : o.dst = some d) (he : Evs P B σ H o v) (hw : Wants ops σ o.guard true) (hb : Nat.blt d n = true)
    (k : QO n D ((d, v) :: σ) (qw P ops B H Kq rest)) : QO n D σ (qw P ops B H Kq (o :: rest)) := by
  intro a s
  show (if Region.wanted o (yielded ops a.tmps) then _ else _)
  rw [hw.wanted s.env, if_pos rfl]
  refine ⟨v, fun w hw => ?_, ?_⟩
  · unfold Oper.quietAt; rw [he a w s.env hw]; exact ⟨rfl, rfl⟩
  · rw [hd]; exact k _ (s.put hb v)
theorem q_skip {o : Oper} {d : Nat} (hd : o.dst = some d) (hw : Wants ops σ o.guard false) (hb : Nat.blt d n = true) (k : QO n D ((d, undef) :: σ) (qw P ops B H Kq rest)) : QO n D σ (qw P ops B H Kq (o :: rest)) := by
  intro a s
  show (if Region.wanted o (yielded ops a.tmps) then _ else _)
  rw [hw.wanted s.env, if_neg (by simp), hd]
  exact k _ (s.put hb undef)
theorem q_call {o : Oper} {d : Nat} {f : FuncId} {vs : Array Value} {v : Value} (hd : o.dst = some d) (he : Ent P B σ H o f vs)
    (hs : ∀ w, Holds B H w → Calls P f vs w fun e w' => e = .returned v ∧ Holds B H w') (hw : Wants ops σ o.guard true) (hb : Nat.blt d n = true)
    (k : QO n D ((d, v) :: σ) (qw P ops B H Kq rest)) : QO n D σ (qw P ops B H Kq (o :: rest)) := by
  intro a s
  show (if Region.wanted o (yielded ops a.tmps) then _ else _)
  rw [hw.wanted s.env, if_pos rfl]
  refine ⟨v, fun w hw => ?_, ?_⟩
  · unfold Oper.quietAt; rw [he a w s.env hw]; exact ⟨rfl, hs w hw⟩
  · rw [hd]; exact k _ (s.put hb v)
theorem q_nil (k : GO B n D σ H K) : QO n D σ (qw P ops B H (atH B H K) []) := fun a s w hw => k a w ⟨s, hw⟩
theorem q_cut {σ' : Env} (k : Nat) {l : List Oper} (h1 : QO n D σ (qw P ops B H (fun a => StA n D σ' a) (l.take k))) (h2 : QO n D σ' (qw P ops B H Kq (l.drop k))) : QO n D σ (qw P ops B H Kq l) := by
  have key : ∀ (l₁ l₂ : List Oper) a, qw P ops B H (fun a => StA n D σ' a) l₁ a → QO n D σ' (qw P ops B H Kq l₂) → qw P ops B H Kq (l₁ ++ l₂) a := by
    intro l₁
    induction l₁ with
    | nil => intro l₂ a h g; exact g a h
    | cons o l₁ ih =>
      intro l₂ a h g
      simp only [qw, List.cons_append, wpQuiet] at h ⊢
      split
      · rename_i hw; rw [if_pos hw] at h
        obtain ⟨v, q1, q2⟩ := h
        exact ⟨v, q1, ih l₂ _ q2 g⟩
      · rename_i hw; rw [if_neg hw] at h; exact ih l₂ _ h g
  intro a s
  have := key (l.take k) (l.drop k) a (h1 a s) h2
  rwa [List.take_append_drop] at this
theorem q_and {c y : Bool} {t tp : Nat} {σ1 : Env} (k : Nat) {l : List Oper} (hc : look σ t = some (.bool c)) (_hs : SubE σ1 σ)
    (h1 : c = true → QO n D σ (qw P ops B H (fun a => StA n D ((tp, .bool (c && y)) :: σ1) a) (l.take k)))
    (h0 : c = false → QO n D σ (qw P ops B H (fun a => StA n D ((tp, .bool (c && y)) :: σ1) a) (l.take k)))
    (h2 : QO n D ((tp, .bool (c && y)) :: σ1) (qw P ops B H Kq (l.drop k))) : QO n D σ (qw P ops B H Kq l) := by
  refine q_cut k ?_ h2
  cases hcc : c with
  | true => subst hcc; exact h1 rfl
  | false => subst hcc; exact h0 rfl
theorem q_or {c y : Bool} {t tp : Nat} {σ1 : Env} (k : Nat) {l : List Oper} (hc : look σ t = some (.bool c)) (_hs : SubE σ1 σ)
    (h1 : c = false → QO n D σ (qw P ops B H (fun a => StA n D ((tp, .bool (c || y)) :: σ1) a) (l.take k)))
    (h0 : c = true → QO n D σ (qw P ops B H (fun a => StA n D ((tp, .bool (c || y)) :: σ1) a) (l.take k)))
    (h2 : QO n D ((tp, .bool (c || y)) :: σ1) (qw P ops B H Kq (l.drop k))) : QO n D σ (qw P ops B H Kq l) := by
  refine q_cut k ?_ h2
  cases hcc : c with
  | true => subst hcc; exact h0 rfl
  | false => subst hcc; exact h1 rfl
theorem q_seg {tp : Nat} {r y : Bool} {σ1 : Env} (h : look σ tp = some (.bool y)) (hs : SubE σ1 σ) (e : y = r) : QO n D σ (qw P ops B H (fun a => StA n D ((tp, .bool r) :: σ1) a) []) := by
  subst e; exact fun _ s => s.sub fun _ _ => SubE.look (σ' := (tp, .bool y) :: σ1) ⟨h, hs⟩
end
end Go.Proofs.YtbfheafpecgphaaGreat
namespace Go.Proofs.YtbfheafpecgphaaGreat
open Go
section
variable {B : World} {σ : Env} {H : List HP} {P : Program} {d : Option Tmp} {ty : TypeId} {p : String} {af : Array Edge} {g : Option (Nat × Bool)}
def BV (σ : Env) (o : Option Operand) (dv v : Nat) : Prop := (o = none ∧ v = dv) ∨ ∃ x k, o = some x ∧ evO σ x = some (.int k (v : Int))
theorem BV.no {σ : Env} {v : Nat} : BV σ none v v := .inl ⟨rfl, rfl⟩
theorem BV.yes {σ : Env} {x : Operand} {k : IntKind} {dv v : Nat} (h : evO σ x = some (.int k (v : Int))) : BV σ (some x) dv v := .inr ⟨x, k, rfl, h⟩
theorem run_bounds {a : Act} {lo hi : Option Operand} {len cap l h : Nat} {s : Bool} (kn : Knows σ a) (hl : BV σ lo 0 l) (hh : BV σ hi len h) (h1 : l ≤ h) (h2 : h ≤ cap) (w : World) :
    (Instr.sliceBounds s len cap (lo.map a.eval) (hi.map a.eval) none).run P w = .ok (l, h, cap) w := by
  have hl2 : (l : Int) ≤ h := by omega
  have hh2 : (h : Int) ≤ cap := by omega
  rcases hl with ⟨rfl, rfl⟩ | ⟨x, k, rfl, hx⟩ <;> rcases hh with ⟨rfl, rfl⟩ | ⟨y, k', rfl, hy⟩ <;>
    simp [Instr.sliceBounds, Instr.sliceBound, *, kn.eval, asIntOf] <;> (try rw [kn.eval hx]) <;> (try rw [kn.eval hy]) <;> simp [*]
theorem ev_slice {t e : TypeId} {x : Operand} {lo hi : Option Operand} {b off len cap sz l h m : Nat} (ht : ∀ w, (underlying t).run P w = .ok (.slice e) w) (hs : ∀ w, (sizeOf e).run P w = .ok sz w) (hx : evO σ x = some (.slice (some ⟨b, off, none⟩) len cap))
    (hl : BV σ lo 0 l) (hh : BV σ hi len h) (h1 : l ≤ h) (h2 : h ≤ cap) (h3 : l < cap ∨ l = 0) (hm : off + l * sz = m) :
    Evs P B σ H ⟨d, .slice t x lo hi none, ty, p, af, g⟩ (.slice (some ⟨b, m, none⟩) (h - l) (cap - l)) := by
  intro a w kn _
  subst hm
  simp only [execOp, kn.eval hx, Instr.sliceAt, Sem.run_bind, ht, Result.andThen_ok, Instr.slice, Option.map_none, run_bounds kn hl hh h1 h2, hs, Sem.run_pure]
  rcases h3 with h3 | rfl
  · simp [show ¬ cap = l by omega, add_eq]
  · by_cases hc : cap = 0
    · simp [hc]
    · simp [hc, add_eq]
theorem ev_sliceA {t e : TypeId} {x : Operand} {lo hi : Option Operand} {b off len sz l h m : Nat} (ht : ∀ w, (underlying t).run P w = .ok (.array len e) w) (hs : ∀ w, (sizeOf e).run P w = .ok sz w) (hx : evO σ x = some (.pointer (some ⟨b, off, none⟩)))
    (hl : BV σ lo 0 l) (hh : BV σ hi len h) (h1 : l ≤ h) (h2 : h ≤ len) (h3 : l < len ∨ l = 0) (hm : off + l * sz = m) :
    Evs P B σ H ⟨d, .slice t x lo hi none, ty, p, af, g⟩ (.slice (some ⟨b, m, none⟩) (h - l) (len - l)) := by
  intro a w kn _
  subst hm
  simp only [execOp, kn.eval hx, Instr.sliceAt, Sem.run_bind, ht, Result.andThen_ok, Instr.sureAddr, Option.map_none, run_bounds kn hl hh h1 h2, hs, Sem.run_pure]
  rcases h3 with h3 | rfl
  · simp [show ¬ len = l by omega, add_eq]
  · by_cases hc : len = 0
    · simp [hc]
    · simp [hc, add_eq]
theorem ev_s2a {t e : TypeId} {x : Operand} {len cap n : Nat} {q : Option Addr} (ht : ∀ w, (underlying t).run P w = .ok (.array n e) w) (hx : evO σ x = some (.slice q len cap)) (h : n ≤ len) :
    Evs P B σ H ⟨d, .sliceToArrayPointer t x, ty, p, af, g⟩ (.pointer q) := by
  intro a w kn _
  simp [execOp, kn.eval hx, Instr.arrayAt, ht, Nat.not_lt.2 h]
theorem ev_iaA {t e : TypeId} {k : IntKind} {x y : Operand} {len b off sz m : Nat} {i : Int} (ht : ∀ w, (underlying t).run P w = .ok (.array len e) w) (hs : ∀ w, (sizeOf e).run P w = .ok sz w) (hx : evO σ x = some (.pointer (some ⟨b, off, none⟩))) (hy : evO σ y = some (.int k i))
    (h0 : 0 ≤ i) (h1 : i < len) (hm : off + i.toNat * sz = m) : Evs P B σ H ⟨d, .indexAddr t x y, ty, p, af, g⟩ (.pointer (some ⟨b, m, none⟩)) := by
  intro a w kn _
  subst hm
  simp [execOp, kn.eval hx, kn.eval hy, Instr.indexAt, asIntOf, ht, hs, h0, h1, add_eq, Instr.sureAddr]
abbrev fewBytes (P : Program) (e : TypeId) : Prop := ((P.info? e).map fun i => decide (i.bytes ≤ 65536) && decide (i.bytes ≠ 0)) = some true
theorem ti_of {e : TypeId} (h : fewBytes P e) : ∃ ti : TypeInfo, (∀ w, (typeInfo e).run P w = .ok ti w) ∧ ti.bytes ≤ 65536 ∧ ti.bytes ≠ 0 := by
  cases hi : P.info? e with
  | none => simp [fewBytes, hi] at h
  | some i => simp [fewBytes, hi] at h; exact ⟨i, fun w => by simp [typeInfo, hi], h.1, h.2⟩
theorem run_newRow (e : TypeId) (cs : Array Value) (w : World) : (newRow e cs).run P w = .ok ⟨w.heap.size, 0, none⟩ { w with heap := w.heap.push (.cells cs e) } := rfl
theorem zero_cells {z : Value} (h1 : cell1 z = true) (n : Nat) : Builtin.zeroCells z.cells n = (List.replicate n z).toArray := by
  rw [cell1_cells h1]
  apply Array.ext
  · simp [Builtin.zeroCells]
  · intro i h1 h2; simp [Builtin.zeroCells, Nat.mod_one]
theorem run_eq_sl {t e : TypeId} {q : Option Addr} {n c : Nat} (ht : ∀ w, (underlying t).run P w = .ok (.slice e) w) (w : World) : (Op.equal t (.slice q n c) (.slice none 0 0)).run P w = .ok q.isNone w := by
  show (Op.equalIn (9999 + 1) t (.slice q n c) (.slice none 0 0)).run P w = _
  rw [Op.equalIn]; simp only [Sem.run_bind, ht, Result.andThen_ok]; cases q <;> rfl
theorem ev_eqsl {op : BinOp} {x y : Operand} {q : Option Addr} {n m : Nat} {c : Bool} {t u e : TypeId} (ht : ∀ w, (underlying t).run P w = .ok (.slice e) w) (hx : evO σ x = some (.slice q n m)) (hy : evO σ y = some (.slice none 0 0)) (hc : (match op with | .eql => some q.isNone | .neq => some (!q.isNone) | _ => none) = some c) :
    Evs P B σ H ⟨d, .binOp op t x y u, ty, p, af, g⟩ (.bool c) := by
  intro a w kn _
  cases op <;> simp at hc <;> subst hc <;> simp only [execOp, kn.eval hx, kn.eval hy] <;> simp [binOp, eqGuard, run_eq_sl ht]
theorem ch_make {t e : TypeId} {x y : Operand} {k k' : IntKind} {n : Nat} {z : Value} (ht : ∀ w, (underlying t).run P w = .ok (.slice e) w) (hfb : fewBytes P e) (hs : ∀ w, (sizeOf e).run P w = .ok 1 w) (hz : ∀ w, (zeroValue e).run P w = .ok z w) (h1 : cell1 z = true)
    (hx : evO σ x = some (.int k (n : Int))) (hy : evO σ y = some (.int k' (n : Int))) (hn : n ≤ 1000000000) :
    Chg P B σ H ⟨d, .makeSlice t x y, ty, p, af, g⟩ (fun v H' => ∃ b, v = .slice (some ⟨b, 0, none⟩) n n ∧ H' = row b (List.replicate n z) e :: H) := by
  obtain ⟨ti, hti, hb, hb0⟩ := ti_of hfb
  intro a w kn hh
  have hw : IntKind.i64.wrap (n : Int) = n := wr64 (by omega)
  have hbb : (ti.bytes : Int) * n ≤ 65536 * 1000000000 := Int.mul_le_mul (by omega) (by omega) (by omega) (by omega)
  refine ⟨.value (.slice (some ⟨w.heap.size, 0, none⟩) n n), { w with heap := w.heap.push (.cells (List.replicate n z).toArray e) }, ?_, _, .inl rfl, _, ⟨_, rfl, rfl⟩, by simpa [row] using hh.new _⟩
  simp only [execOp, kn.eval hx, kn.eval hy, Instr.makeSlice, Sem.run_bind, ht, Result.andThen_ok, asInt, asIntOf, Sem.run_pure, hti, hs, hw]
  rw [if_neg (by simp; omega)]
  simp only [Sem.run_bind, run_askRoom, Result.andThen_ok]
  by_cases hn0 : n = 0
  · subst hn0
    have : ∀ f : Nat → Value, (Array.range 0).map f = #[] := fun f => by apply Array.ext <;> simp
    simp [hs, run_newRow, this]
  · simp [hs, hn0, hz, cell1_cells h1, run_newRow]
    congr 2
    apply Array.ext
    · simp
    · intro i h1 h2; simp [Nat.mod_one]
structure SlR (B : World) (H : List HP) (v : Value) (cs : List Value) : Prop where
  ex : ∃ q cap, v = .slice q cs.length cap ∧ ∀ w, Holds B H w → ∀ i, i < cs.length → ∃ b off, q = some ⟨b, off, none⟩ ∧ w.cell? ⟨b, off + i, none⟩ = cs[i]?
theorem SlR.row {b off n cap : Nat} {cs xs : List Value} {T : TypeId} {U : List Value → List HP} [RowU H b cs T U] (h : (cs.drop off).take n = xs) (hl : xs.length = n) : SlR B H (.slice (some ⟨b, off, none⟩) n cap) xs := by
  refine ⟨some ⟨b, off, none⟩, cap, by rw [hl], fun w hw i hi => ⟨b, off, rfl, ?_⟩⟩
  rw [hw.ucell (b := b) (off + i), ← h]
  rw [List.getElem?_take_of_lt (by omega), List.getElem?_drop]
theorem SlR.arg {q : Option Addr} {n cap : Nat} {z : Nat → Value} [HasOld H B] (h : ArgRow B q n 1 (fun i => [z i])) : SlR B H (.slice q n cap) ((List.range n).map z) := by
  refine ⟨q, cap, by simp, fun w hw i hi => ?_⟩
  simp at hi
  obtain ⟨b, off, rfl, -, hc⟩ := h.cell i hi
  have := hc 0 (by omega)
  simp at this
  exact ⟨b, off, rfl, by rw [hw.oldcell this]; simp [hi]⟩
theorem SlR.cons {v : Value} {cs : List Value} (h : SlR B H v cs) (A : HP) : SlR B (A :: H) v cs := by
  obtain ⟨q, cap, e, hc⟩ := h.ex
  exact ⟨q, cap, e, fun w hw => hc w hw.tail⟩
theorem SlR.nil : SlR B H (.slice none 0 0) [] := ⟨none, 0, rfl, fun _ _ i hi => by simp at hi⟩
theorem run_loadCellsS {b off : Nat} {cs : List Value} {w : World} (h : ∀ i, i < cs.length → w.cell? ⟨b, off + i, none⟩ = cs[i]?) : ∀ (m i : Nat) (acc : Array Value), i + m ≤ cs.length →
    (loadCellsFrom ⟨b, off, none⟩ i m acc).run P w = .ok (acc ++ ((cs.drop i).take m).toArray) w
  | 0, i, acc, _ => by simp [loadCellsFrom]
  | m + 1, i, acc, hl => by
    have h1 := h i (by omega)
    rw [List.getElem?_eq_getElem (by omega)] at h1
    simp only [loadCellsFrom, Sem.run_bind, add_eq]
    simp only [load, Sem.run, h1, Result.andThen_ok]
    rw [run_loadCellsS h m (i + 1) _ (by omega)]
    congr 1
    rw [List.drop_eq_getElem_cons (show i < cs.length by omega), List.take_succ_cons]
    simp
theorem SlR.first {v : Value} {cs : List Value} (h : SlR B H v cs) {w : World} (hh : Holds B H w) (n : Nat) (hn : n ≤ cs.length) : (Builtin.firstCells 1 n v).run P w = .ok (cs.take n).toArray w := by
  obtain ⟨q, cap, rfl, hc⟩ := h.ex
  cases q with
  | none =>
    have : cs.length = 0 := by
      rcases Nat.eq_zero_or_pos cs.length with e | e
      · exact e
      · obtain ⟨b, off, e2, _⟩ := hc w hh 0 e; cases e2
    have : cs = [] := by simpa using this
    subst this; simp [Builtin.firstCells]
  | some a =>
    simp only [Builtin.firstCells, loadCells, Nat.mul_one]
    rcases Nat.eq_zero_or_pos n with rfl | hpos
    · simp [loadCellsFrom]
    · obtain ⟨b, off, e, _⟩ := hc w hh 0 (by omega)
      cases e
      have := run_loadCellsS (P := P) (b := b) (off := off) (cs := cs) (w := w) (fun i hi => by
        obtain ⟨b', off', e', h'⟩ := hc w hh i hi
        cases e'; exact h') n 0 #[] (by omega)
      simpa using this
theorem ch_copy {t e : TypeId} {x y : Operand} {at_ : Array TypeId} {bd od nd cd n : Nat} {dc cs : List Value} {T : TypeId} {U : List Value → List HP} {sv : Value} (ha : at_[0]? = some t) (ht : ∀ w, (underlying t).run P w = .ok (.slice e) w) (hs : ∀ w, (sizeOf e).run P w = .ok 1 w)
    (hx : evO σ x = some (.slice (some ⟨bd, od, none⟩) nd cd)) (hy : evO σ y = some sv) (hr : SlR B H sv cs) [r : RowU H bd dc T U] (hn : min cs.length nd = n) (h1 : od + n ≤ dc.length)
    (hv : cs.all cell1 = true) :
    Chg P B σ H ⟨d, .call ⟨.builtin .copy, #[x, y], at_⟩, ty, p, af, g⟩ (fun v H' => v = .int .i64 n ∧ H' = U (setAll dc od (cs.take n))) := by
  intro a w kn hh
  have hl : (cs.take n).length = n := by simp; omega
  have hv' : ∀ v ∈ cs.take n, cell1 v = true := fun v hv2 => List.all_eq_true.1 hv v (List.mem_of_mem_take hv2)
  obtain ⟨w', e1, hw'⟩ := run_storeCells (P := P) (cs.take n) od 0 r hh (by rw [hl]; omega) hv'
  have e2 := hr.first (P := P) hh n (by omega)
  obtain ⟨q, cap, e0, _⟩ := hr.ex
  refine ⟨.value (.int .i64 n), w', ?_, _, .inl rfl, _, ⟨rfl, rfl⟩, by simpa using hw'⟩
  have e3 : Nat.min cs.length nd = n := hn
  subst e0
  simp only [execOp, resolve, Sem.run_bind, Sem.run_pure, Result.andThen_ok]
  simp [invoke, builtin, Builtin.copy_, ha, kn.eval hx, kn.eval hy, ht, hs, Builtin.lenOf, e3, e2, goInt]
  simp [e1]
theorem ev_bs0 {t e : TypeId} {sz : Nat} (ht : ∀ w, (underlying t).run P w = .ok (.slice e) w) (hs : ∀ w, (sizeOf e).run P w = .ok sz w) :
    Chg P B σ H ⟨d, .buildSlice t 0 #[], ty, p, af, g⟩ (fun v H' => ∃ b, v = .slice (some ⟨b, 0, none⟩) 0 0 ∧ H' = row b [] e :: H) := by
  intro a w kn hh
  refine ⟨.value (.slice (some ⟨w.heap.size, 0, none⟩) 0 0), { w with heap := w.heap.push (.cells #[] e) }, ?_, _, .inl rfl, _, ⟨_, rfl, rfl⟩, by simpa [row] using hh.new _⟩
  have : ∀ f : Nat → Value, (Array.range 0).map f = #[] := fun f => by apply Array.ext <;> simp
  simp [execOp, Instr.buildSlice, ht, hs, Instr.fill, run_newRow, this]
theorem ch_append {t e : TypeId} {x y : Operand} {at_ : Array TypeId} {u : TypeId} {ud : TypeDesc} {b off len cap : Nat} {cs xs : List Value} {T : TypeId} {U : List Value → List HP} {z sv : Value}
    (ha : at_[0]? = some t) (ha' : at_[1]? = some u) (ht : ∀ w, (underlying t).run P w = .ok (.slice e) w) (hu : ∀ w, (underlying u).run P w = .ok ud w) (hud : ∃ q, ud = .slice q) (hs : ∀ w, (sizeOf e).run P w = .ok 1 w) (hz : ∀ w, (zeroValue e).run P w = .ok z w) (hz1 : cell1 z = true) (hfb : fewBytes P e)
    (hx : evO σ x = some (.slice (some ⟨b, off, none⟩) len cap)) (hy : evO σ y = some sv) (hr : SlR B H sv xs) [r : RowU H b cs T U] (h1 : off + cap ≤ cs.length) (hlc : len ≤ cap) (hn : len + xs.length ≤ 1000000000)
    (hv : xs.all cell1 = true) :
    Chg P B σ H ⟨d, .call ⟨.builtin .append, #[x, y], at_⟩, ty, p, af, g⟩ (fun v H' =>
      (len + xs.length ≤ cap ∧ v = .slice (some ⟨b, off, none⟩) (len + xs.length) cap ∧ H' = U (setAll cs (off + len) xs)) ∨
      (cap < len + xs.length ∧ ∃ bn cn rest, len + xs.length + rest.length = cn ∧ (∀ v ∈ rest, v = z) ∧ v = .slice (some ⟨bn, 0, none⟩) (len + xs.length) cn ∧ H' = row bn ((cs.drop off).take len ++ xs ++ rest) e :: H)) := by
  obtain ⟨ti, hti, hb, hb0⟩ := ti_of hfb
  intro a w kn hh
  have e4 := (SlR.row (B := B) (H := H) (b := b) (off := off) (n := len) (cap := cap) (xs := (cs.drop off).take len) rfl (by simp; omega))
  have hl4 : ((cs.drop off).take len).length = len := by simp; omega
  obtain ⟨q, rfl⟩ := hud
  obtain ⟨sq, scap, e0, _⟩ := hr.ex
  generalize hn' : xs.length = n at *
  have hxl : xs.take n = xs := by rw [← hn']; exact List.take_length
  subst e0
  by_cases hcap : len + n ≤ cap
  · obtain ⟨w', e1, hw'⟩ := run_storeCells (P := P) xs (off + len) 0 r hh (by omega) (fun v h => List.all_eq_true.1 hv v h)
    have e2 := hr.first (P := P) hh n (by omega)
    rw [hxl] at e2
    refine ⟨.value (.slice (some ⟨b, off, none⟩) (len + n) cap), w', ?_, _, .inl rfl, _, .inl ⟨hcap, rfl, rfl⟩, by simpa using hw'⟩
    simp only [execOp, resolve, Sem.run_bind, Sem.run_pure, Result.andThen_ok]
    simp [invoke, builtin, Builtin.append_, ha, ha', hu, kn.eval hx, kn.eval hy, ht, hs, Builtin.lenOf, hcap, e2, add_eq]
    simp [e1]
  · have hb2 : Builtin.nextslicecap (len + n) cap * ti.bytes ≤ 281474976710656 := by
      have h3 : Builtin.nextslicecap (len + n) cap ≤ 4000000000 := by
        unfold Builtin.nextslicecap
        split
        · omega
        · split
          · omega
          · simp only [Builtin.growBy]
            repeat' split
            all_goals omega
      calc _ ≤ 4000000000 * 65536 := Nat.mul_le_mul h3 hb
        _ ≤ _ := by omega
    have hq : (Question.appendCap (len + n) cap e).forced = false := rfl
    have hcut : ∃ cn, (Question.appendCap (len + n) cap e).cut (w.tape w.drawn (.appendCap (len + n) cap e)) = cn ∧ len + n ≤ cn := ⟨_, rfl, by simp [Question.cut]⟩
    obtain ⟨cn, ec, hcn⟩ := hcut
    refine ⟨.value (.slice (some ⟨w.heap.size, 0, none⟩) (len + n) cn), { w with drawn := w.drawn + 1, heap := w.heap.push (.cells ((cs.drop off).take len ++ xs ++ List.replicate (cn - (len + n)) z).toArray e) }, ?_, _, .inl rfl, _, .inr ⟨by omega, _, _, List.replicate (cn - (len + n)) z, ?_, ?_, rfl, rfl⟩, ?_⟩
    · simp only [execOp, resolve, Sem.run_bind, Sem.run_pure, Result.andThen_ok]
      have e2w : (Builtin.firstCells 1 n (.slice sq n scap)).run P w.drew = .ok xs.toArray w.drew := by
        have := hr.first (P := P) (hh.drew (w.drawn + 1)) n (by omega)
        rw [hxl] at this; exact this
      have e4w : (Builtin.firstCells 1 len (Value.slice (some ⟨b, off, none⟩) len cap)).run P w.drew = .ok ((cs.drop off).take len).toArray w.drew := by
        have := e4.first (P := P) (hh.drew (w.drawn + 1)) len (by omega)
        rw [List.take_take, Nat.min_self] at this; exact this
      simp only [invoke, builtin, Builtin.append_, ha, ha', Sem.run_bind, hu, kn.eval hx, kn.eval hy, ht, hs, Builtin.lenOf, Result.andThen_ok, Sem.run_pure, List.map_toArray, List.map_cons, List.map_nil, List.getElem?_toArray, List.getElem?_cons_zero, List.getElem?_cons_succ]
      simp [hcap, hti, hq, ec, Nat.not_lt.2 hb2, hb0, e2w, e4w, hz, zero_cells hz1, run_newRow, show ¬ (2 ^ 63 - 1 : Int) < (len : Int) + n by omega]
      have : ((List.take len (List.drop off cs)).toArray ++ (xs.toArray ++ Array.replicate (cn - (len + n)) z)) = (List.take len (List.drop off cs) ++ (xs ++ List.replicate (cn - (len + n)) z)).toArray := by simp
      rw [this]; rfl
    · simp; omega
    · intro v hv; exact List.eq_of_mem_replicate hv
    · simpa [row] using (hh.drew (w.drawn + 1)).new (.cells ((cs.drop off).take len ++ xs ++ List.replicate (cn - (len + n)) z).toArray e)
theorem ch_append_nil {t e : TypeId} {x y : Operand} {at_ : Array TypeId} {u : TypeId} {ud : TypeDesc} {xs : List Value} {z sv : Value}
    (ha : at_[0]? = some t) (ha' : at_[1]? = some u) (ht : ∀ w, (underlying t).run P w = .ok (.slice e) w) (hu : ∀ w, (underlying u).run P w = .ok ud w) (hud : ∃ q, ud = .slice q) (hs : ∀ w, (sizeOf e).run P w = .ok 1 w) (hz : ∀ w, (zeroValue e).run P w = .ok z w) (hz1 : cell1 z = true) (hfb : fewBytes P e)
    (hx : evO σ x = some (.slice none 0 0)) (hy : evO σ y = some sv) (hr : SlR B H sv xs) (hn0 : 0 < xs.length) (hn : xs.length ≤ 1000000000) :
    Chg P B σ H ⟨d, .call ⟨.builtin .append, #[x, y], at_⟩, ty, p, af, g⟩ (fun v H' => ∃ bn cn rest, xs.length + rest.length = cn ∧ (∀ v ∈ rest, v = z) ∧ v = .slice (some ⟨bn, 0, none⟩) xs.length cn ∧ H' = row bn (xs ++ rest) e :: H) := by
  obtain ⟨ti, hti, hb, hb0⟩ := ti_of hfb
  intro a w kn hh
  obtain ⟨q, rfl⟩ := hud
  obtain ⟨sq, scap, e0, _⟩ := hr.ex
  generalize hn' : xs.length = n at *
  have hxl : xs.take n = xs := by rw [← hn']; exact List.take_length
  subst e0
  have hcap : ¬ 0 + n ≤ 0 := by omega
  have hb2 : Builtin.nextslicecap (0 + n) 0 * ti.bytes ≤ 281474976710656 := by
    have h3 : Builtin.nextslicecap (0 + n) 0 ≤ 4000000000 := by
      unfold Builtin.nextslicecap
      split
      · omega
      · split
        · omega
        · simp only [Builtin.growBy]
          repeat' split
          all_goals omega
    calc _ ≤ 4000000000 * 65536 := Nat.mul_le_mul h3 hb
      _ ≤ _ := by omega
  have hq : (Question.appendCap (0 + n) 0 e).forced = false := rfl
  have hcut : ∃ cn, (Question.appendCap (0 + n) 0 e).cut (w.tape w.drawn (.appendCap (0 + n) 0 e)) = cn ∧ n ≤ cn := ⟨_, rfl, by simp [Question.cut]⟩
  obtain ⟨cn, ec, hcn⟩ := hcut
  rw [Nat.zero_add] at hq ec hb2 hcap
  refine ⟨.value (.slice (some ⟨w.heap.size, 0, none⟩) n cn), { w with drawn := w.drawn + 1, heap := w.heap.push (.cells (xs ++ List.replicate (cn - n) z).toArray e) }, ?_, _, .inl rfl, _, ⟨_, _, List.replicate (cn - n) z, ?_, ?_, rfl, rfl⟩, ?_⟩
  · simp only [execOp, resolve, Sem.run_bind, Sem.run_pure, Result.andThen_ok]
    have e2w : (Builtin.firstCells 1 n (.slice sq n scap)).run P w.drew = .ok xs.toArray w.drew := by
      have := hr.first (P := P) (hh.drew (w.drawn + 1)) n (by omega)
      rw [hxl] at this; exact this
    simp only [invoke, builtin, Builtin.append_, ha, ha', Sem.run_bind, hu, kn.eval hx, kn.eval hy, ht, hs, Builtin.lenOf, Result.andThen_ok, Sem.run_pure, List.map_toArray, List.map_cons, List.map_nil, List.getElem?_toArray, List.getElem?_cons_zero, List.getElem?_cons_succ, Nat.zero_add]
    have e4w : (Builtin.firstCells 1 0 (Value.slice none 0 0)).run P w.drew = .ok #[] w.drew := rfl
    simp [hcap, hti, hq, ec, Nat.not_lt.2 hb2, hb0, e2w, e4w, hz, zero_cells hz1, run_newRow, show ¬ n = 0 by omega]
    have : (xs.toArray ++ Array.replicate (cn - n) z) = (xs ++ List.replicate (cn - n) z).toArray := by simp
    rw [this]; rfl
  · simp; omega
  · intro v hv; exact List.eq_of_mem_replicate hv
  · simpa [row] using (hh.drew (w.drawn + 1)).new (.cells (xs ++ List.replicate (cn - n) z).toArray e)
theorem ch_bs1 {t e : TypeId} {x : Operand} {v z : Value} (ht : ∀ w, (underlying t).run P w = .ok (.slice e) w) (hs : ∀ w, (sizeOf e).run P w = .ok 1 w) (hz : ∀ w, (zeroValue e).run P w = .ok z w) (hz1 : cell1 z = true) (hx : evO σ x = some v) (hv : cell1 v = true) :
    Chg P B σ H ⟨d, .buildSlice t 1 #[(0, x)], ty, p, af, g⟩ (fun u H' => ∃ b, u = .slice (some ⟨b, 0, none⟩) 1 1 ∧ H' = row b [v] e :: H) := by
  intro a w kn hh
  refine ⟨.value (.slice (some ⟨w.heap.size, 0, none⟩) 1 1), { w with heap := w.heap.push (.cells #[v] e) }, ?_, _, .inl rfl, _, ⟨_, rfl, rfl⟩, by simpa [row] using hh.new _⟩
  simp [execOp, Instr.buildSlice, ht, hs, Instr.fill, run_newRow, hz, kn.eval hx, cell1_cells hz1, cell1_cells hv]
  congr 2
  apply Array.ext
  · simp
  · intro i h1 h2
    have : i = 0 := by simpa using h2
    subst this; simp
theorem ch_bs3 {t e : TypeId} {x0 x1 x2 : Operand} {v0 v1 v2 z : Value} (ht : ∀ w, (underlying t).run P w = .ok (.slice e) w) (hs : ∀ w, (sizeOf e).run P w = .ok 1 w) (hz : ∀ w, (zeroValue e).run P w = .ok z w) (hz1 : cell1 z = true) (h0 : evO σ x0 = some v0) (h1 : evO σ x1 = some v1) (h2 : evO σ x2 = some v2) (c0 : cell1 v0 = true) (c1 : cell1 v1 = true) (c2 : cell1 v2 = true) :
    Chg P B σ H ⟨d, .buildSlice t 3 #[(0, x0), (1, x1), (2, x2)], ty, p, af, g⟩ (fun u H' => ∃ b, u = .slice (some ⟨b, 0, none⟩) 3 3 ∧ H' = row b [v0, v1, v2] e :: H) := by
  intro a w kn hh
  refine ⟨.value (.slice (some ⟨w.heap.size, 0, none⟩) 3 3), { w with heap := w.heap.push (.cells #[v0, v1, v2] e) }, ?_, _, .inl rfl, _, ⟨_, rfl, rfl⟩, by simpa [row] using hh.new _⟩
  simp [execOp, Instr.buildSlice, ht, hs, Instr.fill, run_newRow, hz, kn.eval h0, kn.eval h1, kn.eval h2, cell1_cells hz1, cell1_cells c0, cell1_cells c1, cell1_cells c2]
  congr 2
  apply Array.ext
  · simp
  · intro i h1 h2
    have : i = 0 ∨ i = 1 ∨ i = 2 := by simp at h2; omega
    rcases this with rfl | rfl | rfl <;> simp
theorem ev_iaS {t e : TypeId} {k : IntKind} {x y : Operand} {b off cap len : Nat} {i : Int} (ht : ∀ w, (underlying t).run P w = .ok (.slice e) w) (hs : ∀ w, (sizeOf e).run P w = .ok 1 w) (hx : evO σ x = some (.slice (some ⟨b, off, none⟩) len cap)) (hy : evO σ y = some (.int k i))
    (h0 : 0 ≤ i) (h1 : i < len) : Evs P B σ H ⟨d, .indexAddr t x y, ty, p, af, g⟩ (.pointer (some ⟨b, off + i.toNat, none⟩)) :=
  ev_ia ht hs hx hy h0 h1 (by rw [Nat.mul_one])
theorem ev_loadS {t : TypeId} {x : Operand} {b off i n cap : Nat} {cs : List Value} {v : Value} (ht : ∀ w, (isAgg t).run P w = .ok false w) (hr : SlR B H (.slice (some ⟨b, off, none⟩) n cap) cs) (hx : evO σ x = some (.pointer (some ⟨b, off + i, none⟩))) (hv : cs[i]? = some v) :
    Evs P B σ H ⟨d, .load t x, ty, p, af, g⟩ v := by
  intro a w kn hh
  obtain ⟨q, c, e, h⟩ := hr.ex
  have hi : i < cs.length := (List.getElem?_eq_some_iff.1 hv).1
  obtain ⟨b', off', e', h'⟩ := h w hh i hi
  cases e
  cases e'
  rw [hv] at h'
  simp [execOp, kn.eval hx, Instr.loadAt, Instr.sureAddr, loadVar, ht, load, Sem.run, h']
def ments {α : Type} (kk : IntKind) (enc : α → Value) (bn : Int → Nat) (l : List (Int × α)) : List MapEntry := l.map fun p => ⟨.int kk p.1, enc p.2, bn p.1⟩
structure MW {α : Type} (bn : Int → Nat) (l : List (Int × α)) (clock : Nat) : Prop where
  keys : (l.map Prod.fst).Nodup
  inj : ∀ p ∈ l, ∀ q ∈ l, bn p.1 = bn q.1 → p.1 = q.1
  lt : ∀ p ∈ l, bn p.1 < clock
def mapA {α : Type} (kk : IntKind) (enc : α → Value) (r : Nat) (l : List (Int × α)) : HP := fun h => ∃ bn clock, h r = some (.map (ments kk enc bn l).toArray clock) ∧ MW bn l clock
def mget {α : Type} : List (Int × α) → Int → Option α
  | [], _ => none
  | p :: l, k => if p.1 = k then some p.2 else mget l k
def mset {α : Type} : List (Int × α) → Int → α → List (Int × α)
  | [], k, a => [(k, a)]
  | p :: l, k, a => if p.1 = k then (k, a) :: l else p :: mset l k a
def mdel {α : Type} : List (Int × α) → Int → List (Int × α)
  | [], _ => []
  | p :: l, k => if p.1 = k then l else p :: mdel l k
def mfind {α : Type} : List (Int × α) → Int → Nat → Option (Nat × α)
  | [], _, _ => none
  | p :: l, k, i => if p.1 = k then some (i, p.2) else mfind l k (i + 1)
section
variable {α : Type} {kk : IntKind} {enc : α → Value}
theorem findNow_m {bn : Int → Nat} {q : IntKind} (k : Int) : ∀ (l : List (Int × α)) (i : Nat), Instr.findNow (.int q) (.int kk k) (ments kk enc bn l) i = some ((mfind l k i).map fun x => (x.1, enc x.2))
  | [], i => rfl
  | p :: l, i => by
    by_cases e : p.1 = k
    · simp [ments, Instr.findNow, Instr.sameNow, mfind, e]
    · have := findNow_m (bn := bn) (q := q) k l (i + 1)
      simp only [ments] at this
      simp [ments, Instr.findNow, Instr.sameNow, mfind, e, Ne.symm e, this]
      have h2 : (k == p.1) = false := by simp [Ne.symm e]
      simp [h2]
theorem mfind_get (k : Int) : ∀ (l : List (Int × α)) (i : Nat), (mfind l k i).map Prod.snd = mget l k
  | [], _ => rfl
  | p :: l, i => by
    simp only [mfind, mget]; split
    · rfl
    · exact mfind_get k l (i + 1)
theorem mfind_none {k : Int} : ∀ {l : List (Int × α)} {i : Nat}, mfind l k i = none → ∀ a, mset l k a = l ++ [(k, a)]
  | [], _, _, _ => rfl
  | p :: l, i, h, a => by
    simp only [mfind] at h
    split at h
    · cases h
    · rename_i e; simp [mset, e, mfind_none h a]
theorem mfind_notin {k : Int} : ∀ {l : List (Int × α)} {i : Nat}, mfind l k i = none → ∀ p ∈ l, p.1 ≠ k
  | [], _, _, _, hp => by simp at hp
  | p :: l, i, h, q, hq => by
    simp only [mfind] at h
    split at h
    · cases h
    · rename_i e
      rcases List.mem_cons.1 hq with rfl | hq
      · exact e
      · exact mfind_notin h q hq
theorem mfind_some {k : Int} {bn : Int → Nat} : ∀ {l : List (Int × α)} {i j : Nat} {x : α}, mfind l k i = some (j, x) → i ≤ j ∧ ∃ p, l[j - i]? = some p ∧ p.1 = k ∧ ∀ a : α, ((ments kk enc bn l).modify (j - i) fun e => { e with key := .int kk k, val := enc a }) = ments kk enc bn (mset l k a)
  | [], _, _, _, h => by simp [mfind] at h
  | p :: l, i, j, x, h => by
    simp only [mfind] at h
    split at h
    · rename_i e
      simp at h
      obtain ⟨rfl, rfl⟩ := h
      refine ⟨Nat.le_refl _, p, by simp, e, fun a => ?_⟩
      simp [ments, mset, e]
    · rename_i e
      obtain ⟨h1, q, h2, h3, h4⟩ := mfind_some (bn := bn) h
      obtain ⟨m, rfl⟩ : ∃ m, j = i + 1 + m := ⟨j - (i + 1), by omega⟩
      refine ⟨by omega, q, ?_, h3, fun a => ?_⟩
      · rw [show i + 1 + m - i = m + 1 by omega]; simpa using h2
      · have := h4 a
        rw [show i + 1 + m - (i + 1) = m by omega] at this
        rw [show i + 1 + m - i = m + 1 by omega]
        simp only [ments] at this
        simp [ments, mset, e, this]
theorem mset_keys {k : Int} {a : α} : ∀ {l : List (Int × α)}, k ∈ l.map Prod.fst → (mset l k a).map Prod.fst = l.map Prod.fst
  | [], h => by simp at h
  | p :: l, h => by
    simp only [mset]; split
    · rename_i e; simp [e]
    · rename_i e
      have : k ∈ l.map Prod.fst := by
        rcases List.mem_cons.1 h with h | h
        · exact absurd h.symm e
        · exact h
      simp [mset_keys this]
theorem mset_mem {k : Int} {a : α} : ∀ {l : List (Int × α)} {p : Int × α}, p ∈ mset l k a → p = (k, a) ∨ p ∈ l
  | [], p, h => by simp [mset] at h; exact .inl h
  | q :: l, p, h => by
    simp only [mset] at h
    split at h
    · rcases List.mem_cons.1 h with h | h
      · exact .inl h
      · exact .inr (List.mem_cons_of_mem _ h)
    · rcases List.mem_cons.1 h with rfl | h
      · exact .inr (List.mem_cons_self ..)
      · rcases mset_mem h with h | h
        · exact .inl h
        · exact .inr (List.mem_cons_of_mem _ h)
theorem mget_mset {k j : Int} {a : α} : ∀ {l : List (Int × α)}, mget (mset l k a) j = if j = k then some a else mget l j
  | [] => by
    simp only [mset, mget]
    by_cases e : k = j
    · simp [e]
    · simp [e, Ne.symm e]
  | p :: l => by
    simp only [mset]
    split
    · rename_i e
      simp only [mget]
      by_cases e2 : k = j
      · simp [e2]
      · rw [if_neg e2, if_neg (Ne.symm e2), if_neg (e ▸ e2)]
    · rename_i e
      simp only [mget, mget_mset (l := l)]
      by_cases e2 : p.1 = j
      · rw [if_pos e2, if_pos e2, if_neg (by rintro rfl; exact e e2)]
      · rw [if_neg e2, if_neg e2]
theorem mget_mem {l : List (Int × α)} {k : Int} {a : α} (h : mget l k = some a) : (k, a) ∈ l := by
  induction l with
  | nil => simp [mget] at h
  | cons p l ih =>
    simp only [mget] at h
    split at h
    · rename_i e; cases p; simp at e h; subst e; subst h; simp
    · exact List.mem_cons_of_mem _ (ih h)
theorem mem_mget {l : List (Int × α)} (hn : (l.map Prod.fst).Nodup) {p : Int × α} (h : p ∈ l) : mget l p.1 = some p.2 := by
  induction l with
  | nil => simp at h
  | cons q l ih =>
    simp only [List.map_cons, List.nodup_cons] at hn
    rcases List.mem_cons.1 h with rfl | h
    · simp [mget]
    · simp only [mget]
      rw [if_neg (fun e => hn.1 (by rw [e]; exact List.mem_map_of_mem h))]
      exact ih hn.2 h
theorem mget_none {l : List (Int × α)} {k : Int} (h : mget l k = none) : k ∉ l.map Prod.fst := by
  induction l with
  | nil => simp
  | cons p l ih =>
    simp only [mget] at h
    split at h
    · cases h
    · rename_i e
      simp only [List.map_cons, List.mem_cons, not_or]
      exact ⟨Ne.symm e, ih h⟩
end
class MapU (H : List HP) (r : Nat) {α : outParam Type} (kk : outParam IntKind) (enc : outParam (α → Value)) (l : outParam (List (Int × α))) (U : outParam (List (Int × α) → List HP)) : Prop where
  get : ∃ i, H[i]? = some (mapA kk enc r l) ∧ ∀ l', U l' = H.set i (mapA kk enc r l')
instance MapU.head {α : Type} {kk : IntKind} {enc : α → Value} {r : Nat} {l : List (Int × α)} {t : List HP} : MapU (mapA kk enc r l :: t) r kk enc l (fun l' => mapA kk enc r l' :: t) := ⟨0, rfl, fun _ => rfl⟩
instance MapU.tail {α : Type} {kk : IntKind} {enc : α → Value} {A : HP} {r : Nat} {l : List (Int × α)} {t : List HP} {U : List (Int × α) → List HP} [m : MapU t r kk enc l U] : MapU (A :: t) r kk enc l (fun l' => A :: U l') :=
  ⟨let ⟨i, h1, h2⟩ := m.get; ⟨i + 1, by simpa using h1, fun l' => by simp [h2]⟩⟩
theorem Holds.at {w : World} {A : HP} (h : Holds B H w) (i : Nat) (e : H[i]? = some A) : ∃ k, Subf k (fun b => w.heap[b]?) ∧ A k := by
  obtain ⟨h1, h2, d, s1, s2, ha, hl⟩ := sat_front i e h.sat; exact ⟨h1, s1, ha⟩
theorem sat_swap_at {A A' : HP} {b : Nat} {o o' : Obj} (hA : ∀ k, A k → k b = some o) (hA' : ∀ k k', A k → k' b = some o' → (∀ c, c ≠ b → k' c = k c) → A' k') : ∀ (i : Nat) {l : List HP} {h h' : Frag}, l[i]? = some A → sat l h → h' b = some o' → (∀ c, c ≠ b → h' c = h c) → sat (l.set i A') h'
  | 0, X :: l, h, h', e, a, hb, hc => by
    simp at e; subst e
    obtain ⟨h1, h2, d, s1, s2, ha, hr⟩ := a
    have hk := hA _ ha
    have h2b : h2 b = none := by rcases d b with q | q
                                 · rw [hk] at q; cases q
                                 · exact q
    refine ⟨fun c => if c = b then some o' else h1 c, h2, ?_, ?_, ?_, hA' h1 _ ha (by simp) (fun c hcb => by simp [hcb]), hr⟩
    · intro c; by_cases hcb : c = b
      · subst hcb; exact .inr h2b
      · simp [hcb]; exact d c
    · intro c oo ec; by_cases hcb : c = b
      · subst hcb; simp at ec; rw [hb, ec]
      · simp [hcb] at ec; rw [hc c hcb]; exact s1 c oo ec
    · intro c oo ec
      have hcb : c ≠ b := by intro q; subst q; rw [h2b] at ec; cases ec
      rw [hc c hcb]; exact s2 c oo ec
  | i + 1, X :: l, h, h', e, a, hb, hc => by
    simp at e
    obtain ⟨h1, h2, d, s1, s2, ha, hr⟩ := a
    obtain ⟨k1, k2, dk, t1, t2, hk, hl⟩ := sat_front i e hr
    have hb2 : h2 b = some o := t1 _ _ (hA _ hk)
    have h1b : h1 b = none := by rcases d b with q | q
                                 · exact q
                                 · rw [hb2] at q; cases q
    refine ⟨h1, fun c => if c = b then some o' else h2 c, ?_, ?_, ?_, ha, sat_swap_at hA hA' i (h := h2) e hr (by simp) (fun c hcb => by simp [hcb])⟩
    · intro c; by_cases hcb : c = b
      · subst hcb; exact .inl h1b
      · simp [hcb]; exact d c
    · intro c oo ec
      have hcb : c ≠ b := by intro q; subst q; rw [h1b] at ec; cases ec
      rw [hc c hcb]; exact s1 c oo ec
    · intro c oo ec; by_cases hcb : c = b
      · subst hcb; simp at ec; rw [hb, ec]
      · simp [hcb] at ec; rw [hc c hcb]; exact s2 c oo ec
  | 0, [], _, _, e, _, _, _ => by simp at e
  | i + 1, [], _, _, e, _, _, _ => by simp at e
theorem set_one {A' : HP} {l : List HP} {i : Nat} (A : HP) : (l.set i A).set i A' = l.set i A' := List.set_set _
theorem Holds.swap_self {w : World} {A : HP} (h : Holds B H w) (i : Nat) (e : H[i]? = some A) : Holds B (H.set i (fun k => A k ∧ Subf k (fun b => w.heap[b]?))) w := by
  have key : ∀ (i : Nat) (l : List HP) (f : Frag), l[i]? = some A → Go.Proofs.YtbfheafpecgphaaGreat.sat l f → Subf f (fun b => w.heap[b]?) → Go.Proofs.YtbfheafpecgphaaGreat.sat (l.set i (fun k => A k ∧ Subf k (fun b => w.heap[b]?))) f := by
    intro i
    induction i with
    | zero =>
      intro l f e a s
      cases l with
      | nil => simp at e
      | cons X l =>
        simp at e; subst e
        obtain ⟨h1, h2, d, s1, s2, ha, hr⟩ := a
        exact ⟨h1, h2, d, s1, s2, ⟨ha, s1.trans s⟩, hr⟩
    | succ i ih =>
      intro l f e a s
      cases l with
      | nil => simp at e
      | cons X l =>
        simp at e
        obtain ⟨h1, h2, d, s1, s2, ha, hr⟩ := a
        exact ⟨h1, h2, d, s1, s2, ha, ih l h2 e hr (s2.trans s)⟩
  exact ⟨h.os, h.tape, h.output, h.size, key i H _ e h.sat (Subf.refl _)⟩
theorem holds_swap {w : World} {A A' : HP} {b : Nat} {o o' : Obj} (h : Holds B H w) (i : Nat) (e : H[i]? = some A) (ho : w.heap[b]? = some o) (hA : ∀ k, Subf k (fun b => w.heap[b]?) → A k → k b = some o) (hA' : ∀ k k', A k → k' b = some o' → (∀ c, c ≠ b → k' c = k c) → A' k') :
    Holds B (H.set i A') { w with heap := w.heap.setIfInBounds b o' } := by
  have hlt : b < w.heap.size := (Array.getElem?_eq_some_iff.1 ho).1
  have h1 := (h.swap_self i e).sat
  have hi : i < H.length := (List.getElem?_eq_some_iff.1 e).1
  have h2 := sat_swap_at (A := fun k => A k ∧ Subf k (fun b => w.heap[b]?)) (A' := A') (b := b) (o := o) (o' := o') (fun k hk => hA k hk.2 hk.1) (fun k k' hk => hA' k k' hk.1) i (List.getElem?_set_self hi) h1 (h' := fun c => (w.heap.setIfInBounds b o')[c]?) (by simp [hlt]) (fun c hc => by simp [Ne.symm hc])
  have e3 := set_one (l := H) (i := i) (A' := A') (fun k => A k ∧ Subf k (fun b => w.heap[b]?))
  exact ⟨h.os, h.tape, h.output, by simpa using h.size, e3 ▸ h2⟩
section
variable {α : Type} {kk : IntKind} {enc : α → Value} {r : Nat} {l : List (Int × α)} {U : List (Int × α) → List HP}
theorem MapU.obj [m : MapU H r kk enc l U] {w : World} (hh : Holds B H w) : ∃ bn clock, w.heap[r]? = some (.map (ments kk enc bn l).toArray clock) ∧ MW bn l clock := by
  obtain ⟨i, h1, _⟩ := m.get
  obtain ⟨k, s, bn, clock, hk, hm⟩ := hh.at i h1
  exact ⟨bn, clock, s _ _ hk, hm⟩
theorem MapU.put [m : MapU H r kk enc l U] {w : World} (hh : Holds B H w) {bn : Int → Nat} {clock : Nat} {l' : List (Int × α)} (hm : MW bn l' clock) :
    Holds B (U l') { w with heap := w.heap.setIfInBounds r (.map (ments kk enc bn l').toArray clock) } := by
  obtain ⟨i, h1, h2⟩ := m.get
  obtain ⟨bn0, c0, h3, _⟩ := m.obj hh
  rw [h2]
  refine holds_swap hh i h1 h3 (fun k s ⟨bn1, c1, hk, _⟩ => ?_) (fun k k' _ hk' _ => ⟨bn, clock, hk', hm⟩)
  rw [hk, ← h3]; exact (s _ _ hk).symm
def mval (enc : α → Value) (z : Value) : Option α → Value
  | some a => enc a
  | none => z
theorem un_of {t : TypeId} {td : TypeDesc} (h : ∀ w, (underlying t).run P w = .ok td w) : P.underlying t = some td := by
  have := h default
  cases e : P.underlying t with
  | none => simp [underlying, e] at this
  | some x => rw [run_underlying e] at this; cases this; rfl
theorem ev_lookup2 {t k e : TypeId} {x y : Operand} {key : Int} {z : Value} (ht : ∀ w, (underlying t).run P w = .ok (.map k e) w) (hk : ∀ w, (underlying k).run P w = .ok (.int kk) w) (hz : ∀ w, (zeroValue e).run P w = .ok z w)
    (hx : evO σ x = some (.map (some r))) (hy : evO σ y = some (.int kk key)) [m : MapU H r kk enc l U] :
    Evs P B σ H ⟨d, .lookup t x y true, ty, p, af, g⟩ (.tuple #[(mval enc z (mget l key)), .bool (mget l key).isSome]) := by
  intro a w kn hh
  obtain ⟨bn, clock, ho, hm⟩ := m.obj hh
  have hf := findNow_m (kk := kk) (enc := enc) (bn := bn) (q := kk) key l 0
  have hg := mfind_get key l 0
  cases hc : mfind l key 0 with
  | none =>
    rw [hc] at hf hg
    simp at hg
    simp [execOp, kn.eval hx, kn.eval hy, Instr.lookup, ht, MapKept.run_getObj_map ho, MapKept.run_checkKey (un_of hk) (show MapKept.IsKey (.int kk) (.int kk key) from rfl), MapKept.run_findKey (un_of hk) hf, hz, ← hg, mval]
  | some v =>
    rw [hc] at hf hg
    simp at hg
    simp [execOp, kn.eval hx, kn.eval hy, Instr.lookup, ht, MapKept.run_getObj_map ho, MapKept.run_checkKey (un_of hk) (show MapKept.IsKey (.int kk) (.int kk key) from rfl), MapKept.run_findKey (un_of hk) hf, hz, ← hg, mval]
theorem ev_lookup1 {t k e : TypeId} {x y : Operand} {key : Int} {z : Value} (ht : ∀ w, (underlying t).run P w = .ok (.map k e) w) (hk : ∀ w, (underlying k).run P w = .ok (.int kk) w) (hz : ∀ w, (zeroValue e).run P w = .ok z w)
    (hx : evO σ x = some (.map (some r))) (hy : evO σ y = some (.int kk key)) [m : MapU H r kk enc l U] :
    Evs P B σ H ⟨d, .lookup t x y false, ty, p, af, g⟩ (mval enc z (mget l key)) := by
  intro a w kn hh
  obtain ⟨bn, clock, ho, hm⟩ := m.obj hh
  have hf := findNow_m (kk := kk) (enc := enc) (bn := bn) (q := kk) key l 0
  have hg := mfind_get key l 0
  cases hc : mfind l key 0 with
  | none =>
    rw [hc] at hf hg
    simp at hg
    simp [execOp, kn.eval hx, kn.eval hy, Instr.lookup, ht, MapKept.run_getObj_map ho, MapKept.run_checkKey (un_of hk) (show MapKept.IsKey (.int kk) (.int kk key) from rfl), MapKept.run_findKey (un_of hk) hf, hz, ← hg, mval]
  | some v =>
    rw [hc] at hf hg
    simp at hg
    simp [execOp, kn.eval hx, kn.eval hy, Instr.lookup, ht, MapKept.run_getObj_map ho, MapKept.run_checkKey (un_of hk) (show MapKept.IsKey (.int kk) (.int kk key) from rfl), MapKept.run_findKey (un_of hk) hf, ← hg, mval]
theorem MW.push {bn : Int → Nat} {clock : Nat} {k : Int} {a : α} (m : MW bn l clock) (h : ∀ p ∈ l, p.1 ≠ k) : MW (fun x => if x = k then clock else bn x) (l ++ [(k, a)]) (clock + 1) := by
  refine ⟨?_, ?_, ?_⟩
  · rw [List.map_append, List.nodup_append]
    refine ⟨m.keys, by simp, fun x hx y hy => ?_⟩
    simp at hy; subst hy
    obtain ⟨p, hp, rfl⟩ := List.mem_map.1 hx
    exact h p hp
  · intro p hp q hq e
    simp only [List.mem_append, List.mem_singleton] at hp hq
    rcases hp with hp | rfl <;> rcases hq with hq | rfl
    · simp only [if_neg (h p hp), if_neg (h q hq)] at e; exact m.inj p hp q hq e
    · simp only [if_neg (h p hp), if_true] at e; have := m.lt p hp; omega
    · simp only [if_neg (h q hq), if_true] at e; have := m.lt q hq; omega
    · rfl
  · intro p hp
    simp only [List.mem_append, List.mem_singleton] at hp
    rcases hp with hp | rfl
    · simp only [if_neg (h p hp)]; have := m.lt p hp; omega
    · simp
theorem ments_push {bn : Int → Nat} {clock : Nat} {k : Int} {a : α} (h : ∀ p ∈ l, p.1 ≠ k) : (ments kk enc bn l).toArray.push ⟨.int kk k, enc a, clock⟩ = (ments kk enc (fun x => if x = k then clock else bn x) (l ++ [(k, a)])).toArray := by
  simp only [ments, List.map_append, List.push_toArray]
  congr 2
  · exact List.map_congr_left fun p hp => by simp [h p hp]
  · simp
theorem MW.mset {bn : Int → Nat} {clock : Nat} {k : Int} {a : α} (m : MW bn l clock) (h : k ∈ l.map Prod.fst) : MW bn (Go.Proofs.YtbfheafpecgphaaGreat.mset l k a) clock := by
  have e := mset_keys (a := a) h
  have hk : ∀ p ∈ Go.Proofs.YtbfheafpecgphaaGreat.mset l k a, ∃ q ∈ l, q.1 = p.1 := fun p hp => by
    have : p.1 ∈ l.map Prod.fst := by rw [← e]; exact List.mem_map_of_mem hp
    obtain ⟨q, hq, e⟩ := List.mem_map.1 this; exact ⟨q, hq, e⟩
  refine ⟨by rw [e]; exact m.keys, fun p hp q hq he => ?_, fun p hp => ?_⟩
  · obtain ⟨p', hp', e1⟩ := hk p hp
    obtain ⟨q', hq', e2⟩ := hk q hq
    rw [← e1, ← e2] at he ⊢
    exact m.inj p' hp' q' hq' he
  · obtain ⟨p', hp', e1⟩ := hk p hp
    rw [← e1]; exact m.lt p' hp'
theorem ch_mapset {t k e : TypeId} {x y z : Operand} {key : Int} {u : α} {v : Value} (ht : ∀ w, (underlying t).run P w = .ok (.map k e) w) (hk : ∀ w, (underlying k).run P w = .ok (.int kk) w)
    (hx : evO σ x = some (.map (some r))) (hy : evO σ y = some (.int kk key)) (hz : evO σ z = some v) (hv : v = enc u) [m : MapU H r kk enc l U] :
    Chg P B σ H ⟨d, .mapUpdate t x y z, ty, p, af, g⟩ (fun _ H' => H' = U (mset l key u)) := by
  subst hv
  intro a w kn hh
  obtain ⟨bn, clock, ho, hm⟩ := m.obj hh
  have hf := findNow_m (kk := kk) (enc := enc) (bn := bn) (q := kk) key l 0
  have hkey : MapKept.IsKey (.int kk) (.int kk key) := rfl
  cases hc : mfind l key 0 with
  | none =>
    rw [hc] at hf
    have hn := mfind_notin hc
    refine ⟨.skip, { w with heap := w.heap.setIfInBounds r (.map (ments kk enc (fun x => if x = key then clock else bn x) (mset l key u)).toArray (clock + 1)) }, ?_, _, .inr ⟨rfl, rfl⟩, _, rfl, m.put hh (by rw [mfind_none hc]; exact hm.push hn)⟩
    rw [mfind_none hc, ← ments_push hn]
    simp [execOp, kn.eval hx, kn.eval hy, kn.eval hz, Instr.mapUpdate, ht, MapKept.run_getObj_map ho, MapKept.run_checkKey (un_of hk) hkey, MapKept.run_findKey (un_of hk) hf, MapKept.run_setObj_map _ ho]
  | some v =>
    obtain ⟨j, x'⟩ := v
    rw [hc] at hf
    obtain ⟨_, q, h2, h3, h4⟩ := mfind_some (kk := kk) (enc := enc) (bn := bn) hc
    simp only [Nat.sub_zero] at h2 h4
    have hin : key ∈ l.map Prod.fst := by rw [← h3]; exact List.mem_map_of_mem (List.mem_of_getElem? h2)
    refine ⟨.skip, { w with heap := w.heap.setIfInBounds r (.map (ments kk enc bn (mset l key u)).toArray clock) }, ?_, _, .inr ⟨rfl, rfl⟩, _, rfl, m.put hh (hm.mset hin)⟩
    have hj : (ments kk enc bn l)[j]? = some ⟨.int kk q.1, enc q.2, bn q.1⟩ := by simp [ments, h2]
    rw [← h4 u]
    simp [execOp, kn.eval hx, kn.eval hy, kn.eval hz, Instr.mapUpdate, ht, MapKept.run_getObj_map ho, MapKept.run_checkKey (un_of hk) hkey, MapKept.run_findKey (un_of hk) hf, MapKept.run_setObj_map _ ho, hj, h3, MapKept.run_keyThatStays hkey]
theorem ch_makeMap {α : Type} (kk : IntKind) (enc : α → Value) {t : TypeId} : Chg P B σ H ⟨d, .makeMap t none, ty, p, af, g⟩ (fun v H' => ∃ b, v = .map (some b) ∧ H' = mapA kk enc b [] :: H) := by
  intro a w kn hh
  refine ⟨.value (.map (some w.heap.size)), { w with heap := w.heap.push (.map #[] 0) }, rfl, _, .inl rfl, _, ⟨_, rfl, rfl⟩, (hh.new (.map #[] 0)).map fun _ => sat_head fun k hk => ?_⟩
  exact ⟨fun _ => 0, 0, hk, by simp, by simp, by simp⟩
theorem ev_lenM {t k e : TypeId} {x : Operand} {at_ : Array TypeId} (ha : at_[0]? = some t) (ht : ∀ w, (underlying t).run P w = .ok (.map k e) w) (hx : evO σ x = some (.map (some r))) [m : MapU H r kk enc l U] :
    Evs P B σ H ⟨d, .call ⟨.builtin .len, #[x], at_⟩, ty, p, af, g⟩ (.int .i64 l.length) := by
  intro q w kn hh
  obtain ⟨bn, clock, ho, hm⟩ := m.obj hh
  simp [execOp, resolve, invoke, builtin, Builtin.len_, ha, kn.eval hx, ht, MapKept.run_getObj_map ho, goInt, ments]
theorem ch_clear {t k e : TypeId} {x : Operand} {at_ : Array TypeId} (ha : at_[0]? = some t) (ht : ∀ w, (underlying t).run P w = .ok (.map k e) w) (hx : evO σ x = some (.map (some r))) [m : MapU H r kk enc l U] :
    Chg P B σ H ⟨d, .call ⟨.builtin .clear, #[x], at_⟩, ty, p, af, g⟩ (fun _ H' => H' = U []) := by
  intro q w kn hh
  obtain ⟨bn, clock, ho, hm⟩ := m.obj hh
  refine ⟨.value (.tuple #[]), { w with heap := w.heap.setIfInBounds r (.map (ments kk enc bn []).toArray clock) }, ?_, _, .inl rfl, _, rfl, m.put hh ⟨by simp, by simp, by simp⟩⟩
  simp [execOp, resolve, invoke, builtin, Builtin.clear_, ha, kn.eval hx, ht, MapKept.run_getObj_map ho, MapKept.run_setObj_map _ ho, ments]
end
def iterA {α : Type} (kk : IntKind) (enc : α → Value) (r it : Nat) (l done : List (Int × α)) : HP := fun h =>
  ∃ bn clock, h r = some (.map (ments kk enc bn l).toArray clock) ∧ h it = some (.mapIter (some r) clock (done.map fun p => bn p.1).toArray clock) ∧ MW bn l clock ∧ (∀ p ∈ done, p ∈ l) ∧ (done.map Prod.fst).Nodup
class IterU (H : List HP) (it : Nat) {α : outParam Type} (kk : outParam IntKind) (enc : outParam (α → Value)) (r : outParam Nat) (l done : outParam (List (Int × α))) (U : outParam (List (Int × α) → List HP)) (E : outParam (List HP)) : Prop where
  get : ∃ i, H[i]? = some (iterA kk enc r it l done) ∧ (∀ d', U d' = H.set i (iterA kk enc r it l d')) ∧ E = H.set i (mapA kk enc r l)
instance IterU.head {α : Type} {kk : IntKind} {enc : α → Value} {r it : Nat} {l done : List (Int × α)} {t : List HP} : IterU (iterA kk enc r it l done :: t) it kk enc r l done (fun d' => iterA kk enc r it l d' :: t) (mapA kk enc r l :: t) := ⟨0, rfl, fun _ => rfl, rfl⟩
instance IterU.tail {α : Type} {kk : IntKind} {enc : α → Value} {A : HP} {r it : Nat} {l done : List (Int × α)} {t : List HP} {U : List (Int × α) → List HP} {E : List HP} [m : IterU t it kk enc r l done U E] : IterU (A :: t) it kk enc r l done (fun d' => A :: U d') (A :: E) :=
  ⟨let ⟨i, h1, h2, h3⟩ := m.get; ⟨i + 1, by simpa using h1, fun l' => by simp [h2], by simp [h3]⟩⟩
class MapW (H : List HP) (r : Nat) {α : outParam Type} (kk : outParam IntKind) (enc : outParam (α → Value)) (l : outParam (List (Int × α))) (W : outParam (HP → List HP)) : Prop where
  get : ∃ i, H[i]? = some (mapA kk enc r l) ∧ ∀ A, W A = H.set i A
instance MapW.head {α : Type} {kk : IntKind} {enc : α → Value} {r : Nat} {l : List (Int × α)} {t : List HP} : MapW (mapA kk enc r l :: t) r kk enc l (fun A => A :: t) := ⟨0, rfl, fun _ => rfl⟩
instance MapW.tail {α : Type} {kk : IntKind} {enc : α → Value} {A : HP} {r : Nat} {l : List (Int × α)} {t : List HP} {W : HP → List HP} [m : MapW t r kk enc l W] : MapW (A :: t) r kk enc l (fun A' => A :: W A') :=
  ⟨let ⟨i, h1, h2⟩ := m.get; ⟨i + 1, by simpa using h1, fun l' => by simp [h2]⟩⟩
theorem iter_map {α : Type} {kk : IntKind} {enc : α → Value} {r it : Nat} {l done : List (Int × α)} {k : Frag} (h : iterA kk enc r it l done k) : mapA kk enc r l k :=
  let ⟨bn, clock, h1, _, h3, _⟩ := h; ⟨bn, clock, h1, h3⟩
section
variable {α : Type} {kk : IntKind} {enc : α → Value} {r it : Nat} {l done : List (Int × α)} {U : List (Int × α) → List HP}
theorem sat_two {A : HP} {b : Nat} {o : Obj} : ∀ {l : List HP} {h : Frag} (i : Nat), l[i]? = some A → sat (blk b o :: l) h → sat (l.set i (fun k => k b = some o ∧ ∃ k', Subf k' k ∧ A k')) h := by
  intro l h i e a
  obtain ⟨h1, h2, d, s1, s2, ha, hr⟩ := a
  have hi : i < l.length := (List.getElem?_eq_some_iff.1 e).1
  obtain ⟨g1, g2, dg, t1, t2, hA, hl⟩ := sat_front i e hr
  have e2 : (l.set i (fun k => k b = some o ∧ ∃ k', Subf k' k ∧ A k')) = (l.eraseIdx i).insertIdx i (fun k => k b = some o ∧ ∃ k', Subf k' k ∧ A k') := (set_insert l i e).symm
  rw [e2]
  refine sat_back i (by rw [List.length_eraseIdx]; split <;> omega) ⟨fun c => (if c = b then some o else g1 c), g2, ?_, ?_, t2.trans s2, ⟨by simp, g1, ?_, hA⟩, hl⟩
  · intro c; by_cases hc : c = b
    · subst hc; right
      rcases d c with q | q
      · rw [show h1 c = some o from ha] at q; cases q
      · cases e3 : g2 c with
        | none => rfl
        | some x => rw [t2 _ _ e3] at q; cases q
    · simp [hc]; exact dg c
  · intro c oo hc; by_cases hcb : c = b
    · subst hcb; simp at hc; subst hc; exact s1 _ _ ha
    · simp [hcb] at hc; exact s2 _ _ (t1 _ _ hc)
  · intro c oo hc
    have hcb : c ≠ b := by
      intro q; subst q
      rcases d c with q | q
      · rw [show h1 c = some o from ha] at q; cases q
      · rw [t1 _ _ hc] at q; cases q
    simp [hcb, hc]
theorem sat_setmono {A A' : HP} (f : ∀ k, A k → A' k) : ∀ (i : Nat) {l : List HP} {h : Frag}, l[i]? = some A → sat l h → sat (l.set i A') h
  | 0, X :: l, h, e, a => by simp at e; subst e; exact sat_head f a
  | i + 1, X :: l, h, e, a => by simp at e; exact sat_cons (fun k hk => sat_setmono f i e hk) a
  | 0, [], _, e, _ => by simp at e
  | i + 1, [], _, e, _ => by simp at e
theorem ch_range {t k e : TypeId} {x : Operand} {W : HP → List HP} (ht : ∀ w, (underlying t).run P w = .ok (.map k e) w) (hx : evO σ x = some (.map (some r))) [m : MapW H r kk enc l W] :
    Chg P B σ H ⟨d, .range t x, ty, p, af, g⟩ (fun v H' => ∃ it, v = .pointer (some ⟨it, 0, none⟩) ∧ H' = W (iterA kk enc r it l [])) := by
  intro q w kn hh
  obtain ⟨i, h1, h2⟩ := m.get
  have m' : MapU H r kk enc l (fun l' => H.set i (mapA kk enc r l')) := ⟨i, h1, fun _ => rfl⟩
  obtain ⟨bn, clock, ho, hm⟩ := m'.obj hh
  have hi : i < H.length := (List.getElem?_eq_some_iff.1 h1).1
  refine ⟨.value (.pointer (some ⟨w.heap.size, 0, none⟩)), { w with heap := w.heap.push (.mapIter (some r) clock #[] clock) }, ?_, _, .inl rfl, _, ⟨_, rfl, rfl⟩, ?_⟩
  · simp [execOp, kn.eval hx, Instr.range, ht, MapKept.run_getObj_map ho]
  · have hr : r < w.heap.size := (Array.getElem?_eq_some_iff.1 ho).1
    have h0 := hh.swap_self i h1
    have h3 := h0.new (.mapIter (some r) clock #[] clock)
    have h4 := sat_two (A := fun k => mapA kk enc r l k ∧ Subf k (fun b => w.heap[b]?)) i (List.getElem?_set_self hi) h3.sat
    have e4 := set_one (l := H) (i := i) (A' := fun k => k w.heap.size = some (.mapIter (some r) clock #[] clock) ∧ ∃ k', Subf k' k ∧ (mapA kk enc r l k' ∧ Subf k' (fun b => w.heap[b]?))) (fun k => mapA kk enc r l k ∧ Subf k (fun b => w.heap[b]?))
    rw [e4] at h4
    have h5 := sat_setmono (A' := iterA kk enc r w.heap.size l []) (fun k hk => by
      obtain ⟨hk1, k', s', ⟨bn', c', hk', hm'⟩, hs'⟩ := hk
      have e5 := hs' _ _ hk'
      have e6 : some (Obj.map (ments kk enc bn l).toArray clock) = some (Obj.map (ments kk enc bn' l).toArray c') := by rw [← ho]; exact e5
      injection e6 with e6
      injection e6 with e6 e7
      subst e7
      exact ⟨bn', clock, s' _ _ hk', by simpa using hk1, hm', by simp, by simp⟩) i (List.getElem?_set_self hi) h4
    have e6 := set_one (l := H) (i := i) (A' := iterA kk enc r w.heap.size l []) (fun k => k w.heap.size = some (.mapIter (some r) clock #[] clock) ∧ ∃ k', Subf k' k ∧ (mapA kk enc r l k' ∧ Subf k' (fun b => w.heap[b]?)))
    rw [e6] at h5
    rw [h2]
    exact ⟨h3.os, h3.tape, h3.output, h3.size, h5⟩
theorem Holds.iter_end {w : World} {E : List HP} (it : Nat) [m : IterU H it kk enc r l done U E] (h : Holds B H w) : Holds B E w := by
  obtain ⟨i, h1, _, h3⟩ := m.get
  rw [h3]
  exact h.map fun _ => sat_setmono (fun _ => iter_map) i h1
theorem IterU.obj {E : List HP} [m : IterU H it kk enc r l done U E] {w : World} (hh : Holds B H w) : ∃ bn clock, w.heap[r]? = some (.map (ments kk enc bn l).toArray clock) ∧ w.heap[it]? = some (.mapIter (some r) clock (done.map fun p => bn p.1).toArray clock) ∧ MW bn l clock ∧ (∀ p ∈ done, p ∈ l) ∧ (done.map Prod.fst).Nodup := by
  obtain ⟨i, h1, _⟩ := m.get
  obtain ⟨k, s, bn, clock, h2, h3, h4⟩ := hh.at i h1
  exact ⟨bn, clock, s _ _ h2, s _ _ h3, h4⟩
theorem run_choose_lt (n : Nat) (hn : 0 < n) (w : World) : ∃ j w', j < n ∧ (choose (.mapNext n)).run P w = .ok j w' ∧ (w' = w ∨ w' = { w with drawn := w.drawn + 1 }) := by
  rw [run_choose]
  by_cases h : (Question.mapNext n).forced = true
  · exact ⟨0, w, hn, by rw [if_pos h], .inl rfl⟩
  · exact ⟨_, _, Nat.mod_lt _ hn, by rw [if_neg h]; rfl, .inr rfl⟩
theorem ch_next {x : Operand} {E : List HP} (hx : evO σ x = some (.pointer (some ⟨it, 0, none⟩))) [m : IterU H it kk enc r l done U E] :
    Chg P B σ H ⟨d, .next x false, ty, p, af, g⟩ (fun v H' => ∃ b vs done', v = .tuple vs ∧ vs[0]? = some (.bool b) ∧ H' = U done' ∧ (b = false → done' = done ∧ ∀ p ∈ l, p ∈ done) ∧ (b = true → ∃ p ∈ l, p.1 ∉ done.map Prod.fst ∧ done' = done ++ [p])) := by
  intro q w kn hh
  obtain ⟨bn, clock, h1, h2, hm, hd, hn⟩ := m.obj hh
  obtain ⟨i, hi, hU, _⟩ := m.get
  have hUd : U done = H := by rw [hU, set_self _ _ hi]
  -- the entries that are left
  have hleft : ∀ e ∈ ments kk enc bn l, ((done.map fun p => bn p.1).toArray.contains e.born = false) ↔ ∃ p ∈ l, e = ⟨.int kk p.1, enc p.2, bn p.1⟩ ∧ p.1 ∉ done.map Prod.fst := by
    intro e he
    obtain ⟨p, hp, rfl⟩ := List.mem_map.1 he
    simp only [Bool.eq_false_iff, ne_eq, Array.contains_iff_mem, List.mem_toArray, List.mem_map, not_exists, not_and]
    constructor
    · intro h
      exact ⟨p, hp, rfl, fun q hq e => h q hq (by rw [e])⟩
    · rintro ⟨p', hp', e, h⟩ q hq eb
      have := hm.inj q (hd q hq) p hp eb
      have e2 : p'.1 = p.1 := by
        have h3 : Value.int kk p.1 = Value.int kk p'.1 := congrArg MapEntry.key e
        injection h3 with _ h4; exact h4.symm
      exact h q hq (this.trans e2.symm)
  generalize hseen : (done.map fun p => bn p.1).toArray = seen at *
  generalize hes : (ments kk enc bn l).toArray = es at *
  have hesl : es.toList = ments kk enc bn l := by rw [← hes]
  have hborn : ∀ e ∈ es, e.born < clock := by
    intro e he
    have : e ∈ ments kk enc bn l := by rw [← hesl]; exact Array.mem_toList_iff.2 he
    obtain ⟨p, hp, rfl⟩ := List.mem_map.1 this
    exact hm.lt p hp
  generalize hl : es.filter (fun e => !seen.contains e.born) = left
  have hold : left.filter (fun e => decide (e.born < clock)) = left := by
    rw [Array.filter_eq_self]
    intro e he
    rw [← hl] at he
    simp [hborn e (Array.mem_filter.1 he).1]
  have hnew : left.filter (fun e => decide (e.born ≥ clock)) = #[] := by
    rw [Array.filter_eq_empty_iff]
    intro e he
    rw [← hl] at he
    simp [hborn e (Array.mem_filter.1 he).1]
  have hchk : (!seen.isEmpty && !es.isEmpty && es.all (fun e => decide (e.born ≥ clock))) = false := by
    cases he : es.isEmpty with
    | true => simp
    | false =>
      have : es.all (fun e => decide (e.born ≥ clock)) = false := by
        rw [Array.all_eq_false]
        have hs : 0 < es.size := by
          rcases Nat.eq_zero_or_pos es.size with h | h
          · rw [Array.isEmpty_iff_size_eq_zero.2 h] at he; cases he
          · exact h
        exact ⟨0, hs, by simp [hborn es[0] (Array.getElem_mem hs)]⟩
      simp [this]
  have hgm := MapKept.run_getObj_map (P := P) h1
  have hgi : (getObj it).run P w = .ok (.mapIter (some r) clock seen clock) w := by simp [getObj, Sem.run, h2]
  have hrun : ∀ c j w', (choose (.mapNext c)).run P w = .ok j w' → c = ((if left.isEmpty then #[none] else #[]) ++ left.map some).size →
      (execOp q.eval ⟨d, .next x false, ty, p, af, g⟩).run P w =
        match ((if left.isEmpty then #[none] else #[]) ++ left.map some)[j]? with
        | some (some e) => (((setObj it (.mapIter (some r) clock (seen.push e.born) clock)).run P w').andThen fun _ w'' => .ok (Next.value (.tuple #[.bool true, e.key, e.val])) w'')
        | some none => .ok (.value (.tuple #[.bool false])) w'
        | none => .halt (.stuck "Next: no such candidate") w' := by
    intro c j w' hc hce
    subst hce
    simp only [execOp, kn.eval hx, Instr.next, Sem.run_bind, hgi, Result.andThen_ok, hgm, hchk, hl, hold, hnew, Array.append_empty]
    simp only [Bool.false_eq_true, if_false, Sem.run_bind, Sem.run_pure, Result.andThen_ok, hc]
    cases ((if left.isEmpty then #[none] else #[]) ++ left.map some)[j]? with
    | none => rfl
    | some o =>
      cases o with
      | none => rfl
      | some e =>
        simp only [Sem.run_bind, Sem.run_pure]
        cases (setObj it (Obj.mapIter (some r) clock (seen.push e.born) clock)).run P w' <;> rfl
  have hlm : ∀ e ∈ left, ∃ p ∈ l, e = ⟨.int kk p.1, enc p.2, bn p.1⟩ ∧ p.1 ∉ done.map Prod.fst := by
    intro e he
    rw [← hl] at he
    obtain ⟨h3, h4⟩ := Array.mem_filter.1 he
    exact (hleft e (by rw [← hesl]; exact Array.mem_toList_iff.2 h3)).1 (by simpa using h4)
  by_cases hemp : left = #[]
  · obtain ⟨j, w', hj, hc, hw'⟩ := run_choose_lt (P := P) 1 (by omega) w
    obtain rfl : j = 0 := by omega
    have := hrun 1 0 w' hc (by simp [hemp])
    refine ⟨_, w', this.trans (by simp [hemp]; rfl), _, .inl rfl, H, ⟨false, _, done, rfl, rfl, hUd.symm, fun _ => ⟨rfl, fun p hp => ?_⟩, fun h => by cases h⟩, ?_⟩
    · have he : (⟨.int kk p.1, enc p.2, bn p.1⟩ : MapEntry) ∈ ments kk enc bn l := List.mem_map.2 ⟨p, hp, rfl⟩
      have h3 : seen.contains (bn p.1) = true := by
        cases hc2 : seen.contains (bn p.1) with
        | true => rfl
        | false =>
          have : (⟨.int kk p.1, enc p.2, bn p.1⟩ : MapEntry) ∈ left := by
            rw [← hl]; exact Array.mem_filter.2 ⟨Array.mem_toList_iff.1 (by rw [hesl]; exact he), by show (!seen.contains (bn p.1)) = true; rw [hc2]; rfl⟩
          rw [hemp] at this; simp at this
      rw [← hseen] at h3
      simp at h3
      obtain ⟨a, ⟨b, h4⟩, h5⟩ := h3
      have h6 := hm.inj (a, b) (hd _ h4) p hp h5
      have h7 := mem_mget hm.keys (hd _ h4)
      have h8 := mem_mget hm.keys hp
      simp only at h6 h7
      rw [h6, h8] at h7
      have h9 : p = (a, b) := by cases p; simp_all
      rw [h9]; exact h4
    · rcases hw' with rfl | rfl
      · exact hh
      · exact hh.drew _
  · have hs : 0 < left.size := by
      rcases Nat.eq_zero_or_pos left.size with h | h
      · exact absurd (Array.eq_empty_of_size_eq_zero h) hemp
      · exact h
    have hie : left.isEmpty = false := by
      cases h : left.isEmpty with
      | true => exact absurd (by simpa using h) hemp
      | false => rfl
    obtain ⟨j, w', hj, hc, hw'⟩ := run_choose_lt (P := P) left.size hs w
    have h3 := hrun left.size j w' hc (by simp [hie])
    obtain ⟨p, hp, hep, hpn⟩ := hlm left[j] (Array.getElem_mem hj)
    have hhw : Holds B H w' := by
      rcases hw' with rfl | rfl
      · exact hh
      · exact hh.drew _
    have h2' : w'.heap[it]? = some (.mapIter (some r) clock seen clock) := by rcases hw' with rfl | rfl <;> exact h2
    have hset : (setObj it (.mapIter (some r) clock (seen.push (bn p.1)) clock)).run P w' = .ok () { w' with heap := w'.heap.setIfInBounds it (.mapIter (some r) clock (seen.push (bn p.1)) clock) } := by simp [setObj, Sem.run, h2']
    refine ⟨.value (.tuple #[.bool true, .int kk p.1, enc p.2]), { w' with heap := w'.heap.setIfInBounds it (.mapIter (some r) clock (seen.push (bn p.1)) clock) }, ?_, _, .inl rfl, U (done ++ [p]), ⟨true, _, _, rfl, rfl, rfl, (fun h => by cases h), fun _ => ⟨p, hp, hpn, rfl⟩⟩, ?_⟩
    · rw [h3]
      simp [hie, hj, hep, hset]
    · rw [hU]
      have hne : r ≠ it := by rintro rfl; rw [h1] at h2; cases h2
      have h4 := holds_swap (A := fun k => iterA kk enc r it l done k ∧ Subf k (fun b => w'.heap[b]?)) (A' := iterA kk enc r it l (done ++ [p])) (hhw.swap_self i hi) i (List.getElem?_set_self (List.getElem?_eq_some_iff.1 hi).1) h2' (o' := .mapIter (some r) clock (seen.push (bn p.1)) clock) (fun k s hk => by
        obtain ⟨⟨bn1, c1, hk1, hk2, _⟩, _⟩ := hk
        rw [hk2, ← h2']; exact (s _ _ hk2).symm) (fun k k' hk hk2 hk3 => by
        obtain ⟨⟨bn1, c1, hk1, hk1', hm1, _⟩, hs1⟩ := hk
        have h5 : w'.heap[r]? = _ := hs1 _ _ hk1
        have h6 : w'.heap[it]? = _ := hs1 _ _ hk1'
        have h1' : w'.heap[r]? = some (.map es clock) := by rcases hw' with rfl | rfl <;> exact h1
        rw [h1'] at h5
        injection h5 with h5; injection h5 with h5 h7
        subst h7
        rw [h2'] at h6
        injection h6 with h6; injection h6 with _ _ h8 _
        have hb : ∀ q ∈ l, bn1 q.1 = bn q.1 := by
          have h9 : ments kk enc bn1 l = ments kk enc bn l := by rw [← hesl, h5]
          intro q hq
          have h10 := (List.map_inj_left.1 h9) q hq
          exact congrArg MapEntry.born h10
        refine ⟨bn1, clock, by rw [hk3 r hne]; exact hk1, ?_, hm1, fun q hq => ?_, ?_⟩
        · rw [hk2, h8]; simp [hb p hp]
        · rcases List.mem_append.1 hq with h | h
          · exact hd q h
          · simp at h; subst h; exact hp
        · rw [List.map_append, List.nodup_append]
          exact ⟨hn, by simp, fun a ha b hb => by simp at hb; subst hb; rintro rfl; exact hpn ha⟩)
      rw [set_one (l := H) (i := i) (A' := iterA kk enc r it l (done ++ [p])) (fun k => iterA kk enc r it l done k ∧ Subf k (fun b => w'.heap[b]?))] at h4
      exact h4
theorem ev_entry {x : Operand} {E : List HP} {p0 : Int × α} {dn : List (Int × α)} (hx : evO σ x = some (.pointer (some ⟨it, 0, none⟩))) [m : IterU H it kk enc r l (dn ++ [p0]) U E] :
    Evs P B σ H ⟨d, .entry x, ty, p, af, g⟩ (.tuple #[.int kk p0.1, enc p0.2]) := by
  intro q w kn hh
  obtain ⟨bn, clock, h1, h2, hm, hd, hn⟩ := m.obj hh
  have hgm := MapKept.run_getObj_map (P := P) h1
  have hgi : (getObj it).run P w = .ok (.mapIter (some r) clock ((dn ++ [p0]).map fun p => bn p.1).toArray clock) w := by simp [getObj, Sem.run, h2]
  have hp0 : p0 ∈ l := hd p0 (by simp)
  have hf : (ments kk enc bn l).find? (fun e => e.born == bn p0.1) = some ⟨.int kk p0.1, enc p0.2, bn p0.1⟩ := by
    have key : ∀ (l' : List (Int × α)), (∀ p ∈ l', p ∈ l) → p0 ∈ l' → (ments kk enc bn l').find? (fun e => e.born == bn p0.1) = some ⟨.int kk p0.1, enc p0.2, bn p0.1⟩ := by
      intro l'
      induction l' with
      | nil => intro _ h; simp at h
      | cons q l' ih =>
        intro hsub hin
        simp only [ments, List.map_cons, List.find?_cons]
        by_cases e : bn q.1 = bn p0.1
        · have h6 := hm.inj q (hsub q (by simp)) p0 hp0 e
          have h7 := mem_mget hm.keys (hsub q (by simp))
          have h8 := mem_mget hm.keys hp0
          rw [h6, h8] at h7
          have : q = p0 := by cases q; cases p0; simp_all
          subst this; simp
        · have e2 : (bn q.1 == bn p0.1) = false := by simp [e]
          simp only [e2]
          refine ih (fun p hp => hsub p (by simp [hp])) ?_
          rcases List.mem_cons.1 hin with h | h
          · subst h; exact absurd rfl e
          · exact h
    exact key l (fun _ h => h) hp0
  simp only [execOp, kn.eval hx, Instr.entry, Sem.run_bind, hgi, Result.andThen_ok]
  simp [hgm, hf]
end
def tab {α : Type} (n : Nat) (f : Nat → α) : List α := (List.range n).map f
theorem tab_len {α : Type} (n : Nat) (f : Nat → α) : (tab n f).length = n := by simp [tab]
theorem tab_get {α : Type} {n i : Nat} {f : Nat → α} (h : i < n) : (tab n f)[i]? = some (f i) := by simp [tab, h]
theorem tab_congr {α : Type} {n : Nat} {f f' : Nat → α} (h : ∀ i, i < n → f i = f' i) : tab n f = tab n f' := by
  refine List.map_congr_left fun i hi => h i (by simpa using hi)
def upd {α : Type} (f : Nat → α) (i : Nat) (v : α) : Nat → α := fun j => if j = i then v else f j
theorem tab_set {α : Type} {n i : Nat} {f : Nat → α} {v : α} : (tab n f).set i v = tab n (upd f i v) := by
  apply List.ext_getElem?
  intro j
  rw [List.getElem?_set]
  by_cases hj : j < n
  · rw [tab_get hj, tab_len]
    by_cases e : i = j
    · subst e; simp [hj, upd, tab_get hj]
    · rw [if_neg e]; simp [upd, Ne.symm e, tab_get hj]
  · have e1 : (tab n f)[j]? = none := by rw [List.getElem?_eq_none]; rw [tab_len]; omega
    have e2 : (tab n (upd f i v))[j]? = none := by rw [List.getElem?_eq_none]; rw [tab_len]; omega
    rw [e2, e1, tab_len]
    by_cases e : i = j
    · subst e; simp [hj]
    · rw [if_neg e]
theorem tab_map {α β : Type} {n : Nat} {f : Nat → α} {g : α → β} : (tab n f).map g = tab n (fun i => g (f i)) := by simp [tab, Function.comp_def]
theorem setAll_get : ∀ (vs cs : List Value) (k j : Nat), k + vs.length ≤ cs.length → (setAll cs k vs)[j]? = if k ≤ j ∧ j < k + vs.length then vs[j - k]? else cs[j]?
  | [], cs, k, j, _ => by
    have : ¬ (k ≤ j ∧ j < k + ([] : List Value).length) := by rw [List.length_nil]; omega
    rw [if_neg this]; rfl
  | v :: vs, cs, k, j, h => by
    have ih := setAll_get vs (cs.set k v) (k + 1) j (by simp at h ⊢; omega)
    simp only [setAll]
    rw [ih]
    simp only [List.length_cons]
    by_cases e : j = k
    · subst e
      rw [if_neg (by omega), if_pos (by omega)]
      simp at h
      simp [show j < cs.length by omega]
    · by_cases h1 : k + 1 ≤ j ∧ j < k + 1 + vs.length
      · rw [if_pos h1, if_pos (by omega)]
        rw [show j - k = (j - (k + 1)) + 1 by omega]; simp
      · rw [if_neg h1, if_neg (by omega)]
        rw [List.getElem?_set_ne (Ne.symm e)]
theorem setAll_tab {n m k : Nat} {f g : Nat → Value} {rest : List Value} (h : k + m ≤ n) : setAll (tab n f ++ rest) k (tab m g) = tab n (fun j => if k ≤ j ∧ j < k + m then g (j - k) else f j) ++ rest := by
  apply List.ext_getElem?
  intro j
  rw [setAll_get _ _ _ _ (by rw [List.length_append, tab_len, tab_len]; omega), tab_len]
  by_cases hj : j < n
  · rw [List.getElem?_append_left (by rw [tab_len]; exact hj), List.getElem?_append_left (by rw [tab_len]; exact hj), tab_get hj, tab_get hj]
    by_cases e : k ≤ j ∧ j < k + m
    · rw [if_pos e, if_pos e, tab_get (by omega)]
    · rw [if_neg e, if_neg e]
  · rw [if_neg (by omega), List.getElem?_append_right (by rw [tab_len]; omega), List.getElem?_append_right (by rw [tab_len]; omega), tab_len, tab_len]
theorem Evs.eq {o : Oper} {v v' : Value} (h : Evs P B σ H o v) (e : v = v') : Evs P B σ H o v' := e ▸ h
class FrameOf (H : List HP) (Fr : List HP) : Prop where
  ex : ∃ A, H = A ++ Fr
instance FrameOf.refl {Fr : List HP} : FrameOf Fr Fr := ⟨[], rfl⟩
instance FrameOf.cons {A : HP} {H Fr : List HP} [h : FrameOf H Fr] : FrameOf (A :: H) Fr := ⟨let ⟨l, e⟩ := h.ex; ⟨A :: l, by rw [e]; rfl⟩⟩
end
end Go.Proofs.YtbfheafpecgphaaGreat
