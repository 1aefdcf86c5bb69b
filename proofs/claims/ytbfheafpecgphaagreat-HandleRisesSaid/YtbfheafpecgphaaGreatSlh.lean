/- A small logic of owned blocks: regions that draw, of quiet operations between a few, passed one by one, that change the world. Conditions: none. -/
import Derived.Test.YtbfheafpecgphaaGreatSlg
set_option linter.unusedSimpArgs false
set_option linter.unusedVariables false
set_option linter.unnecessarySimpa false
set_option linter.unusedSectionVars false
namespace Go.Proofs.YtbfheafpecgphaaGreat
open Go
section
variable {P : Program} {ops : Array Oper} {md : Region.Mode} {C : World → Prop} {ro : Cx}
/-- Each operation behind n waits for one from n on. -/
def starB (md : Region.Mode) (ops : Array Oper) (n : Nat) : Bool := (List.range ops.size).all fun t => decide (t ≤ n) || (List.range t).any fun u => decide (n ≤ u) && Region.waitsFor md ops t u
theorem tail_waits2 {n : Nat} {listed : Array Bool} (hs : Region.sinkB md ops n = true) (hc : starB md ops n = true) (hn : n < ops.size) (inv : HeadInv md ops n listed) :
    ∀ (d i : Nat), n - i = d → i < n → listed.getD i true = false → ∀ t, n ≤ t → t ∉ Region.ready md ops listed := by
  intro d
  induction d using Nat.strongRecOn with
  | _ d ih =>
    intro i hd hi hun t ht hr
    obtain ⟨_, ot, hot, hall⟩ := mem_ready.1 hr
    have htlt : t < ops.size := (Array.getElem?_eq_some_iff.1 hot).1
    by_cases htn : t = n
    · subst htn
      have h1 := List.all_eq_true.1 hs i (List.mem_range.2 hi)
      obtain ⟨j, hj, hj2⟩ := List.any_eq_true.1 h1
      simp only [Bool.and_eq_true, decide_eq_true_eq] at hj2
      obtain ⟨oj, hoj, e, he, hb, hon⟩ := Region.waitsFor_spec hj2.2
      have hjle : j ≤ t := by have := List.mem_range.1 hj; omega
      by_cases hjt : j = t
      · subst hjt
        have : oj = ot := Option.some.inj (hoj.symm.trans hot)
        subst this
        have h2 := hall e he hb
        rw [hon, getD_both hun] at h2
        cases h2
      · cases hl : listed.getD j false with
        | true =>
          have h2 := inv.closed j oj hoj hl e he hb
          rw [hon, getD_both hun] at h2
          cases h2
        | false =>
          have hjs : j < listed.size := by rw [inv.size]; omega
          exact ih (t - j) (by omega) j rfl (by omega) (getD_in hjs hl) t (Nat.le_refl _) hr
    · have h1 := List.all_eq_true.1 hc t (List.mem_range.2 htlt)
      simp only [Bool.or_eq_true, decide_eq_true_eq] at h1
      rcases h1 with h1 | h1
      · omega
      · obtain ⟨u, hu, hu2⟩ := List.any_eq_true.1 h1
        simp only [Bool.and_eq_true, decide_eq_true_eq] at hu2
        have hut := List.mem_range.1 hu
        obtain ⟨o', ho', e, he, hb, hon⟩ := Region.waitsFor_spec hu2.2
        have : o' = ot := Option.some.inj (ho'.symm.trans hot)
        subst this
        have h2 := hall e he hb
        rw [hon, getD_both (inv.tail u (by omega) (by omega))] at h2
        cases h2
theorem wpAnyLQ_first2 {n i : Nat} {oi : Oper} {v : Value} {L : Array Bool → Act → Prop} (hi : ops[i]? = some oi) (hsel : ∀ (j : Nat) (o : Oper) cs b, ops[j]? = some o → o.op ≠ .select cs b)
    (hs : Region.sinkB md ops n = true) (hc : starB md ops n = true) (hn : n < ops.size) (hin : i < n)
    (hdone : ∀ listed a, L listed a → ∀ j ∈ Region.ready md ops listed, n ≤ j) :
    ∀ (f : Nat) (listed : Array Bool) (a : Act), HeadInv md ops n listed →
      (∀ j oj, ops[j]? = some oj → j ≠ i → listed.getD j true = false → (∀ e ∈ oj.after, Region.binds md e = true → e.on ≠ i) → oi.apart ops oj = true) →
      i ∈ Region.ready md ops listed → YieldsIn P ops C oi v a →
      wpAnyLQ P md ops C n L f (listed.setIfInBounds i true) (a.put oi.dst v) → wpAnyLQ P md ops C n L (f + 1) listed a := by
  intro f
  induction f with
  | zero =>
    intro listed a inv _ hr hy HH
    refine ⟨fun h => (by rw [h] at hr; cases hr), fun j hj => ?_⟩
    have hun := (mem_ready.1 hr).1
    have hjn : j < n := by
      rcases Nat.lt_or_ge j n with h | h
      · exact h
      · exact absurd hj (tail_waits2 hs hc hn inv _ i rfl hin hun j h)
    refine ⟨hjn, ?_⟩
    by_cases hji : j = i
    · subst hji; exact hy.qOp hi HH
    · have := hdone _ _ HH j (ready_mono hj hji)
      omega
  | succ f ih =>
    intro listed a inv hfree hr hy HH
    have hun := (mem_ready.1 hr).1
    refine ⟨fun h => (by rw [h] at hr; cases hr), fun j hj => ?_⟩
    have hjn : j < n := by
      rcases Nat.lt_or_ge j n with h | h
      · exact h
      · exact absurd hj (tail_waits2 hs hc hn inv _ i rfl hin hun j h)
    refine ⟨hjn, ?_⟩
    by_cases hji : j = i
    · subst hji; exact hy.qOp hi HH
    · have h1 := (HH.2 j (ready_mono hj hji)).2
      obtain ⟨hjun, oj, hoj, hall⟩ := mem_ready.1 hj
      have hnot : ∀ e ∈ oj.after, Region.binds md e = true → e.on ≠ i := fun e he hb heq => by
        have h1 := hall e he hb
        rw [heq, getD_both hun] at h1
        cases h1
      have h2 := qOp_put hoj (hfree j oj hoj hji hjun hnot) (fun cs b => hsel i oi cs b hi) (fun cs b => hsel j oj cs b hoj) hy h1
      have hfree' : ∀ k ok, ops[k]? = some ok → k ≠ i → (listed.setIfInBounds j true).getD k true = false →
          (∀ e ∈ ok.after, Region.binds md e = true → e.on ≠ i) → oi.apart ops ok = true := fun k ok hk hki hun hno => by
        refine hfree k ok hk hki ?_ hno
        by_cases hjk : j = k
        · subst hjk; exact hjun
        · rw [getD_set_ne true hjk] at hun; exact hun
      refine qOp_mono (fun a' h3 => ih (listed.setIfInBounds j true) a' (inv.set hj hjn) hfree' (ready_mono hr (Ne.symm hji)) h3.1 ?_) h2
      rw [Array.setIfInBounds_comm _ _ hji]
      exact h3.2


/-- Up to operation n in the text's order; then E. -/
def headB (md : Region.Mode) (ops : Array Oper) (E : Array Bool → Bool) : Nat → Nat → Array Bool → Bool
  | 0, _, listed => E listed
  | f + 1, k, listed => (Region.ready md ops listed).contains k && Region.free md ops listed k && headB md ops E f (k + 1) (listed.setIfInBounds k true)
theorem wpAnyLQ_head {n : Nat} {Lq : Act → Prop} {E : Array Bool → Bool} (hE : ∀ listed, E listed = true → ∀ j ∈ Region.ready md ops listed, n ≤ j) (hsel : Region.noSelect ops = true) (hs : Region.sinkB md ops n = true) (hc : starB md ops n = true) (hn : n < ops.size) :
    ∀ (l : List Oper) (k : Nat) (listed : Array Bool) (a : Act), (∀ j, j < l.length → l[j]? = ops[k + j]?) → k + l.length = n → HeadInv md ops n listed →
    headB md ops E l.length k listed = true → wpQuiet P ops C Lq l a →
    wpAnyLQ P md ops C n (fun listed' a' => (E listed' = true ∧ HeadInv md ops n listed') ∧ Lq a') l.length listed a
  | [], k, listed, a, _, hk, inv, hB, h => ⟨⟨by simpa [headB] using hB, inv⟩, h⟩
  | o :: l, k, listed, a, hl, hk, inv, hB, h => by
    have h0 : ops[k]? = some o := by simpa using (hl 0 (by simp)).symm
    simp only [List.length_cons, headB, Bool.and_eq_true] at hB
    obtain ⟨⟨hr, hf⟩, hB'⟩ := hB
    have hkn : k < n := by simp only [List.length_cons] at hk; omega
    have hr' : k ∈ Region.ready md ops listed := by simpa using hr
    have hst : qOp P ops C k (wpQuiet P ops C Lq l) a := by unfold qOp; simp only [h0]; exact h
    obtain ⟨v, hy, hK⟩ := yieldsIn_of_qOp h0 hst
    exact wpAnyLQ_first2 h0 (Region.noSelect_spec hsel) hs hc hn hkn (fun listed' a' hL => hE listed' hL.1.1) l.length listed a inv (Region.free_spec h0 hf) hr' hy
      (wpAnyLQ_head hE hsel hs hc hn l (k + 1) _ _ (fun j hj => by have := hl (j + 1) (by simp; omega); simpa [Nat.add_assoc, Nat.add_comm 1 j] using this) (by simp only [List.length_cons] at hk; omega) (inv.set hr' hkn) hB' hK)
/-- The marks: operations that change the world; all ahead of one come ahead of it, all behind it behind it. -/
def planB (md : Region.Mode) (ops : Array Oper) : List Nat → Nat → Array Bool → Bool
  | [], k, listed => Region.lexFrom md ops (ops.size - k) k listed
  | m :: ms, k, listed => decide (k ≤ m) && decide (m < ops.size) && Region.sinkB md ops m && starB md ops m &&
      headB md ops (fun listed' => decide (Region.ready md ops listed' = [m]) && planB md ops ms (m + 1) (listed'.setIfInBounds m true)) (m - k) k listed
def marksB (md : Region.Mode) (ops : Array Oper) (ms : List Nat) : Bool := Region.noSelect ops && planB md ops ms 0 (Array.replicate ops.size false)
end
section
variable {B : World} {n : Nat} {D : List Deferred} {σ : Env} {H : List HP} {P : Program} {ro : Cx} {K : Act → World → Prop} {X : Ext} {ops : Array Oper} {rest : List Oper} {Kq : Act → Prop}
def Seg (P : Program) (ro : Cx) (B : World) (K : Act → World → Prop) (X : Ext) (l : List Oper) : List Nat → Nat → Act → World → Prop
  | [], k => fun a w => ∃ H, Holds B H w ∧ qw P l.toArray B H (atH B H K) (l.drop k) a
  | m :: ms, k => fun a w => ∃ H, Holds B H w ∧ qw P l.toArray B H (atH B H (lw ro P l.toArray (Seg P ro B K X l ms (m + 1)) X ((l.drop m).take 1))) ((l.drop k).take (m - k)) a
theorem seg_q {l : List Oper} {m k : Nat} {ms : List Nat} (h : QO n D σ (qw P l.toArray B H (atH B H (lw ro P l.toArray (Seg P ro B K X l ms (m + 1)) X ((l.drop m).take 1))) ((l.drop k).take (m - k)))) : GO B n D σ H (Seg P ro B K X l (m :: ms) k) := fun a w s => ⟨H, s.holds, h a s.toStA⟩
theorem seg_e {l : List Oper} {k : Nat} (h : QO n D σ (qw P l.toArray B H (atH B H K) (l.drop k))) : GO B n D σ H (Seg P ro B K X l [] k) := fun a w s => ⟨H, s.holds, h a s.toStA⟩
theorem seg_run {l : List Oper} (hnd : ndefs l.toArray = true) (hsel : Region.noSelect l.toArray = true) : ∀ (ms : List Nat) (k : Nat) (listed : Array Bool) (a : Act) (w : World), k ≤ l.length → (∀ t, k ≤ t → t < l.toArray.size → listed.getD t true = false) → (listed.size = l.toArray.size) → (∀ j oj, l.toArray[j]? = some oj → listed.getD j false = true → ∀ e ∈ oj.after, Region.binds .any e = true → listed.getD e.on false = true) →
    planB .any l.toArray ms k listed = true → Seg P ro B K X l ms k a w → wpAnyIn (Wd ro) 0 P .any l.toArray (toQ K X) (l.length - k) listed a w
  | [], k, listed, a, w, hk, _, _, _, hB, ⟨H, hw, h⟩ => by
    simp only [planB] at hB
    have hdl : (l.drop k).length = l.length - k := by simp
    refine wpAnyIn_of_quiet (C := Holds B H) (Q := atH B H K) hnd (fun a w hw q => q w hw) _ _ _ _ hw ?_
    have := wpAnyQ_lex (P := P) (C := Holds B H) (Q := atH B H K) (md := .any) hsel (l.drop k) k listed a (fun j => by simp) (by rw [hdl]; simpa using hB) h
    rwa [hdl] at this
  | m :: ms, k, listed, a, w, hk, ht, hsz, hcl, hB, ⟨H, hw, h⟩ => by
    simp only [planB, Bool.and_eq_true, decide_eq_true_eq] at hB
    obtain ⟨⟨⟨⟨hkm, hml⟩, hs⟩, hc⟩, hh⟩ := hB
    have hml' : m < l.length := by simpa using hml
    have hlen : ((l.drop k).take (m - k)).length = m - k := by simp; omega
    have inv : HeadInv .any l.toArray m listed := ⟨hsz, hcl, fun t h1 h2 => ht t (by omega) h2⟩
    have HH := wpAnyLQ_head (P := P) (C := Holds B H) (md := .any) (ops := l.toArray) (n := m) (E := fun listed' => decide (Region.ready .any l.toArray listed' = [m]) && planB .any l.toArray ms (m + 1) (listed'.setIfInBounds m true)) (fun listed' hE j hj => by
      simp only [Bool.and_eq_true, decide_eq_true_eq] at hE
      rw [hE.1] at hj
      have : j = m := by simpa using hj
      omega) hsel hs hc hml ((l.drop k).take (m - k)) k listed a (fun j hj => by
        rw [hlen] at hj
        rw [List.getElem?_take_of_lt hj]; simp) (by rw [hlen]; omega) inv (by rw [hlen]; exact hh) h
    have fin : ∀ (listed' : Array Bool) (a' : Act), (((decide (Region.ready .any l.toArray listed' = [m]) && planB .any l.toArray ms (m + 1) (listed'.setIfInBounds m true)) = true ∧ HeadInv .any l.toArray m listed') ∧ (atH B H (lw ro P l.toArray (Seg P ro B K X l ms (m + 1)) X ((l.drop m).take 1))) a') → ∀ w, Holds B H w → wpAnyIn (Wd ro) 0 P .any l.toArray (toQ K X) (l.length - m) listed' a' w := by
      intro listed' a' hL w hw
      obtain ⟨⟨hE, inv'⟩, hq⟩ := hL
      simp only [Bool.and_eq_true, decide_eq_true_eq] at hE
      obtain ⟨hr, hpl⟩ := hE
      rw [show l.length - m = (l.length - (m + 1)) + 1 by omega]
      refine ⟨fun h0 => (by rw [hr] at h0; cases h0), fun i hi => ?_⟩
      rw [hr] at hi
      obtain rfl : i = m := by simpa using hi
      have h0 : l.toArray[i]? = some l[i] := by simp [hml']
      have h1 : (l.drop i).take 1 = [l[i]] := by rw [List.drop_eq_getElem_cons hml']; rfl
      have h2 := hq w hw
      rw [h1] at h2
      have h3 : wpOpIn (Wd ro) 0 P l.toArray (toQ K X) i (Seg P ro B K X l ms (i + 1)) a' w := by unfold wpOpIn; simp only [h0]; exact h2
      obtain ⟨_, oi, hoi, hall⟩ := mem_ready.1 (show i ∈ Region.ready .any l.toArray listed' by rw [hr]; simp)
      refine wpOpIn_mono (fun a'' w'' h4 => seg_run hnd hsel ms (i + 1) _ a'' w'' (by omega) (fun t h5 h6 => ?_) (by simp [inv'.size]) ?_ hpl h4) h3
      · rw [getD_set_ne true (by omega)]; exact inv'.tail t (by omega) h6
      · intro j oj hj hl e he hb
        by_cases hij : i = j
        · subst hij
          have : oj = oi := Option.some.inj (hj.symm.trans hoi)
          subst this
          exact getD_set_true (hall e he hb)
        · rw [getD_set_ne false hij] at hl
          exact getD_set_true (inv'.closed j oj hj hl e he hb)
    have := wpAnyIn_of_head (ro := ro) (Q' := toQ K X) (g := l.length - m) hnd fin _ _ _ w hw HH
    rwa [hlen, show m - k + (l.length - m) = l.length - k by omega] at this
/-- A region that draws: quiet operations; between them the marks. -/
theorem g_drawm {id : Nat} {l : List Oper} (ms : List Nat) (hm : P.follows .mixedOrders = true) (hnd : ndefs l.toArray = true) (hB : marksB .any l.toArray ms = true)
    (h : GO B n D σ H (Seg P ro B K X l ms 0)) : GO B n D σ H (cw ro P (.region id l.toArray true) K X) := by
  intro a w s
  simp only [marksB, Bool.and_eq_true] at hB
  refine cw_of <| wpIn_region_any hm ?_
  have s' : St B n D σ H a { w with drawn := w.drawn + 1 } := ⟨s.toStA, s.holds.drew _⟩
  have := seg_run (ro := ro) (K := K) (X := X) hnd hB.1 ms 0 (Array.replicate l.toArray.size false) a _ (Nat.zero_le _) (fun t _ ht => getD_in (by simpa using ht) (getD_replicate_false _ _)) (by simp) (fun j oj _ hl => (by rw [getD_replicate_false] at hl; cases hl)) hB.2 (h a _ s')
  simpa using this
end
end Go.Proofs.YtbfheafpecgphaaGreat
