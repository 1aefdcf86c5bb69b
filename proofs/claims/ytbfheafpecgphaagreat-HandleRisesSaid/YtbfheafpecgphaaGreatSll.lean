/- A small logic of owned blocks: a region that draws, whose marks come in more orders than one. Conditions: none. -/
import Derived.Test.YtbfheafpecgphaaGreatSlk
set_option linter.unusedSimpArgs false
set_option linter.unusedVariables false
set_option linter.unnecessarySimpa false
set_option linter.unusedSectionVars false
namespace Go.Proofs.YtbfheafpecgphaaGreat
open Go
section
variable {P : Program} {ops : Array Oper} {md : Region.Mode} {ro : Cx}
def wpQ (P : Program) (ro : Cx) (ops : Array Oper) (ms hs cs : List Nat) (C : World → Prop) (Q : Exit → Act → World → Prop) (K : Act → World → Prop) : List Nat → Act → World → Prop
  | [] => K
  | k :: ord => bif ms.contains k then fun a w => wpOpIn (Wd ro) 0 P ops Q k (fun a w => (cs.contains k = true → C w) ∧ wpQ P ro ops ms hs cs C Q K ord a w) a w
    else bif hs.contains k then fun a w => C w ∧ ∃ oi v, ops[k]? = some oi ∧ YV P ops C oi v a ∧ wpQ P ro ops ms hs cs C Q K ord (a.put oi.dst v) w
    else fun a w => ∃ oi v, ops[k]? = some oi ∧ YV P ops (· = w) oi v a ∧ wpQ P ro ops ms hs cs C Q K ord (a.put oi.dst v) w
def planE (E : Array Bool → Bool) (md : Region.Mode) (ops : Array Oper) (ms hs cs : List Nat) : List Nat → Array Bool → Bool
  | [], listed => E listed
  | k :: ord, listed => (Region.ready md ops listed).contains k && (bif ms.contains k then decide (Region.ready md ops listed = [k]) else Region.free md ops listed k && anchB md ops (ms.filter fun m => !listed.getD m false && !(hs.contains k && cs.contains m)) k) && planE E md ops ms hs cs ord (listed.setIfInBounds k true)
theorem wpOpIn_toQ {K K1 : Act → World → Prop} {X : Ext} {k : Nat} {L : Act → World → Prop} {a : Act} {w : World} (h : wpOpIn (Wd ro) 0 P ops (toQ K1 X) k L a w) : wpOpIn (Wd ro) 0 P ops (toQ K X) k L a w := by
  unfold wpOpIn at h ⊢
  split
  · rename_i e; simp only [e] at h; exact h
  · rename_i o e
    simp only [e] at h
    split
    · rename_i hw
      rw [if_pos hw] at h
      refine ⟨h.1, ?_⟩
      have h3 := h.2
      unfold Oper.uponIn at h3 ⊢
      generalize (o.semAt (Wd ro).round a.eval).run P w = r at h3 ⊢
      cases r with
      | ok n w' =>
        cases n <;> first | exact h3 | (obtain ⟨q1, q2⟩ := h3; exact ⟨q1, q2.mono fun e w'' he => by cases e <;> exact he⟩)
      | halt x w' => cases x <;> exact h3
    · rename_i hw; rw [if_neg hw] at h; exact h
theorem wpV_q {ms hs cs : List Nat} {C : World → Prop} {X : Ext} {K K1 : Act → World → Prop} : ∀ (ord : List Nat) (a : Act) (w : World), wpV P ro ops ms hs cs C X K1 ord a w → wpQ P ro ops ms hs cs C (toQ K X) K1 ord a w
  | [], _, _, h => h
  | k :: ord, a, w, h => by
    simp only [wpV, wpQ] at h ⊢
    cases hm : ms.contains k with
    | true =>
      rw [hm] at h
      simp only [cond_true] at h ⊢
      exact wpOpIn_mono (fun a w ⟨g1, g2⟩ => ⟨g1, wpV_q ord a w g2⟩) (wpOpIn_toQ h)
    | false =>
      rw [hm] at h
      simp only [cond_false] at h ⊢
      cases hh : hs.contains k with
      | true =>
        rw [hh] at h
        simp only [cond_true] at h ⊢
        obtain ⟨hC, oi, v, h1, h2, h3⟩ := h
        exact ⟨hC, oi, v, h1, h2, wpV_q ord _ w h3⟩
      | false =>
        rw [hh] at h
        simp only [cond_false] at h ⊢
        obtain ⟨oi, v, h1, h2, h3⟩ := h
        exact ⟨oi, v, h1, h2, wpV_q ord _ w h3⟩
theorem wpE_run {ms hs cs : List Nat} {C : World → Prop} {K K1 : Act → World → Prop} {X : Ext} {E : Array Bool → Bool} {g : Nat} (hnd : ndefs ops = true) (hsel : Region.noSelect ops = true) (hlow : lowB md ops = true) (hX : ∀ c a w d v, X.pan c (a.put d v) w → X.pan c a w)
    (hK : ∀ listed a w, ListInv md ops listed → E listed = true → K1 a w → wpAnyV P ro md ops (fun i => ms.contains i) (fun i => cs.contains i) C (toQ K X) g listed a w) : ∀ (ord : List Nat) (listed : Array Bool) (a : Act) (w : World), ListInv md ops listed → planE E md ops ms hs cs ord listed = true → wpQ P ro ops ms hs cs C (toQ K X) K1 ord a w →
    wpAnyV P ro md ops (fun i => ms.contains i) (fun i => cs.contains i) C (toQ K X) (ord.length + g) listed a w
  | [], listed, a, w, inv, hp, h => by rw [List.length_nil, Nat.zero_add]; exact hK listed a w inv hp h
  | k :: ord, listed, a, w, inv, hp, h => by
    rw [List.length_cons, Nat.add_right_comm]
    simp only [planE, Bool.and_eq_true] at hp
    obtain ⟨⟨hr, hc⟩, hp'⟩ := hp
    have hr' : k ∈ Region.ready md ops listed := by simpa using hr
    simp only [wpQ] at h
    cases hm : ms.contains k with
    | true =>
      rw [hm] at hc h
      simp only [cond_true, decide_eq_true_eq] at hc h
      refine ⟨fun h0 => (by rw [h0] at hr'; cases hr'), fun i hi => ?_⟩
      rw [hc] at hi
      obtain rfl : i = k := by simpa using hi
      exact ⟨fun _ => wpOpIn_mono (fun a' w' ⟨g1, g2⟩ => ⟨g1, wpE_run hnd hsel hlow hX hK ord _ a' w' (inv.set hr') hp' g2⟩) h, fun hf => (by simp only [hm] at hf; cases hf)⟩
    | false =>
      rw [hm] at hc h
      simp only [cond_false, Bool.and_eq_true] at hc h
      obtain ⟨hf, ha⟩ := hc
      have hno : ∀ (Ci : World → Prop), (hs.contains k = true → Ci = C) → ∀ listed', ListInv md ops listed' → (∀ t, listed.getD t false = true → listed'.getD t false = true) → listed'.getD k true = false → ∀ j ∈ Region.ready md ops listed', ms.contains j = true → Ci = C ∧ cs.contains j = true := fun Ci hCi listed' inv' hb' hun' j hj hmj => by
        by_cases hx : hs.contains k = true ∧ cs.contains j = true
        · exact ⟨hCi hx.1, hx.2⟩
        · exfalso
          cases hlj : listed.getD j false with
          | true =>
            have := (mem_ready.1 hj).1
            have h5 := hb' j hlj
            rw [getD_both this] at h5; cases h5
          | false =>
            refine absurd hj (anchB_spec ha hlow inv' hun' (fun m hmm e => by
              subst e
              rw [List.contains_iff_mem.2 (List.mem_filter.1 hmm).1] at hm; cases hm) j (List.mem_filter.2 ⟨List.contains_iff_mem.1 hmj, ?_⟩))
            rw [hlj]
            simp only [Bool.not_false, Bool.true_and, Bool.not_eq_true']
            cases h1 : hs.contains k with
            | false => rfl
            | true =>
              cases h2 : cs.contains j with
              | false => rfl
              | true => exact absurd ⟨h1, h2⟩ hx
      cases hh : hs.contains k with
      | true =>
        rw [hh] at h
        simp only [cond_true] at h
        obtain ⟨hC, oi, v, h1, h2, h3⟩ := h
        exact wpAnyV_first (Ci := C) hnd hsel hX h1 hm listed (hno C fun _ => rfl) _ _ _ _ inv (fun _ h => h) (Region.free_spec h1 hf) hr' hC h2 (wpE_run hnd hsel hlow hX hK ord _ _ _ (inv.set hr') hp' h3)
      | false =>
        rw [hh] at h
        simp only [cond_false] at h
        obtain ⟨oi, v, h1, h2, h3⟩ := h
        exact wpAnyV_first (Ci := (· = w)) hnd hsel hX h1 hm listed (hno _ fun h => (by rw [hh] at h; cases h)) _ _ _ _ inv (fun _ h => h) (Region.free_spec h1 hf) hr' rfl h2 (wpE_run hnd hsel hlow hX hK ord _ _ _ (inv.set hr') hp' h3)
/-- Orders: a row of operations; or a row, and then either of two marks first. -/
inductive VT where
  | fin (ord : List Nat)
  | br (ord : List Nat) (k1 : Nat) (t1 : VT) (k2 : Nat) (t2 : VT)
def VT.size : VT → Nat
  | .fin ord => ord.length
  | .br ord _ t1 _ _ => ord.length + (t1.size + 1)
def planT (md : Region.Mode) (ops : Array Oper) (ms hs cs : List Nat) : VT → Array Bool → Bool
  | .fin ord, listed => planE (fun l => (Region.ready md ops l).isEmpty) md ops ms hs cs ord listed
  | .br ord k1 t1 k2 t2, listed => Nat.beq t1.size t2.size && ms.contains k1 && ms.contains k2 && planE (fun l => decide (Region.ready md ops l = [k1, k2]) && planT md ops ms hs cs t1 (l.setIfInBounds k1 true) && planT md ops ms hs cs t2 (l.setIfInBounds k2 true)) md ops ms hs cs ord listed
def wpT (P : Program) (ro : Cx) (ops : Array Oper) (ms hs cs : List Nat) (C : World → Prop) (X : Ext) (K : Act → World → Prop) : VT → Act → World → Prop
  | .fin ord => wpV P ro ops ms hs cs C X K ord
  | .br ord k1 t1 k2 t2 => wpV P ro ops ms hs cs C X (fun a w => wpOpIn (Wd ro) 0 P ops (toQ K X) k1 (fun a w => (cs.contains k1 = true → C w) ∧ wpT P ro ops ms hs cs C X K t1 a w) a w ∧ wpOpIn (Wd ro) 0 P ops (toQ K X) k2 (fun a w => (cs.contains k2 = true → C w) ∧ wpT P ro ops ms hs cs C X K t2 a w) a w) ord
theorem wpT_run {ms hs cs : List Nat} {C : World → Prop} {K : Act → World → Prop} {X : Ext} (hnd : ndefs ops = true) (hsel : Region.noSelect ops = true) (hlow : lowB md ops = true) (hX : ∀ c a w d v, X.pan c (a.put d v) w → X.pan c a w) : ∀ (t : VT) (listed : Array Bool) (a : Act) (w : World), ListInv md ops listed → planT md ops ms hs cs t listed = true → wpT P ro ops ms hs cs C X K t a w →
    wpAnyV P ro md ops (fun i => ms.contains i) (fun i => cs.contains i) C (toQ K X) t.size listed a w
  | .fin ord, listed, a, w, inv, hp, h => wpE_run (g := 0) hnd hsel hlow hX (fun l a w _ he hk => ⟨by simpa using he, hk⟩) ord listed a w inv hp (wpV_q ord a w h)
  | .br ord k1 t1 k2 t2, listed, a, w, inv, hp, h => by
    simp only [planT, Bool.and_eq_true] at hp
    obtain ⟨⟨⟨hsz, hm1⟩, hm2⟩, hp⟩ := hp
    have hsz := Nat.eq_of_beq_eq_true hsz
    refine wpE_run (g := t1.size + 1) hnd hsel hlow hX (fun l a w inv' he hk => ?_) ord listed a w inv hp (wpV_q ord a w h)
    simp only [Bool.and_eq_true, decide_eq_true_eq] at he
    obtain ⟨⟨hr, hp1⟩, hp2⟩ := he
    refine ⟨fun h0 => (by rw [h0] at hr; cases hr), fun i hi => ?_⟩
    have hi0 := hi
    rw [hr] at hi
    simp only [List.mem_cons, List.not_mem_nil, or_false] at hi
    rcases hi with rfl | rfl
    · exact ⟨fun _ => wpOpIn_mono (fun a' w' ⟨g1, g2⟩ => ⟨g1, wpT_run hnd hsel hlow hX t1 _ a' w' (inv'.set hi0) hp1 g2⟩) hk.1, fun hf => (by simp only [hm1] at hf; cases hf)⟩
    · exact ⟨fun _ => wpOpIn_mono (fun a' w' ⟨g1, g2⟩ => ⟨g1, by rw [hsz]; exact wpT_run hnd hsel hlow hX t2 _ a' w' (inv'.set hi0) hp2 g2⟩) hk.2, fun hf => (by simp only [hm2] at hf; cases hf)⟩
end
section
variable {B : World} {n : Nat} {D : List Deferred} {σ : Env} {H : List HP} {P : Program} {ro : Cx} {K : Act → World → Prop} {X : Ext} {ops : Array Oper} {ms hs cs : List Nat} {C : World → Prop}
/-- A region that draws, whose marks come in more orders than one: what is known behind it is told. -/
theorem g_drawT {id : Nat} {l : List Oper} (t : VT) (ms hs cs : List Nat) (H0 : List HP) (ks : List Nat) {G : Type} (σx : G → Env) (Hx : G → List HP) (hm : P.follows .mixedOrders = true) [hX : PanI X] (hB : (ndefs l.toArray && Region.noSelect l.toArray && lowB .any l.toArray && Nat.beq t.size l.length && planT .any l.toArray ms hs cs t (Array.replicate l.toArray.size false)) = true)
    (h : GO B n D σ H (wpT P ro l.toArray ms hs cs (Holds B H0) X (fun a w => ∃ g, St B n D (σx g ++ keep σ ks) (Hx g) a w) t))
    (k : ∀ g, GO B n D (σx g ++ keep σ ks) (Hx g) K) : GO B n D σ H (cw ro P (.region id l.toArray true) K X) := by
  intro a w s
  simp only [Bool.and_eq_true] at hB
  obtain ⟨⟨⟨⟨hnd, hsel⟩, hlow⟩, hlen⟩, hp⟩ := hB
  have s' : St B n D σ H a { w with drawn := w.drawn + 1 } := ⟨s.toStA, s.holds.drew _⟩
  have := (wpT_run (ro := ro) hnd hsel hlow hX.put t _ a _ ⟨by simp, fun j oj _ hl => (by rw [getD_replicate_false] at hl; cases hl)⟩ hp (h a _ s')).any hnd
  rw [Nat.eq_of_beq_eq_true hlen] at this
  exact cw_mono (cw_of <| wpIn_region_any hm (by simpa using this)) fun e a w q => by
    cases e with
    | normal => obtain ⟨g, hg⟩ := q; exact k g a w hg
    | ret => exact q
    | panic c => exact q
    | exit i => exact q
    | goto l => exact q
    | outgrown => exact q
theorem t_fin {ord : List Nat} (h : GO B n D σ H (wpV P ro ops ms hs cs C X K ord)) : GO B n D σ H (wpT P ro ops ms hs cs C X K (.fin ord)) := h
theorem t_br {ord : List Nat} {k1 k2 : Nat} {t1 t2 : VT} (h : GO B n D σ H (wpV P ro ops ms hs cs C X (fun a w => wpOpIn (Wd ro) 0 P ops (toQ K X) k1 (fun a w => (cs.contains k1 = true → C w) ∧ wpT P ro ops ms hs cs C X K t1 a w) a w ∧ wpOpIn (Wd ro) 0 P ops (toQ K X) k2 (fun a w => (cs.contains k2 = true → C w) ∧ wpT P ro ops ms hs cs C X K t2 a w) a w) ord)) : GO B n D σ H (wpT P ro ops ms hs cs C X K (.br ord k1 t1 k2 t2)) := h
theorem t_two {K1 L1 L2 : Act → World → Prop} {k1 k2 : Nat} {o1 o2 : Oper} (h1 : ops[k1]? = some o1) (h2 : ops[k2]? = some o2) (g1 : GO B n D σ H (lw ro P ops L1 X [o1])) (g2 : GO B n D σ H (lw ro P ops L2 X [o2])) : GO B n D σ H (fun a w => wpOpIn (Wd ro) 0 P ops (toQ K1 X) k1 L1 a w ∧ wpOpIn (Wd ro) 0 P ops (toQ K1 X) k2 L2 a w) := fun a w s => by
  refine ⟨wpOpIn_toQ (K1 := L1) ?_, wpOpIn_toQ (K1 := L2) ?_⟩
  · have h := g1 a w s
    unfold wpOpIn; simp only [h1]; exact h
  · have h := g2 a w s
    unfold wpOpIn; simp only [h2]; exact h
theorem t_off {c : Bool} {t : VT} (hc : c = false) (h : GO B n D σ H (wpT P ro ops ms hs cs C X K t)) : GO B n D σ H (fun a w => (c = true → C w) ∧ wpT P ro ops ms hs cs C X K t a w) := fun a w s => ⟨fun hf => (by rw [hc] at hf; cases hf), h a w s⟩
theorem t_on {c : Bool} {t : VT} {H0 : List HP} [s0 : SubH H H0] (h : GO B n D σ H (wpT P ro ops ms hs cs (Holds B H0) X K t)) : GO B n D σ H (fun a w => (c = true → Holds B H0 w) ∧ wpT P ro ops ms hs cs (Holds B H0) X K t a w) := fun a w s => ⟨fun _ => s.holds.map s0.sub, h a w s⟩
end
end Go.Proofs.YtbfheafpecgphaaGreat
