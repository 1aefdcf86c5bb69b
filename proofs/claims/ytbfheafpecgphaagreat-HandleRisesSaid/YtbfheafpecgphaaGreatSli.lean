/- A small logic of owned blocks: regions that draw, walked in an order of one's own: values may be taken ahead, operations that change the world come alone. Conditions: none. -/
import Derived.Test.YtbfheafpecgphaaGreatSlh
set_option linter.unusedSimpArgs false
set_option linter.unusedVariables false
set_option linter.unnecessarySimpa false
set_option linter.unusedSectionVars false
namespace Go.Proofs.YtbfheafpecgphaaGreat
open Go
section
variable {P : Program} {ops : Array Oper} {md : Region.Mode} {ro : Cx}
/-- An operation yields a value, and changes no world of a class. -/
def YV (P : Program) (ops : Array Oper) (C : World → Prop) (o : Oper) (v : Value) (a : Act) : Prop :=
  (Region.wanted o (yielded ops a.tmps) = true ∧ ∀ w, C w → (execOp a.eval o).run P w = .ok (.value v) w) ∨ (Region.wanted o (yielded ops a.tmps) = false ∧ v = undef)
theorem YV.of_same {C : World → Prop} {o : Oper} {v : Value} {a a' : Act} (hy : YV P ops C o v a) (he : execOp a'.eval o = execOp a.eval o)
    (hw : Region.wanted o (yielded ops a'.tmps) = Region.wanted o (yielded ops a.tmps)) : YV P ops C o v a' := by
  unfold YV at *
  rw [he, hw]
  exact hy
theorem YV.op {C : World → Prop} {i : Nat} {o : Oper} {v : Value} {a : Act} {w : World} {K : Act → World → Prop} {Q : Exit → Act → World → Prop} (hnd : ndefs ops = true) (hi : ops[i]? = some o) (hw : C w) (hy : YV P ops C o v a) (h : K (a.put o.dst v) w) : wpOpIn (Wd ro) 0 P ops Q i K a w := by
  unfold wpOpIn
  simp only [hi]
  rcases hy with ⟨h1, h2⟩ | ⟨h1, rfl⟩
  · rw [if_pos h1]
    refine ⟨fun _ _ => trivial, ?_⟩
    rw [semAt_nd (ndefs_get hnd hi), h2 w hw]
    exact h
  · rw [if_neg (by rw [h1]; simp)]
    exact ⟨fun _ _ => trivial, h⟩
/-- Whatever order is picked from here on; mk: the operations that change the world; cc: those behind which the class is asked for. -/
def wpAnyV (P : Program) (ro : Cx) (md : Region.Mode) (ops : Array Oper) (mk cc : Nat → Bool) (C : World → Prop) (Q : Exit → Act → World → Prop) : Nat → Array Bool → Act → World → Prop
  | 0, listed, a, w => Region.ready md ops listed = [] ∧ Q .normal a w
  | f + 1, listed, a, w => (Region.ready md ops listed = [] → Q .normal a w) ∧ ∀ i ∈ Region.ready md ops listed,
      (mk i = true → wpOpIn (Wd ro) 0 P ops Q i (fun a w => (cc i = true → C w) ∧ wpAnyV P ro md ops mk cc C Q f (listed.setIfInBounds i true) a w) a w) ∧
      (mk i = false → ∃ oi v, ops[i]? = some oi ∧ YV P ops (· = w) oi v a ∧ wpAnyV P ro md ops mk cc C Q f (listed.setIfInBounds i true) (a.put oi.dst v) w)
theorem wpAnyV.any {mk cc : Nat → Bool} {C : World → Prop} {Q : Exit → Act → World → Prop} (hnd : ndefs ops = true) : ∀ {f : Nat} {listed : Array Bool} {a : Act} {w : World}, wpAnyV P ro md ops mk cc C Q f listed a w → wpAnyIn (Wd ro) 0 P md ops Q f listed a w
  | 0, _, _, _, h => h
  | f + 1, listed, a, w, h => ⟨h.1, fun i hi => by
    cases hm : mk i with
    | true => exact wpOpIn_mono (fun _ _ h => wpAnyV.any hnd h.2) ((h.2 i hi).1 hm)
    | false =>
      obtain ⟨oi, v, h1, h2, h3⟩ := (h.2 i hi).2 hm
      exact h2.op (C := (· = w)) hnd h1 rfl (wpAnyV.any hnd h3)⟩
theorem wpOpIn_put {C : World → Prop} {j : Nat} {oi oj : Oper} {v : Value} {K0 : Act → World → Prop} {X : Ext} {K : Act → World → Prop} {a : Act} {w : World} (hnd : ndefs ops = true) (hj : ops[j]? = some oj) (hap : oi.apart ops oj = true)
    (hsi : ∀ cs b, oi.op ≠ .select cs b) (hsj : ∀ cs b, oj.op ≠ .select cs b) (hX : ∀ c a w d v, X.pan c (a.put d v) w → X.pan c a w) (hy : YV P ops C oi v a)
    (h : wpOpIn (Wd ro) 0 P ops (toQ K0 X) j K (a.put oi.dst v) w) : wpOpIn (Wd ro) 0 P ops (toQ K0 X) j (fun a' w' => YV P ops C oi v a' ∧ K (a'.put oi.dst v) w') a w := by
  obtain ⟨h1, h2, h3⟩ := Oper.apart_spec hap
  have keep : ∀ (a : Act), YV P ops C oi v a → ∀ u, YV P ops C oi v (a.put oj.dst u) := fun a hy u => hy.of_same (execOp_put oi hsi a oj.dst u h3) (wanted_put oi a oj.dst u h3)
  unfold wpOpIn at *
  simp only [hj] at h ⊢
  rw [wanted_put oj a oi.dst v h1] at h
  split
  · rename_i hw
    rw [if_pos hw] at h
    obtain ⟨-, h⟩ := h
    refine ⟨fun _ _ => trivial, ?_⟩
    rw [semAt_nd (ndefs_get hnd hj)] at h ⊢
    rw [execOp_put oj hsj a oi.dst v h1] at h
    generalize (execOp a.eval oj).run P w = r at h ⊢
    cases r with
    | ok n w' =>
      cases n with
      | value u => exact ⟨keep a hy u, by rw [← Act.put_comm a v u h2]; exact h⟩
      | skip => exact ⟨keep a hy undef, by rw [← Act.put_comm a v undef h2]; exact h⟩
      | enter f args =>
        obtain ⟨g1, g2⟩ := h
        refine ⟨g1, g2.mono fun e w'' q => ?_⟩
        cases e with
        | returned u => exact ⟨keep a hy u, by rw [← Act.put_comm a v u h2]; exact q⟩
        | panicked c => exact hX c a w'' oi.dst v q
        | outgrown => exact q
      | row r args =>
        obtain ⟨g1, g2⟩ := h
        exact ⟨g1, g2.mono fun u w'' q => ⟨keep a hy u, by rw [← Act.put_comm a v u h2]; exact q⟩⟩
      | round l f tm as bo =>
        obtain ⟨g1, g2⟩ := h
        refine ⟨g1, g2.mono fun e w'' q => ?_⟩
        cases e with
        | returned u => exact ⟨keep a hy u, by rw [← Act.put_comm a v u h2]; exact q⟩
        | panicked c => exact hX c a w'' oi.dst v q
        | outgrown => exact q
      | defer d =>
        have e1 := Act.put_comm { a with defers := d :: a.defers } v undef h2
        have e2 : ({ a.put oi.dst v with defers := d :: (a.put oi.dst v).defers } : Act) = ({ a with defers := d :: a.defers } : Act).put oi.dst v := by cases oi.dst <;> rfl
        exact ⟨keep { a with defers := d :: a.defers } (hy.of_same rfl rfl) undef, by rw [← e1, ← e2]; exact h⟩
      | _ => exact h
    | halt x w' =>
      cases x with
      | panic u => exact hX _ a w' oi.dst v h
      | _ => exact h
  · rename_i hw
    rw [if_neg hw] at h
    exact ⟨fun _ _ => trivial, keep a hy undef, by rw [← Act.put_comm a v undef h2]; exact h.2⟩
/-- What may be done without operation i: nothing else hangs on less; no operation that changes the world is in it. -/
def anchB (md : Region.Mode) (ops : Array Oper) (ms : List Nat) (i : Nat) : Bool :=
  let can := (List.range ops.size).foldl (fun (c : List Bool) t => (match (ops[t]? : Option Oper) with
    | some o => !(Nat.beq t i) && o.after.all (fun e => !Region.binds md e || c.getD e.on false)
    | none => false) |> fun b => c ++ [b]) []
  ms.all (fun m => !can.getD m false) &&
  (List.range ops.size).all fun t => match (ops[t]? : Option Oper) with
    | some o => Nat.beq t i || can.getD t false || o.after.any (fun e => Region.binds md e && !can.getD e.on false)
    | none => true
/-- What binds lies ahead. -/
def lowB (md : Region.Mode) (ops : Array Oper) : Bool := (List.range ops.size).all fun t => match (ops[t]? : Option Oper) with
    | some o => o.after.all fun e => !Region.binds md e || Nat.blt e.on t
    | none => true
structure ListInv (md : Region.Mode) (ops : Array Oper) (listed : Array Bool) : Prop where
  size : listed.size = ops.size
  closed : ∀ j oj, ops[j]? = some oj → listed.getD j false = true → ∀ e ∈ oj.after, Region.binds md e = true → listed.getD e.on false = true
theorem ListInv.set {listed : Array Bool} {i : Nat} (inv : ListInv md ops listed) (hi : i ∈ Region.ready md ops listed) : ListInv md ops (listed.setIfInBounds i true) := by
  obtain ⟨_, oi, hoi, hall⟩ := mem_ready.1 hi
  refine ⟨by simp [inv.size], fun j oj hj hl e he hb => ?_⟩
  by_cases hij : i = j
  · subst hij
    have : oj = oi := Option.some.inj (hj.symm.trans hoi)
    subst this
    exact getD_set_true (hall e he hb)
  · rw [getD_set_ne false hij] at hl
    exact getD_set_true (inv.closed j oj hj hl e he hb)
theorem anchB_spec {ms : List Nat} {i : Nat} (h : anchB md ops ms i = true) (hlow : lowB md ops = true) {listed : Array Bool} (inv : ListInv md ops listed) (hun : listed.getD i true = false) (hmi : ∀ m ∈ ms, m ≠ i) : ∀ m ∈ ms, m ∉ Region.ready md ops listed := by
  unfold anchB at h
  generalize (List.range ops.size).foldl _ [] = can at h
  simp only [Bool.and_eq_true] at h
  obtain ⟨h1, h2⟩ := h
  have hl : ∀ t o, ops[t]? = some o → ∀ e ∈ o.after, Region.binds md e = true → e.on < t := fun t o ho e he hb => by
    have := List.all_eq_true.1 hlow t (List.mem_range.2 (Array.getElem?_eq_some_iff.1 ho).1)
    simp only [ho] at this
    have := Array.all_eq_true'.1 this e he
    simpa [hb, Nat.blt_eq] using this
  have step : ∀ t o, ops[t]? = some o → t ≠ i → (∀ e ∈ o.after, Region.binds md e = true → can.getD e.on false = true) → can.getD t false = true := fun t o ho hti hd => by
    have := List.all_eq_true.1 h2 t (List.mem_range.2 (Array.getElem?_eq_some_iff.1 ho).1)
    simp only [ho, Bool.or_eq_true] at this
    rcases this with (h3 | h3) | h3
    · exact absurd (Nat.eq_of_beq_eq_true h3) hti
    · exact h3
    · obtain ⟨e, he, h4⟩ := Array.any_eq_true'.1 h3
      simp only [Bool.and_eq_true, Bool.not_eq_true'] at h4
      rw [hd e he h4.1] at h4; cases h4.2
  have key : ∀ t, listed.getD t false = true → can.getD t false = true := fun t => by
    induction t using Nat.strongRecOn with
    | _ t ih =>
      intro ht
      have htl : t < ops.size := by
        rw [← inv.size]
        rcases Nat.lt_or_ge t listed.size with h | h
        · exact h
        · simp [h] at ht
      have ho := Array.getElem?_eq_getElem htl
      refine step t _ ho (fun e => ?_) fun e he hb => ih e.on (hl t _ ho e he hb) (inv.closed t _ ho ht e he hb)
      subst e
      rw [getD_both hun] at ht; cases ht
  intro m hm hr
  obtain ⟨_, o, ho, hall⟩ := mem_ready.1 hr
  have h3 := List.all_eq_true.1 h1 m hm
  by_cases e : m = i
  · subst e
    exact hmi m hm rfl
  · rw [step m o ho e fun e he hb => key e.on (hall e he hb)] at h3; cases h3
theorem wpAnyV_first {mk cc : Nat → Bool} {C Ci : World → Prop} {K : Act → World → Prop} {X : Ext} {i : Nat} {oi : Oper} {v : Value} (hnd : ndefs ops = true) (hsel : Region.noSelect ops = true) (hX : ∀ c a w d v, X.pan c (a.put d v) w → X.pan c a w) (hi : ops[i]? = some oi) (hmi : mk i = false)
    (base : Array Bool) (hCi : ∀ listed, ListInv md ops listed → (∀ t, base.getD t false = true → listed.getD t false = true) → listed.getD i true = false → ∀ j ∈ Region.ready md ops listed, mk j = true → Ci = C ∧ cc j = true) :
    ∀ (f : Nat) (listed : Array Bool) (a : Act) (w : World), ListInv md ops listed → (∀ t, base.getD t false = true → listed.getD t false = true) →
      (∀ j oj, ops[j]? = some oj → j ≠ i → listed.getD j true = false → (∀ e ∈ oj.after, Region.binds md e = true → e.on ≠ i) → oi.apart ops oj = true) →
      i ∈ Region.ready md ops listed → Ci w → YV P ops Ci oi v a → wpAnyV P ro md ops mk cc C (toQ K X) f (listed.setIfInBounds i true) (a.put oi.dst v) w → wpAnyV P ro md ops mk cc C (toQ K X) (f + 1) listed a w := by
  have hs := Region.noSelect_spec hsel
  intro f
  induction f with
  | zero =>
    intro listed a w inv hbase hfree hr hw hy H
    refine ⟨fun h => (by rw [h] at hr; cases hr), fun j hj => ?_⟩
    by_cases hji : j = i
    · subst hji
      refine ⟨fun h => (by rw [hmi] at h; cases h), fun _ => ⟨oi, v, hi, ?_, H⟩⟩
      rcases hy with ⟨h1, h2⟩ | h1
      · exact .inl ⟨h1, fun w' e => (by subst e; exact h2 _ hw)⟩
      · exact .inr h1
    · have := ready_mono hj hji
      rw [H.1] at this; cases this
  | succ f ih =>
    intro listed a w inv hbase hfree hr hw hy H
    have hun := (mem_ready.1 hr).1
    refine ⟨fun h => (by rw [h] at hr; cases hr), fun j hj => ?_⟩
    by_cases hji : j = i
    · subst hji
      refine ⟨fun h => (by rw [hmi] at h; cases h), fun _ => ⟨oi, v, hi, ?_, H⟩⟩
      rcases hy with ⟨h1, h2⟩ | h1
      · exact .inl ⟨h1, fun w' e => (by subst e; exact h2 _ hw)⟩
      · exact .inr h1
    · obtain ⟨hjun, oj, hoj, hall⟩ := mem_ready.1 hj
      have hnot : ∀ e ∈ oj.after, Region.binds md e = true → e.on ≠ i := fun e he hb heq => by
        have h1 := hall e he hb
        rw [heq, getD_both hun] at h1
        cases h1
      have hap := hfree j oj hoj hji hjun hnot
      have hfree' : ∀ k ok, ops[k]? = some ok → k ≠ i → (listed.setIfInBounds j true).getD k true = false →
          (∀ e ∈ ok.after, Region.binds md e = true → e.on ≠ i) → oi.apart ops ok = true := fun k ok hk hki hun hno => by
        refine hfree k ok hk hki ?_ hno
        by_cases hjk : j = k
        · subst hjk; exact hjun
        · rw [getD_set_ne true hjk] at hun; exact hun
      have Hj := H.2 j (ready_mono hj hji)
      rw [Array.setIfInBounds_comm _ _ (Ne.symm hji)] at Hj
      refine ⟨fun hm => ?_, fun hm => ?_⟩
      · obtain ⟨rfl, hcc⟩ := hCi listed inv hbase hun j hj hm
        refine wpOpIn_mono (fun a' w' ⟨g1, g2, g3⟩ => ⟨g2, ih _ a' w' (inv.set hj) (fun t ht => getD_set_true (hbase t ht)) hfree' (ready_mono hr (Ne.symm hji)) (g2 hcc) g1 g3⟩) (wpOpIn_put hnd hoj hap (fun cs b => hs i oi cs b hi) (fun cs b => hs j oj cs b hoj) hX hy (Hj.1 hm))
      · obtain ⟨oj', u, hoj', yu, hK⟩ := Hj.2 hm
        obtain rfl : oj = oj' := by rw [hoj] at hoj'; exact Option.some.inj hoj'
        obtain ⟨h1, h2, h3⟩ := Oper.apart_spec hap
        refine ⟨oj, u, hoj, yu.of_same (execOp_put oj (fun cs b => hs j oj cs b hoj) a oi.dst v h1).symm (wanted_put oj a oi.dst v h1).symm, ?_⟩
        rw [Act.put_comm a v u h2] at hK
        exact ih _ _ w (inv.set hj) (fun t ht => getD_set_true (hbase t ht)) hfree' (ready_mono hr (Ne.symm hji)) hw (hy.of_same (execOp_put oi (fun cs b => hs i oi cs b hi) a oj.dst u h3) (wanted_put oi a oj.dst u h3)) hK
/-- A walk in an order of one's own. -/
def wpV (P : Program) (ro : Cx) (ops : Array Oper) (ms hs cs : List Nat) (C : World → Prop) (X : Ext) (K : Act → World → Prop) : List Nat → Act → World → Prop
  | [] => K
  | k :: ord => bif ms.contains k then fun a w => wpOpIn (Wd ro) 0 P ops (toQ K X) k (fun a w => (cs.contains k = true → C w) ∧ wpV P ro ops ms hs cs C X K ord a w) a w
    else bif hs.contains k then fun a w => C w ∧ ∃ oi v, ops[k]? = some oi ∧ YV P ops C oi v a ∧ wpV P ro ops ms hs cs C X K ord (a.put oi.dst v) w
    else fun a w => ∃ oi v, ops[k]? = some oi ∧ YV P ops (· = w) oi v a ∧ wpV P ro ops ms hs cs C X K ord (a.put oi.dst v) w
def planV (md : Region.Mode) (ops : Array Oper) (ms hs cs : List Nat) : List Nat → Array Bool → Bool
  | [], listed => (Region.ready md ops listed).isEmpty
  | k :: ord, listed => (Region.ready md ops listed).contains k && (bif ms.contains k then decide (Region.ready md ops listed = [k]) else Region.free md ops listed k && anchB md ops (ms.filter fun m => !listed.getD m false && !(hs.contains k && cs.contains m)) k) && planV md ops ms hs cs ord (listed.setIfInBounds k true)
theorem wpV_run {ms hs cs : List Nat} {C : World → Prop} {K : Act → World → Prop} {X : Ext} (hnd : ndefs ops = true) (hsel : Region.noSelect ops = true) (hlow : lowB md ops = true) (hX : ∀ c a w d v, X.pan c (a.put d v) w → X.pan c a w) : ∀ (ord : List Nat) (listed : Array Bool) (a : Act) (w : World), ListInv md ops listed → planV md ops ms hs cs ord listed = true → wpV P ro ops ms hs cs C X K ord a w →
    wpAnyV P ro md ops (fun i => ms.contains i) (fun i => cs.contains i) C (toQ K X) ord.length listed a w
  | [], listed, a, w, _, hp, h => ⟨by simpa [planV] using hp, h⟩
  | k :: ord, listed, a, w, inv, hp, h => by
    simp only [planV, Bool.and_eq_true] at hp
    obtain ⟨⟨hr, hc⟩, hp'⟩ := hp
    have hr' : k ∈ Region.ready md ops listed := by simpa using hr
    simp only [wpV] at h
    cases hm : ms.contains k with
    | true =>
      rw [hm] at hc h
      simp only [cond_true, decide_eq_true_eq] at hc h
      refine ⟨fun h0 => (by rw [h0] at hr'; cases hr'), fun i hi => ?_⟩
      rw [hc] at hi
      obtain rfl : i = k := by simpa using hi
      exact ⟨fun _ => wpOpIn_mono (fun a' w' ⟨g1, g2⟩ => ⟨g1, wpV_run hnd hsel hlow hX ord _ a' w' (inv.set hr') hp' g2⟩) h, fun hf => (by simp only [hm] at hf; cases hf)⟩
    | false =>
      rw [hm] at hc h
      simp only [cond_false, Bool.and_eq_true] at hc h
      obtain ⟨hf, ha⟩ := hc
      have hno : ∀ (Ci : World → Prop), (hs.contains k = true → Ci = C) → ∀ listed', ListInv md ops listed' → (∀ t, listed.getD t false = true → listed'.getD t false = true) → listed'.getD k true = false → ∀ j ∈ Region.ready md ops listed', ms.contains j = true → Ci = C ∧ cs.contains j = true := fun Ci hCi listed' inv' hb' hun' j hj hmj => by
        by_cases hx : hs.contains k = true ∧ cs.contains j = true
        · exact ⟨hCi hx.1, hx.2⟩
        · exfalso
          cases hlj : listed.getD j false with
          | true =>
            have := (mem_ready.1 hj).1
            have h5 := hb' j hlj
            rw [getD_both this] at h5; cases h5
          | false =>
            refine absurd hj (anchB_spec ha hlow inv' hun' (fun m hmm e => by
              subst e
              rw [List.contains_iff_mem.2 (List.mem_filter.1 hmm).1] at hm; cases hm) j (List.mem_filter.2 ⟨List.contains_iff_mem.1 hmj, ?_⟩))
            rw [hlj]
            simp only [Bool.not_false, Bool.true_and, Bool.not_eq_true']
            cases h1 : hs.contains k with
            | false => rfl
            | true =>
              cases h2 : cs.contains j with
              | false => rfl
              | true => exact absurd ⟨h1, h2⟩ hx
      cases hh : hs.contains k with
      | true =>
        rw [hh] at h
        simp only [cond_true] at h
        obtain ⟨hC, oi, v, h1, h2, h3⟩ := h
        exact wpAnyV_first (Ci := C) hnd hsel hX h1 hm listed (hno C fun _ => rfl) _ _ _ _ inv (fun _ h => h) (Region.free_spec h1 hf) hr' hC h2 (wpV_run hnd hsel hlow hX ord _ _ _ (inv.set hr') hp' h3)
      | false =>
        rw [hh] at h
        simp only [cond_false] at h
        obtain ⟨oi, v, h1, h2, h3⟩ := h
        exact wpAnyV_first (Ci := (· = w)) hnd hsel hX h1 hm listed (hno _ fun h => (by rw [hh] at h; cases h)) _ _ _ _ inv (fun _ h => h) (Region.free_spec h1 hf) hr' rfl h2 (wpV_run hnd hsel hlow hX ord _ _ _ (inv.set hr') hp' h3)
end
/-- A part of a list. -/
class SubH (H H0 : List HP) : Prop where
  sub : ∀ h, sat H h → sat H0 h
class PullH (H : List HP) (A : HP) (Fr : outParam (List HP)) : Prop where
  get : ∃ i : Nat, H[i]? = some A ∧ Fr = H.eraseIdx i
instance PullH.head {A : HP} {l : List HP} : PullH (A :: l) A l := ⟨0, rfl, rfl⟩
instance PullH.tail {A A' : HP} {l Fr : List HP} [r : PullH l A Fr] : PullH (A' :: l) A (A' :: Fr) := ⟨let ⟨i, h1, h2⟩ := r.get; ⟨i + 1, by simpa using h1, by simp [h2]⟩⟩
instance SubH.nil {H : List HP} : SubH H [] := ⟨fun _ _ => trivial⟩
instance SubH.cons {H Fr L : List HP} {A : HP} [r : PullH H A Fr] [s : SubH Fr L] : SubH H (A :: L) := ⟨fun h hh => by
  obtain ⟨i, h1, h2⟩ := r.get
  subst h2
  exact sat_cons (fun k hk => s.sub k hk) (sat_front i h1 hh)⟩
/-- A panic's going doesn't hang on the slots. -/
class PanI (X : Ext) : Prop where
  put : ∀ c a w d v, X.pan c (a.put d v) w → X.pan c a w
instance PanI.fn {P : Program} {fn : Func} {R : Ending → World → Prop} : PanI (fnX P fn R) := ⟨fun c a w d v h => by cases d <;> exact h⟩
instance PanI.inB {X : Ext} {id : Nat} {K : Act → World → Prop} [h : PanI X] : PanI (X.inB id K) := ⟨h.put⟩
instance PanI.rX {B : World} {l : Nat} {R : Ending → World → Prop} : PanI (rX B l R) := ⟨fun c a w d v h => by cases d <;> exact h⟩
section
variable {B : World} {n : Nat} {D : List Deferred} {σ : Env} {H H0 : List HP} {P : Program} {ro : Cx} {K : Act → World → Prop} {X : Ext} {ops : Array Oper} {ms hs cs : List Nat} {ord : List Nat} {C : World → Prop}
/-- A region that draws, in an order of one's own. -/
theorem g_drawv {id : Nat} {l : List Oper} (ord ms hs cs : List Nat) (H0 : List HP) (hm : P.follows .mixedOrders = true) [hX : PanI X] (hB : (ndefs l.toArray && Region.noSelect l.toArray && lowB .any l.toArray && Nat.beq ord.length l.length && planV .any l.toArray ms hs cs ord (Array.replicate l.toArray.size false)) = true)
    (h : GO B n D σ H (wpV P ro l.toArray ms hs cs (Holds B H0) X K ord)) : GO B n D σ H (cw ro P (.region id l.toArray true) K X) := by
  intro a w s
  simp only [Bool.and_eq_true] at hB
  obtain ⟨⟨⟨⟨hnd, hsel⟩, hlow⟩, hlen⟩, hp⟩ := hB
  refine cw_of <| wpIn_region_any hm ?_
  have s' : St B n D σ H a { w with drawn := w.drawn + 1 } := ⟨s.toStA, s.holds.drew _⟩
  have := (wpV_run (ro := ro) hnd hsel hlow hX.put ord _ a _ ⟨by simp, fun j oj _ hl => (by rw [getD_replicate_false] at hl; cases hl)⟩ hp (h a _ s')).any hnd
  rw [Nat.eq_of_beq_eq_true hlen] at this
  simpa using this
theorem v_val {k : Nat} {o : Oper} {d : Nat} {v : Value} (ho : ops[k]? = some o) (hk : (ms.contains k || hs.contains k) = false) (hd : o.dst = some d) (he : Evs P B σ H o v) (hw : Wants ops σ o.guard true) (hb : Nat.blt d n = true)
    (h : GO B n D ((d, v) :: σ) H (wpV P ro ops ms hs cs C X K ord)) : GO B n D σ H (wpV P ro ops ms hs cs C X K (k :: ord)) := by
  simp only [Bool.or_eq_false_iff] at hk
  intro a w s
  simp only [wpV, hk.1, hk.2, cond_false]
  exact ⟨o, v, ho, .inl ⟨hw.wanted s.env, fun w' e => by subst e; exact he a _ s.env s.holds⟩, by rw [hd]; exact h _ _ ⟨s.toStA.put hb v, s.holds⟩⟩
theorem v_hoist {k : Nat} {o : Oper} {d : Nat} {v : Value} (ho : ops[k]? = some o) (hk : (!ms.contains k && hs.contains k) = true) (hd : o.dst = some d) (he : Evs P B σ H0 o v) (hw : Wants ops σ o.guard true) (hb : Nat.blt d n = true) [s0 : SubH H H0]
    (h : GO B n D ((d, v) :: σ) H (wpV P ro ops ms hs cs (Holds B H0) X K ord)) : GO B n D σ H (wpV P ro ops ms hs cs (Holds B H0) X K (k :: ord)) := by
  simp only [Bool.and_eq_true, Bool.not_eq_true'] at hk
  intro a w s
  simp only [wpV, hk.1, hk.2, cond_false, cond_true]
  exact ⟨s.holds.map s0.sub, o, v, ho, .inl ⟨hw.wanted s.env, fun w' hw' => he a w' s.env hw'⟩, by rw [hd]; exact h _ _ ⟨s.toStA.put hb v, s.holds⟩⟩
theorem v_skip {k : Nat} {o : Oper} {d : Nat} (ho : ops[k]? = some o) (hk : (ms.contains k || hs.contains k) = false) (hd : o.dst = some d) (hw : Wants ops σ o.guard false) (hb : Nat.blt d n = true)
    (h : GO B n D ((d, undef) :: σ) H (wpV P ro ops ms hs cs C X K ord)) : GO B n D σ H (wpV P ro ops ms hs cs C X K (k :: ord)) := by
  simp only [Bool.or_eq_false_iff] at hk
  intro a w s
  simp only [wpV, hk.1, hk.2, cond_false]
  have hf := hw.wanted s.env
  exact ⟨o, undef, ho, .inr ⟨hf, rfl⟩, by rw [hd]; exact h _ _ ⟨s.toStA.put hb undef, s.holds⟩⟩
theorem v_skiph {k : Nat} {o : Oper} {d : Nat} (ho : ops[k]? = some o) (hk : (!ms.contains k && hs.contains k) = true) (hd : o.dst = some d) (hw : Wants ops σ o.guard false) (hb : Nat.blt d n = true) [s0 : SubH H H0]
    (h : GO B n D ((d, undef) :: σ) H (wpV P ro ops ms hs cs (Holds B H0) X K ord)) : GO B n D σ H (wpV P ro ops ms hs cs (Holds B H0) X K (k :: ord)) := by
  simp only [Bool.and_eq_true, Bool.not_eq_true'] at hk
  intro a w s
  simp only [wpV, hk.1, hk.2, cond_false, cond_true]
  exact ⟨s.holds.map s0.sub, o, undef, ho, .inr ⟨hw.wanted s.env, rfl⟩, by rw [hd]; exact h _ _ ⟨s.toStA.put hb undef, s.holds⟩⟩
theorem v_skipm {k : Nat} {o : Oper} {d : Nat} (ho : ops[k]? = some o) (hk : (ms.contains k && !cs.contains k) = true) (hd : o.dst = some d) (hw : Wants ops σ o.guard false) (hb : Nat.blt d n = true)
    (h : GO B n D ((d, undef) :: σ) H (wpV P ro ops ms hs cs C X K ord)) : GO B n D σ H (wpV P ro ops ms hs cs C X K (k :: ord)) := by
  simp only [Bool.and_eq_true, Bool.not_eq_true'] at hk
  intro a w s
  simp only [wpV, hk.1, cond_true]
  unfold wpOpIn
  simp only [ho]
  rw [if_neg (by rw [hw.wanted s.env]; simp)]
  exact ⟨fun _ _ => trivial, fun hf => (by rw [hk.2] at hf; cases hf), by rw [hd]; exact h _ _ ⟨s.toStA.put hb undef, s.holds⟩⟩
theorem v_skipc {k : Nat} {o : Oper} {d : Nat} (ho : ops[k]? = some o) (hk : ms.contains k = true) (hd : o.dst = some d) (hw : Wants ops σ o.guard false) (hb : Nat.blt d n = true) [s0 : SubH H H0]
    (h : GO B n D ((d, undef) :: σ) H (wpV P ro ops ms hs cs (Holds B H0) X K ord)) : GO B n D σ H (wpV P ro ops ms hs cs (Holds B H0) X K (k :: ord)) := by
  intro a w s
  simp only [wpV, hk, cond_true]
  unfold wpOpIn
  simp only [ho]
  rw [if_neg (by rw [hw.wanted s.env]; simp)]
  exact ⟨fun _ _ => trivial, fun _ => s.holds.map s0.sub, by rw [hd]; exact h _ _ ⟨s.toStA.put hb undef, s.holds⟩⟩
theorem v_mark {k : Nat} {o : Oper} (ho : ops[k]? = some o) (hk : ms.contains k = true)
    (h : GO B n D σ H (lw ro P ops (fun a w => (cs.contains k = true → C w) ∧ wpV P ro ops ms hs cs C X K ord a w) X [o])) : GO B n D σ H (wpV P ro ops ms hs cs C X K (k :: ord)) := by
  intro a w s
  simp only [wpV, hk, cond_true]
  have h1 := h a w s
  unfold wpOpIn
  simp only [ho]
  exact h1
theorem v_on {c : Bool} [s0 : SubH H H0] (h : GO B n D σ H (wpV P ro ops ms hs cs (Holds B H0) X K ord)) : GO B n D σ H (fun a w => (c = true → Holds B H0 w) ∧ wpV P ro ops ms hs cs (Holds B H0) X K ord a w) := fun a w s => ⟨fun _ => s.holds.map s0.sub, h a w s⟩
theorem v_off {c : Bool} (hc : c = false) (h : GO B n D σ H (wpV P ro ops ms hs cs C X K ord)) : GO B n D σ H (fun a w => (c = true → C w) ∧ wpV P ro ops ms hs cs C X K ord a w) := fun a w s => ⟨fun hf => (by rw [hc] at hf; cases hf), h a w s⟩
theorem v_nil (h : GO B n D σ H K) : GO B n D σ H (wpV P ro ops ms hs cs C X K []) := h
theorem wpV_app {K' : Act → World → Prop} : ∀ (o1 o2 : List Nat) (a : Act) (w : World), wpV P ro ops ms hs cs C X K' o1 a w → (∀ a w, K' a w → wpV P ro ops ms hs cs C X K o2 a w) → wpV P ro ops ms hs cs C X K (o1 ++ o2) a w
  | [], o2, a, w, h, g => g a w h
  | k :: o1, o2, a, w, h, g => by
    simp only [List.cons_append, wpV] at h ⊢
    cases hm : ms.contains k with
    | true =>
      rw [hm] at h
      simp only [cond_true] at h ⊢
      have h2 : wpOpIn (Wd ro) 0 P ops (toQ K X) k (fun a w => (cs.contains k = true → C w) ∧ wpV P ro ops ms hs cs C X K' o1 a w) a w := by
        unfold wpOpIn at h ⊢
        split
        · rename_i e; simp only [e] at h; exact h
        · rename_i o e
          simp only [e] at h
          split
          · rename_i hw
            rw [if_pos hw] at h
            refine ⟨h.1, ?_⟩
            have h3 := h.2
            unfold Oper.uponIn at h3 ⊢
            generalize (o.semAt (Wd ro).round a.eval).run P w = r at h3 ⊢
            cases r with
            | ok n w' =>
              cases n <;> first | exact h3 | (obtain ⟨q1, q2⟩ := h3; exact ⟨q1, q2.mono fun e w'' he => by cases e <;> exact he⟩)
            | halt x w' => cases x <;> exact h3
          · rename_i hw; rw [if_neg hw] at h; exact h
      exact wpOpIn_mono (fun a w ⟨g1, g2⟩ => ⟨g1, wpV_app o1 o2 a w g2 g⟩) h2
    | false =>
      rw [hm] at h
      simp only [cond_false] at h ⊢
      cases hh : hs.contains k with
      | true =>
        rw [hh] at h
        simp only [cond_true] at h ⊢
        obtain ⟨hC, oi, v, h1, h2, h3⟩ := h
        exact ⟨hC, oi, v, h1, h2, wpV_app o1 o2 _ w h3 g⟩
      | false =>
        rw [hh] at h
        simp only [cond_false] at h ⊢
        obtain ⟨oi, v, h1, h2, h3⟩ := h
        exact ⟨oi, v, h1, h2, wpV_app o1 o2 _ w h3 g⟩
theorem v_cut {σ' : Env} (k : Nat) (h1 : GO B n D σ H (wpV P ro ops ms hs cs C X (fun a w => St B n D σ' H a w) (ord.take k))) (h2 : GO B n D σ' H (wpV P ro ops ms hs cs C X K (ord.drop k))) : GO B n D σ H (wpV P ro ops ms hs cs C X K ord) := fun a w s => by
  have := wpV_app (K := K) (ord.take k) (ord.drop k) a w (h1 a w s) fun a w h => h2 a w h
  rwa [List.take_append_drop] at this
theorem v_and {c y : Bool} {t tp : Nat} {σ1 : Env} (k : Nat) (hc : look σ t = some (.bool c)) (_hs : SubE σ1 σ)
    (h1 : c = true → GO B n D σ H (wpV P ro ops ms hs cs C X (fun a w => St B n D ((tp, .bool (c && y)) :: σ1) H a w) (ord.take k)))
    (h0 : c = false → GO B n D σ H (wpV P ro ops ms hs cs C X (fun a w => St B n D ((tp, .bool (c && y)) :: σ1) H a w) (ord.take k)))
    (h2 : GO B n D ((tp, .bool (c && y)) :: σ1) H (wpV P ro ops ms hs cs C X K (ord.drop k))) : GO B n D σ H (wpV P ro ops ms hs cs C X K ord) := by
  refine v_cut k ?_ h2
  cases hcc : c with
  | true => subst hcc; exact h1 rfl
  | false => subst hcc; exact h0 rfl
theorem v_or {c y : Bool} {t tp : Nat} {σ1 : Env} (k : Nat) (hc : look σ t = some (.bool c)) (_hs : SubE σ1 σ)
    (h1 : c = false → GO B n D σ H (wpV P ro ops ms hs cs C X (fun a w => St B n D ((tp, .bool (c || y)) :: σ1) H a w) (ord.take k)))
    (h0 : c = true → GO B n D σ H (wpV P ro ops ms hs cs C X (fun a w => St B n D ((tp, .bool (c || y)) :: σ1) H a w) (ord.take k)))
    (h2 : GO B n D ((tp, .bool (c || y)) :: σ1) H (wpV P ro ops ms hs cs C X K (ord.drop k))) : GO B n D σ H (wpV P ro ops ms hs cs C X K ord) := by
  refine v_cut k ?_ h2
  cases hcc : c with
  | true => subst hcc; exact h0 rfl
  | false => subst hcc; exact h1 rfl
theorem v_seg {tp : Nat} {r y : Bool} {σ1 : Env} (h : look σ tp = some (.bool y)) (hs' : SubE σ1 σ) (e : y = r) : GO B n D σ H (wpV P ro ops ms hs cs C X (fun a w => St B n D ((tp, .bool r) :: σ1) H a w) []) := by
  subst e; exact fun a w s => s.to ⟨h, hs'⟩ id
end
end Go.Proofs.YtbfheafpecgphaaGreat
