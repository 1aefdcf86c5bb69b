/- A small logic of owned blocks: a piece of code with labels; results behind marks; orders of a list of blocks. Conditions: none. -/
import Derived.Test.YtbfheafpecgphaaGreatSlj
import Derived.Test.YtbfheafpecgphaaGreatSlf
set_option linter.unusedSimpArgs false
set_option linter.unusedVariables false
set_option linter.unnecessarySimpa false
set_option linter.unusedSectionVars false
namespace Go.Proofs.YtbfheafpecgphaaGreat
open Go
section
variable {B : World} {n : Nat} {D : List Deferred} {σ : Env} {H : List HP} {P : Program} {ro : Cx} {K : Act → World → Prop} {X : Ext} {w : World}
theorem stepR_scope {b : Frame} {a : Act} {k : List Item} {cs : List Frame} {c : Code} : step P (lone (b.atR a (.code (.scope c) :: k)) cs w) = .next (lone (b.atR a (.code c :: .inScope c :: k)) cs w) :=
  step_lone_go (by simp [stepG, stepG.exec, Frame.atR])
theorem stepR_inScope {b : Frame} {a : Act} {k : List Item} {cs : List Frame} {c : Code} : step P (lone (b.atR a (.inScope c :: k)) cs w) = .next (lone (b.atR a k) cs w) :=
  step_lone_go (by simp [stepG, stepG.exec, Frame.atR])
theorem g_scope {c : Code} (h : GO B n D σ H (cw ro P c K X)) : GO B n D σ H (cw ro P (.scope c) K X) := fun a w s => by
  intro b k cs hro hf
  have h0 : (lone (b.atR a (.code (.scope c) :: k)) cs w).fenced P (Wd ro) := fenced_calm (n := 0) trivial (rmW _ _) rfl
  obtain ⟨e, a₁, w₁, hq, harr⟩ := h a w s b (.inScope c :: k) cs hro hf
  cases e with
  | normal => exact ⟨.normal, a₁, w₁, hq, .head h0 stepR_scope (StepsIn.trans harr (.one (fenced_calm (n := 0) trivial (rmW _ _) rfl) stepR_inScope))⟩
  | exit id =>
    have hx : exitTo id (.inScope c :: k) = exitTo id k := by simp [exitTo]
    exact ⟨.exit id, a₁, w₁, hq, fun k' hk => .head h0 stepR_scope (harr.1 k' (by rw [hx]; exact hk)),
      fun hr' hk => let ⟨k₁, h1, h2⟩ := harr.2 hr' (by rw [hx]; exact hk); ⟨k₁, h1, .head h0 stepR_scope h2⟩⟩
  | goto l => exact hq.elim
  | ret => exact ⟨.ret, a₁, w₁, hq, ArrivesIn.of_steps (k := k) (e := .ret) (.one h0 stepR_scope) harr⟩
  | panic ch => exact ⟨.panic ch, a₁, w₁, hq, ArrivesIn.of_steps (k := k) (e := .panic ch) (.one h0 stepR_scope) harr⟩
  | outgrown => exact hq.elim
/-- The member at a place, and the others. -/
class GetT (i : Nat) (l : List HP) (A : outParam HP) (r : outParam (List HP)) : Prop where
  get : l[i]? = some A ∧ l.eraseIdx i = r
instance GetT.zero {A : HP} {l : List HP} : GetT 0 (A :: l) A l := ⟨rfl, rfl⟩
instance GetT.succ {i : Nat} {A C : HP} {l r : List HP} [g : GetT i l A r] : GetT (i + 1) (C :: l) A (C :: r) := ⟨by simpa using g.get.1, by simp [g.get.2]⟩
/-- Members taken to the front, one by one: each by its place among those that are left. -/
class PickT (is : List Nat) (l : List HP) (r : outParam (List HP)) : Prop where
  ok : ∀ h : Frag, sat l h → sat r h
instance PickT.nil {l : List HP} : PickT [] l l := ⟨fun _ a => a⟩
instance PickT.cons {i : Nat} {is : List Nat} {A : HP} {l l' r : List HP} [g : GetT i l A l'] [p : PickT is l' r] : PickT (i :: is) l (A :: r) :=
  ⟨fun h a => sat_cons (fun k hk => p.ok k hk) (by have := sat_front i g.get.1 a; rwa [g.get.2] at this)⟩
/-- Members left out, one by one. -/
class DropT (is : List Nat) (l : List HP) (r : outParam (List HP)) : Prop where
  ok : ∀ h : Frag, sat l h → sat r h
instance DropT.nil {l : List HP} : DropT [] l l := ⟨fun _ a => a⟩
instance DropT.cons {i : Nat} {is : List Nat} {A : HP} {l l' r : List HP} [g : GetT i l A l'] [p : DropT is l' r] : DropT (i :: is) l r :=
  ⟨fun h a => p.ok h (by have := sat_tail (sat_front i g.get.1 a); rwa [g.get.2] at this)⟩
theorem Holds.pk {l r : List HP} (h : Holds B l w) (is : List Nat) [p : PickT is l r] : Holds B r w := h.map p.ok
theorem Holds.dp {l r : List HP} (h : Holds B l w) (is : List Nat) [p : DropT is l r] : Holds B r w := h.map p.ok
theorem go_pk {H' : List HP} (is : List Nat) [p : PickT is H H'] (h : GO B n D σ H' K) : GO B n D σ H K := go_conv (fun _ hh => hh.pk is) h
theorem go_dp {H' : List HP} (is : List Nat) [p : DropT is H H'] (h : GO B n D σ H' K) : GO B n D σ H K := go_conv (fun _ hh => hh.dp is) h
/-- A mark's block in the list, and the list behind its taking. -/
class SetM (i : Nat) (l : List HP) (m : Nat) (r : outParam (List HP)) : Prop where
  ok : l[i]? = some (blk m (.deferred (some []))) ∧ l.set i (blk m (.deferred none)) = r
instance SetM.zero {m : Nat} {l : List HP} : SetM 0 (blk m (.deferred (some [])) :: l) m (blk m (.deferred none) :: l) := ⟨rfl, rfl⟩
instance SetM.succ {i m : Nat} {C : HP} {l r : List HP} [g : SetM i l m r] : SetM (i + 1) (C :: l) m (C :: r) := ⟨by simpa using g.ok.1, by simp [g.ok.2]⟩
theorem Marks.at {m : Nat} {H' H2 : List HP} (i : Nat) [g : SetM i H m H'] (h : Marks D H' H2) : Marks (mark1 m :: D) H H2 := by
  refine .cons (i := i) g.ok.1 ?_
  rw [g.ok.2]; exact h
theorem sat_perm {l l' : List HP} (p : l.Perm l') : ∀ {h : Frag}, Go.Proofs.YtbfheafpecgphaaGreat.sat l h → Go.Proofs.YtbfheafpecgphaaGreat.sat l' h := by
  induction p with
  | nil => exact id
  | cons A _ ih => exact fun a => sat_cons (fun _ => ih) a
  | swap A B l => exact fun a => sat_swap a
  | trans _ _ i1 i2 => exact fun a => i2 (i1 a)
theorem Holds.perm {l l' : List HP} (h : Holds B l w) (p : l.Perm l') : Holds B l' w := h.map fun _ => sat_perm p
theorem ret_2_m {f : FuncId} {fn : Func} {R : Ending → World → Prop} {H2 : List HP} {x y : ResultVar} {v u : Value} (hr : fn.results = #[x, y]) (m : Marks D H H2) (h1 : ResV P σ H2 x v) (h2 : ResV P σ H2 y u) (h : ∀ w, Holds B H2 w → R (.returned (.tuple #[v, u])) w) : GO B n D σ H (fnXM P f fn R).ret := fun a w s => by
  show LeavesInM _ _ _ _ _ _ a.defers _ _
  rw [s.defers]
  refine m.leave (by simp) w s.holds fun w' hw' => ⟨.tuple #[v, u], ?_, h w' hw'⟩
  have e1 := h1.run s.env hw'
  have e2 := h2.run s.env hw'
  simp [results, hr] at e1 e2 ⊢
  cases x <;> cases y <;> simp_all
theorem ret_1_m {f : FuncId} {fn : Func} {R : Ending → World → Prop} {H2 : List HP} {x : ResultVar} {v : Value} (hr : fn.results = #[x]) (m : Marks D H H2) (h1 : ResV P σ H2 x v) (h : ∀ w, Holds B H2 w → R (.returned v) w) : GO B n D σ H (fnXM P f fn R).ret := fun a w s => by
  show LeavesInM _ _ _ _ _ _ a.defers _ _
  rw [s.defers]
  refine m.leave (by simp) w s.holds fun w' hw' => ⟨v, ?_, h w' hw'⟩
  have e1 := h1.run s.env hw'
  simp [results, hr] at e1 ⊢
  cases x <;> simp_all
/-- Marks of ranges in a loop. -/
def marksD (ms : List Nat) : List Deferred := ms.map mark1
def marksH (ms : List Nat) : HP := grp (ms.map fun m => blk m (.deferred (some [])))
theorem marksH_nil {l : List HP} (h : Holds B l w) : Holds B (marksH [] :: l) w := Holds.ungrp (l := []) h
theorem marksH_cons {l : List HP} {m : Nat} {ms : List Nat} (h : Holds B (blk m (.deferred (some [])) :: marksH ms :: l) w) : Holds B (marksH (m :: ms) :: l) w :=
  Holds.ungrp (l := blk m (.deferred (some [])) :: ms.map fun m => blk m (.deferred (some []))) ((h.front 1 rfl).grp.map fun _ a => by
    have h2 : ∀ (x : List HP) (A : HP) (y : List HP) (k : Frag), sat (x ++ A :: y) k → sat (A :: (x ++ y)) k := by
      intro x
      induction x with
      | nil => intro A y k a; exact a
      | cons C x ih => intro A y k a; exact sat_swap (sat_cons (fun k => ih A y k) a)
    exact h2 _ _ _ _ a)
theorem marks_front : ∀ (ms : List Nat) {l : List HP}, Marks (marksD ms) (marksH ms :: l) l
  | [], l => .conv (fun _ a => sat_tail a) .nil
  | m :: ms, l => by
    refine .conv (H' := blk m (.deferred (some [])) :: marksH ms :: l) (fun k a => ?_) (.cons (i := 0) rfl (.conv (fun _ a => sat_tail a) (marks_front ms)))
    have a2 := sat_grp a
    exact sat_cons (fun k b => grp_sat b) a2
theorem marks_at {ms : List Nat} {l r : List HP} (i : Nat) [g : GetT i l (marksH ms) r] : Marks (marksD ms) l r :=
  .conv (fun _ a => by have := sat_front i g.get.1 a; rwa [g.get.2] at this) (marks_front ms)
theorem look_cat {l l' : Env} {t : Nat} {v : Value} (h : look (l ++ l') t = some v) : look l t = some v ∨ look l' t = some v := by
  induction l with
  | nil => exact .inr h
  | cons p l ih =>
    obtain ⟨k, u⟩ := p
    simp only [List.cons_append, look] at h ⊢
    by_cases e : k = t
    · subst e; simp at h ⊢; exact .inl h
    · rw [beq_no e] at h ⊢; exact ih h
/-- A loop: what is to be done when the frame is left may grow. -/
theorem g_loopD {c : Code} {ι : Type} (I : ι → Prop) (DI : ι → List Deferred) (σI : ι → Env) (HI : ι → List HP) (μ : ι → Nat) (i₀ : ι)
    (h0 : I i₀) (h1 : ∀ a w, St B n D σ H a w → St B n (DI i₀) (σI i₀) (HI i₀) a w)
    (round : ∀ i, I i → GO B n (DI i) (σI i) (HI i) (cw ro P c (fun a w => ∃ j, I j ∧ μ j < μ i ∧ St B n (DI j) (σI j) (HI j) a w) X)) :
    GO B n D σ H (cw ro P (.loop c) K X) := by
  intro a w s b k cs hro hb
  have h00 : (lone (b.atR a (.code (.loop c) :: k)) cs w).fenced P (Wd ro) := fenced_calm (n := 0) trivial (rmW _ _) rfl
  have key : ∀ m i, I i → μ i = m → ∀ a w, St B n (DI i) (σI i) (HI i) a w →
      ∃ e a' w', toQ K X e a' w' ∧ ArrivesIn (Machine.fenced P (Wd ro)) P (lone (b.atR a (.code c :: .inLoop c :: k)) cs w) b k cs e a' w' := by
    intro m
    induction m using Nat.strongRecOn with
    | _ m ih =>
      intro i hI hi a w s
      obtain ⟨e, a₁, w₁, hq, harr⟩ := round i hI a w s b (.inLoop c :: k) cs hro hb
      cases e with
      | normal =>
        obtain ⟨j, hIj, hj, sj⟩ := hq
        obtain ⟨e₂, a₂, w₂, hq₂, harr₂⟩ := ih (μ j) (by omega) j hIj rfl a₁ w₁ sj
        exact ⟨e₂, a₂, w₂, hq₂, .of_steps (StepsIn.trans harr (.one (fenced_calm (n := 0) trivial (rmW _ _) rfl) stepR_inLoop)) harr₂⟩
      | exit id => exact ⟨.exit id, a₁, w₁, hq, .pass (x := .inLoop c) rfl (fun _ _ => .inl (by simp)) harr⟩
      | goto l => exact hq.elim
      | ret => exact ⟨.ret, a₁, w₁, hq, .pass (x := .inLoop c) rfl (fun _ _ => .inl (by simp)) harr⟩
      | panic ch => exact ⟨.panic ch, a₁, w₁, hq, .pass (x := .inLoop c) rfl (fun _ _ => .inl (by simp)) harr⟩
      | outgrown => exact hq.elim
  obtain ⟨e, a', w', q, r⟩ := key _ i₀ h0 rfl a w (h1 a w s)
  exact ⟨e, a', w', q, .of_steps (.one h00 stepR_loop) r⟩
/-- A loop: slots that stay as they are, told by their numbers. -/
theorem g_loopkD {c : Code} {ι : Type} (ks : List Nat) (I : ι → Prop) (DI : ι → List Deferred) (σI : ι → Env) (HI : ι → List HP) (μ : ι → Nat) (i₀ : ι)
    (h0 : I i₀) (h1 : ∀ a w, St B n D σ H a w → St B n (DI i₀) (σI i₀) (HI i₀) a w)
    (round : ∀ i, I i → GO B n (DI i) (σI i ++ keep σ ks) (HI i) (cw ro P c (fun a w => ∃ j, I j ∧ μ j < μ i ∧ St B n (DI j) (σI j ++ keep σ ks) (HI j) a w) X)) :
    GO B n D σ H (cw ro P (.loop c) K X) := by
  refine g_loopD I DI (fun i => σI i ++ keep σ ks) HI μ i₀ h0 (fun a w s => ?_) round
  have s1 := h1 a w s
  refine ⟨⟨s.size, s1.defers, fun t v h => ?_⟩, s1.holds⟩
  rcases look_cat h with h | h
  · exact s1.env t v h
  · exact s.env t v (look_keep h)
theorem g_loopk {c : Code} {ι : Type} (ks : List Nat) (I : ι → Prop) (σI : ι → Env) (HI : ι → List HP) (μ : ι → Nat) (i₀ : ι)
    (h0 : I i₀) (h1 : ∀ a w, St B n D σ H a w → St B n D (σI i₀) (HI i₀) a w)
    (round : ∀ i, I i → GO B n D (σI i ++ keep σ ks) (HI i) (cw ro P c (fun a w => ∃ j, I j ∧ μ j < μ i ∧ St B n D (σI j ++ keep σ ks) (HI j) a w) X)) :
    GO B n D σ H (cw ro P (.loop c) K X) := g_loopkD ks I (fun _ => D) σI HI μ i₀ h0 h1 round
end
end Go.Proofs.YtbfheafpecgphaaGreat
