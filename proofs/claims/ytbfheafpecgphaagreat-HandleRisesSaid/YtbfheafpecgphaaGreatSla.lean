/- A small logic of owned blocks over the machine's heap: assertions are lists of predicates on disjoint pieces of the heap. Conditions: none. -/
import Derived.WalkKit
import Derived.RangeFuncLeaves
import Derived.RecoverIn
import Derived.TacticsIn
import Derived.OrdersIn
import Derived.Deep.Quiet
import Derived.StillTail
set_option linter.unusedSimpArgs false
set_option linter.unusedVariables false
set_option linter.unnecessarySimpa false
set_option linter.unusedSectionVars false
namespace Go.Proofs.YtbfheafpecgphaaGreat
open Go

/-! ### Pieces of the heap -/
abbrev Frag := Nat → Option Obj
def HP := Frag → Prop
def Disj (h k : Frag) : Prop := ∀ b, h b = none ∨ k b = none
def Subf (h k : Frag) : Prop := ∀ b o, h b = some o → k b = some o
def sat : List HP → Frag → Prop
  | [], _ => True
  | A :: l, h => ∃ h1 h2, Disj h1 h2 ∧ Subf h1 h ∧ Subf h2 h ∧ A h1 ∧ sat l h2

/-- A block, whole. -/
def blk (b : Nat) (o : Obj) : HP := fun h => h b = some o
/-- A block of cells, none frozen. -/
def row (b : Nat) (cs : List Value) (T : TypeId) : HP := blk b (.cells cs.toArray T (0, 0))
def grp (l : List HP) : HP := sat l
def hex {α : Type} (A : α → HP) : HP := fun h => ∃ x, A x h
def pr (p : Prop) : HP := fun _ => p

theorem Subf.refl (h : Frag) : Subf h h := fun _ _ e => e
theorem Subf.trans {h k l : Frag} (a : Subf h k) (b : Subf k l) : Subf h l := fun x o e => b x o (a x o e)
theorem Disj.symm {h k : Frag} (d : Disj h k) : Disj k h := fun b => (d b).symm
theorem Disj.sub {h k h' k' : Frag} (d : Disj h k) (a : Subf h' h) (b : Subf k' k) : Disj h' k' := fun x => by
  cases e : h' x with
  | none => exact .inl rfl
  | some o =>
    cases e' : k' x with
    | none => exact .inr rfl
    | some o' => have := a x o e; have := b x o' e'; rcases d x with h | h <;> simp_all

theorem sat_mono {l : List HP} {h k : Frag} (s : Subf h k) (a : sat l h) : sat l k := by
  cases l with
  | nil => trivial
  | cons A l => obtain ⟨h1, h2, d, s1, s2, ha, hl⟩ := a; exact ⟨h1, h2, d, s1.trans s, s2.trans s, ha, hl⟩

theorem sat_swap {A B : HP} {l : List HP} {h : Frag} (a : sat (A :: B :: l) h) : sat (B :: A :: l) h := by
  obtain ⟨h1, h2, d, s1, s2, ha, h3, h4, d', s3, s4, hb, hl⟩ := a
  refine ⟨h3, fun b => (h1 b).orElse (fun _ => h4 b), ?_, s3.trans s2, ?_, hb, h1, h4, ?_, ?_, ?_, ha, hl⟩
  · intro b
    have a1 := d' b
    cases e : h3 b with
    | none => exact .inl rfl
    | some o =>
      have := s3 b o e
      have h1n : h1 b = none := by rcases d b with h | h <;> simp_all
      right; simp [h1n]; rcases a1 with h | h <;> simp_all
  · intro b o e
    cases e1 : h1 b with
    | none => simp [e1] at e; exact s2 b o (s4 b o e)
    | some o1 => simp [e1] at e; subst e; exact s1 b o1 e1
  · intro b
    cases e1 : h1 b with
    | none => exact .inl rfl
    | some o1 =>
      right
      cases e4 : h4 b with
      | none => rfl
      | some o4 => have := s4 b o4 e4; rcases d b with h | h <;> simp_all
  · intro b o e; simp [e]
  · intro b o e
    have e1 : h1 b = none := by
      have := s4 b o e; rcases d b with h | h <;> simp_all
    simp [e1, e]

theorem sat_tail {A : HP} {l : List HP} {h : Frag} (a : sat (A :: l) h) : sat l h := by
  obtain ⟨h1, h2, d, s1, s2, ha, hl⟩ := a; exact sat_mono s2 hl

theorem sat_cons {A : HP} {l l' : List HP} {h : Frag} (f : ∀ k, sat l k → sat l' k) (a : sat (A :: l) h) : sat (A :: l') h := by
  obtain ⟨h1, h2, d, s1, s2, ha, hl⟩ := a; exact ⟨h1, h2, d, s1, s2, ha, f _ hl⟩

theorem sat_head {A A' : HP} {l : List HP} {h : Frag} (f : ∀ k, A k → A' k) (a : sat (A :: l) h) : sat (A' :: l) h := by
  obtain ⟨h1, h2, d, s1, s2, ha, hl⟩ := a; exact ⟨h1, h2, d, s1, s2, f _ ha, hl⟩

theorem sat_front {A : HP} : ∀ (i : Nat) {l : List HP} {h : Frag}, l[i]? = some A → sat l h → sat (A :: l.eraseIdx i) h
  | 0, B :: l, h, e, a => by simp at e; subst e; simpa using a
  | i + 1, B :: l, h, e, a => by
    simp at e
    simp only [List.eraseIdx_cons_succ]
    exact sat_swap (sat_cons (fun k hk => sat_front i e hk) a)
  | 0, [], _, e, _ => by simp at e
  | i + 1, [], _, e, _ => by simp at e

theorem sat_back {A : HP} : ∀ (i : Nat) {l : List HP} {h : Frag}, i ≤ l.length → sat (A :: l) h → sat (l.insertIdx i A) h
  | 0, l, h, _, a => by simpa using a
  | i + 1, B :: l, h, hi, a => by
    simp only [List.insertIdx_succ_cons]
    exact sat_cons (fun k hk => sat_back i (by simpa using hi) hk) (sat_swap a)
  | i + 1, [], h, hi, a => by simp at hi

theorem sat_grp {l r : List HP} {h : Frag} (a : sat (grp l :: r) h) : sat (l ++ r) h := by
  induction l generalizing h with
  | nil => exact sat_tail a
  | cons A l ih =>
    obtain ⟨h1, h2, d, s1, s2, ⟨g1, g2, dg, t1, t2, ha, hg⟩, hr⟩ := a
    refine ⟨g1, fun b => (g2 b).orElse (fun _ => h2 b), ?_, t1.trans s1, ?_, ha, ih ⟨g2, h2, d.sub t2 (Subf.refl _), ?_, ?_, hg, hr⟩⟩
    · intro b
      cases e : g1 b with
      | none => exact .inl rfl
      | some o =>
        have e1 := t1 b o e
        have hn : h2 b = none := by rcases d b with h | h <;> simp_all
        right; simp [hn]; rcases dg b with h | h <;> simp_all
    · intro b o e
      cases e1 : g2 b with
      | none => simp [e1] at e; exact s2 b o e
      | some o1 => simp [e1] at e; subst e; exact s1 b o1 (t2 b o1 e1)
    · intro b o e; simp [e]
    · intro b o e
      have : g2 b = none := by
        cases e1 : g2 b with
        | none => rfl
        | some o1 => have := t2 b o1 e1; rcases d b with h | h <;> simp_all
      simp [this, e]

theorem grp_sat {l r : List HP} {h : Frag} (a : sat (l ++ r) h) : sat (grp l :: r) h := by
  induction l generalizing h with
  | nil => exact ⟨fun _ => none, h, fun _ => .inl rfl, fun _ _ e => by simp at e, Subf.refl _, trivial, a⟩
  | cons A l ih =>
    obtain ⟨h1, h2, d, s1, s2, ha, hr⟩ := a
    obtain ⟨g1, g2, dg, t1, t2, hl, hr'⟩ := ih hr
    refine ⟨fun b => (h1 b).orElse (fun _ => g1 b), g2, ?_, ?_, t2.trans s2, ⟨h1, g1, d.sub (Subf.refl _) t1, ?_, ?_, ha, hl⟩, hr'⟩
    · intro b
      cases e : g2 b with
      | none => exact .inr rfl
      | some o =>
        have e2 := t2 b o e
        have hn : h1 b = none := by rcases d b with h | h <;> simp_all
        left; simp [hn]; rcases dg b with h | h <;> simp_all
    · intro b o e
      cases e1 : h1 b with
      | none => simp [e1] at e; exact s2 b o (t1 b o e)
      | some o1 => simp [e1] at e; subst e; exact s1 b o1 e1
    · intro b o e; simp [e]
    · intro b o e
      have e1 : h1 b = none := by
        cases e1 : h1 b with
        | none => rfl
        | some o1 => have := t1 b o e; rcases d b with h | h <;> simp_all
      simp [e1, e]

theorem sat_hex {α : Type} {A : α → HP} {r : List HP} {h : Frag} (a : sat (hex A :: r) h) : ∃ x, sat (A x :: r) h := by
  obtain ⟨h1, h2, d, s1, s2, ⟨x, ha⟩, hr⟩ := a; exact ⟨x, h1, h2, d, s1, s2, ha, hr⟩
theorem hex_sat {α : Type} {A : α → HP} {r : List HP} {h : Frag} (x : α) (a : sat (A x :: r) h) : sat (hex A :: r) h :=
  sat_head (fun _ hx => ⟨x, hx⟩) a
theorem sat_pr {p : Prop} {r : List HP} {h : Frag} (a : sat (pr p :: r) h) : p ∧ sat r h := by
  refine ⟨?_, sat_tail a⟩
  obtain ⟨h1, h2, d, s1, s2, ha, hr⟩ := a; exact ha
theorem pr_sat {p : Prop} {r : List HP} {h : Frag} (hp : p) (a : sat r h) : sat (pr p :: r) h :=
  ⟨fun _ => none, h, fun _ => .inl rfl, fun _ _ e => by simp at e, Subf.refl _, hp, a⟩

theorem sat_read {b : Nat} {o : Obj} : ∀ (i : Nat) {l : List HP} {h : Frag}, l[i]? = some (blk b o) → sat l h → h b = some o := by
  intro i l h e a
  obtain ⟨h1, h2, d, s1, s2, ha, hr⟩ := sat_front i e a
  exact s1 b o ha

theorem sat_write {b : Nat} {o o' : Obj} : ∀ (i : Nat) {l : List HP} {h h' : Frag}, l[i]? = some (blk b o) → sat l h → h' b = some o' → (∀ c, c ≠ b → h' c = h c) → sat (l.set i (blk b o')) h'
  | 0, A :: l, h, h', e, a, hb, hc => by
    simp at e; subst e
    obtain ⟨h1, h2, d, s1, s2, ha, hr⟩ := a
    refine ⟨fun c => if c = b then some o' else none, h2, ?_, ?_, ?_, ?_, hr⟩
    · intro c; by_cases hcb : c = b
      · subst hcb; right; rcases d c with h | h
        · rw [show h1 c = some o from ha] at h; cases h
        · exact h
      · left; simp [hcb]
    · intro c oo ec; by_cases hcb : c = b
      · subst hcb; simp at ec; rw [hb, ec]
      · simp [hcb] at ec
    · intro c oo ec
      have hcb : c ≠ b := by
        intro e; subst e; rcases d c with h | h
        · rw [show h1 c = some o from ha] at h; cases h
        · rw [ec] at h; cases h
      rw [hc c hcb]; exact s2 c oo ec
    · simp [blk]
  | i + 1, A :: l, h, h', e, a, hb, hc => by
    simp at e
    obtain ⟨h1, h2, d, s1, s2, ha, hr⟩ := a
    have hb2 : h2 b = some o := sat_read i e hr
    have h1b : h1 b = none := by rcases d b with h | h
                                 · exact h
                                 · rw [hb2] at h; cases h
    refine ⟨h1, fun c => if c = b then some o' else h2 c, ?_, ?_, ?_, ha, sat_write i (h := h2) e hr (by simp) (fun c hcb => by simp [hcb])⟩
    · intro c; by_cases hcb : c = b
      · subst hcb; exact .inl h1b
      · simp [hcb]; exact d c
    · intro c oo ec
      have hcb : c ≠ b := by intro e; subst e; rw [h1b] at ec; cases ec
      rw [hc c hcb]; exact s1 c oo ec
    · intro c oo ec; by_cases hcb : c = b
      · subst hcb; simp at ec; rw [hb, ec]
      · simp [hcb] at ec; rw [hc c hcb]; exact s2 c oo ec
  | 0, [], _, _, e, _, _, _ => by simp at e
  | i + 1, [], _, _, e, _, _, _ => by simp at e

theorem sat_new {b : Nat} {o : Obj} {l : List HP} {h h' : Frag} (a : sat l h) (hn : h b = none) (hb : h' b = some o) (hc : ∀ c, c ≠ b → h' c = h c) : sat (blk b o :: l) h' := by
  refine ⟨fun c => if c = b then some o else none, h, ?_, ?_, ?_, by simp [blk], a⟩
  · intro c; by_cases hcb : c = b
    · subst hcb; exact .inr hn
    · left; simp [hcb]
  · intro c oo ec; by_cases hcb : c = b
    · subst hcb; simp at ec; rw [hb, ec]
    · simp [hcb] at ec
  · intro c oo ec
    have hcb : c ≠ b := by intro e; subst e; rw [hn] at ec; cases ec
    rw [hc c hcb]; exact ec

/-! ### Worlds -/
/-- World w goes on from B (streams and tape are B's, no fewer blocks), and its heap meets the list. -/
structure Holds (B : World) (l : List HP) (w : World) : Prop where
  os : w.os = B.os
  tape : w.tape = B.tape
  output : w.output = B.output
  size : B.heap.size ≤ w.heap.size
  sat : sat l fun b => w.heap[b]?

theorem Holds.map {B : World} {l l' : List HP} {w : World} (h : Holds B l w) (f : ∀ k, Go.Proofs.YtbfheafpecgphaaGreat.sat l k → Go.Proofs.YtbfheafpecgphaaGreat.sat l' k) : Holds B l' w :=
  ⟨h.os, h.tape, h.output, h.size, f _ h.sat⟩
theorem Holds.front {B : World} {l : List HP} {w : World} {A : HP} (h : Holds B l w) (i : Nat) (e : l[i]? = some A) : Holds B (A :: l.eraseIdx i) w := h.map fun _ => sat_front i e
theorem Holds.back {B : World} {l : List HP} {w : World} {A : HP} (h : Holds B (A :: l) w) (i : Nat) (hi : i ≤ l.length) : Holds B (l.insertIdx i A) w := h.map fun _ => sat_back i hi
theorem Holds.tail {B : World} {l : List HP} {w : World} {A : HP} (h : Holds B (A :: l) w) : Holds B l w := h.map fun _ => sat_tail
theorem Holds.grp {B : World} {l r : List HP} {w : World} (h : Holds B (Go.Proofs.YtbfheafpecgphaaGreat.grp l :: r) w) : Holds B (l ++ r) w := h.map fun _ => sat_grp
theorem Holds.ungrp {B : World} {l r : List HP} {w : World} (h : Holds B (l ++ r) w) : Holds B (Go.Proofs.YtbfheafpecgphaaGreat.grp l :: r) w := h.map fun _ => grp_sat
theorem Holds.hex {B : World} {α : Type} {A : α → HP} {r : List HP} {w : World} (h : Holds B (Go.Proofs.YtbfheafpecgphaaGreat.hex A :: r) w) : ∃ x, Holds B (A x :: r) w := by
  obtain ⟨x, hx⟩ := sat_hex h.sat; exact ⟨x, h.os, h.tape, h.output, h.size, hx⟩
theorem Holds.unhex {B : World} {α : Type} {A : α → HP} {r : List HP} {w : World} (x : α) (h : Holds B (A x :: r) w) : Holds B (Go.Proofs.YtbfheafpecgphaaGreat.hex A :: r) w := h.map fun _ => hex_sat x
theorem Holds.pr {B : World} {p : Prop} {r : List HP} {w : World} (h : Holds B (Go.Proofs.YtbfheafpecgphaaGreat.pr p :: r) w) : p ∧ Holds B r w := ⟨(sat_pr h.sat).1, h.tail⟩
theorem Holds.unpr {B : World} {p : Prop} {r : List HP} {w : World} (hp : p) (h : Holds B r w) : Holds B (Go.Proofs.YtbfheafpecgphaaGreat.pr p :: r) w := h.map fun _ => pr_sat hp
theorem Holds.read {B : World} {l : List HP} {w : World} {b : Nat} {o : Obj} (h : Holds B l w) (i : Nat) (e : l[i]? = some (blk b o)) : w.heap[b]? = some o := sat_read i e h.sat

theorem Holds.drew {B : World} {l : List HP} {w : World} (h : Holds B l w) (n : Nat) : Holds B l { w with drawn := n } := ⟨h.os, h.tape, h.output, h.size, h.sat⟩

theorem Holds.new {B : World} {l : List HP} {w : World} (h : Holds B l w) (o : Obj) : Holds B (blk w.heap.size o :: l) { w with heap := w.heap.push o } := by
  refine ⟨h.os, h.tape, h.output, by simp; have := h.size; omega, sat_new h.sat (by simp) (by simp) fun c hc => ?_⟩
  show (w.heap.push o)[c]? = _
  rw [Array.getElem?_push, if_neg hc]

theorem Holds.put {B : World} {l : List HP} {w : World} {b : Nat} {o : Obj} (h : Holds B l w) (i : Nat) (e : l[i]? = some (blk b o)) (o' : Obj) : Holds B (l.set i (blk b o')) { w with heap := w.heap.setIfInBounds b o' } := by
  have hr := h.read i e
  have hlt : b < w.heap.size := (Array.getElem?_eq_some_iff.1 hr).1
  refine ⟨h.os, h.tape, h.output, by simpa using h.size, sat_write i e h.sat (by simp [hlt]) fun c hc => ?_⟩
  simp [Ne.symm hc]

theorem World.setCell_eq {w : World} {b k : Nat} {cs : List Value} {T : TypeId} (h : w.heap[b]? = some (.cells cs.toArray T (0, 0))) (v : Value) :
    w.setCell ⟨b, k, none⟩ v = { w with heap := w.heap.setIfInBounds b (.cells (cs.set k v).toArray T (0, 0)) } := by
  obtain ⟨hlt, hg⟩ := Array.getElem?_eq_some_iff.1 h
  simp only [World.setCell]
  congr 1
  apply Array.ext_getElem?
  intro i
  rw [Array.getElem?_modify]
  by_cases hi : b = i
  · subst hi; rw [h]; simp [hlt]
  · simp [hi]

theorem Holds.cell {B : World} {l : List HP} {w : World} {b : Nat} {cs : List Value} {T : TypeId} (h : Holds B l w) (i : Nat) (e : l[i]? = some (row b cs T)) (k : Nat) : w.cell? ⟨b, k, none⟩ = cs[k]? := by
  have := h.read i e
  simp [World.cell?, this]
theorem Holds.free {B : World} {l : List HP} {w : World} {b : Nat} {cs : List Value} {T : TypeId} (h : Holds B l w) (i : Nat) (e : l[i]? = some (row b cs T)) (k : Nat) : w.frozen? ⟨b, k, none⟩ = false := by
  have := h.read i e
  simp [World.frozen?, this]
theorem Holds.setCell {B : World} {l : List HP} {w : World} {b : Nat} {cs : List Value} {T : TypeId} (h : Holds B l w) (i : Nat) (e : l[i]? = some (row b cs T)) (k : Nat) (v : Value) :
    Holds B (l.set i (row b (cs.set k v) T)) (w.setCell ⟨b, k, none⟩ v) := by
  rw [World.setCell_eq (h.read i e)]; exact h.put i e _

end Go.Proofs.YtbfheafpecgphaaGreat
