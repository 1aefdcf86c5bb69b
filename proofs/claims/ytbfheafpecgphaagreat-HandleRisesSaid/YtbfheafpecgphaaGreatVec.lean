/- A small logic of owned blocks: a slice of numbers that grows at its end and is used up at its front. Conditions: none. -/
import Derived.Test.YtbfheafpecgphaaGreatSlj
set_option linter.unusedSimpArgs false
set_option linter.unusedVariables false
set_option linter.unnecessarySimpa false
set_option linter.unusedSectionVars false
namespace Go.Proofs.YtbfheafpecgphaaGreat
open Go
/-- What a variable's slice value leads to. -/
def VecA (T : TypeId) (enc : Int → Value) (_ : Nat) (x : Value × List Int) : HP := hex fun (o : Option (Nat × List Value × List Value × Nat)) => match o with
  | none => pr (x.2 = [] ∧ x.1 = .slice none 0 0)
  | some (bd, pre, rest, k) => grp [row bd (pre ++ x.2.map enc ++ rest) T, pr (k ≤ rest.length ∧ x.1 = .slice (some ⟨bd, pre.length, none⟩) x.2.length (x.2.length + k))]
section
variable {B : World} {n : Nat} {D : List Deferred} {σ : Env} {H Fr : List HP} {P : Program} {K : Act → World → Prop} {T : TypeId} {enc : Int → Value} {sv : Value} {xs : List Int} {w : World}
theorem vec_nil (h : Holds B Fr w) : Holds B (VecA T enc 0 (.slice none 0 0, []) :: Fr) w := Holds.unhex none (h.unpr ⟨rfl, rfl⟩)
theorem vec_rowp {bd m c k : Nat} {pre rest : List Value} (hm : m = xs.length) (hc : c = m + k) (hk : k ≤ rest.length) {o : Nat} (ho : o = pre.length) (h : Holds B (row bd (pre ++ xs.map enc ++ rest) T :: Fr) w) : Holds B (VecA T enc 0 (.slice (some ⟨bd, o, none⟩) m c, xs) :: Fr) w := by
  subst hm; subst hc; subst ho
  refine Holds.unhex (some (bd, pre, rest, k)) (Holds.ungrp (l := [row bd (pre ++ xs.map enc ++ rest) T, pr _]) ?_)
  exact (h.unpr ⟨hk, rfl⟩).back 1 (by simp)
theorem vec_row {bd m c : Nat} {rest : List Value} (hm : m = xs.length) (hc : c = m + rest.length) (h : Holds B (row bd (xs.map enc ++ rest) T :: Fr) w) : Holds B (VecA T enc 0 (.slice (some ⟨bd, 0, none⟩) m c, xs) :: Fr) w :=
  vec_rowp (pre := []) (k := rest.length) hm hc (Nat.le_refl _) rfl h
theorem holds_vec (h : Holds B (VecA T enc 0 (sv, xs) :: Fr) w) : (xs = [] ∧ sv = .slice none 0 0 ∧ Holds B Fr w) ∨ ∃ bd pre rest k, k ≤ rest.length ∧ sv = .slice (some ⟨bd, pre.length, none⟩) xs.length (xs.length + k) ∧ Holds B (row bd (pre ++ xs.map enc ++ rest) T :: Fr) w := by
  obtain ⟨x, hx⟩ := h.hex
  cases x with
  | none => have h2 := hx.pr; exact .inl ⟨h2.1.1, h2.1.2, h2.2⟩
  | some p => have h2 := (hx.grp.front 1 rfl).pr; exact .inr ⟨_, _, _, _, h2.1.1, h2.1.2, h2.2⟩
theorem go_vecsl (h : ∀ q cap, sv = .slice q xs.length cap → GO B n D σ (VecA T enc 0 (sv, xs) :: Fr) K) : GO B n D σ (VecA T enc 0 (sv, xs) :: Fr) K := fun a w st => by
  rcases holds_vec st.holds with ⟨e1, e2, _⟩ | ⟨bd, pre, rest, k, _, e, _⟩
  · exact h none 0 (by rw [e2, e1]; rfl) a w st
  · exact h _ _ e a w st
theorem vec_slr {q : Option Addr} {cap : Nat} (i : Nat) (e : H[i]? = some (VecA T enc 0 (.slice q xs.length cap, xs))) : SlR B H (.slice q xs.length cap) (xs.map enc) := by
  refine ⟨q, cap, by simp, fun w hw j hj => ?_⟩
  rw [List.length_map] at hj
  rcases holds_vec (hw.front i e) with ⟨h1, _, _⟩ | ⟨bd, pre, rest, k, _, h1, h2⟩
  · rw [h1] at hj; exact absurd hj (Nat.not_lt_zero _)
  · injection h1 with h1 _ _
    refine ⟨bd, pre.length, h1, ?_⟩
    rw [h2.ucell (b := bd) (pre.length + j), List.append_assoc, List.getElem?_append_right (by omega), Nat.add_sub_cancel_left, List.getElem?_append_left (by rw [List.length_map]; exact hj)]
theorem vec_put {pre rest : List Value} {v : Int} (h : 0 < rest.length) : setAll (pre ++ xs.map enc ++ rest) (pre.length + xs.length) [enc v] = pre ++ (xs ++ [v]).map enc ++ rest.drop 1 := by
  cases rest with
  | nil => simp at h
  | cons a t =>
    simp only [setAll, List.drop_succ_cons, List.drop_zero, List.map_append, List.map_cons, List.map_nil]
    rw [List.set_append_right _ _ (by simp)]
    simp
/-- A number put behind it. -/
theorem ch_append_vec {d : Option Tmp} {ty : TypeId} {p : String} {af : Array Edge} {g : Option (Nat × Bool)} {t : TypeId} {x y : Operand} {at_ : Array TypeId} {u : TypeId} {ud : TypeDesc} {b1 : Nat} {v : Int} {z : Value} {T1 : TypeId}
    (ha : at_[0]? = some t) (ha' : at_[1]? = some u) (ht : ∀ w, (underlying t).run P w = .ok (.slice T) w) (hu : ∀ w, (underlying u).run P w = .ok ud w) (hud : ∃ q, ud = .slice q) (hs : ∀ w, (sizeOf T).run P w = .ok 1 w) (hz : ∀ w, (zeroValue T).run P w = .ok z w) (hz1 : cell1 z = true) (he1 : ∀ v, cell1 (enc v) = true) (hfb : fewBytes P T)
    (hx : evO σ x = some sv) (hy : evO σ y = some (.slice (some ⟨b1, 0, none⟩) 1 1)) (hn : xs.length + 1 ≤ 1000000000) :
    Chg P B σ (VecA T enc 0 (sv, xs) :: row b1 [enc v] T1 :: Fr) ⟨d, .call ⟨.builtin .append, #[x, y], at_⟩, ty, p, af, g⟩ (fun v' H' => cell1 v' = true ∧ H' = VecA T enc 0 (v', xs ++ [v]) :: Fr) := by
  have hall : ([enc v] : List Value).all cell1 = true := by simp [he1]
  intro a w kn hh
  rcases holds_vec hh with ⟨h1, h2, h3⟩ | ⟨bd, pre, rest, k, hk, h1, h3⟩
  · subst h2; subst h1
    obtain ⟨r, w', e1, u, e2, H', ⟨bn, cn, rest, e3, _, e4, rfl⟩, e5⟩ := ch_append_nil (H := row b1 [enc v] T1 :: Fr) (d := d) (ty := ty) (p := p) (af := af) (g := g) ha ha' ht hu hud hs hz hz1 hfb hx hy (SlR.row (xs := [enc v]) rfl rfl) (by simp) (by simp) a w kn h3
    subst e4
    refine ⟨r, w', e1, _, e2, _, ⟨rfl, rfl⟩, ?_⟩
    exact vec_row (xs := [v]) rfl (by simpa using e3.symm) ((e5.front 1 rfl).tail)
  · subst h1
    obtain ⟨r, w', e1, u, e2, H', hY, e5⟩ := ch_append (H := row bd (pre ++ xs.map enc ++ rest) T :: row b1 [enc v] T1 :: Fr) (d := d) (ty := ty) (p := p) (af := af) (g := g) (b := bd) ha ha' ht hu hud hs hz hz1 hfb hx hy (SlR.row (xs := [enc v]) rfl rfl) (by simp; omega) (by omega) (by simpa using hn) hall a w kn h3
    rcases hY with ⟨g1, rfl, rfl⟩ | ⟨g1, bn, cn, rest', g2, _, rfl, rfl⟩
    · refine ⟨r, w', e1, _, e2, _, ⟨rfl, rfl⟩, ?_⟩
      have g1 : xs.length + 1 ≤ xs.length + k := g1
      rw [vec_put (by omega)] at e5
      exact vec_rowp (k := k - 1) (by simp) (by simp; omega) (by simp; omega) rfl ((e5.front 1 rfl).tail)
    · refine ⟨r, w', e1, _, e2, _, ⟨rfl, rfl⟩, ?_⟩
      have e : (xs ++ [v]).map enc ++ rest' = ((pre ++ xs.map enc ++ rest).drop pre.length).take xs.length ++ [enc v] ++ rest' := by simp
      rw [← e] at e5
      exact vec_row (by simp) (by simpa using g2.symm) ((((e5.front 1 rfl).tail).front 1 rfl).tail)
theorem ev_slice_all {d : Option Tmp} {ty : TypeId} {p : String} {af : Array Edge} {g : Option (Nat × Bool)} {t e : TypeId} {x lo : Operand} {b off len sz : Nat} {kk : IntKind} (ht : ∀ w, (underlying t).run P w = .ok (.slice e) w) (hs : ∀ w, (sizeOf e).run P w = .ok sz w) (hx : evO σ x = some (.slice (some ⟨b, off, none⟩) len len)) (hl : evO σ lo = some (.int kk len)) :
    Evs P B σ H ⟨d, .slice t x (some lo) none none, ty, p, af, g⟩ (.slice (some ⟨b, off, none⟩) 0 0) := by
  intro a w kn _
  have hb := run_bounds (P := P) (a := a) (lo := some lo) (hi := none) (len := len) (cap := len) (l := len) (h := len) (s := true) kn (.inr ⟨lo, kk, rfl, hl⟩) (.inl ⟨rfl, rfl⟩) (Nat.le_refl _) (Nat.le_refl _)
  simp only [execOp, kn.eval hx, Instr.sliceAt, Sem.run_bind, ht, Result.andThen_ok, Instr.slice, Option.map_none, hs, Sem.run_pure]
  simp only [Option.map_some, Option.map_none] at hb ⊢
  rw [hb w]
  simp
/-- Its first number gone. -/
theorem ch_tail_vec {d : Option Tmp} {ty : TypeId} {p : String} {af : Array Edge} {g : Option (Nat × Bool)} {t : TypeId} {x lo : Operand} {v : Int} {kk : IntKind} (ht : ∀ w, (underlying t).run P w = .ok (.slice T) w) (hs : ∀ w, (sizeOf T).run P w = .ok 1 w) (hx : evO σ x = some sv) (hl : evO σ lo = some (.int kk 1)) :
    Chg P B σ (VecA T enc 0 (sv, v :: xs) :: Fr) ⟨d, .slice t x (some lo) none none, ty, p, af, g⟩ (fun v' H' => cell1 v' = true ∧ H' = VecA T enc 0 (v', xs) :: Fr) := by
  intro a w kn hh
  rcases holds_vec hh with ⟨h1, _, _⟩ | ⟨bd, pre, rest, k, hk, h1, h3⟩
  · cases h1
  · subst h1
    by_cases hlast : 1 < (v :: xs).length + k
    · have e := ev_slice (B := B) (H := row bd (pre ++ (v :: xs).map enc ++ rest) T :: Fr) (d := d) (ty := ty) (p := p) (af := af) (g := g) (hi := none) (h := (v :: xs).length) (l := 1) (m := pre.length + 1) ht hs hx (.inr ⟨lo, kk, rfl, hl⟩) (.inl ⟨rfl, rfl⟩) (by simp) (by omega) (.inl hlast) (by omega)
      refine ⟨_, w, e a w kn h3, _, .inl rfl, _, ⟨rfl, rfl⟩, ?_⟩
      refine vec_rowp (pre := pre ++ [enc v]) (rest := rest) (k := k) (by simp) (by simp <;> omega) hk (by simp) ?_
      simpa using h3
    · simp only [List.length_cons] at hlast
      have hxs : xs = [] := List.length_eq_zero_iff.1 (by omega)
      have hk0 : k = 0 := by omega
      subst hxs; subst hk0
      have e := ev_slice_all (B := B) (H := row bd (pre ++ [v].map enc ++ rest) T :: Fr) (d := d) (ty := ty) (p := p) (af := af) (g := g) (len := 1) ht hs hx hl
      refine ⟨_, w, e a w kn h3, _, .inl rfl, _, ⟨rfl, rfl⟩, ?_⟩
      refine vec_rowp (pre := pre) (rest := enc v :: rest) (k := 0) (by simp) (by simp) (Nat.zero_le _) rfl ?_
      simpa using h3
end
end Go.Proofs.YtbfheafpecgphaaGreat
