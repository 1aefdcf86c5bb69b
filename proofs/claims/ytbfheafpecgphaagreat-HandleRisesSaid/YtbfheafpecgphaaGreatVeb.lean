/- A small logic of owned blocks: slices of numbers, put behind one another. Conditions: none. -/
import Derived.Test.YtbfheafpecgphaaGreatVec
set_option linter.unusedSimpArgs false
set_option linter.unusedVariables false
set_option linter.unnecessarySimpa false
set_option linter.unusedSectionVars false
namespace Go.Proofs.YtbfheafpecgphaaGreat
open Go
section
variable {B : World} {n : Nat} {D : List Deferred} {σ : Env} {H Fr : List HP} {P : Program} {K : Act → World → Prop} {T : TypeId} {enc : Int → Value} {sv : Value} {xs : List Int} {w : World}
theorem setAll_cons (l : List Value) (i : Nat) (v : Value) (vs : List Value) : setAll l i (v :: vs) = setAll (l.set i v) (i + 1) vs := rfl
theorem vec_puts : ∀ (ys xs : List Int) (pre rest : List Value), ys.length ≤ rest.length → setAll (pre ++ xs.map enc ++ rest) (pre.length + xs.length) (ys.map enc) = pre ++ (xs ++ ys).map enc ++ rest.drop ys.length
  | [], xs, pre, rest, _ => by simp [setAll]
  | y :: ys, xs, pre, rest, h => by
    have h1 := vec_put (pre := pre) (xs := xs) (rest := rest) (enc := enc) (v := y) (by simp at h; omega)
    simp only [setAll] at h1
    rw [List.map_cons, setAll_cons, h1]
    have h2 := vec_puts ys (xs ++ [y]) pre (rest.drop 1) (by simp at h ⊢; omega)
    rw [show pre.length + xs.length + 1 = pre.length + (xs ++ [y]).length by simp; omega, h2]
    simp [Nat.add_comm]
/-- Numbers put behind it. -/
theorem ch_append_vecs {d : Option Tmp} {ty : TypeId} {p : String} {af : Array Edge} {g : Option (Nat × Bool)} {t : TypeId} {x y : Operand} {at_ : Array TypeId} {u : TypeId} {ud : TypeDesc} {ys : List Int} {z yv : Value}
    (ha : at_[0]? = some t) (ha' : at_[1]? = some u) (ht : ∀ w, (underlying t).run P w = .ok (.slice T) w) (hu : ∀ w, (underlying u).run P w = .ok ud w) (hud : ∃ q, ud = .slice q) (hs : ∀ w, (sizeOf T).run P w = .ok 1 w) (hz : ∀ w, (zeroValue T).run P w = .ok z w) (hz1 : cell1 z = true) (he1 : ∀ v, cell1 (enc v) = true) (hfb : fewBytes P T)
    (hx : evO σ x = some sv) (hy : evO σ y = some yv) (hr : SlR B Fr yv (ys.map enc)) (h0 : 0 < ys.length) (hn : xs.length + ys.length ≤ 1000000000) :
    Chg P B σ (VecA T enc 0 (sv, xs) :: Fr) ⟨d, .call ⟨.builtin .append, #[x, y], at_⟩, ty, p, af, g⟩ (fun v' H' => cell1 v' = true ∧ H' = VecA T enc 0 (v', xs ++ ys) :: Fr) := by
  have hall : (ys.map enc).all cell1 = true := by simp [he1]
  intro a w kn hh
  rcases holds_vec hh with ⟨h1, h2, h3⟩ | ⟨bd, pre, rest, k, hk, h1, h3⟩
  · subst h2; subst h1
    obtain ⟨r, w', e1, u, e2, H', ⟨bn, cn, rest, e3, _, e4, rfl⟩, e5⟩ := ch_append_nil (H := Fr) (d := d) (ty := ty) (p := p) (af := af) (g := g) ha ha' ht hu hud hs hz hz1 hfb hx hy hr (by simpa using h0) (by simpa using hn) a w kn h3
    subst e4
    refine ⟨r, w', e1, _, e2, _, ⟨rfl, rfl⟩, ?_⟩
    exact vec_row (xs := ys) (by simp) (by simpa using e3.symm) e5
  · subst h1
    obtain ⟨r, w', e1, u, e2, H', hY, e5⟩ := ch_append (H := row bd (pre ++ xs.map enc ++ rest) T :: Fr) (d := d) (ty := ty) (p := p) (af := af) (g := g) (b := bd) ha ha' ht hu hud hs hz hz1 hfb hx hy (hr.cons _) (by simp; omega) (by omega) (by simpa using hn) hall a w kn h3
    rw [List.length_map] at hY
    rcases hY with ⟨g1, rfl, rfl⟩ | ⟨g1, bn, cn, rest', g2, _, rfl, rfl⟩
    · refine ⟨r, w', e1, _, e2, _, ⟨rfl, rfl⟩, ?_⟩
      rw [vec_puts ys xs pre rest (by omega)] at e5
      exact vec_rowp (k := k - ys.length) (by simp) (by omega) (by simp; omega) rfl e5
    · refine ⟨r, w', e1, _, e2, _, ⟨rfl, rfl⟩, ?_⟩
      have e : (xs ++ ys).map enc ++ rest' = ((pre ++ xs.map enc ++ rest).drop pre.length).take xs.length ++ ys.map enc ++ rest' := by simp
      rw [← e] at e5
      exact vec_row (by simp) (by simpa using g2.symm) ((e5.front 1 rfl).tail)
theorem ch_bs2 {d : Option Tmp} {ty : TypeId} {p : String} {af : Array Edge} {g : Option (Nat × Bool)} {t e : TypeId} {x0 x1 : Operand} {v0 v1 z : Value} (ht : ∀ w, (underlying t).run P w = .ok (.slice e) w) (hs : ∀ w, (sizeOf e).run P w = .ok 1 w) (hz : ∀ w, (zeroValue e).run P w = .ok z w) (hz1 : cell1 z = true) (h0 : evO σ x0 = some v0) (h1 : evO σ x1 = some v1) (c0 : cell1 v0 = true) (c1 : cell1 v1 = true) :
    Chg P B σ H ⟨d, .buildSlice t 2 #[(0, x0), (1, x1)], ty, p, af, g⟩ (fun u H' => ∃ b, u = .slice (some ⟨b, 0, none⟩) 2 2 ∧ H' = row b [v0, v1] e :: H) := by
  intro a w kn hh
  refine ⟨.value (.slice (some ⟨w.heap.size, 0, none⟩) 2 2), { w with heap := w.heap.push (.cells #[v0, v1] e) }, ?_, _, .inl rfl, _, ⟨_, rfl, rfl⟩, by simpa [row] using hh.new _⟩
  simp [execOp, Instr.buildSlice, ht, hs, Instr.fill, run_newRow, hz, kn.eval h0, kn.eval h1, cell1_cells hz1, cell1_cells c0, cell1_cells c1]
  congr 2
  apply Array.ext
  · simp
  · intro i h1 h2
    have : i = 0 ∨ i = 1 := by simp at h2; omega
    rcases this with rfl | rfl <;> simp
/-- It has an element, so a row. -/
theorem go_vecsa (h0 : 0 < xs.length) (h : ∀ b off cap, sv = .slice (some ⟨b, off, none⟩) xs.length cap → GO B n D σ (VecA T enc 0 (sv, xs) :: Fr) K) : GO B n D σ (VecA T enc 0 (sv, xs) :: Fr) K := fun a w st => by
  rcases holds_vec st.holds with ⟨e1, _, _⟩ | ⟨bd, pre, rest, k, _, e, _⟩
  · rw [e1] at h0; exact absurd h0 (Nat.lt_irrefl 0)
  · exact h _ _ _ e a w st
/-- A slice value whose elements, of so many cells each, read so wherever the list holds. -/
structure SlN (B : World) (H : List HP) (v : Value) (m : Nat) (cs : List (List Value)) : Prop where
  ex : ∃ q cap, v = .slice q cs.length cap ∧ ∀ w, Holds B H w → ∀ i c, cs[i]? = some c → ∃ b off, q = some ⟨b, off, none⟩ ∧ c.length = m ∧ ∀ j, j < m → w.cell? ⟨b, off + (i * m + j), none⟩ = c[j]?
theorem SlN.arg {q : Option Addr} {k cap m : Nat} {z : Nat → List Value} [HasOld H B] (h : ArgRow B q k m z) : SlN B H (.slice q k cap) m ((List.range k).map z) := by
  refine ⟨q, cap, by simp, fun w hw i c hi => ?_⟩
  obtain ⟨hi1, rfl⟩ := List.getElem?_eq_some_iff.1 hi
  simp only [List.length_map, List.length_range] at hi1
  simp only [List.getElem_map, List.getElem_range]
  obtain ⟨b, off, rfl, hl, hc⟩ := h.cell i hi1
  refine ⟨b, off, rfl, hl, fun j hj => ?_⟩
  have h2 := hc j hj
  rw [List.getElem?_eq_getElem (by omega)] at h2 ⊢
  exact hw.oldcell h2
theorem SlN.cons {v : Value} {m : Nat} {cs : List (List Value)} (h : SlN B H v m cs) (A : HP) : SlN B (A :: H) v m cs := by
  obtain ⟨q, cap, e, hc⟩ := h.ex
  exact ⟨q, cap, e, fun w hw => hc w hw.tail⟩
theorem SlN.nil {m : Nat} : SlN B H (.slice none 0 0) m [] := ⟨none, 0, rfl, fun _ _ i c hi => by simp at hi⟩
theorem SlN.row {b off cap m : Nat} {cs : List (List Value)} {rs : List Value} {T1 : TypeId} {U : List Value → List HP} [RowU H b rs T1 U] (h : ∀ i c, cs[i]? = some c → c.length = m ∧ ∀ j, j < m → rs[off + (i * m + j)]? = c[j]?) : SlN B H (.slice (some ⟨b, off, none⟩) cs.length cap) m cs := by
  refine ⟨some ⟨b, off, none⟩, cap, rfl, fun w hw i c hi => ⟨b, off, rfl, (h i c hi).1, fun j hj => ?_⟩⟩
  rw [hw.ucell (b := b) (off + (i * m + j)), (h i c hi).2 j hj]
theorem go_sln {v : Value} {m : Nat} {cs : List (List Value)} (hr : SlN B H v m cs) (h0 : 0 < cs.length) (h : ∀ b off cap, v = .slice (some ⟨b, off, none⟩) cs.length cap → GO B n D σ H K) : GO B n D σ H K := fun a w st => by
  obtain ⟨q, cap, e, hc⟩ := hr.ex
  obtain ⟨b, off, rfl, _⟩ := hc w st.holds 0 _ (List.getElem?_eq_getElem h0)
  exact h _ _ _ e a w st
theorem go_slq {q : Option Addr} {k cap m : Nat} {cs : List (List Value)} (hr : SlN B H (.slice q k cap) m cs) (h0 : 0 < cs.length) (h : ∀ b off, q = some ⟨b, off, none⟩ → GO B n D σ H K) : GO B n D σ H K :=
  go_sln hr h0 fun b off _ e => h b off (by injection e)
theorem ev_loadN {d : Option Tmp} {ty : TypeId} {p : String} {af : Array Edge} {g : Option (Nat × Bool)} {t : TypeId} {x : Operand} {b off k i m cap : Nat} {cs : List (List Value)} {c : List Value} (ht : ∀ w, (isAgg t).run P w = .ok true w) (hs : ∀ w, (sizeOf t).run P w = .ok m w) (hr : SlN B H (.slice (some ⟨b, off, none⟩) k cap) m cs) (hx : evO σ x = some (.pointer (some ⟨b, off + i * m, none⟩))) (hi : cs[i]? = some c) :
    Evs P B σ H ⟨d, .load t x, ty, p, af, g⟩ (.agg c.toArray) := by
  intro a w kn hh
  obtain ⟨q, cp, e, hc⟩ := hr.ex
  obtain ⟨b', off', e', hl, h2⟩ := hc w hh i c hi
  cases e
  cases e'
  have h1 : ∀ j, j < c.length → w.cell? ⟨b, (off + i * m) + j, none⟩ = c[j]? := fun j hj => by
    rw [Nat.add_assoc]; exact h2 j (by omega)
  have h3 := run_loadCellsS (P := P) h1 m 0 #[] (by omega)
  rw [List.drop_zero, List.take_of_length_le (by omega)] at h3
  simp [execOp, kn.eval hx, Instr.loadAt, Instr.sureAddr, loadVar, ht, hs, loadCells, h3, Sem.run]
theorem ret_4 {fn : Func} {R : Ending → World → Prop} {x y z y4 : ResultVar} {v u t v4 : Value} (hr : fn.results = #[x, y, z, y4]) (h1 : ResV P σ H x v) (h2 : ResV P σ H y u) (h3 : ResV P σ H z t) (h4 : ResV P σ H y4 v4) (h : ∀ w, Holds B H w → R (.returned (.tuple #[v, u, t, v4])) w) : GO B n [] σ H (fnX P fn R).ret := fun a w s => by
  refine ⟨s.defers, .tuple #[v, u, t, v4], ?_, h w s.holds⟩
  have e1 := h1.run s.env s.holds
  have e2 := h2.run s.env s.holds
  have e3 := h3.run s.env s.holds
  have e4 := h4.run s.env s.holds
  simp [results, hr] at e1 e2 e3 e4 ⊢
  cases x <;> cases y <;> cases z <;> cases y4 <;> simp_all
end
end Go.Proofs.YtbfheafpecgphaaGreat
