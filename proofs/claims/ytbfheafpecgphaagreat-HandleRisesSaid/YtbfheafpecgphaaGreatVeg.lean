/- A small logic of owned blocks: a slice whose elements have so many cells each, that grows at its end and is used up at its front. Conditions: none. -/
import Derived.Test.YtbfheafpecgphaaGreatVeb
import Derived.Test.YtbfheafpecgphaaGreatSlk
set_option linter.unusedSimpArgs false
set_option linter.unusedVariables false
set_option linter.unnecessarySimpa false
set_option linter.unusedSectionVars false
namespace Go.Proofs.YtbfheafpecgphaaGreat
open Go
section
variable {B : World} {σ : Env} {H Fr : List HP} {P : Program} {d : Option Tmp} {ty : TypeId} {p : String} {af : Array Edge} {g : Option (Nat × Bool)} {w : World}
/-- A part of a struct. -/
theorem ev_fieldA {H : List HP} {S f t off m : Nat} {fs : Array Field} {x : Operand} {cs : List Value} (hS : ∀ w, (underlying S).run P w = .ok (.struct fs) w) (hf : (fs[f]?).map (fun fd => (fd.type, fd.offset)) = some (t, off)) (ha : ∀ w, (isAgg t).run P w = .ok true w) (hs : ∀ w, (sizeOf t).run P w = .ok m w) (hx : evO σ x = some (.agg cs.toArray)) :
    Evs P B σ H ⟨d, .field S x f, ty, p, af, g⟩ (.agg ((cs.drop off).take m).toArray) := fun a w kn _ => by
  cases e : fs[f]? with
  | none => rw [e] at hf; cases hf
  | some fd =>
    rw [e] at hf
    simp only [Option.map_some, Option.some.injEq, Prod.mk.injEq] at hf
    obtain ⟨h1, h2⟩ := hf
    subst h1; subst h2
    simp [execOp, Instr.field, hS, e, kn.eval hx, asAgg, part, ha, hs]
theorem ev_field1 {H : List HP} {S f t off : Nat} {fs : Array Field} {x : Operand} {cs : List Value} {v : Value} (hS : ∀ w, (underlying S).run P w = .ok (.struct fs) w) (hf : (fs[f]?).map (fun fd => (fd.type, fd.offset)) = some (t, off)) (ha : ∀ w, (isAgg t).run P w = .ok false w) (hx : evO σ x = some (.agg cs.toArray)) (hv : cs[off]? = some v) :
    Evs P B σ H ⟨d, .field S x f, ty, p, af, g⟩ v := fun a w kn _ => by
  cases e : fs[f]? with
  | none => rw [e] at hf; cases hf
  | some fd =>
    rw [e] at hf
    simp only [Option.map_some, Option.some.injEq, Prod.mk.injEq] at hf
    obtain ⟨h1, h2⟩ := hf
    subst h1; subst h2
    simp [execOp, Instr.field, hS, e, kn.eval hx, asAgg, part, ha, hv]
/-- A slice value of n elements, m cells each, whose cells read so wherever the list holds. -/
structure SlM (B : World) (H : List HP) (v : Value) (m n : Nat) (cs : List Value) : Prop where
  ex : ∃ q cap, v = .slice q n cap ∧ cs.length = n * m ∧ ∀ w, Holds B H w → ∀ i, i < n * m → ∃ b off, q = some ⟨b, off, none⟩ ∧ w.cell? ⟨b, off + i, none⟩ = cs[i]?
theorem SlM.row {b off n cap m : Nat} {cs xs : List Value} {T : TypeId} {U : List Value → List HP} [RowU H b cs T U] (h : (cs.drop off).take (n * m) = xs) (hl : xs.length = n * m) : SlM B H (.slice (some ⟨b, off, none⟩) n cap) m n xs := by
  refine ⟨_, cap, rfl, hl, fun w hh i hi => ⟨b, off, rfl, ?_⟩⟩
  rw [hh.ucell (b := b) (off + i), ← h, List.getElem?_take, if_pos hi, List.getElem?_drop]
theorem SlM.first {v : Value} {m n : Nat} {cs : List Value} (h : SlM B H v m n cs) (hh : Holds B H w) : (Builtin.firstCells m n v).run P w = .ok cs.toArray w := by
  obtain ⟨q, cap, rfl, hl, hc⟩ := h.ex
  rcases Nat.eq_zero_or_pos (n * m) with e0 | hpos
  · have : cs = [] := by rw [← List.length_eq_zero_iff]; omega
    subst this
    cases q <;> simp [Builtin.firstCells, loadCells, e0, loadCellsFrom]
  · obtain ⟨b, off, rfl, _⟩ := hc w hh 0 hpos
    simp only [Builtin.firstCells, loadCells]
    have := run_loadCellsS (P := P) (b := b) (off := off) (cs := cs) (w := w) (fun i hi => by
      obtain ⟨b', off', e', h'⟩ := hc w hh i (by omega)
      cases e'; exact h') (n * m) 0 #[] (by omega)
    rw [this]
    simp [List.take_of_length_le (Nat.le_of_eq hl)]
theorem zeroCells_size (z : Array Value) (n : Nat) : (Builtin.zeroCells z n).size = n * z.size := by simp [Builtin.zeroCells]
theorem slcap_b {n cap bytes : Nat} (hn : n ≤ 1000000000) (hc : cap ≤ n) (hb : bytes ≤ 65536) : Builtin.nextslicecap n cap * bytes ≤ 281474976710656 := by
  have h3 : Builtin.nextslicecap n cap ≤ 4000000000 := by
    unfold Builtin.nextslicecap
    split
    · omega
    · split
      · omega
      · simp only [Builtin.growBy]
        repeat' split
        all_goals omega
  calc _ ≤ 4000000000 * 65536 := Nat.mul_le_mul h3 hb
    _ ≤ _ := by omega
/-- An append behind a row. -/
theorem ch_appendM {t e : TypeId} {x y : Operand} {at_ : Array TypeId} {u : TypeId} {ud : TypeDesc} {b off len cap m n : Nat} {cs xs : List Value} {T : TypeId} {U : List Value → List HP} {z sv : Value}
    (ha : at_[0]? = some t) (ha' : at_[1]? = some u) (ht : ∀ w, (underlying t).run P w = .ok (.slice e) w) (hu : ∀ w, (underlying u).run P w = .ok ud w) (hud : ∃ q, ud = .slice q) (hs : ∀ w, (sizeOf e).run P w = .ok m w) (hz : ∀ w, (zeroValue e).run P w = .ok z w) (hz1 : z.cells.size = m) (hfb : fewBytes P e)
    (hx : evO σ x = some (.slice (some ⟨b, off, none⟩) len cap)) (hy : evO σ y = some sv) (hr : SlM B H sv m n xs) [r : RowU H b cs T U] (h1 : off + cap * m ≤ cs.length) (hlc : len ≤ cap) (hn : len + n ≤ 1000000000)
    (hv : xs.all cell1 = true) :
    Chg P B σ H ⟨d, .call ⟨.builtin .append, #[x, y], at_⟩, ty, p, af, g⟩ (fun v H' =>
      (len + n ≤ cap ∧ v = .slice (some ⟨b, off, none⟩) (len + n) cap ∧ H' = U (setAll cs (off + len * m) xs)) ∨
      (cap < len + n ∧ ∃ bn cn rest, len + n ≤ cn ∧ rest.length = (cn - (len + n)) * m ∧ v = .slice (some ⟨bn, 0, none⟩) (len + n) cn ∧ H' = row bn ((cs.drop off).take (len * m) ++ xs ++ rest) e :: H)) := by
  obtain ⟨ti, hti, hb, hb0⟩ := ti_of hfb
  intro a w kn hh
  have hlm : len * m ≤ cap * m := Nat.mul_le_mul_right m hlc
  have e4 := (SlM.row (B := B) (H := H) (b := b) (off := off) (n := len) (cap := cap) (m := m) (xs := (cs.drop off).take (len * m)) rfl (by simp; omega))
  obtain ⟨q, rfl⟩ := hud
  obtain ⟨sq, scap, e0, hl, _⟩ := hr.ex
  subst e0
  by_cases hcap : len + n ≤ cap
  · have hnm : (len + n) * m ≤ cap * m := Nat.mul_le_mul_right m hcap
    rw [Nat.add_mul] at hnm
    obtain ⟨w', e1, hw'⟩ := run_storeCells (P := P) xs (off + len * m) 0 r hh (by omega) (fun v h => List.all_eq_true.1 hv v h)
    have e2 := hr.first (P := P) hh
    refine ⟨.value (.slice (some ⟨b, off, none⟩) (len + n) cap), w', ?_, _, .inl rfl, _, .inl ⟨hcap, rfl, rfl⟩, by simpa using hw'⟩
    simp only [execOp, resolve, Sem.run_bind, Sem.run_pure, Result.andThen_ok]
    simp [invoke, builtin, Builtin.append_, ha, ha', hu, kn.eval hx, kn.eval hy, ht, hs, Builtin.lenOf, hcap, e2, add_eq]
    simp [e1]
  · have hb2 := slcap_b (n := len + n) (cap := cap) hn (by omega) hb
    have hq : (Question.appendCap (len + n) cap e).forced = false := rfl
    have hcut : ∃ cn, (Question.appendCap (len + n) cap e).cut (w.tape w.drawn (.appendCap (len + n) cap e)) = cn ∧ len + n ≤ cn := ⟨_, rfl, by simp [Question.cut]⟩
    obtain ⟨cn, ec, hcn⟩ := hcut
    obtain ⟨zl, hzl⟩ : ∃ l : List Value, Builtin.zeroCells z.cells (cn - (len + n)) = l.toArray := ⟨_, (Array.toArray_toList).symm⟩
    have hzs : zl.length = (cn - (len + n)) * m := by have := zeroCells_size z.cells (cn - (len + n)); rw [hzl, hz1] at this; simpa using this
    refine ⟨.value (.slice (some ⟨w.heap.size, 0, none⟩) (len + n) cn), { w with drawn := w.drawn + 1, heap := w.heap.push (.cells ((cs.drop off).take (len * m) ++ xs ++ zl).toArray e) }, ?_, _, .inl rfl, _, .inr ⟨by omega, w.heap.size, cn, zl, hcn, hzs, rfl, rfl⟩, by simpa [row] using (hh.drew (w.drawn + 1)).new (.cells ((cs.drop off).take (len * m) ++ xs ++ zl).toArray e)⟩
    · simp only [execOp, resolve, Sem.run_bind, Sem.run_pure, Result.andThen_ok]
      have e2w : (Builtin.firstCells m n (.slice sq n scap)).run P w.drew = .ok xs.toArray w.drew := hr.first (P := P) (hh.drew (w.drawn + 1))
      have e4w : (Builtin.firstCells m len (Value.slice (some ⟨b, off, none⟩) len cap)).run P w.drew = .ok ((cs.drop off).take (len * m)).toArray w.drew := e4.first (P := P) (hh.drew (w.drawn + 1))
      simp only [invoke, builtin, Builtin.append_, ha, ha', Sem.run_bind, hu, kn.eval hx, kn.eval hy, ht, hs, Builtin.lenOf, Result.andThen_ok, Sem.run_pure, List.map_toArray, List.map_cons, List.map_nil, List.getElem?_toArray, List.getElem?_cons_zero, List.getElem?_cons_succ]
      simp [hcap, hti, hq, ec, Nat.not_lt.2 hb2, hb0, e2w, e4w, hz, run_newRow, show ¬ (2 ^ 63 - 1 : Int) < (len : Int) + n by omega]
      have e9 : ((List.take (len * m) (List.drop off cs)).toArray ++ (xs.toArray ++ Builtin.zeroCells z.cells (cn - (len + n)))) = (List.take (len * m) (List.drop off cs) ++ (xs ++ zl)).toArray := by rw [hzl]; simp
      rw [e9]; rfl
/-- An append behind nil. -/
theorem ch_appendM_nil {t e : TypeId} {x y : Operand} {at_ : Array TypeId} {u : TypeId} {ud : TypeDesc} {m n : Nat} {xs : List Value} {z sv : Value}
    (ha : at_[0]? = some t) (ha' : at_[1]? = some u) (ht : ∀ w, (underlying t).run P w = .ok (.slice e) w) (hu : ∀ w, (underlying u).run P w = .ok ud w) (hud : ∃ q, ud = .slice q) (hs : ∀ w, (sizeOf e).run P w = .ok m w) (hz : ∀ w, (zeroValue e).run P w = .ok z w) (hz1 : z.cells.size = m) (hfb : fewBytes P e)
    (hx : evO σ x = some (.slice none 0 0)) (hy : evO σ y = some sv) (hr : SlM B H sv m n xs) (hn0 : 0 < n) (hn : n ≤ 1000000000) :
    Chg P B σ H ⟨d, .call ⟨.builtin .append, #[x, y], at_⟩, ty, p, af, g⟩ (fun v H' => ∃ bn cn rest, n ≤ cn ∧ rest.length = (cn - n) * m ∧ v = .slice (some ⟨bn, 0, none⟩) n cn ∧ H' = row bn (xs ++ rest) e :: H) := by
  obtain ⟨ti, hti, hb, hb0⟩ := ti_of hfb
  intro a w kn hh
  obtain ⟨q, rfl⟩ := hud
  obtain ⟨sq, scap, e0, hl, _⟩ := hr.ex
  subst e0
  have hb2 := slcap_b (n := n) (cap := 0) hn (by omega) hb
  have hq : (Question.appendCap n 0 e).forced = false := rfl
  have hcut : ∃ cn, (Question.appendCap n 0 e).cut (w.tape w.drawn (.appendCap n 0 e)) = cn ∧ n ≤ cn := ⟨_, rfl, by simp [Question.cut]⟩
  obtain ⟨cn, ec, hcn⟩ := hcut
  obtain ⟨zl, hzl⟩ : ∃ l : List Value, Builtin.zeroCells z.cells (cn - n) = l.toArray := ⟨_, (Array.toArray_toList).symm⟩
  have hzs : zl.length = (cn - n) * m := by have := zeroCells_size z.cells (cn - n); rw [hzl, hz1] at this; simpa using this
  refine ⟨.value (.slice (some ⟨w.heap.size, 0, none⟩) n cn), { w with drawn := w.drawn + 1, heap := w.heap.push (.cells (xs ++ zl).toArray e) }, ?_, _, .inl rfl, _, ⟨w.heap.size, cn, zl, hcn, hzs, rfl, rfl⟩, by simpa [row] using (hh.drew (w.drawn + 1)).new (.cells (xs ++ zl).toArray e)⟩
  · simp only [execOp, resolve, Sem.run_bind, Sem.run_pure, Result.andThen_ok]
    have e2w : (Builtin.firstCells m n (.slice sq n scap)).run P w.drew = .ok xs.toArray w.drew := hr.first (P := P) (hh.drew (w.drawn + 1))
    have e4w : (Builtin.firstCells m 0 (Value.slice none 0 0)).run P w.drew = .ok #[] w.drew := by simp [Builtin.firstCells]
    simp only [invoke, builtin, Builtin.append_, ha, ha', Sem.run_bind, hu, kn.eval hx, kn.eval hy, ht, hs, Builtin.lenOf, Result.andThen_ok, Sem.run_pure, List.map_toArray, List.map_cons, List.map_nil, List.getElem?_toArray, List.getElem?_cons_zero, List.getElem?_cons_succ]
    simp [show ¬ n = 0 by omega, hti, hq, ec, Nat.not_lt.2 hb2, hb0, e2w, e4w, hz, run_newRow, show ¬ (2 ^ 63 - 1 : Int) < (n : Int) by omega]
    have e9 : (xs.toArray ++ Builtin.zeroCells z.cells (cn - n)) = (xs ++ zl).toArray := by rw [hzl]; simp
    rw [e9]; rfl
end
/-- What a variable's slice value leads to. -/
def VecG {α : Type} (T : TypeId) (m : Nat) (enc : α → List Value) (_ : Nat) (x : Value × List α) : HP := hex fun (o : Option (Nat × List Value × List Value × Nat)) => match o with
  | none => pr (x.2 = [] ∧ x.1 = .slice none 0 0)
  | some (bd, pre, rest, k) => grp [row bd (pre ++ x.2.flatMap enc ++ rest) T, pr (k * m ≤ rest.length ∧ x.1 = .slice (some ⟨bd, pre.length, none⟩) x.2.length (x.2.length + k))]
/-- Values of m cells. -/
structure EncW {α : Type} (m : Nat) (enc : α → List Value) : Prop where
  len : ∀ a, (enc a).length = m
  c1 : ∀ a, (enc a).all cell1 = true
theorem flat_len {α : Type} {m : Nat} {enc : α → List Value} (he : EncW m enc) : ∀ xs : List α, (xs.flatMap enc).length = xs.length * m
  | [] => by simp
  | a :: t => by simp only [List.flatMap_cons, List.length_append, he.len, flat_len he t, List.length_cons, Nat.add_mul, Nat.one_mul]; omega
theorem flat_c1 {α : Type} {m : Nat} {enc : α → List Value} (he : EncW m enc) (xs : List α) : (xs.flatMap enc).all cell1 = true := by
  rw [List.all_eq_true]; intro v hv
  obtain ⟨a, _, ha⟩ := List.mem_flatMap.1 hv
  exact List.all_eq_true.1 (he.c1 a) v ha
theorem flat_get {α : Type} {m : Nat} {enc : α → List Value} (he : EncW m enc) : ∀ (xs : List α) (i : Nat) (a : α), xs[i]? = some a → ∀ j, j < m → (xs.flatMap enc)[i * m + j]? = (enc a)[j]?
  | [], i, a, h, j, hj => by cases h
  | x :: t, 0, a, h, j, hj => by
    cases h
    rw [List.flatMap_cons, Nat.zero_mul, Nat.zero_add, List.getElem?_append_left (by rw [he.len]; exact hj)]
  | x :: t, i + 1, a, h, j, hj => by
    rw [List.flatMap_cons, List.getElem?_append_right (by rw [he.len, Nat.add_mul]; omega), he.len, show (i + 1) * m + j - m = i * m + j by rw [Nat.add_mul]; omega]
    exact flat_get he t i a h j hj
theorem setAll_app : ∀ (vs a b c : List Value), b.length = vs.length → setAll (a ++ b ++ c) a.length vs = a ++ vs ++ c
  | [], a, b, c, h => by cases b with
    | nil => rfl
    | cons _ _ => cases h
  | v :: vs, a, b, c, h => by
    cases b with
    | nil => cases h
    | cons x b =>
      simp only [setAll]
      have e : (a ++ (x :: b) ++ c).set a.length v = (a ++ [v]) ++ b ++ c := by simp
      rw [e, show a.length + 1 = (a ++ [v]).length by simp, setAll_app vs (a ++ [v]) b c (by simpa using h)]
      simp
section
variable {α : Type} {B : World} {n : Nat} {D : List Deferred} {σ : Env} {H Fr : List HP} {P : Program} {K : Act → World → Prop} {T : TypeId} {m : Nat} {enc : α → List Value} {sv : Value} {xs : List α} {w : World}
theorem vecg_nil (h : Holds B Fr w) : Holds B (VecG T m enc 0 (.slice none 0 0, []) :: Fr) w := Holds.unhex none (h.unpr ⟨rfl, rfl⟩)
theorem vecg_rowp {bd q c k : Nat} {pre rest : List Value} (hm : q = xs.length) (hc : c = q + k) (hk : k * m ≤ rest.length) {o : Nat} (ho : o = pre.length) (h : Holds B (row bd (pre ++ xs.flatMap enc ++ rest) T :: Fr) w) : Holds B (VecG T m enc 0 (.slice (some ⟨bd, o, none⟩) q c, xs) :: Fr) w := by
  subst hm; subst hc; subst ho
  refine Holds.unhex (some (bd, pre, rest, k)) (Holds.ungrp (l := [row bd (pre ++ xs.flatMap enc ++ rest) T, pr _]) ?_)
  exact (h.unpr ⟨hk, rfl⟩).back 1 (by simp)
theorem holds_vecg (h : Holds B (VecG T m enc 0 (sv, xs) :: Fr) w) : (xs = [] ∧ sv = .slice none 0 0 ∧ Holds B Fr w) ∨ ∃ bd pre rest k, k * m ≤ rest.length ∧ sv = .slice (some ⟨bd, pre.length, none⟩) xs.length (xs.length + k) ∧ Holds B (row bd (pre ++ xs.flatMap enc ++ rest) T :: Fr) w := by
  obtain ⟨x, hx⟩ := h.hex
  cases x with
  | none => have h2 := hx.pr; exact .inl ⟨h2.1.1, h2.1.2, h2.2⟩
  | some p => have h2 := (hx.grp.front 1 rfl).pr; exact .inr ⟨_, _, _, _, h2.1.1, h2.1.2, h2.2⟩
theorem go_vecgq (h : ∀ q cap, sv = .slice q xs.length cap → (∀ i, i < xs.length → ∃ b off, q = some ⟨b, off, none⟩) → GO B n D σ (VecG T m enc 0 (sv, xs) :: Fr) K) : GO B n D σ (VecG T m enc 0 (sv, xs) :: Fr) K := fun a w st => by
  rcases holds_vecg st.holds with ⟨e1, e2, _⟩ | ⟨bd, pre, rest, k, _, e, _⟩
  · exact h none 0 (by rw [e2, e1]; rfl) (fun i hi => by rw [e1] at hi; exact absurd hi (Nat.not_lt_zero _)) a w st
  · exact h _ _ e (fun i hi => ⟨_, _, rfl⟩) a w st
theorem vecg_sln (he : EncW m enc) {q : Option Addr} {cap : Nat} (i : Nat) (e : H[i]? = some (VecG T m enc 0 (.slice q xs.length cap, xs))) : SlN B H (.slice q xs.length cap) m (xs.map enc) := by
  refine ⟨q, cap, by simp, fun w hw j c hc => ?_⟩
  rw [List.getElem?_map] at hc
  cases hx : xs[j]? with
  | none => rw [hx] at hc; cases hc
  | some a =>
    rw [hx] at hc; cases hc
    have hj : j < xs.length := (List.getElem?_eq_some_iff.1 hx).1
    rcases holds_vecg (hw.front i e) with ⟨h1, _, _⟩ | ⟨bd, pre, rest, k, _, h1, h2⟩
    · rw [h1] at hj; exact absurd hj (Nat.not_lt_zero _)
    · injection h1 with h1 _ _
      refine ⟨bd, pre.length, h1, he.len a, fun r hr => ?_⟩
      have hlt : j * m + r < (xs.flatMap enc).length := by
        rw [flat_len he]
        calc j * m + r < j * m + m := by omega
          _ = (j + 1) * m := by rw [Nat.add_mul, Nat.one_mul]
          _ ≤ xs.length * m := Nat.mul_le_mul_right m hj
      rw [h2.ucell (b := bd) (pre.length + (j * m + r)), List.append_assoc, List.getElem?_append_right (by omega), Nat.add_sub_cancel_left, List.getElem?_append_left hlt, flat_get he xs j a hx r hr]
theorem vecg_slm (he : EncW m enc) {q : Option Addr} {cap : Nat} (i : Nat) (e : H[i]? = some (VecG T m enc 0 (.slice q xs.length cap, xs))) : SlM B H (.slice q xs.length cap) m xs.length (xs.flatMap enc) := by
  refine ⟨q, cap, rfl, flat_len he xs, fun w hw j hj => ?_⟩
  rcases holds_vecg (hw.front i e) with ⟨h1, _, _⟩ | ⟨bd, pre, rest, k, _, h1, h2⟩
  · rw [h1] at hj; simp at hj
  · injection h1 with h1 _ _
    refine ⟨bd, pre.length, h1, ?_⟩
    rw [h2.ucell (b := bd) (pre.length + j), List.append_assoc, List.getElem?_append_right (by omega), Nat.add_sub_cancel_left, List.getElem?_append_left (by rw [flat_len he]; exact hj)]
/-- Elements put behind it. -/
theorem ch_append_vecg (he : EncW m enc) {d : Option Tmp} {ty : TypeId} {p : String} {af : Array Edge} {g : Option (Nat × Bool)} {t : TypeId} {x y : Operand} {at_ : Array TypeId} {u : TypeId} {ud : TypeDesc} {ys : List α} {z yv : Value}
    (ha : at_[0]? = some t) (ha' : at_[1]? = some u) (ht : ∀ w, (underlying t).run P w = .ok (.slice T) w) (hu : ∀ w, (underlying u).run P w = .ok ud w) (hud : ∃ q, ud = .slice q) (hs : ∀ w, (sizeOf T).run P w = .ok m w) (hz : ∀ w, (zeroValue T).run P w = .ok z w) (hz1 : z.cells.size = m) (hfb : fewBytes P T)
    (hx : evO σ x = some sv) (hy : evO σ y = some yv) (hr : SlM B Fr yv m ys.length (ys.flatMap enc)) (h0 : 0 < ys.length) (hn : xs.length + ys.length ≤ 1000000000) :
    Chg P B σ (VecG T m enc 0 (sv, xs) :: Fr) ⟨d, .call ⟨.builtin .append, #[x, y], at_⟩, ty, p, af, g⟩ (fun v' H' => cell1 v' = true ∧ H' = VecG T m enc 0 (v', xs ++ ys) :: Fr) := by
  intro a w kn hh
  have hrc : ∀ A : HP, SlM B (A :: Fr) yv m ys.length (ys.flatMap enc) := fun A => by
    obtain ⟨q, cap, e1, e2, e3⟩ := hr.ex
    exact ⟨q, cap, e1, e2, fun w hw => e3 w hw.tail⟩
  rcases holds_vecg hh with ⟨h1, h2, h3⟩ | ⟨bd, pre, rest, k, hk, h1, h3⟩
  · subst h2; subst h1
    obtain ⟨r, w', e1, u, e2, H', ⟨bn, cn, rest, e3, e3', e4, rfl⟩, e5⟩ := ch_appendM_nil (H := Fr) (d := d) (ty := ty) (p := p) (af := af) (g := g) ha ha' ht hu hud hs hz hz1 hfb hx hy hr h0 (by simpa using hn) a w kn h3
    subst e4
    refine ⟨r, w', e1, _, e2, _, ⟨rfl, rfl⟩, ?_⟩
    exact vecg_rowp (xs := ys) (pre := []) (k := cn - ys.length) rfl (by omega) (by omega) rfl e5
  · subst h1
    obtain ⟨r, w', e1, u, e2, H', hY, e5⟩ := ch_appendM (H := row bd (pre ++ xs.flatMap enc ++ rest) T :: Fr) (d := d) (ty := ty) (p := p) (af := af) (g := g) (b := bd) ha ha' ht hu hud hs hz hz1 hfb hx hy (hrc _) (by simp [flat_len he, Nat.add_mul]; omega) (by omega) (by simpa using hn) (flat_c1 he ys) a w kn h3
    rcases hY with ⟨g1, rfl, rfl⟩ | ⟨g1, bn, cn, rest', g2, g3, rfl, rfl⟩
    · refine ⟨r, w', e1, _, e2, _, ⟨rfl, rfl⟩, ?_⟩
      have g1 : ys.length ≤ k := by omega
      have g4 : ys.length * m ≤ k * m := Nat.mul_le_mul_right m g1
      have e : pre ++ xs.flatMap enc ++ rest = (pre ++ xs.flatMap enc) ++ rest.take (ys.length * m) ++ rest.drop (ys.length * m) := by simp
      have el : pre.length + xs.length * m = (pre ++ xs.flatMap enc).length := by simp [flat_len he]
      rw [e, el, setAll_app _ _ _ _ (by rw [flat_len he, List.length_take]; omega)] at e5
      refine vecg_rowp (k := k - ys.length) (rest := rest.drop (ys.length * m)) (by simp) (by omega) (by rw [List.length_drop, Nat.sub_mul]; omega) rfl ?_
      simpa using e5
    · refine ⟨r, w', e1, _, e2, _, ⟨rfl, rfl⟩, ?_⟩
      have e : (xs ++ ys).flatMap enc ++ rest' = ((pre ++ xs.flatMap enc ++ rest).drop pre.length).take (xs.length * m) ++ ys.flatMap enc ++ rest' := by
        rw [List.append_assoc pre, List.drop_left, ← flat_len he xs, List.take_left]; simp
      rw [← e] at e5
      exact vecg_rowp (pre := []) (k := cn - (xs.length + ys.length)) (by simp) (by omega) (by simpa using Nat.le_of_eq g3.symm) rfl ((e5.front 1 rfl).tail)
/-- Its first element gone. -/
theorem ch_tail_vecg (he : EncW m enc) {d : Option Tmp} {ty : TypeId} {p : String} {af : Array Edge} {g : Option (Nat × Bool)} {t : TypeId} {x lo : Operand} {v : α} {kk : IntKind} (ht : ∀ w, (underlying t).run P w = .ok (.slice T) w) (hs : ∀ w, (sizeOf T).run P w = .ok m w) (hx : evO σ x = some sv) (hl : evO σ lo = some (.int kk 1)) :
    Chg P B σ (VecG T m enc 0 (sv, v :: xs) :: Fr) ⟨d, .slice t x (some lo) none none, ty, p, af, g⟩ (fun v' H' => cell1 v' = true ∧ H' = VecG T m enc 0 (v', xs) :: Fr) := by
  intro a w kn hh
  rcases holds_vecg hh with ⟨h1, _, _⟩ | ⟨bd, pre, rest, k, hk, h1, h3⟩
  · cases h1
  · subst h1
    by_cases hlast : 1 < (v :: xs).length + k
    · have e := ev_slice (B := B) (H := row bd (pre ++ (v :: xs).flatMap enc ++ rest) T :: Fr) (d := d) (ty := ty) (p := p) (af := af) (g := g) (hi := none) (h := (v :: xs).length) (l := 1) (m := pre.length + m) ht hs hx (.inr ⟨lo, kk, rfl, hl⟩) (.inl ⟨rfl, rfl⟩) (by simp) (by omega) (.inl hlast) (by omega)
      refine ⟨_, w, e a w kn h3, _, .inl rfl, _, ⟨rfl, rfl⟩, ?_⟩
      refine vecg_rowp (pre := pre ++ enc v) (rest := rest) (k := k) (by simp) (by simp <;> omega) hk (by simp [he.len]) ?_
      simpa using h3
    · simp only [List.length_cons] at hlast
      have hxs : xs = [] := List.length_eq_zero_iff.1 (by omega)
      have hk0 : k = 0 := by omega
      subst hxs; subst hk0
      have e := ev_slice_all (B := B) (H := row bd (pre ++ [v].flatMap enc ++ rest) T :: Fr) (d := d) (ty := ty) (p := p) (af := af) (g := g) (len := 1) ht hs hx hl
      refine ⟨_, w, e a w kn h3, _, .inl rfl, _, ⟨rfl, rfl⟩, ?_⟩
      refine vecg_rowp (pre := pre) (rest := enc v ++ rest) (k := 0) (by simp) (by simp) (by simp) rfl ?_
      simpa using h3
theorem foldl_get : ∀ (vs : List Value) (k : Nat) (a : Array Value), k + vs.length ≤ a.size → ∀ j : Nat, (List.foldl (fun (cs : Array Value) (x : Value × Nat) => cs.setIfInBounds x.2 x.1) a (vs.zipIdx k))[j]? = if k ≤ j ∧ j < k + vs.length then vs[j - k]? else a[j]?
  | [], k, a, _, j => by rw [if_neg (by simp only [List.length_nil]; omega)]; rfl
  | v :: vs, k, a, h, j => by
    simp only [List.length_cons] at h
    rw [List.zipIdx_cons, List.foldl_cons, foldl_get vs (k + 1) _ (by simp; omega) j]
    by_cases h1 : j = k
    · subst h1
      rw [if_neg (by omega), if_pos (by simp only [List.length_cons]; omega), Nat.sub_self, List.getElem?_cons_zero, Array.getElem?_setIfInBounds_self_of_lt (by omega)]
    · by_cases h2 : k + 1 ≤ j ∧ j < k + 1 + vs.length
      · rw [if_pos h2, if_pos (by simp only [List.length_cons]; omega)]
        rw [show j - k = (j - (k + 1)) + 1 by omega, List.getElem?_cons_succ]
      · rw [if_neg h2, if_neg (by simp only [List.length_cons]; omega)]
        rw [Array.getElem?_setIfInBounds_ne (by omega)]
/-- A slice of one element that is built. -/
theorem ch_bsG (he : EncW m enc) {d : Option Tmp} {ty : TypeId} {p : String} {af : Array Edge} {g : Option (Nat × Bool)} {t e : TypeId} {x : Operand} {v : α} {xv z : Value} (ht : ∀ w, (underlying t).run P w = .ok (.slice e) w) (hs : ∀ w, (sizeOf e).run P w = .ok m w) (hz : ∀ w, (zeroValue e).run P w = .ok z w) (hm0 : (0 < m ∧ m ≤ 1000) ∧ z.cells.size = m) (hx : evO σ x = some xv) (hv : xv.cells = (enc v).toArray) :
    Chg P B σ H ⟨d, .buildSlice t 1 #[(0, x)], ty, p, af, g⟩ (fun u H' => ∃ b, u = .slice (some ⟨b, 0, none⟩) 1 1 ∧ H' = row b (enc v) e :: H) := by
  intro a w kn hh
  refine ⟨.value (.slice (some ⟨w.heap.size, 0, none⟩) 1 1), { w with heap := w.heap.push (.cells (enc v).toArray e) }, ?_, _, .inl rfl, _, ⟨_, rfl, rfl⟩, by simpa [row] using hh.new _⟩
  have h1 : m ≠ 0 := by omega
  have h2 : ¬ 16777216 < m := by omega
  have hl : (enc v).length = m := he.len v
  simp [execOp, Instr.buildSlice, ht, hs, Instr.fill, run_newRow, hz, kn.eval hx, hv, h1, h2, hl]
  congr 2
  apply Array.ext_getElem?
  intro j
  rw [foldl_get _ 0 _ (by simp [hl])]
  by_cases hj : j < m
  · simp [hl, hj]
  · have hj2 : ¬ j < (enc v).length := by omega
    simp [hl, hj]
/-- A variable that holds a slice. -/
def VarG {α : Type} (Ts T : TypeId) (m : Nat) (enc : α → List Value) (b : Nat) (xs : List α) : HP := hex fun (rv : Value) => grp [row b [rv] Ts, VecG T m enc 0 (rv, xs), pr (cell1 rv = true)]
theorem go_varg {Ts : TypeId} {b : Nat} (h : ∀ rv, cell1 rv = true → GO B n D σ (row b [rv] Ts :: VecG T m enc 0 (rv, xs) :: Fr) K) : GO B n D σ (VarG Ts T m enc b xs :: Fr) K := fun a w st => by
  obtain ⟨rv, hx⟩ := st.holds.hex
  have h2 := (hx.grp.front 2 rfl).pr
  exact h rv h2.1 a w ⟨st.toStA, h2.2⟩
theorem varg_holds {Ts : TypeId} {b : Nat} {rv : Value} (hr : cell1 rv = true) (h : Holds B (row b [rv] Ts :: VecG T m enc 0 (rv, xs) :: Fr) w) : Holds B (VarG Ts T m enc b xs :: Fr) w :=
  Holds.unhex rv (Holds.ungrp (l := [row b [rv] Ts, VecG T m enc 0 (rv, xs), pr _]) ((h.unpr hr).back 2 (by simp)))
theorem varg_nil {Ts : TypeId} {b : Nat} (h : Holds B (row b [.slice none 0 0] Ts :: Fr) w) : Holds B (VarG (α := α) Ts T m enc b [] :: Fr) w :=
  varg_holds rfl ((vecg_nil h).front 1 rfl)
theorem SlR.up {v : Value} {cs : List Value} [f : FrameOf H Fr] (h : SlR B Fr v cs) : SlR B H v cs := by
  obtain ⟨l, e⟩ := f.ex
  subst e
  induction l with
  | nil => exact h
  | cons A l ih => exact ih.cons A
theorem SlN.up {v : Value} {m : Nat} {cs : List (List Value)} [f : FrameOf H Fr] (h : SlN B Fr v m cs) : SlN B H v m cs := by
  obtain ⟨l, e⟩ := f.ex
  subst e
  induction l with
  | nil => exact h
  | cons A l ih => exact ih.cons A
theorem Holds.hop {A C : HP} (L M : List HP) {E : List HP} (h : Holds B (A :: C :: (L ++ (M ++ E))) w) : Holds B (A :: C :: (M ++ (L ++ E))) w :=
  h.perm (List.Perm.cons _ (List.Perm.cons _ (by rw [← List.append_assoc, ← List.append_assoc]; exact List.Perm.append_right _ List.perm_append_comm)))
end
end Go.Proofs.YtbfheafpecgphaaGreat
