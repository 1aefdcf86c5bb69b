/- Sorted keys of a map. Conditions: none. -/
import Derived.Test.YtbfheafpecgphaaGreatKeys
import Derived.Test.YtbfheafpecgphaaGreatSho
set_option linter.unusedSimpArgs false
set_option linter.unusedVariables false
set_option linter.unnecessarySimpa false
set_option linter.unusedSectionVars false
namespace Go.Proofs.YtbfheafpecgphaaGreat
set_option linter.unusedSimpArgs false
set_option linter.unusedVariables false
open Go
theorem Holds.grown {B : World} {H : List HP} {w : World} (h : Holds B H w) (os : Array Obj) : Holds B H (Go.Sort.grow w os) := by
  refine ⟨h.os, h.tape, h.output, by simp [Go.Sort.grow]; have := h.size; omega, sat_mono (fun b o e => ?_) h.sat⟩
  have hb := (Array.getElem?_eq_some_iff.1 e).1
  show (w.heap ++ os)[b]? = _
  rw [Array.getElem?_append_left hb]; exact e
theorem put_cells {xs ys : List Int} {rest : List Value} (h : ys.length = xs.length) : Go.Sort.putCells (Value.int .i64) 0 ys.toArray (xs.map i64 ++ rest).toArray = (ys.map i64 ++ rest).toArray := by
  apply Array.ext_getElem?
  intro j
  simp only [Go.Sort.putCells, Array.getElem?_mapIdx, List.getElem?_toArray]
  by_cases hj : j < xs.length
  · rw [List.getElem?_append_left (by simpa using hj), List.getElem?_append_left (by simp; omega)]
    have hj' : j < ys.length := by omega
    simp [hj, hj']
  · rw [List.getElem?_append_right (by simp; omega), List.getElem?_append_right (by simp; omega)]
    simp [h]
    cases e : rest[j - xs.length]? with
    | none => rfl
    | some v => simp; omega
theorem row_sorted {B : World} {bd T : Nat} {xs ys : List Int} {rest : List Value} {Fr : List HP} {w : World} (h : Holds B (row bd (xs.map i64 ++ rest) T :: Fr) w) (hl : ys.length = xs.length) (n : Nat) (os : Array Obj) :
    Holds B (row bd (ys.map i64 ++ rest) T :: Fr) (Go.Sort.grow (Go.Sort.putRow (Value.int .i64) (Go.Sort.ahead w n) bd 0 ys.toArray) os) := by
  have hr := h.read 0 rfl
  have h1 := (h.drew (w.drawn + n)).put 0 rfl (.cells (ys.map i64 ++ rest).toArray T (0, 0))
  have e : Go.Sort.putRow (Value.int .i64) (Go.Sort.ahead w n) bd 0 ys.toArray = { w with drawn := w.drawn + n, heap := w.heap.setIfInBounds bd (.cells (ys.map i64 ++ rest).toArray T (0, 0)) } := by
    obtain ⟨hlt, hg⟩ := Array.getElem?_eq_some_iff.1 hr
    simp only [Go.Sort.putRow, Go.Sort.mapBlock, Go.Sort.ahead]
    congr 1
    apply Array.ext_getElem?
    intro k
    rw [Array.getElem?_modify]
    by_cases hk : bd = k
    · subst hk
      rw [hr]
      simp [hlt, Go.Sort.onCells, put_cells hl]
    · simp [hk]
  rw [e]
  exact Holds.grown h1 os
def sortI (l : List Int) : List Int := l.mergeSort fun x y => decide (x ≤ y)
theorem sortI_perm {l l' : List Int} (h : l.Perm l') : sortI l = sortI l' := by
  have tr : ∀ a b c : Int, decide (a ≤ b) = true → decide (b ≤ c) = true → decide (a ≤ c) = true := fun a b c h1 h2 => by simp only [decide_eq_true_eq] at *; omega
  have to : ∀ a b : Int, (decide (a ≤ b) || decide (b ≤ a)) = true := fun a b => by simp only [Bool.or_eq_true, decide_eq_true_eq]; omega
  refine List.Perm.eq_of_pairwise (le := fun a b => decide (a ≤ b) = true) (fun a b _ _ h1 h2 => ?_) (List.pairwise_mergeSort tr to l) (List.pairwise_mergeSort tr to l') (((List.mergeSort_perm l _).trans h).trans (List.mergeSort_perm l' _).symm)
  simp only [decide_eq_true_eq] at h1 h2; omega
theorem ssort_ok (B : World) (Fr : List HP) (sv : Value) (xs : List Int) (hx : xs.length ≤ 1000000) : ∀ w, Holds B (AccV 0 (sv, xs) :: Fr) w → Calls Tryz.prog 114 [sv].toArray w (Ret B (fun _ H' => H' = AccV 0 (sv, sortI xs) :: Fr) (fun _ _ => False)) := by
  intro w hw
  have hl : (sortI xs).length = xs.length := List.length_mergeSort ..
  rcases holds_accv hw with ⟨rfl, rfl, h⟩ | ⟨bd, rest, rfl, h⟩
  · have := AnyM.slices_Sort_int_none Tryz.sortA none 0 w
    refine this.mono ?_
    rintro e w' ⟨rfl, rfl⟩
    exact ⟨_, rfl, by simpa [sortI] using accv_nil h⟩
  · have hh : Go.Sort.Holds (Value.int .i64) w bd 0 xs.toArray := by
      intro j hj
      have hj' : j < xs.length := by simpa using hj
      have h1 := h.cell 0 rfl (0 + j)
      have h2 := h.free 0 rfl (0 + j)
      refine ⟨h1.trans ?_, h2⟩
      rw [Nat.zero_add, List.getElem?_append_left (by simpa using hj')]
      simp [hj']
    have := AnyM.slices_Sort_int Tryz.sortA bd 0 (xs.length + rest.length) xs w hh (h.row_lt 0 rfl) (by omega)
    refine this.mono ?_
    rintro e w' ⟨rfl, n, os, rfl⟩
    exact ⟨_, rfl, accv_row (by rw [hl]) (by omega) (row_sorted h hl n os)⟩

theorem collect_ok (B : World) (Fr : List HP) (mr bb : Nat) (ml : List (Int × Unit)) (hml : ml.length ≤ 1000000) :
    ∀ w, Holds B (row bb [.map (some mr)] 42 :: mapA .i64 unitE mr ml :: Fr) w → Calls Tryz.prog 113 [.func (.func 122) [].toArray [ptr bb].toArray].toArray w (Ret B (fun rv H' => ∃ ks : List Int, ks.Perm (ml.map Prod.fst) ∧ H' = AccV 0 (rv, ks) :: mapA .i64 unitE mr ml :: Fr) (fun _ _ => False)) := by
  refine fn_enter Tryz.func113 rfl Tryz.ntmps113 rfl ?_; refine g_seq ?_; refine g_region ?_; refine kPa rfl rfl ?_; refine p_nil ?_; refine g_seq ?_; refine g_region ?_; refine kPm rfl rfl ?_
  refine p_call rfl (en_f Tryz.call123 rfl) (appseq_ok _ _ mr bb ml hml) .free rfl rfl ?_ ?_
  rotate_left
  · rintro _ _ ⟨⟩
  rintro _ _ ⟨ks, hks, rfl⟩
  refine kPa rfl rfl ?_; refine p_nil ?_; refine g_ret ?_
  exact ret_tmp Tryz.results113 rfl (fun w hw => ⟨_, ⟨ks, hks, rfl⟩, hw⟩)

theorem sorted_ok (B : World) (Fr : List HP) (mr bb : Nat) (ml : List (Int × Unit)) (hml : ml.length ≤ 1000000) :
    ∀ w, Holds B (row bb [.map (some mr)] 42 :: mapA .i64 unitE mr ml :: Fr) w → Calls Tryz.prog 95 [.func (.func 122) [].toArray [ptr bb].toArray].toArray w (Ret B (fun rv H' => H' = AccV 0 (rv, sortI (ml.map Prod.fst)) :: mapA .i64 unitE mr ml :: Fr) (fun _ _ => False)) := by
  refine fn_enter Tryz.func95 rfl Tryz.ntmps95 rfl ?_; refine g_seq ?_; refine g_region ?_; refine kPa rfl rfl ?_; refine p_nil ?_; refine g_seq ?_; refine g_region ?_; refine kPm rfl rfl ?_
  refine p_call rfl (en_f Tryz.call113 rfl) (collect_ok _ _ mr bb ml hml) .free rfl rfl ?_ ?_
  rotate_left
  · rintro _ _ ⟨⟩
  rintro v5 _ ⟨ks, hks, rfl⟩
  have hkl : ks.length ≤ 1000000 := by rw [hks.length_eq, List.length_map]; exact hml
  refine kPa rfl rfl ?_; refine p_nil ?_; refine g_seq ?_; refine g_region ?_; refine kPm rfl rfl ?_
  refine p_call rfl (en_f Tryz.call114 rfl) (ssort_ok _ _ _ ks hkl) .free rfl rfl ?_ ?_
  rotate_left
  · rintro _ _ ⟨⟩
  rintro _ _ rfl
  refine p_nil ?_; refine g_seq ?_; refine g_region ?_; refine kPm rfl rfl ?_; refine kPa rfl rfl ?_; refine p_nil ?_; refine go_sub (σ' := [(2, _)]) ⟨rfl, trivial⟩ ?_; refine g_ret ?_
  exact ret_tmp Tryz.results95 rfl (fun w hw => ⟨_, rfl, by rw [← sortI_perm hks]; exact hw⟩)

end Go.Proofs.YtbfheafpecgphaaGreat
