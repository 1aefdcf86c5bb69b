/- Slices of numbers: Equal, IsSorted, Index. Conditions: none. -/
import Derived.Test.YtbfheafpecgphaaGreatVeg
import Derived.Test.YtbfheafpecgphaaGreatHlp
set_option linter.unusedSimpArgs false
set_option linter.unusedVariables false
set_option linter.unnecessarySimpa false
set_option linter.unusedSectionVars false
namespace Go.Proofs.YtbfheafpecgphaaGreat
set_option linter.unusedSimpArgs false
set_option linter.unusedVariables false
open Go
def srt : List Int → Bool
  | [] => true
  | [_] => true
  | a :: b :: t => decide (a ≤ b) && srt (b :: t)
theorem srt_of {l : List Int} (h : ∀ i, i + 1 < l.length → l.getD i 0 ≤ l.getD (i + 1) 0) : srt l = true := by
  induction l with
  | nil => rfl
  | cons a t ih =>
    cases t with
    | nil => rfl
    | cons b t =>
      unfold srt
      rw [Bool.and_eq_true]
      refine ⟨by simpa using h 0 (by simp), ih fun i hi => by simpa using h (i + 1) (by simpa using hi)⟩
theorem srt_not {l : List Int} : ∀ {i : Nat}, i + 1 < l.length → ¬ l.getD i 0 ≤ l.getD (i + 1) 0 → srt l = false := by
  induction l with
  | nil => intro i h; cases h
  | cons a t ih =>
    intro i hi hn
    cases t with
    | nil => simp at hi
    | cons b t =>
      unfold srt
      cases i with
      | zero => simp at hn ⊢; intro h; omega
      | succ i => rw [ih (i := i) (by simpa using hi) (by simpa using hn), Bool.and_false]
/-- Where a number is first; -1. -/
def idxI (v : Int) : List Int → Int → Int
  | [], _ => -1
  | a :: t, k => if v = a then k else idxI v t (k + 1)

theorem equali_ok (B : World) (H : List HP) (q1 q2 : Option Addr) (c1 c2 : Nat) (xs ys : List Int) (hx : xs.length ≤ 1000000) (hy : ys.length ≤ 1000000) (h1 : ∀ i, i < xs.length → ∃ b off, q1 = some ⟨b, off, none⟩) (h2 : ∀ i, i < ys.length → ∃ b off, q2 = some ⟨b, off, none⟩) (r1 : SlR B H (.slice q1 xs.length c1) (xs.map i64)) (r2 : SlR B H (.slice q2 ys.length c2) (ys.map i64)) :
    ∀ w, Holds B H w → Calls Tryz.prog 62 [.slice q1 xs.length c1, .slice q2 ys.length c2].toArray w (PureR B H (.bool (decide (xs = ys)))) := by
  refine fn_enter Tryz.func62 rfl Tryz.ntmps62 rfl ?_; refine g_seq ?_; refine g_region ?_; refine kPa rfl rfl ?_; refine p_nil ?_; refine g_seq ?_; refine g_seq ?_; refine g_region ?_; refine kPm rfl rfl ?_; refine kPv (ev_len rfl Tryz.runUnderlying34 ⟨_, rfl⟩ rfl) rfl ?_; refine kPm rfl rfl ?_; refine kPv (ev_len rfl Tryz.runUnderlying34 ⟨_, rfl⟩ rfl) rfl ?_; refine kPv (ev_cmp rfl rfl rfl) rfl ?_; refine p_nil ?_
  refine g_if rfl (fun h10 => ?_) (fun h10 => ?_)
  · have hne : xs.length ≠ ys.length := by intro e; rw [e] at h10; simp at h10
    refine g_seq ?_; refine g_region ?_; refine kPa rfl rfl ?_; refine p_nil ?_; refine g_ret ?_
    exact ret_tmp Tryz.results62 rfl (fun w hw => ⟨by rw [decide_eq_false (fun e => hne (by rw [e]))], hw⟩)
  · have hle : xs.length = ys.length := by simp at h10; omega
    refine g_skip ?_; refine g_seq ?_; refine g_seq ?_; refine g_region ?_; refine kPm rfl rfl ?_; refine kPv (ev_len rfl Tryz.runUnderlying34 ⟨_, rfl⟩ rfl) rfl ?_; refine kPm rfl rfl ?_; refine p_nil ?_; refine g_block ?_
    refine g_loopk (ι := Nat) [12, 4, 0, 1] (fun k => (k ≤ xs.length) ∧ (∀ j, j < k → xs[j]? = ys[j]?)) (fun k => [(13, i64 k)]) (fun k => H) (fun k => xs.length - k) (0) (⟨Nat.zero_le _, fun j h => absurd h (Nat.not_lt_zero _)⟩) (fun a w st => st.to ⟨rfl, trivial⟩ (fun hh => hh)) ?_
    rintro k ⟨hk1, hk2⟩
    try simp only at hk1 hk2 ⊢
    refine go_sub (σ' := [(13, i64 k), (12, _), (4, _), (0, _), (1, _)]) ⟨rfl, rfl, rfl, rfl, rfl, trivial⟩ ?_; refine g_seq ?_; refine g_region ?_; refine kPv (ev_cmp rfl rfl rfl) rfl ?_; refine p_nil ?_; refine g_seq ?_
    refine g_if rfl (fun h14 => ?_) (fun h14 => ?_)
    · have hk : k < xs.length := by simp at h14; omega
      refine g_skip ?_; refine g_seq ?_; refine g_block ?_; refine g_seq ?_; refine g_region ?_; refine kPm rfl rfl ?_; refine kPa rfl rfl ?_; refine p_nil ?_; refine g_seq ?_; refine g_draw Tryz.mixed (by kernel_rfl) (by kernel_rfl) ?_
      obtain ⟨b1, o1, rfl⟩ := h1 k hk
      obtain ⟨b2, o2, rfl⟩ := h2 k (by omega)
      refine kQm rfl rfl ?_; refine kQm rfl rfl ?_; refine kQv (ev_iaS Tryz.runUnderlying34 Tryz.sizeOf3 rfl rfl (by omega) (by omega)) rfl ?_
      refine kQv (ev_loadS (v := i64 xs[k]) Tryz.isAgg3 r1 rfl (by rw [Int.toNat_natCast, List.getElem?_map, List.getElem?_eq_getElem hk]; rfl)) rfl ?_
      refine kQm rfl rfl ?_; refine kQm rfl rfl ?_; refine kQv (ev_iaS Tryz.runUnderlying34 Tryz.sizeOf3 rfl rfl (by omega) (by omega)) rfl ?_
      refine kQv (ev_loadS (v := i64 (ys[k]'(by omega))) Tryz.isAgg3 r2 rfl (by rw [Int.toNat_natCast, List.getElem?_map, List.getElem?_eq_getElem (by omega)]; rfl)) rfl ?_
      refine kQv (ev_cmp rfl rfl rfl) rfl ?_; refine q_nil ?_; refine go_sub (σ' := [(24, _), (13, _), (12, _), (4, _), (0, _), (1, _)]) ⟨rfl, rfl, rfl, rfl, rfl, rfl, trivial⟩ ?_
      refine g_if rfl (fun h24 => ?_) (fun h24 => ?_)
      · have hkk : xs[k]? ≠ ys[k]? := by
          rw [List.getElem?_eq_getElem hk, List.getElem?_eq_getElem (by omega)]
          simpa using h24
        refine g_seq ?_; refine g_region ?_; refine kPa rfl rfl ?_; refine p_nil ?_; refine g_ret ?_
        exact ret_tmp Tryz.results62 rfl (fun w hw => ⟨by rw [decide_eq_false (fun e => hkk (by rw [e]))], hw⟩)
      · have hkk : xs[k]? = ys[k]? := by
          rw [List.getElem?_eq_getElem hk, List.getElem?_eq_getElem (by omega)]
          simpa using h24
        refine g_skip ?_; refine g_region ?_
        first | refine p_val rfl (ev_add rfl rfl (wr64 (by omega))) .free rfl rfl ?_ | refine p_val rfl (ev_add rfl rfl rfl) .free rfl rfl ?_
        refine kPm rfl rfl ?_; refine p_nil ?_
        exact fun a w st_ => ⟨k + 1, ⟨by omega, fun j hj => (Nat.lt_succ_iff_lt_or_eq.1 hj).elim (hk2 j) (fun h => by subst h; exact hkk)⟩, by omega, st_.to ⟨rfl, rfl, rfl, rfl, rfl, trivial⟩ (fun hh => hh)⟩
    · have hk : ¬ k < xs.length := by simp at h14; omega
      refine g_exit ?_; refine g_seq ?_; refine g_region ?_; refine kPa rfl rfl ?_; refine p_nil ?_; refine g_ret ?_
      exact ret_tmp Tryz.results62 rfl (fun w hw => ⟨by
      have e : xs = ys := List.ext_getElem? fun j => by
        by_cases hj : j < k
        · exact hk2 j hj
        · rw [List.getElem?_eq_none (by omega), List.getElem?_eq_none (by omega)]
      rw [decide_eq_true e], hw⟩)

theorem isnan_ok (B : World) (H : List HP) (x : Int) :
    ∀ w, Holds B H w → Calls Tryz.prog 116 [i64 x].toArray w (PureR B H (.bool false)) := by
  refine fn_enter Tryz.func116 rfl Tryz.ntmps116 rfl ?_; refine g_seq ?_; refine g_region ?_; refine kPa rfl rfl ?_; refine p_nil ?_; refine g_seq ?_; refine g_region ?_; refine kPm rfl rfl ?_; refine kPm rfl rfl ?_; refine kPv (ev_cmp rfl rfl rfl) rfl ?_; refine kPa rfl rfl ?_; refine p_nil ?_; refine g_ret ?_
  exact ret_tmp Tryz.results116 rfl (fun w hw => ⟨by simp, hw⟩)

theorem less_ok (B : World) (H : List HP) (x y : Int) :
    ∀ w, Holds B H w → Calls Tryz.prog 97 [i64 x, i64 y].toArray w (PureR B H (.bool (decide (x < y)))) := by
  refine fn_enter Tryz.func97 rfl Tryz.ntmps97 rfl ?_; refine g_seq ?_; refine g_region ?_; refine kPa rfl rfl ?_; refine p_nil ?_; refine g_seq ?_; refine g_region ?_; refine kPm rfl rfl ?_; refine p_callq rfl (en_f Tryz.call116 rfl) (isnan_ok _ _ _) .free rfl rfl ?_; refine kPm rfl rfl ?_; refine p_skip rfl (.on rfl rfl (beq_ne rfl)) rfl ?_; refine p_skip rfl (.on rfl rfl (beq_ne rfl)) rfl ?_; refine p_skip rfl (.on rfl rfl (beq_ne rfl)) rfl ?_; refine kPv (ev_pick_f rfl rfl rfl) rfl ?_
  refine kPm rfl rfl ?_; refine p_val rfl (ev_move rfl) (.on rfl rfl (beq_eq rfl)) rfl rfl ?_; refine p_val rfl (ev_move rfl) (.on rfl rfl (beq_eq rfl)) rfl rfl ?_; refine p_val rfl (ev_cmp rfl rfl rfl) (.on rfl rfl (beq_eq rfl)) rfl rfl ?_; refine kPv (ev_pick_f rfl rfl rfl) rfl ?_; refine kPa rfl rfl ?_; refine p_nil ?_; refine go_sub (σ' := [(4, _)]) ⟨rfl, trivial⟩ ?_; refine g_ret ?_
  exact ret_tmp Tryz.results97 rfl (fun w hw => ⟨rfl, hw⟩)

theorem issorted_ok (B : World) (H : List HP) (q : Option Addr) (c : Nat) (xs : List Int) (hx : xs.length ≤ 1000000) (hq : ∀ i, i < xs.length → ∃ b off, q = some ⟨b, off, none⟩) (hr : SlR B H (.slice q xs.length c) (xs.map i64)) :
    ∀ w, Holds B H w → Calls Tryz.prog 57 [.slice q xs.length c].toArray w (PureR B H (.bool (srt xs))) := by
  refine fn_enter Tryz.func57 rfl Tryz.ntmps57 rfl ?_; refine g_seq ?_; refine g_region ?_; refine kPa rfl rfl ?_; refine p_nil ?_; refine g_seq ?_; refine g_seq ?_; refine g_region ?_; refine kPm rfl rfl ?_; refine kPv (ev_len rfl Tryz.runUnderlying34 ⟨_, rfl⟩ rfl) rfl ?_
  first | refine p_val rfl (ev_sub rfl rfl (wr64 (by omega))) .free rfl rfl ?_ | refine p_val rfl (ev_sub rfl rfl rfl) .free rfl rfl ?_
  refine kPa rfl rfl ?_; refine p_nil ?_; refine g_block ?_; refine g_loopk (ι := Int) [2, 0] (fun k => (-1 ≤ k ∧ k < xs.length) ∧ (∀ i, i + 1 < xs.length → k ≤ i → xs.getD i 0 ≤ xs.getD (i + 1) 0)) (fun k => [(3, i64 k)]) (fun k => H) (fun k => (k + 1).toNat) ((xs.length : Int) - 1) (⟨by omega, fun i h h2 => by omega⟩) (fun a w st => st.to ⟨rfl, trivial⟩ (fun hh => hh)) ?_
  rintro k ⟨hk1, hall⟩
  try simp only at hk1 hall ⊢
  refine go_sub (σ' := [(3, i64 k), (2, _), (0, _)]) ⟨rfl, rfl, rfl, trivial⟩ ?_; refine g_seq ?_; refine g_seq ?_; refine g_region ?_; refine kPm rfl rfl ?_; refine kPv (ev_cmp rfl rfl rfl) rfl ?_; refine p_nil ?_
  refine g_if rfl (fun h8 => ?_) (fun h8 => ?_)
  · have hk : 0 < k := by simpa using h8
    obtain ⟨m, rfl⟩ : ∃ m : Nat, k = m + 1 := ⟨(k - 1).toNat, by omega⟩
    have hm : m + 1 < xs.length := by omega
    obtain ⟨b1, o1, rfl⟩ := hq m (by omega)
    refine g_skip ?_; refine g_seq ?_; refine g_block ?_; refine g_seq ?_; refine g_draw Tryz.mixed (by kernel_rfl) (by kernel_rfl) ?_; refine kQm rfl rfl ?_; refine kQm rfl rfl ?_; refine kQv (ev_iaS Tryz.runUnderlying34 Tryz.sizeOf3 rfl rfl (by omega) (by omega)) rfl ?_
    refine kQv (ev_loadS (v := i64 xs[m + 1]) Tryz.isAgg3 hr rfl (by rw [show ((m : Int) + 1).toNat = m + 1 by omega, List.getElem?_map, List.getElem?_eq_getElem hm]; rfl)) rfl ?_
    refine kQm rfl rfl ?_; refine kQm rfl rfl ?_
    first | refine q_val rfl (ev_sub rfl rfl (wr64 (by omega))) .free rfl ?_ | refine q_val rfl (ev_sub rfl rfl rfl) .free rfl ?_
    refine kQv (ev_iaS Tryz.runUnderlying34 Tryz.sizeOf3 rfl rfl (by omega) (by omega)) rfl ?_
    refine kQv (ev_loadS (v := i64 xs[m]) Tryz.isAgg3 hr rfl (by rw [show ((m : Int) + 1 - 1).toNat = m by omega, List.getElem?_map, List.getElem?_eq_getElem (by omega)]; rfl)) rfl ?_
    refine q_call rfl (en_f Tryz.call97 rfl) (less_ok _ _ _ _) .free rfl ?_; refine q_nil ?_; refine go_sub (σ' := [(20, _), (3, _), (2, _), (0, _)]) ⟨rfl, rfl, rfl, rfl, trivial⟩ ?_
    refine g_if rfl (fun h20 => ?_) (fun h20 => ?_)
    · have hlt : xs[m + 1] < xs[m] := by simpa using h20
      have hs : srt xs = false := srt_not hm (by rw [List.getD_eq_getElem?_getD, List.getD_eq_getElem?_getD, List.getElem?_eq_getElem (by omega), List.getElem?_eq_getElem hm]; simpa using hlt)
      refine g_seq ?_; refine g_region ?_; refine kPa rfl rfl ?_; refine p_nil ?_; refine g_ret ?_
      exact ret_tmp Tryz.results57 rfl (fun w hw => ⟨by rw [hs], hw⟩)
    · have hlt : ¬ xs[m + 1] < xs[m] := by simpa using h20
      refine g_skip ?_; refine g_region ?_; refine kPm rfl rfl ?_
      first | refine p_val rfl (ev_sub rfl rfl (wr64 (by omega))) .free rfl rfl ?_ | refine p_val rfl (ev_sub rfl rfl rfl) .free rfl rfl ?_
      refine kPa rfl rfl ?_; refine p_nil ?_
      exact fun a w st_ => ⟨(m : Int) + 1 - 1, ⟨by omega, fun i hi hmi => by
      by_cases e : i = m
      · subst e; rw [List.getD_eq_getElem?_getD, List.getD_eq_getElem?_getD, List.getElem?_eq_getElem (by omega), List.getElem?_eq_getElem hm]; simpa using hlt
      · exact hall i hi (by omega)⟩, by omega, st_.to ⟨rfl, rfl, rfl, trivial⟩ (fun hh => hh)⟩
  · have hk : ¬ 0 < k := by simpa using h8
    have hs : srt xs = true := srt_of fun i hi => hall i hi (by omega)
    refine g_exit ?_; refine g_seq ?_; refine g_region ?_; refine kPa rfl rfl ?_; refine p_nil ?_; refine g_ret ?_
    exact ret_tmp Tryz.results57 rfl (fun w hw => ⟨by rw [hs], hw⟩)

theorem indexi_ok (B : World) (H : List HP) (q : Option Addr) (c : Nat) (xs : List Int) (v : Int) (hx : xs.length ≤ 1000000) (hq : ∀ i, i < xs.length → ∃ b off, q = some ⟨b, off, none⟩) (hr : SlR B H (.slice q xs.length c) (xs.map i64)) :
    ∀ w, Holds B H w → Calls Tryz.prog 65 [.slice q xs.length c, i64 v].toArray w (PureR B H (i64 (idxI v xs 0))) := by
  refine fn_enter Tryz.func65 rfl Tryz.ntmps65 rfl ?_; refine g_seq ?_; refine g_region ?_; refine kPa rfl rfl ?_; refine p_nil ?_; refine g_seq ?_; refine g_seq ?_; refine g_region ?_; refine kPm rfl rfl ?_; refine kPv (ev_len rfl Tryz.runUnderlying34 ⟨_, rfl⟩ rfl) rfl ?_; refine kPm rfl rfl ?_; refine p_nil ?_; refine g_block ?_
  refine g_loopk (ι := Nat) [7, 4, 0, 1] (fun k => (k ≤ xs.length) ∧ (idxI v xs 0 = idxI v (xs.drop k) k)) (fun k => [(8, i64 k)]) (fun k => H) (fun k => xs.length - k) (0) (⟨Nat.zero_le _, rfl⟩) (fun a w st => st.to ⟨rfl, trivial⟩ (fun hh => hh)) ?_
  rintro k ⟨hk1, hinv⟩
  try simp only at hk1 hinv ⊢
  refine go_sub (σ' := [(8, i64 k), (7, _), (4, _), (0, _), (1, _)]) ⟨rfl, rfl, rfl, rfl, rfl, trivial⟩ ?_; refine g_seq ?_; refine g_region ?_; refine kPv (ev_cmp rfl rfl rfl) rfl ?_; refine p_nil ?_; refine g_seq ?_
  refine g_if rfl (fun h9 => ?_) (fun h9 => ?_)
  · have hk : k < xs.length := by simp at h9; omega
    obtain ⟨b1, o1, rfl⟩ := hq k hk
    have hst : idxI v (xs.drop k) k = if v = xs[k] then (k : Int) else idxI v (xs.drop (k + 1)) (k + 1 : Nat) := by rw [List.drop_eq_getElem_cons hk]; rfl
    refine g_skip ?_; refine g_seq ?_; refine g_block ?_; refine g_seq ?_; refine g_region ?_; refine kPm rfl rfl ?_; refine kPa rfl rfl ?_; refine p_nil ?_; refine g_seq ?_; refine g_region ?_; refine kPm rfl rfl ?_; refine kPm rfl rfl ?_; refine kPm rfl rfl ?_; refine kPv (ev_iaS Tryz.runUnderlying34 Tryz.sizeOf3 rfl rfl (by omega) (by omega)) rfl ?_
    refine kPv (ev_loadS (v := i64 xs[k]) Tryz.isAgg3 hr rfl (by rw [Int.toNat_natCast, List.getElem?_map, List.getElem?_eq_getElem hk]; rfl)) rfl ?_
    refine kPv (ev_cmp rfl rfl rfl) rfl ?_; refine p_nil ?_; refine go_sub (σ' := [(16, _), (5, _), (8, _), (7, _), (4, _), (0, _), (1, _)]) ⟨rfl, rfl, rfl, rfl, rfl, rfl, rfl, trivial⟩ ?_
    refine g_if rfl (fun h16 => ?_) (fun h16 => ?_)
    · have he : v = xs[k] := by simpa using h16
      refine g_seq ?_; refine g_region ?_; refine kPm rfl rfl ?_; refine kPa rfl rfl ?_; refine p_nil ?_; refine g_ret ?_
      exact ret_tmp Tryz.results65 rfl (fun w hw => ⟨by rw [hinv, hst, if_pos he], hw⟩)
    · have he : ¬ v = xs[k] := by simpa using h16
      refine g_skip ?_; refine g_region ?_
      first | refine p_val rfl (ev_add rfl rfl (wr64 (by omega))) .free rfl rfl ?_ | refine p_val rfl (ev_add rfl rfl rfl) .free rfl rfl ?_
      refine kPm rfl rfl ?_; refine p_nil ?_
      exact fun a w st_ => ⟨k + 1, ⟨by omega, by rw [hinv, hst, if_neg he]⟩, by omega, st_.to ⟨rfl, rfl, rfl, rfl, rfl, trivial⟩ (fun hh => hh)⟩
  · have hk : ¬ k < xs.length := by simp at h9; omega
    refine g_exit ?_; refine g_seq ?_; refine g_region ?_; refine kPa rfl rfl ?_; refine p_nil ?_; refine g_ret ?_
    exact ret_tmp Tryz.results65 rfl (fun w hw => ⟨by rw [hinv, List.drop_eq_nil_of_le (by omega)]; rfl, hw⟩)

end Go.Proofs.YtbfheafpecgphaaGreat
