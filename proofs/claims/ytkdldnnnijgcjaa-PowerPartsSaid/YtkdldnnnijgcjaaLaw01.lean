/- The five statements of layer 1 (power): each returns true at every input. Conditions: none. -/
import Derived.Test.YtkdldnnnijgcjaaPow
import Derived.ProofKit
import Derived.OpenShut
import Derived.ChangeOld
import Derived.Below
import Derived.Deep.Grids
namespace Go.Proofs.Ytkdldnnnijgcjaa
set_option linter.unusedSimpArgs false
set_option linter.unusedVariables false
open Go
theorem Try.ownKnobs : ownKnob Try.prog.godebug = none := by kernel_rfl
theorem Try.laidOut : laidOutB Try.prog = true := by kernel_rfl
/-- What so many ticks come to. -/
theorem tk_spec : ∀ (n : Nat) (s : Pow), 0 ≤ s.used → s.used + n ≤ 1000000 → (0 ≤ s.lim → s.used ≤ s.lim) →
    tk n s = if s.lim < 0 ∨ s.used + n ≤ s.lim then (true, n, ⟨s.lim, s.used + n⟩) else (false, (s.lim - s.used).toNat, ⟨s.lim, s.lim⟩)
  | 0, s, _, _, h2 => by
    have : s.lim < 0 ∨ s.used + (0 : Nat) ≤ s.lim := by omega
    rw [if_pos this]; simp [tk]
  | n + 1, s, h0, h1, h2 => by
    cases ho : s.out with
    | true =>
      rw [tk_out ho]
      simp [Pow.out] at ho
      have e : s.used = s.lim := by omega
      rw [if_neg (by omega)]
      cases s; simp at e ⊢; simp [e]
    | false =>
      rw [tk_up ho]
      simp [Pow.out] at ho
      have e : s.up = ⟨s.lim, s.used + 1⟩ := by simp only [Pow.up]; rw [wr64 (by omega)]
      rw [e, tk_spec n ⟨s.lim, s.used + 1⟩ (by simp <;> omega) (by simp <;> omega) (by simp; omega)]
      simp only
      by_cases h : s.lim < 0 ∨ s.used + 1 + (n : Int) ≤ s.lim
      · rw [if_pos h, if_pos (by omega)]; simp; omega
      · rw [if_neg h, if_neg (by omega)]; simp; omega

theorem runs1_ok (B : World) (Fr : List HP) (n : Nat) (hn : n ≤ 255) (bn bp bd pb : Nat) (s : Pow) (d : Int) (hd : 0 ≤ d ∧ d ≤ 100000) :
    ∀ w, Holds B (row bn [.int .u8 n] 5 :: row bp [ptr pb] 23 :: row bd [.int .i64 (d)] 3 :: PowA pb s :: Fr) w → Calls Try.prog 11 [ptr bn, ptr bp, ptr bd].toArray w (Ret B (fun v H' => (tk n s).1 = true ∧ H' = row bn [.int .u8 n] 5 :: row bp [ptr pb] 23 :: row bd [.int .i64 (d + (tk n s).2.1)] 3 :: PowA pb (tk n s).2.2 :: Fr) (fun c H' => (tk n s).1 = false ∧ c = offc ∧ H' = row bn [.int .u8 n] 5 :: row bp [ptr pb] 23 :: row bd [.int .i64 (d + (tk n s).2.1)] 3 :: PowA pb (tk n s).2.2 :: Fr)) := by
  refine fn_enter Try.func11 rfl Try.ntmps11 rfl ?_
  refine g_seq ?_
  refine g_region ?_
  refine p_val rfl (ev_load Try.isAgg5 rfl rfl) .free rfl rfl ?_
  refine p_val rfl (ev_move rfl) .free rfl rfl ?_
  refine p_nil ?_
  refine g_block ?_
  refine g_loop (ι := Nat × Pow) (fun i => i.1 ≤ n ∧ (tk n s).1 = (tk (n - i.1) i.2).1 ∧ (tk n s).2.1 = i.1 + (tk (n - i.1) i.2).2.1 ∧ (tk n s).2.2 = (tk (n - i.1) i.2).2.2) (fun i => [(0, ptr bn), (1, ptr bp), (2, ptr bd), (3, .int .u8 n), (4, .int .u8 i.1)]) (fun i => row bn [.int .u8 n] 5 :: row bp [ptr pb] 23 :: row bd [.int .i64 (d + i.1)] 3 :: PowA pb i.2 :: Fr) (fun i => n - i.1) (0, s) ?_ (fun a w st => st.to ⟨rfl, rfl, rfl, rfl, rfl, trivial⟩ (fun h => by simpa using h)) ?_
  · exact ⟨Nat.zero_le _, rfl, by simp, rfl⟩
  rintro ⟨i, s1⟩ ⟨hi, e1, e2, e3⟩
  simp only at hi e1 e2 e3 ⊢
  refine g_seq ?_
  refine g_region ?_
  refine p_val rfl (ev_cmp rfl rfl rfl) .free rfl rfl ?_
  refine p_nil ?_
  refine g_seq ?_
  refine g_if rfl (fun h5 => ?_) (fun h5 => ?_)
  · try simp only [decide_eq_true_eq, decide_eq_false_iff_not, Bool.not_eq_true', Bool.not_eq_false', Bool.or_eq_true, Bool.and_eq_true, Bool.and_eq_false_iff, Bool.or_eq_false_iff, beq_iff_eq, bne_iff_ne, beq_eq_false_iff_ne, bne_eq_false_iff_eq, ge_iff_le, gt_iff_lt, ne_eq] at h5
    refine g_skip ?_
    refine g_seq ?_
    refine g_block ?_
    refine g_seq ?_
    refine g_region ?_
    refine p_val rfl (ev_load Try.isAgg23 rfl rfl) .free rfl rfl ?_
    refine p_call rfl (en_f Try.call12 rfl) (up_at (fun Fr => tick_ok _ Fr _ _)) .free rfl rfl ?_ ?_
    rotate_left
    · rintro _ _ ⟨_, ⟨ho, rfl, rfl⟩, rfl⟩
      obtain ⟨k, hk⟩ : ∃ k, n - i = k + 1 := ⟨n - i - 1, by omega⟩
      rw [hk, tk_out ho] at e1 e2 e3
      have e2' : (tk n s).2.1 = i := by simpa using e2
      exact pan_fn fun w hw => ⟨_, ⟨e1, rfl, rfl⟩, by rw [e3, e2']; exact hw⟩
    rintro _ _ ⟨_, ⟨ho, rfl, rfl⟩, rfl⟩
    refine p_nil ?_
    refine g_region ?_
    refine p_val rfl (ev_load Try.isAgg3 rfl rfl) .free rfl rfl ?_
    first | refine p_val rfl (ev_add rfl rfl (wr64 (by omega))) .free rfl rfl ?_ | refine p_val rfl (ev_add rfl rfl rfl) .free rfl rfl ?_
    refine p_chg0 rfl (ch_store Try.sizeOf3 rfl rfl rfl rfl) .free rfl ?_
    rintro _ _ rfl
    refine p_nil ?_
    refine g_region ?_
    first | refine p_val rfl (ev_add rfl rfl (wru8 (by omega))) .free rfl rfl ?_ | refine p_val rfl (ev_add rfl rfl rfl) .free rfl rfl ?_
    refine p_val rfl (ev_move rfl) .free rfl rfl ?_
    refine p_nil ?_
    obtain ⟨k, hk⟩ : ∃ k, n - i = k + 1 := ⟨n - i - 1, by omega⟩
    rw [hk, tk_up ho] at e1 e2 e3
    simp only at e1 e2 e3
    exact fun a w st => ⟨(i + 1, s1.up), ⟨by simp only; omega, by simp only; rw [e1, show n - (i + 1) = k by omega], by simp only; rw [e2, show n - (i + 1) = k by omega]; omega, by simp only; rw [e3, show n - (i + 1) = k by omega]⟩, by simp only; omega, st.to ⟨rfl, rfl, rfl, rfl, rfl, trivial⟩ (fun h => by simpa [Int.add_assoc] using h)⟩
  · try simp only [decide_eq_true_eq, decide_eq_false_iff_not, Bool.not_eq_true', Bool.not_eq_false', Bool.or_eq_true, Bool.and_eq_true, Bool.and_eq_false_iff, Bool.or_eq_false_iff, beq_iff_eq, bne_iff_ne, beq_eq_false_iff_ne, bne_eq_false_iff_eq, ge_iff_le, gt_iff_lt, ne_eq] at h5
    refine g_exit ?_
    exact end_none Try.results11 (fun w hw => by
      obtain rfl : i = n := by omega
      rw [Nat.sub_self] at e1 e2 e3
      have e2' : (tk i s).2.1 = i := by simpa [tk] using e2
      exact ⟨_, ⟨e1, rfl⟩, by rw [e3, e2']; exact hw⟩)

theorem runs2_ok (B : World) (Fr : List HP) (n : Nat) (hn : n ≤ 255) (bn bp pb : Nat) (s : Pow) :
    ∀ w, Holds B (row bn [.int .u8 n] 5 :: row bp [ptr pb] 23 :: PowA pb s :: Fr) w → Calls Try.prog 14 [ptr bn, ptr bp].toArray w (Ret B (fun v H' => (tk n s).1 = true ∧ H' = row bn [.int .u8 n] 5 :: row bp [ptr pb] 23 :: PowA pb (tk n s).2.2 :: Fr) (fun c H' => (tk n s).1 = false ∧ c = offc ∧ H' = row bn [.int .u8 n] 5 :: row bp [ptr pb] 23 :: PowA pb (tk n s).2.2 :: Fr)) := by
  refine fn_enter Try.func14 rfl Try.ntmps14 rfl ?_
  refine g_seq ?_
  refine g_region ?_
  refine p_val rfl (ev_load Try.isAgg5 rfl rfl) .free rfl rfl ?_
  refine p_val rfl (ev_move rfl) .free rfl rfl ?_
  refine p_nil ?_
  refine g_block ?_
  refine g_loop (ι := Nat × Pow) (fun i => i.1 ≤ n ∧ (tk n s).1 = (tk (n - i.1) i.2).1 ∧ (tk n s).2.1 = i.1 + (tk (n - i.1) i.2).2.1 ∧ (tk n s).2.2 = (tk (n - i.1) i.2).2.2) (fun i => [(0, ptr bn), (1, ptr bp), (2, .int .u8 n), (3, .int .u8 i.1)]) (fun i => row bn [.int .u8 n] 5 :: row bp [ptr pb] 23 :: PowA pb i.2 :: Fr) (fun i => n - i.1) (0, s) ?_ (fun a w st => st.to ⟨rfl, rfl, rfl, rfl, trivial⟩ id) ?_
  · exact ⟨Nat.zero_le _, rfl, by simp, rfl⟩
  rintro ⟨i, s1⟩ ⟨hi, e1, e2, e3⟩
  simp only at hi e1 e2 e3 ⊢
  refine g_seq ?_
  refine g_region ?_
  refine p_val rfl (ev_cmp rfl rfl rfl) .free rfl rfl ?_
  refine p_nil ?_
  refine g_seq ?_
  refine g_if rfl (fun h4 => ?_) (fun h4 => ?_)
  · try simp only [decide_eq_true_eq, decide_eq_false_iff_not, Bool.not_eq_true', Bool.not_eq_false', Bool.or_eq_true, Bool.and_eq_true, Bool.and_eq_false_iff, Bool.or_eq_false_iff, beq_iff_eq, bne_iff_ne, beq_eq_false_iff_ne, bne_eq_false_iff_eq, ge_iff_le, gt_iff_lt, ne_eq] at h4
    refine g_skip ?_
    refine g_seq ?_
    refine g_block ?_
    refine g_region ?_
    refine p_val rfl (ev_load Try.isAgg23 rfl rfl) .free rfl rfl ?_
    refine p_call rfl (en_f Try.call12 rfl) (up_at (fun Fr => tick_ok _ Fr _ _)) .free rfl rfl ?_ ?_
    rotate_left
    · rintro _ _ ⟨_, ⟨ho, rfl, rfl⟩, rfl⟩
      obtain ⟨k, hk⟩ : ∃ k, n - i = k + 1 := ⟨n - i - 1, by omega⟩
      rw [hk, tk_out ho] at e1 e2 e3
      have e2' : (tk n s).2.1 = i := by simpa using e2
      exact pan_fn fun w hw => ⟨_, ⟨e1, rfl, rfl⟩, by rw [e3]; exact hw⟩
    rintro _ _ ⟨_, ⟨ho, rfl, rfl⟩, rfl⟩
    refine p_nil ?_
    refine g_region ?_
    first | refine p_val rfl (ev_add rfl rfl (wru8 (by omega))) .free rfl rfl ?_ | refine p_val rfl (ev_add rfl rfl rfl) .free rfl rfl ?_
    refine p_val rfl (ev_move rfl) .free rfl rfl ?_
    refine p_nil ?_
    obtain ⟨k, hk⟩ : ∃ k, n - i = k + 1 := ⟨n - i - 1, by omega⟩
    rw [hk, tk_up ho] at e1 e2 e3
    simp only at e1 e2 e3
    exact fun a w st => ⟨(i + 1, s1.up), ⟨by simp only; omega, by simp only; rw [e1, show n - (i + 1) = k by omega], by simp only; rw [e2, show n - (i + 1) = k by omega]; omega, by simp only; rw [e3, show n - (i + 1) = k by omega]⟩, by simp only; omega, st.to ⟨rfl, rfl, rfl, rfl, trivial⟩ id⟩
  · try simp only [decide_eq_true_eq, decide_eq_false_iff_not, Bool.not_eq_true', Bool.not_eq_false', Bool.or_eq_true, Bool.and_eq_true, Bool.and_eq_false_iff, Bool.or_eq_false_iff, beq_iff_eq, bne_iff_ne, beq_eq_false_iff_ne, bne_eq_false_iff_eq, ge_iff_le, gt_iff_lt, ne_eq] at h4
    refine g_exit ?_
    exact end_none Try.results14 (fun w hw => by
      obtain rfl : i = n := by omega
      rw [Nat.sub_self] at e1 e2 e3
      have e2' : (tk i s).2.1 = i := by simpa [tk] using e2
      exact ⟨_, ⟨e1, rfl⟩, by rw [e3]; exact hw⟩)

theorem nests11_ok (B : World) (Fr : List HP) (n : Nat) (hn : n ≤ 255) (bn bp pb : Nat) (s : Pow) :
    ∀ w, Holds B (row bn [.int .u8 n] 5 :: row bp [ptr pb] 23 :: PowA pb s :: Fr) w → Calls Try.prog 16 [ptr bn, ptr bp].toArray w (Ret B (fun v H' => (tk n s).1 = true ∧ H' = row bn [.int .u8 n] 5 :: row bp [ptr pb] 23 :: PowA pb (tk n s).2.2 :: Fr) (fun c H' => (tk n s).1 = false ∧ c = offc ∧ H' = row bn [.int .u8 n] 5 :: row bp [ptr pb] 23 :: PowA pb (tk n s).2.2 :: Fr)) := by
  refine fn_enter Try.func16 rfl Try.ntmps16 rfl ?_
  refine g_seq ?_
  refine g_region ?_
  refine p_val rfl (ev_load Try.isAgg5 rfl rfl) .free rfl rfl ?_
  refine p_val rfl (ev_move rfl) .free rfl rfl ?_
  refine p_nil ?_
  refine g_block ?_
  refine g_loop (ι := Nat × Pow) (fun i => i.1 ≤ n ∧ (tk n s).1 = (tk (n - i.1) i.2).1 ∧ (tk n s).2.1 = i.1 + (tk (n - i.1) i.2).2.1 ∧ (tk n s).2.2 = (tk (n - i.1) i.2).2.2) (fun i => [(0, ptr bn), (1, ptr bp), (2, .int .u8 n), (3, .int .u8 i.1)]) (fun i => row bn [.int .u8 n] 5 :: row bp [ptr pb] 23 :: PowA pb i.2 :: Fr) (fun i => n - i.1) (0, s) ?_ (fun a w st => st.to ⟨rfl, rfl, rfl, rfl, trivial⟩ id) ?_
  · exact ⟨Nat.zero_le _, rfl, by simp, rfl⟩
  rintro ⟨i, s1⟩ ⟨hi, e1, e2, e3⟩
  simp only at hi e1 e2 e3 ⊢
  refine g_seq ?_
  refine g_region ?_
  refine p_val rfl (ev_cmp rfl rfl rfl) .free rfl rfl ?_
  refine p_nil ?_
  refine g_seq ?_
  refine g_if rfl (fun h4 => ?_) (fun h4 => ?_)
  · try simp only [decide_eq_true_eq, decide_eq_false_iff_not, Bool.not_eq_true', Bool.not_eq_false', Bool.or_eq_true, Bool.and_eq_true, Bool.and_eq_false_iff, Bool.or_eq_false_iff, beq_iff_eq, bne_iff_ne, beq_eq_false_iff_ne, bne_eq_false_iff_eq, ge_iff_le, gt_iff_lt, ne_eq] at h4
    refine g_skip ?_
    refine g_seq ?_
    refine g_block ?_
    refine g_region ?_
    refine p_val rfl (ev_load Try.isAgg23 rfl rfl) .free rfl rfl ?_
    refine p_call rfl (en_f Try.call12 rfl) (up_at (fun Fr => tick_ok _ Fr _ _)) .free rfl rfl ?_ ?_
    rotate_left
    · rintro _ _ ⟨_, ⟨ho, rfl, rfl⟩, rfl⟩
      obtain ⟨k, hk⟩ : ∃ k, n - i = k + 1 := ⟨n - i - 1, by omega⟩
      rw [hk, tk_out ho] at e1 e2 e3
      have e2' : (tk n s).2.1 = i := by simpa using e2
      exact pan_fn fun w hw => ⟨_, ⟨e1, rfl, rfl⟩, by rw [e3]; exact hw⟩
    rintro _ _ ⟨_, ⟨ho, rfl, rfl⟩, rfl⟩
    refine p_nil ?_
    refine g_region ?_
    first | refine p_val rfl (ev_add rfl rfl (wru8 (by omega))) .free rfl rfl ?_ | refine p_val rfl (ev_add rfl rfl rfl) .free rfl rfl ?_
    refine p_val rfl (ev_move rfl) .free rfl rfl ?_
    refine p_nil ?_
    obtain ⟨k, hk⟩ : ∃ k, n - i = k + 1 := ⟨n - i - 1, by omega⟩
    rw [hk, tk_up ho] at e1 e2 e3
    simp only at e1 e2 e3
    exact fun a w st => ⟨(i + 1, s1.up), ⟨by simp only; omega, by simp only; rw [e1, show n - (i + 1) = k by omega], by simp only; rw [e2, show n - (i + 1) = k by omega]; omega, by simp only; rw [e3, show n - (i + 1) = k by omega]⟩, by simp only; omega, st.to ⟨rfl, rfl, rfl, rfl, trivial⟩ id⟩
  · try simp only [decide_eq_true_eq, decide_eq_false_iff_not, Bool.not_eq_true', Bool.not_eq_false', Bool.or_eq_true, Bool.and_eq_true, Bool.and_eq_false_iff, Bool.or_eq_false_iff, beq_iff_eq, bne_iff_ne, beq_eq_false_iff_ne, bne_eq_false_iff_eq, ge_iff_le, gt_iff_lt, ne_eq] at h4
    refine g_exit ?_
    exact end_none Try.results16 (fun w hw => by
      obtain rfl : i = n := by omega
      rw [Nat.sub_self] at e1 e2 e3
      have e2' : (tk i s).2.1 = i := by simpa [tk] using e2
      exact ⟨_, ⟨e1, rfl⟩, by rw [e3]; exact hw⟩)

theorem more11_ok (B : World) (Fr : List HP) (n : Nat) (hn : n ≤ 255) (bn bp pb : Nat) (s : Pow) :
    ∀ w, Holds B (row bn [.int .u8 n] 5 :: row bp [ptr pb] 23 :: PowA pb s :: Fr) w → Calls Try.prog 18 [ptr bn, ptr bp].toArray w (Ret B (fun v H' => (tk n s).1 = true ∧ H' = row bn [.int .u8 n] 5 :: row bp [ptr pb] 23 :: PowA pb (tk n s).2.2 :: Fr) (fun c H' => (tk n s).1 = false ∧ c = offc ∧ H' = row bn [.int .u8 n] 5 :: row bp [ptr pb] 23 :: PowA pb (tk n s).2.2 :: Fr)) := by
  refine fn_enter Try.func18 rfl Try.ntmps18 rfl ?_
  refine g_seq ?_
  refine g_region ?_
  refine p_val rfl (ev_load Try.isAgg5 rfl rfl) .free rfl rfl ?_
  refine p_val rfl (ev_move rfl) .free rfl rfl ?_
  refine p_nil ?_
  refine g_block ?_
  refine g_loop (ι := Nat × Pow) (fun i => i.1 ≤ n ∧ (tk n s).1 = (tk (n - i.1) i.2).1 ∧ (tk n s).2.1 = i.1 + (tk (n - i.1) i.2).2.1 ∧ (tk n s).2.2 = (tk (n - i.1) i.2).2.2) (fun i => [(0, ptr bn), (1, ptr bp), (2, .int .u8 n), (3, .int .u8 i.1)]) (fun i => row bn [.int .u8 n] 5 :: row bp [ptr pb] 23 :: PowA pb i.2 :: Fr) (fun i => n - i.1) (0, s) ?_ (fun a w st => st.to ⟨rfl, rfl, rfl, rfl, trivial⟩ id) ?_
  · exact ⟨Nat.zero_le _, rfl, by simp, rfl⟩
  rintro ⟨i, s1⟩ ⟨hi, e1, e2, e3⟩
  simp only at hi e1 e2 e3 ⊢
  refine g_seq ?_
  refine g_region ?_
  refine p_val rfl (ev_cmp rfl rfl rfl) .free rfl rfl ?_
  refine p_nil ?_
  refine g_seq ?_
  refine g_if rfl (fun h4 => ?_) (fun h4 => ?_)
  · try simp only [decide_eq_true_eq, decide_eq_false_iff_not, Bool.not_eq_true', Bool.not_eq_false', Bool.or_eq_true, Bool.and_eq_true, Bool.and_eq_false_iff, Bool.or_eq_false_iff, beq_iff_eq, bne_iff_ne, beq_eq_false_iff_ne, bne_eq_false_iff_eq, ge_iff_le, gt_iff_lt, ne_eq] at h4
    refine g_skip ?_
    refine g_seq ?_
    refine g_block ?_
    refine g_region ?_
    refine p_val rfl (ev_load Try.isAgg23 rfl rfl) .free rfl rfl ?_
    refine p_call rfl (en_f Try.call12 rfl) (up_at (fun Fr => tick_ok _ Fr _ _)) .free rfl rfl ?_ ?_
    rotate_left
    · rintro _ _ ⟨_, ⟨ho, rfl, rfl⟩, rfl⟩
      obtain ⟨k, hk⟩ : ∃ k, n - i = k + 1 := ⟨n - i - 1, by omega⟩
      rw [hk, tk_out ho] at e1 e2 e3
      have e2' : (tk n s).2.1 = i := by simpa using e2
      exact pan_fn fun w hw => ⟨_, ⟨e1, rfl, rfl⟩, by rw [e3]; exact hw⟩
    rintro _ _ ⟨_, ⟨ho, rfl, rfl⟩, rfl⟩
    refine p_nil ?_
    refine g_region ?_
    first | refine p_val rfl (ev_add rfl rfl (wru8 (by omega))) .free rfl rfl ?_ | refine p_val rfl (ev_add rfl rfl rfl) .free rfl rfl ?_
    refine p_val rfl (ev_move rfl) .free rfl rfl ?_
    refine p_nil ?_
    obtain ⟨k, hk⟩ : ∃ k, n - i = k + 1 := ⟨n - i - 1, by omega⟩
    rw [hk, tk_up ho] at e1 e2 e3
    simp only at e1 e2 e3
    exact fun a w st => ⟨(i + 1, s1.up), ⟨by simp only; omega, by simp only; rw [e1, show n - (i + 1) = k by omega], by simp only; rw [e2, show n - (i + 1) = k by omega]; omega, by simp only; rw [e3, show n - (i + 1) = k by omega]⟩, by simp only; omega, st.to ⟨rfl, rfl, rfl, rfl, trivial⟩ id⟩
  · try simp only [decide_eq_true_eq, decide_eq_false_iff_not, Bool.not_eq_true', Bool.not_eq_false', Bool.or_eq_true, Bool.and_eq_true, Bool.and_eq_false_iff, Bool.or_eq_false_iff, beq_iff_eq, bne_iff_ne, beq_eq_false_iff_ne, bne_eq_false_iff_eq, ge_iff_le, gt_iff_lt, ne_eq] at h4
    refine g_exit ?_
    exact end_none Try.results18 (fun w hw => by
      obtain rfl : i = n := by omega
      rw [Nat.sub_self] at e1 e2 e3
      have e2' : (tk i s).2.1 = i := by simpa [tk] using e2
      exact ⟨_, ⟨e1, rfl⟩, by rw [e3]; exact hw⟩)

theorem parts11_ok (B : World) (Fr : List HP) (n : Nat) (hn : n ≤ 100000) (bn bp pb : Nat) (s : Pow) :
    ∀ w, Holds B (row bn [.int .i64 n] 3 :: row bp [ptr pb] 23 :: PowA pb s :: Fr) w → Calls Try.prog 20 [ptr bn, ptr bp].toArray w (Ret B (fun v H' => (tk n s).1 = true ∧ H' = row bn [.int .i64 n] 3 :: row bp [ptr pb] 23 :: PowA pb (tk n s).2.2 :: Fr) (fun c H' => (tk n s).1 = false ∧ c = offc ∧ H' = row bn [.int .i64 n] 3 :: row bp [ptr pb] 23 :: PowA pb (tk n s).2.2 :: Fr)) := by
  refine fn_enter Try.func20 rfl Try.ntmps20 rfl ?_
  refine g_seq ?_
  refine g_region ?_
  refine p_val rfl (ev_load Try.isAgg3 rfl rfl) .free rfl rfl ?_
  refine p_val rfl (ev_move rfl) .free rfl rfl ?_
  refine p_nil ?_
  refine g_block ?_
  refine g_loop (ι := Nat × Pow) (fun i => i.1 ≤ n ∧ (tk n s).1 = (tk (n - i.1) i.2).1 ∧ (tk n s).2.1 = i.1 + (tk (n - i.1) i.2).2.1 ∧ (tk n s).2.2 = (tk (n - i.1) i.2).2.2) (fun i => [(0, ptr bn), (1, ptr bp), (2, .int .i64 n), (3, .int .i64 i.1)]) (fun i => row bn [.int .i64 n] 3 :: row bp [ptr pb] 23 :: PowA pb i.2 :: Fr) (fun i => n - i.1) (0, s) ?_ (fun a w st => st.to ⟨rfl, rfl, rfl, rfl, trivial⟩ id) ?_
  · exact ⟨Nat.zero_le _, rfl, by simp, rfl⟩
  rintro ⟨i, s1⟩ ⟨hi, e1, e2, e3⟩
  simp only at hi e1 e2 e3 ⊢
  refine g_seq ?_
  refine g_region ?_
  refine p_val rfl (ev_cmp rfl rfl rfl) .free rfl rfl ?_
  refine p_nil ?_
  refine g_seq ?_
  refine g_if rfl (fun h4 => ?_) (fun h4 => ?_)
  · try simp only [decide_eq_true_eq, decide_eq_false_iff_not, Bool.not_eq_true', Bool.not_eq_false', Bool.or_eq_true, Bool.and_eq_true, Bool.and_eq_false_iff, Bool.or_eq_false_iff, beq_iff_eq, bne_iff_ne, beq_eq_false_iff_ne, bne_eq_false_iff_eq, ge_iff_le, gt_iff_lt, ne_eq] at h4
    refine g_skip ?_
    refine g_seq ?_
    refine g_block ?_
    refine g_region ?_
    refine p_val rfl (ev_load Try.isAgg23 rfl rfl) .free rfl rfl ?_
    refine p_call rfl (en_f Try.call12 rfl) (up_at (fun Fr => tick_ok _ Fr _ _)) .free rfl rfl ?_ ?_
    rotate_left
    · rintro _ _ ⟨_, ⟨ho, rfl, rfl⟩, rfl⟩
      obtain ⟨k, hk⟩ : ∃ k, n - i = k + 1 := ⟨n - i - 1, by omega⟩
      rw [hk, tk_out ho] at e1 e2 e3
      have e2' : (tk n s).2.1 = i := by simpa using e2
      exact pan_fn fun w hw => ⟨_, ⟨e1, rfl, rfl⟩, by rw [e3]; exact hw⟩
    rintro _ _ ⟨_, ⟨ho, rfl, rfl⟩, rfl⟩
    refine p_nil ?_
    refine g_region ?_
    first | refine p_val rfl (ev_add rfl rfl (wr64 (by omega))) .free rfl rfl ?_ | refine p_val rfl (ev_add rfl rfl rfl) .free rfl rfl ?_
    refine p_val rfl (ev_move rfl) .free rfl rfl ?_
    refine p_nil ?_
    obtain ⟨k, hk⟩ : ∃ k, n - i = k + 1 := ⟨n - i - 1, by omega⟩
    rw [hk, tk_up ho] at e1 e2 e3
    simp only at e1 e2 e3
    exact fun a w st => ⟨(i + 1, s1.up), ⟨by simp only; omega, by simp only; rw [e1, show n - (i + 1) = k by omega], by simp only; rw [e2, show n - (i + 1) = k by omega]; omega, by simp only; rw [e3, show n - (i + 1) = k by omega]⟩, by simp only; omega, st.to ⟨rfl, rfl, rfl, rfl, trivial⟩ id⟩
  · try simp only [decide_eq_true_eq, decide_eq_false_iff_not, Bool.not_eq_true', Bool.not_eq_false', Bool.or_eq_true, Bool.and_eq_true, Bool.and_eq_false_iff, Bool.or_eq_false_iff, beq_iff_eq, bne_iff_ne, beq_eq_false_iff_ne, bne_eq_false_iff_eq, ge_iff_le, gt_iff_lt, ne_eq] at h4
    refine g_exit ?_
    exact end_none Try.results20 (fun w hw => by
      obtain rfl : i = n := by omega
      rw [Nat.sub_self] at e1 e2 e3
      have e2' : (tk i s).2.1 = i := by simpa [tk] using e2
      exact ⟨_, ⟨e1, rfl⟩, by rw [e3]; exact hw⟩)

theorem aw1_ok (B : World) (Fr : List HP) (bp pb : Nat) :
    ∀ w, Holds B (row bp [ptr pb] 23 :: PowA pb ⟨1, 0⟩ :: Fr) w → Calls Try.prog 21 [ptr bp].toArray w (Ret B (fun _ _ => False) (fun c H' => c = offc ∧ H' = row bp [ptr pb] 23 :: PowA pb ⟨1, 1⟩ :: Fr)) := by
  refine fn_enter Try.func21 rfl Try.ntmps21 rfl ?_
  refine g_seq ?_
  refine g_region ?_
  refine p_val rfl (ev_load Try.isAgg23 rfl rfl) .free rfl rfl ?_
  refine p_call rfl (en_f Try.call12 rfl) (up_at (fun Fr => tick_ok _ Fr _ _)) .free rfl rfl ?_ ?_
  rotate_left
  · rintro _ _ ⟨_, ⟨ho, rfl, rfl⟩, rfl⟩
    first | (exfalso; revert ho; decide) | exact pan_fn fun w hw => ⟨_, ⟨rfl, rfl⟩, hw⟩
  rintro _ _ ⟨_, ⟨ho, rfl, rfl⟩, rfl⟩
  refine p_nil ?_
  refine g_region ?_
  refine p_val rfl (ev_load Try.isAgg23 rfl rfl) .free rfl rfl ?_
  refine p_call rfl (en_f Try.call12 rfl) (up_at (fun Fr => tick_ok _ Fr _ _)) .free rfl rfl ?_ ?_
  rotate_left
  · rintro _ _ ⟨_, ⟨ho, rfl, rfl⟩, rfl⟩
    first | (exfalso; revert ho; decide) | exact pan_fn fun w hw => ⟨_, ⟨rfl, rfl⟩, hw⟩
  rintro _ _ ⟨_, ⟨ho, rfl, rfl⟩, rfl⟩
  exfalso; revert ho; decide

theorem aw2_ok (B : World) (H : List HP) :
    ∀ w, Holds B H w → Calls Try.prog 22 [].toArray w (PureR B H (.tuple #[])) := by
  refine fn_enter Try.func22 rfl Try.ntmps22 rfl ?_
  refine g_skip ?_
  exact end_none Try.results22 (fun w hw => ⟨rfl, hw⟩)

theorem awake_ok (B : World) (H : List HP) :
    ∀ w, Holds B H w → Calls Try.prog 8 [].toArray w (PureR B H (.bool true)) := by
  refine fn_enter Try.func8 rfl Try.ntmps8 rfl ?_
  refine g_seq ?_
  refine g_region ?_
  refine p_val rfl (ev_assign rfl) .free rfl rfl ?_
  refine p_nil ?_
  refine g_seq ?_
  refine g_region ?_
  refine p_call rfl (en_f Try.call9 rfl) (pnew_ok _ _ _) .free rfl rfl ?_ ?_
  rotate_left
  · rintro _ _ ⟨⟩
  rintro _ _ ⟨pb, rfl, rfl⟩
  refine p_chg rfl (ch_alloc1 Try.zeroValue23 rfl) .free rfl rfl ?_
  rintro _ _ ⟨b1, rfl, rfl⟩
  refine p_chg0 rfl (ch_store Try.sizeOf23 rfl rfl rfl rfl) .free rfl ?_
  rintro _ _ rfl
  refine p_nil ?_
  refine g_seq ?_
  refine g_seq ?_
  refine g_region ?_
  refine p_val rfl (ev_load Try.isAgg23 rfl rfl) .free rfl rfl ?_
  refine p_val rfl (ev_eqp Try.runUnderlying23 rfl rfl rfl) .free rfl rfl ?_
  refine p_nil ?_
  refine g_iff rfl (rfl) ?_
  refine g_skip ?_
  refine g_seq ?_
  refine g_region ?_
  refine p_val rfl (ev_mkf rfl rfl) .free rfl rfl ?_
  refine p_call rfl (en_f Try.call10 rfl) (run_det false (row b1 [ptr pb] 23 :: PowA pb ⟨1, 1⟩ :: H) Try.call21 (fun A w hw => (aw1_ok B (A :: H) b1 pb w ((hw.front 2 rfl).front 2 rfl)).mono (Ret.mono (fun _ _ h => h.elim) (fun c H' h => ⟨rfl, h.1, fun w hw => h.2 ▸ hw |>.front 2 rfl⟩)))) .free rfl rfl ?_ ?_
  rotate_left
  · rintro _ _ ⟨⟩
  rintro _ _ ⟨rfl, rfl⟩
  refine p_val rfl (ev_assign rfl) .free rfl rfl ?_
  refine p_nil ?_
  refine g_seq ?_
  refine g_region ?_
  refine p_val rfl (ev_move rfl) .free rfl rfl ?_
  refine p_val rfl (ev_not rfl) .free rfl rfl ?_
  refine p_val rfl (ev_move rfl) .free rfl rfl ?_
  apply p_and (tp := 14) (t := 10) (σ1 := [(10, _), (0, _)]) 4 rfl ⟨rfl, rfl, trivial⟩
  · intro hg1
    refine p_val rfl (ev_load Try.isAgg23 rfl rfl) (.on rfl rfl (beq_eq hg1)) rfl rfl ?_
    refine p_callq rfl (en_f Try.call13 rfl) (ro_at (fun Fr => used_ok _ Fr _ _)) (.on rfl rfl (beq_eq hg1)) rfl rfl ?_
    refine p_val rfl (ev_cmp rfl rfl rfl) (.on rfl rfl (beq_eq hg1)) rfl rfl ?_
    refine p_val rfl (ev_pick_t rfl hg1 rfl) .free rfl rfl ?_
    exact p_seg rfl ⟨rfl, rfl, trivial⟩ (and_t hg1)
  · intro hg1
    refine p_skip rfl (.on rfl rfl (beq_ne hg1)) rfl ?_
    refine p_skip rfl (.on rfl rfl (beq_ne hg1)) rfl ?_
    refine p_skip rfl (.on rfl rfl (beq_ne hg1)) rfl ?_
    refine p_val rfl (ev_pick_f rfl hg1 rfl) .free rfl rfl ?_
    exact p_seg rfl ⟨rfl, rfl, trivial⟩ (and_f hg1)
  refine p_val rfl (ev_move rfl) .free rfl rfl ?_
  apply p_and (tp := 17) (t := 15) (σ1 := [(15, _), (0, _)]) 2 rfl ⟨rfl, rfl, trivial⟩
  · intro hg2
    refine p_call rfl (en_f Try.call10 rfl) (run_det true (row b1 [ptr pb] 23 :: PowA pb ⟨1, 1⟩ :: H) Try.call22 (fun A w hw => (aw2_ok B _ w hw).mono fun _ _ h => h.ret ⟨rfl, fun _ h => h⟩)) (.on rfl rfl (beq_eq hg2)) rfl rfl ?_ ?_
    rotate_left
    · rintro _ _ ⟨⟩
    rintro _ _ ⟨rfl, rfl⟩
    refine p_val rfl (ev_pick_t rfl hg2 rfl) .free rfl rfl ?_
    exact p_seg rfl ⟨rfl, rfl, trivial⟩ (and_t hg2)
  · intro hg2
    refine p_skip rfl (.on rfl rfl (beq_ne hg2)) rfl ?_
    refine p_val rfl (ev_pick_f rfl hg2 rfl) .free rfl rfl ?_
    exact p_seg rfl ⟨rfl, rfl, trivial⟩ (and_f hg2)
  refine p_val rfl (ev_assign rfl) .free rfl rfl ?_
  refine p_nil ?_
  refine g_ret ?_
  exact ret_tmp Try.results8 rfl (fun w hw => ⟨rfl, hw.tail.tail⟩)

theorem powerRuns_ok (B : World) (H : List HP) (lim : Int) (hlim : -9223372036854775808 ≤ lim ∧ lim ≤ 9223372036854775807) (n m : Nat) (hn : n ≤ 255) (hm : m ≤ 255) :
    ∀ w, Holds B H w → Calls Try.prog 3 [.int .i64 lim, .int .u8 n, .int .u8 m].toArray w (PureR B H (.bool true)) := by
  refine fn_enter Try.func3 rfl Try.ntmps3 rfl ?_
  have hs := tk_spec n ⟨lim, 0⟩ (by simp) (by simp <;> omega) (by simp)
  have hs2 : ∀ s : Pow, 0 ≤ s.used → s.used ≤ 255 → (0 ≤ s.lim → s.used ≤ s.lim) → _ := fun s h0 h1 h2 => tk_spec m s h0 (by omega) h2
  refine g_seq ?_
  refine g_region ?_
  refine p_chg rfl (ch_box1 rfl rfl) .free rfl rfl ?_
  rintro _ _ ⟨b4, rfl, rfl⟩
  refine p_chg rfl (ch_box1 rfl rfl) .free rfl rfl ?_
  rintro _ _ ⟨b5, rfl, rfl⟩
  refine p_val rfl (ev_assign rfl) .free rfl rfl ?_
  refine p_nil ?_
  refine g_seq ?_
  refine g_seq ?_
  refine g_region ?_
  refine p_callq rfl (en_f Try.call8 rfl) (awake_ok _ _) .free rfl rfl ?_
  refine p_val rfl (ev_not rfl) .free rfl rfl ?_
  refine p_nil ?_
  refine g_iff rfl (rfl) ?_
  refine g_skip ?_
  refine g_seq ?_
  refine g_region ?_
  refine p_val rfl (ev_move rfl) .free rfl rfl ?_
  refine p_call rfl (en_f Try.call9 rfl) (pnew_ok _ _ _) .free rfl rfl ?_ ?_
  rotate_left
  · rintro _ _ ⟨⟩
  rintro _ _ ⟨pb, rfl, rfl⟩
  refine p_chg rfl (ch_alloc1 Try.zeroValue23 rfl) .free rfl rfl ?_
  rintro _ _ ⟨b7, rfl, rfl⟩
  refine p_chg0 rfl (ch_store Try.sizeOf23 rfl rfl rfl rfl) .free rfl ?_
  rintro _ _ rfl
  refine p_nil ?_
  refine g_seq ?_
  refine g_seq ?_
  refine g_region ?_
  refine p_val rfl (ev_load Try.isAgg23 rfl rfl) .free rfl rfl ?_
  refine p_val rfl (ev_eqp Try.runUnderlying23 rfl rfl rfl) .free rfl rfl ?_
  refine p_nil ?_
  refine go_sub (σ' := [(18, _), (7, _), (6, _), (5, _), (4, _), (0, _)]) ⟨rfl, rfl, rfl, rfl, rfl, rfl, trivial⟩ ?_
  refine g_iff rfl (rfl) ?_
  refine g_skip ?_
  refine g_seq ?_
  refine g_region ?_
  refine p_chg rfl (ch_alloc1 Try.zeroValue3 rfl) .free rfl rfl ?_
  rintro _ _ ⟨b8, rfl, rfl⟩
  refine p_chg0 rfl (ch_store Try.sizeOf3 rfl rfl rfl rfl) .free rfl ?_
  rintro _ _ rfl
  refine p_nil ?_
  refine g_seq ?_
  refine g_region ?_
  refine p_val rfl (ev_mkf rfl rfl) .free rfl rfl ?_
  refine p_call rfl (en_f Try.call10 rfl) (run_det (tk n ⟨lim, 0⟩).1 (row b4 [.int .u8 n] 5 :: row b7 [ptr pb] 23 :: row b8 [.int .i64 (0 + (tk n ⟨lim, 0⟩).2.1)] 3 :: PowA pb (tk n ⟨lim, 0⟩).2.2 :: row b5 [.int .u8 m] 5 :: H) Try.call11 (fun A w hw => (runs1_ok B _ n hn b4 b7 b8 pb ⟨lim, 0⟩ 0 (by omega) w ((((hw.front 3 rfl).front 2 rfl).front 3 rfl).front 5 rfl)).mono (Ret.mono (fun _ H' h => ⟨h.1, fun w hw => by rw [h.2] at hw; exact (hw.front 4 rfl)⟩) (fun c H' h => ⟨h.1, h.2.1, fun w hw => by rw [h.2.2] at hw; exact (hw.front 4 rfl)⟩)))) .free rfl rfl ?_ ?_
  rotate_left
  · rintro _ _ ⟨⟩
  rintro _ _ ⟨rfl, rfl⟩
  refine p_val rfl (ev_assign rfl) .free rfl rfl ?_
  refine p_nil ?_
  refine g_seq ?_
  refine g_region ?_
  refine p_val rfl (ev_load Try.isAgg5 rfl rfl) .free rfl rfl ?_
  first | refine p_val rfl (ev_conv Try.runUnderlying5 Try.runUnderlying3 rfl (wr64 (by omega))) .free rfl rfl ?_ | refine p_val rfl (ev_conv Try.runUnderlying5 Try.runUnderlying3 rfl rfl) .free rfl rfl ?_
  refine p_val rfl (ev_assign rfl) .free rfl rfl ?_
  refine p_nil ?_
  refine g_seq ?_
  refine g_seq ?_
  refine g_region ?_
  refine p_val rfl (ev_move rfl) .free rfl rfl ?_
  refine p_val rfl (ev_cmp rfl rfl rfl) .free rfl rfl ?_
  refine p_nil ?_
  refine g_if rfl (fun h24 => ?_) (fun h24 => ?_)
  · try simp only [decide_eq_true_eq, decide_eq_false_iff_not, Bool.not_eq_true', Bool.not_eq_false', Bool.or_eq_true, Bool.and_eq_true, Bool.and_eq_false_iff, Bool.or_eq_false_iff, beq_iff_eq, bne_iff_ne, beq_eq_false_iff_ne, bne_eq_false_iff_eq, ge_iff_le, gt_iff_lt, ne_eq] at h24
    refine g_region ?_
    refine p_val rfl (ev_move rfl) .free rfl rfl ?_
    refine p_val rfl (ev_move rfl) .free rfl rfl ?_
    refine p_val rfl (ev_min rfl rfl rfl) .free rfl rfl ?_
    refine p_val rfl (ev_assign rfl) .free rfl rfl ?_
    refine p_nil ?_
    refine go_sub (σ' := [(10, _), (9, _), (8, _), (7, _), (6, _), (5, _), (4, _), (0, _)]) ⟨rfl, rfl, rfl, rfl, rfl, rfl, rfl, rfl, trivial⟩ ?_
    refine g_seq ?_
    refine g_seq ?_
    refine g_region ?_
    refine p_val rfl (ev_move rfl) .free rfl rfl ?_
    refine p_val rfl (ev_move rfl) .free rfl rfl ?_
    refine p_val rfl (ev_load Try.isAgg5 rfl rfl) .free rfl rfl ?_
    first | refine p_val rfl (ev_conv Try.runUnderlying5 Try.runUnderlying3 rfl (wr64 (by omega))) .free rfl rfl ?_ | refine p_val rfl (ev_conv Try.runUnderlying5 Try.runUnderlying3 rfl rfl) .free rfl rfl ?_
    refine p_val rfl (ev_cmp rfl rfl rfl) .free rfl rfl ?_
    refine p_val rfl (ev_eqb Try.runUnderlying4 rfl rfl rfl) .free rfl rfl ?_
    refine p_val rfl (ev_move rfl) .free rfl rfl ?_
    apply p_or (tp := 38) (t := 34) (σ1 := [(34, _), (10, _), (7, _), (6, _), (5, _), (0, _)]) 4 rfl ⟨rfl, rfl, rfl, rfl, rfl, rfl, trivial⟩
    · intro hg1
      refine p_val rfl (ev_load Try.isAgg3 rfl rfl) (.on rfl rfl (beq_eq hg1)) rfl rfl ?_
      refine p_val rfl (ev_move rfl) (.on rfl rfl (beq_eq hg1)) rfl rfl ?_
      refine p_val rfl (ev_cmp rfl rfl rfl) (.on rfl rfl (beq_eq hg1)) rfl rfl ?_
      refine p_val rfl (ev_pick_f rfl hg1 rfl) .free rfl rfl ?_
      exact p_seg rfl ⟨rfl, rfl, rfl, rfl, rfl, rfl, trivial⟩ (or_f hg1)
    · intro hg1
      refine p_skip rfl (.on rfl rfl (beq_ne hg1)) rfl ?_
      refine p_skip rfl (.on rfl rfl (beq_ne hg1)) rfl ?_
      refine p_skip rfl (.on rfl rfl (beq_ne hg1)) rfl ?_
      refine p_val rfl (ev_pick_t rfl hg1 rfl) .free rfl rfl ?_
      exact p_seg rfl ⟨rfl, rfl, rfl, rfl, rfl, rfl, trivial⟩ (or_t hg1)
    refine p_val rfl (ev_move rfl) .free rfl rfl ?_
    apply p_or (tp := 44) (t := 39) (σ1 := [(39, _), (10, _), (7, _), (6, _), (5, _), (0, _)]) 5 rfl ⟨rfl, rfl, rfl, rfl, rfl, rfl, trivial⟩
    · intro hg2
      refine p_val rfl (ev_load Try.isAgg23 rfl rfl) (.on rfl rfl (beq_eq hg2)) rfl rfl ?_
      refine p_callq rfl (en_f Try.call13 rfl) (ro_at (fun Fr => used_ok _ Fr _ _)) (.on rfl rfl (beq_eq hg2)) rfl rfl ?_
      refine p_val rfl (ev_move rfl) (.on rfl rfl (beq_eq hg2)) rfl rfl ?_
      refine p_val rfl (ev_cmp rfl rfl rfl) (.on rfl rfl (beq_eq hg2)) rfl rfl ?_
      refine p_val rfl (ev_pick_f rfl hg2 rfl) .free rfl rfl ?_
      exact p_seg rfl ⟨rfl, rfl, rfl, rfl, rfl, rfl, trivial⟩ (or_f hg2)
    · intro hg2
      refine p_skip rfl (.on rfl rfl (beq_ne hg2)) rfl ?_
      refine p_skip rfl (.on rfl rfl (beq_ne hg2)) rfl ?_
      refine p_skip rfl (.on rfl rfl (beq_ne hg2)) rfl ?_
      refine p_skip rfl (.on rfl rfl (beq_ne hg2)) rfl ?_
      refine p_val rfl (ev_pick_t rfl hg2 rfl) .free rfl rfl ?_
      exact p_seg rfl ⟨rfl, rfl, rfl, rfl, rfl, rfl, trivial⟩ (or_t hg2)
    refine p_nil ?_
    refine g_if rfl (fun h44 => ?_) (fun h44 => ?_)
    · try simp only [decide_eq_true_eq, decide_eq_false_iff_not, Bool.not_eq_true', Bool.not_eq_false', Bool.or_eq_true, Bool.and_eq_true, Bool.and_eq_false_iff, Bool.or_eq_false_iff, beq_iff_eq, bne_iff_ne, beq_eq_false_iff_ne, bne_eq_false_iff_eq, ge_iff_le, gt_iff_lt, ne_eq] at h44
      exfalso
      by_cases hc : lim < 0 ∨ (0 : Int) + n ≤ lim
      · rw [if_pos hc] at hs
        simp [hs] at h44 <;> omega
      · rw [if_neg hc] at hs
        simp [hs] at h44 <;> omega
    · try simp only [decide_eq_true_eq, decide_eq_false_iff_not, Bool.not_eq_true', Bool.not_eq_false', Bool.or_eq_true, Bool.and_eq_true, Bool.and_eq_false_iff, Bool.or_eq_false_iff, beq_iff_eq, bne_iff_ne, beq_eq_false_iff_ne, bne_eq_false_iff_eq, ge_iff_le, gt_iff_lt, ne_eq] at h44
      refine g_skip ?_
      refine g_seq ?_
      refine g_region ?_
      refine p_val rfl (ev_mkf rfl rfl) .free rfl rfl ?_
      refine p_call rfl (en_f Try.call10 rfl) (run_det (tk m (tk n ⟨lim, 0⟩).2.2).1 (row b5 [.int .u8 m] 5 :: row b7 [ptr pb] 23 :: PowA pb (tk m (tk n ⟨lim, 0⟩).2.2).2.2 :: row b4 [.int .u8 n] 5 :: row b8 [.int .i64 (0 + (tk n ⟨lim, 0⟩).2.1)] 3 :: H) Try.call14 (fun A w hw => (runs2_ok B _ m hm b5 b7 pb (tk n ⟨lim, 0⟩).2.2 w (((hw.front 4 rfl).front 3 rfl).front 5 rfl)).mono (Ret.mono (fun _ H' h => ⟨h.1, fun w hw => by rw [h.2] at hw; exact (hw.front 3 rfl)⟩) (fun c H' h => ⟨h.1, h.2.1, fun w hw => by rw [h.2.2] at hw; exact (hw.front 3 rfl)⟩)))) .free rfl rfl ?_ ?_
      rotate_left
      · rintro _ _ ⟨⟩
      rintro _ _ ⟨rfl, rfl⟩
      refine p_val rfl (ev_assign rfl) .free rfl rfl ?_
      refine p_nil ?_
      refine g_seq ?_
      refine g_region ?_
      refine p_val rfl (ev_load Try.isAgg5 rfl rfl) .free rfl rfl ?_
      first | refine p_val rfl (ev_conv Try.runUnderlying5 Try.runUnderlying3 rfl (wr64 (by omega))) .free rfl rfl ?_ | refine p_val rfl (ev_conv Try.runUnderlying5 Try.runUnderlying3 rfl rfl) .free rfl rfl ?_
      refine p_val rfl (ev_assign rfl) .free rfl rfl ?_
      refine p_nil ?_
      refine g_seq ?_
      refine g_seq ?_
      refine g_region ?_
      refine p_val rfl (ev_move rfl) .free rfl rfl ?_
      refine p_val rfl (ev_cmp rfl rfl rfl) .free rfl rfl ?_
      refine p_nil ?_
      refine go_sub (σ' := [(50, _), (12, _), (11, _), (10, _), (7, _), (6, _), (5, _), (0, _)]) ⟨rfl, rfl, rfl, rfl, rfl, rfl, rfl, rfl, trivial⟩ ?_
      refine g_if rfl (fun h50 => ?_) (fun h50 => ?_)
      · try simp only [decide_eq_true_eq, decide_eq_false_iff_not, Bool.not_eq_true', Bool.not_eq_false', Bool.or_eq_true, Bool.and_eq_true, Bool.and_eq_false_iff, Bool.or_eq_false_iff, beq_iff_eq, bne_iff_ne, beq_eq_false_iff_ne, bne_eq_false_iff_eq, ge_iff_le, gt_iff_lt, ne_eq] at h50
        refine g_region ?_
        refine p_val rfl (ev_move rfl) .free rfl rfl ?_
        refine p_val rfl (ev_move rfl) .free rfl rfl ?_
        refine p_val rfl (ev_move rfl) .free rfl rfl ?_
        first | refine p_val rfl (ev_sub rfl rfl (wr64 (by omega))) .free rfl rfl ?_ | refine p_val rfl (ev_sub rfl rfl rfl) .free rfl rfl ?_
        refine p_val rfl (ev_min rfl rfl rfl) .free rfl rfl ?_
        refine p_val rfl (ev_assign rfl) .free rfl rfl ?_
        refine p_nil ?_
        refine go_sub (σ' := [(12, _), (11, _), (10, _), (7, _), (6, _), (5, _)]) ⟨rfl, rfl, rfl, rfl, rfl, rfl, trivial⟩ ?_
        refine g_seq ?_
        refine g_region ?_
        refine p_val rfl (ev_move rfl) .free rfl rfl ?_
        refine p_val rfl (ev_move rfl) .free rfl rfl ?_
        refine p_val rfl (ev_load Try.isAgg5 rfl rfl) .free rfl rfl ?_
        first | refine p_val rfl (ev_conv Try.runUnderlying5 Try.runUnderlying3 rfl (wr64 (by omega))) .free rfl rfl ?_ | refine p_val rfl (ev_conv Try.runUnderlying5 Try.runUnderlying3 rfl rfl) .free rfl rfl ?_
        refine p_val rfl (ev_cmp rfl rfl rfl) .free rfl rfl ?_
        refine p_val rfl (ev_eqb Try.runUnderlying4 rfl rfl rfl) .free rfl rfl ?_
        refine p_val rfl (ev_move rfl) .free rfl rfl ?_
        apply p_and (tp := 69) (t := 62) (σ1 := [(62, _), (6, _)]) 7 rfl ⟨rfl, rfl, trivial⟩
        · intro hg3
          refine p_val rfl (ev_load Try.isAgg23 rfl rfl) (.on rfl rfl (beq_eq hg3)) rfl rfl ?_
          refine p_callq rfl (en_f Try.call13 rfl) (ro_at (fun Fr => used_ok _ Fr _ _)) (.on rfl rfl (beq_eq hg3)) rfl rfl ?_
          refine p_val rfl (ev_move rfl) (.on rfl rfl (beq_eq hg3)) rfl rfl ?_
          refine p_val rfl (ev_move rfl) (.on rfl rfl (beq_eq hg3)) rfl rfl ?_
          first | refine p_val rfl (ev_add rfl rfl (wr64 (by omega))) (.on rfl rfl (beq_eq hg3)) rfl rfl ?_ | refine p_val rfl (ev_add rfl rfl rfl) (.on rfl rfl (beq_eq hg3)) rfl rfl ?_
          refine p_val rfl (ev_cmp rfl rfl rfl) (.on rfl rfl (beq_eq hg3)) rfl rfl ?_
          refine p_val rfl (ev_pick_t rfl hg3 rfl) .free rfl rfl ?_
          exact p_seg rfl ⟨rfl, rfl, trivial⟩ (and_t hg3)
        · intro hg3
          refine p_skip rfl (.on rfl rfl (beq_ne hg3)) rfl ?_
          refine p_skip rfl (.on rfl rfl (beq_ne hg3)) rfl ?_
          refine p_skip rfl (.on rfl rfl (beq_ne hg3)) rfl ?_
          refine p_skip rfl (.on rfl rfl (beq_ne hg3)) rfl ?_
          refine p_skip rfl (.on rfl rfl (beq_ne hg3)) rfl ?_
          refine p_skip rfl (.on rfl rfl (beq_ne hg3)) rfl ?_
          refine p_val rfl (ev_pick_f rfl hg3 rfl) .free rfl rfl ?_
          exact p_seg rfl ⟨rfl, rfl, trivial⟩ (and_f hg3)
        refine p_val rfl (ev_assign rfl) .free rfl rfl ?_
        refine p_nil ?_
        refine g_ret ?_
        exact ret_tmp Try.results3 rfl (fun w hw => ⟨by
      clear hw
      by_cases hc : lim < 0 ∨ (0 : Int) + n ≤ lim
      · rw [if_pos hc] at hs
        have := hs2 ⟨lim, 0 + n⟩ (by simp) (by simp <;> omega) (by simp <;> omega)
        by_cases hc2 : lim < 0 ∨ (0 : Int) + n + m ≤ lim
        · rw [if_pos (by simpa using hc2)] at this
          simp [hs] at this ⊢; simp [this] <;> omega
        · rw [if_neg (by simpa using hc2)] at this
          simp [hs] at this ⊢; simp [this] <;> omega
      · rw [if_neg hc] at hs
        have := hs2 ⟨lim, lim⟩ (by simp <;> omega) (by simp <;> omega) (by simp)
        by_cases hc2 : lim < 0 ∨ lim + m ≤ lim
        · rw [if_pos (by simpa using hc2)] at this
          simp [hs] at this ⊢; simp [this] <;> omega
        · rw [if_neg (by simpa using hc2)] at this
          simp [hs] at this ⊢; simp [this] <;> omega, hw.tail.tail.tail.tail.tail⟩)
      · try simp only [decide_eq_true_eq, decide_eq_false_iff_not, Bool.not_eq_true', Bool.not_eq_false', Bool.or_eq_true, Bool.and_eq_true, Bool.and_eq_false_iff, Bool.or_eq_false_iff, beq_iff_eq, bne_iff_ne, beq_eq_false_iff_ne, bne_eq_false_iff_eq, ge_iff_le, gt_iff_lt, ne_eq] at h50
        refine g_skip ?_
        refine g_seq ?_
        refine g_region ?_
        refine p_val rfl (ev_move rfl) .free rfl rfl ?_
        refine p_val rfl (ev_move rfl) .free rfl rfl ?_
        refine p_val rfl (ev_load Try.isAgg5 rfl rfl) .free rfl rfl ?_
        first | refine p_val rfl (ev_conv Try.runUnderlying5 Try.runUnderlying3 rfl (wr64 (by omega))) .free rfl rfl ?_ | refine p_val rfl (ev_conv Try.runUnderlying5 Try.runUnderlying3 rfl rfl) .free rfl rfl ?_
        refine p_val rfl (ev_cmp rfl rfl rfl) .free rfl rfl ?_
        refine p_val rfl (ev_eqb Try.runUnderlying4 rfl rfl rfl) .free rfl rfl ?_
        refine p_val rfl (ev_move rfl) .free rfl rfl ?_
        apply p_and (tp := 69) (t := 62) (σ1 := [(62, _), (6, _)]) 7 rfl ⟨rfl, rfl, trivial⟩
        · intro hg4
          refine p_val rfl (ev_load Try.isAgg23 rfl rfl) (.on rfl rfl (beq_eq hg4)) rfl rfl ?_
          refine p_callq rfl (en_f Try.call13 rfl) (ro_at (fun Fr => used_ok _ Fr _ _)) (.on rfl rfl (beq_eq hg4)) rfl rfl ?_
          refine p_val rfl (ev_move rfl) (.on rfl rfl (beq_eq hg4)) rfl rfl ?_
          refine p_val rfl (ev_move rfl) (.on rfl rfl (beq_eq hg4)) rfl rfl ?_
          first | refine p_val rfl (ev_add rfl rfl (wr64 (by omega))) (.on rfl rfl (beq_eq hg4)) rfl rfl ?_ | refine p_val rfl (ev_add rfl rfl rfl) (.on rfl rfl (beq_eq hg4)) rfl rfl ?_
          refine p_val rfl (ev_cmp rfl rfl rfl) (.on rfl rfl (beq_eq hg4)) rfl rfl ?_
          refine p_val rfl (ev_pick_t rfl hg4 rfl) .free rfl rfl ?_
          exact p_seg rfl ⟨rfl, rfl, trivial⟩ (and_t hg4)
        · intro hg4
          refine p_skip rfl (.on rfl rfl (beq_ne hg4)) rfl ?_
          refine p_skip rfl (.on rfl rfl (beq_ne hg4)) rfl ?_
          refine p_skip rfl (.on rfl rfl (beq_ne hg4)) rfl ?_
          refine p_skip rfl (.on rfl rfl (beq_ne hg4)) rfl ?_
          refine p_skip rfl (.on rfl rfl (beq_ne hg4)) rfl ?_
          refine p_skip rfl (.on rfl rfl (beq_ne hg4)) rfl ?_
          refine p_val rfl (ev_pick_f rfl hg4 rfl) .free rfl rfl ?_
          exact p_seg rfl ⟨rfl, rfl, trivial⟩ (and_f hg4)
        refine p_val rfl (ev_assign rfl) .free rfl rfl ?_
        refine p_nil ?_
        refine g_ret ?_
        exact ret_tmp Try.results3 rfl (fun w hw => ⟨by
      clear hw
      by_cases hc : lim < 0 ∨ (0 : Int) + n ≤ lim
      · rw [if_pos hc] at hs
        have := hs2 ⟨lim, 0 + n⟩ (by simp) (by simp <;> omega) (by simp <;> omega)
        by_cases hc2 : lim < 0 ∨ (0 : Int) + n + m ≤ lim
        · rw [if_pos (by simpa using hc2)] at this
          simp [hs] at this ⊢; simp [this] <;> omega
        · rw [if_neg (by simpa using hc2)] at this
          simp [hs] at this ⊢; simp [this] <;> omega
      · rw [if_neg hc] at hs
        have := hs2 ⟨lim, lim⟩ (by simp <;> omega) (by simp <;> omega) (by simp)
        by_cases hc2 : lim < 0 ∨ lim + m ≤ lim
        · rw [if_pos (by simpa using hc2)] at this
          simp [hs] at this ⊢; simp [this] <;> omega
        · rw [if_neg (by simpa using hc2)] at this
          simp [hs] at this ⊢; simp [this] <;> omega, hw.tail.tail.tail.tail.tail⟩)
  · try simp only [decide_eq_true_eq, decide_eq_false_iff_not, Bool.not_eq_true', Bool.not_eq_false', Bool.or_eq_true, Bool.and_eq_true, Bool.and_eq_false_iff, Bool.or_eq_false_iff, beq_iff_eq, bne_iff_ne, beq_eq_false_iff_ne, bne_eq_false_iff_eq, ge_iff_le, gt_iff_lt, ne_eq] at h24
    refine g_skip ?_
    refine g_seq ?_
    refine g_seq ?_
    refine g_region ?_
    refine p_val rfl (ev_move rfl) .free rfl rfl ?_
    refine p_val rfl (ev_move rfl) .free rfl rfl ?_
    refine p_val rfl (ev_load Try.isAgg5 rfl rfl) .free rfl rfl ?_
    first | refine p_val rfl (ev_conv Try.runUnderlying5 Try.runUnderlying3 rfl (wr64 (by omega))) .free rfl rfl ?_ | refine p_val rfl (ev_conv Try.runUnderlying5 Try.runUnderlying3 rfl rfl) .free rfl rfl ?_
    refine p_val rfl (ev_cmp rfl rfl rfl) .free rfl rfl ?_
    refine p_val rfl (ev_eqb Try.runUnderlying4 rfl rfl rfl) .free rfl rfl ?_
    refine p_val rfl (ev_move rfl) .free rfl rfl ?_
    apply p_or (tp := 38) (t := 34) (σ1 := [(34, _), (10, _), (7, _), (6, _), (5, _), (0, _)]) 4 rfl ⟨rfl, rfl, rfl, rfl, rfl, rfl, trivial⟩
    · intro hg5
      refine p_val rfl (ev_load Try.isAgg3 rfl rfl) (.on rfl rfl (beq_eq hg5)) rfl rfl ?_
      refine p_val rfl (ev_move rfl) (.on rfl rfl (beq_eq hg5)) rfl rfl ?_
      refine p_val rfl (ev_cmp rfl rfl rfl) (.on rfl rfl (beq_eq hg5)) rfl rfl ?_
      refine p_val rfl (ev_pick_f rfl hg5 rfl) .free rfl rfl ?_
      exact p_seg rfl ⟨rfl, rfl, rfl, rfl, rfl, rfl, trivial⟩ (or_f hg5)
    · intro hg5
      refine p_skip rfl (.on rfl rfl (beq_ne hg5)) rfl ?_
      refine p_skip rfl (.on rfl rfl (beq_ne hg5)) rfl ?_
      refine p_skip rfl (.on rfl rfl (beq_ne hg5)) rfl ?_
      refine p_val rfl (ev_pick_t rfl hg5 rfl) .free rfl rfl ?_
      exact p_seg rfl ⟨rfl, rfl, rfl, rfl, rfl, rfl, trivial⟩ (or_t hg5)
    refine p_val rfl (ev_move rfl) .free rfl rfl ?_
    apply p_or (tp := 44) (t := 39) (σ1 := [(39, _), (10, _), (7, _), (6, _), (5, _), (0, _)]) 5 rfl ⟨rfl, rfl, rfl, rfl, rfl, rfl, trivial⟩
    · intro hg6
      refine p_val rfl (ev_load Try.isAgg23 rfl rfl) (.on rfl rfl (beq_eq hg6)) rfl rfl ?_
      refine p_callq rfl (en_f Try.call13 rfl) (ro_at (fun Fr => used_ok _ Fr _ _)) (.on rfl rfl (beq_eq hg6)) rfl rfl ?_
      refine p_val rfl (ev_move rfl) (.on rfl rfl (beq_eq hg6)) rfl rfl ?_
      refine p_val rfl (ev_cmp rfl rfl rfl) (.on rfl rfl (beq_eq hg6)) rfl rfl ?_
      refine p_val rfl (ev_pick_f rfl hg6 rfl) .free rfl rfl ?_
      exact p_seg rfl ⟨rfl, rfl, rfl, rfl, rfl, rfl, trivial⟩ (or_f hg6)
    · intro hg6
      refine p_skip rfl (.on rfl rfl (beq_ne hg6)) rfl ?_
      refine p_skip rfl (.on rfl rfl (beq_ne hg6)) rfl ?_
      refine p_skip rfl (.on rfl rfl (beq_ne hg6)) rfl ?_
      refine p_skip rfl (.on rfl rfl (beq_ne hg6)) rfl ?_
      refine p_val rfl (ev_pick_t rfl hg6 rfl) .free rfl rfl ?_
      exact p_seg rfl ⟨rfl, rfl, rfl, rfl, rfl, rfl, trivial⟩ (or_t hg6)
    refine p_nil ?_
    refine g_if rfl (fun h44 => ?_) (fun h44 => ?_)
    · try simp only [decide_eq_true_eq, decide_eq_false_iff_not, Bool.not_eq_true', Bool.not_eq_false', Bool.or_eq_true, Bool.and_eq_true, Bool.and_eq_false_iff, Bool.or_eq_false_iff, beq_iff_eq, bne_iff_ne, beq_eq_false_iff_ne, bne_eq_false_iff_eq, ge_iff_le, gt_iff_lt, ne_eq] at h44
      exfalso
      by_cases hc : lim < 0 ∨ (0 : Int) + n ≤ lim
      · rw [if_pos hc] at hs
        simp [hs] at h44 <;> omega
      · rw [if_neg hc] at hs
        simp [hs] at h44 <;> omega
    · try simp only [decide_eq_true_eq, decide_eq_false_iff_not, Bool.not_eq_true', Bool.not_eq_false', Bool.or_eq_true, Bool.and_eq_true, Bool.and_eq_false_iff, Bool.or_eq_false_iff, beq_iff_eq, bne_iff_ne, beq_eq_false_iff_ne, bne_eq_false_iff_eq, ge_iff_le, gt_iff_lt, ne_eq] at h44
      refine g_skip ?_
      refine g_seq ?_
      refine g_region ?_
      refine p_val rfl (ev_mkf rfl rfl) .free rfl rfl ?_
      refine p_call rfl (en_f Try.call10 rfl) (run_det (tk m (tk n ⟨lim, 0⟩).2.2).1 (row b5 [.int .u8 m] 5 :: row b7 [ptr pb] 23 :: PowA pb (tk m (tk n ⟨lim, 0⟩).2.2).2.2 :: row b4 [.int .u8 n] 5 :: row b8 [.int .i64 (0 + (tk n ⟨lim, 0⟩).2.1)] 3 :: H) Try.call14 (fun A w hw => (runs2_ok B _ m hm b5 b7 pb (tk n ⟨lim, 0⟩).2.2 w (((hw.front 4 rfl).front 3 rfl).front 5 rfl)).mono (Ret.mono (fun _ H' h => ⟨h.1, fun w hw => by rw [h.2] at hw; exact (hw.front 3 rfl)⟩) (fun c H' h => ⟨h.1, h.2.1, fun w hw => by rw [h.2.2] at hw; exact (hw.front 3 rfl)⟩)))) .free rfl rfl ?_ ?_
      rotate_left
      · rintro _ _ ⟨⟩
      rintro _ _ ⟨rfl, rfl⟩
      refine p_val rfl (ev_assign rfl) .free rfl rfl ?_
      refine p_nil ?_
      refine g_seq ?_
      refine g_region ?_
      refine p_val rfl (ev_load Try.isAgg5 rfl rfl) .free rfl rfl ?_
      first | refine p_val rfl (ev_conv Try.runUnderlying5 Try.runUnderlying3 rfl (wr64 (by omega))) .free rfl rfl ?_ | refine p_val rfl (ev_conv Try.runUnderlying5 Try.runUnderlying3 rfl rfl) .free rfl rfl ?_
      refine p_val rfl (ev_assign rfl) .free rfl rfl ?_
      refine p_nil ?_
      refine g_seq ?_
      refine g_seq ?_
      refine g_region ?_
      refine p_val rfl (ev_move rfl) .free rfl rfl ?_
      refine p_val rfl (ev_cmp rfl rfl rfl) .free rfl rfl ?_
      refine p_nil ?_
      refine go_sub (σ' := [(50, _), (12, _), (11, _), (10, _), (7, _), (6, _), (5, _), (0, _)]) ⟨rfl, rfl, rfl, rfl, rfl, rfl, rfl, rfl, trivial⟩ ?_
      refine g_if rfl (fun h50 => ?_) (fun h50 => ?_)
      · try simp only [decide_eq_true_eq, decide_eq_false_iff_not, Bool.not_eq_true', Bool.not_eq_false', Bool.or_eq_true, Bool.and_eq_true, Bool.and_eq_false_iff, Bool.or_eq_false_iff, beq_iff_eq, bne_iff_ne, beq_eq_false_iff_ne, bne_eq_false_iff_eq, ge_iff_le, gt_iff_lt, ne_eq] at h50
        refine g_region ?_
        refine p_val rfl (ev_move rfl) .free rfl rfl ?_
        refine p_val rfl (ev_move rfl) .free rfl rfl ?_
        refine p_val rfl (ev_move rfl) .free rfl rfl ?_
        first | refine p_val rfl (ev_sub rfl rfl (wr64 (by omega))) .free rfl rfl ?_ | refine p_val rfl (ev_sub rfl rfl rfl) .free rfl rfl ?_
        refine p_val rfl (ev_min rfl rfl rfl) .free rfl rfl ?_
        refine p_val rfl (ev_assign rfl) .free rfl rfl ?_
        refine p_nil ?_
        refine go_sub (σ' := [(12, _), (11, _), (10, _), (7, _), (6, _), (5, _)]) ⟨rfl, rfl, rfl, rfl, rfl, rfl, trivial⟩ ?_
        refine g_seq ?_
        refine g_region ?_
        refine p_val rfl (ev_move rfl) .free rfl rfl ?_
        refine p_val rfl (ev_move rfl) .free rfl rfl ?_
        refine p_val rfl (ev_load Try.isAgg5 rfl rfl) .free rfl rfl ?_
        first | refine p_val rfl (ev_conv Try.runUnderlying5 Try.runUnderlying3 rfl (wr64 (by omega))) .free rfl rfl ?_ | refine p_val rfl (ev_conv Try.runUnderlying5 Try.runUnderlying3 rfl rfl) .free rfl rfl ?_
        refine p_val rfl (ev_cmp rfl rfl rfl) .free rfl rfl ?_
        refine p_val rfl (ev_eqb Try.runUnderlying4 rfl rfl rfl) .free rfl rfl ?_
        refine p_val rfl (ev_move rfl) .free rfl rfl ?_
        apply p_and (tp := 69) (t := 62) (σ1 := [(62, _), (6, _)]) 7 rfl ⟨rfl, rfl, trivial⟩
        · intro hg7
          refine p_val rfl (ev_load Try.isAgg23 rfl rfl) (.on rfl rfl (beq_eq hg7)) rfl rfl ?_
          refine p_callq rfl (en_f Try.call13 rfl) (ro_at (fun Fr => used_ok _ Fr _ _)) (.on rfl rfl (beq_eq hg7)) rfl rfl ?_
          refine p_val rfl (ev_move rfl) (.on rfl rfl (beq_eq hg7)) rfl rfl ?_
          refine p_val rfl (ev_move rfl) (.on rfl rfl (beq_eq hg7)) rfl rfl ?_
          first | refine p_val rfl (ev_add rfl rfl (wr64 (by omega))) (.on rfl rfl (beq_eq hg7)) rfl rfl ?_ | refine p_val rfl (ev_add rfl rfl rfl) (.on rfl rfl (beq_eq hg7)) rfl rfl ?_
          refine p_val rfl (ev_cmp rfl rfl rfl) (.on rfl rfl (beq_eq hg7)) rfl rfl ?_
          refine p_val rfl (ev_pick_t rfl hg7 rfl) .free rfl rfl ?_
          exact p_seg rfl ⟨rfl, rfl, trivial⟩ (and_t hg7)
        · intro hg7
          refine p_skip rfl (.on rfl rfl (beq_ne hg7)) rfl ?_
          refine p_skip rfl (.on rfl rfl (beq_ne hg7)) rfl ?_
          refine p_skip rfl (.on rfl rfl (beq_ne hg7)) rfl ?_
          refine p_skip rfl (.on rfl rfl (beq_ne hg7)) rfl ?_
          refine p_skip rfl (.on rfl rfl (beq_ne hg7)) rfl ?_
          refine p_skip rfl (.on rfl rfl (beq_ne hg7)) rfl ?_
          refine p_val rfl (ev_pick_f rfl hg7 rfl) .free rfl rfl ?_
          exact p_seg rfl ⟨rfl, rfl, trivial⟩ (and_f hg7)
        refine p_val rfl (ev_assign rfl) .free rfl rfl ?_
        refine p_nil ?_
        refine g_ret ?_
        exact ret_tmp Try.results3 rfl (fun w hw => ⟨by
      clear hw
      by_cases hc : lim < 0 ∨ (0 : Int) + n ≤ lim
      · rw [if_pos hc] at hs
        have := hs2 ⟨lim, 0 + n⟩ (by simp) (by simp <;> omega) (by simp <;> omega)
        by_cases hc2 : lim < 0 ∨ (0 : Int) + n + m ≤ lim
        · rw [if_pos (by simpa using hc2)] at this
          simp [hs] at this ⊢; simp [this] <;> omega
        · rw [if_neg (by simpa using hc2)] at this
          simp [hs] at this ⊢; simp [this] <;> omega
      · rw [if_neg hc] at hs
        have := hs2 ⟨lim, lim⟩ (by simp <;> omega) (by simp <;> omega) (by simp)
        by_cases hc2 : lim < 0 ∨ lim + m ≤ lim
        · rw [if_pos (by simpa using hc2)] at this
          simp [hs] at this ⊢; simp [this] <;> omega
        · rw [if_neg (by simpa using hc2)] at this
          simp [hs] at this ⊢; simp [this] <;> omega, hw.tail.tail.tail.tail.tail⟩)
      · try simp only [decide_eq_true_eq, decide_eq_false_iff_not, Bool.not_eq_true', Bool.not_eq_false', Bool.or_eq_true, Bool.and_eq_true, Bool.and_eq_false_iff, Bool.or_eq_false_iff, beq_iff_eq, bne_iff_ne, beq_eq_false_iff_ne, bne_eq_false_iff_eq, ge_iff_le, gt_iff_lt, ne_eq] at h50
        refine g_skip ?_
        refine g_seq ?_
        refine g_region ?_
        refine p_val rfl (ev_move rfl) .free rfl rfl ?_
        refine p_val rfl (ev_move rfl) .free rfl rfl ?_
        refine p_val rfl (ev_load Try.isAgg5 rfl rfl) .free rfl rfl ?_
        first | refine p_val rfl (ev_conv Try.runUnderlying5 Try.runUnderlying3 rfl (wr64 (by omega))) .free rfl rfl ?_ | refine p_val rfl (ev_conv Try.runUnderlying5 Try.runUnderlying3 rfl rfl) .free rfl rfl ?_
        refine p_val rfl (ev_cmp rfl rfl rfl) .free rfl rfl ?_
        refine p_val rfl (ev_eqb Try.runUnderlying4 rfl rfl rfl) .free rfl rfl ?_
        refine p_val rfl (ev_move rfl) .free rfl rfl ?_
        apply p_and (tp := 69) (t := 62) (σ1 := [(62, _), (6, _)]) 7 rfl ⟨rfl, rfl, trivial⟩
        · intro hg8
          refine p_val rfl (ev_load Try.isAgg23 rfl rfl) (.on rfl rfl (beq_eq hg8)) rfl rfl ?_
          refine p_callq rfl (en_f Try.call13 rfl) (ro_at (fun Fr => used_ok _ Fr _ _)) (.on rfl rfl (beq_eq hg8)) rfl rfl ?_
          refine p_val rfl (ev_move rfl) (.on rfl rfl (beq_eq hg8)) rfl rfl ?_
          refine p_val rfl (ev_move rfl) (.on rfl rfl (beq_eq hg8)) rfl rfl ?_
          first | refine p_val rfl (ev_add rfl rfl (wr64 (by omega))) (.on rfl rfl (beq_eq hg8)) rfl rfl ?_ | refine p_val rfl (ev_add rfl rfl rfl) (.on rfl rfl (beq_eq hg8)) rfl rfl ?_
          refine p_val rfl (ev_cmp rfl rfl rfl) (.on rfl rfl (beq_eq hg8)) rfl rfl ?_
          refine p_val rfl (ev_pick_t rfl hg8 rfl) .free rfl rfl ?_
          exact p_seg rfl ⟨rfl, rfl, trivial⟩ (and_t hg8)
        · intro hg8
          refine p_skip rfl (.on rfl rfl (beq_ne hg8)) rfl ?_
          refine p_skip rfl (.on rfl rfl (beq_ne hg8)) rfl ?_
          refine p_skip rfl (.on rfl rfl (beq_ne hg8)) rfl ?_
          refine p_skip rfl (.on rfl rfl (beq_ne hg8)) rfl ?_
          refine p_skip rfl (.on rfl rfl (beq_ne hg8)) rfl ?_
          refine p_skip rfl (.on rfl rfl (beq_ne hg8)) rfl ?_
          refine p_val rfl (ev_pick_f rfl hg8 rfl) .free rfl rfl ?_
          exact p_seg rfl ⟨rfl, rfl, trivial⟩ (and_f hg8)
        refine p_val rfl (ev_assign rfl) .free rfl rfl ?_
        refine p_nil ?_
        refine g_ret ?_
        exact ret_tmp Try.results3 rfl (fun w hw => ⟨by
      clear hw
      by_cases hc : lim < 0 ∨ (0 : Int) + n ≤ lim
      · rw [if_pos hc] at hs
        have := hs2 ⟨lim, 0 + n⟩ (by simp) (by simp <;> omega) (by simp <;> omega)
        by_cases hc2 : lim < 0 ∨ (0 : Int) + n + m ≤ lim
        · rw [if_pos (by simpa using hc2)] at this
          simp [hs] at this ⊢; simp [this] <;> omega
        · rw [if_neg (by simpa using hc2)] at this
          simp [hs] at this ⊢; simp [this] <;> omega
      · rw [if_neg hc] at hs
        have := hs2 ⟨lim, lim⟩ (by simp <;> omega) (by simp <;> omega) (by simp)
        by_cases hc2 : lim < 0 ∨ lim + m ≤ lim
        · rw [if_pos (by simpa using hc2)] at this
          simp [hs] at this ⊢; simp [this] <;> omega
        · rw [if_neg (by simpa using hc2)] at this
          simp [hs] at this ⊢; simp [this] <;> omega, hw.tail.tail.tail.tail.tail⟩)

theorem nests1_ok (B : World) (Fr : List HP) (n m : Nat) (hn : n ≤ 255) (hm : m ≤ 255) (ba bp bi bh bm pb : Nat) (s : Pow) (x y : Bool) :
    ∀ w, Holds B (row ba [.int .u8 n] 5 :: row bp [ptr pb] 23 :: PowA pb s :: row bi [.bool x] 4 :: row bh [.bool y] 4 :: row bm [.int .u8 m] 5 :: Fr) w → Calls Try.prog 15 [ptr ba, ptr bp, ptr bi, ptr bh, ptr bm].toArray w (Ret B (fun v H' => (tk m (tk n s).2.2).1 = true ∧ H' = row ba [.int .u8 n] 5 :: row bp [ptr pb] 23 :: PowA pb (tk m (tk n s).2.2).2.2 :: row bi [.bool (tk n s).1] 4 :: row bh [.bool true] 4 :: row bm [.int .u8 m] 5 :: Fr) (fun c H' => (tk m (tk n s).2.2).1 = false ∧ c = offc ∧ H' = row ba [.int .u8 n] 5 :: row bp [ptr pb] 23 :: PowA pb (tk m (tk n s).2.2).2.2 :: row bi [.bool (tk n s).1] 4 :: row bh [.bool true] 4 :: row bm [.int .u8 m] 5 :: Fr)) := by
  refine fn_enter Try.func15 rfl Try.ntmps15 rfl ?_
  refine g_seq ?_
  refine g_region ?_
  refine p_val rfl (ev_mkf rfl rfl) .free rfl rfl ?_
  refine p_call rfl (en_f Try.call10 rfl) (run_det (tk n s).1 (row ba [.int .u8 n] 5 :: row bp [ptr pb] 23 :: PowA pb (tk n s).2.2 :: row bi [.bool x] 4 :: row bh [.bool y] 4 :: row bm [.int .u8 m] 5 :: Fr) Try.call16 (fun A w hw => (nests11_ok B _ n hn ba bp pb s w (((hw.front 3 rfl).front 3 rfl).front 3 rfl)).mono (Ret.mono (fun _ H' h => ⟨h.1, fun w hw => by rw [h.2] at hw; exact (hw.front 3 rfl)⟩) (fun c H' h => ⟨h.1, h.2.1, fun w hw => by rw [h.2.2] at hw; exact (hw.front 3 rfl)⟩)))) .free rfl rfl ?_ ?_
  rotate_left
  · rintro _ _ ⟨⟩
  rintro _ _ ⟨rfl, rfl⟩
  refine p_chg0 rfl (ch_store Try.sizeOf4 rfl rfl rfl rfl) .free rfl ?_
  rintro _ _ rfl
  refine p_nil ?_
  refine g_seq ?_
  refine g_region ?_
  refine p_chg0 rfl (ch_store Try.sizeOf4 rfl rfl rfl rfl) .free rfl ?_
  rintro _ _ rfl
  refine p_nil ?_
  refine g_seq ?_
  refine g_region ?_
  refine p_val rfl (ev_load Try.isAgg5 rfl rfl) .free rfl rfl ?_
  refine p_val rfl (ev_move rfl) .free rfl rfl ?_
  refine p_nil ?_
  refine g_block ?_
  refine g_loop (ι := Nat × Pow) (fun i => i.1 ≤ m ∧ (tk m (tk n s).2.2).1 = (tk (m - i.1) i.2).1 ∧ (tk m (tk n s).2.2).2.2 = (tk (m - i.1) i.2).2.2) (fun i => [(0, ptr ba), (1, ptr bp), (2, ptr bi), (3, ptr bh), (4, ptr bm), (7, .int .u8 m), (8, .int .u8 i.1)]) (fun i => row ba [.int .u8 n] 5 :: row bp [ptr pb] 23 :: PowA pb i.2 :: row bi [.bool (tk n s).1] 4 :: row bh [.bool true] 4 :: row bm [.int .u8 m] 5 :: Fr) (fun i => m - i.1) (0, (tk n s).2.2) ?_ (fun a w st => st.to ⟨rfl, rfl, rfl, rfl, rfl, rfl, rfl, trivial⟩ id) ?_
  · exact ⟨Nat.zero_le _, rfl, rfl⟩
  rintro ⟨i, s1⟩ ⟨hi, e1, e3⟩
  simp only at hi e1 e3 ⊢
  refine g_seq ?_
  refine g_region ?_
  refine p_val rfl (ev_cmp rfl rfl rfl) .free rfl rfl ?_
  refine p_nil ?_
  refine g_seq ?_
  refine g_if rfl (fun h9 => ?_) (fun h9 => ?_)
  · try simp only [decide_eq_true_eq, decide_eq_false_iff_not, Bool.not_eq_true', Bool.not_eq_false', Bool.or_eq_true, Bool.and_eq_true, Bool.and_eq_false_iff, Bool.or_eq_false_iff, beq_iff_eq, bne_iff_ne, beq_eq_false_iff_ne, bne_eq_false_iff_eq, ge_iff_le, gt_iff_lt, ne_eq] at h9
    refine g_skip ?_
    refine g_seq ?_
    refine g_block ?_
    refine g_region ?_
    refine p_val rfl (ev_load Try.isAgg23 rfl rfl) .free rfl rfl ?_
    refine p_call rfl (en_f Try.call12 rfl) (up_at (fun Fr => tick_ok _ Fr _ _)) .free rfl rfl ?_ ?_
    rotate_left
    · rintro _ _ ⟨_, ⟨ho, rfl, rfl⟩, rfl⟩
      obtain ⟨k, hk⟩ : ∃ k, m - i = k + 1 := ⟨m - i - 1, by omega⟩
      rw [hk, tk_out ho] at e1 e3
      exact pan_fn fun w hw => ⟨_, ⟨e1, rfl, rfl⟩, by rw [e3]; exact hw⟩
    rintro _ _ ⟨_, ⟨ho, rfl, rfl⟩, rfl⟩
    refine p_nil ?_
    refine g_region ?_
    first | refine p_val rfl (ev_add rfl rfl (wru8 (by omega))) .free rfl rfl ?_ | refine p_val rfl (ev_add rfl rfl rfl) .free rfl rfl ?_
    refine p_val rfl (ev_move rfl) .free rfl rfl ?_
    refine p_nil ?_
    obtain ⟨k, hk⟩ : ∃ k, m - i = k + 1 := ⟨m - i - 1, by omega⟩
    rw [hk, tk_up ho] at e1 e3
    simp only at e1 e3
    exact fun a w st => ⟨(i + 1, s1.up), ⟨by simp only; omega, by simp only; rw [e1, show m - (i + 1) = k by omega], by simp only; rw [e3, show m - (i + 1) = k by omega]⟩, by simp only; omega, st.to ⟨rfl, rfl, rfl, rfl, rfl, rfl, rfl, trivial⟩ id⟩
  · try simp only [decide_eq_true_eq, decide_eq_false_iff_not, Bool.not_eq_true', Bool.not_eq_false', Bool.or_eq_true, Bool.and_eq_true, Bool.and_eq_false_iff, Bool.or_eq_false_iff, beq_iff_eq, bne_iff_ne, beq_eq_false_iff_ne, bne_eq_false_iff_eq, ge_iff_le, gt_iff_lt, ne_eq] at h9
    refine g_exit ?_
    exact end_none Try.results15 (fun w hw => by
      obtain rfl : i = m := by omega
      rw [Nat.sub_self] at e1 e3
      exact ⟨_, ⟨e1, rfl⟩, by rw [e3]; exact hw⟩)

theorem powerNests_ok (B : World) (H : List HP) (lim n m : Nat) (hlim : lim ≤ 255) (hn : n ≤ 255) (hm : m ≤ 255) :
    ∀ w, Holds B H w → Calls Try.prog 4 [.int .u8 lim, .int .u8 n, .int .u8 m].toArray w (PureR B H (.bool true)) := by
  refine fn_enter Try.func4 rfl Try.ntmps4 rfl ?_
  have hs := tk_spec n ⟨lim, 0⟩ (by simp) (by simp <;> omega) (by simp)
  have hs2 : ∀ s : Pow, 0 ≤ s.used → s.used ≤ 255 → (0 ≤ s.lim → s.used ≤ s.lim) → _ := fun s h0 h1 h2 => tk_spec m s h0 (by omega) h2
  refine g_seq ?_
  refine g_region ?_
  refine p_chg rfl (ch_box1 rfl rfl) .free rfl rfl ?_
  rintro _ _ ⟨b4, rfl, rfl⟩
  refine p_chg rfl (ch_box1 rfl rfl) .free rfl rfl ?_
  rintro _ _ ⟨b5, rfl, rfl⟩
  refine p_val rfl (ev_assign rfl) .free rfl rfl ?_
  refine p_nil ?_
  refine g_seq ?_
  refine g_seq ?_
  refine g_region ?_
  refine p_callq rfl (en_f Try.call8 rfl) (awake_ok _ _) .free rfl rfl ?_
  refine p_val rfl (ev_not rfl) .free rfl rfl ?_
  refine p_nil ?_
  refine g_iff rfl (rfl) ?_
  refine g_skip ?_
  refine g_seq ?_
  refine g_region ?_
  refine p_val rfl (ev_move rfl) .free rfl rfl ?_
  first | refine p_val rfl (ev_conv Try.runUnderlying5 Try.runUnderlying3 rfl (wr64 (by omega))) .free rfl rfl ?_ | refine p_val rfl (ev_conv Try.runUnderlying5 Try.runUnderlying3 rfl rfl) .free rfl rfl ?_
  refine p_call rfl (en_f Try.call9 rfl) (pnew_ok _ _ _) .free rfl rfl ?_ ?_
  rotate_left
  · rintro _ _ ⟨⟩
  rintro _ _ ⟨pb, rfl, rfl⟩
  refine p_chg rfl (ch_alloc1 Try.zeroValue23 rfl) .free rfl rfl ?_
  rintro _ _ ⟨b7, rfl, rfl⟩
  refine p_chg0 rfl (ch_store Try.sizeOf23 rfl rfl rfl rfl) .free rfl ?_
  rintro _ _ rfl
  refine p_nil ?_
  refine go_sub (σ' := [(7, _), (6, _), (5, _), (4, _), (0, _)]) ⟨rfl, rfl, rfl, rfl, rfl, trivial⟩ ?_
  refine g_seq ?_
  refine g_seq ?_
  refine g_region ?_
  refine p_val rfl (ev_load Try.isAgg23 rfl rfl) .free rfl rfl ?_
  refine p_val rfl (ev_eqp Try.runUnderlying23 rfl rfl rfl) .free rfl rfl ?_
  refine p_nil ?_
  refine g_iff rfl (rfl) ?_
  refine g_skip ?_
  refine g_seq ?_
  refine g_region ?_
  refine p_chg rfl (ch_alloc1 Try.zeroValue4 rfl) .free rfl rfl ?_
  rintro _ _ ⟨b8, rfl, rfl⟩
  refine p_chg rfl (ch_alloc1 Try.zeroValue4 rfl) .free rfl rfl ?_
  rintro _ _ ⟨b10, rfl, rfl⟩
  refine p_chg0 rfl (ch_store Try.sizeOf4 rfl rfl rfl rfl) .free rfl ?_
  rintro _ _ rfl
  refine p_val rfl (ev_assign rfl) .free rfl rfl ?_
  refine p_chg0 rfl (ch_store Try.sizeOf4 rfl rfl rfl rfl) .free rfl ?_
  rintro _ _ rfl
  refine p_nil ?_
  refine g_seq ?_
  refine g_region ?_
  refine p_val rfl (ev_mkf rfl rfl) .free rfl rfl ?_
  refine p_call rfl (en_f Try.call10 rfl) (run_det (tk m (tk n ⟨lim, 0⟩).2.2).1 (row b4 [.int .u8 n] 5 :: row b7 [ptr pb] 23 :: PowA pb (tk m (tk n ⟨lim, 0⟩).2.2).2.2 :: row b8 [.bool (tk n ⟨lim, 0⟩).1] 4 :: row b10 [.bool true] 4 :: row b5 [.int .u8 m] 5 :: H) Try.call15 (fun A w hw => (nests1_ok B _ n m hn hm b4 b7 b8 b10 b5 pb ⟨lim, 0⟩ true false w ((((((hw.front 5 rfl).front 2 rfl).front 3 rfl).front 5 rfl).front 5 rfl).front 6 rfl)).mono (Ret.mono (fun _ H' h => ⟨h.1, fun w hw => by rw [h.2] at hw; exact (hw.front 6 rfl)⟩) (fun c H' h => ⟨h.1, h.2.1, fun w hw => by rw [h.2.2] at hw; exact (hw.front 6 rfl)⟩)))) .free rfl rfl ?_ ?_
  rotate_left
  · rintro _ _ ⟨⟩
  rintro _ _ ⟨rfl, rfl⟩
  refine p_val rfl (ev_assign rfl) .free rfl rfl ?_
  refine p_nil ?_
  refine g_seq ?_
  refine g_region ?_
  refine p_val rfl (ev_load Try.isAgg5 rfl rfl) .free rfl rfl ?_
  first | refine p_val rfl (ev_conv Try.runUnderlying5 Try.runUnderlying3 rfl (wr64 (by omega))) .free rfl rfl ?_ | refine p_val rfl (ev_conv Try.runUnderlying5 Try.runUnderlying3 rfl rfl) .free rfl rfl ?_
  refine p_val rfl (ev_move rfl) .free rfl rfl ?_
  first | refine p_val rfl (ev_conv Try.runUnderlying5 Try.runUnderlying3 rfl (wr64 (by omega))) .free rfl rfl ?_ | refine p_val rfl (ev_conv Try.runUnderlying5 Try.runUnderlying3 rfl rfl) .free rfl rfl ?_
  refine p_val rfl (ev_min rfl rfl rfl) .free rfl rfl ?_
  refine p_val rfl (ev_assign rfl) .free rfl rfl ?_
  refine p_nil ?_
  refine go_sub (σ' := [(11, _), (9, _), (10, _), (8, _), (7, _), (6, _), (5, _), (4, _), (0, _)]) ⟨rfl, rfl, rfl, rfl, rfl, rfl, rfl, rfl, rfl, trivial⟩ ?_
  refine g_seq ?_
  refine g_draw Try.mixed (by kernel_rfl) (by kernel_rfl) ?_
  refine q_val rfl (ev_load Try.isAgg4 rfl rfl) .free rfl ?_
  refine q_val rfl (ev_move rfl) .free rfl ?_
  apply q_and (tp := 34) (t := 27) (σ1 := [(27, _), (11, _), (9, _), (7, _), (6, _), (5, _), (0, _)]) 7 rfl ⟨rfl, rfl, rfl, rfl, rfl, rfl, rfl, trivial⟩
  · intro hg1
    refine q_val rfl (ev_load Try.isAgg4 rfl rfl) (.on rfl rfl (beq_eq hg1)) rfl ?_
    refine q_val rfl (ev_move rfl) (.on rfl rfl (beq_eq hg1)) rfl ?_
    refine q_val rfl (ev_load Try.isAgg5 rfl rfl) (.on rfl rfl (beq_eq hg1)) rfl ?_
    first | refine q_val rfl (ev_conv Try.runUnderlying5 Try.runUnderlying3 rfl (wr64 (by omega))) (.on rfl rfl (beq_eq hg1)) rfl ?_ | refine q_val rfl (ev_conv Try.runUnderlying5 Try.runUnderlying3 rfl rfl) (.on rfl rfl (beq_eq hg1)) rfl ?_
    refine q_val rfl (ev_cmp rfl rfl rfl) (.on rfl rfl (beq_eq hg1)) rfl ?_
    refine q_val rfl (ev_eqb Try.runUnderlying4 rfl rfl rfl) (.on rfl rfl (beq_eq hg1)) rfl ?_
    refine q_val rfl (ev_pick_t rfl hg1 rfl) .free rfl ?_
    exact q_seg rfl ⟨rfl, rfl, rfl, rfl, rfl, rfl, rfl, trivial⟩ (and_t hg1)
  · intro hg1
    refine q_skip rfl (.on rfl rfl (beq_ne hg1)) rfl ?_
    refine q_skip rfl (.on rfl rfl (beq_ne hg1)) rfl ?_
    refine q_skip rfl (.on rfl rfl (beq_ne hg1)) rfl ?_
    refine q_skip rfl (.on rfl rfl (beq_ne hg1)) rfl ?_
    refine q_skip rfl (.on rfl rfl (beq_ne hg1)) rfl ?_
    refine q_skip rfl (.on rfl rfl (beq_ne hg1)) rfl ?_
    refine q_val rfl (ev_pick_f rfl hg1 rfl) .free rfl ?_
    exact q_seg rfl ⟨rfl, rfl, rfl, rfl, rfl, rfl, rfl, trivial⟩ (and_f hg1)
  refine q_val rfl (ev_move rfl) .free rfl ?_
  apply q_and (tp := 45) (t := 35) (σ1 := [(35, _), (11, _), (7, _), (6, _), (5, _), (0, _)]) 10 rfl ⟨rfl, rfl, rfl, rfl, rfl, rfl, trivial⟩
  · intro hg2
    refine q_val rfl (ev_move rfl) (.on rfl rfl (beq_eq hg2)) rfl ?_
    refine q_val rfl (ev_move rfl) (.on rfl rfl (beq_eq hg2)) rfl ?_
    refine q_val rfl (ev_load Try.isAgg5 rfl rfl) (.on rfl rfl (beq_eq hg2)) rfl ?_
    first | refine q_val rfl (ev_conv Try.runUnderlying5 Try.runUnderlying3 rfl (wr64 (by omega))) (.on rfl rfl (beq_eq hg2)) rfl ?_ | refine q_val rfl (ev_conv Try.runUnderlying5 Try.runUnderlying3 rfl rfl) (.on rfl rfl (beq_eq hg2)) rfl ?_
    first | refine q_val rfl (ev_add rfl rfl (wr64 (by omega))) (.on rfl rfl (beq_eq hg2)) rfl ?_ | refine q_val rfl (ev_add rfl rfl rfl) (.on rfl rfl (beq_eq hg2)) rfl ?_
    refine q_val rfl (ev_move rfl) (.on rfl rfl (beq_eq hg2)) rfl ?_
    first | refine q_val rfl (ev_conv Try.runUnderlying5 Try.runUnderlying3 rfl (wr64 (by omega))) (.on rfl rfl (beq_eq hg2)) rfl ?_ | refine q_val rfl (ev_conv Try.runUnderlying5 Try.runUnderlying3 rfl rfl) (.on rfl rfl (beq_eq hg2)) rfl ?_
    refine q_val rfl (ev_cmp rfl rfl rfl) (.on rfl rfl (beq_eq hg2)) rfl ?_
    refine q_val rfl (ev_eqb Try.runUnderlying4 rfl rfl rfl) (.on rfl rfl (beq_eq hg2)) rfl ?_
    refine q_val rfl (ev_pick_t rfl hg2 rfl) .free rfl ?_
    exact q_seg rfl ⟨rfl, rfl, rfl, rfl, rfl, rfl, trivial⟩ (and_t hg2)
  · intro hg2
    refine q_skip rfl (.on rfl rfl (beq_ne hg2)) rfl ?_
    refine q_skip rfl (.on rfl rfl (beq_ne hg2)) rfl ?_
    refine q_skip rfl (.on rfl rfl (beq_ne hg2)) rfl ?_
    refine q_skip rfl (.on rfl rfl (beq_ne hg2)) rfl ?_
    refine q_skip rfl (.on rfl rfl (beq_ne hg2)) rfl ?_
    refine q_skip rfl (.on rfl rfl (beq_ne hg2)) rfl ?_
    refine q_skip rfl (.on rfl rfl (beq_ne hg2)) rfl ?_
    refine q_skip rfl (.on rfl rfl (beq_ne hg2)) rfl ?_
    refine q_skip rfl (.on rfl rfl (beq_ne hg2)) rfl ?_
    refine q_val rfl (ev_pick_f rfl hg2 rfl) .free rfl ?_
    exact q_seg rfl ⟨rfl, rfl, rfl, rfl, rfl, rfl, trivial⟩ (and_f hg2)
  refine q_val rfl (ev_move rfl) .free rfl ?_
  apply q_and (tp := 57) (t := 46) (σ1 := [(46, _), (6, _)]) 11 rfl ⟨rfl, rfl, trivial⟩
  · intro hg3
    refine q_val rfl (ev_load Try.isAgg23 rfl rfl) (.on rfl rfl (beq_eq hg3)) rfl ?_
    refine q_call rfl (en_f Try.call13 rfl) (ro_at (fun Fr => used_ok _ Fr _ _)) (.on rfl rfl (beq_eq hg3)) rfl ?_
    refine q_val rfl (ev_move rfl) (.on rfl rfl (beq_eq hg3)) rfl ?_
    refine q_val rfl (ev_load Try.isAgg5 rfl rfl) (.on rfl rfl (beq_eq hg3)) rfl ?_
    first | refine q_val rfl (ev_conv Try.runUnderlying5 Try.runUnderlying3 rfl (wr64 (by omega))) (.on rfl rfl (beq_eq hg3)) rfl ?_ | refine q_val rfl (ev_conv Try.runUnderlying5 Try.runUnderlying3 rfl rfl) (.on rfl rfl (beq_eq hg3)) rfl ?_
    first | refine q_val rfl (ev_add rfl rfl (wr64 (by omega))) (.on rfl rfl (beq_eq hg3)) rfl ?_ | refine q_val rfl (ev_add rfl rfl rfl) (.on rfl rfl (beq_eq hg3)) rfl ?_
    refine q_val rfl (ev_move rfl) (.on rfl rfl (beq_eq hg3)) rfl ?_
    first | refine q_val rfl (ev_conv Try.runUnderlying5 Try.runUnderlying3 rfl (wr64 (by omega))) (.on rfl rfl (beq_eq hg3)) rfl ?_ | refine q_val rfl (ev_conv Try.runUnderlying5 Try.runUnderlying3 rfl rfl) (.on rfl rfl (beq_eq hg3)) rfl ?_
    refine q_val rfl (ev_min rfl rfl rfl) (.on rfl rfl (beq_eq hg3)) rfl ?_
    refine q_val rfl (ev_cmp rfl rfl rfl) (.on rfl rfl (beq_eq hg3)) rfl ?_
    refine q_val rfl (ev_pick_t rfl hg3 rfl) .free rfl ?_
    exact q_seg rfl ⟨rfl, rfl, trivial⟩ (and_t hg3)
  · intro hg3
    refine q_skip rfl (.on rfl rfl (beq_ne hg3)) rfl ?_
    refine q_skip rfl (.on rfl rfl (beq_ne hg3)) rfl ?_
    refine q_skip rfl (.on rfl rfl (beq_ne hg3)) rfl ?_
    refine q_skip rfl (.on rfl rfl (beq_ne hg3)) rfl ?_
    refine q_skip rfl (.on rfl rfl (beq_ne hg3)) rfl ?_
    refine q_skip rfl (.on rfl rfl (beq_ne hg3)) rfl ?_
    refine q_skip rfl (.on rfl rfl (beq_ne hg3)) rfl ?_
    refine q_skip rfl (.on rfl rfl (beq_ne hg3)) rfl ?_
    refine q_skip rfl (.on rfl rfl (beq_ne hg3)) rfl ?_
    refine q_skip rfl (.on rfl rfl (beq_ne hg3)) rfl ?_
    refine q_val rfl (ev_pick_f rfl hg3 rfl) .free rfl ?_
    exact q_seg rfl ⟨rfl, rfl, trivial⟩ (and_f hg3)
  refine q_val rfl (ev_assign rfl) .free rfl ?_
  refine q_nil ?_
  refine g_ret ?_
  exact ret_tmp Try.results4 rfl (fun w hw => ⟨by
      clear hw
      by_cases hc : (lim : Int) < 0 ∨ (0 : Int) + n ≤ lim
      · rw [if_pos hc] at hs
        have := hs2 ⟨lim, 0 + n⟩ (by simp) (by simp <;> omega) (by simp <;> omega)
        by_cases hc2 : (lim : Int) < 0 ∨ (0 : Int) + n + m ≤ lim
        · rw [if_pos (by simpa using hc2)] at this
          simp [hs] at this ⊢; simp [this] <;> omega
        · rw [if_neg (by simpa using hc2)] at this
          simp [hs] at this ⊢; simp [this] <;> omega
      · rw [if_neg hc] at hs
        have := hs2 ⟨lim, lim⟩ (by simp) (by simp <;> omega) (by simp)
        by_cases hc2 : (lim : Int) < 0 ∨ (lim : Int) + m ≤ lim
        · rw [if_pos (by simpa using hc2)] at this
          simp [hs] at this ⊢; simp [this] <;> omega
        · rw [if_neg (by simpa using hc2)] at this
          simp [hs] at this ⊢; simp [this] <;> omega, hw.tail.tail.tail.tail.tail.tail⟩)

theorem more1_ok (B : World) (Fr : List HP) (n : Nat) (hn : n ≤ 255) (bn pb : Nat) (s : Pow) :
    ∀ w, Holds B (row bn [.int .u8 n] 5 :: PowA pb s :: Fr) w → Calls Try.prog 17 [ptr pb, ptr bn].toArray w (Ret B (fun v H' => v = .bool (tk n s).1 ∧ H' = row bn [.int .u8 n] 5 :: PowA pb (tk n s).2.2 :: Fr) (fun _ _ => False)) := by
  refine fn_enter Try.func17 rfl Try.ntmps17 rfl ?_
  refine g_seq ?_
  refine g_region ?_
  refine p_chg rfl (ch_box1 rfl rfl) .free rfl rfl ?_
  rintro _ _ ⟨b2, rfl, rfl⟩
  refine p_val rfl (ev_assign rfl) .free rfl rfl ?_
  refine p_nil ?_
  refine g_seq ?_
  refine g_region ?_
  refine p_val rfl (ev_mkf rfl rfl) .free rfl rfl ?_
  refine p_call rfl (en_f Try.call10 rfl) (run_det (tk n s).1 (row bn [.int .u8 n] 5 :: row b2 [ptr pb] 23 :: PowA pb (tk n s).2.2 :: Fr) Try.call18 (fun A w hw => (more11_ok B _ n hn bn b2 pb s w (((hw.front 3 rfl).front 2 rfl).front 3 rfl)).mono (Ret.mono (fun _ H' h => ⟨h.1, fun w hw => by rw [h.2] at hw; exact (hw.front 3 rfl)⟩) (fun c H' h => ⟨h.1, h.2.1, fun w hw => by rw [h.2.2] at hw; exact (hw.front 3 rfl)⟩)))) .free rfl rfl ?_ ?_
  rotate_left
  · rintro _ _ ⟨⟩
  rintro _ _ ⟨rfl, rfl⟩
  refine p_val rfl (ev_assign rfl) .free rfl rfl ?_
  refine p_nil ?_
  refine g_ret ?_
  exact ret_tmp Try.results17 rfl (fun w hw => ⟨_, ⟨rfl, rfl⟩, (hw.front 1 rfl).tail⟩)

theorem powerMore_ok (B : World) (H : List HP) (lim k n : Nat) (hlim : lim ≤ 255) (hk : k ≤ 255) (hn : n ≤ 255) :
    ∀ w, Holds B H w → Calls Try.prog 6 [.int .u8 lim, .int .u8 k, .int .u8 n].toArray w (PureR B H (.bool true)) := by
  refine fn_enter Try.func6 rfl Try.ntmps6 rfl ?_
  have hs := tk_spec n ⟨lim, 0⟩ (by simp) (by simp <;> omega) (by simp)
  have hs2 := tk_spec n ⟨lim + k, 0⟩ (by simp) (by simp <;> omega) (by simp <;> omega)
  refine g_seq ?_
  refine g_region ?_
  refine p_chg rfl (ch_box1 rfl rfl) .free rfl rfl ?_
  rintro _ _ ⟨b5, rfl, rfl⟩
  refine p_val rfl (ev_assign rfl) .free rfl rfl ?_
  refine p_nil ?_
  refine g_seq ?_
  refine g_seq ?_
  refine g_region ?_
  refine p_callq rfl (en_f Try.call8 rfl) (awake_ok _ _) .free rfl rfl ?_
  refine p_val rfl (ev_not rfl) .free rfl rfl ?_
  refine p_nil ?_
  refine g_iff rfl (rfl) ?_
  refine g_skip ?_
  refine g_seq ?_
  refine g_region ?_
  refine p_val rfl (ev_move rfl) .free rfl rfl ?_
  first | refine p_val rfl (ev_conv Try.runUnderlying5 Try.runUnderlying3 rfl (wr64 (by omega))) .free rfl rfl ?_ | refine p_val rfl (ev_conv Try.runUnderlying5 Try.runUnderlying3 rfl rfl) .free rfl rfl ?_
  refine p_call rfl (en_f Try.call9 rfl) (pnew_ok _ _ _) .free rfl rfl ?_ ?_
  rotate_left
  · rintro _ _ ⟨⟩
  rintro _ _ ⟨pb1, rfl, rfl⟩
  refine p_val rfl (ev_move rfl) .free rfl rfl ?_
  first | refine p_val rfl (ev_conv Try.runUnderlying5 Try.runUnderlying3 rfl (wr64 (by omega))) .free rfl rfl ?_ | refine p_val rfl (ev_conv Try.runUnderlying5 Try.runUnderlying3 rfl rfl) .free rfl rfl ?_
  refine p_val rfl (ev_move rfl) .free rfl rfl ?_
  first | refine p_val rfl (ev_conv Try.runUnderlying5 Try.runUnderlying3 rfl (wr64 (by omega))) .free rfl rfl ?_ | refine p_val rfl (ev_conv Try.runUnderlying5 Try.runUnderlying3 rfl rfl) .free rfl rfl ?_
  first | refine p_val rfl (ev_add rfl rfl (wr64 (by omega))) .free rfl rfl ?_ | refine p_val rfl (ev_add rfl rfl rfl) .free rfl rfl ?_
  refine p_call rfl (en_f Try.call9 rfl) (pnew_ok _ _ _) .free rfl rfl ?_ ?_
  rotate_left
  · rintro _ _ ⟨⟩
  rintro _ _ ⟨pb2, rfl, rfl⟩
  refine p_val rfl (ev_assign rfl) .free rfl rfl ?_
  refine p_val rfl (ev_assign rfl) .free rfl rfl ?_
  refine p_nil ?_
  refine go_sub (σ' := [(8, _), (7, _), (6, _), (5, _)]) ⟨rfl, rfl, rfl, rfl, trivial⟩ ?_
  refine g_seq ?_
  refine g_seq ?_
  refine g_region ?_
  refine p_val rfl (ev_move rfl) .free rfl rfl ?_
  refine p_val rfl (ev_eqp Try.runUnderlying23 rfl rfl rfl) .free rfl rfl ?_
  refine p_val rfl (ev_move rfl) .free rfl rfl ?_
  apply p_or (tp := 28) (t := 25) (σ1 := [(25, _), (8, _), (7, _), (6, _), (5, _)]) 3 rfl ⟨rfl, rfl, rfl, rfl, rfl, trivial⟩
  · intro hg1
    refine p_val rfl (ev_move rfl) (.on rfl rfl (beq_eq hg1)) rfl rfl ?_
    refine p_val rfl (ev_eqp Try.runUnderlying23 rfl rfl rfl) (.on rfl rfl (beq_eq hg1)) rfl rfl ?_
    refine p_val rfl (ev_pick_f rfl hg1 rfl) .free rfl rfl ?_
    exact p_seg rfl ⟨rfl, rfl, rfl, rfl, rfl, trivial⟩ (or_f hg1)
  · intro hg1
    refine p_skip rfl (.on rfl rfl (beq_ne hg1)) rfl ?_
    refine p_skip rfl (.on rfl rfl (beq_ne hg1)) rfl ?_
    refine p_val rfl (ev_pick_t rfl hg1 rfl) .free rfl rfl ?_
    exact p_seg rfl ⟨rfl, rfl, rfl, rfl, rfl, trivial⟩ (or_t hg1)
  refine p_nil ?_
  refine g_iff rfl (rfl) ?_
  refine g_skip ?_
  refine g_seq ?_
  refine g_region ?_
  refine p_val rfl (ev_mkf rfl rfl) .free rfl rfl ?_
  refine p_val rfl (ev_assign rfl) .free rfl rfl ?_
  refine p_nil ?_
  refine g_seq ?_
  refine g_region ?_
  refine p_val rfl (ev_move rfl) .free rfl rfl ?_
  refine p_val rfl (ev_move rfl) .free rfl rfl ?_
  refine p_call rfl (en_c Try.call17 rfl rfl) (fun w hw => more1_ok B (PowA pb2 ⟨lim + k, 0⟩ :: H) n hn b5 pb1 ⟨lim, 0⟩ w ((hw.front 1 rfl).front 2 rfl)) .free rfl rfl ?_ ?_
  rotate_left
  · rintro _ _ ⟨⟩
  rintro _ _ ⟨rfl, rfl⟩
  refine p_val rfl (ev_move rfl) .free rfl rfl ?_
  refine p_val rfl (ev_move rfl) .free rfl rfl ?_
  refine p_call rfl (en_c Try.call17 rfl rfl) (fun w hw => more1_ok B (PowA pb1 (tk n ⟨lim, 0⟩).2.2 :: H) n hn b5 pb2 ⟨lim + k, 0⟩ w ((hw.front 2 rfl).front 1 rfl)) .free rfl rfl ?_ ?_
  rotate_left
  · rintro _ _ ⟨⟩
  rintro _ _ ⟨rfl, rfl⟩
  refine p_val rfl (ev_assign rfl) .free rfl rfl ?_
  refine p_val rfl (ev_assign rfl) .free rfl rfl ?_
  refine p_nil ?_
  refine go_sub (σ' := [(11, _), (10, _), (8, _), (7, _), (6, _)]) ⟨rfl, rfl, rfl, rfl, rfl, trivial⟩ ?_
  refine g_seq ?_
  refine g_region ?_
  refine p_val rfl (ev_move rfl) .free rfl rfl ?_
  refine p_callq rfl (en_f Try.call13 rfl) (ro_at (fun Fr => used_ok _ Fr _ _)) .free rfl rfl ?_
  refine p_val rfl (ev_move rfl) .free rfl rfl ?_
  refine p_callq rfl (en_f Try.call13 rfl) (ro_at (fun Fr => used_ok _ Fr _ _)) .free rfl rfl ?_
  refine p_val rfl (ev_cmp rfl rfl rfl) .free rfl rfl ?_
  refine p_val rfl (ev_move rfl) .free rfl rfl ?_
  apply p_and (tp := 54) (t := 41) (σ1 := [(41, _), (6, _)]) 13 rfl ⟨rfl, rfl, trivial⟩
  · intro hg2
    refine p_val rfl (ev_move rfl) (.on rfl rfl (beq_eq hg2)) rfl rfl ?_
    refine p_val rfl (ev_not rfl) (.on rfl rfl (beq_eq hg2)) rfl rfl ?_
    refine p_val rfl (ev_move rfl) (.on rfl rfl (beq_eq hg2)) rfl rfl ?_
    apply p_or (tp := 53) (t := 44) (σ1 := [(44, _), (41, _), (6, _)]) 9 rfl ⟨rfl, rfl, rfl, trivial⟩
    · intro hg3
      refine p_val rfl (ev_move rfl) (.on rfl rfl (beq_eq hg3)) rfl rfl ?_
      refine p_val rfl (ev_move rfl) (.on rfl rfl (beq_eq hg3)) rfl rfl ?_
      apply p_and (tp := 52) (t := 46) (σ1 := [(46, _), (44, _), (41, _), (6, _)]) 6 rfl ⟨rfl, rfl, rfl, rfl, trivial⟩
      · intro hg4
        refine p_val rfl (ev_move rfl) (.on rfl rfl (beq_eq hg4)) rfl rfl ?_
        refine p_callq rfl (en_f Try.call13 rfl) (ro_at (fun Fr => used_ok _ Fr _ _)) (.on rfl rfl (beq_eq hg4)) rfl rfl ?_
        refine p_val rfl (ev_move rfl) (.on rfl rfl (beq_eq hg4)) rfl rfl ?_
        refine p_callq rfl (en_f Try.call13 rfl) (ro_at (fun Fr => used_ok _ Fr _ _)) (.on rfl rfl (beq_eq hg4)) rfl rfl ?_
        refine p_val rfl (ev_cmp rfl rfl rfl) (.on rfl rfl (beq_eq hg4)) rfl rfl ?_
        refine p_val rfl (ev_pick_t rfl hg4 rfl) (.on rfl rfl (beq_eq hg3)) rfl rfl ?_
        exact p_seg rfl ⟨rfl, rfl, rfl, rfl, trivial⟩ (and_t hg4)
      · intro hg4
        refine p_skip rfl (.on rfl rfl (beq_ne hg4)) rfl ?_
        refine p_skip rfl (.on rfl rfl (beq_ne hg4)) rfl ?_
        refine p_skip rfl (.on rfl rfl (beq_ne hg4)) rfl ?_
        refine p_skip rfl (.on rfl rfl (beq_ne hg4)) rfl ?_
        refine p_skip rfl (.on rfl rfl (beq_ne hg4)) rfl ?_
        refine p_val rfl (ev_pick_f rfl hg4 rfl) (.on rfl rfl (beq_eq hg3)) rfl rfl ?_
        exact p_seg rfl ⟨rfl, rfl, rfl, rfl, trivial⟩ (and_f hg4)
      refine p_val rfl (ev_pick_f rfl hg3 rfl) (.on rfl rfl (beq_eq hg2)) rfl rfl ?_
      exact p_seg rfl ⟨rfl, rfl, rfl, trivial⟩ (or_f hg3)
    · intro hg3
      refine p_skip rfl (.on rfl rfl (beq_ne hg3)) rfl ?_
      refine p_skip rfl (.on rfl rfl (beq_ne hg3)) rfl ?_
      refine p_skip rfl (.und rfl rfl) rfl ?_
      refine p_skip rfl (.und rfl rfl) rfl ?_
      refine p_skip rfl (.und rfl rfl) rfl ?_
      refine p_skip rfl (.und rfl rfl) rfl ?_
      refine p_skip rfl (.und rfl rfl) rfl ?_
      refine p_skip rfl (.on rfl rfl (beq_ne hg3)) rfl ?_
      refine p_val rfl (ev_pick_t rfl hg3 rfl) (.on rfl rfl (beq_eq hg2)) rfl rfl ?_
      exact p_seg rfl ⟨rfl, rfl, rfl, trivial⟩ (or_t hg3)
    refine p_val rfl (ev_pick_t rfl hg2 rfl) .free rfl rfl ?_
    exact p_seg rfl ⟨rfl, rfl, trivial⟩ (and_t hg2)
  · intro hg2
    refine p_skip rfl (.on rfl rfl (beq_ne hg2)) rfl ?_
    refine p_skip rfl (.on rfl rfl (beq_ne hg2)) rfl ?_
    refine p_skip rfl (.on rfl rfl (beq_ne hg2)) rfl ?_
    refine p_skip rfl (.und rfl rfl) rfl ?_
    refine p_skip rfl (.und rfl rfl) rfl ?_
    refine p_skip rfl (.und rfl rfl) rfl ?_
    refine p_skip rfl (.und rfl rfl) rfl ?_
    refine p_skip rfl (.und rfl rfl) rfl ?_
    refine p_skip rfl (.und rfl rfl) rfl ?_
    refine p_skip rfl (.und rfl rfl) rfl ?_
    refine p_skip rfl (.und rfl rfl) rfl ?_
    refine p_skip rfl (.on rfl rfl (beq_ne hg2)) rfl ?_
    refine p_val rfl (ev_pick_f rfl hg2 rfl) .free rfl rfl ?_
    exact p_seg rfl ⟨rfl, rfl, trivial⟩ (and_f hg2)
  refine p_val rfl (ev_assign rfl) .free rfl rfl ?_
  refine p_nil ?_
  refine g_ret ?_
  exact ret_tmp Try.results6 rfl (fun w hw => ⟨by
      clear hw
      by_cases hc : (lim : Int) < 0 ∨ (0 : Int) + n ≤ lim
      · rw [if_pos hc] at hs
        rw [if_pos (by simp; omega)] at hs2
        simp [hs, hs2] <;> omega
      · rw [if_neg hc] at hs
        by_cases hc2 : (lim : Int) + k < 0 ∨ (0 : Int) + n ≤ lim + k
        · rw [if_pos hc2] at hs2
          simp [hs, hs2]; omega
        · rw [if_neg hc2] at hs2
          simp [hs, hs2] <;> omega, hw.tail.tail.tail⟩)

theorem parts1_ok (B : World) (Fr : List HP) (n : Nat) (hn : n ≤ 100000) (pb : Nat) (s : Pow) :
    ∀ w, Holds B (PowA pb s :: Fr) w → Calls Try.prog 19 [ptr pb, .int .i64 n].toArray w (Ret B (fun v H' => ∃ s', (v = .bool (tk n s).1 ∧ (tk n s).2.2 = s') ∧ H' = PowA pb s' :: Fr) (fun _ H' => ∃ s', False ∧ H' = PowA pb s' :: Fr)) := by
  refine fn_enter Try.func19 rfl Try.ntmps19 rfl ?_
  refine g_seq ?_
  refine g_region ?_
  refine p_chg rfl (ch_box1 rfl rfl) .free rfl rfl ?_
  rintro _ _ ⟨b2, rfl, rfl⟩
  refine p_chg rfl (ch_box1 rfl rfl) .free rfl rfl ?_
  rintro _ _ ⟨b3, rfl, rfl⟩
  refine p_val rfl (ev_assign rfl) .free rfl rfl ?_
  refine p_nil ?_
  refine g_seq ?_
  refine g_region ?_
  refine p_val rfl (ev_mkf rfl rfl) .free rfl rfl ?_
  refine p_call rfl (en_f Try.call10 rfl) (run_det (tk n s).1 (row b3 [.int .i64 n] 3 :: row b2 [ptr pb] 23 :: PowA pb (tk n s).2.2 :: Fr) Try.call20 (fun A w hw => (parts11_ok B _ n hn b3 b2 pb s w (((hw.front 3 rfl).front 3 rfl).front 3 rfl)).mono (Ret.mono (fun _ H' h => ⟨h.1, fun w hw => by rw [h.2] at hw; exact (hw.front 3 rfl)⟩) (fun c H' h => ⟨h.1, h.2.1, fun w hw => by rw [h.2.2] at hw; exact (hw.front 3 rfl)⟩)))) .free rfl rfl ?_ ?_
  rotate_left
  · rintro _ _ ⟨⟩
  rintro _ _ ⟨rfl, rfl⟩
  refine p_val rfl (ev_assign rfl) .free rfl rfl ?_
  refine p_nil ?_
  refine g_ret ?_
  exact ret_tmp Try.results19 rfl (fun w hw => ⟨_, ⟨_, ⟨rfl, rfl⟩, rfl⟩, hw.tail.tail⟩)

theorem powerParts_ok (B : World) (H : List HP) (lim a b : Nat) (hlim : lim ≤ 255) (ha : a ≤ 255) (hb : b ≤ 255) :
    ∀ w, Holds B H w → Calls Try.prog 7 [.int .u8 lim, .int .u8 a, .int .u8 b].toArray w (PureR B H (.bool true)) := by
  refine fn_enter Try.func7 rfl Try.ntmps7 rfl ?_
  have h1 := tk_spec (a + b) ⟨lim, 0⟩ (by simp) (by simp <;> omega) (by simp)
  have h2 := tk_spec a ⟨lim, 0⟩ (by simp) (by simp <;> omega) (by simp)
  have h3 : ∀ s : Pow, 0 ≤ s.used → s.used ≤ 255 → (0 ≤ s.lim → s.used ≤ s.lim) → _ := fun s h0 h1 h2 => tk_spec b s h0 (by omega) h2
  refine g_seq ?_
  refine g_region ?_
  refine p_val rfl (ev_assign rfl) .free rfl rfl ?_
  refine p_nil ?_
  refine g_seq ?_
  refine g_seq ?_
  refine g_region ?_
  refine p_callq rfl (en_f Try.call8 rfl) (awake_ok _ _) .free rfl rfl ?_
  refine p_val rfl (ev_not rfl) .free rfl rfl ?_
  refine p_nil ?_
  refine g_iff rfl (rfl) ?_
  refine g_skip ?_
  refine g_seq ?_
  refine g_region ?_
  refine p_val rfl (ev_move rfl) .free rfl rfl ?_
  first | refine p_val rfl (ev_conv Try.runUnderlying5 Try.runUnderlying3 rfl (wr64 (by omega))) .free rfl rfl ?_ | refine p_val rfl (ev_conv Try.runUnderlying5 Try.runUnderlying3 rfl rfl) .free rfl rfl ?_
  refine p_call rfl (en_f Try.call9 rfl) (pnew_ok _ _ _) .free rfl rfl ?_ ?_
  rotate_left
  · rintro _ _ ⟨⟩
  rintro _ _ ⟨pb1, rfl, rfl⟩
  refine p_val rfl (ev_move rfl) .free rfl rfl ?_
  first | refine p_val rfl (ev_conv Try.runUnderlying5 Try.runUnderlying3 rfl (wr64 (by omega))) .free rfl rfl ?_ | refine p_val rfl (ev_conv Try.runUnderlying5 Try.runUnderlying3 rfl rfl) .free rfl rfl ?_
  refine p_call rfl (en_f Try.call9 rfl) (pnew_ok _ _ _) .free rfl rfl ?_ ?_
  rotate_left
  · rintro _ _ ⟨⟩
  rintro _ _ ⟨pb2, rfl, rfl⟩
  refine p_val rfl (ev_assign rfl) .free rfl rfl ?_
  refine p_val rfl (ev_assign rfl) .free rfl rfl ?_
  refine p_nil ?_
  refine go_sub (σ' := [(8, _), (7, _), (6, _), (1, _), (2, _)]) ⟨rfl, rfl, rfl, rfl, rfl, trivial⟩ ?_
  refine g_seq ?_
  refine g_seq ?_
  refine g_region ?_
  refine p_val rfl (ev_move rfl) .free rfl rfl ?_
  refine p_val rfl (ev_eqp Try.runUnderlying23 rfl rfl rfl) .free rfl rfl ?_
  refine p_val rfl (ev_move rfl) .free rfl rfl ?_
  apply p_or (tp := 26) (t := 23) (σ1 := [(23, _), (8, _), (7, _), (6, _), (1, _), (2, _)]) 3 rfl ⟨rfl, rfl, rfl, rfl, rfl, rfl, trivial⟩
  · intro hg1
    refine p_val rfl (ev_move rfl) (.on rfl rfl (beq_eq hg1)) rfl rfl ?_
    refine p_val rfl (ev_eqp Try.runUnderlying23 rfl rfl rfl) (.on rfl rfl (beq_eq hg1)) rfl rfl ?_
    refine p_val rfl (ev_pick_f rfl hg1 rfl) .free rfl rfl ?_
    exact p_seg rfl ⟨rfl, rfl, rfl, rfl, rfl, rfl, trivial⟩ (or_f hg1)
  · intro hg1
    refine p_skip rfl (.on rfl rfl (beq_ne hg1)) rfl ?_
    refine p_skip rfl (.on rfl rfl (beq_ne hg1)) rfl ?_
    refine p_val rfl (ev_pick_t rfl hg1 rfl) .free rfl rfl ?_
    exact p_seg rfl ⟨rfl, rfl, rfl, rfl, rfl, rfl, trivial⟩ (or_t hg1)
  refine p_nil ?_
  refine g_iff rfl (rfl) ?_
  refine g_skip ?_
  refine g_seq ?_
  refine g_region ?_
  refine p_val rfl (ev_assign rfl) .free rfl rfl ?_
  refine p_nil ?_
  refine g_seq ?_
  refine g_region ?_
  refine p_val rfl (ev_move rfl) .free rfl rfl ?_
  refine p_val rfl (ev_move rfl) .free rfl rfl ?_
  refine p_val rfl (ev_move rfl) .free rfl rfl ?_
  first | refine p_val rfl (ev_conv Try.runUnderlying5 Try.runUnderlying3 rfl (wr64 (by omega))) .free rfl rfl ?_ | refine p_val rfl (ev_conv Try.runUnderlying5 Try.runUnderlying3 rfl rfl) .free rfl rfl ?_
  refine p_val rfl (ev_move rfl) .free rfl rfl ?_
  first | refine p_val rfl (ev_conv Try.runUnderlying5 Try.runUnderlying3 rfl (wr64 (by omega))) .free rfl rfl ?_ | refine p_val rfl (ev_conv Try.runUnderlying5 Try.runUnderlying3 rfl rfl) .free rfl rfl ?_
  first | refine p_val rfl (ev_add rfl rfl (wr64 (by omega))) .free rfl rfl ?_ | refine p_val rfl (ev_add rfl rfl rfl) .free rfl rfl ?_
  refine p_call rfl (en_c Try.call19 rfl rfl) (up_at (q := PowA) (b := pb1) (fun Fr w hw => parts1_ok B Fr (a + b) (by omega) pb1 ⟨lim, 0⟩ w hw)) .free rfl rfl ?_ ?_
  rotate_left
  · rintro _ _ ⟨_, ⟨⟩, _⟩
  rintro _ _ ⟨_, ⟨rfl, rfl⟩, rfl⟩
  refine p_val rfl (ev_assign rfl) .free rfl rfl ?_
  refine p_nil ?_
  refine go_sub (σ' := [(10, _), (9, _), (8, _), (7, _), (6, _), (1, _), (2, _)]) ⟨rfl, rfl, rfl, rfl, rfl, rfl, rfl, trivial⟩ ?_
  refine g_seq ?_
  refine g_region ?_
  refine p_val rfl (ev_move rfl) .free rfl rfl ?_
  refine p_val rfl (ev_move rfl) .free rfl rfl ?_
  refine p_val rfl (ev_move rfl) .free rfl rfl ?_
  first | refine p_val rfl (ev_conv Try.runUnderlying5 Try.runUnderlying3 rfl (wr64 (by omega))) .free rfl rfl ?_ | refine p_val rfl (ev_conv Try.runUnderlying5 Try.runUnderlying3 rfl rfl) .free rfl rfl ?_
  refine p_call rfl (en_c Try.call19 rfl rfl) (up_at (q := PowA) (b := pb2) (fun Fr w hw => parts1_ok B Fr a (by omega) pb2 ⟨lim, 0⟩ w hw)) .free rfl rfl ?_ ?_
  rotate_left
  · rintro _ _ ⟨_, ⟨⟩, _⟩
  rintro _ _ ⟨_, ⟨rfl, rfl⟩, rfl⟩
  refine p_val rfl (ev_assign rfl) .free rfl rfl ?_
  refine p_nil ?_
  refine g_seq ?_
  refine g_region ?_
  refine p_val rfl (ev_move rfl) .free rfl rfl ?_
  refine p_val rfl (ev_move rfl) .free rfl rfl ?_
  refine p_val rfl (ev_move rfl) .free rfl rfl ?_
  first | refine p_val rfl (ev_conv Try.runUnderlying5 Try.runUnderlying3 rfl (wr64 (by omega))) .free rfl rfl ?_ | refine p_val rfl (ev_conv Try.runUnderlying5 Try.runUnderlying3 rfl rfl) .free rfl rfl ?_
  refine p_call rfl (en_c Try.call19 rfl rfl) (up_at (q := PowA) (b := pb2) (fun Fr w hw => parts1_ok B Fr b (by omega) pb2 (tk a ⟨lim, 0⟩).2.2 w hw)) .free rfl rfl ?_ ?_
  rotate_left
  · rintro _ _ ⟨_, ⟨⟩, _⟩
  rintro _ _ ⟨_, ⟨rfl, rfl⟩, rfl⟩
  refine p_val rfl (ev_assign rfl) .free rfl rfl ?_
  refine p_nil ?_
  refine go_sub (σ' := [(12, _), (11, _), (10, _), (8, _), (7, _), (6, _)]) ⟨rfl, rfl, rfl, rfl, rfl, rfl, trivial⟩ ?_
  refine g_seq ?_
  refine g_region ?_
  refine p_val rfl (ev_move rfl) .free rfl rfl ?_
  refine p_callq rfl (en_f Try.call13 rfl) (ro_at (fun Fr => used_ok _ Fr _ _)) .free rfl rfl ?_
  refine p_val rfl (ev_move rfl) .free rfl rfl ?_
  refine p_callq rfl (en_f Try.call13 rfl) (ro_at (fun Fr => used_ok _ Fr _ _)) .free rfl rfl ?_
  refine p_val rfl (ev_cmp rfl rfl rfl) .free rfl rfl ?_
  refine p_val rfl (ev_move rfl) .free rfl rfl ?_
  apply p_and (tp := 57) (t := 50) (σ1 := [(50, _), (6, _)]) 7 rfl ⟨rfl, rfl, trivial⟩
  · intro hg2
    refine p_val rfl (ev_move rfl) (.on rfl rfl (beq_eq hg2)) rfl rfl ?_
    refine p_val rfl (ev_move rfl) (.on rfl rfl (beq_eq hg2)) rfl rfl ?_
    refine p_val rfl (ev_move rfl) (.on rfl rfl (beq_eq hg2)) rfl rfl ?_
    apply p_and (tp := 55) (t := 53) (σ1 := [(53, _), (51, _), (50, _), (6, _)]) 2 rfl ⟨rfl, rfl, rfl, rfl, trivial⟩
    · intro hg3
      refine p_val rfl (ev_move rfl) (.on rfl rfl (beq_eq hg3)) rfl rfl ?_
      refine p_val rfl (ev_pick_t rfl hg3 rfl) (.on rfl rfl (beq_eq hg2)) rfl rfl ?_
      exact p_seg rfl ⟨rfl, rfl, rfl, rfl, trivial⟩ (and_t hg3)
    · intro hg3
      refine p_skip rfl (.on rfl rfl (beq_ne hg3)) rfl ?_
      refine p_val rfl (ev_pick_f rfl hg3 rfl) (.on rfl rfl (beq_eq hg2)) rfl rfl ?_
      exact p_seg rfl ⟨rfl, rfl, rfl, rfl, trivial⟩ (and_f hg3)
    refine p_val rfl (ev_eqb Try.runUnderlying4 rfl rfl rfl) (.on rfl rfl (beq_eq hg2)) rfl rfl ?_
    refine p_val rfl (ev_pick_t rfl hg2 rfl) .free rfl rfl ?_
    exact p_seg rfl ⟨rfl, rfl, trivial⟩ (and_t hg2)
  · intro hg2
    refine p_skip rfl (.on rfl rfl (beq_ne hg2)) rfl ?_
    refine p_skip rfl (.on rfl rfl (beq_ne hg2)) rfl ?_
    refine p_skip rfl (.on rfl rfl (beq_ne hg2)) rfl ?_
    refine p_skip rfl (.und rfl rfl) rfl ?_
    refine p_skip rfl (.on rfl rfl (beq_ne hg2)) rfl ?_
    refine p_skip rfl (.on rfl rfl (beq_ne hg2)) rfl ?_
    refine p_val rfl (ev_pick_f rfl hg2 rfl) .free rfl rfl ?_
    exact p_seg rfl ⟨rfl, rfl, trivial⟩ (and_f hg2)
  refine p_val rfl (ev_assign rfl) .free rfl rfl ?_
  refine p_nil ?_
  refine g_ret ?_
  exact ret_tmp Try.results7 rfl (fun w hw => ⟨by
      clear hw
      by_cases hc : (lim : Int) < 0 ∨ (0 : Int) + a ≤ lim
      · rw [if_pos hc] at h2
        have := h3 ⟨lim, 0 + a⟩ (by simp) (by simp <;> omega) (by simp <;> omega)
        by_cases hc2 : (lim : Int) < 0 ∨ (0 : Int) + a + b ≤ lim
        · rw [if_pos (by simpa using hc2)] at this
          rw [if_pos (by simp; omega)] at h1
          simp [h1, h2] at this ⊢; simp [this] <;> omega
        · rw [if_neg (by simpa using hc2)] at this
          rw [if_neg (by simp; omega)] at h1
          simp [h1, h2] at this ⊢; simp [this] <;> omega
      · rw [if_neg hc] at h2
        rw [if_neg (by simp; omega)] at h1
        have := h3 ⟨lim, lim⟩ (by simp) (by simp <;> omega) (by simp)
        by_cases hc2 : (lim : Int) < 0 ∨ (lim : Int) + b ≤ lim
        · rw [if_pos (by simpa using hc2)] at this
          simp [h1, h2] at this ⊢; simp [this] <;> omega
        · rw [if_neg (by simpa using hc2)] at this
          simp [h1, h2] at this ⊢; simp [this] <;> omega, hw.tail.tail⟩)


def Pow.next (s : Pow) : Pow := if s.out = true then s else s.up
theorem next_eq {a n : Int} (h : 0 ≤ n ∧ n ≤ a ∧ a ≤ 255) : Pow.next ⟨a, n⟩ = ⟨a, if a < n + 1 then a else n + 1⟩ := by
  unfold Pow.next
  by_cases c : a < n + 1
  · have : Pow.out ⟨a, n⟩ = true := by simp [Pow.out]; omega
    rw [if_pos this, if_pos c]; congr 1; omega
  · have : Pow.out ⟨a, n⟩ = false := by simp [Pow.out]; omega
    rw [this, if_neg (by simp), if_neg c]; simp only [Pow.up]; rw [wr64 (by omega)]
theorem out_eq {a n : Int} (h : 0 ≤ n ∧ n ≤ a ∧ a ≤ 255) : ((!Pow.out ⟨a, n⟩) != decide (n < a)) = false := by
  by_cases c : n < a
  · have : Pow.out ⟨a, n⟩ = false := by simp [Pow.out]; omega
    simp [this, c]
  · have : Pow.out ⟨a, n⟩ = true := by simp [Pow.out]; omega
    simp [this, c]
theorem run_tick (B : World) {H : List HP} {U : Pow → List HP} (pb : Nat) (s : Pow) [r : AtU H PowA pb s U] : ∀ w, Holds B H w → Calls Try.prog 10 [.func (.func 12) [ptr pb].toArray [].toArray].toArray w (Ret B (fun v H' => v = .bool (!s.out) ∧ H' = U s.next) (fun _ _ => False)) :=
  run_detf (!s.out) (U s.next) Try.call12 (fun A w hw => (up_at (q := PowA) (b := pb) (r := AtU.tail) (fun Fr => tick_ok _ Fr _ _) w hw).mono (Ret.mono
    (fun v H' h => by obtain ⟨s', ⟨ho, _, rfl⟩, rfl⟩ := h; exact ⟨by rw [ho]; rfl, fun w hw => by simpa [Pow.next, ho] using hw⟩)
    (fun c H' h => by obtain ⟨s', ⟨ho, rfl, rfl⟩, rfl⟩ := h; exact ⟨by rw [ho]; rfl, rfl, fun w hw => by simpa [Pow.next, ho] using hw⟩)))

theorem powerApart_ok (B : World) (H : List HP) [HasOld H B] (a b : Int) (ha : 0 ≤ a ∧ a ≤ 255) (hb : 0 ≤ b ∧ b ≤ 255) (l : Option Addr) (len cap : Nat) (zs : List Bool) (hl : len ≤ 9223372036854775807) (hz : ArgRow B l len 1 (fun i => [.bool (zs.getD i false)])) :
    ∀ w, Holds B H w → Calls Try.prog 5 [.int .u8 a, .int .u8 b, .slice l len cap].toArray w (PureR B H (.bool true)) := by
  refine fn_enter Try.func5 rfl Try.ntmps5 rfl ?_
  refine g_seq ?_
  refine g_region ?_
  refine p_val rfl (ev_assign rfl) .free rfl rfl ?_
  refine p_nil ?_
  refine g_seq ?_
  refine g_seq ?_
  refine g_region ?_
  refine p_callq rfl (en_f Try.call8 rfl) (awake_ok _ _) .free rfl rfl ?_
  refine p_val rfl (ev_not rfl) .free rfl rfl ?_
  refine p_nil ?_
  refine g_iff rfl (rfl) ?_
  refine g_skip ?_
  refine g_seq ?_
  refine g_seq ?_
  refine g_region ?_
  refine p_val rfl (ev_move rfl) .free rfl rfl ?_
  refine p_val rfl (ev_len rfl Try.runUnderlying29 ⟨_, rfl⟩ rfl) .free rfl rfl ?_
  refine p_val rfl (ev_cmp rfl rfl rfl) .free rfl rfl ?_
  refine p_nil ?_
  refine g_if rfl (fun h17 => ?_) (fun h17 => ?_)
  · try simp only [decide_eq_true_eq, decide_eq_false_iff_not, Bool.not_eq_true', Bool.not_eq_false', Bool.or_eq_true, Bool.and_eq_true, Bool.and_eq_false_iff, Bool.or_eq_false_iff, beq_iff_eq, bne_iff_ne, beq_eq_false_iff_ne, bne_eq_false_iff_eq, ge_iff_le, gt_iff_lt, ne_eq] at h17
    refine g_seq ?_
    refine g_region ?_
    refine p_val rfl (ev_assign rfl) .free rfl rfl ?_
    refine p_nil ?_
    refine g_ret ?_
    exact ret_tmp Try.results5 rfl (fun w hw => by
      first
        | exact ⟨rfl, hw⟩
        | exact ⟨by simp, hw.tail.tail⟩)
  · try simp only [decide_eq_true_eq, decide_eq_false_iff_not, Bool.not_eq_true', Bool.not_eq_false', Bool.or_eq_true, Bool.and_eq_true, Bool.and_eq_false_iff, Bool.or_eq_false_iff, beq_iff_eq, bne_iff_ne, beq_eq_false_iff_ne, bne_eq_false_iff_eq, ge_iff_le, gt_iff_lt, ne_eq] at h17
    refine g_skip ?_
    refine g_seq ?_
    refine g_region ?_
    refine p_val rfl (ev_move rfl) .free rfl rfl ?_
    first | refine p_val rfl (ev_conv Try.runUnderlying5 Try.runUnderlying3 rfl (wr64 (by omega))) .free rfl rfl ?_ | refine p_val rfl (ev_conv Try.runUnderlying5 Try.runUnderlying3 rfl rfl) .free rfl rfl ?_
    refine p_call rfl (en_f Try.call9 rfl) (pnew_ok _ _ _) .free rfl rfl ?_ ?_
    rotate_left
    · rintro _ _ ⟨⟩
    rintro _ _ ⟨pb1, rfl, rfl⟩
    refine p_val rfl (ev_move rfl) .free rfl rfl ?_
    first | refine p_val rfl (ev_conv Try.runUnderlying5 Try.runUnderlying3 rfl (wr64 (by omega))) .free rfl rfl ?_ | refine p_val rfl (ev_conv Try.runUnderlying5 Try.runUnderlying3 rfl rfl) .free rfl rfl ?_
    refine p_call rfl (en_f Try.call9 rfl) (pnew_ok _ _ _) .free rfl rfl ?_ ?_
    rotate_left
    · rintro _ _ ⟨⟩
    rintro _ _ ⟨pb2, rfl, rfl⟩
    refine p_val rfl (ev_assign rfl) .free rfl rfl ?_
    refine p_val rfl (ev_assign rfl) .free rfl rfl ?_
    refine p_nil ?_
    refine go_sub (σ' := [(8, _), (7, _), (6, _), (0, _), (1, _), (2, _)]) ⟨rfl, rfl, rfl, rfl, rfl, rfl, trivial⟩ ?_
    refine g_seq ?_
    refine g_seq ?_
    refine g_region ?_
    refine p_val rfl (ev_move rfl) .free rfl rfl ?_
    refine p_val rfl (ev_eqp Try.runUnderlying23 rfl rfl rfl) .free rfl rfl ?_
    refine p_val rfl (ev_move rfl) .free rfl rfl ?_
    apply p_or (tp := 29) (t := 26) (σ1 := [(26, _), (8, _), (7, _), (6, _), (0, _), (1, _), (2, _)]) 3 rfl ⟨rfl, rfl, rfl, rfl, rfl, rfl, rfl, trivial⟩
    · intro hg1
      refine p_val rfl (ev_move rfl) (.on rfl rfl (beq_eq hg1)) rfl rfl ?_
      refine p_val rfl (ev_eqp Try.runUnderlying23 rfl rfl rfl) (.on rfl rfl (beq_eq hg1)) rfl rfl ?_
      refine p_val rfl (ev_pick_f rfl hg1 rfl) .free rfl rfl ?_
      exact p_seg rfl ⟨rfl, rfl, rfl, rfl, rfl, rfl, rfl, trivial⟩ (or_f hg1)
    · intro hg1
      refine p_skip rfl (.on rfl rfl (beq_ne hg1)) rfl ?_
      refine p_skip rfl (.on rfl rfl (beq_ne hg1)) rfl ?_
      refine p_val rfl (ev_pick_t rfl hg1 rfl) .free rfl rfl ?_
      exact p_seg rfl ⟨rfl, rfl, rfl, rfl, rfl, rfl, rfl, trivial⟩ (or_t hg1)
    refine p_nil ?_
    refine g_iff rfl (rfl) ?_
    refine g_skip ?_
    refine g_seq ?_
    refine g_region ?_
    refine p_val rfl (ev_assign rfl) .free rfl rfl ?_
    refine p_val rfl (ev_assign rfl) .free rfl rfl ?_
    refine p_nil ?_
    refine g_seq ?_
    refine g_seq ?_
    refine g_region ?_
    refine p_val rfl (ev_move rfl) .free rfl rfl ?_
    refine p_val rfl (ev_len rfl Try.runUnderlying29 ⟨_, rfl⟩ rfl) .free rfl rfl ?_
    refine p_val rfl (ev_move rfl) .free rfl rfl ?_
    refine p_nil ?_
    refine g_block ?_
    refine g_loop (ι := Nat × Int × Int) (fun i => i.1 ≤ len ∧ 0 ≤ i.2.1 ∧ i.2.1 ≤ a ∧ 0 ≤ i.2.2 ∧ i.2.2 ≤ b) (fun i => [(0, .int .u8 a), (1, .int .u8 b), (6, .bool false), (7, ptr pb1), (8, ptr pb2), (9, .int .i64 i.2.1), (10, .int .i64 i.2.2), (30, .slice l len cap), (31, .int .i64 len), (32, .int .i64 i.1)]) (fun i => PowA pb2 ⟨b, i.2.2⟩ :: PowA pb1 ⟨a, i.2.1⟩ :: H) (fun i => len - i.1) (0, 0, 0) ?_ (fun a w st => st.to ⟨rfl, rfl, rfl, rfl, rfl, rfl, rfl, rfl, rfl, rfl, trivial⟩ id) ?_
    · exact ⟨Nat.zero_le _, by simp, ha.1, by simp, hb.1⟩
    rintro ⟨i, n, m⟩ ⟨hi, i1, i2, i3, i4⟩
    simp only at hi i1 i2 i3 i4 ⊢
    refine g_seq ?_
    refine g_region ?_
    refine p_val rfl (ev_cmp rfl rfl rfl) .free rfl rfl ?_
    refine p_nil ?_
    refine g_seq ?_
    refine g_if rfl (fun h33 => ?_) (fun h33 => ?_)
    · try simp only [decide_eq_true_eq, decide_eq_false_iff_not, Bool.not_eq_true', Bool.not_eq_false', Bool.or_eq_true, Bool.and_eq_true, Bool.and_eq_false_iff, Bool.or_eq_false_iff, beq_iff_eq, bne_iff_ne, beq_eq_false_iff_ne, bne_eq_false_iff_eq, ge_iff_le, gt_iff_lt, ne_eq] at h33
      refine g_skip ?_
      refine g_seq ?_
      refine g_block ?_
      refine g_seq ?_
      refine g_region ?_
      obtain ⟨xb, xo, rfl, -, hcell⟩ := hz.cell i (by omega)
      have hcell := hcell 0 (by omega)
      refine p_val rfl (ev_ia (m := xo + (i * 1 + 0)) Try.runUnderlying29 Try.sizeOf4 rfl rfl (by omega) (by omega) (by omega)) .free rfl rfl ?_
      refine p_val rfl (ev_loadO Try.isAgg4 rfl (hcell.trans rfl)) .free rfl rfl ?_
      refine p_val rfl (ev_assign rfl) .free rfl rfl ?_
      refine p_nil ?_
      refine g_seq ?_
      refine g_region ?_
      refine p_val rfl (ev_move rfl) .free rfl rfl ?_
      refine p_nil ?_
      refine go_sub (σ' := [(36, _), (32, _), (31, _), (30, _), (10, _), (9, _), (8, _), (7, _), (6, _), (0, _), (1, _)]) ⟨rfl, rfl, rfl, rfl, rfl, rfl, rfl, rfl, rfl, rfl, rfl, trivial⟩ ?_
      refine g_if rfl (fun h36 => ?_) (fun h36 => ?_)
      · try simp only [decide_eq_true_eq, decide_eq_false_iff_not, Bool.not_eq_true', Bool.not_eq_false', Bool.or_eq_true, Bool.and_eq_true, Bool.and_eq_false_iff, Bool.or_eq_false_iff, beq_iff_eq, bne_iff_ne, beq_eq_false_iff_ne, bne_eq_false_iff_eq, ge_iff_le, gt_iff_lt, ne_eq] at h36
        refine g_seq ?_
        refine g_seq ?_
        refine g_region ?_
        refine p_val rfl (ev_move rfl) .free rfl rfl ?_
        refine p_val rfl (ev_mkf rfl rfl) .free rfl rfl ?_
        refine p_call rfl (en_f Try.call10 rfl) (run_tick B pb1 ⟨a, n⟩) .free rfl rfl ?_ ?_
        rotate_left
        · rintro _ _ ⟨⟩
        rintro _ _ ⟨rfl, rfl⟩
        refine p_val rfl (ev_move rfl) .free rfl rfl ?_
        refine p_val rfl (ev_move rfl) .free rfl rfl ?_
        first | refine p_val rfl (ev_conv Try.runUnderlying5 Try.runUnderlying3 rfl (wr64 (by omega))) .free rfl rfl ?_ | refine p_val rfl (ev_conv Try.runUnderlying5 Try.runUnderlying3 rfl rfl) .free rfl rfl ?_
        refine p_val rfl (ev_cmp rfl rfl rfl) .free rfl rfl ?_
        refine p_val rfl (ev_eqb Try.runUnderlying4 rfl rfl rfl) .free rfl rfl ?_
        refine p_nil ?_
        refine go_sub (σ' := [(44, _), (32, _), (31, _), (30, _), (10, _), (9, _), (8, _), (7, _), (6, _), (0, _), (1, _)]) ⟨rfl, rfl, rfl, rfl, rfl, rfl, rfl, rfl, rfl, rfl, rfl, trivial⟩ ?_
        refine g_iff rfl (out_eq ⟨i1, i2, ha.2⟩) ?_
        refine g_skip ?_
        refine g_region ?_
        refine p_val rfl (ev_move rfl) .free rfl rfl ?_
        first | refine p_val rfl (ev_add rfl rfl (wr64 (by omega))) .free rfl rfl ?_ | refine p_val rfl (ev_add rfl rfl rfl) .free rfl rfl ?_
        refine p_val rfl (ev_move rfl) .free rfl rfl ?_
        first | refine p_val rfl (ev_conv Try.runUnderlying5 Try.runUnderlying3 rfl (wr64 (by omega))) .free rfl rfl ?_ | refine p_val rfl (ev_conv Try.runUnderlying5 Try.runUnderlying3 rfl rfl) .free rfl rfl ?_
        refine p_val rfl (ev_min rfl rfl rfl) .free rfl rfl ?_
        refine p_val rfl (ev_assign rfl) .free rfl rfl ?_
        refine p_nil ?_
        refine g_region ?_
        first | refine p_val rfl (ev_add rfl rfl (wr64 (by omega))) .free rfl rfl ?_ | refine p_val rfl (ev_add rfl rfl rfl) .free rfl rfl ?_
        refine p_val rfl (ev_move rfl) .free rfl rfl ?_
        refine p_nil ?_
        refine go_sub (σ' := [(32, _), (9, _), (31, _), (30, _), (10, _), (8, _), (7, _), (6, _), (0, _), (1, _)]) ⟨rfl, rfl, rfl, rfl, rfl, rfl, rfl, rfl, rfl, rfl, trivial⟩ ?_
        first
          | exact fun _ w st => ⟨(i + 1, if a < n + 1 then a else n + 1, m), ⟨by simp only; omega, by simp only; split <;> omega, by simp only; split <;> omega, i3, i4⟩, by simp only; omega, st.to ⟨rfl, rfl, rfl, rfl, rfl, rfl, rfl, rfl, rfl, rfl, trivial⟩ (fun h => by rwa [next_eq ⟨i1, i2, ha.2⟩] at h)⟩
          | exact fun _ w st => ⟨(i + 1, n, if b < m + 1 then b else m + 1), ⟨by simp only; omega, i1, i2, by simp only; split <;> omega, by simp only; split <;> omega⟩, by simp only; omega, st.to ⟨rfl, rfl, rfl, rfl, rfl, rfl, rfl, rfl, rfl, rfl, trivial⟩ (fun h => by rwa [next_eq ⟨i3, i4, hb.2⟩] at h)⟩
      · try simp only [decide_eq_true_eq, decide_eq_false_iff_not, Bool.not_eq_true', Bool.not_eq_false', Bool.or_eq_true, Bool.and_eq_true, Bool.and_eq_false_iff, Bool.or_eq_false_iff, beq_iff_eq, bne_iff_ne, beq_eq_false_iff_ne, bne_eq_false_iff_eq, ge_iff_le, gt_iff_lt, ne_eq] at h36
        refine g_seq ?_
        refine g_seq ?_
        refine g_region ?_
        refine p_val rfl (ev_move rfl) .free rfl rfl ?_
        refine p_val rfl (ev_mkf rfl rfl) .free rfl rfl ?_
        refine p_call rfl (en_f Try.call10 rfl) (run_tick B pb2 ⟨b, m⟩) .free rfl rfl ?_ ?_
        rotate_left
        · rintro _ _ ⟨⟩
        rintro _ _ ⟨rfl, rfl⟩
        refine p_val rfl (ev_move rfl) .free rfl rfl ?_
        refine p_val rfl (ev_move rfl) .free rfl rfl ?_
        first | refine p_val rfl (ev_conv Try.runUnderlying5 Try.runUnderlying3 rfl (wr64 (by omega))) .free rfl rfl ?_ | refine p_val rfl (ev_conv Try.runUnderlying5 Try.runUnderlying3 rfl rfl) .free rfl rfl ?_
        refine p_val rfl (ev_cmp rfl rfl rfl) .free rfl rfl ?_
        refine p_val rfl (ev_eqb Try.runUnderlying4 rfl rfl rfl) .free rfl rfl ?_
        refine p_nil ?_
        refine go_sub (σ' := [(57, _), (32, _), (31, _), (30, _), (10, _), (9, _), (8, _), (7, _), (6, _), (0, _), (1, _)]) ⟨rfl, rfl, rfl, rfl, rfl, rfl, rfl, rfl, rfl, rfl, rfl, trivial⟩ ?_
        refine g_iff rfl (out_eq ⟨i3, i4, hb.2⟩) ?_
        refine g_skip ?_
        refine g_region ?_
        refine p_val rfl (ev_move rfl) .free rfl rfl ?_
        first | refine p_val rfl (ev_add rfl rfl (wr64 (by omega))) .free rfl rfl ?_ | refine p_val rfl (ev_add rfl rfl rfl) .free rfl rfl ?_
        refine p_val rfl (ev_move rfl) .free rfl rfl ?_
        first | refine p_val rfl (ev_conv Try.runUnderlying5 Try.runUnderlying3 rfl (wr64 (by omega))) .free rfl rfl ?_ | refine p_val rfl (ev_conv Try.runUnderlying5 Try.runUnderlying3 rfl rfl) .free rfl rfl ?_
        refine p_val rfl (ev_min rfl rfl rfl) .free rfl rfl ?_
        refine p_val rfl (ev_assign rfl) .free rfl rfl ?_
        refine p_nil ?_
        refine g_region ?_
        first | refine p_val rfl (ev_add rfl rfl (wr64 (by omega))) .free rfl rfl ?_ | refine p_val rfl (ev_add rfl rfl rfl) .free rfl rfl ?_
        refine p_val rfl (ev_move rfl) .free rfl rfl ?_
        refine p_nil ?_
        refine go_sub (σ' := [(32, _), (10, _), (31, _), (30, _), (9, _), (8, _), (7, _), (6, _), (0, _), (1, _)]) ⟨rfl, rfl, rfl, rfl, rfl, rfl, rfl, rfl, rfl, rfl, trivial⟩ ?_
        first
          | exact fun _ w st => ⟨(i + 1, if a < n + 1 then a else n + 1, m), ⟨by simp only; omega, by simp only; split <;> omega, by simp only; split <;> omega, i3, i4⟩, by simp only; omega, st.to ⟨rfl, rfl, rfl, rfl, rfl, rfl, rfl, rfl, rfl, rfl, trivial⟩ (fun h => by rwa [next_eq ⟨i1, i2, ha.2⟩] at h)⟩
          | exact fun _ w st => ⟨(i + 1, n, if b < m + 1 then b else m + 1), ⟨by simp only; omega, i1, i2, by simp only; split <;> omega, by simp only; split <;> omega⟩, by simp only; omega, st.to ⟨rfl, rfl, rfl, rfl, rfl, rfl, rfl, rfl, rfl, rfl, trivial⟩ (fun h => by rwa [next_eq ⟨i3, i4, hb.2⟩] at h)⟩
    · try simp only [decide_eq_true_eq, decide_eq_false_iff_not, Bool.not_eq_true', Bool.not_eq_false', Bool.or_eq_true, Bool.and_eq_true, Bool.and_eq_false_iff, Bool.or_eq_false_iff, beq_iff_eq, bne_iff_ne, beq_eq_false_iff_ne, bne_eq_false_iff_eq, ge_iff_le, gt_iff_lt, ne_eq] at h33
      refine g_exit ?_
      refine g_seq ?_
      refine g_region ?_
      refine p_val rfl (ev_move rfl) .free rfl rfl ?_
      refine p_callq rfl (en_f Try.call13 rfl) (ro_at (fun Fr => used_ok _ Fr _ _)) .free rfl rfl ?_
      refine p_val rfl (ev_move rfl) .free rfl rfl ?_
      refine p_val rfl (ev_cmp rfl rfl rfl) .free rfl rfl ?_
      refine p_val rfl (ev_move rfl) .free rfl rfl ?_
      apply p_and (tp := 73) (t := 68) (σ1 := [(68, _), (6, _)]) 5 rfl ⟨rfl, rfl, trivial⟩
      · intro hg2
        refine p_val rfl (ev_move rfl) (.on rfl rfl (beq_eq hg2)) rfl rfl ?_
        refine p_callq rfl (en_f Try.call13 rfl) (ro_at (fun Fr => used_ok _ Fr _ _)) (.on rfl rfl (beq_eq hg2)) rfl rfl ?_
        refine p_val rfl (ev_move rfl) (.on rfl rfl (beq_eq hg2)) rfl rfl ?_
        refine p_val rfl (ev_cmp rfl rfl rfl) (.on rfl rfl (beq_eq hg2)) rfl rfl ?_
        refine p_val rfl (ev_pick_t rfl hg2 rfl) .free rfl rfl ?_
        exact p_seg rfl ⟨rfl, rfl, trivial⟩ (and_t hg2)
      · intro hg2
        refine p_skip rfl (.on rfl rfl (beq_ne hg2)) rfl ?_
        refine p_skip rfl (.on rfl rfl (beq_ne hg2)) rfl ?_
        refine p_skip rfl (.on rfl rfl (beq_ne hg2)) rfl ?_
        refine p_skip rfl (.on rfl rfl (beq_ne hg2)) rfl ?_
        refine p_val rfl (ev_pick_f rfl hg2 rfl) .free rfl rfl ?_
        exact p_seg rfl ⟨rfl, rfl, trivial⟩ (and_f hg2)
      refine p_val rfl (ev_assign rfl) .free rfl rfl ?_
      refine p_nil ?_
      refine g_ret ?_
      exact ret_tmp Try.results5 rfl (fun w hw => by
      first
        | exact ⟨rfl, hw⟩
        | exact ⟨by simp, hw.tail.tail⟩)


/-! ### The statements -/
theorem law_of {P : Program} {f : FuncId} {vs : Array Value} {W : World} (h : ∀ w, Holds W [old W] w → Calls P f vs w (PureR W [old W] (.bool true))) :
    Calls P f vs W (fun e w' => e = .returned (.bool true) ∧ RowKit.Below W.heap.size W w') := (h W (holds_old W)).mono fun _ _ ⟨h1, h2⟩ => ⟨h1, h2.oldb⟩
theorem arg_sl_bool {H : Type} {enc : TypeId × Value → H} {W : World} {base : Nat} {held : Bool} {a : Option Addr} {len cap : Nat} {x : DataW H × List MemPlace}
    (h : ∃ fuel, DataW.trod enc Try.prog W base (fun _ => true) held fuel 29 (Value.slice a len cap).cells.toList = some x) : ∃ zs : List Bool, len ≤ 9223372036854775807 ∧ ArgRow W a len 1 (fun i => [.bool (zs.getD i false)]) := by
  obtain ⟨fuel, hf⟩ := h
  rcases Go.Deep.open_bools Try.underlying29 Try.underlying4 (by kernel_rfl) hf with ⟨hcs, _⟩ | ⟨y, l, c, Bf, hcs, _, hl, hm, _, hcell⟩
  · simp [Value.cells] at hcs
    obtain ⟨rfl, rfl, rfl⟩ := hcs
    exact ⟨[], by omega, ⟨fun i hi => by omega⟩⟩
  · simp [Value.cells] at hcs
    obtain ⟨rfl, rfl, rfl⟩ := hcs
    unfold maxLen at hm
    refine ⟨(List.range len).map Bf, by omega, ⟨fun i hi => ?_⟩⟩
    have h0 := hcell i (by omega)
    obtain ⟨b, o, s⟩ := y
    have hs : s = none := by
      have h1 := hcell 0 (by omega)
      have e0 : (⟨b, o, s⟩ : Addr).add 0 = ⟨b, o, s⟩ := rfl
      rw [e0] at h1
      unfold World.cell? at h1
      split at h1
      · cases s with
        | none => rfl
        | some q => simp at h1
      · cases h1
    subst hs
    refine ⟨b, o, rfl, rfl, fun j hj => ?_⟩
    obtain rfl : j = 0 := by omega
    rw [add_eq] at h0
    simpa [hi] using h0
theorem powerRuns_walk (W : World) (a0 : Int) (w0 : (Lit.int .i64 a0).wf = true) (a1 : Int) (w1 : (Lit.int .u8 a1).wf = true) (a2 : Int) (w2 : (Lit.int .u8 a2).wf = true) :
    Calls Try.prog 3 #[.int .i64 a0, .int .u8 a1, .int .u8 a2] W fun e w' => e = .returned (.bool true) ∧ RowKit.Below W.heap.size W w' := by
  have b0 := bounds_i64 w0
  have b1 := bounds_u8 w1
  have b2 := bounds_u8 w2
  obtain ⟨n, rfl⟩ : ∃ n : Nat, a1 = n := ⟨a1.toNat, by omega⟩
  obtain ⟨m, rfl⟩ : ∃ n : Nat, a2 = n := ⟨a2.toNat, by omega⟩
  exact law_of (powerRuns_ok W [old W] a0 (by omega) n m (by omega) (by omega))

theorem powerNests_walk (W : World) (a0 : Int) (w0 : (Lit.int .u8 a0).wf = true) (a1 : Int) (w1 : (Lit.int .u8 a1).wf = true) (a2 : Int) (w2 : (Lit.int .u8 a2).wf = true) :
    Calls Try.prog 4 #[.int .u8 a0, .int .u8 a1, .int .u8 a2] W fun e w' => e = .returned (.bool true) ∧ RowKit.Below W.heap.size W w' := by
  have b0 := bounds_u8 w0
  have b1 := bounds_u8 w1
  have b2 := bounds_u8 w2
  obtain ⟨k, rfl⟩ : ∃ n : Nat, a0 = n := ⟨a0.toNat, by omega⟩
  obtain ⟨n, rfl⟩ : ∃ n : Nat, a1 = n := ⟨a1.toNat, by omega⟩
  obtain ⟨m, rfl⟩ : ∃ n : Nat, a2 = n := ⟨a2.toNat, by omega⟩
  exact law_of (powerNests_ok W [old W] k n m (by omega) (by omega) (by omega))

theorem powerMore_walk (W : World) (a0 : Int) (w0 : (Lit.int .u8 a0).wf = true) (a1 : Int) (w1 : (Lit.int .u8 a1).wf = true) (a2 : Int) (w2 : (Lit.int .u8 a2).wf = true) :
    Calls Try.prog 6 #[.int .u8 a0, .int .u8 a1, .int .u8 a2] W fun e w' => e = .returned (.bool true) ∧ RowKit.Below W.heap.size W w' := by
  have b0 := bounds_u8 w0
  have b1 := bounds_u8 w1
  have b2 := bounds_u8 w2
  obtain ⟨k, rfl⟩ : ∃ n : Nat, a0 = n := ⟨a0.toNat, by omega⟩
  obtain ⟨n, rfl⟩ : ∃ n : Nat, a1 = n := ⟨a1.toNat, by omega⟩
  obtain ⟨m, rfl⟩ : ∃ n : Nat, a2 = n := ⟨a2.toNat, by omega⟩
  exact law_of (powerMore_ok W [old W] k n m (by omega) (by omega) (by omega))

theorem powerParts_walk (W : World) (a0 : Int) (w0 : (Lit.int .u8 a0).wf = true) (a1 : Int) (w1 : (Lit.int .u8 a1).wf = true) (a2 : Int) (w2 : (Lit.int .u8 a2).wf = true) :
    Calls Try.prog 7 #[.int .u8 a0, .int .u8 a1, .int .u8 a2] W fun e w' => e = .returned (.bool true) ∧ RowKit.Below W.heap.size W w' := by
  have b0 := bounds_u8 w0
  have b1 := bounds_u8 w1
  have b2 := bounds_u8 w2
  obtain ⟨k, rfl⟩ : ∃ n : Nat, a0 = n := ⟨a0.toNat, by omega⟩
  obtain ⟨n, rfl⟩ : ∃ n : Nat, a1 = n := ⟨a1.toNat, by omega⟩
  obtain ⟨m, rfl⟩ : ∃ n : Nat, a2 = n := ⟨a2.toNat, by omega⟩
  exact law_of (powerParts_ok W [old W] k n m (by omega) (by omega) (by omega))

theorem powerApart_walk (W : World) (a0 : Int) (w0 : (Lit.int .u8 a0).wf = true) (a1 : Int) (w1 : (Lit.int .u8 a1).wf = true) {l : Option Addr} {len cap : Nat} {zs : List Bool} (w2 : len ≤ 9223372036854775807 ∧ ArgRow W l len 1 (fun i => [.bool (zs.getD i false)])) :
    Calls Try.prog 5 #[.int .u8 a0, .int .u8 a1, .slice l len cap] W fun e w' => e = .returned (.bool true) ∧ RowKit.Below W.heap.size W w' := by
  have b0 := bounds_u8 w0
  have b1 := bounds_u8 w1
  exact law_of (powerApart_ok W [old W] a0 a1 (by omega) (by omega) l len cap zs w2.1 w2.2)

namespace powerRuns
open Go.ChangeShapes Go.WideShapes Go.ChangeAt Go.RowKit
set_option maxRecDepth 100000 in
theorem lifted (os : Os) (started : os.Started) (H : Type) (enc : TypeId × Value → H) :
    ReturnsInHanded {} Try.checked os 3 .any (Rows.powerRunsSpec.pre6 enc Try.prog Try.f3 Rows.powerRunsRow.domain false) (Rows.powerRunsSpec.post enc Try.prog Try.f3 false true false false) := by
  refine returnsInHanded_of_change (C := Try.checked) Try.ownKnobs started (by kernel_rfl) Try.func3
    (ChangeSpec.witness6 (enc := enc) (C := Try.checked) false ⟨#[], #[.int .i64 0, .int .u8 0, .int .u8 0], []⟩ 8 (by kernel_rfl) (by kernel_rfl) (by kernel_rfl) (by kernel_rfl)) ?_
  intro W base args ds gs before hval0 hW hcnd _
  have hval : ∀ (j : Nat) t v, Try.f3.params[j]? = some t → args[j]? = some v → Value.okWide Try.prog W .any base t v := hval0
  have hW' := hW
  obtain ⟨p, q, hA0, hV, rfl, hfz, hnd⟩ := hW
  have hA : DataW.TrodAll enc Try.prog W 0 (fun _ => true) true Try.f3.params.toList args.toList ds p := hA0
  rw [Try.params3] at hA hval
  obtain ⟨v0, vs0, d0, ds0, p0, q0, hargs, rfl, rfl, h0, r0⟩ := trodAll_cons hA
  obtain ⟨v1, vs1, d1, ds1, p1, q1, rfl, rfl, rfl, h1, r1⟩ := trodAll_cons r0
  obtain ⟨v2, vs2, d2, ds2, p2, q2, rfl, rfl, rfl, h2, r2⟩ := trodAll_cons r1
  obtain ⟨rfl, rfl, rfl⟩ := trodAll_nil r2
  obtain rfl : args = #[v0, v1, v2] := by cases args; simp_all
  obtain ⟨rfl, rfl⟩ := trodVars_none hV
  have k0 := h0
  have lt0 : ∀ x ∈ p0, x.block < W.heap.size := by obtain ⟨m, hm⟩ := k0; exact DataW.trod_lt m _ _ _ hm
  obtain ⟨a0, rfl, w0⟩ : ∃ a, v0 = .int .i64 a ∧ (Lit.int .i64 a).wf = true := by
    obtain ⟨a, e, _, _, wa⟩ := open_int Try.underlying3 (hval 0 3 v0 rfl rfl) h0
    exact ⟨a, e, wa⟩
  have k1 := h1
  have lt1 : ∀ x ∈ p1, x.block < W.heap.size := by obtain ⟨m, hm⟩ := k1; exact DataW.trod_lt m _ _ _ hm
  obtain ⟨a1, rfl, w1⟩ : ∃ a, v1 = .int .u8 a ∧ (Lit.int .u8 a).wf = true := by
    obtain ⟨a, e, _, _, wa⟩ := open_int Try.underlying5 (hval 1 5 v1 rfl rfl) h1
    exact ⟨a, e, wa⟩
  have k2 := h2
  have lt2 : ∀ x ∈ p2, x.block < W.heap.size := by obtain ⟨m, hm⟩ := k2; exact DataW.trod_lt m _ _ _ hm
  obtain ⟨a2, rfl, w2⟩ : ∃ a, v2 = .int .u8 a ∧ (Lit.int .u8 a).wf = true := by
    obtain ⟨a, e, _, _, wa⟩ := open_int Try.underlying5 (hval 2 5 v2 rfl rfl) h2
    exact ⟨a, e, wa⟩
  clear hA0 hval0
  refine (powerRuns_walk W a0 w0 a1 w1 a2 w2).mono fun e W' ⟨he, bel⟩ => ?_
  subst he
  exact ⟨_, rfl, _, _, _, [], _, [], hW', trodAll_mk1 (shut_bool Try.underlying4 _), (trodAll_cons_mk (Below.trod Try.laidOut (by kernel_rfl) (of_decide_eq_true (by kernel_rfl)) k0 bel lt0) (trodAll_cons_mk (Below.trod Try.laidOut (by kernel_rfl) (of_decide_eq_true (by kernel_rfl)) k1 bel lt1) (trodAll_cons_mk (Below.trod Try.laidOut (by kernel_rfl) (of_decide_eq_true (by kernel_rfl)) k2 bel lt2) trodAll_mk0))), rfl, bel.frame _, fun h => by cases h⟩
theorem over : Rows.powerRunsRow.holds Try.pinned (OpenSpec.ofChange Rows.powerRunsSpec) :=
  OpenClaim.holds_of_wide 3 Try.f3 rfl rfl rfl rfl rfl rfl rfl ⟨rfl, rfl, rfl, rfl, rfl⟩ rfl rfl rfl rfl rfl (by kernel_rfl) Try.func3 (by kernel_rfl)
    (of_decide_eq_true (by kernel_rfl)) (by unfold Func.isWrapper; first | (rw [if_pos (by decide +kernel)]; kernel_rfl) | (rw [if_neg (by decide +kernel)]; exact ⟨rfl, rfl⟩))
    (fun os started H enc _ => lifted os started H enc)
/-- The statement. -/
theorem proved : Rows.PowerRunsSaid := over
end powerRuns

namespace powerNests
open Go.ChangeShapes Go.WideShapes Go.ChangeAt Go.RowKit
set_option maxRecDepth 100000 in
theorem lifted (os : Os) (started : os.Started) (H : Type) (enc : TypeId × Value → H) :
    ReturnsInHanded {} Try.checked os 4 .any (Rows.powerNestsSpec.pre6 enc Try.prog Try.f4 Rows.powerNestsRow.domain false) (Rows.powerNestsSpec.post enc Try.prog Try.f4 false true false false) := by
  refine returnsInHanded_of_change (C := Try.checked) Try.ownKnobs started (by kernel_rfl) Try.func4
    (ChangeSpec.witness6 (enc := enc) (C := Try.checked) false ⟨#[], #[.int .u8 0, .int .u8 0, .int .u8 0], []⟩ 8 (by kernel_rfl) (by kernel_rfl) (by kernel_rfl) (by kernel_rfl)) ?_
  intro W base args ds gs before hval0 hW hcnd _
  have hval : ∀ (j : Nat) t v, Try.f4.params[j]? = some t → args[j]? = some v → Value.okWide Try.prog W .any base t v := hval0
  have hW' := hW
  obtain ⟨p, q, hA0, hV, rfl, hfz, hnd⟩ := hW
  have hA : DataW.TrodAll enc Try.prog W 0 (fun _ => true) true Try.f4.params.toList args.toList ds p := hA0
  rw [Try.params4] at hA hval
  obtain ⟨v0, vs0, d0, ds0, p0, q0, hargs, rfl, rfl, h0, r0⟩ := trodAll_cons hA
  obtain ⟨v1, vs1, d1, ds1, p1, q1, rfl, rfl, rfl, h1, r1⟩ := trodAll_cons r0
  obtain ⟨v2, vs2, d2, ds2, p2, q2, rfl, rfl, rfl, h2, r2⟩ := trodAll_cons r1
  obtain ⟨rfl, rfl, rfl⟩ := trodAll_nil r2
  obtain rfl : args = #[v0, v1, v2] := by cases args; simp_all
  obtain ⟨rfl, rfl⟩ := trodVars_none hV
  have k0 := h0
  have lt0 : ∀ x ∈ p0, x.block < W.heap.size := by obtain ⟨m, hm⟩ := k0; exact DataW.trod_lt m _ _ _ hm
  obtain ⟨a0, rfl, w0⟩ : ∃ a, v0 = .int .u8 a ∧ (Lit.int .u8 a).wf = true := by
    obtain ⟨a, e, _, _, wa⟩ := open_int Try.underlying5 (hval 0 5 v0 rfl rfl) h0
    exact ⟨a, e, wa⟩
  have k1 := h1
  have lt1 : ∀ x ∈ p1, x.block < W.heap.size := by obtain ⟨m, hm⟩ := k1; exact DataW.trod_lt m _ _ _ hm
  obtain ⟨a1, rfl, w1⟩ : ∃ a, v1 = .int .u8 a ∧ (Lit.int .u8 a).wf = true := by
    obtain ⟨a, e, _, _, wa⟩ := open_int Try.underlying5 (hval 1 5 v1 rfl rfl) h1
    exact ⟨a, e, wa⟩
  have k2 := h2
  have lt2 : ∀ x ∈ p2, x.block < W.heap.size := by obtain ⟨m, hm⟩ := k2; exact DataW.trod_lt m _ _ _ hm
  obtain ⟨a2, rfl, w2⟩ : ∃ a, v2 = .int .u8 a ∧ (Lit.int .u8 a).wf = true := by
    obtain ⟨a, e, _, _, wa⟩ := open_int Try.underlying5 (hval 2 5 v2 rfl rfl) h2
    exact ⟨a, e, wa⟩
  clear hA0 hval0
  refine (powerNests_walk W a0 w0 a1 w1 a2 w2).mono fun e W' ⟨he, bel⟩ => ?_
  subst he
  exact ⟨_, rfl, _, _, _, [], _, [], hW', trodAll_mk1 (shut_bool Try.underlying4 _), (trodAll_cons_mk (Below.trod Try.laidOut (by kernel_rfl) (of_decide_eq_true (by kernel_rfl)) k0 bel lt0) (trodAll_cons_mk (Below.trod Try.laidOut (by kernel_rfl) (of_decide_eq_true (by kernel_rfl)) k1 bel lt1) (trodAll_cons_mk (Below.trod Try.laidOut (by kernel_rfl) (of_decide_eq_true (by kernel_rfl)) k2 bel lt2) trodAll_mk0))), rfl, bel.frame _, fun h => by cases h⟩
theorem over : Rows.powerNestsRow.holds Try.pinned (OpenSpec.ofChange Rows.powerNestsSpec) :=
  OpenClaim.holds_of_wide 4 Try.f4 rfl rfl rfl rfl rfl rfl rfl ⟨rfl, rfl, rfl, rfl, rfl⟩ rfl rfl rfl rfl rfl (by kernel_rfl) Try.func4 (by kernel_rfl)
    (of_decide_eq_true (by kernel_rfl)) (by unfold Func.isWrapper; first | (rw [if_pos (by decide +kernel)]; kernel_rfl) | (rw [if_neg (by decide +kernel)]; exact ⟨rfl, rfl⟩))
    (fun os started H enc _ => lifted os started H enc)
/-- The statement. -/
theorem proved : Rows.PowerNestsSaid := over
end powerNests

namespace powerMore
open Go.ChangeShapes Go.WideShapes Go.ChangeAt Go.RowKit
set_option maxRecDepth 100000 in
theorem lifted (os : Os) (started : os.Started) (H : Type) (enc : TypeId × Value → H) :
    ReturnsInHanded {} Try.checked os 6 .any (Rows.powerMoreSpec.pre6 enc Try.prog Try.f6 Rows.powerMoreRow.domain false) (Rows.powerMoreSpec.post enc Try.prog Try.f6 false true false false) := by
  refine returnsInHanded_of_change (C := Try.checked) Try.ownKnobs started (by kernel_rfl) Try.func6
    (ChangeSpec.witness6 (enc := enc) (C := Try.checked) false ⟨#[], #[.int .u8 0, .int .u8 0, .int .u8 0], []⟩ 8 (by kernel_rfl) (by kernel_rfl) (by kernel_rfl) (by kernel_rfl)) ?_
  intro W base args ds gs before hval0 hW hcnd _
  have hval : ∀ (j : Nat) t v, Try.f6.params[j]? = some t → args[j]? = some v → Value.okWide Try.prog W .any base t v := hval0
  have hW' := hW
  obtain ⟨p, q, hA0, hV, rfl, hfz, hnd⟩ := hW
  have hA : DataW.TrodAll enc Try.prog W 0 (fun _ => true) true Try.f6.params.toList args.toList ds p := hA0
  rw [Try.params6] at hA hval
  obtain ⟨v0, vs0, d0, ds0, p0, q0, hargs, rfl, rfl, h0, r0⟩ := trodAll_cons hA
  obtain ⟨v1, vs1, d1, ds1, p1, q1, rfl, rfl, rfl, h1, r1⟩ := trodAll_cons r0
  obtain ⟨v2, vs2, d2, ds2, p2, q2, rfl, rfl, rfl, h2, r2⟩ := trodAll_cons r1
  obtain ⟨rfl, rfl, rfl⟩ := trodAll_nil r2
  obtain rfl : args = #[v0, v1, v2] := by cases args; simp_all
  obtain ⟨rfl, rfl⟩ := trodVars_none hV
  have k0 := h0
  have lt0 : ∀ x ∈ p0, x.block < W.heap.size := by obtain ⟨m, hm⟩ := k0; exact DataW.trod_lt m _ _ _ hm
  obtain ⟨a0, rfl, w0⟩ : ∃ a, v0 = .int .u8 a ∧ (Lit.int .u8 a).wf = true := by
    obtain ⟨a, e, _, _, wa⟩ := open_int Try.underlying5 (hval 0 5 v0 rfl rfl) h0
    exact ⟨a, e, wa⟩
  have k1 := h1
  have lt1 : ∀ x ∈ p1, x.block < W.heap.size := by obtain ⟨m, hm⟩ := k1; exact DataW.trod_lt m _ _ _ hm
  obtain ⟨a1, rfl, w1⟩ : ∃ a, v1 = .int .u8 a ∧ (Lit.int .u8 a).wf = true := by
    obtain ⟨a, e, _, _, wa⟩ := open_int Try.underlying5 (hval 1 5 v1 rfl rfl) h1
    exact ⟨a, e, wa⟩
  have k2 := h2
  have lt2 : ∀ x ∈ p2, x.block < W.heap.size := by obtain ⟨m, hm⟩ := k2; exact DataW.trod_lt m _ _ _ hm
  obtain ⟨a2, rfl, w2⟩ : ∃ a, v2 = .int .u8 a ∧ (Lit.int .u8 a).wf = true := by
    obtain ⟨a, e, _, _, wa⟩ := open_int Try.underlying5 (hval 2 5 v2 rfl rfl) h2
    exact ⟨a, e, wa⟩
  clear hA0 hval0
  refine (powerMore_walk W a0 w0 a1 w1 a2 w2).mono fun e W' ⟨he, bel⟩ => ?_
  subst he
  exact ⟨_, rfl, _, _, _, [], _, [], hW', trodAll_mk1 (shut_bool Try.underlying4 _), (trodAll_cons_mk (Below.trod Try.laidOut (by kernel_rfl) (of_decide_eq_true (by kernel_rfl)) k0 bel lt0) (trodAll_cons_mk (Below.trod Try.laidOut (by kernel_rfl) (of_decide_eq_true (by kernel_rfl)) k1 bel lt1) (trodAll_cons_mk (Below.trod Try.laidOut (by kernel_rfl) (of_decide_eq_true (by kernel_rfl)) k2 bel lt2) trodAll_mk0))), rfl, bel.frame _, fun h => by cases h⟩
theorem over : Rows.powerMoreRow.holds Try.pinned (OpenSpec.ofChange Rows.powerMoreSpec) :=
  OpenClaim.holds_of_wide 6 Try.f6 rfl rfl rfl rfl rfl rfl rfl ⟨rfl, rfl, rfl, rfl, rfl⟩ rfl rfl rfl rfl rfl (by kernel_rfl) Try.func6 (by kernel_rfl)
    (of_decide_eq_true (by kernel_rfl)) (by unfold Func.isWrapper; first | (rw [if_pos (by decide +kernel)]; kernel_rfl) | (rw [if_neg (by decide +kernel)]; exact ⟨rfl, rfl⟩))
    (fun os started H enc _ => lifted os started H enc)
/-- The statement. -/
theorem proved : Rows.PowerMoreSaid := over
end powerMore

namespace powerParts
open Go.ChangeShapes Go.WideShapes Go.ChangeAt Go.RowKit
set_option maxRecDepth 100000 in
theorem lifted (os : Os) (started : os.Started) (H : Type) (enc : TypeId × Value → H) :
    ReturnsInHanded {} Try.checked os 7 .any (Rows.powerPartsSpec.pre6 enc Try.prog Try.f7 Rows.powerPartsRow.domain false) (Rows.powerPartsSpec.post enc Try.prog Try.f7 false true false false) := by
  refine returnsInHanded_of_change (C := Try.checked) Try.ownKnobs started (by kernel_rfl) Try.func7
    (ChangeSpec.witness6 (enc := enc) (C := Try.checked) false ⟨#[], #[.int .u8 0, .int .u8 0, .int .u8 0], []⟩ 8 (by kernel_rfl) (by kernel_rfl) (by kernel_rfl) (by kernel_rfl)) ?_
  intro W base args ds gs before hval0 hW hcnd _
  have hval : ∀ (j : Nat) t v, Try.f7.params[j]? = some t → args[j]? = some v → Value.okWide Try.prog W .any base t v := hval0
  have hW' := hW
  obtain ⟨p, q, hA0, hV, rfl, hfz, hnd⟩ := hW
  have hA : DataW.TrodAll enc Try.prog W 0 (fun _ => true) true Try.f7.params.toList args.toList ds p := hA0
  rw [Try.params7] at hA hval
  obtain ⟨v0, vs0, d0, ds0, p0, q0, hargs, rfl, rfl, h0, r0⟩ := trodAll_cons hA
  obtain ⟨v1, vs1, d1, ds1, p1, q1, rfl, rfl, rfl, h1, r1⟩ := trodAll_cons r0
  obtain ⟨v2, vs2, d2, ds2, p2, q2, rfl, rfl, rfl, h2, r2⟩ := trodAll_cons r1
  obtain ⟨rfl, rfl, rfl⟩ := trodAll_nil r2
  obtain rfl : args = #[v0, v1, v2] := by cases args; simp_all
  obtain ⟨rfl, rfl⟩ := trodVars_none hV
  have k0 := h0
  have lt0 : ∀ x ∈ p0, x.block < W.heap.size := by obtain ⟨m, hm⟩ := k0; exact DataW.trod_lt m _ _ _ hm
  obtain ⟨a0, rfl, w0⟩ : ∃ a, v0 = .int .u8 a ∧ (Lit.int .u8 a).wf = true := by
    obtain ⟨a, e, _, _, wa⟩ := open_int Try.underlying5 (hval 0 5 v0 rfl rfl) h0
    exact ⟨a, e, wa⟩
  have k1 := h1
  have lt1 : ∀ x ∈ p1, x.block < W.heap.size := by obtain ⟨m, hm⟩ := k1; exact DataW.trod_lt m _ _ _ hm
  obtain ⟨a1, rfl, w1⟩ : ∃ a, v1 = .int .u8 a ∧ (Lit.int .u8 a).wf = true := by
    obtain ⟨a, e, _, _, wa⟩ := open_int Try.underlying5 (hval 1 5 v1 rfl rfl) h1
    exact ⟨a, e, wa⟩
  have k2 := h2
  have lt2 : ∀ x ∈ p2, x.block < W.heap.size := by obtain ⟨m, hm⟩ := k2; exact DataW.trod_lt m _ _ _ hm
  obtain ⟨a2, rfl, w2⟩ : ∃ a, v2 = .int .u8 a ∧ (Lit.int .u8 a).wf = true := by
    obtain ⟨a, e, _, _, wa⟩ := open_int Try.underlying5 (hval 2 5 v2 rfl rfl) h2
    exact ⟨a, e, wa⟩
  clear hA0 hval0
  refine (powerParts_walk W a0 w0 a1 w1 a2 w2).mono fun e W' ⟨he, bel⟩ => ?_
  subst he
  exact ⟨_, rfl, _, _, _, [], _, [], hW', trodAll_mk1 (shut_bool Try.underlying4 _), (trodAll_cons_mk (Below.trod Try.laidOut (by kernel_rfl) (of_decide_eq_true (by kernel_rfl)) k0 bel lt0) (trodAll_cons_mk (Below.trod Try.laidOut (by kernel_rfl) (of_decide_eq_true (by kernel_rfl)) k1 bel lt1) (trodAll_cons_mk (Below.trod Try.laidOut (by kernel_rfl) (of_decide_eq_true (by kernel_rfl)) k2 bel lt2) trodAll_mk0))), rfl, bel.frame _, fun h => by cases h⟩
theorem over : Rows.powerPartsRow.holds Try.pinned (OpenSpec.ofChange Rows.powerPartsSpec) :=
  OpenClaim.holds_of_wide 7 Try.f7 rfl rfl rfl rfl rfl rfl rfl ⟨rfl, rfl, rfl, rfl, rfl⟩ rfl rfl rfl rfl rfl (by kernel_rfl) Try.func7 (by kernel_rfl)
    (of_decide_eq_true (by kernel_rfl)) (by unfold Func.isWrapper; first | (rw [if_pos (by decide +kernel)]; kernel_rfl) | (rw [if_neg (by decide +kernel)]; exact ⟨rfl, rfl⟩))
    (fun os started H enc _ => lifted os started H enc)
/-- The statement. -/
theorem proved : Rows.PowerPartsSaid := over
end powerParts

namespace powerApart
open Go.ChangeShapes Go.WideShapes Go.ChangeAt Go.RowKit
set_option maxRecDepth 100000 in
theorem lifted (os : Os) (started : os.Started) (H : Type) (enc : TypeId × Value → H) :
    ReturnsInHanded {} Try.checked os 5 .any (Rows.powerApartSpec.pre6 enc Try.prog Try.f5 Rows.powerApartRow.domain false) (Rows.powerApartSpec.post enc Try.prog Try.f5 false true false false) := by
  refine returnsInHanded_of_change (C := Try.checked) Try.ownKnobs started (by kernel_rfl) Try.func5
    (ChangeSpec.witness6 (enc := enc) (C := Try.checked) false ⟨#[], #[.int .u8 0, .int .u8 0, .slice none 0 0], []⟩ 8 (by kernel_rfl) (by kernel_rfl) (by kernel_rfl) (by kernel_rfl)) ?_
  intro W base args ds gs before hval0 hW hcnd _
  have hval : ∀ (j : Nat) t v, Try.f5.params[j]? = some t → args[j]? = some v → Value.okWide Try.prog W .any base t v := hval0
  have hW' := hW
  obtain ⟨p, q, hA0, hV, rfl, hfz, hnd⟩ := hW
  have hA : DataW.TrodAll enc Try.prog W 0 (fun _ => true) true Try.f5.params.toList args.toList ds p := hA0
  rw [Try.params5] at hA hval
  obtain ⟨v0, vs0, d0, ds0, p0, q0, hargs, rfl, rfl, h0, r0⟩ := trodAll_cons hA
  obtain ⟨v1, vs1, d1, ds1, p1, q1, rfl, rfl, rfl, h1, r1⟩ := trodAll_cons r0
  obtain ⟨v2, vs2, d2, ds2, p2, q2, rfl, rfl, rfl, h2, r2⟩ := trodAll_cons r1
  obtain ⟨rfl, rfl, rfl⟩ := trodAll_nil r2
  obtain rfl : args = #[v0, v1, v2] := by cases args; simp_all
  obtain ⟨rfl, rfl⟩ := trodVars_none hV
  have k0 := h0
  have lt0 : ∀ x ∈ p0, x.block < W.heap.size := by obtain ⟨m, hm⟩ := k0; exact DataW.trod_lt m _ _ _ hm
  obtain ⟨a0, rfl, w0⟩ : ∃ a, v0 = .int .u8 a ∧ (Lit.int .u8 a).wf = true := by
    obtain ⟨a, e, _, _, wa⟩ := open_int Try.underlying5 (hval 0 5 v0 rfl rfl) h0
    exact ⟨a, e, wa⟩
  have k1 := h1
  have lt1 : ∀ x ∈ p1, x.block < W.heap.size := by obtain ⟨m, hm⟩ := k1; exact DataW.trod_lt m _ _ _ hm
  obtain ⟨a1, rfl, w1⟩ : ∃ a, v1 = .int .u8 a ∧ (Lit.int .u8 a).wf = true := by
    obtain ⟨a, e, _, _, wa⟩ := open_int Try.underlying5 (hval 1 5 v1 rfl rfl) h1
    exact ⟨a, e, wa⟩
  obtain ⟨a2, len2, cap2, rfl⟩ := okWide_slice Try.underlying29 (hval 2 29 v2 rfl rfl)
  have k2 := h2
  have lt2 : ∀ x ∈ p2, x.block < W.heap.size := by obtain ⟨m, hm⟩ := k2; exact DataW.trod_lt m _ _ _ hm
  obtain ⟨z2, w2⟩ := arg_sl_bool h2
  clear hA0 hval0
  refine (powerApart_walk W a0 w0 a1 w1 w2).mono fun e W' ⟨he, bel⟩ => ?_
  subst he
  exact ⟨_, rfl, _, _, _, [], _, [], hW', trodAll_mk1 (shut_bool Try.underlying4 _), (trodAll_cons_mk (Below.trod Try.laidOut (by kernel_rfl) (of_decide_eq_true (by kernel_rfl)) k0 bel lt0) (trodAll_cons_mk (Below.trod Try.laidOut (by kernel_rfl) (of_decide_eq_true (by kernel_rfl)) k1 bel lt1) (trodAll_cons_mk (Below.trod Try.laidOut (by kernel_rfl) (of_decide_eq_true (by kernel_rfl)) k2 bel lt2) trodAll_mk0))), rfl, bel.frame _, fun h => by cases h⟩
theorem over : Rows.powerApartRow.holds Try.pinned (OpenSpec.ofChange Rows.powerApartSpec) :=
  OpenClaim.holds_of_wide 5 Try.f5 rfl rfl rfl rfl rfl rfl rfl ⟨rfl, rfl, rfl, rfl, rfl⟩ rfl rfl rfl rfl rfl (by kernel_rfl) Try.func5 (by kernel_rfl)
    (of_decide_eq_true (by kernel_rfl)) (by unfold Func.isWrapper; first | (rw [if_pos (by decide +kernel)]; kernel_rfl) | (rw [if_neg (by decide +kernel)]; exact ⟨rfl, rfl⟩))
    (fun os started H enc _ => lifted os started H enc)
/-- The statement. -/
theorem proved : Rows.PowerApartSaid := over
end powerApart

end Go.Proofs.Ytkdldnnnijgcjaa
