/- The law HandleRises. Conditions: none. -/
import Derived.Test.YtbfheafpecgphaaGreatLwh
set_option linter.unusedSimpArgs false
set_option linter.unusedVariables false
set_option linter.unnecessarySimpa false
set_option linter.unusedSectionVars false
namespace Go.Proofs.YtbfheafpecgphaaGreat
set_option linter.unusedSimpArgs false
set_option linter.unusedVariables false
open Go
/-- Numbers one behind the other: places by them; the other map is like that of the numbers. -/
structure RiI (T : TabS) (M : List (Int × Int)) (m : Nat) : Prop where
  w : TabW T
  last : T.last = m
  keys : T.at_.map Prod.fst = (List.range m).map fun (i : Nat) => (i : Int) + 1
  same : ∀ p, mget T.no p = mget M p
theorem ri_old {T : TabS} {M : List (Int × Int)} {m : Nat} (h : RiI T M m) {p k : Int} (hp : p ≠ 0) (hk : mget M p = some k) : T.take p = (k, T) := by
  unfold TabS.take
  rw [if_neg hp, h.same, hk]; rfl
theorem ri_new {T : TabS} {M : List (Int × Int)} {m : Nat} (h : RiI T M m) {p : Int} (hp : p ≠ 0) (hk : mget M p = none) : (T.take p).1 = m + 1 ∧ RiI (T.take p).2 (mset M p (m + 1)) (m + 1) := by
  obtain ⟨h1, h2, h3, h4, h5, h6⟩ := h.w.take hp
  rcases h6 with ⟨e, _⟩ | ⟨e1, e2, e3⟩
  · rw [h.same, hk] at e; cases e
  · refine ⟨by rw [e2, h.last], h1, by rw [e3]; simp only; rw [h.last]; omega, ?_, fun q => ?_⟩
    · rw [e3]; simp only [List.map_append, h.keys, List.range_succ, List.map_cons, List.map_nil, h.last]
    · rw [e3, mset_none hk]
      rw [← mset_none e1, ← mset_none hk, mget_mset, mget_mset, h.same, h.last]
theorem srt_range (m : Nat) : ∀ a : Int, srt ((List.range m).map fun (i : Nat) => (i : Int) + a) = true := by
  intro a
  refine srt_of fun i hi => ?_
  simp only [List.length_map, List.length_range] at hi
  simp [List.getD_eq_getElem?_getD, List.getElem?_map, List.getElem?_range, show i < m by omega, hi]
  omega
theorem sortI_srt {l : List Int} (h : srt l = true) : sortI l = l := by
  have hp : l.Pairwise (fun a b => decide (a ≤ b) = true) := by
    have key : ∀ l : List Int, srt l = true → l.Pairwise (· ≤ ·) := by
      intro l
      induction l with
      | nil => intro _; exact .nil
      | cons a t ih =>
        intro h
        cases t with
        | nil => simp
        | cons b t =>
          unfold srt at h
          rw [Bool.and_eq_true] at h
          have h2 := ih h.2
          have h1 : a ≤ b := by simpa using h.1
          refine .cons (fun x hx => ?_) h2
          rcases List.mem_cons.1 hx with rfl | hx
          · exact h1
          · exact Int.le_trans h1 ((List.pairwise_cons.1 h2).1 x hx)
    exact (key l h).imp fun h => by simpa using h
  unfold sortI
  exact List.mergeSort_of_pairwise hp
theorem ri_sorted {T : TabS} {M : List (Int × Int)} {m : Nat} (h : RiI T M m) : sortI (T.at_.map Prod.fst) = (List.range m).map fun (i : Nat) => (i : Int) + 1 := by
  rw [h.keys]; exact sortI_srt (srt_range m 1)
theorem ri_no {T : TabS} {M : List (Int × Int)} {m : Nat} (h : RiI T M m) {n : Int} (hn : n < 1 ∨ m < n) : mget T.at_ n = none := by
  cases hm : mget T.at_ n with
  | none => rfl
  | some p => have := h.w.fwd n p hm; have := h.last; omega

theorem handleRises_ok (B : World) (Fr : List HP) (q : Option Addr) (cap : Nat) (xs : List Int) (hxb : ∀ x ∈ xs, 0 ≤ x ∧ x ≤ 255) (hx : xs.length ≤ 9223372036854775807) (hq : ∀ i, i < xs.length → ∃ b off, q = some ⟨b, off, none⟩) (hsl : SlR B Fr (.slice q xs.length cap) (xs.map u8)) :
    ∀ w, Holds B Fr w → Calls Tryz.prog 8 [.slice q xs.length cap].toArray w (PureR B Fr (.bool true)) := by
  refine fn_enter Tryz.func8 rfl Tryz.ntmps8 rfl ?_; refine g_seq ?_; refine g_region ?_; refine kPa rfl rfl ?_; refine p_nil ?_; refine g_seq ?_; refine g_seq ?_; refine g_region ?_; refine p_callq rfl (en_f Tryz.call29 rfl) (awake16_ok _ _) .free rfl rfl ?_; refine kPv (ev_not rfl) rfl ?_; refine p_nil ?_; refine g_iff rfl (rfl) ?_; refine g_skip ?_; refine g_seq ?_; refine g_seq ?_; refine g_region ?_; refine kPm rfl rfl ?_; refine kPv (ev_len rfl Tryz.runUnderlying66 ⟨_, rfl⟩ rfl) rfl ?_
  refine kPv (ev_cmp rfl rfl rfl) rfl ?_; refine p_nil ?_
  refine g_if rfl (fun h16 => ?_) (fun h16 => ?_)
  · try simp only [decide_eq_true_eq, decide_eq_false_iff_not, Bool.not_eq_true', Bool.not_eq_false', Bool.or_eq_true, Bool.and_eq_true, Bool.and_eq_false_iff, Bool.or_eq_false_iff, beq_iff_eq, bne_iff_ne, beq_eq_false_iff_ne, bne_eq_false_iff_eq, ge_iff_le, gt_iff_lt, ne_eq] at h16
    refine g_seq ?_; refine g_region ?_; refine kPa rfl rfl ?_; refine p_nil ?_; refine g_ret ?_
    exact ret_tmp Tryz.results8 rfl (fun w hh => ⟨rfl, hh⟩)
  · have hx60 : xs.length ≤ 60 := by simp at h16; omega
    refine g_skip ?_; refine g_seq ?_; refine g_region ?_
    refine p_call rfl (en_f Tryz.call30 rfl) (hnew_ok _ _) .free rfl rfl ?_ ?_
    rotate_left
    · rintro _ _ ⟨⟩
    rintro _ _ ⟨tb, rfl, rfl⟩
    refine kPa rfl rfl ?_; refine p_nil ?_; refine g_seq ?_; refine g_region ?_; refine p_chg rfl (ch_makeMap .i64 i64) .free rfl rfl ?_
    rintro _ _ ⟨mr, rfl, rfl⟩
    refine kPa rfl rfl ?_; refine p_nil ?_; refine go_sub (σ' := [(4, _), (3, _), (2, _), (0, _)]) ⟨rfl, rfl, rfl, rfl, trivial⟩ ?_; refine g_seq ?_; refine g_region ?_; refine kPa rfl rfl ?_; refine p_nil ?_; refine g_seq ?_; refine g_seq ?_; refine g_region ?_; refine kPm rfl rfl ?_; refine kPv (ev_len rfl Tryz.runUnderlying66 ⟨_, rfl⟩ rfl) rfl ?_; refine kPm rfl rfl ?_; refine p_nil ?_; refine g_block ?_
    refine g_loopk (ι := Nat × TabS × List (Int × Int) × Nat) [20, 19, 4, 3, 2] (fun (k, T, M, m) => (k ≤ xs.length) ∧ (m ≤ k) ∧ (RiI T M m)) (fun (k, T, M, m) => [(21, i64 k), (5, i64 m)]) (fun (k, T, M, m) => TabA tb T :: mapA .i64 i64 mr M :: Fr) (fun (k, T, M, m) => xs.length - k) (0, ⟨[], [], 0⟩, [], 0) (⟨Nat.zero_le _, Nat.le_refl _, tab_w0, rfl, rfl, fun _ => rfl⟩) (fun a w st => st.to ⟨rfl, rfl, trivial⟩ (fun hh => (hh.pk [1]))) ?_
    rintro ⟨k, T, M, m⟩ ⟨hk0, hm, hR⟩
    try simp only at hk0 hm hR ⊢
    refine go_sub (σ' := [(21, i64 k), (5, i64 m), (20, _), (19, _), (4, _), (3, _), (2, _)]) ⟨rfl, rfl, rfl, rfl, rfl, rfl, rfl, trivial⟩ ?_; refine g_seq ?_; refine g_region ?_; refine kPv (ev_cmp rfl rfl rfl) rfl ?_; refine p_nil ?_; refine g_seq ?_
    refine g_if rfl (fun h22 => ?_) (fun h22 => ?_)
    · have hk : k < xs.length := by simp at h22; omega
      obtain ⟨bq, oq, rfl⟩ := hq k hk
      have hxk := hxb _ (List.getElem_mem hk)
      have hp0 : (1 + xs[k] : Int) ≠ 0 := by omega
      refine g_skip ?_; refine g_seq ?_; refine g_block ?_; refine g_seq ?_; refine g_region ?_; refine kPv (ev_iaS Tryz.runUnderlying66 Tryz.sizeOf5 rfl rfl (by omega) (by omega)) rfl ?_
      refine kPv (ev_loadS (v := u8 xs[k]) Tryz.isAgg5 hsl.up rfl (by rw [Int.toNat_natCast, List.getElem?_map, List.getElem?_eq_getElem hk]; rfl)) rfl ?_
      refine kPa rfl rfl ?_; refine p_nil ?_; refine g_seq ?_; refine g_region ?_; refine kPm rfl rfl ?_; refine kPm rfl rfl ?_
      first | refine p_val rfl (ev_conv Tryz.runUnderlying5 Tryz.runUnderlying3 rfl (wr64 (by omega))) .free rfl rfl ?_ | refine p_val rfl (ev_conv Tryz.runUnderlying5 Tryz.runUnderlying3 rfl rfl) .free rfl rfl ?_
      first | refine p_val rfl (ev_add rfl rfl (wr64 (by omega))) .free rfl rfl ?_ | refine p_val rfl (ev_add rfl rfl rfl) .free rfl rfl ?_
      refine p_call rfl (en_f Tryz.call31 rfl) (htake_ok B _ tb T (1 + xs[k]) (by have := hR.last; omega)) .free rfl rfl ?_ ?_
      rotate_left
      · rintro _ _ ⟨⟩
      rintro _ _ ⟨rfl, rfl⟩
      refine kPa rfl rfl ?_; refine p_nil ?_; refine go_sub (σ' := [(8, _), (7, _), (21, _), (5, _), (20, _), (19, _), (4, _), (3, _), (2, _)]) ⟨rfl, rfl, rfl, rfl, rfl, rfl, rfl, rfl, rfl, trivial⟩ ?_; refine g_seq ?_; refine g_seq ?_; refine g_region ?_; refine kPm rfl rfl ?_; refine kPm rfl rfl ?_
      first | refine p_val rfl (ev_conv Tryz.runUnderlying5 Tryz.runUnderlying3 rfl (wr64 (by omega))) .free rfl rfl ?_ | refine p_val rfl (ev_conv Tryz.runUnderlying5 Tryz.runUnderlying3 rfl rfl) .free rfl rfl ?_
      first | refine p_val rfl (ev_add rfl rfl (wr64 (by omega))) .free rfl rfl ?_ | refine p_val rfl (ev_add rfl rfl rfl) .free rfl rfl ?_
      refine kPv ((ev_lookup2 Tryz.runUnderlying69 Tryz.runUnderlying3 Tryz.zeroValue3 rfl rfl).eq (congrArg (fun v => Value.tuple #[v, .bool _]) (mval_i _))) rfl ?_; refine kPm rfl rfl ?_; refine kPv (ev_ext rfl rfl) rfl ?_; refine kPv (ev_ext rfl rfl) rfl ?_; refine kPa rfl rfl ?_; refine kPa rfl rfl ?_; refine p_nil ?_
      refine go_sub (σ' := [(10, _), (9, _), (8, _), (7, _), (21, _), (5, _), (20, _), (19, _), (4, _), (3, _), (2, _)]) ⟨rfl, rfl, rfl, rfl, rfl, rfl, rfl, rfl, rfl, rfl, rfl, trivial⟩ ?_; refine g_seq ?_; refine g_region ?_; refine kPm rfl rfl ?_; refine p_nil ?_
      refine g_if rfl (fun h38 => ?_) (fun h38 => ?_)
      · obtain ⟨kk, hkk⟩ := Option.isSome_iff_exists.1 h38
        have hto := ri_old hR hp0 hkk
        refine g_seq ?_; refine g_seq ?_; refine g_region ?_; refine kPm rfl rfl ?_; refine kPm rfl rfl ?_; refine kPv (ev_cmp rfl rfl rfl) rfl ?_; refine p_nil ?_
        refine g_if rfl (fun h41 => ?_) (fun h41 => ?_)
        · try simp only [decide_eq_true_eq, decide_eq_false_iff_not, Bool.not_eq_true', Bool.not_eq_false', Bool.or_eq_true, Bool.and_eq_true, Bool.and_eq_false_iff, Bool.or_eq_false_iff, beq_iff_eq, bne_iff_ne, beq_eq_false_iff_ne, bne_eq_false_iff_eq, ge_iff_le, gt_iff_lt, ne_eq] at h41
          exact absurd h41 (by rw [hto, hkk]; simp)
        · try simp only [decide_eq_true_eq, decide_eq_false_iff_not, Bool.not_eq_true', Bool.not_eq_false', Bool.or_eq_true, Bool.and_eq_true, Bool.and_eq_false_iff, Bool.or_eq_false_iff, beq_iff_eq, bne_iff_ne, beq_eq_false_iff_ne, bne_eq_false_iff_eq, ge_iff_le, gt_iff_lt, ne_eq] at h41
          refine g_skip ?_; refine g_exit ?_; refine g_region ?_
          first | refine p_val rfl (ev_add rfl rfl (wr64 (by omega))) .free rfl rfl ?_ | refine p_val rfl (ev_add rfl rfl rfl) .free rfl rfl ?_
          refine kPm rfl rfl ?_; refine p_nil ?_; refine go_sub (σ' := [(21, _), (5, _), (20, _), (19, _), (4, _), (3, _), (2, _)]) ⟨rfl, rfl, rfl, rfl, rfl, rfl, rfl, trivial⟩ ?_
          rw [hto]
          exact fun a w st_ => ⟨(k + 1, T, M, m), ⟨by first | omega | (simp only; omega), by first | omega | (simp only; omega), hR⟩, by simp only; omega, st_.to ⟨rfl, rfl, rfl, rfl, rfl, rfl, rfl, trivial⟩ (fun hh => hh)⟩
      · have hnone : mget M (1 + xs[k]) = none := by simpa using h38
        have hnew := ri_new hR hp0 hnone
        refine g_skip ?_; refine g_seq ?_; refine g_seq ?_; refine g_region ?_; refine kPm rfl rfl ?_; refine kPm rfl rfl ?_
        first | refine p_val rfl (ev_add rfl rfl (wr64 (by omega))) .free rfl rfl ?_ | refine p_val rfl (ev_add rfl rfl rfl) .free rfl rfl ?_
        refine kPv (ev_cmp rfl rfl rfl) rfl ?_; refine p_nil ?_
        refine g_if rfl (fun h45 => ?_) (fun h45 => ?_)
        · try simp only [decide_eq_true_eq, decide_eq_false_iff_not, Bool.not_eq_true', Bool.not_eq_false', Bool.or_eq_true, Bool.and_eq_true, Bool.and_eq_false_iff, Bool.or_eq_false_iff, beq_iff_eq, bne_iff_ne, beq_eq_false_iff_ne, bne_eq_false_iff_eq, ge_iff_le, gt_iff_lt, ne_eq] at h45
          exact absurd h45 (by rw [hnew.1]; simp)
        · try simp only [decide_eq_true_eq, decide_eq_false_iff_not, Bool.not_eq_true', Bool.not_eq_false', Bool.or_eq_true, Bool.and_eq_true, Bool.and_eq_false_iff, Bool.or_eq_false_iff, beq_iff_eq, bne_iff_ne, beq_eq_false_iff_ne, bne_eq_false_iff_eq, ge_iff_le, gt_iff_lt, ne_eq] at h45
          refine g_skip ?_; refine g_region ?_; refine kPm rfl rfl ?_; refine kPm rfl rfl ?_
          first | refine p_val rfl (ev_conv Tryz.runUnderlying5 Tryz.runUnderlying3 rfl (wr64 (by omega))) .free rfl rfl ?_ | refine p_val rfl (ev_conv Tryz.runUnderlying5 Tryz.runUnderlying3 rfl rfl) .free rfl rfl ?_
          first | refine p_val rfl (ev_add rfl rfl (wr64 (by omega))) .free rfl rfl ?_ | refine p_val rfl (ev_add rfl rfl rfl) .free rfl rfl ?_
          refine kPm rfl rfl ?_; refine kPm rfl rfl ?_; refine kPa rfl rfl ?_; refine p_chg0 rfl (ch_mapset (enc := i64) Tryz.runUnderlying69 Tryz.runUnderlying3 rfl rfl rfl rfl) .free rfl ?_
          rintro _ _ rfl
          refine p_nil ?_; refine go_sub (σ' := [(5, _), (21, _), (20, _), (19, _), (4, _), (3, _), (2, _)]) ⟨rfl, rfl, rfl, rfl, rfl, rfl, rfl, trivial⟩ ?_; refine g_region ?_
          first | refine p_val rfl (ev_add rfl rfl (wr64 (by omega))) .free rfl rfl ?_ | refine p_val rfl (ev_add rfl rfl rfl) .free rfl rfl ?_
          refine kPm rfl rfl ?_; refine p_nil ?_
          exact fun a w st_ => ⟨(k + 1, (T.take (1 + xs[k])).2, mset M (1 + xs[k]) (m + 1), m + 1), ⟨by first | omega | (simp only; omega), by first | omega | (simp only; omega), hnew.2⟩, by simp only; omega, st_.to ⟨rfl, by rw [hnew.1]; rfl, rfl, rfl, rfl, rfl, rfl, trivial⟩ (fun hh => by have h9 := hh; rw [hnew.1] at h9; exact h9)⟩
    · have hk : ¬ k < xs.length := by simp at h22; omega
      refine g_exit ?_; refine g_seq ?_; refine g_region ?_; refine kPm rfl rfl ?_
      refine p_call rfl (en_f Tryz.call56 rfl) (hnumbers_ok B _ tb T (by have := hR.w.len; have := hR.last; omega)) .free rfl rfl ?_ ?_
      rotate_left
      · rintro _ _ ⟨⟩
      rintro rv _ rfl
      rw [ri_sorted hR]
      refine go_conv (fun w hh => accv_vec hh) ?_; refine go_vecq fun qn cn hqn hqi => ?_
      subst hqn
      refine kPa rfl rfl ?_; refine p_nil ?_; refine go_sub (σ' := [(11, _), (5, _), (3, _), (2, _)]) ⟨rfl, rfl, rfl, rfl, trivial⟩ ?_; refine g_seq ?_; refine g_region ?_; refine kPm rfl rfl ?_; refine kPv (ev_len rfl Tryz.runUnderlying34 ⟨_, rfl⟩ rfl) rfl ?_; refine kPm rfl rfl ?_; refine kPv (ev_cmp rfl rfl rfl) rfl ?_; refine kPm rfl rfl ?_; refine p_val rfl (ev_move rfl) (.on rfl rfl (beq_eq (by simp))) rfl rfl ?_
      refine p_callq rfl (en_f Tryz.call57 rfl) (issorted_ok _ _ qn cn _ (by simp; omega) hqi (vec_slr 0 rfl)) (.on rfl rfl (beq_eq (by simp))) rfl rfl ?_
      refine kPv (ev_pick_t rfl (by simp) rfl) rfl ?_; refine kPm rfl rfl ?_; refine p_val rfl (ev_move rfl) (.on rfl rfl (beq_eq (srt_range m 1))) rfl rfl ?_; refine p_val rfl (ev_move rfl) (.on rfl rfl (beq_eq (srt_range m 1))) rfl rfl ?_
      first | refine p_val rfl (ev_add rfl rfl (wr64 (by omega))) (.on rfl rfl (beq_eq (srt_range m 1))) rfl rfl ?_ | refine p_val rfl (ev_add rfl rfl rfl) (.on rfl rfl (beq_eq (srt_range m 1))) rfl rfl ?_
      refine go_pk [1] ?_
      refine p_call rfl (en_f Tryz.call32 rfl) (hdrop_ok B _ tb T (m + 1)) (.on rfl rfl (beq_eq (srt_range m 1))) rfl rfl ?_ ?_
      rotate_left
      · rintro _ _ ⟨⟩
      rintro _ _ ⟨rfl, rfl⟩
      refine p_val rfl (ev_not rfl) (.on rfl rfl (beq_eq (srt_range m 1))) rfl rfl ?_; refine kPv (ev_pick_t rfl (srt_range m 1) rfl) rfl ?_; refine kPm rfl rfl ?_; refine p_val rfl (ev_move rfl) (.on rfl rfl (beq_eq (by rw [ri_no hR (.inr (by omega))]; rfl))) rfl rfl ?_
      refine p_call rfl (en_f Tryz.call32 rfl) (hdrop_ok B _ tb (T.drop (m + 1)) 0) (.on rfl rfl (beq_eq (by rw [ri_no hR (.inr (by omega))]; rfl))) rfl rfl ?_ ?_
      rotate_left
      · rintro _ _ ⟨⟩
      rintro _ _ ⟨rfl, rfl⟩
      refine p_val rfl (ev_not rfl) (.on rfl rfl (beq_eq (by rw [ri_no hR (.inr (by omega))]; rfl))) rfl rfl ?_
      refine kPv (ev_pick_t rfl (by rw [ri_no hR (.inr (by omega))]; rfl) rfl) rfl ?_
      refine kPa rfl rfl ?_; refine p_nil ?_; refine go_sub (σ' := [(2, _)]) ⟨rfl, trivial⟩ ?_; refine g_ret ?_
      exact ret_tmp Tryz.results8 rfl (fun w hh => ⟨by rw [show mget (T.drop (m + 1)).at_ 0 = none from by rw [(hR.w.drop _).2]; split <;> first | rfl | exact ri_no hR (.inl (by decide))]; rfl, (hh.dp [0, 0, 0])⟩)


theorem handleRises_walk (W : World) {l : Option Addr} {len cap : Nat} {xs : List Int} (w0 : len = xs.length ∧ len ≤ 9223372036854775807 ∧ ArgRow W l len 1 (fun i => [u8 (xs.getD i 0)]) ∧ ∀ x ∈ xs, 0 ≤ x ∧ x ≤ 255) :
    Calls Tryz.prog 8 #[.slice l len cap] W fun e w' => e = .returned (.bool true) ∧ RowKit.Below W.heap.size W w' := by
  obtain ⟨rfl, w2, w3, w4⟩ := w0
  exact law_of (handleRises_ok W [old W] l cap xs w4 w2 (some_u8 w3) (slr_u8 w3))

namespace handleRises
open Go.ChangeShapes Go.WideShapes Go.ChangeAt Go.RowKit
set_option maxRecDepth 100000 in
theorem lifted (os : Os) (started : os.Started) (H : Type) (enc : TypeId × Value → H) :
    ReturnsInHanded {} Tryz.checked os 8 .any (Rows.handleRisesSpec.pre6 enc Tryz.prog Tryz.f8 Rows.handleRisesRow.domain false) (Rows.handleRisesSpec.post enc Tryz.prog Tryz.f8 false true false false) := by
  refine returnsInHanded_of_change (C := Tryz.checked) Tryz.ownKnobs started (by kernel_rfl) Tryz.func8
    (ChangeSpec.witness6 (enc := enc) (C := Tryz.checked) false ⟨#[], #[.slice none 0 0], []⟩ 8 (by kernel_rfl) (by kernel_rfl) (by kernel_rfl) (by kernel_rfl)) ?_
  intro W base args ds gs before hval0 hW hcnd _
  have hval : ∀ (j : Nat) t v, Tryz.f8.params[j]? = some t → args[j]? = some v → Value.okWide Tryz.prog W .any base t v := hval0
  have hW' := hW
  obtain ⟨p, q, hA0, hV, rfl, hfz, hnd⟩ := hW
  have hA : DataW.TrodAll enc Tryz.prog W 0 (fun _ => true) true Tryz.f8.params.toList args.toList ds p := hA0
  rw [Tryz.params8] at hA hval
  obtain ⟨v0, vs0, d0, ds0, p0, q0, hargs, rfl, rfl, h0, r0⟩ := trodAll_cons hA
  obtain ⟨rfl, rfl, rfl⟩ := trodAll_nil r0
  obtain rfl : args = #[v0] := by cases args; simp_all
  obtain ⟨rfl, rfl⟩ := trodVars_none hV
  obtain ⟨a0, len0, cap0, rfl⟩ := okWide_slice Tryz.underlying66 (hval 0 66 v0 rfl rfl)
  have k0 := h0
  have lt0 : ∀ x ∈ p0, x.block < W.heap.size := by obtain ⟨m, hm⟩ := k0; exact DataW.trod_lt m _ _ _ hm
  obtain ⟨z0, w0⟩ := arg_sl_u8 h0
  clear hA0 hval0
  refine (handleRises_walk W w0).mono fun e W' ⟨he, bel⟩ => ?_
  subst he
  exact ⟨_, rfl, _, _, _, [], _, [], hW', trodAll_mk1 (shut_bool Tryz.underlying4 _), (trodAll_cons_mk (Below.trod Tryz.laidOut (by kernel_rfl) (of_decide_eq_true (by kernel_rfl)) k0 bel lt0) trodAll_mk0), rfl, bel.frame _, fun h => by cases h⟩
theorem over : Rows.handleRisesRow.holds Tryz.pinned (OpenSpec.ofChange Rows.handleRisesSpec) :=
  OpenClaim.holds_of_wide 8 Tryz.f8 rfl rfl rfl rfl rfl rfl rfl ⟨rfl, rfl, rfl, rfl, rfl⟩ rfl rfl rfl rfl rfl (by kernel_rfl) Tryz.func8 (by kernel_rfl)
    (of_decide_eq_true (by kernel_rfl)) (by unfold Func.isWrapper; first | (rw [if_pos (by decide +kernel)]; kernel_rfl) | (rw [if_neg (by decide +kernel)]; exact ⟨rfl, rfl⟩))
    (fun os started H enc _ => lifted os started H enc)
/-- The statement. -/
theorem proved : Rows.HandleRisesSaid := over
end handleRises

end Go.Proofs.YtbfheafpecgphaaGreat
