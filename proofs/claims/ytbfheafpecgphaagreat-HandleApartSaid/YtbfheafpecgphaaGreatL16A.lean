/- The law HandleApart. Conditions: none. -/
import Derived.Test.YtbfheafpecgphaaGreatLwh
set_option linter.unusedSimpArgs false
set_option linter.unusedVariables false
set_option linter.unnecessarySimpa false
set_option linter.unusedSectionVars false
namespace Go.Proofs.YtbfheafpecgphaaGreat
set_option linter.unusedSimpArgs false
set_option linter.unusedVariables false
open Go
/-- What was given: a number's place, if it has one still, is that for which it was given. -/
def ApI (T : TabS) (M : List (Int × Int)) : Prop := ∀ n q, mget M n = some q → (1 ≤ n ∧ n ≤ T.last) ∧ ∀ p, mget T.at_ n = some p → p = q
theorem ap_take {T : TabS} {M : List (Int × Int)} (hT : TabW T) (h : ApI T M) {p : Int} (hp : p ≠ 0) : ¬ (((mget M (T.take p).1).isSome && ((mget M (T.take p).1).getD 0 != p)) || decide ((T.take p).1 < 1)) = true ∧ ApI (T.take p).2 (mset M (T.take p).1 p) := by
  obtain ⟨h1, h2, h3, h4, h5, h6⟩ := hT.take hp
  constructor
  · intro hb
    rw [Bool.or_eq_true, Bool.and_eq_true] at hb
    rcases hb with ⟨b1, b2⟩ | b1
    · cases hm : mget M (T.take p).1 with
      | none => rw [hm] at b1; cases b1
      | some q =>
        have hq := h _ q hm
        rcases h6 with ⟨_, e⟩ | ⟨_, e, _⟩
        · rw [e] at h2
          rw [hm, hq.2 p h2] at b2; simp at b2
        · rw [e] at hq; omega
    · have b1 : (T.take p).1 < 1 := by simpa using b1
      omega
  · intro n q hq
    rw [mget_mset] at hq
    split at hq
    · rename_i e; subst e; cases hq
      exact ⟨h3, fun p' hp' => by rw [h2] at hp'; cases hp'; rfl⟩
    · rename_i e
      have h7 := h n q hq
      exact ⟨⟨h7.1.1, by omega⟩, fun p' hp' => h7.2 p' (by rw [← h5 n e]; exact hp')⟩
theorem ap_drop {T : TabS} {M : List (Int × Int)} (hT : TabW T) (h : ApI T M) {n p : Int} (hn : mget T.at_ n = some p) (hp : p ≠ 0) : ¬ ((T.drop n).take p).1 ≤ n ∧ ApI ((T.drop n).take p).2 M := by
  obtain ⟨hD, hd⟩ := hT.drop n
  obtain ⟨h1, h2, h3, h4, h5, h6⟩ := hD.take hp
  have hnl := (hT.fwd n p hn).2.2.1
  have hlast : (T.drop n).last = T.last := rfl
  have hnew : ((T.drop n).take p).1 = T.last + 1 := by
    rcases h6 with ⟨e, _⟩ | ⟨_, e, _⟩
    · have e1 := hD.bwd _ _ e
      rw [hd] at e1
      split at e1
      · cases e1
      · rename_i hne
        have e2 := hT.fwd _ _ e1
        have e3 := hT.fwd _ _ hn
        rw [e2.1] at e3
        exact absurd (by injection e3.1) hne
    · rw [e]; rfl
  refine ⟨by omega, fun m q hq => ?_⟩
  have h7 := h m q hq
  refine ⟨⟨h7.1.1, by omega⟩, fun p' hp' => ?_⟩
  rw [h5 m (by omega), hd] at hp'
  split at hp'
  · cases hp'
  · exact h7.2 p' hp'

theorem handleApart_ok (B : World) (Fr : List HP) (q : Option Addr) (cap : Nat) (xs : List Int) (hxb : ∀ x ∈ xs, 0 ≤ x ∧ x ≤ 255) (hx : xs.length ≤ 9223372036854775807) (hq : ∀ i, i < xs.length → ∃ b off, q = some ⟨b, off, none⟩) (hsl : SlR B Fr (.slice q xs.length cap) (xs.map u8)) (dr : Int) (hdr : 0 ≤ dr ∧ dr ≤ 255) :
    ∀ w, Holds B Fr w → Calls Tryz.prog 5 [.slice q xs.length cap, u8 dr].toArray w (PureR B Fr (.bool true)) := by
  refine fn_enter Tryz.func5 rfl Tryz.ntmps5 rfl ?_; refine g_seq ?_; refine g_region ?_; refine kPa rfl rfl ?_; refine p_nil ?_; refine g_seq ?_; refine g_seq ?_; refine g_region ?_; refine p_callq rfl (en_f Tryz.call29 rfl) (awake16_ok _ _) .free rfl rfl ?_; refine kPv (ev_not rfl) rfl ?_; refine p_nil ?_; refine g_iff rfl (rfl) ?_; refine g_skip ?_; refine g_seq ?_; refine g_seq ?_; refine g_region ?_; refine kPm rfl rfl ?_; refine kPv (ev_len rfl Tryz.runUnderlying66 ⟨_, rfl⟩ rfl) rfl ?_
  refine kPv (ev_cmp rfl rfl rfl) rfl ?_; refine p_nil ?_
  refine g_if rfl (fun h17 => ?_) (fun h17 => ?_)
  · try simp only [decide_eq_true_eq, decide_eq_false_iff_not, Bool.not_eq_true', Bool.not_eq_false', Bool.or_eq_true, Bool.and_eq_true, Bool.and_eq_false_iff, Bool.or_eq_false_iff, beq_iff_eq, bne_iff_ne, beq_eq_false_iff_ne, bne_eq_false_iff_eq, ge_iff_le, gt_iff_lt, ne_eq] at h17
    refine g_seq ?_; refine g_region ?_; refine kPa rfl rfl ?_; refine p_nil ?_; refine g_ret ?_
    exact ret_tmp Tryz.results5 rfl (fun w hh => ⟨rfl, hh⟩)
  · have hx60 : xs.length ≤ 60 := by simp at h17; omega
    refine g_skip ?_; refine g_seq ?_; refine g_region ?_
    refine p_call rfl (en_f Tryz.call30 rfl) (hnew_ok _ _) .free rfl rfl ?_ ?_
    rotate_left
    · rintro _ _ ⟨⟩
    rintro _ _ ⟨tb, rfl, rfl⟩
    refine kPa rfl rfl ?_; refine p_nil ?_; refine g_seq ?_; refine g_region ?_; refine p_chg rfl (ch_makeMap .i64 i64) .free rfl rfl ?_
    rintro _ _ ⟨mr, rfl, rfl⟩
    refine kPa rfl rfl ?_; refine p_nil ?_; refine go_sub (σ' := [(6, _), (5, _), (4, _), (0, _), (1, _)]) ⟨rfl, rfl, rfl, rfl, rfl, trivial⟩ ?_; refine g_seq ?_; refine g_seq ?_; refine g_region ?_; refine kPm rfl rfl ?_; refine kPv (ev_len rfl Tryz.runUnderlying66 ⟨_, rfl⟩ rfl) rfl ?_; refine kPm rfl rfl ?_; refine p_nil ?_; refine g_block ?_
    refine g_loopk (ι := Nat × TabS × List (Int × Int)) [21, 20, 6, 5, 4, 1] (fun (k, T, M) => (k ≤ xs.length) ∧ (TabW T) ∧ (T.last ≤ 2 * k) ∧ (ApI T M)) (fun (k, T, M) => [(22, i64 k)]) (fun (k, T, M) => TabA tb T :: mapA .i64 i64 mr M :: Fr) (fun (k, T, M) => xs.length - k) (0, ⟨[], [], 0⟩, []) (⟨Nat.zero_le _, tab_w0, by simp, fun _ _ h => by cases h⟩) (fun a w st => st.to ⟨rfl, trivial⟩ (fun hh => (hh.pk [1]))) ?_
    rintro ⟨k, T, M⟩ ⟨hk0, hT, hl, hM⟩
    try simp only at hk0 hT hl hM ⊢
    refine go_sub (σ' := [(22, i64 k), (21, _), (20, _), (6, _), (5, _), (4, _), (1, _)]) ⟨rfl, rfl, rfl, rfl, rfl, rfl, rfl, trivial⟩ ?_; refine g_seq ?_; refine g_region ?_; refine kPv (ev_cmp rfl rfl rfl) rfl ?_; refine p_nil ?_; refine g_seq ?_
    refine g_if rfl (fun h23 => ?_) (fun h23 => ?_)
    · have hk : k < xs.length := by simp at h23; omega
      obtain ⟨bq, oq, rfl⟩ := hq k hk
      have hxk := hxb _ (List.getElem_mem hk)
      have hp0 : (1 + xs[k] : Int) ≠ 0 := by omega
      have hT1 := hT.take hp0
      have hA1 := ap_take hT hM hp0
      have hTl := hT.last
      refine g_skip ?_; refine g_seq ?_; refine g_block ?_; refine g_seq ?_; refine g_region ?_; refine kPm rfl rfl ?_; refine kPv (ev_iaS Tryz.runUnderlying66 Tryz.sizeOf5 rfl rfl (by omega) (by omega)) rfl ?_
      refine kPv (ev_loadS (v := u8 xs[k]) Tryz.isAgg5 hsl.up rfl (by rw [Int.toNat_natCast, List.getElem?_map, List.getElem?_eq_getElem hk]; rfl)) rfl ?_
      refine kPa rfl rfl ?_; refine kPa rfl rfl ?_; refine p_nil ?_; refine g_seq ?_; refine g_region ?_; refine kPm rfl rfl ?_; refine kPm rfl rfl ?_
      first | refine p_val rfl (ev_conv Tryz.runUnderlying5 Tryz.runUnderlying3 rfl (wr64 (by omega))) .free rfl rfl ?_ | refine p_val rfl (ev_conv Tryz.runUnderlying5 Tryz.runUnderlying3 rfl rfl) .free rfl rfl ?_
      first | refine p_val rfl (ev_add rfl rfl (wr64 (by omega))) .free rfl rfl ?_ | refine p_val rfl (ev_add rfl rfl rfl) .free rfl rfl ?_
      refine p_call rfl (en_f Tryz.call31 rfl) (htake_ok B _ tb T (1 + xs[k]) (by omega)) .free rfl rfl ?_ ?_
      rotate_left
      · rintro _ _ ⟨⟩
      rintro _ _ ⟨rfl, rfl⟩
      obtain ⟨hW1, hg1, hr1, hll1, ho1, hc1⟩ := hT1
      refine kPa rfl rfl ?_; refine p_nil ?_; refine go_sub (σ' := [(9, _), (8, _), (7, _), (22, _), (21, _), (20, _), (6, _), (5, _), (4, _), (1, _)]) ⟨rfl, rfl, rfl, rfl, rfl, rfl, rfl, rfl, rfl, rfl, trivial⟩ ?_; refine g_seq ?_; refine g_seq ?_; refine g_region ?_; refine kPm rfl rfl ?_; refine kPm rfl rfl ?_; refine kPv ((ev_lookup2 Tryz.runUnderlying69 Tryz.runUnderlying3 Tryz.zeroValue3 rfl rfl).eq (congrArg (fun v => Value.tuple #[v, .bool _]) (mval_i _))) rfl ?_; refine kPm rfl rfl ?_
      refine kPv (ev_ext rfl rfl) rfl ?_; refine kPv (ev_ext rfl rfl) rfl ?_; refine kPa rfl rfl ?_; refine kPa rfl rfl ?_; refine p_nil ?_; refine g_seq ?_; refine g_region ?_; refine kPm rfl rfl ?_; refine kPm rfl rfl ?_
      apply p_and (tp := 45) (t := 39) (σ1 := [(39, _), (9, _), (8, _), (7, _), (22, _), (21, _), (20, _), (6, _), (5, _), (4, _), (1, _)]) 6 rfl ⟨rfl, rfl, rfl, rfl, rfl, rfl, rfl, rfl, rfl, rfl, rfl, trivial⟩
      · intro hg1
        refine p_val rfl (ev_move rfl) (.on rfl rfl (beq_eq hg1)) rfl rfl ?_; refine p_val rfl (ev_move rfl) (.on rfl rfl (beq_eq hg1)) rfl rfl ?_
        first | refine p_val rfl (ev_conv Tryz.runUnderlying5 Tryz.runUnderlying3 rfl (wr64 (by omega))) (.on rfl rfl (beq_eq hg1)) rfl rfl ?_ | refine p_val rfl (ev_conv Tryz.runUnderlying5 Tryz.runUnderlying3 rfl rfl) (.on rfl rfl (beq_eq hg1)) rfl rfl ?_
        first | refine p_val rfl (ev_add rfl rfl (wr64 (by omega))) (.on rfl rfl (beq_eq hg1)) rfl rfl ?_ | refine p_val rfl (ev_add rfl rfl rfl) (.on rfl rfl (beq_eq hg1)) rfl rfl ?_
        refine p_val rfl (ev_cmp rfl rfl rfl) (.on rfl rfl (beq_eq hg1)) rfl rfl ?_; refine kPv (ev_pick_t rfl hg1 rfl) rfl ?_
        exact p_seg rfl ⟨rfl, rfl, rfl, rfl, rfl, rfl, rfl, rfl, rfl, rfl, rfl, trivial⟩ (and_t hg1)
      · intro hg1
        refine p_skip rfl (.on rfl rfl (beq_ne hg1)) rfl ?_; refine p_skip rfl (.on rfl rfl (beq_ne hg1)) rfl ?_; refine p_skip rfl (.on rfl rfl (beq_ne hg1)) rfl ?_; refine p_skip rfl (.on rfl rfl (beq_ne hg1)) rfl ?_; refine p_skip rfl (.on rfl rfl (beq_ne hg1)) rfl ?_; refine kPv (ev_pick_f rfl hg1 rfl) rfl ?_
        exact p_seg rfl ⟨rfl, rfl, rfl, rfl, rfl, rfl, rfl, rfl, rfl, rfl, rfl, trivial⟩ (and_f hg1)
      refine kPm rfl rfl ?_
      apply p_or (tp := 49) (t := 46) (σ1 := [(46, _), (9, _), (8, _), (7, _), (22, _), (21, _), (20, _), (6, _), (5, _), (4, _), (1, _)]) 3 rfl ⟨rfl, rfl, rfl, rfl, rfl, rfl, rfl, rfl, rfl, rfl, rfl, trivial⟩
      · intro hg2
        refine p_val rfl (ev_move rfl) (.on rfl rfl (beq_eq hg2)) rfl rfl ?_; refine p_val rfl (ev_cmp rfl rfl rfl) (.on rfl rfl (beq_eq hg2)) rfl rfl ?_; refine kPv (ev_pick_f rfl hg2 rfl) rfl ?_
        exact p_seg rfl ⟨rfl, rfl, rfl, rfl, rfl, rfl, rfl, rfl, rfl, rfl, rfl, trivial⟩ (or_f hg2)
      · intro hg2
        refine p_skip rfl (.on rfl rfl (beq_ne hg2)) rfl ?_; refine p_skip rfl (.on rfl rfl (beq_ne hg2)) rfl ?_; refine kPv (ev_pick_t rfl hg2 rfl) rfl ?_
        exact p_seg rfl ⟨rfl, rfl, rfl, rfl, rfl, rfl, rfl, rfl, rfl, rfl, rfl, trivial⟩ (or_t hg2)
      refine p_nil ?_
      refine g_if rfl (fun h49 => ?_) (fun h49 => ?_)
      · skip
        exact absurd h49 hA1.1
      · try simp only [decide_eq_true_eq, decide_eq_false_iff_not, Bool.not_eq_true', Bool.not_eq_false', Bool.or_eq_true, Bool.and_eq_true, Bool.and_eq_false_iff, Bool.or_eq_false_iff, beq_iff_eq, bne_iff_ne, beq_eq_false_iff_ne, bne_eq_false_iff_eq, ge_iff_le, gt_iff_lt, ne_eq] at h49
        refine g_skip ?_; refine g_seq ?_; refine g_region ?_; refine kPm rfl rfl ?_; refine kPm rfl rfl ?_; refine kPm rfl rfl ?_
        first | refine p_val rfl (ev_conv Tryz.runUnderlying5 Tryz.runUnderlying3 rfl (wr64 (by omega))) .free rfl rfl ?_ | refine p_val rfl (ev_conv Tryz.runUnderlying5 Tryz.runUnderlying3 rfl rfl) .free rfl rfl ?_
        first | refine p_val rfl (ev_add rfl rfl (wr64 (by omega))) .free rfl rfl ?_ | refine p_val rfl (ev_add rfl rfl rfl) .free rfl rfl ?_
        refine p_chg0 rfl (ch_mapset (enc := i64) Tryz.runUnderlying69 Tryz.runUnderlying3 rfl rfl rfl rfl) .free rfl ?_
        rintro _ _ rfl
        refine p_nil ?_; refine go_sub (σ' := [(9, _), (8, _), (7, _), (22, _), (21, _), (20, _), (6, _), (5, _), (4, _), (1, _)]) ⟨rfl, rfl, rfl, rfl, rfl, rfl, rfl, rfl, rfl, rfl, trivial⟩ ?_; refine g_seq ?_; refine g_region ?_; refine kPm rfl rfl ?_; refine kPv (ev_rem (c := (k : Int) % 4) rfl rfl (by decide) (rem_e 4 (by omega))) rfl ?_; refine kPm rfl rfl ?_; refine kPv (ev_rem (c := dr % 4) rfl rfl (by decide) (rem_e 4 (by omega))) rfl ?_
        first | refine p_val rfl (ev_conv Tryz.runUnderlying5 Tryz.runUnderlying3 rfl (wr64 (by omega))) .free rfl rfl ?_ | refine p_val rfl (ev_conv Tryz.runUnderlying5 Tryz.runUnderlying3 rfl rfl) .free rfl rfl ?_
        refine kPv (ev_cmp rfl rfl rfl) rfl ?_; refine p_nil ?_
        refine g_if rfl (fun h60 => ?_) (fun h60 => ?_)
        · try simp only [decide_eq_true_eq, decide_eq_false_iff_not, Bool.not_eq_true', Bool.not_eq_false', Bool.or_eq_true, Bool.and_eq_true, Bool.and_eq_false_iff, Bool.or_eq_false_iff, beq_iff_eq, bne_iff_ne, beq_eq_false_iff_ne, bne_eq_false_iff_eq, ge_iff_le, gt_iff_lt, ne_eq] at h60
          refine g_seq ?_; refine g_region ?_; refine kPm rfl rfl ?_; refine kPm rfl rfl ?_
          refine p_call rfl (en_f Tryz.call32 rfl) (hdrop_ok B _ tb (T.take (1 + xs[k])).2 (T.take (1 + xs[k])).1) .free rfl rfl ?_ ?_
          rotate_left
          · rintro _ _ ⟨⟩
          rintro _ _ ⟨rfl, rfl⟩
          refine p_nil ?_; refine go_sub (σ' := [(9, _), (8, _), (22, _), (21, _), (20, _), (6, _), (5, _), (4, _), (1, _)]) ⟨rfl, rfl, rfl, rfl, rfl, rfl, rfl, rfl, rfl, trivial⟩ ?_; refine g_seq ?_; refine g_region ?_; refine kPm rfl rfl ?_; refine kPm rfl rfl ?_
          first | refine p_val rfl (ev_conv Tryz.runUnderlying5 Tryz.runUnderlying3 rfl (wr64 (by omega))) .free rfl rfl ?_ | refine p_val rfl (ev_conv Tryz.runUnderlying5 Tryz.runUnderlying3 rfl rfl) .free rfl rfl ?_
          first | refine p_val rfl (ev_add rfl rfl (wr64 (by omega))) .free rfl rfl ?_ | refine p_val rfl (ev_add rfl rfl rfl) .free rfl rfl ?_
          refine p_call rfl (en_f Tryz.call31 rfl) (htake_ok B _ tb ((T.take (1 + xs[k])).2.drop (T.take (1 + xs[k])).1) (1 + xs[k]) (by simp only [TabS.drop]; omega)) .free rfl rfl ?_ ?_
          rotate_left
          · rintro _ _ ⟨⟩
          rintro _ _ ⟨rfl, rfl⟩
          have hA2 := ap_drop hW1 hA1.2 hg1 hp0
          have hW2 := (hW1.drop (T.take (1 + xs[k])).1).1.take hp0
          obtain ⟨hW3, _, _, hll3, _, _⟩ := hW2
          simp only [TabS.drop] at hll3
          refine kPa rfl rfl ?_; refine p_nil ?_; refine g_seq ?_; refine g_region ?_; refine kPm rfl rfl ?_; refine kPm rfl rfl ?_; refine kPv (ev_cmp rfl rfl rfl) rfl ?_; refine p_nil ?_; refine go_sub (σ' := [(71, _), (22, _), (21, _), (20, _), (6, _), (5, _), (4, _), (1, _)]) ⟨rfl, rfl, rfl, rfl, rfl, rfl, rfl, rfl, trivial⟩ ?_
          refine g_if rfl (fun h71 => ?_) (fun h71 => ?_)
          · try simp only [decide_eq_true_eq, decide_eq_false_iff_not, Bool.not_eq_true', Bool.not_eq_false', Bool.or_eq_true, Bool.and_eq_true, Bool.and_eq_false_iff, Bool.or_eq_false_iff, beq_iff_eq, bne_iff_ne, beq_eq_false_iff_ne, bne_eq_false_iff_eq, ge_iff_le, gt_iff_lt, ne_eq] at h71
            exact absurd (by simpa using h71) hA2.1
          · try simp only [decide_eq_true_eq, decide_eq_false_iff_not, Bool.not_eq_true', Bool.not_eq_false', Bool.or_eq_true, Bool.and_eq_true, Bool.and_eq_false_iff, Bool.or_eq_false_iff, beq_iff_eq, bne_iff_ne, beq_eq_false_iff_ne, bne_eq_false_iff_eq, ge_iff_le, gt_iff_lt, ne_eq] at h71
            refine g_skip ?_; refine g_region ?_
            first | refine p_val rfl (ev_add rfl rfl (wr64 (by omega))) .free rfl rfl ?_ | refine p_val rfl (ev_add rfl rfl rfl) .free rfl rfl ?_
            refine kPm rfl rfl ?_; refine p_nil ?_
            exact fun a w st_ => ⟨(k + 1, ((T.take (1 + xs[k])).2.drop (T.take (1 + xs[k])).1).take (1 + xs[k]) |>.2, mset M (T.take (1 + xs[k])).1 (1 + xs[k])), ⟨by omega, hW3, by simp only [TabS.drop]; omega, hA2.2⟩, by simp only; omega, st_.to ⟨rfl, rfl, rfl, rfl, rfl, rfl, rfl, trivial⟩ (fun hh => hh)⟩
        · try simp only [decide_eq_true_eq, decide_eq_false_iff_not, Bool.not_eq_true', Bool.not_eq_false', Bool.or_eq_true, Bool.and_eq_true, Bool.and_eq_false_iff, Bool.or_eq_false_iff, beq_iff_eq, bne_iff_ne, beq_eq_false_iff_ne, bne_eq_false_iff_eq, ge_iff_le, gt_iff_lt, ne_eq] at h60
          refine g_skip ?_; refine g_region ?_
          first | refine p_val rfl (ev_add rfl rfl (wr64 (by omega))) .free rfl rfl ?_ | refine p_val rfl (ev_add rfl rfl rfl) .free rfl rfl ?_
          refine kPm rfl rfl ?_; refine p_nil ?_; refine go_sub (σ' := [(22, _), (21, _), (20, _), (6, _), (5, _), (4, _), (1, _)]) ⟨rfl, rfl, rfl, rfl, rfl, rfl, rfl, trivial⟩ ?_
          exact fun a w st_ => ⟨(k + 1, (T.take (1 + xs[k])).2, mset M (T.take (1 + xs[k])).1 (1 + xs[k])), ⟨by omega, hW1, by simp only; omega, hA1.2⟩, by simp only; omega, st_.to ⟨rfl, rfl, rfl, rfl, rfl, rfl, rfl, trivial⟩ (fun hh => hh)⟩
    · have hk : ¬ k < xs.length := by simp at h23; omega
      refine g_exit ?_; refine g_seq ?_; refine g_region ?_; refine kPa rfl rfl ?_; refine p_nil ?_; refine go_sub (σ' := [(4, _)]) ⟨rfl, trivial⟩ ?_; refine g_ret ?_
      exact ret_tmp Tryz.results5 rfl (fun w hh => ⟨rfl, (hh.dp [0, 0])⟩)


theorem handleApart_walk (W : World) {l : Option Addr} {len cap : Nat} {xs : List Int} (w0 : len = xs.length ∧ len ≤ 9223372036854775807 ∧ ArgRow W l len 1 (fun i => [u8 (xs.getD i 0)]) ∧ ∀ x ∈ xs, 0 ≤ x ∧ x ≤ 255) (d : Int) (wd : (Lit.int .u8 d).wf = true) :
    Calls Tryz.prog 5 #[.slice l len cap, .int .u8 d] W fun e w' => e = .returned (.bool true) ∧ RowKit.Below W.heap.size W w' := by
  obtain ⟨rfl, w2, w3, w4⟩ := w0
  exact law_of (handleApart_ok W [old W] l cap xs w4 w2 (some_u8 w3) (slr_u8 w3) d (bounds_u8 wd))

namespace handleApart
open Go.ChangeShapes Go.WideShapes Go.ChangeAt Go.RowKit
set_option maxRecDepth 100000 in
theorem lifted (os : Os) (started : os.Started) (H : Type) (enc : TypeId × Value → H) :
    ReturnsInHanded {} Tryz.checked os 5 .any (Rows.handleApartSpec.pre6 enc Tryz.prog Tryz.f5 Rows.handleApartRow.domain false) (Rows.handleApartSpec.post enc Tryz.prog Tryz.f5 false true false false) := by
  refine returnsInHanded_of_change (C := Tryz.checked) Tryz.ownKnobs started (by kernel_rfl) Tryz.func5
    (ChangeSpec.witness6 (enc := enc) (C := Tryz.checked) false ⟨#[], #[.slice none 0 0, .int .u8 0], []⟩ 8 (by kernel_rfl) (by kernel_rfl) (by kernel_rfl) (by kernel_rfl)) ?_
  intro W base args ds gs before hval0 hW hcnd _
  have hval : ∀ (j : Nat) t v, Tryz.f5.params[j]? = some t → args[j]? = some v → Value.okWide Tryz.prog W .any base t v := hval0
  have hW' := hW
  obtain ⟨p, q, hA0, hV, rfl, hfz, hnd⟩ := hW
  have hA : DataW.TrodAll enc Tryz.prog W 0 (fun _ => true) true Tryz.f5.params.toList args.toList ds p := hA0
  rw [Tryz.params5] at hA hval
  obtain ⟨v0, vs0, d0, ds0, p0, q0, hargs, rfl, rfl, h0, r0⟩ := trodAll_cons hA
  obtain ⟨v1, vs1, d1, ds1, p1, q1, rfl, rfl, rfl, h1, r1⟩ := trodAll_cons r0
  obtain ⟨rfl, rfl, rfl⟩ := trodAll_nil r1
  obtain rfl : args = #[v0, v1] := by cases args; simp_all
  obtain ⟨rfl, rfl⟩ := trodVars_none hV
  obtain ⟨a0, len0, cap0, rfl⟩ := okWide_slice Tryz.underlying66 (hval 0 66 v0 rfl rfl)
  have k0 := h0
  have lt0 : ∀ x ∈ p0, x.block < W.heap.size := by obtain ⟨m, hm⟩ := k0; exact DataW.trod_lt m _ _ _ hm
  obtain ⟨z0, w0⟩ := arg_sl_u8 h0
  have k1 := h1
  have lt1 : ∀ x ∈ p1, x.block < W.heap.size := by obtain ⟨m, hm⟩ := k1; exact DataW.trod_lt m _ _ _ hm
  obtain ⟨a1, rfl, w1⟩ : ∃ a, v1 = .int .u8 a ∧ (Lit.int .u8 a).wf = true := by
    obtain ⟨a, e, _, _, wa⟩ := open_int Tryz.underlying5 (hval 1 5 v1 rfl rfl) h1
    exact ⟨a, e, wa⟩
  clear hA0 hval0
  refine (handleApart_walk W w0 a1 w1).mono fun e W' ⟨he, bel⟩ => ?_
  subst he
  exact ⟨_, rfl, _, _, _, [], _, [], hW', trodAll_mk1 (shut_bool Tryz.underlying4 _), (trodAll_cons_mk (Below.trod Tryz.laidOut (by kernel_rfl) (of_decide_eq_true (by kernel_rfl)) k0 bel lt0) (trodAll_cons_mk (Below.trod Tryz.laidOut (by kernel_rfl) (of_decide_eq_true (by kernel_rfl)) k1 bel lt1) trodAll_mk0)), rfl, bel.frame _, fun h => by cases h⟩
theorem over : Rows.handleApartRow.holds Tryz.pinned (OpenSpec.ofChange Rows.handleApartSpec) :=
  OpenClaim.holds_of_wide 5 Tryz.f5 rfl rfl rfl rfl rfl rfl rfl ⟨rfl, rfl, rfl, rfl, rfl⟩ rfl rfl rfl rfl rfl (by kernel_rfl) Tryz.func5 (by kernel_rfl)
    (of_decide_eq_true (by kernel_rfl)) (by unfold Func.isWrapper; first | (rw [if_pos (by decide +kernel)]; kernel_rfl) | (rw [if_neg (by decide +kernel)]; exact ⟨rfl, rfl⟩))
    (fun os started H enc _ => lifted os started H enc)
/-- The statement. -/
theorem proved : Rows.HandleApartSaid := over
end handleApart

end Go.Proofs.YtbfheafpecgphaaGreat
