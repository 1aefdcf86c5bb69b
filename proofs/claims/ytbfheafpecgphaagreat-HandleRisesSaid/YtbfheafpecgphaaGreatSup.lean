/- The heap's first words: what Format, Read and the head's functions do. Conditions: none. -/
import Derived.Test.YtbfheafpecgphaaGreatSec
set_option linter.unusedSimpArgs false
set_option linter.unusedVariables false
set_option linter.unnecessarySimpa false
set_option linter.unusedSectionVars false
namespace Go.Proofs.YtbfheafpecgphaaGreat
set_option linter.unusedSimpArgs false
set_option linter.unusedVariables false
open Go
theorem cfgW_iff (c : Cfg) : CfgW c ↔ 1 ≤ c.roots ∧ c.roots ≤ 16 ∧ c.roots + 2 ≤ c.log ∧ c.log ≤ 200 ∧ 8 ≤ c.space ∧ c.space ≤ 4096 := ⟨fun h => ⟨h.r1, h.r2, h.l1, h.l2, h.s1, h.s2⟩, fun ⟨a, b, c, d, e, f⟩ => ⟨a, b, c, d, e, f⟩⟩
def chk (c : Cfg) : Int := if CfgW c then 0 else 1
theorem chk_w {c : Cfg} (h : (chk c != 0) = false) : CfgW c := by
  unfold chk at h; split at h
  · assumption
  · simp at h
def zeroN (f : Int → Int) : Nat → Int → Dev → Out Unit
  | 0, _, s => .ok () s
  | k + 1, i, s => (s.store (f i) 0).then fun _ s => (s.flush (f i)).then fun _ s => zeroN f k (i + 1) s
def magicI : Int := 6076848300954571569
/-- The three words of a config, stored one behind the other. -/
def st3 (l : List Int) : Nat → Nat → Dev → Out Unit
  | 0, _, s => .ok () s
  | k + 1, i, s => (s.store (1 + (i : Int)) (l.getD i 0)).then fun _ s => st3 l k (i + 1) s
theorem l3_get {a b c : Int} {k : Nat} (h : k < 3) : ([i64 a, i64 b, i64 c] : List Value)[k]? = some (i64 ([a, b, c].getD k 0)) := by
  rcases (by omega : k = 0 ∨ k = 1 ∨ k = 2) with rfl | rfl | rfl <;> rfl
theorem l3_b {a b c : Int} {k : Nat} (h : k < 3) (ha : 0 ≤ a ∧ a ≤ 100000) (hb : 0 ≤ b ∧ b ≤ 100000) (hc : 0 ≤ c ∧ c ≤ 100000) : 0 ≤ [a, b, c].getD k 0 ∧ [a, b, c].getD k 0 ≤ 100000 := by
  rcases (by omega : k = 0 ∨ k = 1 ∨ k = 2) with rfl | rfl | rfl <;> simpa
def Dev.format (s : Dev) (c : Cfg) : Out Int :=
  if ¬ CfgW c ∨ (s.n : Int) ≠ c.words then .ok 1 s else
    (s.store 0 0).then fun _ s => (s.flush 0).then fun _ s => s.fence.then fun _ s =>
    (st3 [c.log, c.roots, c.space] 3 0 s).then fun _ s =>
    (s.store 8 1).then fun _ s => (s.flush 8).then fun _ s => (zeroN c.record c.log.toNat 0 s).then fun _ s =>
    (zeroN id (c.root c.roots - c.active).toNat c.active s).then fun _ s => (s.flush 0).then fun _ s => s.fence.then fun _ s =>
    (s.store 0 magicI).then fun _ s => (s.flush 0).then fun _ s => s.fence.then fun _ s => .ok 0 s

theorem check_ok (B : World) (H : List HP) (c : Cfg) :
    ∀ w, Holds B H w → Calls Tryz.prog 130 [cfgV c].toArray w (PureR B H (i64 (chk c))) := by
  refine fn_enter Tryz.func130 rfl Tryz.ntmps130 rfl ?_; refine g_seq ?_; refine g_region ?_; refine p_chg rfl (ch_boxA rfl) .free rfl rfl ?_
  rintro _ _ ⟨b1, rfl, rfl⟩
  refine kPa rfl rfl ?_; refine p_nil ?_; refine g_seq ?_; refine g_seq ?_; refine g_region ?_; refine kPv (ev_fa (m := _) fa_30_1 rfl rfl) rfl ?_; refine kPv (ev_load Tryz.isAgg3 rfl rfl) rfl ?_; refine kPv (ev_cmp rfl rfl rfl) rfl ?_; refine kPm rfl rfl ?_
  apply p_or (tp := 10) (t := 6) (σ1 := [(6, _), (2, _), (1, _)]) 4 rfl ⟨rfl, rfl, rfl, trivial⟩
  · intro hg1
    refine p_val rfl (ev_fa (m := _) fa_30_1 rfl rfl) (.on rfl rfl (beq_eq hg1)) rfl rfl ?_; refine p_val rfl (ev_load Tryz.isAgg3 rfl rfl) (.on rfl rfl (beq_eq hg1)) rfl rfl ?_; refine p_val rfl (ev_cmp rfl rfl rfl) (.on rfl rfl (beq_eq hg1)) rfl rfl ?_; refine kPv (ev_pick_f rfl hg1 rfl) rfl ?_
    exact p_seg rfl ⟨rfl, rfl, rfl, trivial⟩ (or_f hg1)
  · intro hg1
    refine p_skip rfl (.on rfl rfl (beq_ne hg1)) rfl ?_; refine p_skip rfl (.on rfl rfl (beq_ne hg1)) rfl ?_; refine p_skip rfl (.on rfl rfl (beq_ne hg1)) rfl ?_; refine kPv (ev_pick_t rfl hg1 rfl) rfl ?_
    exact p_seg rfl ⟨rfl, rfl, rfl, trivial⟩ (or_t hg1)
  refine kPm rfl rfl ?_
  apply p_or (tp := 18) (t := 11) (σ1 := [(11, _), (2, _), (1, _)]) 7 rfl ⟨rfl, rfl, rfl, trivial⟩
  · intro hg2
    refine p_val rfl (ev_fa (m := _) fa_30_0 rfl rfl) (.on rfl rfl (beq_eq hg2)) rfl rfl ?_; refine p_val rfl (ev_load Tryz.isAgg3 rfl rfl) (.on rfl rfl (beq_eq hg2)) rfl rfl ?_; refine p_val rfl (ev_fa (m := _) fa_30_1 rfl rfl) (.on rfl rfl (beq_eq hg2)) rfl rfl ?_; refine p_val rfl (ev_load Tryz.isAgg3 rfl rfl) (.on rfl rfl (beq_eq hg2)) rfl rfl ?_
    refine p_val rfl (ev_add (c := c.roots + 2) rfl rfl (by simp only [Bool.or_eq_false_iff, decide_eq_false_iff_not] at *; rw [wr64 (by omega)])) (.on rfl rfl (beq_eq hg2)) rfl rfl ?_
    refine p_val rfl (ev_cmp rfl rfl rfl) (.on rfl rfl (beq_eq hg2)) rfl rfl ?_; refine kPv (ev_pick_f rfl hg2 rfl) rfl ?_
    exact p_seg rfl ⟨rfl, rfl, rfl, trivial⟩ (or_f hg2)
  · intro hg2
    refine p_skip rfl (.on rfl rfl (beq_ne hg2)) rfl ?_; refine p_skip rfl (.on rfl rfl (beq_ne hg2)) rfl ?_; refine p_skip rfl (.on rfl rfl (beq_ne hg2)) rfl ?_; refine p_skip rfl (.on rfl rfl (beq_ne hg2)) rfl ?_; refine p_skip rfl (.on rfl rfl (beq_ne hg2)) rfl ?_; refine p_skip rfl (.on rfl rfl (beq_ne hg2)) rfl ?_; refine kPv (ev_pick_t rfl hg2 rfl) rfl ?_
    exact p_seg rfl ⟨rfl, rfl, rfl, trivial⟩ (or_t hg2)
  refine kPm rfl rfl ?_
  apply p_or (tp := 23) (t := 19) (σ1 := [(19, _), (2, _), (1, _)]) 4 rfl ⟨rfl, rfl, rfl, trivial⟩
  · intro hg3
    refine p_val rfl (ev_fa (m := _) fa_30_0 rfl rfl) (.on rfl rfl (beq_eq hg3)) rfl rfl ?_; refine p_val rfl (ev_load Tryz.isAgg3 rfl rfl) (.on rfl rfl (beq_eq hg3)) rfl rfl ?_; refine p_val rfl (ev_cmp rfl rfl rfl) (.on rfl rfl (beq_eq hg3)) rfl rfl ?_; refine kPv (ev_pick_f rfl hg3 rfl) rfl ?_
    exact p_seg rfl ⟨rfl, rfl, rfl, trivial⟩ (or_f hg3)
  · intro hg3
    refine p_skip rfl (.on rfl rfl (beq_ne hg3)) rfl ?_; refine p_skip rfl (.on rfl rfl (beq_ne hg3)) rfl ?_; refine p_skip rfl (.on rfl rfl (beq_ne hg3)) rfl ?_; refine kPv (ev_pick_t rfl hg3 rfl) rfl ?_
    exact p_seg rfl ⟨rfl, rfl, rfl, trivial⟩ (or_t hg3)
  refine kPm rfl rfl ?_
  apply p_or (tp := 28) (t := 24) (σ1 := [(24, _), (2, _), (1, _)]) 4 rfl ⟨rfl, rfl, rfl, trivial⟩
  · intro hg4
    refine p_val rfl (ev_fa (m := _) fa_30_2 rfl rfl) (.on rfl rfl (beq_eq hg4)) rfl rfl ?_; refine p_val rfl (ev_load Tryz.isAgg3 rfl rfl) (.on rfl rfl (beq_eq hg4)) rfl rfl ?_; refine p_val rfl (ev_cmp rfl rfl rfl) (.on rfl rfl (beq_eq hg4)) rfl rfl ?_; refine kPv (ev_pick_f rfl hg4 rfl) rfl ?_
    exact p_seg rfl ⟨rfl, rfl, rfl, trivial⟩ (or_f hg4)
  · intro hg4
    refine p_skip rfl (.on rfl rfl (beq_ne hg4)) rfl ?_; refine p_skip rfl (.on rfl rfl (beq_ne hg4)) rfl ?_; refine p_skip rfl (.on rfl rfl (beq_ne hg4)) rfl ?_; refine kPv (ev_pick_t rfl hg4 rfl) rfl ?_
    exact p_seg rfl ⟨rfl, rfl, rfl, trivial⟩ (or_t hg4)
  refine kPm rfl rfl ?_
  apply p_or (tp := 33) (t := 29) (σ1 := [(29, _), (2, _)]) 4 rfl ⟨rfl, rfl, trivial⟩
  · intro hg5
    refine p_val rfl (ev_fa (m := _) fa_30_2 rfl rfl) (.on rfl rfl (beq_eq hg5)) rfl rfl ?_; refine p_val rfl (ev_load Tryz.isAgg3 rfl rfl) (.on rfl rfl (beq_eq hg5)) rfl rfl ?_; refine p_val rfl (ev_cmp rfl rfl rfl) (.on rfl rfl (beq_eq hg5)) rfl rfl ?_; refine kPv (ev_pick_f rfl hg5 rfl) rfl ?_
    exact p_seg rfl ⟨rfl, rfl, trivial⟩ (or_f hg5)
  · intro hg5
    refine p_skip rfl (.on rfl rfl (beq_ne hg5)) rfl ?_; refine p_skip rfl (.on rfl rfl (beq_ne hg5)) rfl ?_; refine p_skip rfl (.on rfl rfl (beq_ne hg5)) rfl ?_; refine kPv (ev_pick_t rfl hg5 rfl) rfl ?_
    exact p_seg rfl ⟨rfl, rfl, trivial⟩ (or_t hg5)
  refine p_nil ?_
  refine g_if rfl (fun h33 => ?_) (fun h33 => ?_)
  · try simp only [decide_eq_true_eq, decide_eq_false_iff_not, Bool.not_eq_true', Bool.not_eq_false', Bool.or_eq_true, Bool.and_eq_true, Bool.and_eq_false_iff, Bool.or_eq_false_iff, beq_iff_eq, bne_iff_ne, beq_eq_false_iff_ne, bne_eq_false_iff_eq, ge_iff_le, gt_iff_lt, ne_eq] at h33
    refine g_seq ?_; refine g_region ?_; refine kPa rfl rfl ?_; refine p_nil ?_; refine g_ret ?_
    exact ret_tmp Tryz.results130 rfl (fun w hw => ⟨by unfold chk; rw [if_neg (by rw [cfgW_iff]; omega)], hw.tail⟩)
  · try simp only [decide_eq_true_eq, decide_eq_false_iff_not, Bool.not_eq_true', Bool.not_eq_false', Bool.or_eq_true, Bool.and_eq_true, Bool.and_eq_false_iff, Bool.or_eq_false_iff, beq_iff_eq, bne_iff_ne, beq_eq_false_iff_ne, bne_eq_false_iff_eq, ge_iff_le, gt_iff_lt, ne_eq] at h33
    refine g_skip ?_; refine g_seq ?_; refine g_region ?_; refine kPa rfl rfl ?_; refine p_nil ?_; refine g_ret ?_
    exact ret_tmp Tryz.results130 rfl (fun w hw => ⟨by unfold chk; rw [if_pos (by rw [cfgW_iff]; omega)], hw.tail⟩)


theorem format_ok {s : Dev} {c : Cfg} (h : CfgW c) (hn : (s.n : Int) = c.words) : ¬ (¬ CfgW c ∨ (s.n : Int) ≠ c.words) := by simp [h, hn]
theorem zeroN_add (f : Int → Int) : ∀ (k : Nat) (i : Int) (s : Dev), zeroN f (k + 1) i s = (s.store (f i) 0).then fun _ s => (s.flush (f i)).then fun _ s => zeroN f k (i + 1) s := fun _ _ _ => rfl

theorem format_ok2 (B : World) (Fr : List HP) (b : Nat) (s : Dev) (c : Cfg) :
    ∀ w, Holds B (DevA b s :: Fr) w → Calls Tryz.prog 121 [ptr b, cfgV c].toArray w (Ret B (fun rv H' => ∃ a s', s.format c = .ok a s' ∧ rv = i64 a ∧ H' = DevA b s' :: Fr) (fun k H' => ∃ s', s.format c = .off s' ∧ k = offc ∧ H' = DevA b s' :: Fr)) := by
  refine fn_enter Tryz.func121 rfl Tryz.ntmps121 rfl ?_; refine g_seq ?_; refine g_region ?_; refine p_chg rfl (ch_boxA rfl) .free rfl rfl ?_
  rintro _ _ ⟨b3, rfl, rfl⟩
  refine kPa rfl rfl ?_; refine p_nil ?_; refine g_seq ?_; refine g_seq ?_; refine g_draw Tryz.mixed (by kernel_rfl) (by kernel_rfl) ?_; refine kQv (ev_loadA Tryz.isAgg30 Tryz.sizeOf30 rfl rfl) rfl ?_; refine q_call rfl (en_f Tryz.call130 rfl) (check_ok _ _ c) .free rfl ?_; refine kQv (ev_cmp rfl rfl rfl) rfl ?_; refine kQm rfl rfl ?_
  apply q_or (tp := 18) (t := 12) (σ1 := [(12, _), (4, _), (3, _), (0, _)]) 6 rfl ⟨rfl, rfl, rfl, rfl, trivial⟩
  · intro hg1
    refine q_val rfl (ev_move rfl) (.on rfl rfl (beq_eq hg1)) rfl ?_; refine q_call rfl (en_f Tryz.call33 rfl) (ro_at (q := DevA) (fun Fr => nlen_ok _ Fr _ _)) (.on rfl rfl (beq_eq hg1)) rfl ?_; refine q_val rfl (ev_loadA Tryz.isAgg30 Tryz.sizeOf30 rfl rfl) (.on rfl rfl (beq_eq hg1)) rfl ?_; refine q_call rfl (en_f Tryz.call44 rfl) (cwords_ok _ _ c (chk_w hg1)) (.on rfl rfl (beq_eq hg1)) rfl ?_; refine q_val rfl (ev_cmp rfl rfl rfl) (.on rfl rfl (beq_eq hg1)) rfl ?_
    refine kQv (ev_pick_f rfl hg1 rfl) rfl ?_
    exact q_seg rfl ⟨rfl, rfl, rfl, rfl, trivial⟩ (or_f hg1)
  · intro hg1
    refine q_skip rfl (.on rfl rfl (beq_ne hg1)) rfl ?_; refine q_skip rfl (.on rfl rfl (beq_ne hg1)) rfl ?_; refine q_skip rfl (.on rfl rfl (beq_ne hg1)) rfl ?_; refine q_skip rfl (.on rfl rfl (beq_ne hg1)) rfl ?_; refine q_skip rfl (.on rfl rfl (beq_ne hg1)) rfl ?_; refine kQv (ev_pick_t rfl hg1 rfl) rfl ?_
    exact q_seg rfl ⟨rfl, rfl, rfl, rfl, trivial⟩ (or_t hg1)
  refine q_nil ?_
  refine g_if rfl (fun h18 => ?_) (fun h18 => ?_)
  · have hbad : ¬ CfgW c ∨ (s.n : Int) ≠ c.words := by
      by_cases q : CfgW c
      · right; simpa [chk, q] using h18
      · exact .inl q
    refine g_seq ?_; refine g_region ?_; refine kPa rfl rfl ?_; refine p_nil ?_; refine g_ret ?_
    exact ret_tmp Tryz.results121 rfl (fun w hh => ⟨_, ⟨1, s, by unfold Dev.format; rw [if_pos hbad], rfl, rfl⟩, hh.tail⟩)
  · have hgd : CfgW c ∧ (s.n : Int) = c.words := by
      by_cases q : CfgW c
      · exact ⟨q, by simpa [chk, q] using h18⟩
      · simp [chk, q] at h18
    obtain ⟨hc, hn⟩ := hgd
    have hc1 := hc.r1
    have hc2 := hc.r2
    have hc3 := hc.l1
    have hc4 := hc.l2
    have hc5 := hc.s1
    have hc6 := hc.s2
    have hact := hc.act
    refine g_skip ?_; refine g_seq ?_; refine g_region ?_; refine kPm rfl rfl ?_
    refine p_call rfl (en_f Tryz.call70 rfl) (up_at (q := DevA) (fun Fr => nstore_ok _ Fr _ _ _ _)) .free rfl rfl ?_ ?_
    rotate_left
    · rintro _ _ ⟨sx, ⟨hx, rfl⟩, rfl⟩
      have hfo : s.format c = .off sx := by
        simp [Dev.format, format_ok hc hn, hx]
      exact pan_fn fun w hh => ⟨_, ⟨sx, hfo, rfl, rfl⟩, hh.tail⟩
    rintro _ _ ⟨s1, ⟨e1, hm1, rfl⟩, rfl⟩
    refine p_nil ?_; refine g_seq ?_; refine g_region ?_; refine kPm rfl rfl ?_
    refine p_call rfl (en_f Tryz.call34 rfl) (up_at (q := DevA) (fun Fr => nflush_ok _ Fr _ _ _)) .free rfl rfl ?_ ?_
    rotate_left
    · rintro _ _ ⟨sx, ⟨hx, rfl⟩, rfl⟩
      have hfo : s.format c = .off sx := by
        simp [Dev.format, format_ok hc hn, hm1, hx]
      exact pan_fn fun w hh => ⟨_, ⟨sx, hfo, rfl, rfl⟩, hh.tail⟩
    rintro _ _ ⟨s2, ⟨e2, hm2, rfl⟩, rfl⟩
    refine p_nil ?_; refine g_seq ?_; refine g_region ?_; refine kPm rfl rfl ?_
    refine p_call rfl (en_f Tryz.call35 rfl) (up_at (q := DevA) (fun Fr => nfence_ok _ Fr _ _)) .free rfl rfl ?_ ?_
    rotate_left
    · rintro _ _ ⟨sx, ⟨hx, rfl⟩, rfl⟩
      have hfo : s.format c = .off sx := by
        simp [Dev.format, format_ok hc hn, hm1, hm2, hx]
      exact pan_fn fun w hh => ⟨_, ⟨sx, hfo, rfl, rfl⟩, hh.tail⟩
    rintro _ _ ⟨s3, ⟨e3, hm3, rfl⟩, rfl⟩
    refine p_nil ?_; refine go_sub (σ' := [(4, _), (3, _), (0, _)]) ⟨rfl, rfl, rfl, trivial⟩ ?_; refine g_seq ?_; refine g_seq ?_; refine g_region ?_; refine kPv (ev_fa (m := _) fa_30_0 rfl rfl) rfl ?_; refine kPv (ev_load Tryz.isAgg3 rfl rfl) rfl ?_; refine kPv (ev_fa (m := _) fa_30_1 rfl rfl) rfl ?_; refine kPv (ev_load Tryz.isAgg3 rfl rfl) rfl ?_; refine kPv (ev_fa (m := _) fa_30_2 rfl rfl) rfl ?_; refine kPv (ev_load Tryz.isAgg3 rfl rfl) rfl ?_
    refine p_chg rfl (ch_bs3 Tryz.runUnderlying34 Tryz.sizeOf3 Tryz.zeroValue3 rfl rfl rfl rfl rfl rfl rfl) .free rfl rfl ?_
    rintro _ _ ⟨b31, rfl, rfl⟩
    refine kPv (ev_len rfl Tryz.runUnderlying34 ⟨_, rfl⟩ rfl) rfl ?_; refine kPm rfl rfl ?_; refine p_nil ?_; refine g_block ?_
    refine g_loop (ι := Nat × Dev) (fun i => i.1 ≤ 3 ∧ st3 [c.log, c.roots, c.space] 3 0 s3 = st3 [c.log, c.roots, c.space] (3 - i.1) i.1 i.2) (fun i => [(0, ptr b), (3, ptr b3), (4, i64 0), (31, .slice (some ⟨b31, 0, none⟩) 3 3), (32, i64 3), (33, i64 i.1)]) (fun i => row b31 [i64 c.log, i64 c.roots, i64 c.space] 3 :: row b3 [i64 c.log, i64 c.roots, i64 c.space] 30 :: DevA b i.2 :: Fr) (fun i => 3 - i.1) (0, s3) ⟨Nat.zero_le _, rfl⟩ (fun a w st => st.to ⟨rfl, rfl, rfl, rfl, rfl, rfl, trivial⟩ id) ?_
    rintro ⟨k, sa⟩ ⟨hk1, hk2⟩
    simp only at hk1 hk2 ⊢
    refine g_seq ?_; refine g_region ?_; refine kPv (ev_cmp rfl rfl rfl) rfl ?_; refine p_nil ?_; refine g_seq ?_
    refine g_if rfl (fun h34 => ?_) (fun h34 => ?_)
    · have hk3 : k < 3 := by simp at h34; omega
      refine g_skip ?_; refine g_seq ?_; refine g_block ?_; refine g_seq ?_; refine g_region ?_
      have hlb := l3_b (k := k) hk3 (a := c.log) (b := c.roots) (c := c.space) (by omega) (by omega) (by omega)
      refine kPm rfl rfl ?_; refine kPv (ev_iaS Tryz.runUnderlying34 Tryz.sizeOf3 rfl rfl (by omega) (by omega)) rfl ?_; refine kPv (ev_load (v := i64 ([c.log, c.roots, c.space].getD k 0)) Tryz.isAgg3 rfl (by rw [Nat.zero_add, Int.toNat_natCast]; exact l3_get hk3)) rfl ?_
      refine kPa rfl rfl ?_; refine kPa rfl rfl ?_; refine p_nil ?_; refine go_sub (σ' := [(6, _), (5, _), (33, _), (32, _), (31, _), (4, _), (3, _), (0, _)]) ⟨rfl, rfl, rfl, rfl, rfl, rfl, rfl, rfl, trivial⟩ ?_; refine g_region ?_; refine kPm rfl rfl ?_; refine kPm rfl rfl ?_
      first | refine p_val rfl (ev_add rfl rfl (wr64 (by omega))) .free rfl rfl ?_ | refine p_val rfl (ev_add rfl rfl rfl) .free rfl rfl ?_
      refine kPm rfl rfl ?_
      first | refine p_val rfl (ev_conv Tryz.runUnderlying3 Tryz.runUnderlying52 rfl (wru64 (by omega))) .free rfl rfl ?_ | refine p_val rfl (ev_conv Tryz.runUnderlying3 Tryz.runUnderlying52 rfl rfl) .free rfl rfl ?_
      refine p_call rfl (en_f Tryz.call70 rfl) (up_at (q := DevA) (fun Fr => nstore_ok _ Fr _ _ _ _)) .free rfl rfl ?_ ?_
      rotate_left
      · rintro _ _ ⟨sx, ⟨hx, rfl⟩, rfl⟩
        have hfo : s.format c = .off sx := by
          have hz : st3 [c.log, c.roots, c.space] 3 0 s3 = .off sx := by rw [hk2, show 3 - k = (3 - (k + 1)) + 1 by omega]; simp only [st3]; rw [hx]; rfl
          simp [Dev.format, format_ok hc hn, hm1, hm2, hm3, hz]
        exact pan_fn fun w hh => ⟨_, ⟨sx, hfo, rfl, rfl⟩, hh.tail.tail⟩
      rintro _ _ ⟨s4, ⟨e4, hm4, rfl⟩, rfl⟩
      refine p_nil ?_; refine go_sub (σ' := [(33, _), (32, _), (31, _), (4, _), (3, _), (0, _)]) ⟨rfl, rfl, rfl, rfl, rfl, rfl, trivial⟩ ?_; refine g_region ?_
      first | refine p_val rfl (ev_add rfl rfl (wr64 (by omega))) .free rfl rfl ?_ | refine p_val rfl (ev_add rfl rfl rfl) .free rfl rfl ?_
      refine kPm rfl rfl ?_; refine p_nil ?_
      exact fun a w st => ⟨(k + 1, s4), ⟨by simp only; omega, by simp only; rw [hk2, show 3 - k = (3 - (k + 1)) + 1 by omega]; simp only [st3]; rw [hm4]; rfl⟩, by simp only; omega, st.to ⟨rfl, rfl, rfl, rfl, rfl, rfl, trivial⟩ id⟩
    · have hk3 : ¬ k < 3 := by simp at h34; omega
      have hA : st3 [c.log, c.roots, c.space] 3 0 s3 = .ok () sa := by
        rw [hk2, show 3 - k = 0 by omega]; rfl
      refine g_exit ?_; refine g_seq ?_; refine g_region ?_; refine kPm rfl rfl ?_
      refine p_call rfl (en_f Tryz.call70 rfl) (up_at (q := DevA) (fun Fr => nstore_ok _ Fr _ _ _ _)) .free rfl rfl ?_ ?_
      rotate_left
      · rintro _ _ ⟨sx, ⟨hx, rfl⟩, rfl⟩
        have hfo : s.format c = .off sx := by
          simp [Dev.format, format_ok hc hn, hm1, hm2, hm3, hA, hx]
        exact pan_fn fun w hh => ⟨_, ⟨sx, hfo, rfl, rfl⟩, hh.tail.tail⟩
      rintro _ _ ⟨s5, ⟨e5, hm5, rfl⟩, rfl⟩
      refine p_nil ?_; refine go_sub (σ' := [(4, _), (3, _), (0, _)]) ⟨rfl, rfl, rfl, trivial⟩ ?_; refine g_seq ?_; refine g_region ?_; refine kPm rfl rfl ?_
      refine p_call rfl (en_f Tryz.call34 rfl) (up_at (q := DevA) (fun Fr => nflush_ok _ Fr _ _ _)) .free rfl rfl ?_ ?_
      rotate_left
      · rintro _ _ ⟨sx, ⟨hx, rfl⟩, rfl⟩
        have hfo : s.format c = .off sx := by
          simp [Dev.format, format_ok hc hn, hm1, hm2, hm3, hA, hm5, hx]
        exact pan_fn fun w hh => ⟨_, ⟨sx, hfo, rfl, rfl⟩, hh.tail.tail⟩
      rintro _ _ ⟨s6, ⟨e6, hm6, rfl⟩, rfl⟩
      refine p_nil ?_; refine g_seq ?_; refine g_seq ?_; refine g_region ?_; refine kPa rfl rfl ?_; refine p_nil ?_; refine g_block ?_
      refine g_loop (ι := Int × Dev) (fun i => (0 ≤ i.1 ∧ i.1 ≤ c.log) ∧ zeroN c.record c.log.toNat 0 s6 = zeroN c.record (c.log - i.1).toNat i.1 i.2) (fun i => [(0, ptr b), (3, ptr b3), (4, i64 0), (7, i64 i.1)]) (fun i => row b31 [i64 c.log, i64 c.roots, i64 c.space] 3 :: row b3 [i64 c.log, i64 c.roots, i64 c.space] 30 :: DevA b i.2 :: Fr) (fun i => (c.log - i.1).toNat) (0, s6) ⟨⟨by simp only; omega, by simp only; omega⟩, by simp only; rw [Int.sub_zero]⟩ (fun a w st => st.to ⟨rfl, rfl, rfl, rfl, trivial⟩ id) ?_
      rintro ⟨i, sb⟩ ⟨⟨hi1, hi2⟩, hi3⟩
      simp only at hi1 hi2 hi3 ⊢
      have hri : 16 ≤ c.record i ∧ c.record i ≤ 10000 := by simp only [Cfg.record]; omega
      refine g_seq ?_; refine g_seq ?_; refine g_region ?_; refine kPm rfl rfl ?_; refine kPv (ev_fa (m := _) fa_30_0 rfl rfl) rfl ?_; refine kPv (ev_load Tryz.isAgg3 rfl rfl) rfl ?_; refine kPv (ev_cmp rfl rfl rfl) rfl ?_; refine p_nil ?_
      refine g_if rfl (fun h52 => ?_) (fun h52 => ?_)
      · have hlt : i < c.log := by simpa using h52
        refine g_skip ?_; refine g_seq ?_; refine g_block ?_; refine g_seq ?_; refine g_region ?_; refine kPm rfl rfl ?_; refine kPv (ev_loadA Tryz.isAgg30 Tryz.sizeOf30 rfl rfl) rfl ?_; refine kPm rfl rfl ?_; refine p_callq rfl (en_f Tryz.call87 rfl) (record_ok _ _ c _ (by omega) (by omega)) .free rfl rfl ?_
        refine p_call rfl (en_f Tryz.call70 rfl) (up_at (q := DevA) (fun Fr => nstore_ok _ Fr _ _ _ _)) .free rfl rfl ?_ ?_
        rotate_left
        · rintro _ _ ⟨sx, ⟨hx, rfl⟩, rfl⟩
          have hfo : s.format c = .off sx := by
            have hz : zeroN c.record c.log.toNat 0 s6 = .off sx := by rw [hi3, show (c.log - i).toNat = (c.log - (i + 1)).toNat + 1 by omega]; simp only [zeroN]; rw [hx]; rfl
            simp [Dev.format, format_ok hc hn, hm1, hm2, hm3, hA, hm5, hm6, hz]
          exact pan_fn fun w hh => ⟨_, ⟨sx, hfo, rfl, rfl⟩, hh.tail.tail⟩
        rintro _ _ ⟨s7, ⟨e7, hm7, rfl⟩, rfl⟩
        refine p_nil ?_; refine go_sub (σ' := [(7, _), (4, _), (3, _), (0, _)]) ⟨rfl, rfl, rfl, rfl, trivial⟩ ?_; refine g_region ?_; refine kPm rfl rfl ?_; refine kPv (ev_loadA Tryz.isAgg30 Tryz.sizeOf30 rfl rfl) rfl ?_; refine kPm rfl rfl ?_; refine p_callq rfl (en_f Tryz.call87 rfl) (record_ok _ _ c _ (by omega) (by omega)) .free rfl rfl ?_
        refine p_call rfl (en_f Tryz.call34 rfl) (up_at (q := DevA) (fun Fr => nflush_ok _ Fr _ _ _)) .free rfl rfl ?_ ?_
        rotate_left
        · rintro _ _ ⟨sx, ⟨hx, rfl⟩, rfl⟩
          have hfo : s.format c = .off sx := by
            have hz : zeroN c.record c.log.toNat 0 s6 = .off sx := by rw [hi3, show (c.log - i).toNat = (c.log - (i + 1)).toNat + 1 by omega]; simp only [zeroN]; rw [hm7, then_ok, hx]; rfl
            simp [Dev.format, format_ok hc hn, hm1, hm2, hm3, hA, hm5, hm6, hz]
          exact pan_fn fun w hh => ⟨_, ⟨sx, hfo, rfl, rfl⟩, hh.tail.tail⟩
        rintro _ _ ⟨s8, ⟨e8, hm8, rfl⟩, rfl⟩
        refine p_nil ?_; refine g_region ?_; refine kPm rfl rfl ?_
        first | refine p_val rfl (ev_add rfl rfl (wr64 (by omega))) .free rfl rfl ?_ | refine p_val rfl (ev_add rfl rfl rfl) .free rfl rfl ?_
        refine kPa rfl rfl ?_; refine p_nil ?_; refine go_sub (σ' := [(7, _), (4, _), (3, _), (0, _)]) ⟨rfl, rfl, rfl, rfl, trivial⟩ ?_
        exact fun a w st => ⟨(i + 1, s8), ⟨⟨by simp only; omega, by simp only; omega⟩, by simp only; rw [hi3, show (c.log - i).toNat = (c.log - (i + 1)).toNat + 1 by omega]; simp only [zeroN]; rw [hm7, then_ok, hm8]; rfl⟩, by simp only; omega, st.to ⟨rfl, rfl, rfl, rfl, trivial⟩ id⟩
      · have hlt : ¬ i < c.log := by simpa using h52
        have hB : zeroN c.record c.log.toNat 0 s6 = .ok () sb := by
          rw [hi3, show (c.log - i).toNat = 0 by omega]; rfl
        refine g_exit ?_; refine g_seq ?_; refine g_seq ?_; refine g_region ?_; refine kPv (ev_loadA Tryz.isAgg30 Tryz.sizeOf30 rfl rfl) rfl ?_; refine p_callq rfl (en_f Tryz.call45 rfl) (active_ok _ _ c hc) .free rfl rfl ?_; refine kPa rfl rfl ?_; refine p_nil ?_; refine go_sub (σ' := [(8, _), (4, _), (3, _), (0, _)]) ⟨rfl, rfl, rfl, rfl, trivial⟩ ?_; refine g_block ?_
        have hroot : c.active ≤ c.root c.roots ∧ c.root c.roots ≤ 2000 := by simp only [Cfg.root]; omega
        refine g_loop (ι := Int × Dev) (fun i => (c.active ≤ i.1 ∧ i.1 ≤ c.root c.roots) ∧ zeroN id (c.root c.roots - c.active).toNat c.active sb = zeroN id (c.root c.roots - i.1).toNat i.1 i.2) (fun i => [(0, ptr b), (3, ptr b3), (4, i64 0), (8, i64 i.1)]) (fun i => row b31 [i64 c.log, i64 c.roots, i64 c.space] 3 :: row b3 [i64 c.log, i64 c.roots, i64 c.space] 30 :: DevA b i.2 :: Fr) (fun i => (c.root c.roots - i.1).toNat) (c.active, sb) ⟨⟨by simp only; omega, by simp only; omega⟩, rfl⟩ (fun a w st => st.to ⟨rfl, rfl, rfl, rfl, trivial⟩ id) ?_
        rintro ⟨j, sc⟩ ⟨⟨hj1, hj2⟩, hj3⟩
        simp only at hj1 hj2 hj3 ⊢
        refine g_seq ?_; refine g_seq ?_; refine g_region ?_; refine kPm rfl rfl ?_; refine kPv (ev_loadA Tryz.isAgg30 Tryz.sizeOf30 rfl rfl) rfl ?_; refine kPv (ev_fa (m := _) fa_30_1 rfl rfl) rfl ?_; refine kPv (ev_load Tryz.isAgg3 rfl rfl) rfl ?_; refine p_callq rfl (en_f Tryz.call71 rfl) (root_ok _ _ c hc _ (by omega) (by omega)) .free rfl rfl ?_; refine kPv (ev_cmp rfl rfl rfl) rfl ?_; refine p_nil ?_
        refine g_if rfl (fun h72 => ?_) (fun h72 => ?_)
        · have hlt2 : j < c.root c.roots := by simpa using h72
          refine g_skip ?_; refine g_seq ?_; refine g_block ?_; refine g_seq ?_; refine g_region ?_; refine kPm rfl rfl ?_; refine kPm rfl rfl ?_
          refine p_call rfl (en_f Tryz.call70 rfl) (up_at (q := DevA) (fun Fr => nstore_ok _ Fr _ _ _ _)) .free rfl rfl ?_ ?_
          rotate_left
          · rintro _ _ ⟨sx, ⟨hx, rfl⟩, rfl⟩
            have hfo : s.format c = .off sx := by
              have hz : zeroN id (c.root c.roots - c.active).toNat c.active sb = .off sx := by rw [hj3, show (c.root c.roots - j).toNat = (c.root c.roots - (j + 1)).toNat + 1 by omega]; simp only [zeroN, id]; rw [hx]; rfl
              simp [Dev.format, format_ok hc hn, hm1, hm2, hm3, hA, hm5, hm6, hB, hz]
            exact pan_fn fun w hh => ⟨_, ⟨sx, hfo, rfl, rfl⟩, hh.tail.tail⟩
          rintro _ _ ⟨s9, ⟨e9, hm9, rfl⟩, rfl⟩
          refine p_nil ?_; refine go_sub (σ' := [(8, _), (4, _), (3, _), (0, _)]) ⟨rfl, rfl, rfl, rfl, trivial⟩ ?_; refine g_region ?_; refine kPm rfl rfl ?_; refine kPm rfl rfl ?_
          refine p_call rfl (en_f Tryz.call34 rfl) (up_at (q := DevA) (fun Fr => nflush_ok _ Fr _ _ _)) .free rfl rfl ?_ ?_
          rotate_left
          · rintro _ _ ⟨sx, ⟨hx, rfl⟩, rfl⟩
            have hfo : s.format c = .off sx := by
              have hz : zeroN id (c.root c.roots - c.active).toNat c.active sb = .off sx := by rw [hj3, show (c.root c.roots - j).toNat = (c.root c.roots - (j + 1)).toNat + 1 by omega]; simp only [zeroN, id]; rw [hm9, then_ok, hx]; rfl
              simp [Dev.format, format_ok hc hn, hm1, hm2, hm3, hA, hm5, hm6, hB, hz]
            exact pan_fn fun w hh => ⟨_, ⟨sx, hfo, rfl, rfl⟩, hh.tail.tail⟩
          rintro _ _ ⟨s10, ⟨e10, hm10, rfl⟩, rfl⟩
          refine p_nil ?_; refine g_region ?_; refine kPm rfl rfl ?_
          first | refine p_val rfl (ev_add rfl rfl (wr64 (by omega))) .free rfl rfl ?_ | refine p_val rfl (ev_add rfl rfl rfl) .free rfl rfl ?_
          refine kPa rfl rfl ?_; refine p_nil ?_
          exact fun a w st => ⟨(j + 1, s10), ⟨⟨by simp only; omega, by simp only; omega⟩, by simp only; rw [hj3, show (c.root c.roots - j).toNat = (c.root c.roots - (j + 1)).toNat + 1 by omega]; simp only [zeroN, id]; rw [hm9, then_ok, hm10]; rfl⟩, by simp only; omega, st.to ⟨rfl, rfl, rfl, rfl, trivial⟩ id⟩
        · have hlt2 : ¬ j < c.root c.roots := by simpa using h72
          have hC : zeroN id (c.root c.roots - c.active).toNat c.active sb = .ok () sc := by
            rw [hj3, show (c.root c.roots - j).toNat = 0 by omega]; rfl
          refine g_exit ?_; refine g_seq ?_; refine g_region ?_; refine kPm rfl rfl ?_
          refine p_call rfl (en_f Tryz.call34 rfl) (up_at (q := DevA) (fun Fr => nflush_ok _ Fr _ _ _)) .free rfl rfl ?_ ?_
          rotate_left
          · rintro _ _ ⟨sx, ⟨hx, rfl⟩, rfl⟩
            have hfo : s.format c = .off sx := by
              simp [Dev.format, format_ok hc hn, hm1, hm2, hm3, hA, hm5, hm6, hB, hC, hx]
            exact pan_fn fun w hh => ⟨_, ⟨sx, hfo, rfl, rfl⟩, hh.tail.tail⟩
          rintro _ _ ⟨s11, ⟨e11, hm11, rfl⟩, rfl⟩
          refine p_nil ?_; refine go_sub (σ' := [(4, _), (0, _)]) ⟨rfl, rfl, trivial⟩ ?_; refine g_seq ?_; refine g_region ?_; refine kPm rfl rfl ?_
          refine p_call rfl (en_f Tryz.call35 rfl) (up_at (q := DevA) (fun Fr => nfence_ok _ Fr _ _)) .free rfl rfl ?_ ?_
          rotate_left
          · rintro _ _ ⟨sx, ⟨hx, rfl⟩, rfl⟩
            have hfo : s.format c = .off sx := by
              simp [Dev.format, format_ok hc hn, hm1, hm2, hm3, hA, hm5, hm6, hB, hC, hm11, hx]
            exact pan_fn fun w hh => ⟨_, ⟨sx, hfo, rfl, rfl⟩, hh.tail.tail⟩
          rintro _ _ ⟨s12, ⟨e12, hm12, rfl⟩, rfl⟩
          refine p_nil ?_; refine g_seq ?_; refine g_region ?_; refine kPm rfl rfl ?_
          refine p_call rfl (en_f Tryz.call70 rfl) (up_at (q := DevA) (fun Fr => nstore_ok _ Fr _ _ _ _)) .free rfl rfl ?_ ?_
          rotate_left
          · rintro _ _ ⟨sx, ⟨hx, rfl⟩, rfl⟩
            have hfo : s.format c = .off sx := by
              simp [Dev.format, format_ok hc hn, hm1, hm2, hm3, hA, hm5, hm6, hB, hC, hm11, hm12, magicI, hx]
            exact pan_fn fun w hh => ⟨_, ⟨sx, hfo, rfl, rfl⟩, hh.tail.tail⟩
          rintro _ _ ⟨s13, ⟨e13, hm13, rfl⟩, rfl⟩
          refine p_nil ?_; refine g_seq ?_; refine g_region ?_; refine kPm rfl rfl ?_
          refine p_call rfl (en_f Tryz.call34 rfl) (up_at (q := DevA) (fun Fr => nflush_ok _ Fr _ _ _)) .free rfl rfl ?_ ?_
          rotate_left
          · rintro _ _ ⟨sx, ⟨hx, rfl⟩, rfl⟩
            have hfo : s.format c = .off sx := by
              simp [Dev.format, format_ok hc hn, hm1, hm2, hm3, hA, hm5, hm6, hB, hC, hm11, hm12, magicI, hm13, hx]
            exact pan_fn fun w hh => ⟨_, ⟨sx, hfo, rfl, rfl⟩, hh.tail.tail⟩
          rintro _ _ ⟨s14, ⟨e14, hm14, rfl⟩, rfl⟩
          refine p_nil ?_; refine g_seq ?_; refine g_region ?_; refine kPm rfl rfl ?_
          refine p_call rfl (en_f Tryz.call35 rfl) (up_at (q := DevA) (fun Fr => nfence_ok _ Fr _ _)) .free rfl rfl ?_ ?_
          rotate_left
          · rintro _ _ ⟨sx, ⟨hx, rfl⟩, rfl⟩
            have hfo : s.format c = .off sx := by
              simp [Dev.format, format_ok hc hn, hm1, hm2, hm3, hA, hm5, hm6, hB, hC, hm11, hm12, magicI, hm13, hm14, hx]
            exact pan_fn fun w hh => ⟨_, ⟨sx, hfo, rfl, rfl⟩, hh.tail.tail⟩
          rintro _ _ ⟨s15, ⟨e15, hm15, rfl⟩, rfl⟩
          refine p_nil ?_; refine go_sub (σ' := [(4, _)]) ⟨rfl, trivial⟩ ?_; refine g_seq ?_; refine g_region ?_; refine kPa rfl rfl ?_; refine p_nil ?_; refine g_ret ?_
          exact ret_tmp Tryz.results121 rfl (fun w hh => ⟨_, ⟨0, s15, by simp [Dev.format, format_ok hc hn, hm1, hm2, hm3, hA, hm5, hm6, hB, hC, hm11, hm12, magicI, hm13, hm14, hm15], rfl, rfl⟩, hh.tail.tail⟩)

end Go.Proofs.YtbfheafpecgphaaGreat
