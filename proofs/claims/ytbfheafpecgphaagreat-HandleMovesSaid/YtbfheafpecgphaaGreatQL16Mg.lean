/- Part of the texts beneath a law: what its proof names. Conditions: none. -/
import Derived.Test.YtbfheafpecgphaaGreatQL16Mf
set_option linter.unusedSimpArgs false
set_option linter.unusedVariables false
set_option linter.unnecessarySimpa false
set_option linter.unusedSectionVars false
namespace Go.Proofs.YtbfheafpecgphaaGreat
open Go
theorem cfgW_iff (c : Cfg) : CfgW c ↔ 1 ≤ c.roots ∧ c.roots ≤ 16 ∧ c.roots + 2 ≤ c.log ∧ c.log ≤ 200 ∧ 8 ≤ c.space ∧ c.space ≤ 4096 := ⟨fun h => ⟨h.r1, h.r2, h.l1, h.l2, h.s1, h.s2⟩, fun ⟨a, b, c, d, e, f⟩ => ⟨a, b, c, d, e, f⟩⟩
def chk (c : Cfg) : Int := if CfgW c then 0 else 1
theorem chk_w {c : Cfg} (h : (chk c != 0) = false) : CfgW c := by
  unfold chk at h; split at h
  · assumption
  · simp at h
def zeroN (f : Int → Int) : Nat → Int → Dev → Out Unit
  | 0, _, s => .ok () s
  | k + 1, i, s => (s.store (f i) 0).then fun _ s => (s.flush (f i)).then fun _ s => zeroN f k (i + 1) s
def magicI : Int := 6076848300954571569
def st3 (l : List Int) : Nat → Nat → Dev → Out Unit
  | 0, _, s => .ok () s
  | k + 1, i, s => (s.store (1 + (i : Int)) (l.getD i 0)).then fun _ s => st3 l k (i + 1) s
theorem l3_get {a b c : Int} {k : Nat} (h : k < 3) : ([i64 a, i64 b, i64 c] : List Value)[k]? = some (i64 ([a, b, c].getD k 0)) := by
  rcases (by omega : k = 0 ∨ k = 1 ∨ k = 2) with rfl | rfl | rfl <;> rfl
theorem l3_b {a b c : Int} {k : Nat} (h : k < 3) (ha : 0 ≤ a ∧ a ≤ 100000) (hb : 0 ≤ b ∧ b ≤ 100000) (hc : 0 ≤ c ∧ c ≤ 100000) : 0 ≤ [a, b, c].getD k 0 ∧ [a, b, c].getD k 0 ≤ 100000 := by
  rcases (by omega : k = 0 ∨ k = 1 ∨ k = 2) with rfl | rfl | rfl <;> simpa
def Dev.format (s : Dev) (c : Cfg) : Out Int :=
  if ¬ CfgW c ∨ (s.n : Int) ≠ c.words then .ok 1 s else
    (s.store 0 0).then fun _ s => (s.flush 0).then fun _ s => s.fence.then fun _ s =>
    (st3 [c.log, c.roots, c.space] 3 0 s).then fun _ s =>
    (s.store 8 1).then fun _ s => (s.flush 8).then fun _ s => (zeroN c.record c.log.toNat 0 s).then fun _ s =>
    (zeroN id (c.root c.roots - c.active).toNat c.active s).then fun _ s => (s.flush 0).then fun _ s => s.fence.then fun _ s =>
    (s.store 0 magicI).then fun _ s => (s.flush 0).then fun _ s => s.fence.then fun _ s => .ok 0 s
theorem check_ok (B : World) (H : List HP) (c : Cfg) :
    ∀ w, Holds B H w → Calls Tryz.prog 130 [cfgV c].toArray w (PureR B H (i64 (chk c))) := by
  refine fn_enter Tryz.func130 rfl Tryz.ntmps130 rfl ?_; refine g_seq ?_; refine g_region ?_; refine p_chg rfl (ch_boxA rfl) .free rfl rfl ?_
  rintro _ _ ⟨b1, rfl, rfl⟩
  refine kPa rfl rfl ?_; refine p_nil ?_; refine g_seq ?_; refine g_seq ?_; refine g_region ?_; refine kPv (ev_fa (m := _) fa_30_1 rfl rfl) rfl ?_; refine kPv (ev_load Tryz.isAgg3 rfl rfl) rfl ?_; refine kPv (ev_cmp rfl rfl rfl) rfl ?_; refine kPm rfl rfl ?_
  apply p_or (tp := 10) (t := 6) (σ1 := [(6, _), (2, _), (1, _)]) 4 rfl ⟨rfl, rfl, rfl, trivial⟩
  · intro hg1
    refine p_val rfl (ev_fa (m := _) fa_30_1 rfl rfl) (.on rfl rfl (beq_eq hg1)) rfl rfl ?_; refine p_val rfl (ev_load Tryz.isAgg3 rfl rfl) (.on rfl rfl (beq_eq hg1)) rfl rfl ?_; refine p_val rfl (ev_cmp rfl rfl rfl) (.on rfl rfl (beq_eq hg1)) rfl rfl ?_; refine kPv (ev_pick_f rfl hg1 rfl) rfl ?_
    exact p_seg rfl ⟨rfl, rfl, rfl, trivial⟩ (or_f hg1)
  · intro hg1
    refine p_skip rfl (.on rfl rfl (beq_ne hg1)) rfl ?_; refine p_skip rfl (.on rfl rfl (beq_ne hg1)) rfl ?_; refine p_skip rfl (.on rfl rfl (beq_ne hg1)) rfl ?_; refine kPv (ev_pick_t rfl hg1 rfl) rfl ?_
    exact p_seg rfl ⟨rfl, rfl, rfl, trivial⟩ (or_t hg1)
  refine kPm rfl rfl ?_
  apply p_or (tp := 18) (t := 11) (σ1 := [(11, _), (2, _), (1, _)]) 7 rfl ⟨rfl, rfl, rfl, trivial⟩
  · intro hg2
    refine p_val rfl (ev_fa (m := _) fa_30_0 rfl rfl) (.on rfl rfl (beq_eq hg2)) rfl rfl ?_; refine p_val rfl (ev_load Tryz.isAgg3 rfl rfl) (.on rfl rfl (beq_eq hg2)) rfl rfl ?_; refine p_val rfl (ev_fa (m := _) fa_30_1 rfl rfl) (.on rfl rfl (beq_eq hg2)) rfl rfl ?_; refine p_val rfl (ev_load Tryz.isAgg3 rfl rfl) (.on rfl rfl (beq_eq hg2)) rfl rfl ?_
    refine p_val rfl (ev_add (c := c.roots + 2) rfl rfl (by simp only [Bool.or_eq_false_iff, decide_eq_false_iff_not] at *; rw [wr64 (by omega)])) (.on rfl rfl (beq_eq hg2)) rfl rfl ?_
    refine p_val rfl (ev_cmp rfl rfl rfl) (.on rfl rfl (beq_eq hg2)) rfl rfl ?_; refine kPv (ev_pick_f rfl hg2 rfl) rfl ?_
    exact p_seg rfl ⟨rfl, rfl, rfl, trivial⟩ (or_f hg2)
  · intro hg2
    refine p_skip rfl (.on rfl rfl (beq_ne hg2)) rfl ?_; refine p_skip rfl (.on rfl rfl (beq_ne hg2)) rfl ?_; refine p_skip rfl (.on rfl rfl (beq_ne hg2)) rfl ?_; refine p_skip rfl (.on rfl rfl (beq_ne hg2)) rfl ?_; refine p_skip rfl (.on rfl rfl (beq_ne hg2)) rfl ?_; refine p_skip rfl (.on rfl rfl (beq_ne hg2)) rfl ?_; refine kPv (ev_pick_t rfl hg2 rfl) rfl ?_
    exact p_seg rfl ⟨rfl, rfl, rfl, trivial⟩ (or_t hg2)
  refine kPm rfl rfl ?_
  apply p_or (tp := 23) (t := 19) (σ1 := [(19, _), (2, _), (1, _)]) 4 rfl ⟨rfl, rfl, rfl, trivial⟩
  · intro hg3
    refine p_val rfl (ev_fa (m := _) fa_30_0 rfl rfl) (.on rfl rfl (beq_eq hg3)) rfl rfl ?_; refine p_val rfl (ev_load Tryz.isAgg3 rfl rfl) (.on rfl rfl (beq_eq hg3)) rfl rfl ?_; refine p_val rfl (ev_cmp rfl rfl rfl) (.on rfl rfl (beq_eq hg3)) rfl rfl ?_; refine kPv (ev_pick_f rfl hg3 rfl) rfl ?_
    exact p_seg rfl ⟨rfl, rfl, rfl, trivial⟩ (or_f hg3)
  · intro hg3
    refine p_skip rfl (.on rfl rfl (beq_ne hg3)) rfl ?_; refine p_skip rfl (.on rfl rfl (beq_ne hg3)) rfl ?_; refine p_skip rfl (.on rfl rfl (beq_ne hg3)) rfl ?_; refine kPv (ev_pick_t rfl hg3 rfl) rfl ?_
    exact p_seg rfl ⟨rfl, rfl, rfl, trivial⟩ (or_t hg3)
  refine kPm rfl rfl ?_
  apply p_or (tp := 28) (t := 24) (σ1 := [(24, _), (2, _), (1, _)]) 4 rfl ⟨rfl, rfl, rfl, trivial⟩
  · intro hg4
    refine p_val rfl (ev_fa (m := _) fa_30_2 rfl rfl) (.on rfl rfl (beq_eq hg4)) rfl rfl ?_; refine p_val rfl (ev_load Tryz.isAgg3 rfl rfl) (.on rfl rfl (beq_eq hg4)) rfl rfl ?_; refine p_val rfl (ev_cmp rfl rfl rfl) (.on rfl rfl (beq_eq hg4)) rfl rfl ?_; refine kPv (ev_pick_f rfl hg4 rfl) rfl ?_
    exact p_seg rfl ⟨rfl, rfl, rfl, trivial⟩ (or_f hg4)
  · intro hg4
    refine p_skip rfl (.on rfl rfl (beq_ne hg4)) rfl ?_; refine p_skip rfl (.on rfl rfl (beq_ne hg4)) rfl ?_; refine p_skip rfl (.on rfl rfl (beq_ne hg4)) rfl ?_; refine kPv (ev_pick_t rfl hg4 rfl) rfl ?_
    exact p_seg rfl ⟨rfl, rfl, rfl, trivial⟩ (or_t hg4)
  refine kPm rfl rfl ?_
  apply p_or (tp := 33) (t := 29) (σ1 := [(29, _), (2, _)]) 4 rfl ⟨rfl, rfl, trivial⟩
  · intro hg5
    refine p_val rfl (ev_fa (m := _) fa_30_2 rfl rfl) (.on rfl rfl (beq_eq hg5)) rfl rfl ?_; refine p_val rfl (ev_load Tryz.isAgg3 rfl rfl) (.on rfl rfl (beq_eq hg5)) rfl rfl ?_; refine p_val rfl (ev_cmp rfl rfl rfl) (.on rfl rfl (beq_eq hg5)) rfl rfl ?_; refine kPv (ev_pick_f rfl hg5 rfl) rfl ?_
    exact p_seg rfl ⟨rfl, rfl, trivial⟩ (or_f hg5)
  · intro hg5
    refine p_skip rfl (.on rfl rfl (beq_ne hg5)) rfl ?_; refine p_skip rfl (.on rfl rfl (beq_ne hg5)) rfl ?_; refine p_skip rfl (.on rfl rfl (beq_ne hg5)) rfl ?_; refine kPv (ev_pick_t rfl hg5 rfl) rfl ?_
    exact p_seg rfl ⟨rfl, rfl, trivial⟩ (or_t hg5)
  refine p_nil ?_
  refine g_if rfl (fun h33 => ?_) (fun h33 => ?_)
  · try simp only [decide_eq_true_eq, decide_eq_false_iff_not, Bool.not_eq_true', Bool.not_eq_false', Bool.or_eq_true, Bool.and_eq_true, Bool.and_eq_false_iff, Bool.or_eq_false_iff, beq_iff_eq, bne_iff_ne, beq_eq_false_iff_ne, bne_eq_false_iff_eq, ge_iff_le, gt_iff_lt, ne_eq] at h33
    refine g_seq ?_; refine g_region ?_; refine kPa rfl rfl ?_; refine p_nil ?_; refine g_ret ?_
    exact ret_tmp Tryz.results130 rfl (fun w hw => ⟨by unfold chk; rw [if_neg (by rw [cfgW_iff]; omega)], hw.tail⟩)
  · try simp only [decide_eq_true_eq, decide_eq_false_iff_not, Bool.not_eq_true', Bool.not_eq_false', Bool.or_eq_true, Bool.and_eq_true, Bool.and_eq_false_iff, Bool.or_eq_false_iff, beq_iff_eq, bne_iff_ne, beq_eq_false_iff_ne, bne_eq_false_iff_eq, ge_iff_le, gt_iff_lt, ne_eq] at h33
    refine g_skip ?_; refine g_seq ?_; refine g_region ?_; refine kPa rfl rfl ?_; refine p_nil ?_; refine g_ret ?_
    exact ret_tmp Tryz.results130 rfl (fun w hw => ⟨by unfold chk; rw [if_pos (by rw [cfgW_iff]; omega)], hw.tail⟩)
theorem format_ok {s : Dev} {c : Cfg} (h : CfgW c) (hn : (s.n : Int) = c.words) : ¬ (¬ CfgW c ∨ (s.n : Int) ≠ c.words) := by simp [h, hn]
theorem zeroN_add (f : Int → Int) : ∀ (k : Nat) (i : Int) (s : Dev), zeroN f (k + 1) i s = (s.store (f i) 0).then fun _ s => (s.flush (f i)).then fun _ s => zeroN f k (i + 1) s := fun _ _ _ => rfl
theorem format_ok2 (B : World) (Fr : List HP) (b : Nat) (s : Dev) (c : Cfg) :
    ∀ w, Holds B (DevA b s :: Fr) w → Calls Tryz.prog 121 [ptr b, cfgV c].toArray w (Ret B (fun rv H' => ∃ a s', s.format c = .ok a s' ∧ rv = i64 a ∧ H' = DevA b s' :: Fr) (fun k H' => ∃ s', s.format c = .off s' ∧ k = offc ∧ H' = DevA b s' :: Fr)) := by
  refine fn_enter Tryz.func121 rfl Tryz.ntmps121 rfl ?_; refine g_seq ?_; refine g_region ?_; refine p_chg rfl (ch_boxA rfl) .free rfl rfl ?_
  rintro _ _ ⟨b3, rfl, rfl⟩
  refine kPa rfl rfl ?_; refine p_nil ?_; refine g_seq ?_; refine g_seq ?_; refine g_draw Tryz.mixed (by kernel_rfl) (by kernel_rfl) ?_; refine kQv (ev_loadA Tryz.isAgg30 Tryz.sizeOf30 rfl rfl) rfl ?_; refine q_call rfl (en_f Tryz.call130 rfl) (check_ok _ _ c) .free rfl ?_; refine kQv (ev_cmp rfl rfl rfl) rfl ?_; refine kQm rfl rfl ?_
  apply q_or (tp := 18) (t := 12) (σ1 := [(12, _), (4, _), (3, _), (0, _)]) 6 rfl ⟨rfl, rfl, rfl, rfl, trivial⟩
  · intro hg1
    refine q_val rfl (ev_move rfl) (.on rfl rfl (beq_eq hg1)) rfl ?_; refine q_call rfl (en_f Tryz.call33 rfl) (ro_at (q := DevA) (fun Fr => nlen_ok _ Fr _ _)) (.on rfl rfl (beq_eq hg1)) rfl ?_; refine q_val rfl (ev_loadA Tryz.isAgg30 Tryz.sizeOf30 rfl rfl) (.on rfl rfl (beq_eq hg1)) rfl ?_; refine q_call rfl (en_f Tryz.call44 rfl) (cwords_ok _ _ c (chk_w hg1)) (.on rfl rfl (beq_eq hg1)) rfl ?_; refine q_val rfl (ev_cmp rfl rfl rfl) (.on rfl rfl (beq_eq hg1)) rfl ?_
    refine kQv (ev_pick_f rfl hg1 rfl) rfl ?_
    exact q_seg rfl ⟨rfl, rfl, rfl, rfl, trivial⟩ (or_f hg1)
  · intro hg1
    refine q_skip rfl (.on rfl rfl (beq_ne hg1)) rfl ?_; refine q_skip rfl (.on rfl rfl (beq_ne hg1)) rfl ?_; refine q_skip rfl (.on rfl rfl (beq_ne hg1)) rfl ?_; refine q_skip rfl (.on rfl rfl (beq_ne hg1)) rfl ?_; refine q_skip rfl (.on rfl rfl (beq_ne hg1)) rfl ?_; refine kQv (ev_pick_t rfl hg1 rfl) rfl ?_
    exact q_seg rfl ⟨rfl, rfl, rfl, rfl, trivial⟩ (or_t hg1)
  refine q_nil ?_
  refine g_if rfl (fun h18 => ?_) (fun h18 => ?_)
  · have hbad : ¬ CfgW c ∨ (s.n : Int) ≠ c.words := by
      by_cases q : CfgW c
      · right; simpa [chk, q] using h18
      · exact .inl q
    refine g_seq ?_; refine g_region ?_; refine kPa rfl rfl ?_; refine p_nil ?_; refine g_ret ?_
    exact ret_tmp Tryz.results121 rfl (fun w hh => ⟨_, ⟨1, s, by unfold Dev.format; rw [if_pos hbad], rfl, rfl⟩, hh.tail⟩)
  · have hgd : CfgW c ∧ (s.n : Int) = c.words := by
      by_cases q : CfgW c
      · exact ⟨q, by simpa [chk, q] using h18⟩
      · simp [chk, q] at h18
    obtain ⟨hc, hn⟩ := hgd
    have hc1 := hc.r1
    have hc2 := hc.r2
    have hc3 := hc.l1
    have hc4 := hc.l2
    have hc5 := hc.s1
    have hc6 := hc.s2
    have hact := hc.act
    refine g_skip ?_; refine g_seq ?_; refine g_region ?_; refine kPm rfl rfl ?_
    refine p_call rfl (en_f Tryz.call70 rfl) (up_at (q := DevA) (fun Fr => nstore_ok _ Fr _ _ _ _)) .free rfl rfl ?_ ?_
    rotate_left
    · rintro _ _ ⟨sx, ⟨hx, rfl⟩, rfl⟩
      have hfo : s.format c = .off sx := by
        simp [Dev.format, format_ok hc hn, hx]
      exact pan_fn fun w hh => ⟨_, ⟨sx, hfo, rfl, rfl⟩, hh.tail⟩
    rintro _ _ ⟨s1, ⟨e1, hm1, rfl⟩, rfl⟩
    refine p_nil ?_; refine g_seq ?_; refine g_region ?_; refine kPm rfl rfl ?_
    refine p_call rfl (en_f Tryz.call34 rfl) (up_at (q := DevA) (fun Fr => nflush_ok _ Fr _ _ _)) .free rfl rfl ?_ ?_
    rotate_left
    · rintro _ _ ⟨sx, ⟨hx, rfl⟩, rfl⟩
      have hfo : s.format c = .off sx := by
        simp [Dev.format, format_ok hc hn, hm1, hx]
      exact pan_fn fun w hh => ⟨_, ⟨sx, hfo, rfl, rfl⟩, hh.tail⟩
    rintro _ _ ⟨s2, ⟨e2, hm2, rfl⟩, rfl⟩
    refine p_nil ?_; refine g_seq ?_; refine g_region ?_; refine kPm rfl rfl ?_
    refine p_call rfl (en_f Tryz.call35 rfl) (up_at (q := DevA) (fun Fr => nfence_ok _ Fr _ _)) .free rfl rfl ?_ ?_
    rotate_left
    · rintro _ _ ⟨sx, ⟨hx, rfl⟩, rfl⟩
      have hfo : s.format c = .off sx := by
        simp [Dev.format, format_ok hc hn, hm1, hm2, hx]
      exact pan_fn fun w hh => ⟨_, ⟨sx, hfo, rfl, rfl⟩, hh.tail⟩
    rintro _ _ ⟨s3, ⟨e3, hm3, rfl⟩, rfl⟩
    refine p_nil ?_; refine go_sub (σ' := [(4, _), (3, _), (0, _)]) ⟨rfl, rfl, rfl, trivial⟩ ?_; refine g_seq ?_; refine g_seq ?_; refine g_region ?_; refine kPv (ev_fa (m := _) fa_30_0 rfl rfl) rfl ?_; refine kPv (ev_load Tryz.isAgg3 rfl rfl) rfl ?_; refine kPv (ev_fa (m := _) fa_30_1 rfl rfl) rfl ?_; refine kPv (ev_load Tryz.isAgg3 rfl rfl) rfl ?_; refine kPv (ev_fa (m := _) fa_30_2 rfl rfl) rfl ?_; refine kPv (ev_load Tryz.isAgg3 rfl rfl) rfl ?_
    refine p_chg rfl (ch_bs3 Tryz.runUnderlying34 Tryz.sizeOf3 Tryz.zeroValue3 rfl rfl rfl rfl rfl rfl rfl) .free rfl rfl ?_
    rintro _ _ ⟨b31, rfl, rfl⟩
    refine kPv (ev_len rfl Tryz.runUnderlying34 ⟨_, rfl⟩ rfl) rfl ?_; refine kPm rfl rfl ?_; refine p_nil ?_; refine g_block ?_
    refine g_loop (ι := Nat × Dev) (fun i => i.1 ≤ 3 ∧ st3 [c.log, c.roots, c.space] 3 0 s3 = st3 [c.log, c.roots, c.space] (3 - i.1) i.1 i.2) (fun i => [(0, ptr b), (3, ptr b3), (4, i64 0), (31, .slice (some ⟨b31, 0, none⟩) 3 3), (32, i64 3), (33, i64 i.1)]) (fun i => row b31 [i64 c.log, i64 c.roots, i64 c.space] 3 :: row b3 [i64 c.log, i64 c.roots, i64 c.space] 30 :: DevA b i.2 :: Fr) (fun i => 3 - i.1) (0, s3) ⟨Nat.zero_le _, rfl⟩ (fun a w st => st.to ⟨rfl, rfl, rfl, rfl, rfl, rfl, trivial⟩ id) ?_
    rintro ⟨k, sa⟩ ⟨hk1, hk2⟩
    simp only at hk1 hk2 ⊢
    refine g_seq ?_; refine g_region ?_; refine kPv (ev_cmp rfl rfl rfl) rfl ?_; refine p_nil ?_; refine g_seq ?_
    refine g_if rfl (fun h34 => ?_) (fun h34 => ?_)
    · have hk3 : k < 3 := by simp at h34; omega
      refine g_skip ?_; refine g_seq ?_; refine g_block ?_; refine g_seq ?_; refine g_region ?_
      have hlb := l3_b (k := k) hk3 (a := c.log) (b := c.roots) (c := c.space) (by omega) (by omega) (by omega)
      refine kPm rfl rfl ?_; refine kPv (ev_iaS Tryz.runUnderlying34 Tryz.sizeOf3 rfl rfl (by omega) (by omega)) rfl ?_; refine kPv (ev_load (v := i64 ([c.log, c.roots, c.space].getD k 0)) Tryz.isAgg3 rfl (by rw [Nat.zero_add, Int.toNat_natCast]; exact l3_get hk3)) rfl ?_
      refine kPa rfl rfl ?_; refine kPa rfl rfl ?_; refine p_nil ?_; refine go_sub (σ' := [(6, _), (5, _), (33, _), (32, _), (31, _), (4, _), (3, _), (0, _)]) ⟨rfl, rfl, rfl, rfl, rfl, rfl, rfl, rfl, trivial⟩ ?_; refine g_region ?_; refine kPm rfl rfl ?_; refine kPm rfl rfl ?_
      first | refine p_val rfl (ev_add rfl rfl (wr64 (by omega))) .free rfl rfl ?_ | refine p_val rfl (ev_add rfl rfl rfl) .free rfl rfl ?_
      refine kPm rfl rfl ?_
      first | refine p_val rfl (ev_conv Tryz.runUnderlying3 Tryz.runUnderlying52 rfl (wru64 (by omega))) .free rfl rfl ?_ | refine p_val rfl (ev_conv Tryz.runUnderlying3 Tryz.runUnderlying52 rfl rfl) .free rfl rfl ?_
      refine p_call rfl (en_f Tryz.call70 rfl) (up_at (q := DevA) (fun Fr => nstore_ok _ Fr _ _ _ _)) .free rfl rfl ?_ ?_
      rotate_left
      · rintro _ _ ⟨sx, ⟨hx, rfl⟩, rfl⟩
        have hfo : s.format c = .off sx := by
          have hz : st3 [c.log, c.roots, c.space] 3 0 s3 = .off sx := by rw [hk2, show 3 - k = (3 - (k + 1)) + 1 by omega]; simp only [st3]; rw [hx]; rfl
          simp [Dev.format, format_ok hc hn, hm1, hm2, hm3, hz]
        exact pan_fn fun w hh => ⟨_, ⟨sx, hfo, rfl, rfl⟩, hh.tail.tail⟩
      rintro _ _ ⟨s4, ⟨e4, hm4, rfl⟩, rfl⟩
      refine p_nil ?_; refine go_sub (σ' := [(33, _), (32, _), (31, _), (4, _), (3, _), (0, _)]) ⟨rfl, rfl, rfl, rfl, rfl, rfl, trivial⟩ ?_; refine g_region ?_
      first | refine p_val rfl (ev_add rfl rfl (wr64 (by omega))) .free rfl rfl ?_ | refine p_val rfl (ev_add rfl rfl rfl) .free rfl rfl ?_
      refine kPm rfl rfl ?_; refine p_nil ?_
      exact fun a w st => ⟨(k + 1, s4), ⟨by simp only; omega, by simp only; rw [hk2, show 3 - k = (3 - (k + 1)) + 1 by omega]; simp only [st3]; rw [hm4]; rfl⟩, by simp only; omega, st.to ⟨rfl, rfl, rfl, rfl, rfl, rfl, trivial⟩ id⟩
    · have hk3 : ¬ k < 3 := by simp at h34; omega
      have hA : st3 [c.log, c.roots, c.space] 3 0 s3 = .ok () sa := by
        rw [hk2, show 3 - k = 0 by omega]; rfl
      refine g_exit ?_; refine g_seq ?_; refine g_region ?_; refine kPm rfl rfl ?_
      refine p_call rfl (en_f Tryz.call70 rfl) (up_at (q := DevA) (fun Fr => nstore_ok _ Fr _ _ _ _)) .free rfl rfl ?_ ?_
      rotate_left
      · rintro _ _ ⟨sx, ⟨hx, rfl⟩, rfl⟩
        have hfo : s.format c = .off sx := by
          simp [Dev.format, format_ok hc hn, hm1, hm2, hm3, hA, hx]
        exact pan_fn fun w hh => ⟨_, ⟨sx, hfo, rfl, rfl⟩, hh.tail.tail⟩
      rintro _ _ ⟨s5, ⟨e5, hm5, rfl⟩, rfl⟩
      refine p_nil ?_; refine go_sub (σ' := [(4, _), (3, _), (0, _)]) ⟨rfl, rfl, rfl, trivial⟩ ?_; refine g_seq ?_; refine g_region ?_; refine kPm rfl rfl ?_
      refine p_call rfl (en_f Tryz.call34 rfl) (up_at (q := DevA) (fun Fr => nflush_ok _ Fr _ _ _)) .free rfl rfl ?_ ?_
      rotate_left
      · rintro _ _ ⟨sx, ⟨hx, rfl⟩, rfl⟩
        have hfo : s.format c = .off sx := by
          simp [Dev.format, format_ok hc hn, hm1, hm2, hm3, hA, hm5, hx]
        exact pan_fn fun w hh => ⟨_, ⟨sx, hfo, rfl, rfl⟩, hh.tail.tail⟩
      rintro _ _ ⟨s6, ⟨e6, hm6, rfl⟩, rfl⟩
      refine p_nil ?_; refine g_seq ?_; refine g_seq ?_; refine g_region ?_; refine kPa rfl rfl ?_; refine p_nil ?_; refine g_block ?_
      refine g_loop (ι := Int × Dev) (fun i => (0 ≤ i.1 ∧ i.1 ≤ c.log) ∧ zeroN c.record c.log.toNat 0 s6 = zeroN c.record (c.log - i.1).toNat i.1 i.2) (fun i => [(0, ptr b), (3, ptr b3), (4, i64 0), (7, i64 i.1)]) (fun i => row b31 [i64 c.log, i64 c.roots, i64 c.space] 3 :: row b3 [i64 c.log, i64 c.roots, i64 c.space] 30 :: DevA b i.2 :: Fr) (fun i => (c.log - i.1).toNat) (0, s6) ⟨⟨by simp only; omega, by simp only; omega⟩, by simp only; rw [Int.sub_zero]⟩ (fun a w st => st.to ⟨rfl, rfl, rfl, rfl, trivial⟩ id) ?_
      rintro ⟨i, sb⟩ ⟨⟨hi1, hi2⟩, hi3⟩
      simp only at hi1 hi2 hi3 ⊢
      have hri : 16 ≤ c.record i ∧ c.record i ≤ 10000 := by simp only [Cfg.record]; omega
      refine g_seq ?_; refine g_seq ?_; refine g_region ?_; refine kPm rfl rfl ?_; refine kPv (ev_fa (m := _) fa_30_0 rfl rfl) rfl ?_; refine kPv (ev_load Tryz.isAgg3 rfl rfl) rfl ?_; refine kPv (ev_cmp rfl rfl rfl) rfl ?_; refine p_nil ?_
      refine g_if rfl (fun h52 => ?_) (fun h52 => ?_)
      · have hlt : i < c.log := by simpa using h52
        refine g_skip ?_; refine g_seq ?_; refine g_block ?_; refine g_seq ?_; refine g_region ?_; refine kPm rfl rfl ?_; refine kPv (ev_loadA Tryz.isAgg30 Tryz.sizeOf30 rfl rfl) rfl ?_; refine kPm rfl rfl ?_; refine p_callq rfl (en_f Tryz.call87 rfl) (record_ok _ _ c _ (by omega) (by omega)) .free rfl rfl ?_
        refine p_call rfl (en_f Tryz.call70 rfl) (up_at (q := DevA) (fun Fr => nstore_ok _ Fr _ _ _ _)) .free rfl rfl ?_ ?_
        rotate_left
        · rintro _ _ ⟨sx, ⟨hx, rfl⟩, rfl⟩
          have hfo : s.format c = .off sx := by
            have hz : zeroN c.record c.log.toNat 0 s6 = .off sx := by rw [hi3, show (c.log - i).toNat = (c.log - (i + 1)).toNat + 1 by omega]; simp only [zeroN]; rw [hx]; rfl
            simp [Dev.format, format_ok hc hn, hm1, hm2, hm3, hA, hm5, hm6, hz]
          exact pan_fn fun w hh => ⟨_, ⟨sx, hfo, rfl, rfl⟩, hh.tail.tail⟩
        rintro _ _ ⟨s7, ⟨e7, hm7, rfl⟩, rfl⟩
        refine p_nil ?_; refine go_sub (σ' := [(7, _), (4, _), (3, _), (0, _)]) ⟨rfl, rfl, rfl, rfl, trivial⟩ ?_; refine g_region ?_; refine kPm rfl rfl ?_; refine kPv (ev_loadA Tryz.isAgg30 Tryz.sizeOf30 rfl rfl) rfl ?_; refine kPm rfl rfl ?_; refine p_callq rfl (en_f Tryz.call87 rfl) (record_ok _ _ c _ (by omega) (by omega)) .free rfl rfl ?_
        refine p_call rfl (en_f Tryz.call34 rfl) (up_at (q := DevA) (fun Fr => nflush_ok _ Fr _ _ _)) .free rfl rfl ?_ ?_
        rotate_left
        · rintro _ _ ⟨sx, ⟨hx, rfl⟩, rfl⟩
          have hfo : s.format c = .off sx := by
            have hz : zeroN c.record c.log.toNat 0 s6 = .off sx := by rw [hi3, show (c.log - i).toNat = (c.log - (i + 1)).toNat + 1 by omega]; simp only [zeroN]; rw [hm7, then_ok, hx]; rfl
            simp [Dev.format, format_ok hc hn, hm1, hm2, hm3, hA, hm5, hm6, hz]
          exact pan_fn fun w hh => ⟨_, ⟨sx, hfo, rfl, rfl⟩, hh.tail.tail⟩
        rintro _ _ ⟨s8, ⟨e8, hm8, rfl⟩, rfl⟩
        refine p_nil ?_; refine g_region ?_; refine kPm rfl rfl ?_
        first | refine p_val rfl (ev_add rfl rfl (wr64 (by omega))) .free rfl rfl ?_ | refine p_val rfl (ev_add rfl rfl rfl) .free rfl rfl ?_
        refine kPa rfl rfl ?_; refine p_nil ?_; refine go_sub (σ' := [(7, _), (4, _), (3, _), (0, _)]) ⟨rfl, rfl, rfl, rfl, trivial⟩ ?_
        exact fun a w st => ⟨(i + 1, s8), ⟨⟨by simp only; omega, by simp only; omega⟩, by simp only; rw [hi3, show (c.log - i).toNat = (c.log - (i + 1)).toNat + 1 by omega]; simp only [zeroN]; rw [hm7, then_ok, hm8]; rfl⟩, by simp only; omega, st.to ⟨rfl, rfl, rfl, rfl, trivial⟩ id⟩
      · have hlt : ¬ i < c.log := by simpa using h52
        have hB : zeroN c.record c.log.toNat 0 s6 = .ok () sb := by
          rw [hi3, show (c.log - i).toNat = 0 by omega]; rfl
        refine g_exit ?_; refine g_seq ?_; refine g_seq ?_; refine g_region ?_; refine kPv (ev_loadA Tryz.isAgg30 Tryz.sizeOf30 rfl rfl) rfl ?_; refine p_callq rfl (en_f Tryz.call45 rfl) (active_ok _ _ c hc) .free rfl rfl ?_; refine kPa rfl rfl ?_; refine p_nil ?_; refine go_sub (σ' := [(8, _), (4, _), (3, _), (0, _)]) ⟨rfl, rfl, rfl, rfl, trivial⟩ ?_; refine g_block ?_
        have hroot : c.active ≤ c.root c.roots ∧ c.root c.roots ≤ 2000 := by simp only [Cfg.root]; omega
        refine g_loop (ι := Int × Dev) (fun i => (c.active ≤ i.1 ∧ i.1 ≤ c.root c.roots) ∧ zeroN id (c.root c.roots - c.active).toNat c.active sb = zeroN id (c.root c.roots - i.1).toNat i.1 i.2) (fun i => [(0, ptr b), (3, ptr b3), (4, i64 0), (8, i64 i.1)]) (fun i => row b31 [i64 c.log, i64 c.roots, i64 c.space] 3 :: row b3 [i64 c.log, i64 c.roots, i64 c.space] 30 :: DevA b i.2 :: Fr) (fun i => (c.root c.roots - i.1).toNat) (c.active, sb) ⟨⟨by simp only; omega, by simp only; omega⟩, rfl⟩ (fun a w st => st.to ⟨rfl, rfl, rfl, rfl, trivial⟩ id) ?_
        rintro ⟨j, sc⟩ ⟨⟨hj1, hj2⟩, hj3⟩
        simp only at hj1 hj2 hj3 ⊢
        refine g_seq ?_; refine g_seq ?_; refine g_region ?_; refine kPm rfl rfl ?_; refine kPv (ev_loadA Tryz.isAgg30 Tryz.sizeOf30 rfl rfl) rfl ?_; refine kPv (ev_fa (m := _) fa_30_1 rfl rfl) rfl ?_; refine kPv (ev_load Tryz.isAgg3 rfl rfl) rfl ?_; refine p_callq rfl (en_f Tryz.call71 rfl) (root_ok _ _ c hc _ (by omega) (by omega)) .free rfl rfl ?_; refine kPv (ev_cmp rfl rfl rfl) rfl ?_; refine p_nil ?_
        refine g_if rfl (fun h72 => ?_) (fun h72 => ?_)
        · have hlt2 : j < c.root c.roots := by simpa using h72
          refine g_skip ?_; refine g_seq ?_; refine g_block ?_; refine g_seq ?_; refine g_region ?_; refine kPm rfl rfl ?_; refine kPm rfl rfl ?_
          refine p_call rfl (en_f Tryz.call70 rfl) (up_at (q := DevA) (fun Fr => nstore_ok _ Fr _ _ _ _)) .free rfl rfl ?_ ?_
          rotate_left
          · rintro _ _ ⟨sx, ⟨hx, rfl⟩, rfl⟩
            have hfo : s.format c = .off sx := by
              have hz : zeroN id (c.root c.roots - c.active).toNat c.active sb = .off sx := by rw [hj3, show (c.root c.roots - j).toNat = (c.root c.roots - (j + 1)).toNat + 1 by omega]; simp only [zeroN, id]; rw [hx]; rfl
              simp [Dev.format, format_ok hc hn, hm1, hm2, hm3, hA, hm5, hm6, hB, hz]
            exact pan_fn fun w hh => ⟨_, ⟨sx, hfo, rfl, rfl⟩, hh.tail.tail⟩
          rintro _ _ ⟨s9, ⟨e9, hm9, rfl⟩, rfl⟩
          refine p_nil ?_; refine go_sub (σ' := [(8, _), (4, _), (3, _), (0, _)]) ⟨rfl, rfl, rfl, rfl, trivial⟩ ?_; refine g_region ?_; refine kPm rfl rfl ?_; refine kPm rfl rfl ?_
          refine p_call rfl (en_f Tryz.call34 rfl) (up_at (q := DevA) (fun Fr => nflush_ok _ Fr _ _ _)) .free rfl rfl ?_ ?_
          rotate_left
          · rintro _ _ ⟨sx, ⟨hx, rfl⟩, rfl⟩
            have hfo : s.format c = .off sx := by
              have hz : zeroN id (c.root c.roots - c.active).toNat c.active sb = .off sx := by rw [hj3, show (c.root c.roots - j).toNat = (c.root c.roots - (j + 1)).toNat + 1 by omega]; simp only [zeroN, id]; rw [hm9, then_ok, hx]; rfl
              simp [Dev.format, format_ok hc hn, hm1, hm2, hm3, hA, hm5, hm6, hB, hz]
            exact pan_fn fun w hh => ⟨_, ⟨sx, hfo, rfl, rfl⟩, hh.tail.tail⟩
          rintro _ _ ⟨s10, ⟨e10, hm10, rfl⟩, rfl⟩
          refine p_nil ?_; refine g_region ?_; refine kPm rfl rfl ?_
          first | refine p_val rfl (ev_add rfl rfl (wr64 (by omega))) .free rfl rfl ?_ | refine p_val rfl (ev_add rfl rfl rfl) .free rfl rfl ?_
          refine kPa rfl rfl ?_; refine p_nil ?_
          exact fun a w st => ⟨(j + 1, s10), ⟨⟨by simp only; omega, by simp only; omega⟩, by simp only; rw [hj3, show (c.root c.roots - j).toNat = (c.root c.roots - (j + 1)).toNat + 1 by omega]; simp only [zeroN, id]; rw [hm9, then_ok, hm10]; rfl⟩, by simp only; omega, st.to ⟨rfl, rfl, rfl, rfl, trivial⟩ id⟩
        · have hlt2 : ¬ j < c.root c.roots := by simpa using h72
          have hC : zeroN id (c.root c.roots - c.active).toNat c.active sb = .ok () sc := by
            rw [hj3, show (c.root c.roots - j).toNat = 0 by omega]; rfl
          refine g_exit ?_; refine g_seq ?_; refine g_region ?_; refine kPm rfl rfl ?_
          refine p_call rfl (en_f Tryz.call34 rfl) (up_at (q := DevA) (fun Fr => nflush_ok _ Fr _ _ _)) .free rfl rfl ?_ ?_
          rotate_left
          · rintro _ _ ⟨sx, ⟨hx, rfl⟩, rfl⟩
            have hfo : s.format c = .off sx := by
              simp [Dev.format, format_ok hc hn, hm1, hm2, hm3, hA, hm5, hm6, hB, hC, hx]
            exact pan_fn fun w hh => ⟨_, ⟨sx, hfo, rfl, rfl⟩, hh.tail.tail⟩
          rintro _ _ ⟨s11, ⟨e11, hm11, rfl⟩, rfl⟩
          refine p_nil ?_; refine go_sub (σ' := [(4, _), (0, _)]) ⟨rfl, rfl, trivial⟩ ?_; refine g_seq ?_; refine g_region ?_; refine kPm rfl rfl ?_
          refine p_call rfl (en_f Tryz.call35 rfl) (up_at (q := DevA) (fun Fr => nfence_ok _ Fr _ _)) .free rfl rfl ?_ ?_
          rotate_left
          · rintro _ _ ⟨sx, ⟨hx, rfl⟩, rfl⟩
            have hfo : s.format c = .off sx := by
              simp [Dev.format, format_ok hc hn, hm1, hm2, hm3, hA, hm5, hm6, hB, hC, hm11, hx]
            exact pan_fn fun w hh => ⟨_, ⟨sx, hfo, rfl, rfl⟩, hh.tail.tail⟩
          rintro _ _ ⟨s12, ⟨e12, hm12, rfl⟩, rfl⟩
          refine p_nil ?_; refine g_seq ?_; refine g_region ?_; refine kPm rfl rfl ?_
          refine p_call rfl (en_f Tryz.call70 rfl) (up_at (q := DevA) (fun Fr => nstore_ok _ Fr _ _ _ _)) .free rfl rfl ?_ ?_
          rotate_left
          · rintro _ _ ⟨sx, ⟨hx, rfl⟩, rfl⟩
            have hfo : s.format c = .off sx := by
              simp [Dev.format, format_ok hc hn, hm1, hm2, hm3, hA, hm5, hm6, hB, hC, hm11, hm12, magicI, hx]
            exact pan_fn fun w hh => ⟨_, ⟨sx, hfo, rfl, rfl⟩, hh.tail.tail⟩
          rintro _ _ ⟨s13, ⟨e13, hm13, rfl⟩, rfl⟩
          refine p_nil ?_; refine g_seq ?_; refine g_region ?_; refine kPm rfl rfl ?_
          refine p_call rfl (en_f Tryz.call34 rfl) (up_at (q := DevA) (fun Fr => nflush_ok _ Fr _ _ _)) .free rfl rfl ?_ ?_
          rotate_left
          · rintro _ _ ⟨sx, ⟨hx, rfl⟩, rfl⟩
            have hfo : s.format c = .off sx := by
              simp [Dev.format, format_ok hc hn, hm1, hm2, hm3, hA, hm5, hm6, hB, hC, hm11, hm12, magicI, hm13, hx]
            exact pan_fn fun w hh => ⟨_, ⟨sx, hfo, rfl, rfl⟩, hh.tail.tail⟩
          rintro _ _ ⟨s14, ⟨e14, hm14, rfl⟩, rfl⟩
          refine p_nil ?_; refine g_seq ?_; refine g_region ?_; refine kPm rfl rfl ?_
          refine p_call rfl (en_f Tryz.call35 rfl) (up_at (q := DevA) (fun Fr => nfence_ok _ Fr _ _)) .free rfl rfl ?_ ?_
          rotate_left
          · rintro _ _ ⟨sx, ⟨hx, rfl⟩, rfl⟩
            have hfo : s.format c = .off sx := by
              simp [Dev.format, format_ok hc hn, hm1, hm2, hm3, hA, hm5, hm6, hB, hC, hm11, hm12, magicI, hm13, hm14, hx]
            exact pan_fn fun w hh => ⟨_, ⟨sx, hfo, rfl, rfl⟩, hh.tail.tail⟩
          rintro _ _ ⟨s15, ⟨e15, hm15, rfl⟩, rfl⟩
          refine p_nil ?_; refine go_sub (σ' := [(4, _)]) ⟨rfl, trivial⟩ ?_; refine g_seq ?_; refine g_region ?_; refine kPa rfl rfl ?_; refine p_nil ?_; refine g_ret ?_
          exact ret_tmp Tryz.results121 rfl (fun w hh => ⟨_, ⟨0, s15, by simp [Dev.format, format_ok hc hn, hm1, hm2, hm3, hA, hm5, hm6, hB, hC, hm11, hm12, magicI, hm13, hm14, hm15], rfl, rfl⟩, hh.tail.tail⟩)
end Go.Proofs.YtbfheafpecgphaaGreat
namespace Go.Proofs.YtbfheafpecgphaaGreat
open Go
theorem out_ne {p : Pow} (h : p.lim < 0) : p.out = false := by simp [Pow.out]; omega
theorem store_ne {s : Dev} {i v : Int} (h : s.pow.lim < 0) (hi : 0 ≤ i ∧ i < s.n) : s.store i v = .ok 0 (s.up.st i.toNat v) := by
  have : s.has i = true := by simp [Dev.has, hi]
  simp [Dev.store, this, out_ne h]
theorem flush_ne {s : Dev} {i : Int} (h : s.pow.lim < 0) (hi : 0 ≤ i ∧ i < s.n) : s.flush i = .ok 0 (s.up.fl i.toNat) := by
  have : s.has i = true := by simp [Dev.has, hi]
  simp [Dev.flush, this, out_ne h]
theorem fence_ne {s : Dev} (h : s.pow.lim < 0) : s.fence = .ok () s.up.fe := by simp [Dev.fence, out_ne h]
theorem ret_b {x : Bool} (h : x = true) : Ending.returned (.bool x) = Ending.returned (.bool true) := by rw [h]
theorem ok_inj {α : Type} {a b : α} {s t : Dev} (h : Out.ok a s = Out.ok b t) : a = b ∧ s = t := by cases h; exact ⟨rfl, rfl⟩
theorem ok_off {α : Type} {a : α} {s t : Dev} (h : Out.ok a s = Out.off t) : False := by cases h
theorem aw1_ok (B : World) (Fr : List HP) (bp pb : Nat) :
    ∀ w, Holds B (row bp [ptr pb] 77 :: PowA pb ⟨1, 0⟩ :: Fr) w → Calls Tryz.prog 163 [ptr bp].toArray w (Ret B (fun _ _ => False) (fun c H' => c = offc ∧ H' = row bp [ptr pb] 77 :: PowA pb ⟨1, 1⟩ :: Fr)) := by
  refine fn_enter Tryz.func163 rfl Tryz.ntmps163 rfl ?_; refine g_seq ?_; refine g_region ?_; refine kPv (ev_load Tryz.isAgg77 rfl rfl) rfl ?_
  refine p_call rfl (en_f Tryz.call85 rfl) (up_at (fun Fr => tick_ok _ Fr _ _)) .free rfl rfl ?_ ?_
  rotate_left
  · rintro _ _ ⟨_, ⟨ho, rfl, rfl⟩, rfl⟩
    first | (exfalso; revert ho; decide) | exact pan_fn fun w hw => ⟨_, ⟨rfl, rfl⟩, hw⟩
  rintro _ _ ⟨_, ⟨ho, rfl, rfl⟩, rfl⟩
  refine p_nil ?_; refine g_region ?_; refine kPv (ev_load Tryz.isAgg77 rfl rfl) rfl ?_
  refine p_call rfl (en_f Tryz.call85 rfl) (up_at (fun Fr => tick_ok _ Fr _ _)) .free rfl rfl ?_ ?_
  rotate_left
  · rintro _ _ ⟨_, ⟨ho, rfl, rfl⟩, rfl⟩
    first | (exfalso; revert ho; decide) | exact pan_fn fun w hw => ⟨_, ⟨rfl, rfl⟩, hw⟩
  rintro _ _ ⟨_, ⟨ho, rfl, rfl⟩, rfl⟩
  exfalso; revert ho; decide
theorem aw2_ok (B : World) (H : List HP) :
    ∀ w, Holds B H w → Calls Tryz.prog 165 [].toArray w (PureR B H (.tuple #[])) := by
  refine fn_enter Tryz.func165 rfl Tryz.ntmps165 rfl ?_; refine g_skip ?_
  exact end_none Tryz.results165 (fun w hw => ⟨rfl, hw⟩)
theorem awake1_ok (B : World) (H : List HP) :
    ∀ w, Holds B H w → Calls Tryz.prog 161 [].toArray w (PureR B H (.bool true)) := by
  refine fn_enter Tryz.func161 rfl Tryz.ntmps161 rfl ?_; refine g_seq ?_; refine g_region ?_; refine kPa rfl rfl ?_; refine p_nil ?_; refine g_seq ?_; refine g_region ?_
  refine p_call rfl (en_f Tryz.call37 rfl) (pnew_ok _ _ _) .free rfl rfl ?_ ?_
  rotate_left
  · rintro _ _ ⟨⟩
  rintro _ _ ⟨pb, rfl, rfl⟩
  refine p_chg rfl (ch_alloc1 Tryz.zeroValue77 rfl) .free rfl rfl ?_
  rintro _ _ ⟨b1, rfl, rfl⟩
  refine p_chg0 rfl (ch_store Tryz.sizeOf77 rfl rfl rfl rfl) .free rfl ?_
  rintro _ _ rfl
  refine p_nil ?_; refine g_seq ?_; refine g_seq ?_; refine g_region ?_; refine kPv (ev_load Tryz.isAgg77 rfl rfl) rfl ?_; refine kPv (ev_eqp Tryz.runUnderlying77 rfl rfl rfl) rfl ?_; refine p_nil ?_; refine g_iff rfl (rfl) ?_; refine g_skip ?_; refine g_seq ?_; refine g_region ?_; refine kPv (ev_mkf rfl rfl) rfl ?_
  refine p_call rfl (en_f Tryz.call38 rfl) (run_det false (row b1 [ptr pb] 77 :: PowA pb ⟨1, 1⟩ :: H) Tryz.call163 (fun A w hw => (aw1_ok B (A :: H) b1 pb w ((hw.front 2 rfl).front 2 rfl)).mono (Ret.mono (fun _ _ h => h.elim) (fun c H' h => ⟨rfl, h.1, fun w hw => h.2 ▸ hw |>.front 2 rfl⟩)))) .free rfl rfl ?_ ?_
  rotate_left
  · rintro _ _ ⟨⟩
  rintro _ _ ⟨rfl, rfl⟩
  refine kPa rfl rfl ?_; refine p_nil ?_; refine g_seq ?_; refine g_region ?_; refine kPm rfl rfl ?_; refine kPv (ev_not rfl) rfl ?_; refine kPm rfl rfl ?_
  apply p_and (tp := 14) (t := 10) (σ1 := [(10, _), (0, _)]) 4 rfl ⟨rfl, rfl, trivial⟩
  · intro hg1
    refine p_val rfl (ev_load Tryz.isAgg77 rfl rfl) (.on rfl rfl (beq_eq hg1)) rfl rfl ?_; refine p_callq rfl (en_f Tryz.call164 rfl) (ro_at (fun Fr => used_ok _ Fr _ _)) (.on rfl rfl (beq_eq hg1)) rfl rfl ?_; refine p_val rfl (ev_cmp rfl rfl rfl) (.on rfl rfl (beq_eq hg1)) rfl rfl ?_; refine kPv (ev_pick_t rfl hg1 rfl) rfl ?_
    exact p_seg rfl ⟨rfl, rfl, trivial⟩ (and_t hg1)
  · intro hg1
    refine p_skip rfl (.on rfl rfl (beq_ne hg1)) rfl ?_; refine p_skip rfl (.on rfl rfl (beq_ne hg1)) rfl ?_; refine p_skip rfl (.on rfl rfl (beq_ne hg1)) rfl ?_; refine kPv (ev_pick_f rfl hg1 rfl) rfl ?_
    exact p_seg rfl ⟨rfl, rfl, trivial⟩ (and_f hg1)
  refine kPm rfl rfl ?_
  apply p_and (tp := 17) (t := 15) (σ1 := [(15, _), (0, _)]) 2 rfl ⟨rfl, rfl, trivial⟩
  · intro hg2
    refine p_call rfl (en_f Tryz.call38 rfl) (run_det true (row b1 [ptr pb] 77 :: PowA pb ⟨1, 1⟩ :: H) Tryz.call165 (fun A w hw => (aw2_ok B _ w hw).mono fun _ _ h => h.ret ⟨rfl, fun _ h => h⟩)) (.on rfl rfl (beq_eq hg2)) rfl rfl ?_ ?_
    rotate_left
    · rintro _ _ ⟨⟩
    rintro _ _ ⟨rfl, rfl⟩
    refine kPv (ev_pick_t rfl hg2 rfl) rfl ?_
    exact p_seg rfl ⟨rfl, rfl, trivial⟩ (and_t hg2)
  · intro hg2
    refine p_skip rfl (.on rfl rfl (beq_ne hg2)) rfl ?_; refine kPv (ev_pick_f rfl hg2 rfl) rfl ?_
    exact p_seg rfl ⟨rfl, rfl, trivial⟩ (and_f hg2)
  refine kPa rfl rfl ?_; refine p_nil ?_; refine g_ret ?_
  exact ret_tmp Tryz.results161 rfl (fun w hw => ⟨rfl, hw.tail.tail⟩)
theorem new2_ok (B : World) (Fr : List HP) (sv : Value) (xs : List Int) (hx0 : 0 < xs.length) (hx1 : xs.length ≤ 100000) (hr : SlR B Fr sv (xs.map w64)) :
    ∀ w, Holds B Fr w → Calls Tryz.prog 21 [sv].toArray w (Ret B (fun rv H' => ∃ b pa, rv = ptr b ∧ H' = DevA b ⟨pa, ⟨-1, 0⟩, (xs.length + 7) / 8 * 8, fun i => xs.getD i 0, fun i => xs.getD i 0, fun _ => none⟩ :: Fr) (fun _ _ => False)) := by
  refine fn_enter Tryz.func21 rfl Tryz.ntmps21 rfl ?_; refine g_seq ?_; refine g_region ?_; refine kPa rfl rfl ?_; refine p_nil ?_; refine g_seq ?_; refine g_region ?_
  refine p_call rfl (en_f Tryz.call37 rfl) (pnew_ok _ _ _) .free rfl rfl ?_ ?_
  rotate_left
  · rintro _ _ ⟨⟩
  rintro _ _ ⟨pb, rfl, rfl⟩
  refine kPm rfl rfl ?_
  refine p_call rfl (en_f Tryz.call79 rfl) (nnew_ok _ _ _ _ _ xs hx0 hx1 hr) .free rfl rfl ?_ ?_
  rotate_left
  · rintro _ _ ⟨⟩
  rintro _ _ ⟨b, rfl, rfl⟩
  refine kPa rfl rfl ?_; refine p_nil ?_; refine g_ret ?_
  exact ret_tmp Tryz.results21 rfl (fun w hw => ⟨_, ⟨b, pb, rfl, rfl⟩, hw⟩)
theorem aw21_ok (B : World) (H : List HP) (i : Int) :
    ∀ w, Holds B H w → Calls Tryz.prog 162 [i64 i].toArray w (PureR B H (.int .u8 0)) := by
  refine fn_enter Tryz.func162 rfl Tryz.ntmps162 rfl ?_; refine g_seq ?_; refine g_region ?_; refine kPa rfl rfl ?_; refine p_nil ?_; refine g_seq ?_; refine g_region ?_; refine kPa rfl rfl ?_; refine p_nil ?_; refine g_ret ?_
  exact ret_tmp Tryz.results162 rfl (fun w hw => ⟨rfl, hw⟩)
theorem awake2_ok (B : World) (H : List HP) :
    ∀ w, Holds B H w → Calls Tryz.prog 160 [].toArray w (PureR B H (.bool true)) := by
  refine fn_enter Tryz.func160 rfl Tryz.ntmps160 rfl ?_; refine g_seq ?_; refine g_region ?_; refine kPa rfl rfl ?_; refine p_nil ?_; refine g_seq ?_; refine g_seq ?_; refine g_region ?_; refine p_callq rfl (en_f Tryz.call161 rfl) (awake1_ok _ _) .free rfl rfl ?_; refine kPv (ev_not rfl) rfl ?_; refine p_nil ?_; refine g_iff rfl (rfl) ?_; refine g_skip ?_; refine g_seq ?_; refine g_region ?_
  refine p_chg rfl (ch_bs1 Tryz.runUnderlying31 Tryz.sizeOf52 Tryz.zeroValue52 rfl rfl rfl) .free rfl rfl ?_
  rintro _ _ ⟨b6, rfl, rfl⟩
  refine p_call rfl (en_f Tryz.call21 rfl) (new2_ok _ _ _ [1] (by decide) (by decide) (SlR.row rfl rfl)) .free rfl rfl ?_ ?_
  rotate_left
  · rintro _ _ ⟨⟩
  rintro _ _ ⟨bd, pa, rfl, rfl⟩
  refine kPa rfl rfl ?_; refine p_nil ?_; refine g_seq ?_; refine g_seq ?_; refine g_region ?_; refine kPm rfl rfl ?_; refine kPv (ev_eqp Tryz.runUnderlying28 rfl rfl rfl) rfl ?_; refine p_nil ?_; refine g_iff rfl (rfl) ?_; refine g_skip ?_; refine g_seq ?_; refine g_region ?_; refine kPm rfl rfl ?_
  refine p_call rfl (en_f Tryz.call70 rfl) (up_at (q := DevA) (fun Fr => nstore_ok _ Fr _ _ _ _)) .free rfl rfl ?_ ?_
  rotate_left
  · rintro _ _ ⟨s9, ⟨hm9, rfl⟩, rfl⟩
    exact (ok_off ((store_ne (s := (⟨pa, ⟨-1, 0⟩, 8, fun i => ([1] : List Int).getD i 0, fun i => ([1] : List Int).getD i 0, fun _ => none⟩ : Dev)) (i := 0) (v := 5) (show (-1 : Int) < 0 by decide) ⟨by decide, show (0 : Int) < 8 by decide⟩).symm.trans hm9)).elim
  rintro _ _ ⟨s1, ⟨e1, hm1, rfl⟩, rfl⟩
  obtain ⟨rfl, rfl⟩ := ok_inj ((store_ne (s := (⟨pa, ⟨-1, 0⟩, 8, fun i => ([1] : List Int).getD i 0, fun i => ([1] : List Int).getD i 0, fun _ => none⟩ : Dev)) (i := 0) (v := 5) (show (-1 : Int) < 0 by decide) ⟨by decide, show (0 : Int) < 8 by decide⟩).symm.trans hm1)
  refine kPa rfl rfl ?_; refine p_nil ?_; refine go_sub (σ' := [(2, _), (1, _), (0, _)]) ⟨rfl, rfl, rfl, trivial⟩ ?_; refine g_seq ?_; refine g_region ?_; refine kPm rfl rfl ?_; refine p_callq rfl (en_f Tryz.call72 rfl) (ro_at (q := DevA) (fun Fr => nload_ok _ Fr _ _ _)) .free rfl rfl ?_; refine kPa rfl rfl ?_; refine p_nil ?_; refine g_seq ?_; refine g_region ?_; refine kPm rfl rfl ?_
  refine p_call rfl (en_f Tryz.call23 rfl) (ncrash_ok _ _ _ ((⟨pa, ⟨-1, 0⟩, 8, fun i => ([1] : List Int).getD i 0, fun i => ([1] : List Int).getD i 0, fun _ => none⟩ : Dev).up.st 0 5) 162 [] (fun _ => 0) ⟨Tryz.call162, fun _ => by decide, fun H _ i _ => aw21_ok B H i⟩) .free rfl rfl ?_ ?_
  rotate_left
  · rintro _ _ ⟨⟩
  rintro _ _ rfl
  refine p_nil ?_; refine g_seq ?_; refine g_region ?_; refine kPm rfl rfl ?_; refine kPv (ev_cmp rfl rfl rfl) rfl ?_; refine kPm rfl rfl ?_
  apply p_and (tp := 21) (t := 18) (σ1 := [(18, _), (1, _), (0, _)]) 3 rfl ⟨rfl, rfl, rfl, trivial⟩
  · intro hg1
    refine p_val rfl (ev_move rfl) (.on rfl rfl (beq_eq hg1)) rfl rfl ?_; refine p_val rfl (ev_cmp rfl rfl rfl) (.on rfl rfl (beq_eq hg1)) rfl rfl ?_; refine kPv (ev_pick_t rfl hg1 rfl) rfl ?_
    exact p_seg rfl ⟨rfl, rfl, rfl, trivial⟩ (and_t hg1)
  · intro hg1
    refine p_skip rfl (.on rfl rfl (beq_ne hg1)) rfl ?_; refine p_skip rfl (.on rfl rfl (beq_ne hg1)) rfl ?_; refine kPv (ev_pick_f rfl hg1 rfl) rfl ?_
    exact p_seg rfl ⟨rfl, rfl, rfl, trivial⟩ (and_f hg1)
  refine kPm rfl rfl ?_
  apply p_and (tp := 26) (t := 22) (σ1 := [(22, _), (1, _), (0, _)]) 4 rfl ⟨rfl, rfl, rfl, trivial⟩
  · intro hg2
    refine p_val rfl (ev_move rfl) (.on rfl rfl (beq_eq hg2)) rfl rfl ?_; refine p_callq rfl (en_f Tryz.call72 rfl) (ro_at (q := DevA) (fun Fr => nload_ok _ Fr _ _ _)) (.on rfl rfl (beq_eq hg2)) rfl rfl ?_; refine p_val rfl (ev_cmp rfl rfl rfl) (.on rfl rfl (beq_eq hg2)) rfl rfl ?_; refine kPv (ev_pick_t rfl hg2 rfl) rfl ?_
    exact p_seg rfl ⟨rfl, rfl, rfl, trivial⟩ (and_t hg2)
  · intro hg2
    refine p_skip rfl (.on rfl rfl (beq_ne hg2)) rfl ?_; refine p_skip rfl (.on rfl rfl (beq_ne hg2)) rfl ?_; refine p_skip rfl (.on rfl rfl (beq_ne hg2)) rfl ?_; refine kPv (ev_pick_f rfl hg2 rfl) rfl ?_
    exact p_seg rfl ⟨rfl, rfl, rfl, trivial⟩ (and_f hg2)
  refine kPm rfl rfl ?_
  apply p_and (tp := 31) (t := 27) (σ1 := [(27, _), (0, _)]) 4 rfl ⟨rfl, rfl, trivial⟩
  · intro hg3
    refine p_val rfl (ev_move rfl) (.on rfl rfl (beq_eq hg3)) rfl rfl ?_; refine p_callq rfl (en_f Tryz.call33 rfl) (ro_at (q := DevA) (fun Fr => nlen_ok _ Fr _ _)) (.on rfl rfl (beq_eq hg3)) rfl rfl ?_; refine p_val rfl (ev_cmp rfl rfl rfl) (.on rfl rfl (beq_eq hg3)) rfl rfl ?_; refine kPv (ev_pick_t rfl hg3 rfl) rfl ?_
    exact p_seg rfl ⟨rfl, rfl, trivial⟩ (and_t hg3)
  · intro hg3
    refine p_skip rfl (.on rfl rfl (beq_ne hg3)) rfl ?_; refine p_skip rfl (.on rfl rfl (beq_ne hg3)) rfl ?_; refine p_skip rfl (.on rfl rfl (beq_ne hg3)) rfl ?_; refine kPv (ev_pick_f rfl hg3 rfl) rfl ?_
    exact p_seg rfl ⟨rfl, rfl, trivial⟩ (and_f hg3)
  refine kPa rfl rfl ?_; refine p_nil ?_; refine g_ret ?_
  exact ret_tmp Tryz.results160 rfl (fun w hw => ⟨rfl, hw.tail.tail⟩)
theorem cfg1 : CfgW ⟨3, 1, 8⟩ := ⟨by decide, by decide, by decide, by decide, by decide, by decide⟩
def packI (w r : Int) : Int := bitI .or .u64 (bitI .or .u64 12754194144713244672 (IntKind.u64.wrap (IntKind.u64.wrap r * 2 ^ min (32 : Int).toNat IntKind.u64.bits))) (IntKind.u64.wrap w)
def chkH (w r : Int) : Int := if 0 ≤ w ∧ w ≤ 64 ∧ 0 ≤ r ∧ r ≤ w then 0 else 5
def unpW (w : Int) : Int := IntKind.i64.wrap (IntKind.u32.wrap w)
def unpR (w : Int) : Int := IntKind.i64.wrap (bitI .and .u64 (w.fdiv (2 ^ min (32 : Int).toNat IntKind.u64.bits)) 16777215)
def unp (w : Int) : Int × Int × Bool := if chkH (unpW w) (unpR w) = 0 ∧ packI (unpW w) (unpR w) = w then (unpW w, unpR w, true) else (0, 0, false)
theorem awake3_ok (B : World) (H : List HP) :
    ∀ w, Holds B H w → Calls Tryz.prog 159 [].toArray w (PureR B H (.bool true)) := by
  refine fn_enter Tryz.func159 rfl Tryz.ntmps159 rfl ?_; refine g_seq ?_; refine g_region ?_; refine kPa rfl rfl ?_; refine p_nil ?_; refine g_seq ?_; refine g_seq ?_; refine g_region ?_; refine p_callq rfl (en_f Tryz.call160 rfl) (awake2_ok _ _) .free rfl rfl ?_; refine kPv (ev_not rfl) rfl ?_; refine p_nil ?_; refine g_iff rfl (rfl) ?_; refine g_skip ?_; refine g_seq ?_; refine g_region ?_; refine kPv (ev_build rfl (bld_30_0_1_2 _ _ _ rfl rfl rfl)) rfl ?_
  refine p_chg rfl (ch_allocA Tryz.zeroValue30 rfl) .free rfl rfl ?_
  rintro _ _ ⟨b1, rfl, rfl⟩
  refine p_chg0 rfl (ch_storeA (vs := _) Tryz.sizeOf30 rfl rfl rfl rfl rfl) .free rfl ?_
  rintro _ _ rfl
  refine p_nil ?_; refine g_seq ?_; refine g_region ?_; refine kPv (ev_loadA Tryz.isAgg30 Tryz.sizeOf30 rfl rfl) rfl ?_; refine p_callq rfl (en_f Tryz.call130 rfl) (check_ok _ _ ⟨3, 1, 8⟩) .free rfl rfl ?_; refine kPv (ev_cmp rfl rfl rfl) rfl ?_; refine kPm rfl rfl ?_
  apply p_and (tp := 12) (t := 8) (σ1 := [(8, _), (1, _), (0, _)]) 4 rfl ⟨rfl, rfl, rfl, trivial⟩
  · intro hg1
    refine p_val rfl (ev_loadA Tryz.isAgg30 Tryz.sizeOf30 rfl rfl) (.on rfl rfl (beq_eq hg1)) rfl rfl ?_; refine p_callq rfl (en_f Tryz.call45 rfl) (active_ok _ _ ⟨3, 1, 8⟩ cfg1) (.on rfl rfl (beq_eq hg1)) rfl rfl ?_; refine p_val rfl (ev_cmp rfl rfl rfl) (.on rfl rfl (beq_eq hg1)) rfl rfl ?_; refine kPv (ev_pick_t rfl hg1 rfl) rfl ?_
    exact p_seg rfl ⟨rfl, rfl, rfl, trivial⟩ (and_t hg1)
  · intro hg1
    refine p_skip rfl (.on rfl rfl (beq_ne hg1)) rfl ?_; refine p_skip rfl (.on rfl rfl (beq_ne hg1)) rfl ?_; refine p_skip rfl (.on rfl rfl (beq_ne hg1)) rfl ?_; refine kPv (ev_pick_f rfl hg1 rfl) rfl ?_
    exact p_seg rfl ⟨rfl, rfl, rfl, trivial⟩ (and_f hg1)
  refine kPm rfl rfl ?_
  apply p_and (tp := 17) (t := 13) (σ1 := [(13, _), (1, _), (0, _)]) 4 rfl ⟨rfl, rfl, rfl, trivial⟩
  · intro hg2
    refine p_val rfl (ev_loadA Tryz.isAgg30 Tryz.sizeOf30 rfl rfl) (.on rfl rfl (beq_eq hg2)) rfl rfl ?_; refine p_callq rfl (en_f Tryz.call46 rfl) (from_ok _ _ ⟨3, 1, 8⟩ cfg1 _ (by omega) (by omega)) (.on rfl rfl (beq_eq hg2)) rfl rfl ?_; refine p_val rfl (ev_cmp rfl rfl rfl) (.on rfl rfl (beq_eq hg2)) rfl rfl ?_; refine kPv (ev_pick_t rfl hg2 rfl) rfl ?_
    exact p_seg rfl ⟨rfl, rfl, rfl, trivial⟩ (and_t hg2)
  · intro hg2
    refine p_skip rfl (.on rfl rfl (beq_ne hg2)) rfl ?_; refine p_skip rfl (.on rfl rfl (beq_ne hg2)) rfl ?_; refine p_skip rfl (.on rfl rfl (beq_ne hg2)) rfl ?_; refine kPv (ev_pick_f rfl hg2 rfl) rfl ?_
    exact p_seg rfl ⟨rfl, rfl, rfl, trivial⟩ (and_f hg2)
  refine kPm rfl rfl ?_
  apply p_and (tp := 22) (t := 18) (σ1 := [(18, _), (0, _)]) 4 rfl ⟨rfl, rfl, trivial⟩
  · intro hg3
    refine p_val rfl (ev_loadA Tryz.isAgg30 Tryz.sizeOf30 rfl rfl) (.on rfl rfl (beq_eq hg3)) rfl rfl ?_; refine p_callq rfl (en_f Tryz.call44 rfl) (cwords_ok _ _ ⟨3, 1, 8⟩ cfg1) (.on rfl rfl (beq_eq hg3)) rfl rfl ?_; refine p_val rfl (ev_cmp rfl rfl rfl) (.on rfl rfl (beq_eq hg3)) rfl rfl ?_; refine kPv (ev_pick_t rfl hg3 rfl) rfl ?_
    exact p_seg rfl ⟨rfl, rfl, trivial⟩ (and_t hg3)
  · intro hg3
    refine p_skip rfl (.on rfl rfl (beq_ne hg3)) rfl ?_; refine p_skip rfl (.on rfl rfl (beq_ne hg3)) rfl ?_; refine p_skip rfl (.on rfl rfl (beq_ne hg3)) rfl ?_; refine kPv (ev_pick_f rfl hg3 rfl) rfl ?_
    exact p_seg rfl ⟨rfl, rfl, trivial⟩ (and_f hg3)
  refine kPa rfl rfl ?_; refine p_nil ?_; refine g_ret ?_
  exact ret_tmp Tryz.results159 rfl (fun w hw => ⟨ret_b (by decide +kernel), hw.tail⟩)
theorem hcheck_ok (B : World) (H : List HP) (x r : Int) :
    ∀ w, Holds B H w → Calls Tryz.prog 111 [.agg #[i64 x, i64 r]].toArray w (PureR B H (i64 (chkH x r))) := by
  refine fn_enter Tryz.func111 rfl Tryz.ntmps111 rfl ?_; refine g_seq ?_; refine g_region ?_; refine p_chg rfl (ch_boxA rfl) .free rfl rfl ?_
  rintro _ _ ⟨b1, rfl, rfl⟩
  refine kPa rfl rfl ?_; refine p_nil ?_; refine g_seq ?_; refine g_seq ?_; refine g_region ?_; refine kPv (ev_fa (m := _) fa_87_0 rfl rfl) rfl ?_; refine kPv (ev_load Tryz.isAgg3 rfl rfl) rfl ?_; refine kPv (ev_cmp rfl rfl rfl) rfl ?_; refine kPm rfl rfl ?_
  apply p_or (tp := 10) (t := 6) (σ1 := [(6, _), (2, _), (1, _)]) 4 rfl ⟨rfl, rfl, rfl, trivial⟩
  · intro hg1
    refine p_val rfl (ev_fa (m := _) fa_87_0 rfl rfl) (.on rfl rfl (beq_eq hg1)) rfl rfl ?_; refine p_val rfl (ev_load Tryz.isAgg3 rfl rfl) (.on rfl rfl (beq_eq hg1)) rfl rfl ?_; refine p_val rfl (ev_cmp rfl rfl rfl) (.on rfl rfl (beq_eq hg1)) rfl rfl ?_; refine kPv (ev_pick_f rfl hg1 rfl) rfl ?_
    exact p_seg rfl ⟨rfl, rfl, rfl, trivial⟩ (or_f hg1)
  · intro hg1
    refine p_skip rfl (.on rfl rfl (beq_ne hg1)) rfl ?_; refine p_skip rfl (.on rfl rfl (beq_ne hg1)) rfl ?_; refine p_skip rfl (.on rfl rfl (beq_ne hg1)) rfl ?_; refine kPv (ev_pick_t rfl hg1 rfl) rfl ?_
    exact p_seg rfl ⟨rfl, rfl, rfl, trivial⟩ (or_t hg1)
  refine kPm rfl rfl ?_
  apply p_or (tp := 15) (t := 11) (σ1 := [(11, _), (2, _), (1, _)]) 4 rfl ⟨rfl, rfl, rfl, trivial⟩
  · intro hg2
    refine p_val rfl (ev_fa (m := _) fa_87_1 rfl rfl) (.on rfl rfl (beq_eq hg2)) rfl rfl ?_; refine p_val rfl (ev_load Tryz.isAgg3 rfl rfl) (.on rfl rfl (beq_eq hg2)) rfl rfl ?_; refine p_val rfl (ev_cmp rfl rfl rfl) (.on rfl rfl (beq_eq hg2)) rfl rfl ?_; refine kPv (ev_pick_f rfl hg2 rfl) rfl ?_
    exact p_seg rfl ⟨rfl, rfl, rfl, trivial⟩ (or_f hg2)
  · intro hg2
    refine p_skip rfl (.on rfl rfl (beq_ne hg2)) rfl ?_; refine p_skip rfl (.on rfl rfl (beq_ne hg2)) rfl ?_; refine p_skip rfl (.on rfl rfl (beq_ne hg2)) rfl ?_; refine kPv (ev_pick_t rfl hg2 rfl) rfl ?_
    exact p_seg rfl ⟨rfl, rfl, rfl, trivial⟩ (or_t hg2)
  refine kPm rfl rfl ?_
  apply p_or (tp := 22) (t := 16) (σ1 := [(16, _), (2, _)]) 6 rfl ⟨rfl, rfl, trivial⟩
  · intro hg3
    refine p_val rfl (ev_fa (m := _) fa_87_1 rfl rfl) (.on rfl rfl (beq_eq hg3)) rfl rfl ?_; refine p_val rfl (ev_load Tryz.isAgg3 rfl rfl) (.on rfl rfl (beq_eq hg3)) rfl rfl ?_; refine p_val rfl (ev_fa (m := _) fa_87_0 rfl rfl) (.on rfl rfl (beq_eq hg3)) rfl rfl ?_; refine p_val rfl (ev_load Tryz.isAgg3 rfl rfl) (.on rfl rfl (beq_eq hg3)) rfl rfl ?_; refine p_val rfl (ev_cmp rfl rfl rfl) (.on rfl rfl (beq_eq hg3)) rfl rfl ?_; refine kPv (ev_pick_f rfl hg3 rfl) rfl ?_
    exact p_seg rfl ⟨rfl, rfl, trivial⟩ (or_f hg3)
  · intro hg3
    refine p_skip rfl (.on rfl rfl (beq_ne hg3)) rfl ?_; refine p_skip rfl (.on rfl rfl (beq_ne hg3)) rfl ?_; refine p_skip rfl (.on rfl rfl (beq_ne hg3)) rfl ?_; refine p_skip rfl (.on rfl rfl (beq_ne hg3)) rfl ?_; refine p_skip rfl (.on rfl rfl (beq_ne hg3)) rfl ?_; refine kPv (ev_pick_t rfl hg3 rfl) rfl ?_
    exact p_seg rfl ⟨rfl, rfl, trivial⟩ (or_t hg3)
  refine p_nil ?_
  refine g_if rfl (fun h22 => ?_) (fun h22 => ?_)
  · try simp only [decide_eq_true_eq, decide_eq_false_iff_not, Bool.not_eq_true', Bool.not_eq_false', Bool.or_eq_true, Bool.and_eq_true, Bool.and_eq_false_iff, Bool.or_eq_false_iff, beq_iff_eq, bne_iff_ne, beq_eq_false_iff_ne, bne_eq_false_iff_eq, ge_iff_le, gt_iff_lt, ne_eq] at h22
    refine g_seq ?_; refine g_region ?_; refine kPa rfl rfl ?_; refine p_nil ?_; refine g_ret ?_
    exact ret_tmp Tryz.results111 rfl (fun w hw => ⟨by unfold chkH; rw [if_neg (by omega)], hw.tail⟩)
  · try simp only [decide_eq_true_eq, decide_eq_false_iff_not, Bool.not_eq_true', Bool.not_eq_false', Bool.or_eq_true, Bool.and_eq_true, Bool.and_eq_false_iff, Bool.or_eq_false_iff, beq_iff_eq, bne_iff_ne, beq_eq_false_iff_ne, bne_eq_false_iff_eq, ge_iff_le, gt_iff_lt, ne_eq] at h22
    refine g_skip ?_; refine g_seq ?_; refine g_region ?_; refine kPa rfl rfl ?_; refine p_nil ?_; refine g_ret ?_
    exact ret_tmp Tryz.results111 rfl (fun w hw => ⟨by unfold chkH; rw [if_pos (by omega)], hw.tail⟩)
theorem hpack_ok (B : World) (H : List HP) (x r : Int) :
    ∀ w, Holds B H w → Calls Tryz.prog 112 [.agg #[i64 x, i64 r]].toArray w (PureR B H (w64 (packI x r))) := by
  refine fn_enter Tryz.func112 rfl Tryz.ntmps112 rfl ?_; refine g_seq ?_; refine g_region ?_; refine p_chg rfl (ch_boxA rfl) .free rfl rfl ?_
  rintro _ _ ⟨b1, rfl, rfl⟩
  refine kPa rfl rfl ?_; refine p_nil ?_; refine g_seq ?_; refine g_region ?_; refine kPv (ev_fa (m := _) fa_87_1 rfl rfl) rfl ?_; refine kPv (ev_load Tryz.isAgg3 rfl rfl) rfl ?_
  first | refine p_val rfl (ev_conv Tryz.runUnderlying3 Tryz.runUnderlying52 rfl (wru64 (by omega))) .free rfl rfl ?_ | refine p_val rfl (ev_conv Tryz.runUnderlying3 Tryz.runUnderlying52 rfl rfl) .free rfl rfl ?_
  first | refine p_val rfl (ev_shl rfl rfl (by decide) rfl) .free rfl rfl ?_ | refine p_val rfl (ev_shl rfl rfl (by omega) rfl) .free rfl rfl ?_
  refine kPv (ev_or rfl rfl rfl) rfl ?_; refine kPv (ev_fa (m := _) fa_87_0 rfl rfl) rfl ?_; refine kPv (ev_load Tryz.isAgg3 rfl rfl) rfl ?_
  first | refine p_val rfl (ev_conv Tryz.runUnderlying3 Tryz.runUnderlying52 rfl (wru64 (by omega))) .free rfl rfl ?_ | refine p_val rfl (ev_conv Tryz.runUnderlying3 Tryz.runUnderlying52 rfl rfl) .free rfl rfl ?_
  refine kPv (ev_or rfl rfl rfl) rfl ?_; refine kPa rfl rfl ?_; refine p_nil ?_; refine go_sub (σ' := [(2, _)]) ⟨rfl, trivial⟩ ?_; refine g_ret ?_
  exact ret_tmp Tryz.results112 rfl (fun w hw => ⟨rfl, hw.tail⟩)
theorem hsize_ok (B : World) (H : List HP) (x r : Int) (h : 0 ≤ x ∧ x ≤ 1000000) :
    ∀ w, Holds B H w → Calls Tryz.prog 52 [.agg #[i64 x, i64 r]].toArray w (PureR B H (i64 (x + 1))) := by
  refine fn_enter Tryz.func52 rfl Tryz.ntmps52 rfl ?_; refine g_seq ?_; refine g_region ?_; refine p_chg rfl (ch_boxA rfl) .free rfl rfl ?_
  rintro _ _ ⟨b1, rfl, rfl⟩
  refine kPa rfl rfl ?_; refine p_nil ?_; refine g_seq ?_; refine g_region ?_; refine kPv (ev_fa (m := _) fa_87_0 rfl rfl) rfl ?_; refine kPv (ev_load Tryz.isAgg3 rfl rfl) rfl ?_
  first | refine p_val rfl (ev_add rfl rfl (wr64 (by omega))) .free rfl rfl ?_ | refine p_val rfl (ev_add rfl rfl rfl) .free rfl rfl ?_
  refine kPa rfl rfl ?_; refine p_nil ?_; refine g_ret ?_
  exact ret_tmp Tryz.results52 rfl (fun w hw => ⟨rfl, hw.tail⟩)
theorem unpack_ok (B : World) (H : List HP) (v : Int) :
    ∀ w, Holds B H w → Calls Tryz.prog 93 [w64 v].toArray w (PureR B H (.tuple #[.agg #[i64 (unp v).1, i64 (unp v).2.1], .bool (unp v).2.2])) := by
  refine fn_enter Tryz.func93 rfl Tryz.ntmps93 rfl ?_; refine g_seq ?_; refine g_region ?_; refine p_chg rfl (ch_allocA Tryz.zeroValue87 rfl) .free rfl rfl ?_
  rintro _ _ ⟨b2, rfl, rfl⟩
  refine kPa rfl rfl ?_; refine p_nil ?_; refine g_seq ?_; refine g_region ?_; refine kPm rfl rfl ?_; refine kPv (ev_conv Tryz.runUnderlying52 Tryz.runUnderlying174 rfl rfl) rfl ?_
  first | refine p_val rfl (ev_conv Tryz.runUnderlying174 Tryz.runUnderlying3 rfl (wr64 (by omega))) .free rfl rfl ?_ | refine p_val rfl (ev_conv Tryz.runUnderlying174 Tryz.runUnderlying3 rfl rfl) .free rfl rfl ?_
  refine kPm rfl rfl ?_
  first | refine p_val rfl (ev_shr rfl rfl (by decide) rfl) .free rfl rfl ?_ | refine p_val rfl (ev_shr rfl rfl (by omega) rfl) .free rfl rfl ?_
  refine kPv (ev_and rfl rfl rfl) rfl ?_
  first | refine p_val rfl (ev_conv Tryz.runUnderlying52 Tryz.runUnderlying3 rfl (wr64 (by omega))) .free rfl rfl ?_ | refine p_val rfl (ev_conv Tryz.runUnderlying52 Tryz.runUnderlying3 rfl rfl) .free rfl rfl ?_
  refine kPv (ev_build rfl (bld_87_0_1 _ _ rfl rfl)) rfl ?_; refine p_chg rfl (ch_allocA Tryz.zeroValue87 rfl) .free rfl rfl ?_
  rintro _ _ ⟨b4, rfl, rfl⟩
  refine p_chg0 rfl (ch_storeA (vs := _) Tryz.sizeOf87 rfl rfl rfl rfl rfl) .free rfl ?_
  rintro _ _ rfl
  refine p_nil ?_; refine go_sub (σ' := [(4, _), (3, _), (2, _), (0, _)]) ⟨rfl, rfl, rfl, rfl, trivial⟩ ?_; refine g_seq ?_; refine g_seq ?_; refine g_region ?_; refine kPv (ev_loadA Tryz.isAgg87 Tryz.sizeOf87 rfl rfl) rfl ?_; refine p_callq rfl (en_f Tryz.call111 rfl) (hcheck_ok _ _ (unpW v) (unpR v)) .free rfl rfl ?_; refine kPv (ev_cmp rfl rfl rfl) rfl ?_; refine kPm rfl rfl ?_
  apply p_or (tp := 21) (t := 16) (σ1 := [(16, _), (4, _), (3, _), (2, _)]) 5 rfl ⟨rfl, rfl, rfl, rfl, trivial⟩
  · intro hg1
    refine p_val rfl (ev_loadA Tryz.isAgg87 Tryz.sizeOf87 rfl rfl) (.on rfl rfl (beq_eq hg1)) rfl rfl ?_; refine p_callq rfl (en_f Tryz.call112 rfl) (hpack_ok _ _ (unpW v) (unpR v)) (.on rfl rfl (beq_eq hg1)) rfl rfl ?_; refine p_val rfl (ev_move rfl) (.on rfl rfl (beq_eq hg1)) rfl rfl ?_; refine p_val rfl (ev_cmp rfl rfl rfl) (.on rfl rfl (beq_eq hg1)) rfl rfl ?_; refine kPv (ev_pick_f rfl hg1 rfl) rfl ?_
    exact p_seg rfl ⟨rfl, rfl, rfl, rfl, trivial⟩ (or_f hg1)
  · intro hg1
    refine p_skip rfl (.on rfl rfl (beq_ne hg1)) rfl ?_; refine p_skip rfl (.on rfl rfl (beq_ne hg1)) rfl ?_; refine p_skip rfl (.on rfl rfl (beq_ne hg1)) rfl ?_; refine p_skip rfl (.on rfl rfl (beq_ne hg1)) rfl ?_; refine kPv (ev_pick_t rfl hg1 rfl) rfl ?_
    exact p_seg rfl ⟨rfl, rfl, rfl, rfl, trivial⟩ (or_t hg1)
  refine p_nil ?_
  refine g_if rfl (fun h21 => ?_) (fun h21 => ?_)
  · have hbad : ¬ (chkH (unpW v) (unpR v) = 0 ∧ packI (unpW v) (unpR v) = v) := by
      rintro ⟨q1, q2⟩
      rw [q1, q2] at h21; simp at h21
    refine g_seq ?_; refine g_region ?_; refine kPv (ev_build rfl (bld_87)) rfl ?_; refine p_chg0 rfl (ch_storeA (vs := _) Tryz.sizeOf87 rfl rfl rfl rfl rfl) .free rfl ?_
    rintro _ _ rfl
    refine kPa rfl rfl ?_; refine p_nil ?_; refine g_ret ?_
    exact ret_2 Tryz.results93 (.cellA rfl Tryz.isAgg87 Tryz.sizeOf87 rfl rfl) (.tmp rfl) (fun w hw => ⟨by unfold unp; rw [if_neg hbad]; rfl, hw.tail.tail⟩)
  · have hgd : chkH (unpW v) (unpR v) = 0 ∧ packI (unpW v) (unpR v) = v := by simpa using h21
    refine g_skip ?_; refine g_seq ?_; refine g_region ?_; refine kPv (ev_loadA Tryz.isAgg87 Tryz.sizeOf87 rfl rfl) rfl ?_; refine p_chg0 rfl (ch_storeA (vs := _) Tryz.sizeOf87 rfl rfl rfl rfl rfl) .free rfl ?_
    rintro _ _ rfl
    refine kPa rfl rfl ?_; refine p_nil ?_; refine g_ret ?_
    exact ret_2 Tryz.results93 (.cellA rfl Tryz.isAgg87 Tryz.sizeOf87 rfl rfl) (.tmp rfl) (fun w hw => ⟨by unfold unp; rw [if_pos hgd]; rfl, hw.tail.tail⟩)
theorem awake4_ok (B : World) (H : List HP) :
    ∀ w, Holds B H w → Calls Tryz.prog 157 [].toArray w (PureR B H (.bool true)) := by
  refine fn_enter Tryz.func157 rfl Tryz.ntmps157 rfl ?_; refine g_seq ?_; refine g_region ?_; refine kPa rfl rfl ?_; refine p_nil ?_; refine g_seq ?_; refine g_seq ?_; refine g_region ?_; refine p_callq rfl (en_f Tryz.call159 rfl) (awake3_ok _ _) .free rfl rfl ?_; refine kPv (ev_not rfl) rfl ?_; refine p_nil ?_; refine g_iff rfl (rfl) ?_; refine g_skip ?_; refine g_seq ?_; refine g_region ?_; refine p_callq rfl (en_f Tryz.call93 rfl) (unpack_ok _ _ _) .free rfl rfl ?_; refine kPm rfl rfl ?_
  refine kPv (ev_ext rfl rfl) rfl ?_; refine kPv (ev_ext rfl rfl) rfl ?_; refine p_chg rfl (ch_allocA Tryz.zeroValue87 rfl) .free rfl rfl ?_
  rintro _ _ ⟨b1, rfl, rfl⟩
  refine p_chg0 rfl (ch_storeA (vs := _) Tryz.sizeOf87 rfl rfl rfl rfl rfl) .free rfl ?_
  rintro _ _ rfl
  refine kPa rfl rfl ?_; refine p_nil ?_; refine g_seq ?_; refine g_region ?_; refine kPm rfl rfl ?_; refine kPm rfl rfl ?_
  apply p_and (tp := 14) (t := 10) (σ1 := [(10, _), (1, _), (0, _)]) 4 rfl ⟨rfl, rfl, rfl, trivial⟩
  · intro hg1
    refine p_val rfl (ev_fa (m := _) fa_87_0 rfl rfl) (.on rfl rfl (beq_eq hg1)) rfl rfl ?_; refine p_val rfl (ev_load Tryz.isAgg3 rfl rfl) (.on rfl rfl (beq_eq hg1)) rfl rfl ?_; refine p_val rfl (ev_cmp rfl rfl rfl) (.on rfl rfl (beq_eq hg1)) rfl rfl ?_; refine kPv (ev_pick_t rfl hg1 rfl) rfl ?_
    exact p_seg rfl ⟨rfl, rfl, rfl, trivial⟩ (and_t hg1)
  · intro hg1
    refine p_skip rfl (.on rfl rfl (beq_ne hg1)) rfl ?_; refine p_skip rfl (.on rfl rfl (beq_ne hg1)) rfl ?_; refine p_skip rfl (.on rfl rfl (beq_ne hg1)) rfl ?_; refine kPv (ev_pick_f rfl hg1 rfl) rfl ?_
    exact p_seg rfl ⟨rfl, rfl, rfl, trivial⟩ (and_f hg1)
  refine kPm rfl rfl ?_
  apply p_and (tp := 19) (t := 15) (σ1 := [(15, _), (1, _), (0, _)]) 4 rfl ⟨rfl, rfl, rfl, trivial⟩
  · intro hg2
    refine p_val rfl (ev_fa (m := _) fa_87_1 rfl rfl) (.on rfl rfl (beq_eq hg2)) rfl rfl ?_; refine p_val rfl (ev_load Tryz.isAgg3 rfl rfl) (.on rfl rfl (beq_eq hg2)) rfl rfl ?_; refine p_val rfl (ev_cmp rfl rfl rfl) (.on rfl rfl (beq_eq hg2)) rfl rfl ?_; refine kPv (ev_pick_t rfl hg2 rfl) rfl ?_
    exact p_seg rfl ⟨rfl, rfl, rfl, trivial⟩ (and_t hg2)
  · intro hg2
    refine p_skip rfl (.on rfl rfl (beq_ne hg2)) rfl ?_; refine p_skip rfl (.on rfl rfl (beq_ne hg2)) rfl ?_; refine p_skip rfl (.on rfl rfl (beq_ne hg2)) rfl ?_; refine kPv (ev_pick_f rfl hg2 rfl) rfl ?_
    exact p_seg rfl ⟨rfl, rfl, rfl, trivial⟩ (and_f hg2)
  refine kPm rfl rfl ?_
  apply p_and (tp := 24) (t := 20) (σ1 := [(20, _), (1, _), (0, _)]) 4 rfl ⟨rfl, rfl, rfl, trivial⟩
  · intro hg3
    refine p_val rfl (ev_loadA Tryz.isAgg87 Tryz.sizeOf87 rfl rfl) (.on rfl rfl (beq_eq hg3)) rfl rfl ?_; refine p_callq rfl (en_f Tryz.call52 rfl) (hsize_ok _ _ _ _ ⟨by decide, by decide⟩) (.on rfl rfl (beq_eq hg3)) rfl rfl ?_; refine p_val rfl (ev_cmp rfl rfl rfl) (.on rfl rfl (beq_eq hg3)) rfl rfl ?_; refine kPv (ev_pick_t rfl hg3 rfl) rfl ?_
    exact p_seg rfl ⟨rfl, rfl, rfl, trivial⟩ (and_t hg3)
  · intro hg3
    refine p_skip rfl (.on rfl rfl (beq_ne hg3)) rfl ?_; refine p_skip rfl (.on rfl rfl (beq_ne hg3)) rfl ?_; refine p_skip rfl (.on rfl rfl (beq_ne hg3)) rfl ?_; refine kPv (ev_pick_f rfl hg3 rfl) rfl ?_
    exact p_seg rfl ⟨rfl, rfl, rfl, trivial⟩ (and_f hg3)
  refine kPm rfl rfl ?_
  apply p_and (tp := 29) (t := 25) (σ1 := [(25, _), (0, _)]) 4 rfl ⟨rfl, rfl, trivial⟩
  · intro hg4
    refine p_val rfl (ev_loadA Tryz.isAgg87 Tryz.sizeOf87 rfl rfl) (.on rfl rfl (beq_eq hg4)) rfl rfl ?_; refine p_callq rfl (en_f Tryz.call112 rfl) (hpack_ok _ _ _ _) (.on rfl rfl (beq_eq hg4)) rfl rfl ?_; refine p_val rfl (ev_cmp rfl rfl rfl) (.on rfl rfl (beq_eq hg4)) rfl rfl ?_; refine kPv (ev_pick_t rfl hg4 rfl) rfl ?_
    exact p_seg rfl ⟨rfl, rfl, trivial⟩ (and_t hg4)
  · intro hg4
    refine p_skip rfl (.on rfl rfl (beq_ne hg4)) rfl ?_; refine p_skip rfl (.on rfl rfl (beq_ne hg4)) rfl ?_; refine p_skip rfl (.on rfl rfl (beq_ne hg4)) rfl ?_; refine kPv (ev_pick_f rfl hg4 rfl) rfl ?_
    exact p_seg rfl ⟨rfl, rfl, trivial⟩ (and_f hg4)
  refine kPa rfl rfl ?_; refine p_nil ?_; refine g_ret ?_
  exact ret_tmp Tryz.results157 rfl (fun w hw => ⟨ret_b (by decide +kernel), hw.tail⟩)
end Go.Proofs.YtbfheafpecgphaaGreat
