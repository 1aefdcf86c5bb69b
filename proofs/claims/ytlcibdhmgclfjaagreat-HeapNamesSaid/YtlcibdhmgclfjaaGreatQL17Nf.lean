/- Part of the texts beneath a law: what its proof names. Conditions: none. -/
import Derived.Test.YtlcibdhmgclfjaaGreatQL17Ne
import Derived.Sort.Grow
import Derived.Shelf.SortM.Plain
import Derived.Shelf.SortM.SortNone
set_option linter.unusedSimpArgs false
set_option linter.unusedVariables false
set_option linter.unnecessarySimpa false
set_option linter.unusedSectionVars false
namespace Go.Proofs.YtlcibdhmgclfjaaGreat
open Go
theorem and32 (x : Int) : bitI .and .u64 x 4294967295 = x % 4294967296 := by
  have h1 : (BitVec.ofInt 64 x &&& BitVec.ofInt 64 4294967295).toNat = (x % 18446744073709551616).toNat % 4294967296 := by
    rw [BitVec.toNat_and, BitVec.toNat_ofInt, BitVec.toNat_ofInt]
    have : ((4294967295 : Int) % ((2 ^ 64 : Nat) : Int)).toNat = 2 ^ 32 - 1 := by decide
    rw [this, Nat.and_two_pow_sub_one_eq_mod]
    rfl
  show IntKind.u64.wrap ((BitVec.ofInt 64 x &&& BitVec.ofInt 64 4294967295).toNat : Int) = _
  rw [h1, wru64 (by omega)]; omega
theorem or32 {e i : Int} (h : 0 ≤ e ∧ e < 4294967296) (h2 : 0 ≤ i ∧ i < 4294967296) : bitI .or .u64 (e * 4294967296) i = e * 4294967296 + i := by
  have h1 : (BitVec.ofInt 64 (e * 4294967296) ||| BitVec.ofInt 64 i).toNat = e.toNat * 4294967296 + i.toNat := by
    rw [BitVec.toNat_or, BitVec.toNat_ofInt, BitVec.toNat_ofInt]
    have e1 : ((e * 4294967296) % ((2 ^ 64 : Nat) : Int)).toNat = e.toNat <<< 32 := by rw [Nat.shiftLeft_eq]; omega
    have e2 : (i % ((2 ^ 64 : Nat) : Int)).toNat = i.toNat := by omega
    rw [e1, e2, ← Nat.shiftLeft_add_eq_or_of_lt (by omega), Nat.shiftLeft_eq]
  show IntKind.u64.wrap ((BitVec.ofInt 64 (e * 4294967296) ||| BitVec.ofInt 64 i).toNat : Int) = _
  rw [h1, wru64 (by omega)]; omega
theorem shl32 {e : Int} (h : 0 ≤ e ∧ e < 4294967296) : IntKind.u64.wrap (e * 2 ^ min (32 : Int).toNat IntKind.u64.bits) = e * 4294967296 := by
  have : min (32 : Int).toNat IntKind.u64.bits = 32 := by decide
  rw [this, show (2 : Int) ^ 32 = 4294967296 by decide, wru64 (by omega)]
def stampI (e i : Int) : Int := e * 4294967296 + (i + 1)
structure LogS where
  d : Nat
  c : Cfg
  epoch : Int
  n : Int
structure LogW (L : LogS) : Prop where
  c : CfgW L.c
  e1 : 0 ≤ L.epoch
  e2 : L.epoch < 4294967296
  n1 : 0 ≤ L.n
  n2 : L.n ≤ L.c.log
abbrev LogA (b : Nat) (L : LogS) : HP := row b [ptr L.d, i64 L.c.log, i64 L.c.roots, i64 L.c.space, w64 L.epoch, i64 L.n] 171
def Out.then {α β : Type} (m : Out α) (f : α → Dev → Out β) : Out β := match m with
  | .ok a s => f a s
  | .off s => .off s
@[simp] theorem then_ok {α β : Type} (a : α) (s : Dev) (f : α → Dev → Out β) : (Out.ok a s).then f = f a s := rfl
@[simp] theorem then_off {α β : Type} (s : Dev) (f : α → Dev → Out β) : (Out.off s : Out α).then f = .off s := rfl
def LogS.append (L : LogS) (s : Dev) (i : Int) : Out (Int × LogS) :=
  if i < 0 ∨ s.n ≤ i then .ok (1, L) s
  else if L.n = L.c.log then .ok (3, L) s
  else
    (s.store (L.c.record L.n + 1) i).then fun _ s => (s.store (L.c.record L.n + 2) (s.load i)).then fun _ s =>
    (s.flush (L.c.record L.n)).then fun _ s => s.fence.then fun _ s =>
    (s.store (L.c.record L.n) (stampI L.epoch L.n)).then fun _ s => (s.flush (L.c.record L.n)).then fun _ s => s.fence.then fun _ s => .ok (0, { L with n := L.n + 1 }) s
def LogS.truncate (L : LogS) (s : Dev) : Out LogS :=
  if L.n = 0 then .ok L s else
    (s.store 8 ((L.epoch + 1) % 4294967296)).then fun _ s => (s.flush 8).then fun _ s => s.fence.then fun _ s => .ok { L with epoch := (L.epoch + 1) % 4294967296, n := 0 } s
theorem stamp_ok (B : World) (H : List HP) (e i : Int) (he : 0 ≤ e ∧ e < 4294967296) (hi : 0 ≤ i ∧ i < 1000000) :
    ∀ w, Holds B H w → Calls Tryz.prog 131 [w64 e, i64 i].toArray w (PureR B H (w64 (stampI e i))) := by
  refine fn_enter Tryz.func131 rfl Tryz.ntmps131 rfl (g_seq (g_region (kPa rfl rfl (p_nil (g_seq (g_region (kPm rfl rfl (kPv (ev_shl rfl rfl (by decide) (shl32 he)) rfl (kPm rfl rfl ?_)))))))))
  first | refine p_val rfl (ev_add rfl rfl (wr64 (by omega))) .free rfl rfl ?_ | refine p_val rfl (ev_add rfl rfl rfl) .free rfl rfl ?_
  first | refine p_val rfl (ev_conv Tryz.runUnderlying3 Tryz.runUnderlying26 rfl (wru64 (by omega))) .free rfl rfl ?_ | refine p_val rfl (ev_conv Tryz.runUnderlying3 Tryz.runUnderlying26 rfl rfl) .free rfl rfl ?_
  refine kPv (ev_or rfl rfl (or32 he (by omega))) rfl (kPa rfl rfl (p_nil (go_sb [4] rfl (g_ret ?_))))
  exact ret_tmp Tryz.results131 rfl (fun w hw => ⟨rfl, hw⟩)
theorem llen_ok (B : World) (Fr : List HP) (bl : Nat) (L : LogS) :
    ∀ w, Holds B (LogA bl L :: Fr) w → Calls Tryz.prog 76 [ptr bl].toArray w (PureR B (LogA bl L :: Fr) (i64 L.n)) := by
  refine fn_enter Tryz.func76 rfl Tryz.ntmps76 rfl (g_seq (g_region (kPa rfl rfl (p_nil (g_seq (g_region (kPm rfl rfl ?_)))))))
  first | refine kPv (ev_nil rfl) rfl ?_ | refine kPv (ev_nilf rfl) rfl ?_
  refine kPv (ev_fa (m := _) fa_171_3 rfl rfl) rfl (kPv (ev_load Tryz.isAgg3 rfl rfl) rfl (kPa rfl rfl (p_nil (g_ret ?_))))
  exact ret_tmp Tryz.results76 rfl (fun w hw => ⟨rfl, hw⟩)
theorem lepoch_ok (B : World) (Fr : List HP) (bl : Nat) (L : LogS) :
    ∀ w, Holds B (LogA bl L :: Fr) w → Calls Tryz.prog 216 [ptr bl].toArray w (PureR B (LogA bl L :: Fr) (w64 L.epoch)) := by
  refine fn_enter Tryz.func216 rfl Tryz.ntmps216 rfl (g_seq (g_region (kPa rfl rfl (p_nil (g_seq (g_region (kPm rfl rfl ?_)))))))
  first | refine kPv (ev_nil rfl) rfl ?_ | refine kPv (ev_nilf rfl) rfl ?_
  refine kPv (ev_fa (m := _) fa_171_2 rfl rfl) rfl (kPv (ev_load Tryz.isAgg26 rfl rfl) rfl (kPa rfl rfl (p_nil (g_ret ?_))))
  exact ret_tmp Tryz.results216 rfl (fun w hw => ⟨rfl, hw⟩)
theorem ltrunc_ok (B : World) (Fr : List HP) (bl : Nat) (L : LogS) (s : Dev) (hL : LogW L) :
    ∀ w, Holds B (LogA bl L :: DevA L.d s :: Fr) w → Calls Tryz.prog 128 [ptr bl].toArray w (Ret B (fun rv H' => ∃ L' s', L.truncate s = .ok L' s' ∧ rv = .tuple #[] ∧ H' = LogA bl L' :: DevA L.d s' :: Fr) (fun c H' => ∃ s', L.truncate s = .off s' ∧ c = offc ∧ H' = LogA bl L :: DevA L.d s' :: Fr)) := by
  refine fn_enter Tryz.func128 rfl Tryz.ntmps128 rfl ?_
  have hc := hL.c
  have hc1 := hc.r1
  have hc2 := hc.r2
  have hc3 := hc.l1
  have hc4 := hc.l2
  have hl1 := hL.e1
  have hl2 := hL.e2
  have hl3 := hL.n1
  have hl4 := hL.n2
  have hrc : 16 ≤ L.c.record L.n ∧ L.c.record L.n ≤ 10000 := by simp only [Cfg.record]; omega
  refine go_dw L.d fun hn1 hn2 hn3 => (g_seq (g_seq (g_region (kPm rfl rfl ?_))))
  first | refine kPv (ev_nil rfl) rfl ?_ | refine kPv (ev_nilf rfl) rfl ?_
  refine kPv (ev_fa (m := _) fa_171_3 rfl rfl) rfl (kPv (ev_load Tryz.isAgg3 rfl rfl) rfl (kPv (ev_cmp rfl rfl rfl) rfl (p_nil ?_)))
  refine g_if rfl (fun h6 => ?_) (fun h6 => ?_)
  · try simp only [decide_eq_true_eq, decide_eq_false_iff_not, Bool.not_eq_true', Bool.not_eq_false', Bool.or_eq_true, Bool.and_eq_true, Bool.and_eq_false_iff, Bool.or_eq_false_iff, beq_iff_eq, bne_iff_ne, beq_eq_false_iff_ne, bne_eq_false_iff_eq, ge_iff_le, gt_iff_lt, ne_eq] at h6
    refine g_ret ?_
    exact ret_none Tryz.results128 (fun w hh => ⟨_, ⟨L, s, by simp [LogS.truncate, *], rfl, rfl⟩, hh⟩)
  · try simp only [decide_eq_true_eq, decide_eq_false_iff_not, Bool.not_eq_true', Bool.not_eq_false', Bool.or_eq_true, Bool.and_eq_true, Bool.and_eq_false_iff, Bool.or_eq_false_iff, beq_iff_eq, bne_iff_ne, beq_eq_false_iff_ne, bne_eq_false_iff_eq, ge_iff_le, gt_iff_lt, ne_eq] at h6
    refine g_skip (g_seq (g_drawt 10 Tryz.mixed (by kernel_rfl) (by kernel_rfl) ?_))
    refine kQm rfl rfl ?_
    first | refine kQv (ev_nil rfl) rfl ?_ | refine kQv (ev_nilf rfl) rfl ?_
    refine kQv (ev_fa (m := _) fa_171_0 rfl rfl) rfl (kQv (ev_load Tryz.isAgg28 rfl rfl) rfl (kQm rfl rfl ?_))
    first | refine kQv (ev_nil rfl) rfl ?_ | refine kQv (ev_nilf rfl) rfl ?_
    refine kQv (ev_fa (m := _) fa_171_2 rfl rfl) rfl (kQv (ev_load Tryz.isAgg26 rfl rfl) rfl ?_)
    first | refine q_val rfl (ev_add rfl rfl (wru64 (by omega))) .free rfl ?_ | refine q_val rfl (ev_add rfl rfl rfl) .free rfl ?_
    refine kQv (ev_and rfl rfl (and32 _)) rfl (q_nil ?_)
    refine p_call rfl (en_f Tryz.call120 rfl) (up_at (fun Fr => nstore_ok _ Fr _ _ _ _)) .free rfl rfl ?_ ?_
    rotate_left
    · rintro _ _ ⟨s9, ⟨hm9, rfl⟩, rfl⟩
      exact pan_fn fun w hh => ⟨_, ⟨_, by simp [LogS.truncate, *], rfl, rfl⟩, hh⟩
    rintro _ _ ⟨s1, ⟨e1, hm1, rfl⟩, rfl⟩
    refine p_nil (go_sb [0] rfl (g_seq (g_region (kPm rfl rfl ?_))))
    first | refine kPv (ev_nil rfl) rfl ?_ | refine kPv (ev_nilf rfl) rfl ?_
    refine kPv (ev_fa (m := _) fa_171_0 rfl rfl) rfl (kPv (ev_load Tryz.isAgg28 rfl rfl) rfl ?_)
    refine p_call rfl (en_f Tryz.call126 rfl) (up_at (fun Fr => nflush_ok _ Fr _ _ _)) .free rfl rfl ?_ ?_
    rotate_left
    · rintro _ _ ⟨s9, ⟨hm9, rfl⟩, rfl⟩
      exact pan_fn fun w hh => ⟨_, ⟨_, by simp [LogS.truncate, *], rfl, rfl⟩, hh⟩
    rintro _ _ ⟨s2, ⟨e2, hm2, rfl⟩, rfl⟩
    refine p_nil (g_seq (g_region (kPm rfl rfl ?_)))
    first | refine kPv (ev_nil rfl) rfl ?_ | refine kPv (ev_nilf rfl) rfl ?_
    refine kPv (ev_fa (m := _) fa_171_0 rfl rfl) rfl (kPv (ev_load Tryz.isAgg28 rfl rfl) rfl ?_)
    refine p_call rfl (en_f Tryz.call127 rfl) (up_at (fun Fr => nfence_ok _ Fr _ _)) .free rfl rfl ?_ ?_
    rotate_left
    · rintro _ _ ⟨s9, ⟨hm9, rfl⟩, rfl⟩
      exact pan_fn fun w hh => ⟨_, ⟨_, by simp [LogS.truncate, *], rfl, rfl⟩, hh⟩
    rintro _ _ ⟨s3, ⟨e3, hm3, rfl⟩, rfl⟩
    refine p_nil (go_sb [0] rfl (g_seq (g_region (kPm rfl rfl (kPm rfl rfl ?_)))))
    first | refine kPv (ev_nil rfl) rfl ?_ | refine kPv (ev_nilf rfl) rfl ?_
    refine kPv (ev_fa (m := _) fa_171_2 rfl rfl) rfl (kPv (ev_load Tryz.isAgg26 rfl rfl) rfl ?_)
    first | refine p_val rfl (ev_add rfl rfl (wru64 (by omega))) .free rfl rfl ?_ | refine p_val rfl (ev_add rfl rfl rfl) .free rfl rfl ?_
    refine kPv (ev_and rfl rfl (and32 _)) rfl ?_
    first | refine kPv (ev_nil rfl) rfl ?_ | refine kPv (ev_nilf rfl) rfl ?_
    refine kPv (ev_fa (m := _) fa_171_2 rfl rfl) rfl (p_chg0 rfl (ch_store Tryz.sizeOf26 rfl rfl rfl rfl) .free rfl ?_)
    rintro _ _ rfl
    refine p_nil (go_sb [0] rfl (g_region (kPm rfl rfl ?_)))
    first | refine kPv (ev_nil rfl) rfl ?_ | refine kPv (ev_nilf rfl) rfl ?_
    refine kPv (ev_fa (m := _) fa_171_3 rfl rfl) rfl (p_chg0 rfl (ch_store Tryz.sizeOf3 rfl rfl rfl rfl) .free rfl ?_)
    rintro _ _ rfl
    refine p_nil ?_
    exact end_none Tryz.results128 (fun w hh => ⟨_, ⟨{ L with epoch := (L.epoch + 1) % 4294967296, n := 0 }, _, by simp [LogS.truncate, *], rfl, rfl⟩, hh⟩)
theorem lappend_ok (B : World) (Fr : List HP) (bl : Nat) (L : LogS) (s : Dev) (hL : LogW L) (i : Int) :
    ∀ w, Holds B (LogA bl L :: DevA L.d s :: Fr) w → Calls Tryz.prog 119 [ptr bl, i64 i].toArray w (Ret B (fun rv H' => ∃ a L' s', L.append s i = .ok (a, L') s' ∧ rv = i64 a ∧ H' = LogA bl L' :: DevA L.d s' :: Fr) (fun c H' => ∃ s', L.append s i = .off s' ∧ c = offc ∧ H' = LogA bl L :: DevA L.d s' :: Fr)) := by
  refine fn_enter Tryz.func119 rfl Tryz.ntmps119 rfl ?_
  have hc := hL.c
  have hc1 := hc.r1
  have hc2 := hc.r2
  have hc3 := hc.l1
  have hc4 := hc.l2
  have hl1 := hL.e1
  have hl2 := hL.e2
  have hl3 := hL.n1
  have hl4 := hL.n2
  have hrc : 16 ≤ L.c.record L.n ∧ L.c.record L.n ≤ 10000 := by simp only [Cfg.record]; omega
  refine go_dw L.d fun hn1 hn2 hn3 => (g_seq (g_region (kPa rfl rfl (p_nil (g_seq (g_block (g_seq (g_region (kPm rfl rfl (kPv (ev_cmp rfl rfl rfl) rfl (kPm rfl rfl ?_)))))))))))
  apply p_or (tp := 17) (t := 9) (σ1 := [(9, _), (4, _), (0, _), (1, _)]) 8 rfl (sub_r rfl)
  · intro hg1
    refine p_val rfl (ev_move rfl) (.on rfl rfl (beq_eq hg1)) rfl rfl (p_val rfl (ev_move rfl) (.on rfl rfl (beq_eq hg1)) rfl rfl ?_)
    first | refine p_val rfl (ev_nil rfl) (.on rfl rfl (beq_eq hg1)) rfl rfl ?_ | refine p_val rfl (ev_nilf rfl) (.on rfl rfl (beq_eq hg1)) rfl rfl ?_
    refine p_val rfl (ev_fa (m := _) fa_171_0 rfl rfl) (.on rfl rfl (beq_eq hg1)) rfl rfl (p_val rfl (ev_load Tryz.isAgg28 rfl rfl) (.on rfl rfl (beq_eq hg1)) rfl rfl (p_callq rfl (en_f Tryz.call118 rfl) (ro_at (q := DevA) (fun Fr => nlen_ok _ Fr _ _)) (.on rfl rfl (beq_eq hg1)) rfl rfl ?_))
    refine p_val rfl (ev_cmp rfl rfl rfl) (.on rfl rfl (beq_eq hg1)) rfl rfl (kPv (ev_pick_f rfl hg1 rfl) rfl ?_)
    exact p_seg rfl (sub_r rfl) (or_f hg1)
  · intro hg1
    refine p_skip rfl (.on rfl rfl (beq_ne hg1)) rfl (p_skip rfl (.on rfl rfl (beq_ne hg1)) rfl (p_skip rfl (.on rfl rfl (beq_ne hg1)) rfl (p_skip rfl (.on rfl rfl (beq_ne hg1)) rfl (p_skip rfl (.on rfl rfl (beq_ne hg1)) rfl (p_skip rfl (.on rfl rfl (beq_ne hg1)) rfl (p_skip rfl (.on rfl rfl (beq_ne hg1)) rfl (kPv (ev_pick_t rfl hg1 rfl) rfl ?_)))))))
    exact p_seg rfl (sub_r rfl) (or_t hg1)
  refine kPa rfl rfl (p_nil ?_)
  refine g_if rfl (fun h6 => ?_) (fun h6 => ?_)
  · try simp only [decide_eq_true_eq, decide_eq_false_iff_not, Bool.not_eq_true', Bool.not_eq_false', Bool.or_eq_true, Bool.and_eq_true, Bool.and_eq_false_iff, Bool.or_eq_false_iff, beq_iff_eq, bne_iff_ne, beq_eq_false_iff_ne, bne_eq_false_iff_eq, ge_iff_le, gt_iff_lt, ne_eq] at h6
    refine g_seq (g_region (kPa rfl rfl (p_nil (g_ret ?_))))
    exact ret_tmp Tryz.results119 rfl (fun w hh => ⟨_, ⟨1, L, s, by simp [LogS.append, *], rfl, rfl⟩, hh⟩)
  · try simp only [decide_eq_true_eq, decide_eq_false_iff_not, Bool.not_eq_true', Bool.not_eq_false', Bool.or_eq_true, Bool.and_eq_true, Bool.and_eq_false_iff, Bool.or_eq_false_iff, beq_iff_eq, bne_iff_ne, beq_eq_false_iff_ne, bne_eq_false_iff_eq, ge_iff_le, gt_iff_lt, ne_eq] at h6
    refine g_seq (g_draw Tryz.mixed (by kernel_rfl) (by kernel_rfl) ?_)
    refine kQm rfl rfl ?_
    first | refine kQv (ev_nil rfl) rfl ?_ | refine kQv (ev_nilf rfl) rfl ?_
    refine kQv (ev_fa (m := _) fa_171_3 rfl rfl) rfl (kQv (ev_load Tryz.isAgg3 rfl rfl) rfl (kQm rfl rfl ?_))
    first | refine kQv (ev_nil rfl) rfl ?_ | refine kQv (ev_nilf rfl) rfl ?_
    refine kQv (ev_fa (m := _) fa_171_1 rfl rfl) rfl (kQv (ev_fa (m := _) fa_40_0 rfl rfl) rfl (kQv (ev_load Tryz.isAgg3 rfl rfl) rfl (kQv (ev_cmp rfl rfl rfl) rfl (kQa rfl rfl (q_nil (go_sb [18, 4, 0, 1] rfl ?_))))))
    refine g_if rfl (fun h18 => ?_) (fun h18 => ?_)
    · try simp only [decide_eq_true_eq, decide_eq_false_iff_not, Bool.not_eq_true', Bool.not_eq_false', Bool.or_eq_true, Bool.and_eq_true, Bool.and_eq_false_iff, Bool.or_eq_false_iff, beq_iff_eq, bne_iff_ne, beq_eq_false_iff_ne, bne_eq_false_iff_eq, ge_iff_le, gt_iff_lt, ne_eq] at h18
      refine g_seq (g_region (kPa rfl rfl (p_nil (g_ret ?_))))
      exact ret_tmp Tryz.results119 rfl (fun w hh => ⟨_, ⟨3, L, s, by simp [LogS.append, *], rfl, rfl⟩, hh⟩)
    · try simp only [decide_eq_true_eq, decide_eq_false_iff_not, Bool.not_eq_true', Bool.not_eq_false', Bool.or_eq_true, Bool.and_eq_true, Bool.and_eq_false_iff, Bool.or_eq_false_iff, beq_iff_eq, bne_iff_ne, beq_eq_false_iff_ne, bne_eq_false_iff_eq, ge_iff_le, gt_iff_lt, ne_eq] at h18
      refine g_skip (g_seq (g_draw Tryz.mixed (by kernel_rfl) (by kernel_rfl) ?_))
      refine kQm rfl rfl ?_
      first | refine kQv (ev_nil rfl) rfl ?_ | refine kQv (ev_nilf rfl) rfl ?_
      refine kQv (ev_fa (m := _) fa_171_1 rfl rfl) rfl (kQv (ev_loadA Tryz.isAgg40 Tryz.sizeOf40 rfl rfl) rfl ?_)
      refine kQm rfl rfl ?_
      first | refine kQv (ev_nil rfl) rfl ?_ | refine kQv (ev_nilf rfl) rfl ?_
      refine kQv (ev_fa (m := _) fa_171_3 rfl rfl) rfl (kQv (ev_load Tryz.isAgg3 rfl rfl) rfl (q_call rfl (en_f Tryz.call130 rfl) (record_ok _ _ L.c _ (by omega) (by omega)) .free rfl ?_))
      refine kQa rfl rfl (q_nil (go_sb [5, 4, 0, 1] rfl (g_seq (g_region (kPm rfl rfl ?_)))))
      first | refine kPv (ev_nil rfl) rfl ?_ | refine kPv (ev_nilf rfl) rfl ?_
      refine kPv (ev_fa (m := _) fa_171_0 rfl rfl) rfl (kPv (ev_load Tryz.isAgg28 rfl rfl) rfl (kPm rfl rfl ?_))
      first | refine p_val rfl (ev_add rfl rfl (wr64 (by omega))) .free rfl rfl ?_ | refine p_val rfl (ev_add rfl rfl rfl) .free rfl rfl ?_
      refine kPm rfl rfl ?_
      first | refine p_val rfl (ev_conv Tryz.runUnderlying3 Tryz.runUnderlying26 rfl (wru64 (by omega))) .free rfl rfl ?_ | refine p_val rfl (ev_conv Tryz.runUnderlying3 Tryz.runUnderlying26 rfl rfl) .free rfl rfl ?_
      refine p_call rfl (en_f Tryz.call120 rfl) (up_at (fun Fr => nstore_ok _ Fr _ _ _ _)) .free rfl rfl ?_ ?_
      rotate_left
      · rintro _ _ ⟨s9, ⟨hm9, rfl⟩, rfl⟩
        exact pan_fn fun w hh => ⟨_, ⟨_, by simp [LogS.append, *], rfl, rfl⟩, hh⟩
      rintro _ _ ⟨s1, ⟨e1, hm1, rfl⟩, rfl⟩
      refine p_nil (go_sb [5, 4, 0, 1] rfl (g_seq (g_drawt 12 Tryz.mixed (by kernel_rfl) (by kernel_rfl) ?_)))
      refine kQm rfl rfl ?_
      first | refine kQv (ev_nil rfl) rfl ?_ | refine kQv (ev_nilf rfl) rfl ?_
      refine kQv (ev_fa (m := _) fa_171_0 rfl rfl) rfl (kQv (ev_load Tryz.isAgg28 rfl rfl) rfl (kQm rfl rfl ?_))
      first | refine q_val rfl (ev_add rfl rfl (wr64 (by omega))) .free rfl ?_ | refine q_val rfl (ev_add rfl rfl rfl) .free rfl ?_
      refine kQm rfl rfl ?_
      first | refine kQv (ev_nil rfl) rfl ?_ | refine kQv (ev_nilf rfl) rfl ?_
      refine kQv (ev_fa (m := _) fa_171_0 rfl rfl) rfl (kQv (ev_load Tryz.isAgg28 rfl rfl) rfl (kQm rfl rfl (q_call rfl (en_f Tryz.call71 rfl) (ro_at (q := DevA) (fun Fr => nload_ok _ Fr _ _ _)) .free rfl ?_)))
      refine q_nil ?_
      refine p_call rfl (en_f Tryz.call120 rfl) (up_at (fun Fr => nstore_ok _ Fr _ _ _ _)) .free rfl rfl ?_ ?_
      rotate_left
      · rintro _ _ ⟨s9, ⟨hm9, rfl⟩, rfl⟩
        exact pan_fn fun w hh => ⟨_, ⟨_, by simp [LogS.append, *], rfl, rfl⟩, hh⟩
      rintro _ _ ⟨s2, ⟨e2, hm2, rfl⟩, rfl⟩
      refine p_nil (go_sb [5, 4, 0] rfl (g_seq (g_region (kPm rfl rfl ?_))))
      first | refine kPv (ev_nil rfl) rfl ?_ | refine kPv (ev_nilf rfl) rfl ?_
      refine kPv (ev_fa (m := _) fa_171_0 rfl rfl) rfl (kPv (ev_load Tryz.isAgg28 rfl rfl) rfl (kPm rfl rfl ?_))
      refine p_call rfl (en_f Tryz.call126 rfl) (up_at (fun Fr => nflush_ok _ Fr _ _ _)) .free rfl rfl ?_ ?_
      rotate_left
      · rintro _ _ ⟨s9, ⟨hm9, rfl⟩, rfl⟩
        exact pan_fn fun w hh => ⟨_, ⟨_, by simp [LogS.append, *], rfl, rfl⟩, hh⟩
      rintro _ _ ⟨s3, ⟨e3, hm3, rfl⟩, rfl⟩
      refine p_nil (g_seq (g_region (kPm rfl rfl ?_)))
      first | refine kPv (ev_nil rfl) rfl ?_ | refine kPv (ev_nilf rfl) rfl ?_
      refine kPv (ev_fa (m := _) fa_171_0 rfl rfl) rfl (kPv (ev_load Tryz.isAgg28 rfl rfl) rfl ?_)
      refine p_call rfl (en_f Tryz.call127 rfl) (up_at (fun Fr => nfence_ok _ Fr _ _)) .free rfl rfl ?_ ?_
      rotate_left
      · rintro _ _ ⟨s9, ⟨hm9, rfl⟩, rfl⟩
        exact pan_fn fun w hh => ⟨_, ⟨_, by simp [LogS.append, *], rfl, rfl⟩, hh⟩
      rintro _ _ ⟨s4, ⟨e4, hm4, rfl⟩, rfl⟩
      refine p_nil (go_sb [5, 4, 0] rfl (g_seq (g_drawt 14 Tryz.mixed (by kernel_rfl) (by kernel_rfl) ?_)))
      refine kQm rfl rfl ?_
      first | refine kQv (ev_nil rfl) rfl ?_ | refine kQv (ev_nilf rfl) rfl ?_
      refine kQv (ev_fa (m := _) fa_171_0 rfl rfl) rfl (kQv (ev_load Tryz.isAgg28 rfl rfl) rfl (kQm rfl rfl (kQm rfl rfl ?_)))
      first | refine kQv (ev_nil rfl) rfl ?_ | refine kQv (ev_nilf rfl) rfl ?_
      refine kQv (ev_fa (m := _) fa_171_2 rfl rfl) rfl (kQv (ev_load Tryz.isAgg26 rfl rfl) rfl (kQm rfl rfl ?_))
      first | refine kQv (ev_nil rfl) rfl ?_ | refine kQv (ev_nilf rfl) rfl ?_
      refine kQv (ev_fa (m := _) fa_171_3 rfl rfl) rfl (kQv (ev_load Tryz.isAgg3 rfl rfl) rfl (q_call rfl (en_f Tryz.call131 rfl) (stamp_ok _ _ _ _ ⟨by omega, by omega⟩ ⟨by omega, by omega⟩) .free rfl ?_))
      refine q_nil ?_
      refine p_call rfl (en_f Tryz.call120 rfl) (up_at (fun Fr => nstore_ok _ Fr _ _ _ _)) .free rfl rfl ?_ ?_
      rotate_left
      · rintro _ _ ⟨s9, ⟨hm9, rfl⟩, rfl⟩
        exact pan_fn fun w hh => ⟨_, ⟨_, by simp [LogS.append, *], rfl, rfl⟩, hh⟩
      rintro _ _ ⟨s5, ⟨e5, hm5, rfl⟩, rfl⟩
      refine p_nil (go_sb [5, 4, 0] rfl (g_seq (g_region (kPm rfl rfl ?_))))
      first | refine kPv (ev_nil rfl) rfl ?_ | refine kPv (ev_nilf rfl) rfl ?_
      refine kPv (ev_fa (m := _) fa_171_0 rfl rfl) rfl (kPv (ev_load Tryz.isAgg28 rfl rfl) rfl (kPm rfl rfl ?_))
      refine p_call rfl (en_f Tryz.call126 rfl) (up_at (fun Fr => nflush_ok _ Fr _ _ _)) .free rfl rfl ?_ ?_
      rotate_left
      · rintro _ _ ⟨s9, ⟨hm9, rfl⟩, rfl⟩
        exact pan_fn fun w hh => ⟨_, ⟨_, by simp [LogS.append, *], rfl, rfl⟩, hh⟩
      rintro _ _ ⟨s6, ⟨e6, hm6, rfl⟩, rfl⟩
      refine p_nil (go_sb [4, 0] rfl (g_seq (g_region (kPm rfl rfl ?_))))
      first | refine kPv (ev_nil rfl) rfl ?_ | refine kPv (ev_nilf rfl) rfl ?_
      refine kPv (ev_fa (m := _) fa_171_0 rfl rfl) rfl (kPv (ev_load Tryz.isAgg28 rfl rfl) rfl ?_)
      refine p_call rfl (en_f Tryz.call127 rfl) (up_at (fun Fr => nfence_ok _ Fr _ _)) .free rfl rfl ?_ ?_
      rotate_left
      · rintro _ _ ⟨s9, ⟨hm9, rfl⟩, rfl⟩
        exact pan_fn fun w hh => ⟨_, ⟨_, by simp [LogS.append, *], rfl, rfl⟩, hh⟩
      rintro _ _ ⟨s7, ⟨e7, hm7, rfl⟩, rfl⟩
      refine p_nil (g_seq (g_region (kPm rfl rfl ?_)))
      first | refine kPv (ev_nil rfl) rfl ?_ | refine kPv (ev_nilf rfl) rfl ?_
      refine kPv (ev_fa (m := _) fa_171_3 rfl rfl) rfl (kPv (ev_load Tryz.isAgg3 rfl rfl) rfl ?_)
      first | refine p_val rfl (ev_add rfl rfl (wr64 (by omega))) .free rfl rfl ?_ | refine p_val rfl (ev_add rfl rfl rfl) .free rfl rfl ?_
      first | refine kPv (ev_nil rfl) rfl ?_ | refine kPv (ev_nilf rfl) rfl ?_
      refine kPv (ev_fa (m := _) fa_171_3 rfl rfl) rfl (p_chg0 rfl (ch_store Tryz.sizeOf3 rfl rfl rfl rfl) .free rfl ?_)
      rintro _ _ rfl
      refine p_nil (go_sb [4] rfl (g_seq (g_region (kPa rfl rfl (p_nil (g_ret ?_))))))
      exact ret_tmp Tryz.results119 rfl (fun w hh => ⟨_, ⟨0, { L with n := L.n + 1 }, _, by simp [LogS.append, *], rfl, rfl⟩, hh⟩)
def openN (s : Dev) (c : Cfg) (e : Int) : Nat → Int → Int
  | 0, n => n
  | f + 1, n => if s.load (c.record n) = stampI e n then openN s c e f (n + 1) else n
def openL (d : Nat) (c : Cfg) (s : Dev) : LogS := ⟨d, c, s.load 8 % 4294967296, openN s c (s.load 8 % 4294967296) c.log.toNat 0⟩
theorem openN_le (s : Dev) (c : Cfg) (e : Int) : ∀ f n, n ≤ openN s c e f n ∧ openN s c e f n ≤ n + f
  | 0, n => by simp [openN]
  | f + 1, n => by
    have := openN_le s c e f (n + 1)
    simp only [openN]; split <;> omega
theorem openL_w {d : Nat} {c : Cfg} {s : Dev} (h : CfgW c) : LogW (openL d c s) := by
  have := openN_le s c (s.load 8 % 4294967296) c.log.toNat 0
  have := h.l1; have := h.r1
  exact ⟨h, by simp only [openL]; omega, by simp only [openL]; omega, by simp only [openL]; omega, by simp only [openL]; omega⟩
theorem lopen_ok (B : World) (Fr : List HP) (bd : Nat) (s : Dev) (c : Cfg) (hc : CfgW c) :
    ∀ w, Holds B (DevA bd s :: Fr) w → Calls Tryz.prog 64 [ptr bd, cfgV c].toArray w (Ret B (fun rv H' => ∃ bl, rv = ptr bl ∧ H' = LogA bl (openL bd c s) :: DevA bd s :: Fr) (fun _ _ => False)) := by
  refine fn_enter Tryz.func64 rfl Tryz.ntmps64 rfl ?_
  have hc1 := hc.r1
  have hc2 := hc.r2
  have hc3 := hc.l1
  have hc4 := hc.l2
  refine g_seq (g_region (p_chg rfl (ch_boxA rfl) .free rfl rfl ?_))
  rintro _ _ ⟨b3, rfl, rfl⟩
  refine kPa rfl rfl (p_nil (g_seq (g_drawt 6 Tryz.mixed (by kernel_rfl) (by kernel_rfl) ?_)))
  refine kQm rfl rfl (kQv (ev_loadA Tryz.isAgg40 Tryz.sizeOf40 rfl rfl) rfl ?_)
  refine kQm rfl rfl (q_call rfl (en_f Tryz.call71 rfl) (ro_at (q := DevA) (fun Fr => nload_ok _ Fr _ _ _)) .free rfl ?_)
  refine kQv (ev_and rfl rfl (and32 _)) rfl ?_
  refine q_val rfl (ev_build rfl (bld_171_0_1_2 _ _ _ _ _ (by first | rfl | assumption) rfl)) .free rfl ?_
  refine q_nil (p_chg rfl (ch_boxA rfl) .free rfl rfl ?_)
  rintro _ _ ⟨b12, rfl, rfl⟩
  refine kPa rfl rfl (p_nil (go_sb [5, 4, 3, 0] rfl (g_seq (g_block (g_loop (ι := Int) (fun n => (0 ≤ n ∧ n ≤ c.log) ∧ openN s c (s.load 8 % 4294967296) (c.log - n).toNat n = openN s c (s.load 8 % 4294967296) c.log.toNat 0) (fun _ => [(0, ptr bd), (3, ptr b3), (4, .pointer none), (5, ptr b12)]) (fun n => row b12 [ptr bd, i64 c.log, i64 c.roots, i64 c.space, w64 (s.load 8 % 4294967296), i64 n] 171 :: row b3 [i64 c.log, i64 c.roots, i64 c.space] 40 :: DevA bd s :: Fr) (fun n => (c.log - n).toNat) 0 ⟨⟨by omega, by omega⟩, by rw [Int.sub_zero]⟩ (fun a w st => st.to ⟨rfl, rfl, rfl, rfl, trivial⟩ id) ?_)))))
  rintro n ⟨⟨hn1, hn2⟩, hn3⟩
  refine g_seq (g_seq (g_draw Tryz.mixed (by kernel_rfl) (by kernel_rfl) ?_))
  refine kQm rfl rfl ?_
  first | refine kQv (ev_nil rfl) rfl ?_ | refine kQv (ev_nilf rfl) rfl ?_
  refine kQv (ev_fa (m := _) fa_171_3 rfl rfl) rfl (kQv (ev_load Tryz.isAgg3 rfl rfl) rfl (kQv (ev_fa (m := _) fa_40_0 rfl rfl) rfl (kQv (ev_load Tryz.isAgg3 rfl rfl) rfl (kQv (ev_cmp rfl rfl rfl) rfl (kQm rfl rfl ?_)))))
  apply q_and (tp := 39) (t := 20) (σ1 := [(20, _), (5, _), (4, _), (3, _), (0, _)]) 19 rfl (sub_r rfl)
  · intro hg1
    refine q_val rfl (ev_move rfl) (.on rfl rfl (beq_eq hg1)) rfl (q_val rfl (ev_loadA Tryz.isAgg40 Tryz.sizeOf40 rfl rfl) (.on rfl rfl (beq_eq hg1)) rfl ?_)
    refine q_val rfl (ev_move rfl) (.on rfl rfl (beq_eq hg1)) rfl ?_
    first | refine q_val rfl (ev_nil rfl) (.on rfl rfl (beq_eq hg1)) rfl ?_ | refine q_val rfl (ev_nilf rfl) (.on rfl rfl (beq_eq hg1)) rfl ?_
    refine q_val rfl (ev_fa (m := _) fa_171_3 rfl rfl) (.on rfl rfl (beq_eq hg1)) rfl (q_val rfl (ev_load Tryz.isAgg3 rfl rfl) (.on rfl rfl (beq_eq hg1)) rfl (q_call rfl (en_f Tryz.call130 rfl) (record_ok _ _ c _ (by omega) (by omega)) (.on rfl rfl (beq_eq hg1)) rfl ?_))
    refine q_call rfl (en_f Tryz.call71 rfl) (ro_at (q := DevA) (fun Fr => nload_ok _ Fr _ _ _)) (.on rfl rfl (beq_eq hg1)) rfl ?_
    refine q_val rfl (ev_move rfl) (.on rfl rfl (beq_eq hg1)) rfl ?_
    first | refine q_val rfl (ev_nil rfl) (.on rfl rfl (beq_eq hg1)) rfl ?_ | refine q_val rfl (ev_nilf rfl) (.on rfl rfl (beq_eq hg1)) rfl ?_
    refine q_val rfl (ev_fa (m := _) fa_171_2 rfl rfl) (.on rfl rfl (beq_eq hg1)) rfl (q_val rfl (ev_load Tryz.isAgg26 rfl rfl) (.on rfl rfl (beq_eq hg1)) rfl (q_val rfl (ev_move rfl) (.on rfl rfl (beq_eq hg1)) rfl ?_))
    first | refine q_val rfl (ev_nil rfl) (.on rfl rfl (beq_eq hg1)) rfl ?_ | refine q_val rfl (ev_nilf rfl) (.on rfl rfl (beq_eq hg1)) rfl ?_
    refine q_val rfl (ev_fa (m := _) fa_171_3 rfl rfl) (.on rfl rfl (beq_eq hg1)) rfl (q_val rfl (ev_load Tryz.isAgg3 rfl rfl) (.on rfl rfl (beq_eq hg1)) rfl (q_call rfl (en_f Tryz.call131 rfl) (stamp_ok _ _ _ _ ⟨by omega, by omega⟩ ⟨by omega, by omega⟩) (.on rfl rfl (beq_eq hg1)) rfl ?_))
    refine q_val rfl (ev_cmp rfl rfl rfl) (.on rfl rfl (beq_eq hg1)) rfl (kQv (ev_pick_t rfl hg1 rfl) rfl ?_)
    exact q_seg rfl (sub_r rfl) (and_t hg1)
  · intro hg1
    refine q_skip rfl (.on rfl rfl (beq_ne hg1)) rfl (q_skip rfl (.on rfl rfl (beq_ne hg1)) rfl (q_skip rfl (.on rfl rfl (beq_ne hg1)) rfl (q_skip rfl (.on rfl rfl (beq_ne hg1)) rfl (q_skip rfl (.on rfl rfl (beq_ne hg1)) rfl (q_skip rfl (.on rfl rfl (beq_ne hg1)) rfl (q_skip rfl (.on rfl rfl (beq_ne hg1)) rfl (q_skip rfl (.on rfl rfl (beq_ne hg1)) rfl (q_skip rfl (.on rfl rfl (beq_ne hg1)) rfl (q_skip rfl (.on rfl rfl (beq_ne hg1)) rfl (q_skip rfl (.on rfl rfl (beq_ne hg1)) rfl (q_skip rfl (.on rfl rfl (beq_ne hg1)) rfl ?_)))))))))))
    refine q_skip rfl (.on rfl rfl (beq_ne hg1)) rfl (q_skip rfl (.on rfl rfl (beq_ne hg1)) rfl (q_skip rfl (.on rfl rfl (beq_ne hg1)) rfl (q_skip rfl (.on rfl rfl (beq_ne hg1)) rfl (q_skip rfl (.on rfl rfl (beq_ne hg1)) rfl (q_skip rfl (.on rfl rfl (beq_ne hg1)) rfl (kQv (ev_pick_f rfl hg1 rfl) rfl ?_))))))
    exact q_seg rfl (sub_r rfl) (and_f hg1)
  refine q_nil ?_
  refine g_if rfl (fun h39 => ?_) (fun h39 => ?_)
  · try simp only [decide_eq_true_eq, decide_eq_false_iff_not, Bool.not_eq_true', Bool.not_eq_false', Bool.or_eq_true, Bool.and_eq_true, Bool.and_eq_false_iff, Bool.or_eq_false_iff, beq_iff_eq, bne_iff_ne, beq_eq_false_iff_ne, bne_eq_false_iff_eq, ge_iff_le, gt_iff_lt, ne_eq] at h39
    refine g_skip (g_block (g_region (kPm rfl rfl ?_)))
    first | refine kPv (ev_nil rfl) rfl ?_ | refine kPv (ev_nilf rfl) rfl ?_
    refine kPv (ev_fa (m := _) fa_171_3 rfl rfl) rfl (kPv (ev_load Tryz.isAgg3 rfl rfl) rfl ?_)
    first | refine p_val rfl (ev_add rfl rfl (wr64 (by omega))) .free rfl rfl ?_ | refine p_val rfl (ev_add rfl rfl rfl) .free rfl rfl ?_
    first | refine kPv (ev_nil rfl) rfl ?_ | refine kPv (ev_nilf rfl) rfl ?_
    refine kPv (ev_fa (m := _) fa_171_3 rfl rfl) rfl (p_chg0 rfl (ch_store Tryz.sizeOf3 rfl rfl rfl rfl) .free rfl ?_)
    rintro _ _ rfl
    refine p_nil (go_sb [5, 4, 3, 0] rfl ?_)
    have e1 : (c.log - n).toNat = (c.log - (n + 1)).toNat + 1 := by omega
    exact fun a w st => ⟨n + 1, ⟨⟨by omega, by omega⟩, by rw [e1] at hn3; simp only [openN] at hn3; rwa [if_pos h39.2] at hn3⟩, by omega, st.to ⟨rfl, rfl, rfl, rfl, trivial⟩ id⟩
  · try simp only [decide_eq_true_eq, decide_eq_false_iff_not, Bool.not_eq_true', Bool.not_eq_false', Bool.or_eq_true, Bool.and_eq_true, Bool.and_eq_false_iff, Bool.or_eq_false_iff, beq_iff_eq, bne_iff_ne, beq_eq_false_iff_ne, bne_eq_false_iff_eq, ge_iff_le, gt_iff_lt, ne_eq] at h39
    refine g_exit (g_seq (g_region (kPm rfl rfl (kPa rfl rfl (p_nil (g_ret ?_))))))
    exact ret_tmp Tryz.results64 rfl (fun w hh => ⟨_, ⟨b12, rfl, rfl⟩, by
      have e2 : openN s c (s.load 8 % 4294967296) c.log.toNat 0 = n := by
        rw [← hn3]
        cases e1 : (c.log - n).toNat with
        | zero => rfl
        | succ k => simp only [openN]; rw [if_neg (by rcases h39 with h | h; omega; exact h)]
      simp only [openL]
      rw [e2]
      exact (hh.front 1 rfl).tail⟩)
def goodN (s : Dev) (c : Cfg) : Nat → Int → Int
  | 0, _ => -1
  | f + 1, k => if s.load (c.record k + 1) < c.active ∨ (s.n : Int) ≤ s.load (c.record k + 1) then k else goodN s c f (k + 1)
theorem lgood_ok (B : World) (Fr : List HP) (bl : Nat) (L : LogS) (s : Dev) (hL : LogW L) :
    ∀ w, Holds B (LogA bl L :: DevA L.d s :: Fr) w → Calls Tryz.prog 65 [ptr bl].toArray w (PureR B (LogA bl L :: DevA L.d s :: Fr) (i64 (goodN s L.c L.n.toNat 0))) := by
  refine fn_enter Tryz.func65 rfl Tryz.ntmps65 rfl ?_
  have hc := hL.c
  have hc1 := hc.r1
  have hc2 := hc.r2
  have hc3 := hc.l1
  have hc4 := hc.l2
  have hl1 := hL.e1
  have hl2 := hL.e2
  have hl3 := hL.n1
  have hl4 := hL.n2
  have hrc : 16 ≤ L.c.record L.n ∧ L.c.record L.n ≤ 10000 := by simp only [Cfg.record]; omega
  refine go_dw L.d fun hn1 hn2 hn3 => ?_
  have ha := hc.act
  refine g_seq (g_region (kPa rfl rfl (p_nil (g_seq (g_seq (g_region (kPm rfl rfl ?_)))))))
  first | refine kPv (ev_nil rfl) rfl ?_ | refine kPv (ev_nilf rfl) rfl ?_
  refine kPv (ev_fa (m := _) fa_171_3 rfl rfl) rfl (kPv (ev_load Tryz.isAgg3 rfl rfl) rfl (kPm rfl rfl (p_nil (g_block (g_loop (ι := Int) (fun k => (0 ≤ k ∧ k ≤ L.n) ∧ goodN s L.c (L.n - k).toNat k = goodN s L.c L.n.toNat 0) (fun k => [(0, ptr bl), (2, i64 0), (8, i64 L.n), (9, i64 k)]) (fun _ => LogA bl L :: DevA L.d s :: Fr) (fun k => (L.n - k).toNat) 0 ⟨⟨by omega, by omega⟩, by rw [Int.sub_zero]⟩ (fun a w st => st.to ⟨rfl, rfl, rfl, rfl, trivial⟩ id) ?_)))))
  rintro k ⟨⟨hk1, hk2⟩, hk3⟩
  have hrk : 16 ≤ L.c.record k ∧ L.c.record k ≤ 10000 := by simp only [Cfg.record]; omega
  refine g_seq (g_region (kPv (ev_cmp rfl rfl rfl) rfl (p_nil (g_seq ?_))))
  refine g_if rfl (fun h10 => ?_) (fun h10 => ?_)
  · try simp only [decide_eq_true_eq, decide_eq_false_iff_not, Bool.not_eq_true', Bool.not_eq_false', Bool.or_eq_true, Bool.and_eq_true, Bool.and_eq_false_iff, Bool.or_eq_false_iff, beq_iff_eq, bne_iff_ne, beq_eq_false_iff_ne, bne_eq_false_iff_eq, ge_iff_le, gt_iff_lt, ne_eq] at h10
    refine g_skip (g_seq (g_block (g_seq (g_region (kPm rfl rfl (kPa rfl rfl (p_nil (g_seq (g_draw Tryz.mixed (by kernel_rfl) (by kernel_rfl) ?_)))))))))
    refine kQm rfl rfl ?_
    first | refine kQv (ev_nil rfl) rfl ?_ | refine kQv (ev_nilf rfl) rfl ?_
    refine kQv (ev_fa (m := _) fa_171_0 rfl rfl) rfl (kQv (ev_load Tryz.isAgg28 rfl rfl) rfl (kQm rfl rfl ?_))
    first | refine kQv (ev_nil rfl) rfl ?_ | refine kQv (ev_nilf rfl) rfl ?_
    refine kQv (ev_fa (m := _) fa_171_1 rfl rfl) rfl (kQv (ev_loadA Tryz.isAgg40 Tryz.sizeOf40 rfl rfl) rfl ?_)
    refine kQm rfl rfl (q_call rfl (en_f Tryz.call130 rfl) (record_ok _ _ L.c _ (by omega) (by omega)) .free rfl ?_)
    first | refine q_val rfl (ev_add rfl rfl (wr64 (by omega))) .free rfl ?_ | refine q_val rfl (ev_add rfl rfl rfl) .free rfl ?_
    refine q_call rfl (en_f Tryz.call71 rfl) (ro_at (q := DevA) (fun Fr => nload_ok _ Fr _ _ _)) .free rfl ?_
    refine kQa rfl rfl (q_nil (go_sb [4, 3, 9, 8, 2, 0] rfl (g_seq (g_region (kPm rfl rfl (kPm rfl rfl ?_))))))
    first | refine kPv (ev_nil rfl) rfl ?_ | refine kPv (ev_nilf rfl) rfl ?_
    refine kPv (ev_fa (m := _) fa_171_1 rfl rfl) rfl (kPv (ev_loadA Tryz.isAgg40 Tryz.sizeOf40 rfl rfl) rfl ?_)
    refine p_callq rfl (en_f Tryz.call117 rfl) (active_ok _ _ L.c hc) .free rfl rfl ?_
    first | refine p_val rfl (ev_conv Tryz.runUnderlying3 Tryz.runUnderlying26 rfl (wru64 (by omega))) .free rfl rfl ?_ | refine p_val rfl (ev_conv Tryz.runUnderlying3 Tryz.runUnderlying26 rfl rfl) .free rfl rfl ?_
    refine kPv (ev_cmp rfl rfl rfl) rfl (kPm rfl rfl ?_)
    apply p_or (tp := 41) (t := 32) (σ1 := [(32, _), (3, _), (9, _), (8, _), (2, _), (0, _)]) 9 rfl (sub_r rfl)
    · intro hg1
      refine p_val rfl (ev_move rfl) (.on rfl rfl (beq_eq hg1)) rfl rfl (p_val rfl (ev_move rfl) (.on rfl rfl (beq_eq hg1)) rfl rfl ?_)
      first | refine p_val rfl (ev_nil rfl) (.on rfl rfl (beq_eq hg1)) rfl rfl ?_ | refine p_val rfl (ev_nilf rfl) (.on rfl rfl (beq_eq hg1)) rfl rfl ?_
      refine p_val rfl (ev_fa (m := _) fa_171_0 rfl rfl) (.on rfl rfl (beq_eq hg1)) rfl rfl (p_val rfl (ev_load Tryz.isAgg28 rfl rfl) (.on rfl rfl (beq_eq hg1)) rfl rfl (p_callq rfl (en_f Tryz.call118 rfl) (ro_at (q := DevA) (fun Fr => nlen_ok _ Fr _ _)) (.on rfl rfl (beq_eq hg1)) rfl rfl ?_))
      first | refine p_val rfl (ev_conv Tryz.runUnderlying3 Tryz.runUnderlying26 rfl (wru64 (by omega))) (.on rfl rfl (beq_eq hg1)) rfl rfl ?_ | refine p_val rfl (ev_conv Tryz.runUnderlying3 Tryz.runUnderlying26 rfl rfl) (.on rfl rfl (beq_eq hg1)) rfl rfl ?_
      refine p_val rfl (ev_cmp rfl rfl rfl) (.on rfl rfl (beq_eq hg1)) rfl rfl (kPv (ev_pick_f rfl hg1 rfl) rfl ?_)
      exact p_seg rfl (sub_r rfl) (or_f hg1)
    · intro hg1
      refine p_skip rfl (.on rfl rfl (beq_ne hg1)) rfl (p_skip rfl (.on rfl rfl (beq_ne hg1)) rfl (p_skip rfl (.on rfl rfl (beq_ne hg1)) rfl (p_skip rfl (.on rfl rfl (beq_ne hg1)) rfl (p_skip rfl (.on rfl rfl (beq_ne hg1)) rfl (p_skip rfl (.on rfl rfl (beq_ne hg1)) rfl (p_skip rfl (.on rfl rfl (beq_ne hg1)) rfl (p_skip rfl (.on rfl rfl (beq_ne hg1)) rfl (kPv (ev_pick_t rfl hg1 rfl) rfl ?_))))))))
      exact p_seg rfl (sub_r rfl) (or_t hg1)
    refine p_nil ?_
    refine g_if rfl (fun h41 => ?_) (fun h41 => ?_)
    · try simp only [decide_eq_true_eq, decide_eq_false_iff_not, Bool.not_eq_true', Bool.not_eq_false', Bool.or_eq_true, Bool.and_eq_true, Bool.and_eq_false_iff, Bool.or_eq_false_iff, beq_iff_eq, bne_iff_ne, beq_eq_false_iff_ne, bne_eq_false_iff_eq, ge_iff_le, gt_iff_lt, ne_eq] at h41
      refine g_seq (g_region (kPm rfl rfl (kPa rfl rfl (p_nil (g_ret ?_)))))
      exact ret_tmp Tryz.results65 rfl (fun w hh => ⟨by
      have e1 : (L.n - k).toNat = (L.n - (k + 1)).toNat + 1 := by omega
      rw [← hk3, e1]; simp only [goodN]; rw [if_pos (by omega)], hh⟩)
    · try simp only [decide_eq_true_eq, decide_eq_false_iff_not, Bool.not_eq_true', Bool.not_eq_false', Bool.or_eq_true, Bool.and_eq_true, Bool.and_eq_false_iff, Bool.or_eq_false_iff, beq_iff_eq, bne_iff_ne, beq_eq_false_iff_ne, bne_eq_false_iff_eq, ge_iff_le, gt_iff_lt, ne_eq] at h41
      refine g_skip (g_region ?_)
      first | refine p_val rfl (ev_add rfl rfl (wr64 (by omega))) .free rfl rfl ?_ | refine p_val rfl (ev_add rfl rfl rfl) .free rfl rfl ?_
      refine kPm rfl rfl (p_nil ?_)
      have e1 : (L.n - k).toNat = (L.n - (k + 1)).toNat + 1 := by omega
      exact fun a w st => ⟨k + 1, ⟨⟨by omega, by omega⟩, by rw [e1] at hk3; simp only [goodN] at hk3; rwa [if_neg (by omega)] at hk3⟩, by omega, st.to ⟨rfl, rfl, rfl, rfl, trivial⟩ id⟩
  · try simp only [decide_eq_true_eq, decide_eq_false_iff_not, Bool.not_eq_true', Bool.not_eq_false', Bool.or_eq_true, Bool.and_eq_true, Bool.and_eq_false_iff, Bool.or_eq_false_iff, beq_iff_eq, bne_iff_ne, beq_eq_false_iff_ne, bne_eq_false_iff_eq, ge_iff_le, gt_iff_lt, ne_eq] at h10
    refine g_exit (g_seq (g_region (kPa rfl rfl (p_nil (go_sb [2] rfl (g_ret ?_))))))
    exact ret_tmp Tryz.results65 rfl (fun w hh => ⟨by rw [← hk3, show (L.n - k).toNat = 0 by omega]; rfl, hh⟩)
def recN (st : Int → Int → Dev → Out Unit) (c : Cfg) : Nat → Dev → Out Unit
  | 0, s => .ok () s
  | k + 1, s => (st (IntKind.i64.wrap (s.load (c.record k + 1))) (s.load (c.record k + 2)) s).then fun _ s => recN st c k s
def undoS (i v : Int) (s : Dev) : Out Unit := (s.store i v).then fun _ s => (s.flush i).then fun _ s => .ok () s
def LogS.undo (L : LogS) (s : Dev) : Out LogS :=
  (recN undoS L.c L.n.toNat s).then fun _ s => (if 0 < L.n then s.fence else .ok () s).then fun _ s => L.truncate s
theorem lrecords_ok (B : World) (H : List HP) (bl : Nat) :
    ∀ w, Holds B H w → Calls Tryz.prog 132 [ptr bl].toArray w (Ret B (fun v H' => ∃ bb, v = .func (.func 169) [].toArray [ptr bb].toArray ∧ H' = row bb [ptr bl] 116 :: H) (fun _ _ => False)) := by
  refine fn_enter Tryz.func132 rfl Tryz.ntmps132 rfl (g_seq (g_region (p_chg rfl (ch_box1 rfl rfl) .free rfl rfl ?_)))
  rintro _ _ ⟨b1, rfl, rfl⟩
  refine kPa rfl rfl (p_nil (g_seq (g_region (kPv (ev_mkf rfl rfl) rfl (kPa rfl rfl (p_nil (g_ret ?_)))))))
  exact ret_tmp Tryz.results132 rfl (fun w hw => ⟨_, ⟨_, rfl, rfl⟩, hw⟩)
theorem lrec1_ok (B : World) (Fr : List HP) (bl bb l f : Nat) (L : LogS) (s : Dev) (hL : LogW L) (r : Loop) (hrf : r.fn = f) (hrp : r.params.size = 2) (st : Int → Int → Dev → Out Unit) (hround : ∀ (i v : Int) (s : Dev), ∀ w, Holds B (blk l (.loop r) :: row bb [ptr bl] 116 :: LogA bl L :: DevA L.d s :: Fr) w → RoundIn (Wd (cxF f)) 0 Tryz.prog l f ((r.params.zip [i64 i, w64 v].toArray).foldl (fun tmps (t, a) => tmps.setIfInBounds t a) r.tmps) r.assign r.body w (Ret B (fun rv H' => ∃ s', st i v s = .ok () s' ∧ rv = .bool true ∧ H' = blk l (.loop r) :: row bb [ptr bl] 116 :: LogA bl L :: DevA L.d s' :: Fr) (fun c H' => ∃ s', st i v s = .off s' ∧ c = offc ∧ H' = row bb [ptr bl] 116 :: LogA bl L :: DevA L.d s' :: Fr))) :
    ∀ w, Holds B (blk l (.loop r) :: row bb [ptr bl] 116 :: LogA bl L :: DevA L.d s :: Fr) w → Calls Tryz.prog 169 [.func (.yield l) #[] #[], ptr bb].toArray w (Ret B (fun rv H' => ∃ s', recN st L.c L.n.toNat s = .ok () s' ∧ H' = blk l (.loop r) :: row bb [ptr bl] 116 :: LogA bl L :: DevA L.d s' :: Fr) (fun c H' => ∃ s', recN st L.c L.n.toNat s = .off s' ∧ c = offc ∧ H' = row bb [ptr bl] 116 :: LogA bl L :: DevA L.d s' :: Fr)) := by
  refine fn_enter Tryz.func169 rfl Tryz.ntmps169 rfl ?_
  have hc := hL.c
  have hc1 := hc.r1
  have hc2 := hc.r2
  have hc3 := hc.l1
  have hc4 := hc.l2
  have hl1 := hL.e1
  have hl2 := hL.e2
  have hl3 := hL.n1
  have hl4 := hL.n2
  have hrc : 16 ≤ L.c.record L.n ∧ L.c.record L.n ≤ 10000 := by simp only [Cfg.record]; omega
  refine go_dw L.d fun hn1 hn2 hn3 => (g_seq (g_region (kPv (ev_load Tryz.isAgg116 rfl rfl) rfl ?_)))
  first | refine kPv (ev_nil rfl) rfl ?_ | refine kPv (ev_nilf rfl) rfl ?_
  refine kPv (ev_fa (m := _) fa_171_3 rfl rfl) rfl (kPv (ev_load Tryz.isAgg3 rfl rfl) rfl ?_)
  first | refine p_val rfl (ev_sub rfl rfl (wr64 (by omega))) .free rfl rfl ?_ | refine p_val rfl (ev_sub rfl rfl rfl) .free rfl rfl ?_
  refine kPa rfl rfl (p_nil (g_block (g_loop (ι := Int × Dev) (fun i => (-1 ≤ i.1 ∧ i.1 < L.n) ∧ recN st L.c (i.1 + 1).toNat i.2 = recN st L.c L.n.toNat s) (fun i => [(0, .func (.yield l) #[] #[]), (1, ptr bb), (3, i64 i.1)]) (fun i => blk l (.loop r) :: row bb [ptr bl] 116 :: LogA bl L :: DevA L.d i.2 :: Fr) (fun i => (i.1 + 1).toNat) (L.n - 1, s) ⟨⟨by simp only; omega, by simp only; omega⟩, by simp only; rw [Int.sub_add_cancel]⟩ (fun a w st => st.to ⟨rfl, rfl, rfl, trivial⟩ id) ?_)))
  rintro ⟨k, s1⟩ ⟨⟨hk1, hk2⟩, hk3⟩
  simp only at hk1 hk2 hk3 ⊢
  have hrk : k < 0 ∨ 16 ≤ L.c.record k ∧ L.c.record k ≤ 10000 := by simp only [Cfg.record]; omega
  refine g_seq (g_seq (g_region (kPm rfl rfl (kPv (ev_cmp rfl rfl rfl) rfl (p_nil ?_)))))
  refine g_if rfl (fun h11 => ?_) (fun h11 => ?_)
  · try simp only [decide_eq_true_eq, decide_eq_false_iff_not, Bool.not_eq_true', Bool.not_eq_false', Bool.or_eq_true, Bool.and_eq_true, Bool.and_eq_false_iff, Bool.or_eq_false_iff, beq_iff_eq, bne_iff_ne, beq_eq_false_iff_ne, bne_eq_false_iff_eq, ge_iff_le, gt_iff_lt, ne_eq] at h11
    refine g_skip (g_seq (g_block (g_seq (g_region (kPv (ev_load Tryz.isAgg116 rfl rfl) rfl ?_)))))
    first | refine kPv (ev_nil rfl) rfl ?_ | refine kPv (ev_nilf rfl) rfl ?_
    refine kPv (ev_fa (m := _) fa_171_1 rfl rfl) rfl (kPv (ev_loadA Tryz.isAgg40 Tryz.sizeOf40 rfl rfl) rfl ?_)
    refine kPm rfl rfl (p_callq rfl (en_f Tryz.call130 rfl) (record_ok _ _ L.c _ (by omega) (by omega)) .free rfl rfl ?_)
    refine kPa rfl rfl (p_nil (go_sb [4, 3, 0, 1] rfl (g_seq (g_drawt 16 Tryz.mixed (by kernel_rfl) (by kernel_rfl) ?_))))
    refine kQm rfl rfl (kQv (ev_load Tryz.isAgg116 rfl rfl) rfl ?_)
    first | refine kQv (ev_nil rfl) rfl ?_ | refine kQv (ev_nilf rfl) rfl ?_
    refine kQv (ev_fa (m := _) fa_171_0 rfl rfl) rfl (kQv (ev_load Tryz.isAgg28 rfl rfl) rfl (kQm rfl rfl ?_))
    first | refine q_val rfl (ev_add rfl rfl (wr64 (by omega))) .free rfl ?_ | refine q_val rfl (ev_add rfl rfl rfl) .free rfl ?_
    refine q_call rfl (en_f Tryz.call71 rfl) (ro_at (q := DevA) (fun Fr => nload_ok _ Fr _ _ _)) .free rfl ?_
    first | refine q_val rfl (ev_conv Tryz.runUnderlying26 Tryz.runUnderlying3 rfl (wr64 (by omega))) .free rfl ?_ | refine q_val rfl (ev_conv Tryz.runUnderlying26 Tryz.runUnderlying3 rfl rfl) .free rfl ?_
    refine kQv (ev_load Tryz.isAgg116 rfl rfl) rfl ?_
    first | refine kQv (ev_nil rfl) rfl ?_ | refine kQv (ev_nilf rfl) rfl ?_
    refine kQv (ev_fa (m := _) fa_171_0 rfl rfl) rfl (kQv (ev_load Tryz.isAgg28 rfl rfl) rfl (kQm rfl rfl ?_))
    first | refine q_val rfl (ev_add rfl rfl (wr64 (by omega))) .free rfl ?_ | refine q_val rfl (ev_add rfl rfl rfl) .free rfl ?_
    refine q_call rfl (en_f Tryz.call71 rfl) (ro_at (q := DevA) (fun Fr => nload_ok _ Fr _ _ _)) .free rfl ?_
    refine q_nil ?_
    refine p_yield (f := f) rfl rfl (fun w hw => hw) (by rw [hrp]; rfl) hrf (hround _ _ _) .free rfl ?_ ?_
    rotate_left
    · rintro _ _ ⟨s9, hm9, rfl, rfl⟩
      exact pan_fn fun w hh => ⟨_, ⟨s9, by rw [← hk3, show (k + 1).toNat = k.toNat + 1 by omega]; simp only [recN]; rw [show ((k.toNat : Nat) : Int) = k by omega, hm9]; rfl, rfl, rfl⟩, hh⟩
    rintro _ _ ⟨s2, hm2, rfl, rfl⟩
    refine kPv (ev_not rfl) rfl (p_nil (go_sb [37, 3, 0, 1] rfl (g_iff rfl (rfl) (g_skip (g_region (kPm rfl rfl ?_))))))
    first | refine p_val rfl (ev_sub rfl rfl (wr64 (by omega))) .free rfl rfl ?_ | refine p_val rfl (ev_sub rfl rfl rfl) .free rfl rfl ?_
    refine kPa rfl rfl (p_nil ?_)
    exact fun a w st => ⟨(k - 1, s2), ⟨⟨by simp only; omega, by simp only; omega⟩, by
      simp only
      rw [← hk3, show (k + 1).toNat = k.toNat + 1 by omega, show (k - 1 + 1).toNat = k.toNat by omega]
      simp only [recN]
      rw [show ((k.toNat : Nat) : Int) = k by omega, hm2]; rfl⟩, by simp only; omega, st.to ⟨rfl, rfl, rfl, trivial⟩ id⟩
  · try simp only [decide_eq_true_eq, decide_eq_false_iff_not, Bool.not_eq_true', Bool.not_eq_false', Bool.or_eq_true, Bool.and_eq_true, Bool.and_eq_false_iff, Bool.or_eq_false_iff, beq_iff_eq, bne_iff_ne, beq_eq_false_iff_ne, bne_eq_false_iff_eq, ge_iff_le, gt_iff_lt, ne_eq] at h11
    refine g_exit ?_
    exact end_none Tryz.results169 (fun w hh => ⟨_, ⟨s1, by rw [← hk3, show (k + 1).toNat = 0 by omega]; rfl, rfl⟩, hh⟩)
theorem lundo_ok (B : World) (Fr : List HP) (bl : Nat) (L : LogS) (s : Dev) (hL : LogW L) :
    ∀ w, Holds B (LogA bl L :: DevA L.d s :: Fr) w → Calls Tryz.prog 67 [ptr bl].toArray w (Ret B (fun rv H' => ∃ L' s', L.undo s = .ok L' s' ∧ rv = .tuple #[] ∧ H' = LogA bl L' :: DevA L.d s' :: Fr) (fun c H' => ∃ s', L.undo s = .off s' ∧ c = offc ∧ H' = LogA bl L :: DevA L.d s' :: Fr)) := by
  refine fn_enter_m Tryz.func67 rfl Tryz.ntmps67 rfl ?_
  have hc := hL.c
  have hc1 := hc.r1
  have hc2 := hc.r2
  have hc3 := hc.l1
  have hc4 := hc.l2
  have hl1 := hL.e1
  have hl2 := hL.e2
  have hl3 := hL.n1
  have hl4 := hL.n2
  have hrc : 16 ≤ L.c.record L.n ∧ L.c.record L.n ≤ 10000 := by simp only [Cfg.record]; omega
  refine go_dw L.d fun hn1 hn2 hn3 => (g_seq (g_region (p_chg rfl (ch_box1 rfl rfl) .free rfl rfl ?_)))
  rintro _ _ ⟨b1, rfl, rfl⟩
  refine p_nil (g_seq (g_seq (g_region (kPv (ev_load Tryz.isAgg116 rfl rfl) rfl ?_))))
  refine p_call rfl (en_f Tryz.call132 rfl) (lrecords_ok _ _ _) .free rfl rfl ?_ ?_
  rotate_left
  · rintro _ _ ⟨⟩
  rintro _ _ ⟨bb, rfl, rfl⟩
  refine p_nil (g_block ?_)
  refine g_range0 (ι := Dev) (fun s' => row bb [ptr bl] 116 :: LogA bl L :: DevA L.d s' :: row b1 [ptr bl] 116 :: Fr) (fun s' => recN undoS L.c L.n.toNat s = .ok () s') (fun s' => recN undoS L.c L.n.toNat s = .off s') offc rfl Tryz.call169 ?_ ?_ ?_
  · intro l m tmps hts hkn w hh
    have hk1 := hkn 1 _ rfl
    refine (lrec1_ok B (blk m (.deferred (some [])) :: row b1 [ptr bl] 116 :: Fr) bl bb l 67 L s hL _ rfl rfl undoS ?_ w ((((hh.front 5 rfl).front 5 rfl).front 4 rfl).front 3 rfl)).mono (Ret.mono ?_ ?_)
    rotate_left
    · rintro v H' ⟨s', hs', rfl⟩
      exact ⟨s', hs', fun w hh => ((hh.front 4 rfl).front 1 rfl)⟩
    · rintro c H' ⟨s', hs', rfl, rfl⟩
      exact ⟨rfl, s', hs', fun w hh => (hh.front 3 rfl)⟩
    intro i v s
    refine round_go (n := 33) (σ := [(6, i64 i), (7, w64 v), (1, ptr b1)]) Tryz.func67 (by simp [lrec, hts]) (KnA.knows (by simp [KnA, lrec, hts]; exact (Array.getElem?_eq_some_iff.1 hk1).2)) rfl ?_; refine g_seq ?_; refine g_region ?_; refine kPa rfl rfl ?_; refine p_nil ?_; refine g_region ?_; refine kPa rfl rfl ?_; refine p_nil ?_; refine go_mid ?_; refine g_block ?_; refine g_seq ?_; refine g_region ?_; refine kPv (ev_load Tryz.isAgg116 rfl rfl) rfl ?_
    first | refine kPv (ev_nil rfl) rfl ?_ | refine kPv (ev_nilf rfl) rfl ?_
    refine kPv (ev_fa (m := _) fa_171_0 rfl rfl) rfl (kPv (ev_load Tryz.isAgg28 rfl rfl) rfl (kPm rfl rfl (kPm rfl rfl ?_)))
    refine p_call rfl (en_f Tryz.call120 rfl) (up_at (fun Fr => nstore_ok _ Fr _ _ _ _)) .free rfl rfl ?_ ?_
    rotate_left
    · rintro _ _ ⟨s9, ⟨hm9, rfl⟩, rfl⟩
      exact pan_fn fun w hh => ⟨_, ⟨s9, by simp [undoS, *], rfl, rfl⟩, hh.tail⟩
    rintro _ _ ⟨s1, ⟨e1, hm1, rfl⟩, rfl⟩
    refine p_nil (go_sb [2, 1] rfl (g_region (kPv (ev_load Tryz.isAgg116 rfl rfl) rfl ?_)))
    first | refine kPv (ev_nil rfl) rfl ?_ | refine kPv (ev_nilf rfl) rfl ?_
    refine kPv (ev_fa (m := _) fa_171_0 rfl rfl) rfl (kPv (ev_load Tryz.isAgg28 rfl rfl) rfl (kPm rfl rfl ?_))
    refine p_call rfl (en_f Tryz.call126 rfl) (up_at (fun Fr => nflush_ok _ Fr _ _ _)) .free rfl rfl ?_ ?_
    rotate_left
    · rintro _ _ ⟨s9, ⟨hm9, rfl⟩, rfl⟩
      exact pan_fn fun w hh => ⟨_, ⟨s9, by simp [undoS, *], rfl, rfl⟩, hh.tail⟩
    rintro _ _ ⟨s2, ⟨e2, hm2, rfl⟩, rfl⟩
    refine p_nil (go_sb [] rfl ?_)
    exact go_rK fun w hh => ⟨_, ⟨_, by simp [undoS, *], rfl, rfl⟩, hh⟩
  rotate_left
  · intro m s1 hm1
    exact pan_fn_m (.cons (i := 0) rfl .nil) fun w hh => ⟨_, ⟨s1, by simp [LogS.undo, *], rfl, rfl⟩, (((hh.front 4 rfl).front 2 rfl).front 2 rfl).tail.tail.tail⟩
  intro m s1 hm1
  refine g_seq (g_seq (g_region (kPv (ev_load Tryz.isAgg116 rfl rfl) rfl ?_)))
  first | refine kPv (ev_nil rfl) rfl ?_ | refine kPv (ev_nilf rfl) rfl ?_
  refine kPv (ev_fa (m := _) fa_171_3 rfl rfl) rfl (kPv (ev_load Tryz.isAgg3 rfl rfl) rfl (kPv (ev_cmp rfl rfl rfl) rfl (p_nil (go_sb [25, 1] rfl ?_))))
  refine g_if rfl (fun h25 => ?_) (fun h25 => ?_)
  · try simp only [decide_eq_true_eq, decide_eq_false_iff_not, Bool.not_eq_true', Bool.not_eq_false', Bool.or_eq_true, Bool.and_eq_true, Bool.and_eq_false_iff, Bool.or_eq_false_iff, beq_iff_eq, bne_iff_ne, beq_eq_false_iff_ne, bne_eq_false_iff_eq, ge_iff_le, gt_iff_lt, ne_eq] at h25
    refine g_region (kPv (ev_load Tryz.isAgg116 rfl rfl) rfl ?_)
    first | refine kPv (ev_nil rfl) rfl ?_ | refine kPv (ev_nilf rfl) rfl ?_
    refine kPv (ev_fa (m := _) fa_171_0 rfl rfl) rfl (kPv (ev_load Tryz.isAgg28 rfl rfl) rfl ?_)
    refine p_call rfl (en_f Tryz.call127 rfl) (up_at (fun Fr => nfence_ok _ Fr _ _)) .free rfl rfl ?_ ?_
    rotate_left
    · rintro _ _ ⟨s9, ⟨hm9, rfl⟩, rfl⟩
      exact pan_fn_m (.cons (i := 0) rfl .nil) fun w hh => ⟨_, ⟨s9, by simp [LogS.undo, *], rfl, rfl⟩, (((hh.front 4 rfl).front 2 rfl).front 2 rfl).tail.tail.tail⟩
    rintro _ _ ⟨s2, ⟨e2, hm2, rfl⟩, rfl⟩
    refine p_nil (g_region (go_conv (H' := LogA bl L :: DevA L.d _ :: blk m (.deferred (some [])) :: row bb [ptr bl] 116 :: row b1 [ptr bl] 116 :: Fr) (fun w hh => (((((hh.front 4 rfl).front 2 rfl).front 2 rfl).front 4 rfl).front 4 rfl)) (kPv (ev_load Tryz.isAgg116 rfl rfl) rfl ?_)))
    refine p_call rfl (en_f Tryz.call128 rfl) (ltrunc_ok _ _ bl L _ hL) .free rfl rfl ?_ ?_
    rotate_left
    · rintro _ _ ⟨s9, hm9, rfl, rfl⟩
      exact pan_fn_m (.cons (i := 2) rfl .nil) fun w hh => ⟨_, ⟨s9, by simp [LogS.undo, *], rfl, rfl⟩, (((hh.front 4 rfl).front 4 rfl).front 4 rfl).tail.tail.tail⟩
    rintro _ _ ⟨L3, s3, hm3, rfl, rfl⟩
    refine p_nil (go_sb [] rfl ?_)
    exact end_none_m Tryz.results67 (.cons (i := 2) rfl .nil) (fun w hh => ⟨_, ⟨L3, s3, by simp [LogS.undo, *], rfl, rfl⟩, (((hh.front 4 rfl).front 4 rfl).front 4 rfl).tail.tail.tail⟩)
  · try simp only [decide_eq_true_eq, decide_eq_false_iff_not, Bool.not_eq_true', Bool.not_eq_false', Bool.or_eq_true, Bool.and_eq_true, Bool.and_eq_false_iff, Bool.or_eq_false_iff, beq_iff_eq, bne_iff_ne, beq_eq_false_iff_ne, bne_eq_false_iff_eq, ge_iff_le, gt_iff_lt, ne_eq] at h25
    refine g_skip (g_region (go_conv (H' := LogA bl L :: DevA L.d _ :: blk m (.deferred (some [])) :: row bb [ptr bl] 116 :: row b1 [ptr bl] 116 :: Fr) (fun w hh => (((((hh.front 4 rfl).front 2 rfl).front 2 rfl).front 4 rfl).front 4 rfl)) (kPv (ev_load Tryz.isAgg116 rfl rfl) rfl ?_)))
    refine p_call rfl (en_f Tryz.call128 rfl) (ltrunc_ok _ _ bl L _ hL) .free rfl rfl ?_ ?_
    rotate_left
    · rintro _ _ ⟨s9, hm9, rfl, rfl⟩
      exact pan_fn_m (.cons (i := 2) rfl .nil) fun w hh => ⟨_, ⟨s9, by simp [LogS.undo, *], rfl, rfl⟩, (((hh.front 4 rfl).front 4 rfl).front 4 rfl).tail.tail.tail⟩
    rintro _ _ ⟨L3, s3, hm3, rfl, rfl⟩
    refine p_nil ?_
    exact end_none_m Tryz.results67 (.cons (i := 2) rfl .nil) (fun w hh => ⟨_, ⟨L3, s3, by simp [LogS.undo, *], rfl, rfl⟩, (((hh.front 4 rfl).front 4 rfl).front 4 rfl).tail.tail.tail⟩)
end Go.Proofs.YtlcibdhmgclfjaaGreat
namespace Go.Proofs.YtlcibdhmgclfjaaGreat
open Go
abbrev unitE (_ : Unit) : Value := .agg #[]
def AccA (b : Nat) (xs : List Int) : HP := hex fun (x : Option (Nat × List Value)) => match x with
  | none => grp [row b [.slice none 0 0] 125, pr (xs = [])]
  | some (bd, rest) => grp [row b [.slice (some ⟨bd, 0, none⟩) xs.length (xs.length + rest.length)] 125, row bd (xs.map i64 ++ rest) 3]
theorem holds_acc {B : World} {b : Nat} {xs : List Int} {Fr : List HP} {w : World} (h : Holds B (AccA b xs :: Fr) w) : (xs = [] ∧ Holds B (row b [.slice none 0 0] 125 :: Fr) w) ∨ ∃ bd rest, Holds B (row b [.slice (some ⟨bd, 0, none⟩) xs.length (xs.length + rest.length)] 125 :: row bd (xs.map i64 ++ rest) 3 :: Fr) w := by
  obtain ⟨x, hx⟩ := h.hex
  cases x with
  | none => have h2 := hx.grp; have h3 := (h2.front 1 rfl).pr; exact .inl ⟨h3.1, h3.2⟩
  | some p => exact .inr ⟨_, _, hx.grp⟩
theorem acc_nil {B : World} {b : Nat} {Fr : List HP} {w : World} (h : Holds B (row b [.slice none 0 0] 125 :: Fr) w) : Holds B (AccA b [] :: Fr) w :=
  Holds.unhex none (Holds.ungrp (l := [row b [.slice none 0 0] 125, pr (([] : List Int) = [])]) ((h.unpr rfl).back 1 (by simp)))
theorem acc_row {B : World} {b bd n c : Nat} {xs : List Int} {rest : List Value} {Fr : List HP} {w : World} (hn : n = xs.length) (hc : c = n + rest.length) (h : Holds B (row b [.slice (some ⟨bd, 0, none⟩) n c] 125 :: row bd (xs.map i64 ++ rest) 3 :: Fr) w) : Holds B (AccA b xs :: Fr) w := by
  subst hn; subst hc
  exact Holds.unhex (some (bd, rest)) (Holds.ungrp (l := [row b [.slice (some ⟨bd, 0, none⟩) xs.length (xs.length + rest.length)] 125, row bd (xs.map i64 ++ rest) 3]) h)
theorem go_acc {B : World} {n : Nat} {D : List Deferred} {σ : Env} {b : Nat} {xs : List Int} {Fr : List HP} {K : Act → World → Prop} (h1 : xs = [] → GO B n D σ (row b [.slice none 0 0] 125 :: Fr) K) (h2 : ∀ bd rest, GO B n D σ (row b [.slice (some ⟨bd, 0, none⟩) xs.length (xs.length + rest.length)] 125 :: row bd (xs.map i64 ++ rest) 3 :: Fr) K) : GO B n D σ (AccA b xs :: Fr) K := fun a w st => by
  rcases holds_acc st.holds with ⟨e, h⟩ | ⟨bd, rest, h⟩
  · exact h1 e a w ⟨st.toStA, h⟩
  · exact h2 bd rest a w ⟨st.toStA, h⟩
theorem mkeys_ok (B : World) (H : List HP) (r : Nat) :
    ∀ w, Holds B H w → Calls Tryz.prog 125 [.map (some r)].toArray w (Ret B (fun v H' => ∃ bb, v = .func (.func 168) [].toArray [ptr bb].toArray ∧ H' = row bb [.map (some r)] 127 :: H) (fun _ _ => False)) := by
  refine fn_enter Tryz.func125 rfl Tryz.ntmps125 rfl (g_seq (g_region (p_chg rfl (ch_box1 rfl rfl) .free rfl rfl ?_)))
  rintro _ _ ⟨b1, rfl, rfl⟩
  refine kPa rfl rfl (p_nil (g_seq (g_region (kPv (ev_mkf rfl rfl) rfl (kPa rfl rfl (p_nil (g_ret ?_)))))))
  exact ret_tmp Tryz.results125 rfl (fun w hw => ⟨_, ⟨_, rfl, rfl⟩, hw⟩)
theorem mkeys1_ok (B : World) (Fr : List HP) (l f mr bb b2 : Nat) (ml : List (Int × Unit)) (r : Loop) (hrf : r.fn = f) (hrp : r.params.size = 1) (hround : ∀ (A1 A2 : HP) (v : Int) (xs : List Int), xs.length < ml.length → ∀ w, Holds B (blk l (.loop r) :: A1 :: A2 :: AccA b2 xs :: Fr) w → RoundIn (Wd (cxF f)) 0 Tryz.prog l f ((r.params.zip [i64 v].toArray).foldl (fun tmps (t, a) => tmps.setIfInBounds t a) r.tmps) r.assign r.body w (Ret B (fun rv H' => rv = .bool true ∧ H' = blk l (.loop r) :: A1 :: A2 :: AccA b2 (xs ++ [v]) :: Fr) (fun _ _ => False))) :
    ∀ w, Holds B (blk l (.loop r) :: row bb [.map (some mr)] 127 :: mapA .i64 unitE mr ml :: AccA b2 [] :: Fr) w → Calls Tryz.prog 168 [.func (.yield l) #[] #[], ptr bb].toArray w (Ret B (fun rv H' => ∃ ks : List Int, ks.Perm (ml.map Prod.fst) ∧ H' = blk l (.loop r) :: row bb [.map (some mr)] 127 :: mapA .i64 unitE mr ml :: AccA b2 ks :: Fr) (fun _ _ => False)) := by
  refine fn_enter Tryz.func168 rfl Tryz.ntmps168 rfl (g_seq (g_region (kPv (ev_load Tryz.isAgg127 rfl rfl) rfl (p_chg rfl (ch_range Tryz.runUnderlying127 rfl) .free rfl rfl ?_))))
  rintro _ _ ⟨it, rfl, rfl⟩
  refine p_nil (g_block (g_loop (ι := List (Int × Unit)) (fun d => d.length ≤ ml.length) (fun d => [(0, .func (.yield l) #[] #[]), (1, ptr bb), (5, .pointer (some ⟨it, 0, none⟩))]) (fun done => blk l (.loop r) :: row bb [.map (some mr)] 127 :: iterA .i64 unitE mr it ml done :: AccA b2 (done.map Prod.fst) :: Fr) (fun d => ml.length - d.length) [] (Nat.zero_le _) (fun a w st => st.to ⟨rfl, rfl, rfl, trivial⟩ id) ?_))
  intro done hdone
  refine g_seq (g_region (p_chg rfl (ch_next rfl) .free rfl rfl ?_))
  rintro _ _ ⟨bb0, vs, done', rfl, hvs, rfl, hno, hyes⟩
  refine kPv (ev_ext rfl hvs) rfl (p_nil (g_seq ?_))
  refine g_if rfl (fun h7 => ?_) (fun h7 => ?_)
  · obtain ⟨pp, hpl, hpn, rfl⟩ := hyes h7
    refine go_iter it fun hl hd hsub => (g_skip (g_block (g_seq (g_region (kPv (ev_entry (p0 := pp) (dn := done) rfl) rfl (kPv (ev_ext rfl rfl) rfl (kPa rfl rfl (p_nil (g_seq (g_region (kPm rfl rfl ?_)))))))))))
    refine kPm rfl rfl ?_
    refine p_yield (f := f) rfl rfl (fun w hw => hw) (by rw [hrp]; rfl) hrf (hround _ _ _ _ (by have := iter_le hd hsub; simp; omega)) .free rfl ?_ ?_
    rotate_left
    · rintro _ _ ⟨⟩
    rintro _ _ ⟨rfl, rfl⟩
    refine kPv (ev_not rfl) rfl (p_nil (go_sb [13, 5, 0, 1] rfl (g_iff rfl (rfl) (g_skip ?_))))
    have hle := iter_le hd hsub
    exact fun a w st => ⟨done ++ [pp], by simp; omega, by simp; omega, st.to ⟨rfl, rfl, rfl, trivial⟩ (fun hh => by rw [List.map_append]; exact hh)⟩
  · obtain ⟨rfl, hall⟩ := hno h7
    refine go_iter it fun hl hd hsub => (go_conv (fun w hh => hh.iter_end it) (g_exit ?_))
    exact end_none Tryz.results168 (fun w hh => ⟨_, ⟨_, (List.perm_ext_iff_of_nodup hd hl).2 fun x => ⟨fun hx => by obtain ⟨p, hp, rfl⟩ := List.mem_map.1 hx; exact List.mem_map_of_mem (hsub p hp), fun hx => by obtain ⟨p, hp, rfl⟩ := List.mem_map.1 hx; exact List.mem_map_of_mem (hall p hp)⟩, rfl⟩, hh⟩)
theorem acc_put {xs : List Int} {v : Int} {rest : List Value} (h : 0 < rest.length) : setAll (xs.map i64 ++ rest) (0 + xs.length) [i64 v] = (xs ++ [v]).map i64 ++ rest.drop 1 := by
  cases rest with
  | nil => simp at h
  | cons a t => simp [setAll, List.set_append_right]
def AccV (_ : Nat) (x : Value × List Int) : HP := hex fun (o : Option (Nat × List Value)) => match o with
  | none => pr (x.2 = [] ∧ x.1 = .slice none 0 0)
  | some (bd, rest) => grp [row bd (x.2.map i64 ++ rest) 3, pr (x.1 = .slice (some ⟨bd, 0, none⟩) x.2.length (x.2.length + rest.length))]
theorem accv_nil {B : World} {Fr : List HP} {w : World} (h : Holds B Fr w) : Holds B (AccV 0 (.slice none 0 0, []) :: Fr) w := Holds.unhex none (h.unpr ⟨rfl, rfl⟩)
theorem accv_row {B : World} {bd n c : Nat} {xs : List Int} {rest : List Value} {Fr : List HP} {w : World} (hn : n = xs.length) (hc : c = n + rest.length) (h : Holds B (row bd (xs.map i64 ++ rest) 3 :: Fr) w) : Holds B (AccV 0 (.slice (some ⟨bd, 0, none⟩) n c, xs) :: Fr) w := by
  subst hn; subst hc
  refine Holds.unhex (some (bd, rest)) (Holds.ungrp (l := [row bd (xs.map i64 ++ rest) 3, pr _]) ?_)
  exact (h.unpr rfl).back 1 (by simp)
theorem holds_accv {B : World} {sv : Value} {xs : List Int} {Fr : List HP} {w : World} (h : Holds B (AccV 0 (sv, xs) :: Fr) w) : (xs = [] ∧ sv = .slice none 0 0 ∧ Holds B Fr w) ∨ ∃ bd rest, sv = .slice (some ⟨bd, 0, none⟩) xs.length (xs.length + rest.length) ∧ Holds B (row bd (xs.map i64 ++ rest) 3 :: Fr) w := by
  obtain ⟨x, hx⟩ := h.hex
  cases x with
  | none => have h2 := hx.pr; exact .inl ⟨h2.1.1, h2.1.2, h2.2⟩
  | some p => have h2 := (hx.grp.front 1 rfl).pr; exact .inr ⟨_, _, h2.1, h2.2⟩
theorem acc_open {B : World} {b : Nat} {xs : List Int} {Fr : List HP} {w : World} (h : Holds B (AccA b xs :: Fr) w) : ∃ sv, Holds B (row b [sv] 125 :: AccV 0 (sv, xs) :: Fr) w := by
  rcases holds_acc h with ⟨rfl, h2⟩ | ⟨bd, rest, h2⟩
  · exact ⟨_, (accv_nil h2).front 1 rfl⟩
  · exact ⟨_, (accv_row (n := xs.length) rfl rfl (h2.front 1 rfl)).front 1 rfl⟩
theorem go_acco {B : World} {n : Nat} {D : List Deferred} {σ : Env} {b : Nat} {xs : List Int} {Fr : List HP} {K : Act → World → Prop} (h : ∀ sv, GO B n D σ (row b [sv] 125 :: AccV 0 (sv, xs) :: Fr) K) : GO B n D σ (AccA b xs :: Fr) K := fun a w st => by
  obtain ⟨sv, h1⟩ := acc_open st.holds
  exact h sv a w ⟨st.toStA, h1⟩
theorem appseq_ok (B : World) (Fr : List HP) (mr bb : Nat) (ml : List (Int × Unit)) (hml : ml.length ≤ 1000000) :
    ∀ w, Holds B (row bb [.map (some mr)] 127 :: mapA .i64 unitE mr ml :: Fr) w → Calls Tryz.prog 183 [.slice none 0 0, .func (.func 168) [].toArray [ptr bb].toArray].toArray w (Ret B (fun rv H' => ∃ ks : List Int, ks.Perm (ml.map Prod.fst) ∧ H' = AccV 0 (rv, ks) :: mapA .i64 unitE mr ml :: Fr) (fun _ _ => False)) := by
  refine fn_enter_m Tryz.func183 rfl Tryz.ntmps183 rfl (g_seq (g_region (p_chg rfl (ch_box1 rfl rfl) .free rfl rfl ?_)))
  rintro _ _ ⟨b2, rfl, rfl⟩
  refine kPa rfl rfl (p_nil (g_seq (g_seq (g_region (kPm rfl rfl (p_nil (g_block ?_)))))))
  refine g_range0 (ι := List Int) (fun ks => row bb [.map (some mr)] 127 :: mapA .i64 unitE mr ml :: AccA b2 ks :: Fr) (fun ks => ks.Perm (ml.map Prod.fst)) (fun _ => False) [] rfl Tryz.call168 ?_ ?_ ?_
  · intro l m tmps hts hkn w hh
    have hk2 := hkn 2 _ rfl
    refine (mkeys1_ok B (blk m (.deferred (some [])) :: Fr) l 183 mr bb b2 ml _ rfl rfl ?_ w (((((acc_nil ((((hh.front 4 rfl).front 4 rfl).front 2 rfl).front 4 rfl)).front 0 rfl).front 3 rfl).front 3 rfl).front 3 rfl)).mono (Ret.mono ?_ ?_)
    rotate_left
    · rintro v H' ⟨ks, hks, rfl⟩
      exact ⟨ks, hks, fun w hh => ((hh.front 4 rfl).front 1 rfl)⟩
    · rintro c H' ⟨⟩
    intro A1 A2 v xs hxs
    have hxs : xs.length ≤ 1000000 := by omega
    refine round_go (n := 13) (σ := [(7, i64 v), (2, ptr b2)]) Tryz.func183 (by simp [lrec, hts]) (KnA.knows (by simp [KnA, lrec, hts]; exact (Array.getElem?_eq_some_iff.1 hk2).2)) rfl ?_; refine g_region ?_; refine kPa rfl rfl ?_; refine p_nil ?_; refine go_mid ?_; refine go_front 3 rfl ?_
    refine go_acc (fun hxe => ?_) (fun bd rest => ?_)
    · subst hxe
      refine g_block (g_region (kPv (ev_load Tryz.isAgg125 rfl rfl) rfl (kPm rfl rfl (p_chg rfl (ch_bs1 Tryz.runUnderlying125 Tryz.sizeOf3 Tryz.zeroValue3 rfl rfl rfl) .free rfl rfl ?_))))
      rintro _ _ ⟨b1, rfl, rfl⟩
      refine p_chg rfl (ch_append_nil rfl rfl Tryz.runUnderlying125 Tryz.runUnderlying125 ⟨_, rfl⟩ Tryz.sizeOf3 Tryz.zeroValue3 rfl tb_3 rfl rfl (SlR.row (xs := [i64 v]) rfl rfl) (by simp) (by simp)) .free rfl rfl ?_
      rintro _ _ ⟨bn, cn, rest', hcn, hrest, rfl, rfl⟩
      refine p_chg0 rfl (ch_store Tryz.sizeOf125 rfl rfl rfl rfl) .free rfl ?_
      rintro _ _ rfl
      refine p_nil (go_sb [] rfl (go_front 3 rfl ?_))
      exact go_rK fun w hh => ⟨_, ⟨rfl, rfl⟩, ((((((acc_row (xs := [] ++ [v]) (by simp) (by first | omega | (simp at *; omega)) ((hh.front 1 rfl).front 3 rfl)).front 2 rfl).tail.front 0 rfl).front 3 rfl).front 3 rfl).front 3 rfl)⟩
    · skip
      refine g_block (g_region (kPv (ev_load Tryz.isAgg125 rfl rfl) rfl (kPm rfl rfl (p_chg rfl (ch_bs1 Tryz.runUnderlying125 Tryz.sizeOf3 Tryz.zeroValue3 rfl rfl rfl) .free rfl rfl ?_))))
      rintro _ _ ⟨b1, rfl, rfl⟩
      refine p_chg rfl (ch_append rfl rfl Tryz.runUnderlying125 Tryz.runUnderlying125 ⟨_, rfl⟩ Tryz.sizeOf3 Tryz.zeroValue3 rfl tb_3 rfl rfl (SlR.row (xs := [i64 v]) rfl rfl) (by simp) (by omega) (by simp; omega) rfl) .free rfl rfl (fun v2 H2 hY => ?_)
      revert hY
      generalize hob : Obj.loop _ = ob
      intro hY
      have hY2 : ∃ bn c' rest', c' = xs.length + 1 + rest'.length ∧ v2 = .slice (some ⟨bn, 0, none⟩) (xs.length + 1) c' ∧ ∀ w, Holds B H2 w → Holds B (row b2 [.slice (some ⟨bd, 0, none⟩) xs.length (xs.length + rest.length)] 125 :: row bn ((xs ++ [v]).map i64 ++ rest') 3 :: blk l ob :: A1 :: A2 :: blk m (.deferred (some [])) :: Fr) w := by
        rcases hY with ⟨h1, rfl, rfl⟩ | ⟨h1, bn, cn, rest', h2, _, rfl, rfl⟩
        · refine ⟨bd, _, rest.drop 1, by simp at h1 ⊢; omega, rfl, fun w hh => ?_⟩
          have h3 := hh.tail
          rw [acc_put (by simp at h1; omega)] at h3
          exact h3
        · refine ⟨bn, _, rest', by simpa using h2.symm, rfl, fun w hh => ?_⟩
          have h3 := ((((hh.front 1 rfl).tail).front 2 rfl).tail).front 1 rfl
          have e : (xs ++ [v]).map i64 ++ rest' = ((xs.map i64 ++ rest).drop 0).take xs.length ++ [i64 v] ++ rest' := by simp
          rw [e]
          exact h3
      obtain ⟨bn, c', rest', hc', rfl, hY3⟩ := hY2
      refine go_conv hY3 (p_chg0 rfl (ch_store Tryz.sizeOf125 rfl rfl rfl rfl) .free rfl ?_)
      rintro _ _ rfl
      refine p_nil (go_sb [] rfl ?_)
      subst hob
      refine go_front 2 rfl ?_
      exact go_rK fun w hh => ⟨_, ⟨rfl, rfl⟩, (((((acc_row (xs := xs ++ [v]) (by simp) (by first | omega | (simp at *; omega)) ((hh.front 2 rfl).front 2 rfl)).front 0 rfl).front 3 rfl).front 3 rfl).front 3 rfl)⟩
  rotate_left
  · rintro m x ⟨⟩
  intro m ks hks
  refine go_front 3 rfl (go_acco fun sv => (g_seq (g_region (kPv (ev_load Tryz.isAgg125 rfl rfl) rfl (kPa rfl rfl (p_nil (g_ret ?_)))))))
  exact ret_tmp_m Tryz.results183 rfl (.cons (i := 2) rfl .nil) (fun w hh => ⟨_, ⟨ks, hks, rfl⟩, (((hh.front 3 rfl).front 3 rfl).front 2 rfl).tail.tail.tail⟩)
end Go.Proofs.YtlcibdhmgclfjaaGreat
namespace Go.Proofs.YtlcibdhmgclfjaaGreat
open Go Go.Proofs
open Go.Shelf
def Tryz.sortA_ren : Go.Shelf.Ren := ⟨fun | 5 => 167 | 8 => 185 | 7 => 184 | 19 => 200 | 20 => 201 | 10 => 191 | 11 => 192 | 12 => 193 | 13 => 194 | 14 => 195 | 15 => 196 | 16 => 197 | 17 => 198 | 18 => 199 | 30 => 203 | 31 => 204 | 32 => 205 | 33 => 206 | 34 => 207 | 35 => 208 | 40 => 210 | n => n, fun | 23 => 125 | 25 => 3 | 3 => 3 | 32 => 213 | 22 => 125 | 0 => 0 | 44 => 228 | 46 => 26 | 4 => 4 | 36 => 240 | 35 => 239 | 41 => 140 | 5 => 5 | 9 => 9 | 53 => 246 | 57 => 249 | 63 => 251 | 64 => 252 | n => n, fun | n => n⟩
theorem Tryz.sortA : Go.Proofs.SlLaysM.n5 Tryz.prog Tryz.sortA_ren := {
  mixed := by kernel_rfl
  f5 := ⟨Tryz.f167.name, by decide, Tryz.func167.trans (congrArg some (by kernel_rfl))⟩
  f7 := ⟨Tryz.f184.name, by decide, Tryz.func184.trans (congrArg some (by kernel_rfl))⟩
  f8 := Tryz.func185.trans (congrArg some (by kernel_rfl))
  f10 := ⟨Tryz.f191.name, by decide, Tryz.func191.trans (congrArg some (by kernel_rfl))⟩
  f11 := ⟨Tryz.f192.name, by decide, Tryz.func192.trans (congrArg some (by kernel_rfl))⟩
  f12 := ⟨Tryz.f193.name, by decide, Tryz.func193.trans (congrArg some (by kernel_rfl))⟩
  f13 := ⟨Tryz.f194.name, by decide, Tryz.func194.trans (congrArg some (by kernel_rfl))⟩
  f14 := ⟨Tryz.f195.name, by decide, Tryz.func195.trans (congrArg some (by kernel_rfl))⟩
  f15 := ⟨Tryz.f196.name, by decide, Tryz.func196.trans (congrArg some (by kernel_rfl))⟩
  f16 := ⟨Tryz.f197.name, by decide, Tryz.func197.trans (congrArg some (by kernel_rfl))⟩
  f17 := ⟨Tryz.f198.name, by decide, Tryz.func198.trans (congrArg some (by kernel_rfl))⟩
  f18 := ⟨Tryz.f199.name, by decide, Tryz.func199.trans (congrArg some (by kernel_rfl))⟩
  f19 := Tryz.func200.trans (congrArg some (by kernel_rfl))
  f20 := Tryz.func201.trans (congrArg some (by kernel_rfl))
  f30 := ⟨Tryz.f203.name, by decide, Tryz.func203.trans (congrArg some (by kernel_rfl))⟩
  f31 := Tryz.func204.trans (congrArg some (by kernel_rfl))
  f32 := Tryz.func205.trans (congrArg some (by kernel_rfl))
  f33 := ⟨Tryz.f206.name, by decide, Tryz.func206.trans (congrArg some (by kernel_rfl))⟩
  f34 := ⟨Tryz.f207.name, by decide, Tryz.func207.trans (congrArg some (by kernel_rfl))⟩
  f35 := ⟨Tryz.f208.name, by decide, Tryz.func208.trans (congrArg some (by kernel_rfl))⟩
  f40 := ⟨Tryz.f210.name, by decide, Tryz.func210.trans (congrArg some (by kernel_rfl))⟩
  t0 := Tryz.underlying0
  a0 := Tryz.isAgg0
  z0 := Tryz.sizeOf0
  v0 := Tryz.zeroValue0
  t3 := Tryz.underlying3
  a3 := Tryz.isAgg3
  z3 := Tryz.sizeOf3
  v3 := Tryz.zeroValue3
  t4 := Tryz.underlying4
  a4 := Tryz.isAgg4
  z4 := Tryz.sizeOf4
  v4 := Tryz.zeroValue4
  t5 := Tryz.underlying5
  a5 := Tryz.isAgg5
  z5 := Tryz.sizeOf5
  v5 := Tryz.zeroValue5
  t9 := Tryz.underlying9
  a9 := Tryz.isAgg9
  z9 := Tryz.sizeOf9
  v9 := Tryz.zeroValue9
  t22 := Tryz.underlying125
  a22 := Tryz.isAgg125
  z22 := Tryz.sizeOf125
  v22 := Tryz.zeroValue125
  t23 := Tryz.underlying125
  a23 := Tryz.isAgg125
  z23 := Tryz.sizeOf125
  v23 := Tryz.zeroValue125
  t25 := Tryz.underlying3
  a25 := Tryz.isAgg3
  z25 := Tryz.sizeOf3
  v25 := Tryz.zeroValue3
  t32 := Tryz.underlying213
  a32 := Tryz.isAgg213
  z32 := Tryz.sizeOf213
  v32 := Tryz.zeroValue213
  t35 := Tryz.underlying239
  a35 := Tryz.isAgg239
  z35 := Tryz.sizeOf239
  v35 := Tryz.zeroValue239
  t36 := Tryz.underlying240
  a36 := Tryz.isAgg240
  z36 := Tryz.sizeOf240
  v36 := Tryz.zeroValue240
  t41 := Tryz.underlying140
  a41 := Tryz.isAgg140
  z41 := Tryz.sizeOf140
  v41 := Tryz.zeroValue140
  t44 := Tryz.underlying228
  a44 := Tryz.isAgg228
  z44 := Tryz.sizeOf228
  v44 := Tryz.zeroValue228
  t46 := Tryz.underlying26
  a46 := Tryz.isAgg26
  z46 := Tryz.sizeOf26
  v46 := Tryz.zeroValue26
  t53 := Tryz.underlying246
  a53 := Tryz.isAgg246
  z53 := Tryz.sizeOf246
  v53 := Tryz.zeroValue246
  t57 := Tryz.underlying249
  a57 := Tryz.isAgg249
  z57 := Tryz.sizeOf249
  v57 := Tryz.zeroValue249
  t63 := Tryz.underlying251
  a63 := Tryz.isAgg251
  z63 := Tryz.sizeOf251
  v63 := Tryz.zeroValue251
  t64 := Tryz.underlying252
  a64 := Tryz.isAgg252
  z64 := Tryz.sizeOf252
  v64 := Tryz.zeroValue252 }
end Go.Proofs.YtlcibdhmgclfjaaGreat
namespace Go.Proofs.YtlcibdhmgclfjaaGreat
open Go
theorem Holds.grown {B : World} {H : List HP} {w : World} (h : Holds B H w) (os : Array Obj) : Holds B H (Go.Sort.grow w os) := by
  refine ⟨h.os, h.tape, h.output, by simp [Go.Sort.grow]; have := h.size; omega, sat_mono (fun b o e => ?_) h.sat⟩
  have hb := (Array.getElem?_eq_some_iff.1 e).1
  show (w.heap ++ os)[b]? = _
  rw [Array.getElem?_append_left hb]; exact e
theorem put_cells {xs ys : List Int} {rest : List Value} (h : ys.length = xs.length) : Go.Sort.putCells (Value.int .i64) 0 ys.toArray (xs.map i64 ++ rest).toArray = (ys.map i64 ++ rest).toArray := by
  apply Array.ext_getElem?
  intro j
  simp only [Go.Sort.putCells, Array.getElem?_mapIdx, List.getElem?_toArray]
  by_cases hj : j < xs.length
  · rw [List.getElem?_append_left (by simpa using hj), List.getElem?_append_left (by simp; omega)]
    have hj' : j < ys.length := by omega
    simp [hj, hj']
  · rw [List.getElem?_append_right (by simp; omega), List.getElem?_append_right (by simp; omega)]
    simp [h]
    cases e : rest[j - xs.length]? with
    | none => rfl
    | some v => simp; omega
theorem row_sorted {B : World} {bd T : Nat} {xs ys : List Int} {rest : List Value} {Fr : List HP} {w : World} (h : Holds B (row bd (xs.map i64 ++ rest) T :: Fr) w) (hl : ys.length = xs.length) (n : Nat) (os : Array Obj) :
    Holds B (row bd (ys.map i64 ++ rest) T :: Fr) (Go.Sort.grow (Go.Sort.putRow (Value.int .i64) (Go.Sort.ahead w n) bd 0 ys.toArray) os) := by
  have hr := h.read 0 rfl
  have h1 := (h.drew (w.drawn + n)).put 0 rfl (.cells (ys.map i64 ++ rest).toArray T (0, 0))
  have e : Go.Sort.putRow (Value.int .i64) (Go.Sort.ahead w n) bd 0 ys.toArray = { w with drawn := w.drawn + n, heap := w.heap.setIfInBounds bd (.cells (ys.map i64 ++ rest).toArray T (0, 0)) } := by
    obtain ⟨hlt, hg⟩ := Array.getElem?_eq_some_iff.1 hr
    simp only [Go.Sort.putRow, Go.Sort.mapBlock, Go.Sort.ahead]
    congr 1
    apply Array.ext_getElem?
    intro k
    rw [Array.getElem?_modify]
    by_cases hk : bd = k
    · subst hk
      rw [hr]
      simp [hlt, Go.Sort.onCells, put_cells hl]
    · simp [hk]
  rw [e]
  exact Holds.grown h1 os
def sortI (l : List Int) : List Int := l.mergeSort fun x y => decide (x ≤ y)
theorem sortI_perm {l l' : List Int} (h : l.Perm l') : sortI l = sortI l' := by
  have tr : ∀ a b c : Int, decide (a ≤ b) = true → decide (b ≤ c) = true → decide (a ≤ c) = true := fun a b c h1 h2 => by simp only [decide_eq_true_eq] at *; omega
  have to : ∀ a b : Int, (decide (a ≤ b) || decide (b ≤ a)) = true := fun a b => by simp only [Bool.or_eq_true, decide_eq_true_eq]; omega
  refine List.Perm.eq_of_pairwise (le := fun a b => decide (a ≤ b) = true) (fun a b _ _ h1 h2 => ?_) (List.pairwise_mergeSort tr to l) (List.pairwise_mergeSort tr to l') (((List.mergeSort_perm l _).trans h).trans (List.mergeSort_perm l' _).symm)
  simp only [decide_eq_true_eq] at h1 h2; omega
theorem ssort_ok (B : World) (Fr : List HP) (sv : Value) (xs : List Int) (hx : xs.length ≤ 1000000) : ∀ w, Holds B (AccV 0 (sv, xs) :: Fr) w → Calls Tryz.prog 167 [sv].toArray w (Ret B (fun _ H' => H' = AccV 0 (sv, sortI xs) :: Fr) (fun _ _ => False)) := by
  intro w hw
  have hl : (sortI xs).length = xs.length := List.length_mergeSort ..
  rcases holds_accv hw with ⟨rfl, rfl, h⟩ | ⟨bd, rest, rfl, h⟩
  · have := AnyM.slices_Sort_int_none Tryz.sortA none 0 w
    refine this.mono ?_
    rintro e w' ⟨rfl, rfl⟩
    exact ⟨_, rfl, by simpa [sortI] using accv_nil h⟩
  · have hh : Go.Sort.Holds (Value.int .i64) w bd 0 xs.toArray := by
      intro j hj
      have hj' : j < xs.length := by simpa using hj
      have h1 := h.cell 0 rfl (0 + j)
      have h2 := h.free 0 rfl (0 + j)
      refine ⟨h1.trans ?_, h2⟩
      rw [Nat.zero_add, List.getElem?_append_left (by simpa using hj')]
      simp [hj']
    have := AnyM.slices_Sort_int Tryz.sortA bd 0 (xs.length + rest.length) xs w hh (h.row_lt 0 rfl) (by omega)
    refine this.mono ?_
    rintro e w' ⟨rfl, n, os, rfl⟩
    exact ⟨_, rfl, accv_row (by rw [hl]) (by omega) (row_sorted h hl n os)⟩
theorem collect_ok (B : World) (Fr : List HP) (mr bb : Nat) (ml : List (Int × Unit)) (hml : ml.length ≤ 1000000) :
    ∀ w, Holds B (row bb [.map (some mr)] 127 :: mapA .i64 unitE mr ml :: Fr) w → Calls Tryz.prog 166 [.func (.func 168) [].toArray [ptr bb].toArray].toArray w (Ret B (fun rv H' => ∃ ks : List Int, ks.Perm (ml.map Prod.fst) ∧ H' = AccV 0 (rv, ks) :: mapA .i64 unitE mr ml :: Fr) (fun _ _ => False)) := by
  refine fn_enter Tryz.func166 rfl Tryz.ntmps166 rfl (g_seq (g_region (kPa rfl rfl (p_nil (g_seq (g_region (kPm rfl rfl ?_)))))))
  refine p_call rfl (en_f Tryz.call183 rfl) (appseq_ok _ _ mr bb ml hml) .free rfl rfl ?_ ?_
  rotate_left
  · rintro _ _ ⟨⟩
  rintro _ _ ⟨ks, hks, rfl⟩
  refine kPa rfl rfl (p_nil (g_ret ?_))
  exact ret_tmp Tryz.results166 rfl (fun w hw => ⟨_, ⟨ks, hks, rfl⟩, hw⟩)
theorem sorted_ok (B : World) (Fr : List HP) (mr bb : Nat) (ml : List (Int × Unit)) (hml : ml.length ≤ 1000000) :
    ∀ w, Holds B (row bb [.map (some mr)] 127 :: mapA .i64 unitE mr ml :: Fr) w → Calls Tryz.prog 124 [.func (.func 168) [].toArray [ptr bb].toArray].toArray w (Ret B (fun rv H' => H' = AccV 0 (rv, sortI (ml.map Prod.fst)) :: mapA .i64 unitE mr ml :: Fr) (fun _ _ => False)) := by
  refine fn_enter Tryz.func124 rfl Tryz.ntmps124 rfl (g_seq (g_region (kPa rfl rfl (p_nil (g_seq (g_region (kPm rfl rfl ?_)))))))
  refine p_call rfl (en_f Tryz.call166 rfl) (collect_ok _ _ mr bb ml hml) .free rfl rfl ?_ ?_
  rotate_left
  · rintro _ _ ⟨⟩
  rintro v5 _ ⟨ks, hks, rfl⟩
  have hkl : ks.length ≤ 1000000 := by rw [hks.length_eq, List.length_map]; exact hml
  refine kPa rfl rfl (p_nil (g_seq (g_region (kPm rfl rfl ?_))))
  refine p_call rfl (en_f Tryz.call167 rfl) (ssort_ok _ _ _ ks hkl) .free rfl rfl ?_ ?_
  rotate_left
  · rintro _ _ ⟨⟩
  rintro _ _ rfl
  refine p_nil (g_seq (g_region (kPm rfl rfl (kPa rfl rfl (p_nil (go_sb [2] rfl (g_ret ?_)))))))
  exact ret_tmp Tryz.results124 rfl (fun w hw => ⟨_, rfl, by rw [← sortI_perm hks]; exact hw⟩)
end Go.Proofs.YtlcibdhmgclfjaaGreat
