/- The log: what its functions do, as small functions on a device. Conditions: none. -/
import Derived.Test.YtbfheafpecgphaaGreatReg
set_option linter.unusedSimpArgs false
set_option linter.unusedVariables false
set_option linter.unnecessarySimpa false
set_option linter.unusedSectionVars false
namespace Go.Proofs.YtbfheafpecgphaaGreat
set_option linter.unusedSimpArgs false
set_option linter.unusedVariables false
open Go
theorem and32 (x : Int) : bitI .and .u64 x 4294967295 = x % 4294967296 := by
  have h1 : (BitVec.ofInt 64 x &&& BitVec.ofInt 64 4294967295).toNat = (x % 18446744073709551616).toNat % 4294967296 := by
    rw [BitVec.toNat_and, BitVec.toNat_ofInt, BitVec.toNat_ofInt]
    have : ((4294967295 : Int) % ((2 ^ 64 : Nat) : Int)).toNat = 2 ^ 32 - 1 := by decide
    rw [this, Nat.and_two_pow_sub_one_eq_mod]
    rfl
  show IntKind.u64.wrap ((BitVec.ofInt 64 x &&& BitVec.ofInt 64 4294967295).toNat : Int) = _
  rw [h1, wru64 (by omega)]; omega
theorem or32 {e i : Int} (h : 0 ≤ e ∧ e < 4294967296) (h2 : 0 ≤ i ∧ i < 4294967296) : bitI .or .u64 (e * 4294967296) i = e * 4294967296 + i := by
  have h1 : (BitVec.ofInt 64 (e * 4294967296) ||| BitVec.ofInt 64 i).toNat = e.toNat * 4294967296 + i.toNat := by
    rw [BitVec.toNat_or, BitVec.toNat_ofInt, BitVec.toNat_ofInt]
    have e1 : ((e * 4294967296) % ((2 ^ 64 : Nat) : Int)).toNat = e.toNat <<< 32 := by rw [Nat.shiftLeft_eq]; omega
    have e2 : (i % ((2 ^ 64 : Nat) : Int)).toNat = i.toNat := by omega
    rw [e1, e2, ← Nat.shiftLeft_add_eq_or_of_lt (by omega), Nat.shiftLeft_eq]
  show IntKind.u64.wrap ((BitVec.ofInt 64 (e * 4294967296) ||| BitVec.ofInt 64 i).toNat : Int) = _
  rw [h1, wru64 (by omega)]; omega
theorem shl32 {e : Int} (h : 0 ≤ e ∧ e < 4294967296) : IntKind.u64.wrap (e * 2 ^ min (32 : Int).toNat IntKind.u64.bits) = e * 4294967296 := by
  have : min (32 : Int).toNat IntKind.u64.bits = 32 := by decide
  rw [this, show (2 : Int) ^ 32 = 4294967296 by decide, wru64 (by omega)]
def stampI (e i : Int) : Int := e * 4294967296 + (i + 1)
structure LogS where
  d : Nat
  c : Cfg
  epoch : Int
  n : Int
structure LogW (L : LogS) : Prop where
  c : CfgW L.c
  e1 : 0 ≤ L.epoch
  e2 : L.epoch < 4294967296
  n1 : 0 ≤ L.n
  n2 : L.n ≤ L.c.log
abbrev LogA (b : Nat) (L : LogS) : HP := row b [ptr L.d, i64 L.c.log, i64 L.c.roots, i64 L.c.space, w64 L.epoch, i64 L.n] 146
/-- What is done next, on the device that is there then. -/
def Out.then {α β : Type} (m : Out α) (f : α → Dev → Out β) : Out β := match m with
  | .ok a s => f a s
  | .off s => .off s
@[simp] theorem then_ok {α β : Type} (a : α) (s : Dev) (f : α → Dev → Out β) : (Out.ok a s).then f = f a s := rfl
@[simp] theorem then_off {α β : Type} (s : Dev) (f : α → Dev → Out β) : (Out.off s : Out α).then f = .off s := rfl
def LogS.append (L : LogS) (s : Dev) (i : Int) : Out (Int × LogS) :=
  if i < 0 ∨ s.n ≤ i then .ok (1, L) s
  else if L.n = L.c.log then .ok (3, L) s
  else
    (s.store (L.c.record L.n + 1) i).then fun _ s => (s.store (L.c.record L.n + 2) (s.load i)).then fun _ s =>
    (s.flush (L.c.record L.n)).then fun _ s => s.fence.then fun _ s =>
    (s.store (L.c.record L.n) (stampI L.epoch L.n)).then fun _ s => (s.flush (L.c.record L.n)).then fun _ s => s.fence.then fun _ s => .ok (0, { L with n := L.n + 1 }) s
def LogS.truncate (L : LogS) (s : Dev) : Out LogS :=
  if L.n = 0 then .ok L s else
    (s.store 8 ((L.epoch + 1) % 4294967296)).then fun _ s => (s.flush 8).then fun _ s => s.fence.then fun _ s => .ok { L with epoch := (L.epoch + 1) % 4294967296, n := 0 } s

theorem stamp_ok (B : World) (H : List HP) (e i : Int) (he : 0 ≤ e ∧ e < 4294967296) (hi : 0 ≤ i ∧ i < 1000000) :
    ∀ w, Holds B H w → Calls Tryz.prog 88 [w64 e, i64 i].toArray w (PureR B H (w64 (stampI e i))) := by
  refine fn_enter Tryz.func88 rfl Tryz.ntmps88 rfl ?_; refine g_seq ?_; refine g_region ?_; refine kPa rfl rfl ?_; refine p_nil ?_; refine g_seq ?_; refine g_region ?_; refine kPm rfl rfl ?_; refine kPv (ev_shl rfl rfl (by decide) (shl32 he)) rfl ?_; refine kPm rfl rfl ?_
  first | refine p_val rfl (ev_add rfl rfl (wr64 (by omega))) .free rfl rfl ?_ | refine p_val rfl (ev_add rfl rfl rfl) .free rfl rfl ?_
  first | refine p_val rfl (ev_conv Tryz.runUnderlying3 Tryz.runUnderlying52 rfl (wru64 (by omega))) .free rfl rfl ?_ | refine p_val rfl (ev_conv Tryz.runUnderlying3 Tryz.runUnderlying52 rfl rfl) .free rfl rfl ?_
  refine kPv (ev_or rfl rfl (or32 he (by omega))) rfl ?_; refine kPa rfl rfl ?_; refine p_nil ?_; refine go_sub (σ' := [(4, _)]) ⟨rfl, trivial⟩ ?_; refine g_ret ?_
  exact ret_tmp Tryz.results88 rfl (fun w hw => ⟨rfl, hw⟩)

theorem llen_ok (B : World) (Fr : List HP) (bl : Nat) (L : LogS) :
    ∀ w, Holds B (LogA bl L :: Fr) w → Calls Tryz.prog 54 [ptr bl].toArray w (PureR B (LogA bl L :: Fr) (i64 L.n)) := by
  refine fn_enter Tryz.func54 rfl Tryz.ntmps54 rfl ?_; refine g_seq ?_; refine g_region ?_; refine kPa rfl rfl ?_; refine p_nil ?_; refine g_seq ?_; refine g_region ?_; refine kPm rfl rfl ?_
  first | refine kPv (ev_nil rfl) rfl ?_ | refine kPv (ev_nilf rfl) rfl ?_
  refine kPv (ev_fa (m := _) fa_146_3 rfl rfl) rfl ?_; refine kPv (ev_load Tryz.isAgg3 rfl rfl) rfl ?_; refine kPa rfl rfl ?_; refine p_nil ?_; refine g_ret ?_
  exact ret_tmp Tryz.results54 rfl (fun w hw => ⟨rfl, hw⟩)

theorem lepoch_ok (B : World) (Fr : List HP) (bl : Nat) (L : LogS) :
    ∀ w, Holds B (LogA bl L :: Fr) w → Calls Tryz.prog 156 [ptr bl].toArray w (PureR B (LogA bl L :: Fr) (w64 L.epoch)) := by
  refine fn_enter Tryz.func156 rfl Tryz.ntmps156 rfl ?_; refine g_seq ?_; refine g_region ?_; refine kPa rfl rfl ?_; refine p_nil ?_; refine g_seq ?_; refine g_region ?_; refine kPm rfl rfl ?_
  first | refine kPv (ev_nil rfl) rfl ?_ | refine kPv (ev_nilf rfl) rfl ?_
  refine kPv (ev_fa (m := _) fa_146_2 rfl rfl) rfl ?_; refine kPv (ev_load Tryz.isAgg52 rfl rfl) rfl ?_; refine kPa rfl rfl ?_; refine p_nil ?_; refine g_ret ?_
  exact ret_tmp Tryz.results156 rfl (fun w hw => ⟨rfl, hw⟩)

theorem ltrunc_ok (B : World) (Fr : List HP) (bl : Nat) (L : LogS) (s : Dev) (hL : LogW L) :
    ∀ w, Holds B (LogA bl L :: DevA L.d s :: Fr) w → Calls Tryz.prog 90 [ptr bl].toArray w (Ret B (fun rv H' => ∃ L' s', L.truncate s = .ok L' s' ∧ rv = .tuple #[] ∧ H' = LogA bl L' :: DevA L.d s' :: Fr) (fun c H' => ∃ s', L.truncate s = .off s' ∧ c = offc ∧ H' = LogA bl L :: DevA L.d s' :: Fr)) := by
  refine fn_enter Tryz.func90 rfl Tryz.ntmps90 rfl ?_
  have hc := hL.c
  have hc1 := hc.r1
  have hc2 := hc.r2
  have hc3 := hc.l1
  have hc4 := hc.l2
  have hl1 := hL.e1
  have hl2 := hL.e2
  have hl3 := hL.n1
  have hl4 := hL.n2
  have hrc : 16 ≤ L.c.record L.n ∧ L.c.record L.n ≤ 10000 := by simp only [Cfg.record]; omega
  refine go_dw L.d fun hn1 hn2 hn3 => ?_; refine g_seq ?_; refine g_seq ?_; refine g_region ?_; refine kPm rfl rfl ?_
  first | refine kPv (ev_nil rfl) rfl ?_ | refine kPv (ev_nilf rfl) rfl ?_
  refine kPv (ev_fa (m := _) fa_146_3 rfl rfl) rfl ?_; refine kPv (ev_load Tryz.isAgg3 rfl rfl) rfl ?_; refine kPv (ev_cmp rfl rfl rfl) rfl ?_; refine p_nil ?_
  refine g_if rfl (fun h6 => ?_) (fun h6 => ?_)
  · try simp only [decide_eq_true_eq, decide_eq_false_iff_not, Bool.not_eq_true', Bool.not_eq_false', Bool.or_eq_true, Bool.and_eq_true, Bool.and_eq_false_iff, Bool.or_eq_false_iff, beq_iff_eq, bne_iff_ne, beq_eq_false_iff_ne, bne_eq_false_iff_eq, ge_iff_le, gt_iff_lt, ne_eq] at h6
    refine g_ret ?_
    exact ret_none Tryz.results90 (fun w hh => ⟨_, ⟨L, s, by simp [LogS.truncate, *], rfl, rfl⟩, hh⟩)
  · try simp only [decide_eq_true_eq, decide_eq_false_iff_not, Bool.not_eq_true', Bool.not_eq_false', Bool.or_eq_true, Bool.and_eq_true, Bool.and_eq_false_iff, Bool.or_eq_false_iff, beq_iff_eq, bne_iff_ne, beq_eq_false_iff_ne, bne_eq_false_iff_eq, ge_iff_le, gt_iff_lt, ne_eq] at h6
    refine g_skip ?_; refine g_seq ?_; refine g_drawt 10 Tryz.mixed (by kernel_rfl) (by kernel_rfl) ?_; refine kQm rfl rfl ?_
    first | refine kQv (ev_nil rfl) rfl ?_ | refine kQv (ev_nilf rfl) rfl ?_
    refine kQv (ev_fa (m := _) fa_146_0 rfl rfl) rfl ?_; refine kQv (ev_load Tryz.isAgg28 rfl rfl) rfl ?_; refine kQm rfl rfl ?_
    first | refine kQv (ev_nil rfl) rfl ?_ | refine kQv (ev_nilf rfl) rfl ?_
    refine kQv (ev_fa (m := _) fa_146_2 rfl rfl) rfl ?_; refine kQv (ev_load Tryz.isAgg52 rfl rfl) rfl ?_
    first | refine q_val rfl (ev_add rfl rfl (wru64 (by omega))) .free rfl ?_ | refine q_val rfl (ev_add rfl rfl rfl) .free rfl ?_
    refine kQv (ev_and rfl rfl (and32 _)) rfl ?_; refine q_nil ?_
    refine p_call rfl (en_f Tryz.call70 rfl) (up_at (fun Fr => nstore_ok _ Fr _ _ _ _)) .free rfl rfl ?_ ?_
    rotate_left
    · rintro _ _ ⟨s9, ⟨hm9, rfl⟩, rfl⟩
      exact pan_fn fun w hh => ⟨_, ⟨_, by simp [LogS.truncate, *], rfl, rfl⟩, hh⟩
    rintro _ _ ⟨s1, ⟨e1, hm1, rfl⟩, rfl⟩
    refine p_nil ?_; refine go_sub (σ' := [(0, _)]) ⟨rfl, trivial⟩ ?_; refine g_seq ?_; refine g_region ?_; refine kPm rfl rfl ?_
    first | refine kPv (ev_nil rfl) rfl ?_ | refine kPv (ev_nilf rfl) rfl ?_
    refine kPv (ev_fa (m := _) fa_146_0 rfl rfl) rfl ?_; refine kPv (ev_load Tryz.isAgg28 rfl rfl) rfl ?_
    refine p_call rfl (en_f Tryz.call34 rfl) (up_at (fun Fr => nflush_ok _ Fr _ _ _)) .free rfl rfl ?_ ?_
    rotate_left
    · rintro _ _ ⟨s9, ⟨hm9, rfl⟩, rfl⟩
      exact pan_fn fun w hh => ⟨_, ⟨_, by simp [LogS.truncate, *], rfl, rfl⟩, hh⟩
    rintro _ _ ⟨s2, ⟨e2, hm2, rfl⟩, rfl⟩
    refine p_nil ?_; refine g_seq ?_; refine g_region ?_; refine kPm rfl rfl ?_
    first | refine kPv (ev_nil rfl) rfl ?_ | refine kPv (ev_nilf rfl) rfl ?_
    refine kPv (ev_fa (m := _) fa_146_0 rfl rfl) rfl ?_; refine kPv (ev_load Tryz.isAgg28 rfl rfl) rfl ?_
    refine p_call rfl (en_f Tryz.call35 rfl) (up_at (fun Fr => nfence_ok _ Fr _ _)) .free rfl rfl ?_ ?_
    rotate_left
    · rintro _ _ ⟨s9, ⟨hm9, rfl⟩, rfl⟩
      exact pan_fn fun w hh => ⟨_, ⟨_, by simp [LogS.truncate, *], rfl, rfl⟩, hh⟩
    rintro _ _ ⟨s3, ⟨e3, hm3, rfl⟩, rfl⟩
    refine p_nil ?_; refine go_sub (σ' := [(0, _)]) ⟨rfl, trivial⟩ ?_; refine g_seq ?_; refine g_region ?_; refine kPm rfl rfl ?_; refine kPm rfl rfl ?_
    first | refine kPv (ev_nil rfl) rfl ?_ | refine kPv (ev_nilf rfl) rfl ?_
    refine kPv (ev_fa (m := _) fa_146_2 rfl rfl) rfl ?_; refine kPv (ev_load Tryz.isAgg52 rfl rfl) rfl ?_
    first | refine p_val rfl (ev_add rfl rfl (wru64 (by omega))) .free rfl rfl ?_ | refine p_val rfl (ev_add rfl rfl rfl) .free rfl rfl ?_
    refine kPv (ev_and rfl rfl (and32 _)) rfl ?_
    first | refine kPv (ev_nil rfl) rfl ?_ | refine kPv (ev_nilf rfl) rfl ?_
    refine kPv (ev_fa (m := _) fa_146_2 rfl rfl) rfl ?_; refine p_chg0 rfl (ch_store Tryz.sizeOf52 rfl rfl rfl rfl) .free rfl ?_
    rintro _ _ rfl
    refine p_nil ?_; refine go_sub (σ' := [(0, _)]) ⟨rfl, trivial⟩ ?_; refine g_region ?_; refine kPm rfl rfl ?_
    first | refine kPv (ev_nil rfl) rfl ?_ | refine kPv (ev_nilf rfl) rfl ?_
    refine kPv (ev_fa (m := _) fa_146_3 rfl rfl) rfl ?_; refine p_chg0 rfl (ch_store Tryz.sizeOf3 rfl rfl rfl rfl) .free rfl ?_
    rintro _ _ rfl
    refine p_nil ?_
    exact end_none Tryz.results90 (fun w hh => ⟨_, ⟨{ L with epoch := (L.epoch + 1) % 4294967296, n := 0 }, _, by simp [LogS.truncate, *], rfl, rfl⟩, hh⟩)

theorem lappend_ok (B : World) (Fr : List HP) (bl : Nat) (L : LogS) (s : Dev) (hL : LogW L) (i : Int) :
    ∀ w, Holds B (LogA bl L :: DevA L.d s :: Fr) w → Calls Tryz.prog 107 [ptr bl, i64 i].toArray w (Ret B (fun rv H' => ∃ a L' s', L.append s i = .ok (a, L') s' ∧ rv = i64 a ∧ H' = LogA bl L' :: DevA L.d s' :: Fr) (fun c H' => ∃ s', L.append s i = .off s' ∧ c = offc ∧ H' = LogA bl L :: DevA L.d s' :: Fr)) := by
  refine fn_enter Tryz.func107 rfl Tryz.ntmps107 rfl ?_
  have hc := hL.c
  have hc1 := hc.r1
  have hc2 := hc.r2
  have hc3 := hc.l1
  have hc4 := hc.l2
  have hl1 := hL.e1
  have hl2 := hL.e2
  have hl3 := hL.n1
  have hl4 := hL.n2
  have hrc : 16 ≤ L.c.record L.n ∧ L.c.record L.n ≤ 10000 := by simp only [Cfg.record]; omega
  refine go_dw L.d fun hn1 hn2 hn3 => ?_; refine g_seq ?_; refine g_region ?_; refine kPa rfl rfl ?_; refine p_nil ?_; refine g_seq ?_; refine g_block ?_; refine g_seq ?_; refine g_region ?_; refine kPm rfl rfl ?_; refine kPv (ev_cmp rfl rfl rfl) rfl ?_; refine kPm rfl rfl ?_
  apply p_or (tp := 17) (t := 9) (σ1 := [(9, _), (4, _), (0, _), (1, _)]) 8 rfl ⟨rfl, rfl, rfl, rfl, trivial⟩
  · intro hg1
    refine p_val rfl (ev_move rfl) (.on rfl rfl (beq_eq hg1)) rfl rfl ?_; refine p_val rfl (ev_move rfl) (.on rfl rfl (beq_eq hg1)) rfl rfl ?_
    first | refine p_val rfl (ev_nil rfl) (.on rfl rfl (beq_eq hg1)) rfl rfl ?_ | refine p_val rfl (ev_nilf rfl) (.on rfl rfl (beq_eq hg1)) rfl rfl ?_
    refine p_val rfl (ev_fa (m := _) fa_146_0 rfl rfl) (.on rfl rfl (beq_eq hg1)) rfl rfl ?_; refine p_val rfl (ev_load Tryz.isAgg28 rfl rfl) (.on rfl rfl (beq_eq hg1)) rfl rfl ?_; refine p_callq rfl (en_f Tryz.call33 rfl) (ro_at (q := DevA) (fun Fr => nlen_ok _ Fr _ _)) (.on rfl rfl (beq_eq hg1)) rfl rfl ?_; refine p_val rfl (ev_cmp rfl rfl rfl) (.on rfl rfl (beq_eq hg1)) rfl rfl ?_; refine kPv (ev_pick_f rfl hg1 rfl) rfl ?_
    exact p_seg rfl ⟨rfl, rfl, rfl, rfl, trivial⟩ (or_f hg1)
  · intro hg1
    refine p_skip rfl (.on rfl rfl (beq_ne hg1)) rfl ?_; refine p_skip rfl (.on rfl rfl (beq_ne hg1)) rfl ?_; refine p_skip rfl (.on rfl rfl (beq_ne hg1)) rfl ?_; refine p_skip rfl (.on rfl rfl (beq_ne hg1)) rfl ?_; refine p_skip rfl (.on rfl rfl (beq_ne hg1)) rfl ?_; refine p_skip rfl (.on rfl rfl (beq_ne hg1)) rfl ?_; refine p_skip rfl (.on rfl rfl (beq_ne hg1)) rfl ?_; refine kPv (ev_pick_t rfl hg1 rfl) rfl ?_
    exact p_seg rfl ⟨rfl, rfl, rfl, rfl, trivial⟩ (or_t hg1)
  refine kPa rfl rfl ?_; refine p_nil ?_
  refine g_if rfl (fun h6 => ?_) (fun h6 => ?_)
  · try simp only [decide_eq_true_eq, decide_eq_false_iff_not, Bool.not_eq_true', Bool.not_eq_false', Bool.or_eq_true, Bool.and_eq_true, Bool.and_eq_false_iff, Bool.or_eq_false_iff, beq_iff_eq, bne_iff_ne, beq_eq_false_iff_ne, bne_eq_false_iff_eq, ge_iff_le, gt_iff_lt, ne_eq] at h6
    refine g_seq ?_; refine g_region ?_; refine kPa rfl rfl ?_; refine p_nil ?_; refine g_ret ?_
    exact ret_tmp Tryz.results107 rfl (fun w hh => ⟨_, ⟨1, L, s, by simp [LogS.append, *], rfl, rfl⟩, hh⟩)
  · try simp only [decide_eq_true_eq, decide_eq_false_iff_not, Bool.not_eq_true', Bool.not_eq_false', Bool.or_eq_true, Bool.and_eq_true, Bool.and_eq_false_iff, Bool.or_eq_false_iff, beq_iff_eq, bne_iff_ne, beq_eq_false_iff_ne, bne_eq_false_iff_eq, ge_iff_le, gt_iff_lt, ne_eq] at h6
    refine g_seq ?_; refine g_draw Tryz.mixed (by kernel_rfl) (by kernel_rfl) ?_; refine kQm rfl rfl ?_
    first | refine kQv (ev_nil rfl) rfl ?_ | refine kQv (ev_nilf rfl) rfl ?_
    refine kQv (ev_fa (m := _) fa_146_3 rfl rfl) rfl ?_; refine kQv (ev_load Tryz.isAgg3 rfl rfl) rfl ?_; refine kQm rfl rfl ?_
    first | refine kQv (ev_nil rfl) rfl ?_ | refine kQv (ev_nilf rfl) rfl ?_
    refine kQv (ev_fa (m := _) fa_146_1 rfl rfl) rfl ?_; refine kQv (ev_fa (m := _) fa_30_0 rfl rfl) rfl ?_; refine kQv (ev_load Tryz.isAgg3 rfl rfl) rfl ?_; refine kQv (ev_cmp rfl rfl rfl) rfl ?_; refine kQa rfl rfl ?_; refine q_nil ?_; refine go_sub (σ' := [(18, _), (4, _), (0, _), (1, _)]) ⟨rfl, rfl, rfl, rfl, trivial⟩ ?_
    refine g_if rfl (fun h18 => ?_) (fun h18 => ?_)
    · try simp only [decide_eq_true_eq, decide_eq_false_iff_not, Bool.not_eq_true', Bool.not_eq_false', Bool.or_eq_true, Bool.and_eq_true, Bool.and_eq_false_iff, Bool.or_eq_false_iff, beq_iff_eq, bne_iff_ne, beq_eq_false_iff_ne, bne_eq_false_iff_eq, ge_iff_le, gt_iff_lt, ne_eq] at h18
      refine g_seq ?_; refine g_region ?_; refine kPa rfl rfl ?_; refine p_nil ?_; refine g_ret ?_
      exact ret_tmp Tryz.results107 rfl (fun w hh => ⟨_, ⟨3, L, s, by simp [LogS.append, *], rfl, rfl⟩, hh⟩)
    · try simp only [decide_eq_true_eq, decide_eq_false_iff_not, Bool.not_eq_true', Bool.not_eq_false', Bool.or_eq_true, Bool.and_eq_true, Bool.and_eq_false_iff, Bool.or_eq_false_iff, beq_iff_eq, bne_iff_ne, beq_eq_false_iff_ne, bne_eq_false_iff_eq, ge_iff_le, gt_iff_lt, ne_eq] at h18
      refine g_skip ?_; refine g_seq ?_; refine g_draw Tryz.mixed (by kernel_rfl) (by kernel_rfl) ?_; refine kQm rfl rfl ?_
      first | refine kQv (ev_nil rfl) rfl ?_ | refine kQv (ev_nilf rfl) rfl ?_
      refine kQv (ev_fa (m := _) fa_146_1 rfl rfl) rfl ?_; refine kQv (ev_loadA Tryz.isAgg30 Tryz.sizeOf30 rfl rfl) rfl ?_; refine kQm rfl rfl ?_
      first | refine kQv (ev_nil rfl) rfl ?_ | refine kQv (ev_nilf rfl) rfl ?_
      refine kQv (ev_fa (m := _) fa_146_3 rfl rfl) rfl ?_; refine kQv (ev_load Tryz.isAgg3 rfl rfl) rfl ?_; refine q_call rfl (en_f Tryz.call87 rfl) (record_ok _ _ L.c _ (by omega) (by omega)) .free rfl ?_; refine kQa rfl rfl ?_; refine q_nil ?_; refine go_sub (σ' := [(5, _), (4, _), (0, _), (1, _)]) ⟨rfl, rfl, rfl, rfl, trivial⟩ ?_; refine g_seq ?_; refine g_region ?_; refine kPm rfl rfl ?_
      first | refine kPv (ev_nil rfl) rfl ?_ | refine kPv (ev_nilf rfl) rfl ?_
      refine kPv (ev_fa (m := _) fa_146_0 rfl rfl) rfl ?_; refine kPv (ev_load Tryz.isAgg28 rfl rfl) rfl ?_; refine kPm rfl rfl ?_
      first | refine p_val rfl (ev_add rfl rfl (wr64 (by omega))) .free rfl rfl ?_ | refine p_val rfl (ev_add rfl rfl rfl) .free rfl rfl ?_
      refine kPm rfl rfl ?_
      first | refine p_val rfl (ev_conv Tryz.runUnderlying3 Tryz.runUnderlying52 rfl (wru64 (by omega))) .free rfl rfl ?_ | refine p_val rfl (ev_conv Tryz.runUnderlying3 Tryz.runUnderlying52 rfl rfl) .free rfl rfl ?_
      refine p_call rfl (en_f Tryz.call70 rfl) (up_at (fun Fr => nstore_ok _ Fr _ _ _ _)) .free rfl rfl ?_ ?_
      rotate_left
      · rintro _ _ ⟨s9, ⟨hm9, rfl⟩, rfl⟩
        exact pan_fn fun w hh => ⟨_, ⟨_, by simp [LogS.append, *], rfl, rfl⟩, hh⟩
      rintro _ _ ⟨s1, ⟨e1, hm1, rfl⟩, rfl⟩
      refine p_nil ?_; refine go_sub (σ' := [(5, _), (4, _), (0, _), (1, _)]) ⟨rfl, rfl, rfl, rfl, trivial⟩ ?_; refine g_seq ?_; refine g_drawt 12 Tryz.mixed (by kernel_rfl) (by kernel_rfl) ?_; refine kQm rfl rfl ?_
      first | refine kQv (ev_nil rfl) rfl ?_ | refine kQv (ev_nilf rfl) rfl ?_
      refine kQv (ev_fa (m := _) fa_146_0 rfl rfl) rfl ?_; refine kQv (ev_load Tryz.isAgg28 rfl rfl) rfl ?_; refine kQm rfl rfl ?_
      first | refine q_val rfl (ev_add rfl rfl (wr64 (by omega))) .free rfl ?_ | refine q_val rfl (ev_add rfl rfl rfl) .free rfl ?_
      refine kQm rfl rfl ?_
      first | refine kQv (ev_nil rfl) rfl ?_ | refine kQv (ev_nilf rfl) rfl ?_
      refine kQv (ev_fa (m := _) fa_146_0 rfl rfl) rfl ?_; refine kQv (ev_load Tryz.isAgg28 rfl rfl) rfl ?_; refine kQm rfl rfl ?_; refine q_call rfl (en_f Tryz.call72 rfl) (ro_at (q := DevA) (fun Fr => nload_ok _ Fr _ _ _)) .free rfl ?_; refine q_nil ?_
      refine p_call rfl (en_f Tryz.call70 rfl) (up_at (fun Fr => nstore_ok _ Fr _ _ _ _)) .free rfl rfl ?_ ?_
      rotate_left
      · rintro _ _ ⟨s9, ⟨hm9, rfl⟩, rfl⟩
        exact pan_fn fun w hh => ⟨_, ⟨_, by simp [LogS.append, *], rfl, rfl⟩, hh⟩
      rintro _ _ ⟨s2, ⟨e2, hm2, rfl⟩, rfl⟩
      refine p_nil ?_; refine go_sub (σ' := [(5, _), (4, _), (0, _)]) ⟨rfl, rfl, rfl, trivial⟩ ?_; refine g_seq ?_; refine g_region ?_; refine kPm rfl rfl ?_
      first | refine kPv (ev_nil rfl) rfl ?_ | refine kPv (ev_nilf rfl) rfl ?_
      refine kPv (ev_fa (m := _) fa_146_0 rfl rfl) rfl ?_; refine kPv (ev_load Tryz.isAgg28 rfl rfl) rfl ?_; refine kPm rfl rfl ?_
      refine p_call rfl (en_f Tryz.call34 rfl) (up_at (fun Fr => nflush_ok _ Fr _ _ _)) .free rfl rfl ?_ ?_
      rotate_left
      · rintro _ _ ⟨s9, ⟨hm9, rfl⟩, rfl⟩
        exact pan_fn fun w hh => ⟨_, ⟨_, by simp [LogS.append, *], rfl, rfl⟩, hh⟩
      rintro _ _ ⟨s3, ⟨e3, hm3, rfl⟩, rfl⟩
      refine p_nil ?_; refine g_seq ?_; refine g_region ?_; refine kPm rfl rfl ?_
      first | refine kPv (ev_nil rfl) rfl ?_ | refine kPv (ev_nilf rfl) rfl ?_
      refine kPv (ev_fa (m := _) fa_146_0 rfl rfl) rfl ?_; refine kPv (ev_load Tryz.isAgg28 rfl rfl) rfl ?_
      refine p_call rfl (en_f Tryz.call35 rfl) (up_at (fun Fr => nfence_ok _ Fr _ _)) .free rfl rfl ?_ ?_
      rotate_left
      · rintro _ _ ⟨s9, ⟨hm9, rfl⟩, rfl⟩
        exact pan_fn fun w hh => ⟨_, ⟨_, by simp [LogS.append, *], rfl, rfl⟩, hh⟩
      rintro _ _ ⟨s4, ⟨e4, hm4, rfl⟩, rfl⟩
      refine p_nil ?_; refine go_sub (σ' := [(5, _), (4, _), (0, _)]) ⟨rfl, rfl, rfl, trivial⟩ ?_; refine g_seq ?_; refine g_drawt 14 Tryz.mixed (by kernel_rfl) (by kernel_rfl) ?_; refine kQm rfl rfl ?_
      first | refine kQv (ev_nil rfl) rfl ?_ | refine kQv (ev_nilf rfl) rfl ?_
      refine kQv (ev_fa (m := _) fa_146_0 rfl rfl) rfl ?_; refine kQv (ev_load Tryz.isAgg28 rfl rfl) rfl ?_; refine kQm rfl rfl ?_; refine kQm rfl rfl ?_
      first | refine kQv (ev_nil rfl) rfl ?_ | refine kQv (ev_nilf rfl) rfl ?_
      refine kQv (ev_fa (m := _) fa_146_2 rfl rfl) rfl ?_; refine kQv (ev_load Tryz.isAgg52 rfl rfl) rfl ?_; refine kQm rfl rfl ?_
      first | refine kQv (ev_nil rfl) rfl ?_ | refine kQv (ev_nilf rfl) rfl ?_
      refine kQv (ev_fa (m := _) fa_146_3 rfl rfl) rfl ?_; refine kQv (ev_load Tryz.isAgg3 rfl rfl) rfl ?_; refine q_call rfl (en_f Tryz.call88 rfl) (stamp_ok _ _ _ _ ⟨by omega, by omega⟩ ⟨by omega, by omega⟩) .free rfl ?_; refine q_nil ?_
      refine p_call rfl (en_f Tryz.call70 rfl) (up_at (fun Fr => nstore_ok _ Fr _ _ _ _)) .free rfl rfl ?_ ?_
      rotate_left
      · rintro _ _ ⟨s9, ⟨hm9, rfl⟩, rfl⟩
        exact pan_fn fun w hh => ⟨_, ⟨_, by simp [LogS.append, *], rfl, rfl⟩, hh⟩
      rintro _ _ ⟨s5, ⟨e5, hm5, rfl⟩, rfl⟩
      refine p_nil ?_; refine go_sub (σ' := [(5, _), (4, _), (0, _)]) ⟨rfl, rfl, rfl, trivial⟩ ?_; refine g_seq ?_; refine g_region ?_; refine kPm rfl rfl ?_
      first | refine kPv (ev_nil rfl) rfl ?_ | refine kPv (ev_nilf rfl) rfl ?_
      refine kPv (ev_fa (m := _) fa_146_0 rfl rfl) rfl ?_; refine kPv (ev_load Tryz.isAgg28 rfl rfl) rfl ?_; refine kPm rfl rfl ?_
      refine p_call rfl (en_f Tryz.call34 rfl) (up_at (fun Fr => nflush_ok _ Fr _ _ _)) .free rfl rfl ?_ ?_
      rotate_left
      · rintro _ _ ⟨s9, ⟨hm9, rfl⟩, rfl⟩
        exact pan_fn fun w hh => ⟨_, ⟨_, by simp [LogS.append, *], rfl, rfl⟩, hh⟩
      rintro _ _ ⟨s6, ⟨e6, hm6, rfl⟩, rfl⟩
      refine p_nil ?_; refine go_sub (σ' := [(4, _), (0, _)]) ⟨rfl, rfl, trivial⟩ ?_; refine g_seq ?_; refine g_region ?_; refine kPm rfl rfl ?_
      first | refine kPv (ev_nil rfl) rfl ?_ | refine kPv (ev_nilf rfl) rfl ?_
      refine kPv (ev_fa (m := _) fa_146_0 rfl rfl) rfl ?_; refine kPv (ev_load Tryz.isAgg28 rfl rfl) rfl ?_
      refine p_call rfl (en_f Tryz.call35 rfl) (up_at (fun Fr => nfence_ok _ Fr _ _)) .free rfl rfl ?_ ?_
      rotate_left
      · rintro _ _ ⟨s9, ⟨hm9, rfl⟩, rfl⟩
        exact pan_fn fun w hh => ⟨_, ⟨_, by simp [LogS.append, *], rfl, rfl⟩, hh⟩
      rintro _ _ ⟨s7, ⟨e7, hm7, rfl⟩, rfl⟩
      refine p_nil ?_; refine g_seq ?_; refine g_region ?_; refine kPm rfl rfl ?_
      first | refine kPv (ev_nil rfl) rfl ?_ | refine kPv (ev_nilf rfl) rfl ?_
      refine kPv (ev_fa (m := _) fa_146_3 rfl rfl) rfl ?_; refine kPv (ev_load Tryz.isAgg3 rfl rfl) rfl ?_
      first | refine p_val rfl (ev_add rfl rfl (wr64 (by omega))) .free rfl rfl ?_ | refine p_val rfl (ev_add rfl rfl rfl) .free rfl rfl ?_
      first | refine kPv (ev_nil rfl) rfl ?_ | refine kPv (ev_nilf rfl) rfl ?_
      refine kPv (ev_fa (m := _) fa_146_3 rfl rfl) rfl ?_; refine p_chg0 rfl (ch_store Tryz.sizeOf3 rfl rfl rfl rfl) .free rfl ?_
      rintro _ _ rfl
      refine p_nil ?_; refine go_sub (σ' := [(4, _)]) ⟨rfl, trivial⟩ ?_; refine g_seq ?_; refine g_region ?_; refine kPa rfl rfl ?_; refine p_nil ?_; refine g_ret ?_
      exact ret_tmp Tryz.results107 rfl (fun w hh => ⟨_, ⟨0, { L with n := L.n + 1 }, _, by simp [LogS.append, *], rfl, rfl⟩, hh⟩)


def openN (s : Dev) (c : Cfg) (e : Int) : Nat → Int → Int
  | 0, n => n
  | f + 1, n => if s.load (c.record n) = stampI e n then openN s c e f (n + 1) else n
def openL (d : Nat) (c : Cfg) (s : Dev) : LogS := ⟨d, c, s.load 8 % 4294967296, openN s c (s.load 8 % 4294967296) c.log.toNat 0⟩
theorem openN_le (s : Dev) (c : Cfg) (e : Int) : ∀ f n, n ≤ openN s c e f n ∧ openN s c e f n ≤ n + f
  | 0, n => by simp [openN]
  | f + 1, n => by
    have := openN_le s c e f (n + 1)
    simp only [openN]; split <;> omega
theorem openL_w {d : Nat} {c : Cfg} {s : Dev} (h : CfgW c) : LogW (openL d c s) := by
  have := openN_le s c (s.load 8 % 4294967296) c.log.toNat 0
  have := h.l1; have := h.r1
  exact ⟨h, by simp only [openL]; omega, by simp only [openL]; omega, by simp only [openL]; omega, by simp only [openL]; omega⟩

theorem lopen_ok (B : World) (Fr : List HP) (bd : Nat) (s : Dev) (c : Cfg) (hc : CfgW c) :
    ∀ w, Holds B (DevA bd s :: Fr) w → Calls Tryz.prog 41 [ptr bd, cfgV c].toArray w (Ret B (fun rv H' => ∃ bl, rv = ptr bl ∧ H' = LogA bl (openL bd c s) :: DevA bd s :: Fr) (fun _ _ => False)) := by
  refine fn_enter Tryz.func41 rfl Tryz.ntmps41 rfl ?_
  have hc1 := hc.r1
  have hc2 := hc.r2
  have hc3 := hc.l1
  have hc4 := hc.l2
  refine g_seq ?_; refine g_region ?_; refine p_chg rfl (ch_boxA rfl) .free rfl rfl ?_
  rintro _ _ ⟨b3, rfl, rfl⟩
  refine kPa rfl rfl ?_; refine p_nil ?_; refine g_seq ?_; refine g_drawt 6 Tryz.mixed (by kernel_rfl) (by kernel_rfl) ?_; refine kQm rfl rfl ?_; refine kQv (ev_loadA Tryz.isAgg30 Tryz.sizeOf30 rfl rfl) rfl ?_; refine kQm rfl rfl ?_; refine q_call rfl (en_f Tryz.call72 rfl) (ro_at (q := DevA) (fun Fr => nload_ok _ Fr _ _ _)) .free rfl ?_; refine kQv (ev_and rfl rfl (and32 _)) rfl ?_; refine kQv (ev_build rfl (bld_146_0_1_2 _ _ _ _ _ rfl rfl)) rfl ?_; refine q_nil ?_
  refine p_chg rfl (ch_boxA rfl) .free rfl rfl ?_
  rintro _ _ ⟨b12, rfl, rfl⟩
  refine kPa rfl rfl ?_; refine p_nil ?_; refine go_sub (σ' := [(5, _), (4, _), (3, _), (0, _)]) ⟨rfl, rfl, rfl, rfl, trivial⟩ ?_; refine g_seq ?_; refine g_block ?_
  refine g_loop (ι := Int) (fun n => (0 ≤ n ∧ n ≤ c.log) ∧ openN s c (s.load 8 % 4294967296) (c.log - n).toNat n = openN s c (s.load 8 % 4294967296) c.log.toNat 0) (fun _ => [(0, ptr bd), (3, ptr b3), (4, .pointer none), (5, ptr b12)]) (fun n => row b12 [ptr bd, i64 c.log, i64 c.roots, i64 c.space, w64 (s.load 8 % 4294967296), i64 n] 146 :: row b3 [i64 c.log, i64 c.roots, i64 c.space] 30 :: DevA bd s :: Fr) (fun n => (c.log - n).toNat) 0 ⟨⟨by omega, by omega⟩, by rw [Int.sub_zero]⟩ (fun a w st => st.to ⟨rfl, rfl, rfl, rfl, trivial⟩ id) ?_
  rintro n ⟨⟨hn1, hn2⟩, hn3⟩
  refine g_seq ?_; refine g_seq ?_; refine g_draw Tryz.mixed (by kernel_rfl) (by kernel_rfl) ?_; refine kQm rfl rfl ?_
  first | refine kQv (ev_nil rfl) rfl ?_ | refine kQv (ev_nilf rfl) rfl ?_
  refine kQv (ev_fa (m := _) fa_146_3 rfl rfl) rfl ?_; refine kQv (ev_load Tryz.isAgg3 rfl rfl) rfl ?_; refine kQv (ev_fa (m := _) fa_30_0 rfl rfl) rfl ?_; refine kQv (ev_load Tryz.isAgg3 rfl rfl) rfl ?_; refine kQv (ev_cmp rfl rfl rfl) rfl ?_; refine kQm rfl rfl ?_
  apply q_and (tp := 39) (t := 20) (σ1 := [(20, _), (5, _), (4, _), (3, _), (0, _)]) 19 rfl ⟨rfl, rfl, rfl, rfl, rfl, trivial⟩
  · intro hg1
    refine q_val rfl (ev_move rfl) (.on rfl rfl (beq_eq hg1)) rfl ?_; refine q_val rfl (ev_loadA Tryz.isAgg30 Tryz.sizeOf30 rfl rfl) (.on rfl rfl (beq_eq hg1)) rfl ?_; refine q_val rfl (ev_move rfl) (.on rfl rfl (beq_eq hg1)) rfl ?_
    first | refine q_val rfl (ev_nil rfl) (.on rfl rfl (beq_eq hg1)) rfl ?_ | refine q_val rfl (ev_nilf rfl) (.on rfl rfl (beq_eq hg1)) rfl ?_
    refine q_val rfl (ev_fa (m := _) fa_146_3 rfl rfl) (.on rfl rfl (beq_eq hg1)) rfl ?_; refine q_val rfl (ev_load Tryz.isAgg3 rfl rfl) (.on rfl rfl (beq_eq hg1)) rfl ?_; refine q_call rfl (en_f Tryz.call87 rfl) (record_ok _ _ c _ (by omega) (by omega)) (.on rfl rfl (beq_eq hg1)) rfl ?_; refine q_call rfl (en_f Tryz.call72 rfl) (ro_at (q := DevA) (fun Fr => nload_ok _ Fr _ _ _)) (.on rfl rfl (beq_eq hg1)) rfl ?_; refine q_val rfl (ev_move rfl) (.on rfl rfl (beq_eq hg1)) rfl ?_
    first | refine q_val rfl (ev_nil rfl) (.on rfl rfl (beq_eq hg1)) rfl ?_ | refine q_val rfl (ev_nilf rfl) (.on rfl rfl (beq_eq hg1)) rfl ?_
    refine q_val rfl (ev_fa (m := _) fa_146_2 rfl rfl) (.on rfl rfl (beq_eq hg1)) rfl ?_; refine q_val rfl (ev_load Tryz.isAgg52 rfl rfl) (.on rfl rfl (beq_eq hg1)) rfl ?_; refine q_val rfl (ev_move rfl) (.on rfl rfl (beq_eq hg1)) rfl ?_
    first | refine q_val rfl (ev_nil rfl) (.on rfl rfl (beq_eq hg1)) rfl ?_ | refine q_val rfl (ev_nilf rfl) (.on rfl rfl (beq_eq hg1)) rfl ?_
    refine q_val rfl (ev_fa (m := _) fa_146_3 rfl rfl) (.on rfl rfl (beq_eq hg1)) rfl ?_; refine q_val rfl (ev_load Tryz.isAgg3 rfl rfl) (.on rfl rfl (beq_eq hg1)) rfl ?_; refine q_call rfl (en_f Tryz.call88 rfl) (stamp_ok _ _ _ _ ⟨by omega, by omega⟩ ⟨by omega, by omega⟩) (.on rfl rfl (beq_eq hg1)) rfl ?_; refine q_val rfl (ev_cmp rfl rfl rfl) (.on rfl rfl (beq_eq hg1)) rfl ?_; refine kQv (ev_pick_t rfl hg1 rfl) rfl ?_
    exact q_seg rfl ⟨rfl, rfl, rfl, rfl, rfl, trivial⟩ (and_t hg1)
  · intro hg1
    refine q_skip rfl (.on rfl rfl (beq_ne hg1)) rfl ?_; refine q_skip rfl (.on rfl rfl (beq_ne hg1)) rfl ?_; refine q_skip rfl (.on rfl rfl (beq_ne hg1)) rfl ?_; refine q_skip rfl (.on rfl rfl (beq_ne hg1)) rfl ?_; refine q_skip rfl (.on rfl rfl (beq_ne hg1)) rfl ?_; refine q_skip rfl (.on rfl rfl (beq_ne hg1)) rfl ?_; refine q_skip rfl (.on rfl rfl (beq_ne hg1)) rfl ?_; refine q_skip rfl (.on rfl rfl (beq_ne hg1)) rfl ?_; refine q_skip rfl (.on rfl rfl (beq_ne hg1)) rfl ?_
    refine q_skip rfl (.on rfl rfl (beq_ne hg1)) rfl ?_; refine q_skip rfl (.on rfl rfl (beq_ne hg1)) rfl ?_; refine q_skip rfl (.on rfl rfl (beq_ne hg1)) rfl ?_; refine q_skip rfl (.on rfl rfl (beq_ne hg1)) rfl ?_; refine q_skip rfl (.on rfl rfl (beq_ne hg1)) rfl ?_; refine q_skip rfl (.on rfl rfl (beq_ne hg1)) rfl ?_; refine q_skip rfl (.on rfl rfl (beq_ne hg1)) rfl ?_; refine q_skip rfl (.on rfl rfl (beq_ne hg1)) rfl ?_; refine q_skip rfl (.on rfl rfl (beq_ne hg1)) rfl ?_
    refine kQv (ev_pick_f rfl hg1 rfl) rfl ?_
    exact q_seg rfl ⟨rfl, rfl, rfl, rfl, rfl, trivial⟩ (and_f hg1)
  refine q_nil ?_
  refine g_if rfl (fun h39 => ?_) (fun h39 => ?_)
  · try simp only [decide_eq_true_eq, decide_eq_false_iff_not, Bool.not_eq_true', Bool.not_eq_false', Bool.or_eq_true, Bool.and_eq_true, Bool.and_eq_false_iff, Bool.or_eq_false_iff, beq_iff_eq, bne_iff_ne, beq_eq_false_iff_ne, bne_eq_false_iff_eq, ge_iff_le, gt_iff_lt, ne_eq] at h39
    refine g_skip ?_; refine g_block ?_; refine g_region ?_; refine kPm rfl rfl ?_
    first | refine kPv (ev_nil rfl) rfl ?_ | refine kPv (ev_nilf rfl) rfl ?_
    refine kPv (ev_fa (m := _) fa_146_3 rfl rfl) rfl ?_; refine kPv (ev_load Tryz.isAgg3 rfl rfl) rfl ?_
    first | refine p_val rfl (ev_add rfl rfl (wr64 (by omega))) .free rfl rfl ?_ | refine p_val rfl (ev_add rfl rfl rfl) .free rfl rfl ?_
    first | refine kPv (ev_nil rfl) rfl ?_ | refine kPv (ev_nilf rfl) rfl ?_
    refine kPv (ev_fa (m := _) fa_146_3 rfl rfl) rfl ?_; refine p_chg0 rfl (ch_store Tryz.sizeOf3 rfl rfl rfl rfl) .free rfl ?_
    rintro _ _ rfl
    refine p_nil ?_; refine go_sub (σ' := [(5, _), (4, _), (3, _), (0, _)]) ⟨rfl, rfl, rfl, rfl, trivial⟩ ?_
    have e1 : (c.log - n).toNat = (c.log - (n + 1)).toNat + 1 := by omega
    exact fun a w st => ⟨n + 1, ⟨⟨by omega, by omega⟩, by rw [e1] at hn3; simp only [openN] at hn3; rwa [if_pos h39.2] at hn3⟩, by omega, st.to ⟨rfl, rfl, rfl, rfl, trivial⟩ id⟩
  · try simp only [decide_eq_true_eq, decide_eq_false_iff_not, Bool.not_eq_true', Bool.not_eq_false', Bool.or_eq_true, Bool.and_eq_true, Bool.and_eq_false_iff, Bool.or_eq_false_iff, beq_iff_eq, bne_iff_ne, beq_eq_false_iff_ne, bne_eq_false_iff_eq, ge_iff_le, gt_iff_lt, ne_eq] at h39
    refine g_exit ?_; refine g_seq ?_; refine g_region ?_; refine kPm rfl rfl ?_; refine kPa rfl rfl ?_; refine p_nil ?_; refine g_ret ?_
    exact ret_tmp Tryz.results41 rfl (fun w hh => ⟨_, ⟨b12, rfl, rfl⟩, by
      have e2 : openN s c (s.load 8 % 4294967296) c.log.toNat 0 = n := by
        rw [← hn3]
        cases e1 : (c.log - n).toNat with
        | zero => rfl
        | succ k => simp only [openN]; rw [if_neg (by rcases h39 with h | h; omega; exact h)]
      simp only [openL]
      rw [e2]
      exact (hh.front 1 rfl).tail⟩)


/-- The first record that can't be one, from k on. -/
def goodN (s : Dev) (c : Cfg) : Nat → Int → Int
  | 0, _ => -1
  | f + 1, k => if s.load (c.record k + 1) < c.active ∨ (s.n : Int) ≤ s.load (c.record k + 1) then k else goodN s c f (k + 1)

theorem lgood_ok (B : World) (Fr : List HP) (bl : Nat) (L : LogS) (s : Dev) (hL : LogW L) :
    ∀ w, Holds B (LogA bl L :: DevA L.d s :: Fr) w → Calls Tryz.prog 42 [ptr bl].toArray w (PureR B (LogA bl L :: DevA L.d s :: Fr) (i64 (goodN s L.c L.n.toNat 0))) := by
  refine fn_enter Tryz.func42 rfl Tryz.ntmps42 rfl ?_
  have hc := hL.c
  have hc1 := hc.r1
  have hc2 := hc.r2
  have hc3 := hc.l1
  have hc4 := hc.l2
  have hl1 := hL.e1
  have hl2 := hL.e2
  have hl3 := hL.n1
  have hl4 := hL.n2
  have hrc : 16 ≤ L.c.record L.n ∧ L.c.record L.n ≤ 10000 := by simp only [Cfg.record]; omega
  refine go_dw L.d fun hn1 hn2 hn3 => ?_
  have ha := hc.act
  refine g_seq ?_; refine g_region ?_; refine kPa rfl rfl ?_; refine p_nil ?_; refine g_seq ?_; refine g_seq ?_; refine g_region ?_; refine kPm rfl rfl ?_
  first | refine kPv (ev_nil rfl) rfl ?_ | refine kPv (ev_nilf rfl) rfl ?_
  refine kPv (ev_fa (m := _) fa_146_3 rfl rfl) rfl ?_; refine kPv (ev_load Tryz.isAgg3 rfl rfl) rfl ?_; refine kPm rfl rfl ?_; refine p_nil ?_; refine g_block ?_
  refine g_loop (ι := Int) (fun k => (0 ≤ k ∧ k ≤ L.n) ∧ goodN s L.c (L.n - k).toNat k = goodN s L.c L.n.toNat 0) (fun k => [(0, ptr bl), (2, i64 0), (8, i64 L.n), (9, i64 k)]) (fun _ => LogA bl L :: DevA L.d s :: Fr) (fun k => (L.n - k).toNat) 0 ⟨⟨by omega, by omega⟩, by rw [Int.sub_zero]⟩ (fun a w st => st.to ⟨rfl, rfl, rfl, rfl, trivial⟩ id) ?_
  rintro k ⟨⟨hk1, hk2⟩, hk3⟩
  have hrk : 16 ≤ L.c.record k ∧ L.c.record k ≤ 10000 := by simp only [Cfg.record]; omega
  refine g_seq ?_; refine g_region ?_; refine kPv (ev_cmp rfl rfl rfl) rfl ?_; refine p_nil ?_; refine g_seq ?_
  refine g_if rfl (fun h10 => ?_) (fun h10 => ?_)
  · try simp only [decide_eq_true_eq, decide_eq_false_iff_not, Bool.not_eq_true', Bool.not_eq_false', Bool.or_eq_true, Bool.and_eq_true, Bool.and_eq_false_iff, Bool.or_eq_false_iff, beq_iff_eq, bne_iff_ne, beq_eq_false_iff_ne, bne_eq_false_iff_eq, ge_iff_le, gt_iff_lt, ne_eq] at h10
    refine g_skip ?_; refine g_seq ?_; refine g_block ?_; refine g_seq ?_; refine g_region ?_; refine kPm rfl rfl ?_; refine kPa rfl rfl ?_; refine p_nil ?_; refine g_seq ?_; refine g_draw Tryz.mixed (by kernel_rfl) (by kernel_rfl) ?_; refine kQm rfl rfl ?_
    first | refine kQv (ev_nil rfl) rfl ?_ | refine kQv (ev_nilf rfl) rfl ?_
    refine kQv (ev_fa (m := _) fa_146_0 rfl rfl) rfl ?_; refine kQv (ev_load Tryz.isAgg28 rfl rfl) rfl ?_; refine kQm rfl rfl ?_
    first | refine kQv (ev_nil rfl) rfl ?_ | refine kQv (ev_nilf rfl) rfl ?_
    refine kQv (ev_fa (m := _) fa_146_1 rfl rfl) rfl ?_; refine kQv (ev_loadA Tryz.isAgg30 Tryz.sizeOf30 rfl rfl) rfl ?_; refine kQm rfl rfl ?_; refine q_call rfl (en_f Tryz.call87 rfl) (record_ok _ _ L.c _ (by omega) (by omega)) .free rfl ?_
    first | refine q_val rfl (ev_add rfl rfl (wr64 (by omega))) .free rfl ?_ | refine q_val rfl (ev_add rfl rfl rfl) .free rfl ?_
    refine q_call rfl (en_f Tryz.call72 rfl) (ro_at (q := DevA) (fun Fr => nload_ok _ Fr _ _ _)) .free rfl ?_; refine kQa rfl rfl ?_; refine q_nil ?_; refine go_sub (σ' := [(4, _), (3, _), (9, _), (8, _), (2, _), (0, _)]) ⟨rfl, rfl, rfl, rfl, rfl, rfl, trivial⟩ ?_; refine g_seq ?_; refine g_region ?_; refine kPm rfl rfl ?_; refine kPm rfl rfl ?_
    first | refine kPv (ev_nil rfl) rfl ?_ | refine kPv (ev_nilf rfl) rfl ?_
    refine kPv (ev_fa (m := _) fa_146_1 rfl rfl) rfl ?_; refine kPv (ev_loadA Tryz.isAgg30 Tryz.sizeOf30 rfl rfl) rfl ?_; refine p_callq rfl (en_f Tryz.call45 rfl) (active_ok _ _ L.c hc) .free rfl rfl ?_
    first | refine p_val rfl (ev_conv Tryz.runUnderlying3 Tryz.runUnderlying52 rfl (wru64 (by omega))) .free rfl rfl ?_ | refine p_val rfl (ev_conv Tryz.runUnderlying3 Tryz.runUnderlying52 rfl rfl) .free rfl rfl ?_
    refine kPv (ev_cmp rfl rfl rfl) rfl ?_; refine kPm rfl rfl ?_
    apply p_or (tp := 41) (t := 32) (σ1 := [(32, _), (3, _), (9, _), (8, _), (2, _), (0, _)]) 9 rfl ⟨rfl, rfl, rfl, rfl, rfl, rfl, trivial⟩
    · intro hg1
      refine p_val rfl (ev_move rfl) (.on rfl rfl (beq_eq hg1)) rfl rfl ?_; refine p_val rfl (ev_move rfl) (.on rfl rfl (beq_eq hg1)) rfl rfl ?_
      first | refine p_val rfl (ev_nil rfl) (.on rfl rfl (beq_eq hg1)) rfl rfl ?_ | refine p_val rfl (ev_nilf rfl) (.on rfl rfl (beq_eq hg1)) rfl rfl ?_
      refine p_val rfl (ev_fa (m := _) fa_146_0 rfl rfl) (.on rfl rfl (beq_eq hg1)) rfl rfl ?_; refine p_val rfl (ev_load Tryz.isAgg28 rfl rfl) (.on rfl rfl (beq_eq hg1)) rfl rfl ?_; refine p_callq rfl (en_f Tryz.call33 rfl) (ro_at (q := DevA) (fun Fr => nlen_ok _ Fr _ _)) (.on rfl rfl (beq_eq hg1)) rfl rfl ?_
      first | refine p_val rfl (ev_conv Tryz.runUnderlying3 Tryz.runUnderlying52 rfl (wru64 (by omega))) (.on rfl rfl (beq_eq hg1)) rfl rfl ?_ | refine p_val rfl (ev_conv Tryz.runUnderlying3 Tryz.runUnderlying52 rfl rfl) (.on rfl rfl (beq_eq hg1)) rfl rfl ?_
      refine p_val rfl (ev_cmp rfl rfl rfl) (.on rfl rfl (beq_eq hg1)) rfl rfl ?_; refine kPv (ev_pick_f rfl hg1 rfl) rfl ?_
      exact p_seg rfl ⟨rfl, rfl, rfl, rfl, rfl, rfl, trivial⟩ (or_f hg1)
    · intro hg1
      refine p_skip rfl (.on rfl rfl (beq_ne hg1)) rfl ?_; refine p_skip rfl (.on rfl rfl (beq_ne hg1)) rfl ?_; refine p_skip rfl (.on rfl rfl (beq_ne hg1)) rfl ?_; refine p_skip rfl (.on rfl rfl (beq_ne hg1)) rfl ?_; refine p_skip rfl (.on rfl rfl (beq_ne hg1)) rfl ?_; refine p_skip rfl (.on rfl rfl (beq_ne hg1)) rfl ?_; refine p_skip rfl (.on rfl rfl (beq_ne hg1)) rfl ?_; refine p_skip rfl (.on rfl rfl (beq_ne hg1)) rfl ?_; refine kPv (ev_pick_t rfl hg1 rfl) rfl ?_
      exact p_seg rfl ⟨rfl, rfl, rfl, rfl, rfl, rfl, trivial⟩ (or_t hg1)
    refine p_nil ?_
    refine g_if rfl (fun h41 => ?_) (fun h41 => ?_)
    · try simp only [decide_eq_true_eq, decide_eq_false_iff_not, Bool.not_eq_true', Bool.not_eq_false', Bool.or_eq_true, Bool.and_eq_true, Bool.and_eq_false_iff, Bool.or_eq_false_iff, beq_iff_eq, bne_iff_ne, beq_eq_false_iff_ne, bne_eq_false_iff_eq, ge_iff_le, gt_iff_lt, ne_eq] at h41
      refine g_seq ?_; refine g_region ?_; refine kPm rfl rfl ?_; refine kPa rfl rfl ?_; refine p_nil ?_; refine g_ret ?_
      exact ret_tmp Tryz.results42 rfl (fun w hh => ⟨by
      have e1 : (L.n - k).toNat = (L.n - (k + 1)).toNat + 1 := by omega
      rw [← hk3, e1]; simp only [goodN]; rw [if_pos (by omega)], hh⟩)
    · try simp only [decide_eq_true_eq, decide_eq_false_iff_not, Bool.not_eq_true', Bool.not_eq_false', Bool.or_eq_true, Bool.and_eq_true, Bool.and_eq_false_iff, Bool.or_eq_false_iff, beq_iff_eq, bne_iff_ne, beq_eq_false_iff_ne, bne_eq_false_iff_eq, ge_iff_le, gt_iff_lt, ne_eq] at h41
      refine g_skip ?_; refine g_region ?_
      first | refine p_val rfl (ev_add rfl rfl (wr64 (by omega))) .free rfl rfl ?_ | refine p_val rfl (ev_add rfl rfl rfl) .free rfl rfl ?_
      refine kPm rfl rfl ?_; refine p_nil ?_
      have e1 : (L.n - k).toNat = (L.n - (k + 1)).toNat + 1 := by omega
      exact fun a w st => ⟨k + 1, ⟨⟨by omega, by omega⟩, by rw [e1] at hk3; simp only [goodN] at hk3; rwa [if_neg (by omega)] at hk3⟩, by omega, st.to ⟨rfl, rfl, rfl, rfl, trivial⟩ id⟩
  · try simp only [decide_eq_true_eq, decide_eq_false_iff_not, Bool.not_eq_true', Bool.not_eq_false', Bool.or_eq_true, Bool.and_eq_true, Bool.and_eq_false_iff, Bool.or_eq_false_iff, beq_iff_eq, bne_iff_ne, beq_eq_false_iff_ne, bne_eq_false_iff_eq, ge_iff_le, gt_iff_lt, ne_eq] at h10
    refine g_exit ?_; refine g_seq ?_; refine g_region ?_; refine kPa rfl rfl ?_; refine p_nil ?_; refine go_sub (σ' := [(2, _)]) ⟨rfl, trivial⟩ ?_; refine g_ret ?_
    exact ret_tmp Tryz.results42 rfl (fun w hh => ⟨by rw [← hk3, show (L.n - k).toNat = 0 by omega]; rfl, hh⟩)


/-- The records, last first, each handed on. -/
def recN (st : Int → Int → Dev → Out Unit) (c : Cfg) : Nat → Dev → Out Unit
  | 0, s => .ok () s
  | k + 1, s => (st (IntKind.i64.wrap (s.load (c.record k + 1))) (s.load (c.record k + 2)) s).then fun _ s => recN st c k s
def undoS (i v : Int) (s : Dev) : Out Unit := (s.store i v).then fun _ s => (s.flush i).then fun _ s => .ok () s
def LogS.undo (L : LogS) (s : Dev) : Out LogS :=
  (recN undoS L.c L.n.toNat s).then fun _ s => (if 0 < L.n then s.fence else .ok () s).then fun _ s => L.truncate s

theorem lrecords_ok (B : World) (H : List HP) (bl : Nat) :
    ∀ w, Holds B H w → Calls Tryz.prog 89 [ptr bl].toArray w (Ret B (fun v H' => ∃ bb, v = .func (.func 110) [].toArray [ptr bb].toArray ∧ H' = row bb [ptr bl] 39 :: H) (fun _ _ => False)) := by
  refine fn_enter Tryz.func89 rfl Tryz.ntmps89 rfl ?_; refine g_seq ?_; refine g_region ?_; refine p_chg rfl (ch_box1 rfl rfl) .free rfl rfl ?_
  rintro _ _ ⟨b1, rfl, rfl⟩
  refine kPa rfl rfl ?_; refine p_nil ?_; refine g_seq ?_; refine g_region ?_; refine kPv (ev_mkf rfl rfl) rfl ?_; refine kPa rfl rfl ?_; refine p_nil ?_; refine g_ret ?_
  exact ret_tmp Tryz.results89 rfl (fun w hw => ⟨_, ⟨_, rfl, rfl⟩, hw⟩)

theorem lrec1_ok (B : World) (Fr : List HP) (bl bb l f : Nat) (L : LogS) (s : Dev) (hL : LogW L) (r : Loop) (hrf : r.fn = f) (hrp : r.params.size = 2) (st : Int → Int → Dev → Out Unit) (hround : ∀ (i v : Int) (s : Dev), ∀ w, Holds B (blk l (.loop r) :: row bb [ptr bl] 39 :: LogA bl L :: DevA L.d s :: Fr) w → RoundIn (Wd (cxF f)) 0 Tryz.prog l f ((r.params.zip [i64 i, w64 v].toArray).foldl (fun tmps (t, a) => tmps.setIfInBounds t a) r.tmps) r.assign r.body w (Ret B (fun rv H' => ∃ s', st i v s = .ok () s' ∧ rv = .bool true ∧ H' = blk l (.loop r) :: row bb [ptr bl] 39 :: LogA bl L :: DevA L.d s' :: Fr) (fun c H' => ∃ s', st i v s = .off s' ∧ c = offc ∧ H' = row bb [ptr bl] 39 :: LogA bl L :: DevA L.d s' :: Fr))) :
    ∀ w, Holds B (blk l (.loop r) :: row bb [ptr bl] 39 :: LogA bl L :: DevA L.d s :: Fr) w → Calls Tryz.prog 110 [.func (.yield l) #[] #[], ptr bb].toArray w (Ret B (fun rv H' => ∃ s', recN st L.c L.n.toNat s = .ok () s' ∧ H' = blk l (.loop r) :: row bb [ptr bl] 39 :: LogA bl L :: DevA L.d s' :: Fr) (fun c H' => ∃ s', recN st L.c L.n.toNat s = .off s' ∧ c = offc ∧ H' = row bb [ptr bl] 39 :: LogA bl L :: DevA L.d s' :: Fr)) := by
  refine fn_enter Tryz.func110 rfl Tryz.ntmps110 rfl ?_
  have hc := hL.c
  have hc1 := hc.r1
  have hc2 := hc.r2
  have hc3 := hc.l1
  have hc4 := hc.l2
  have hl1 := hL.e1
  have hl2 := hL.e2
  have hl3 := hL.n1
  have hl4 := hL.n2
  have hrc : 16 ≤ L.c.record L.n ∧ L.c.record L.n ≤ 10000 := by simp only [Cfg.record]; omega
  refine go_dw L.d fun hn1 hn2 hn3 => ?_; refine g_seq ?_; refine g_region ?_; refine kPv (ev_load Tryz.isAgg39 rfl rfl) rfl ?_
  first | refine kPv (ev_nil rfl) rfl ?_ | refine kPv (ev_nilf rfl) rfl ?_
  refine kPv (ev_fa (m := _) fa_146_3 rfl rfl) rfl ?_; refine kPv (ev_load Tryz.isAgg3 rfl rfl) rfl ?_
  first | refine p_val rfl (ev_sub rfl rfl (wr64 (by omega))) .free rfl rfl ?_ | refine p_val rfl (ev_sub rfl rfl rfl) .free rfl rfl ?_
  refine kPa rfl rfl ?_; refine p_nil ?_; refine g_block ?_
  refine g_loop (ι := Int × Dev) (fun i => (-1 ≤ i.1 ∧ i.1 < L.n) ∧ recN st L.c (i.1 + 1).toNat i.2 = recN st L.c L.n.toNat s) (fun i => [(0, .func (.yield l) #[] #[]), (1, ptr bb), (3, i64 i.1)]) (fun i => blk l (.loop r) :: row bb [ptr bl] 39 :: LogA bl L :: DevA L.d i.2 :: Fr) (fun i => (i.1 + 1).toNat) (L.n - 1, s) ⟨⟨by simp only; omega, by simp only; omega⟩, by simp only; rw [Int.sub_add_cancel]⟩ (fun a w st => st.to ⟨rfl, rfl, rfl, trivial⟩ id) ?_
  rintro ⟨k, s1⟩ ⟨⟨hk1, hk2⟩, hk3⟩
  simp only at hk1 hk2 hk3 ⊢
  have hrk : k < 0 ∨ 16 ≤ L.c.record k ∧ L.c.record k ≤ 10000 := by simp only [Cfg.record]; omega
  refine g_seq ?_; refine g_seq ?_; refine g_region ?_; refine kPm rfl rfl ?_; refine kPv (ev_cmp rfl rfl rfl) rfl ?_; refine p_nil ?_
  refine g_if rfl (fun h11 => ?_) (fun h11 => ?_)
  · try simp only [decide_eq_true_eq, decide_eq_false_iff_not, Bool.not_eq_true', Bool.not_eq_false', Bool.or_eq_true, Bool.and_eq_true, Bool.and_eq_false_iff, Bool.or_eq_false_iff, beq_iff_eq, bne_iff_ne, beq_eq_false_iff_ne, bne_eq_false_iff_eq, ge_iff_le, gt_iff_lt, ne_eq] at h11
    refine g_skip ?_; refine g_seq ?_; refine g_block ?_; refine g_seq ?_; refine g_region ?_; refine kPv (ev_load Tryz.isAgg39 rfl rfl) rfl ?_
    first | refine kPv (ev_nil rfl) rfl ?_ | refine kPv (ev_nilf rfl) rfl ?_
    refine kPv (ev_fa (m := _) fa_146_1 rfl rfl) rfl ?_; refine kPv (ev_loadA Tryz.isAgg30 Tryz.sizeOf30 rfl rfl) rfl ?_; refine kPm rfl rfl ?_; refine p_callq rfl (en_f Tryz.call87 rfl) (record_ok _ _ L.c _ (by omega) (by omega)) .free rfl rfl ?_; refine kPa rfl rfl ?_; refine p_nil ?_; refine go_sub (σ' := [(4, _), (3, _), (0, _), (1, _)]) ⟨rfl, rfl, rfl, rfl, trivial⟩ ?_; refine g_seq ?_; refine g_drawt 16 Tryz.mixed (by kernel_rfl) (by kernel_rfl) ?_; refine kQm rfl rfl ?_
    refine kQv (ev_load Tryz.isAgg39 rfl rfl) rfl ?_
    first | refine kQv (ev_nil rfl) rfl ?_ | refine kQv (ev_nilf rfl) rfl ?_
    refine kQv (ev_fa (m := _) fa_146_0 rfl rfl) rfl ?_; refine kQv (ev_load Tryz.isAgg28 rfl rfl) rfl ?_; refine kQm rfl rfl ?_
    first | refine q_val rfl (ev_add rfl rfl (wr64 (by omega))) .free rfl ?_ | refine q_val rfl (ev_add rfl rfl rfl) .free rfl ?_
    refine q_call rfl (en_f Tryz.call72 rfl) (ro_at (q := DevA) (fun Fr => nload_ok _ Fr _ _ _)) .free rfl ?_
    first | refine q_val rfl (ev_conv Tryz.runUnderlying52 Tryz.runUnderlying3 rfl (wr64 (by omega))) .free rfl ?_ | refine q_val rfl (ev_conv Tryz.runUnderlying52 Tryz.runUnderlying3 rfl rfl) .free rfl ?_
    refine kQv (ev_load Tryz.isAgg39 rfl rfl) rfl ?_
    first | refine kQv (ev_nil rfl) rfl ?_ | refine kQv (ev_nilf rfl) rfl ?_
    refine kQv (ev_fa (m := _) fa_146_0 rfl rfl) rfl ?_; refine kQv (ev_load Tryz.isAgg28 rfl rfl) rfl ?_; refine kQm rfl rfl ?_
    first | refine q_val rfl (ev_add rfl rfl (wr64 (by omega))) .free rfl ?_ | refine q_val rfl (ev_add rfl rfl rfl) .free rfl ?_
    refine q_call rfl (en_f Tryz.call72 rfl) (ro_at (q := DevA) (fun Fr => nload_ok _ Fr _ _ _)) .free rfl ?_; refine q_nil ?_
    refine p_yield (f := f) rfl rfl (fun w hw => hw) (by rw [hrp]; rfl) hrf (hround _ _ _) .free rfl ?_ ?_
    rotate_left
    · rintro _ _ ⟨s9, hm9, rfl, rfl⟩
      exact pan_fn fun w hh => ⟨_, ⟨s9, by rw [← hk3, show (k + 1).toNat = k.toNat + 1 by omega]; simp only [recN]; rw [show ((k.toNat : Nat) : Int) = k by omega, hm9]; rfl, rfl, rfl⟩, hh⟩
    rintro _ _ ⟨s2, hm2, rfl, rfl⟩
    refine kPv (ev_not rfl) rfl ?_; refine p_nil ?_; refine go_sub (σ' := [(37, _), (3, _), (0, _), (1, _)]) ⟨rfl, rfl, rfl, rfl, trivial⟩ ?_; refine g_iff rfl (rfl) ?_; refine g_skip ?_; refine g_region ?_; refine kPm rfl rfl ?_
    first | refine p_val rfl (ev_sub rfl rfl (wr64 (by omega))) .free rfl rfl ?_ | refine p_val rfl (ev_sub rfl rfl rfl) .free rfl rfl ?_
    refine kPa rfl rfl ?_; refine p_nil ?_
    exact fun a w st => ⟨(k - 1, s2), ⟨⟨by simp only; omega, by simp only; omega⟩, by
      simp only
      rw [← hk3, show (k + 1).toNat = k.toNat + 1 by omega, show (k - 1 + 1).toNat = k.toNat by omega]
      simp only [recN]
      rw [show ((k.toNat : Nat) : Int) = k by omega, hm2]; rfl⟩, by simp only; omega, st.to ⟨rfl, rfl, rfl, trivial⟩ id⟩
  · try simp only [decide_eq_true_eq, decide_eq_false_iff_not, Bool.not_eq_true', Bool.not_eq_false', Bool.or_eq_true, Bool.and_eq_true, Bool.and_eq_false_iff, Bool.or_eq_false_iff, beq_iff_eq, bne_iff_ne, beq_eq_false_iff_ne, bne_eq_false_iff_eq, ge_iff_le, gt_iff_lt, ne_eq] at h11
    refine g_exit ?_
    exact end_none Tryz.results110 (fun w hh => ⟨_, ⟨s1, by rw [← hk3, show (k + 1).toNat = 0 by omega]; rfl, rfl⟩, hh⟩)

theorem lundo_ok (B : World) (Fr : List HP) (bl : Nat) (L : LogS) (s : Dev) (hL : LogW L) :
    ∀ w, Holds B (LogA bl L :: DevA L.d s :: Fr) w → Calls Tryz.prog 43 [ptr bl].toArray w (Ret B (fun rv H' => ∃ L' s', L.undo s = .ok L' s' ∧ rv = .tuple #[] ∧ H' = LogA bl L' :: DevA L.d s' :: Fr) (fun c H' => ∃ s', L.undo s = .off s' ∧ c = offc ∧ H' = LogA bl L :: DevA L.d s' :: Fr)) := by
  refine fn_enter_m Tryz.func43 rfl Tryz.ntmps43 rfl ?_
  have hc := hL.c
  have hc1 := hc.r1
  have hc2 := hc.r2
  have hc3 := hc.l1
  have hc4 := hc.l2
  have hl1 := hL.e1
  have hl2 := hL.e2
  have hl3 := hL.n1
  have hl4 := hL.n2
  have hrc : 16 ≤ L.c.record L.n ∧ L.c.record L.n ≤ 10000 := by simp only [Cfg.record]; omega
  refine go_dw L.d fun hn1 hn2 hn3 => ?_; refine g_seq ?_; refine g_region ?_; refine p_chg rfl (ch_box1 rfl rfl) .free rfl rfl ?_
  rintro _ _ ⟨b1, rfl, rfl⟩
  refine p_nil ?_; refine g_seq ?_; refine g_seq ?_; refine g_region ?_; refine kPv (ev_load Tryz.isAgg39 rfl rfl) rfl ?_
  refine p_call rfl (en_f Tryz.call89 rfl) (lrecords_ok _ _ _) .free rfl rfl ?_ ?_
  rotate_left
  · rintro _ _ ⟨⟩
  rintro _ _ ⟨bb, rfl, rfl⟩
  refine p_nil ?_; refine g_block ?_
  refine g_range0 (ι := Dev) (fun s' => row bb [ptr bl] 39 :: LogA bl L :: DevA L.d s' :: row b1 [ptr bl] 39 :: Fr) (fun s' => recN undoS L.c L.n.toNat s = .ok () s') (fun s' => recN undoS L.c L.n.toNat s = .off s') offc rfl Tryz.call110 ?_ ?_ ?_
  · intro l m tmps hts hkn w hh
    have hk1 := hkn 1 _ rfl
    refine (lrec1_ok B (blk m (.deferred (some [])) :: row b1 [ptr bl] 39 :: Fr) bl bb l 43 L s hL _ rfl rfl undoS ?_ w ((((hh.front 5 rfl).front 5 rfl).front 4 rfl).front 3 rfl)).mono (Ret.mono ?_ ?_)
    rotate_left
    · rintro v H' ⟨s', hs', rfl⟩
      exact ⟨s', hs', fun w hh => ((hh.front 4 rfl).front 1 rfl)⟩
    · rintro c H' ⟨s', hs', rfl, rfl⟩
      exact ⟨rfl, s', hs', fun w hh => (hh.front 3 rfl)⟩
    intro i v s
    refine round_go (n := 33) (σ := [(6, i64 i), (7, w64 v), (1, ptr b1)]) Tryz.func43 (by simp [lrec, hts]) (KnA.knows (by simp [KnA, lrec, hts]; exact (Array.getElem?_eq_some_iff.1 hk1).2)) rfl ?_; refine g_seq ?_; refine g_region ?_; refine kPa rfl rfl ?_; refine p_nil ?_; refine g_region ?_; refine kPa rfl rfl ?_; refine p_nil ?_; refine go_mid ?_; refine g_block ?_; refine g_seq ?_; refine g_region ?_; refine kPv (ev_load Tryz.isAgg39 rfl rfl) rfl ?_
    first | refine kPv (ev_nil rfl) rfl ?_ | refine kPv (ev_nilf rfl) rfl ?_
    refine kPv (ev_fa (m := _) fa_146_0 rfl rfl) rfl ?_; refine kPv (ev_load Tryz.isAgg28 rfl rfl) rfl ?_; refine kPm rfl rfl ?_; refine kPm rfl rfl ?_
    refine p_call rfl (en_f Tryz.call70 rfl) (up_at (fun Fr => nstore_ok _ Fr _ _ _ _)) .free rfl rfl ?_ ?_
    rotate_left
    · rintro _ _ ⟨s9, ⟨hm9, rfl⟩, rfl⟩
      exact pan_fn fun w hh => ⟨_, ⟨s9, by simp [undoS, *], rfl, rfl⟩, hh.tail⟩
    rintro _ _ ⟨s1, ⟨e1, hm1, rfl⟩, rfl⟩
    refine p_nil ?_; refine go_sub (σ' := [(2, _), (1, _)]) ⟨rfl, rfl, trivial⟩ ?_; refine g_region ?_; refine kPv (ev_load Tryz.isAgg39 rfl rfl) rfl ?_
    first | refine kPv (ev_nil rfl) rfl ?_ | refine kPv (ev_nilf rfl) rfl ?_
    refine kPv (ev_fa (m := _) fa_146_0 rfl rfl) rfl ?_; refine kPv (ev_load Tryz.isAgg28 rfl rfl) rfl ?_; refine kPm rfl rfl ?_
    refine p_call rfl (en_f Tryz.call34 rfl) (up_at (fun Fr => nflush_ok _ Fr _ _ _)) .free rfl rfl ?_ ?_
    rotate_left
    · rintro _ _ ⟨s9, ⟨hm9, rfl⟩, rfl⟩
      exact pan_fn fun w hh => ⟨_, ⟨s9, by simp [undoS, *], rfl, rfl⟩, hh.tail⟩
    rintro _ _ ⟨s2, ⟨e2, hm2, rfl⟩, rfl⟩
    refine p_nil ?_; refine go_sub (σ' := []) trivial ?_
    exact go_rK fun w hh => ⟨_, ⟨_, by simp [undoS, *], rfl, rfl⟩, hh⟩
  rotate_left
  · intro m s1 hm1
    exact pan_fn_m (.cons (i := 0) rfl .nil) fun w hh => ⟨_, ⟨s1, by simp [LogS.undo, *], rfl, rfl⟩, (((hh.front 4 rfl).front 2 rfl).front 2 rfl).tail.tail.tail⟩
  intro m s1 hm1
  refine g_seq ?_; refine g_seq ?_; refine g_region ?_; refine kPv (ev_load Tryz.isAgg39 rfl rfl) rfl ?_
  first | refine kPv (ev_nil rfl) rfl ?_ | refine kPv (ev_nilf rfl) rfl ?_
  refine kPv (ev_fa (m := _) fa_146_3 rfl rfl) rfl ?_; refine kPv (ev_load Tryz.isAgg3 rfl rfl) rfl ?_; refine kPv (ev_cmp rfl rfl rfl) rfl ?_; refine p_nil ?_; refine go_sub (σ' := [(25, _), (1, _)]) ⟨rfl, rfl, trivial⟩ ?_
  refine g_if rfl (fun h25 => ?_) (fun h25 => ?_)
  · try simp only [decide_eq_true_eq, decide_eq_false_iff_not, Bool.not_eq_true', Bool.not_eq_false', Bool.or_eq_true, Bool.and_eq_true, Bool.and_eq_false_iff, Bool.or_eq_false_iff, beq_iff_eq, bne_iff_ne, beq_eq_false_iff_ne, bne_eq_false_iff_eq, ge_iff_le, gt_iff_lt, ne_eq] at h25
    refine g_region ?_; refine kPv (ev_load Tryz.isAgg39 rfl rfl) rfl ?_
    first | refine kPv (ev_nil rfl) rfl ?_ | refine kPv (ev_nilf rfl) rfl ?_
    refine kPv (ev_fa (m := _) fa_146_0 rfl rfl) rfl ?_; refine kPv (ev_load Tryz.isAgg28 rfl rfl) rfl ?_
    refine p_call rfl (en_f Tryz.call35 rfl) (up_at (fun Fr => nfence_ok _ Fr _ _)) .free rfl rfl ?_ ?_
    rotate_left
    · rintro _ _ ⟨s9, ⟨hm9, rfl⟩, rfl⟩
      exact pan_fn_m (.cons (i := 0) rfl .nil) fun w hh => ⟨_, ⟨s9, by simp [LogS.undo, *], rfl, rfl⟩, (((hh.front 4 rfl).front 2 rfl).front 2 rfl).tail.tail.tail⟩
    rintro _ _ ⟨s2, ⟨e2, hm2, rfl⟩, rfl⟩
    refine p_nil ?_; refine g_region ?_; refine go_conv (H' := LogA bl L :: DevA L.d _ :: blk m (.deferred (some [])) :: row bb [ptr bl] 39 :: row b1 [ptr bl] 39 :: Fr) (fun w hh => (((((hh.front 4 rfl).front 2 rfl).front 2 rfl).front 4 rfl).front 4 rfl)) ?_; refine kPv (ev_load Tryz.isAgg39 rfl rfl) rfl ?_
    refine p_call rfl (en_f Tryz.call90 rfl) (ltrunc_ok _ _ bl L _ hL) .free rfl rfl ?_ ?_
    rotate_left
    · rintro _ _ ⟨s9, hm9, rfl, rfl⟩
      exact pan_fn_m (.cons (i := 2) rfl .nil) fun w hh => ⟨_, ⟨s9, by simp [LogS.undo, *], rfl, rfl⟩, (((hh.front 4 rfl).front 4 rfl).front 4 rfl).tail.tail.tail⟩
    rintro _ _ ⟨L3, s3, hm3, rfl, rfl⟩
    refine p_nil ?_; refine go_sub (σ' := []) trivial ?_
    exact end_none_m Tryz.results43 (.cons (i := 2) rfl .nil) (fun w hh => ⟨_, ⟨L3, s3, by simp [LogS.undo, *], rfl, rfl⟩, (((hh.front 4 rfl).front 4 rfl).front 4 rfl).tail.tail.tail⟩)
  · try simp only [decide_eq_true_eq, decide_eq_false_iff_not, Bool.not_eq_true', Bool.not_eq_false', Bool.or_eq_true, Bool.and_eq_true, Bool.and_eq_false_iff, Bool.or_eq_false_iff, beq_iff_eq, bne_iff_ne, beq_eq_false_iff_ne, bne_eq_false_iff_eq, ge_iff_le, gt_iff_lt, ne_eq] at h25
    refine g_skip ?_; refine g_region ?_; refine go_conv (H' := LogA bl L :: DevA L.d _ :: blk m (.deferred (some [])) :: row bb [ptr bl] 39 :: row b1 [ptr bl] 39 :: Fr) (fun w hh => (((((hh.front 4 rfl).front 2 rfl).front 2 rfl).front 4 rfl).front 4 rfl)) ?_; refine kPv (ev_load Tryz.isAgg39 rfl rfl) rfl ?_
    refine p_call rfl (en_f Tryz.call90 rfl) (ltrunc_ok _ _ bl L _ hL) .free rfl rfl ?_ ?_
    rotate_left
    · rintro _ _ ⟨s9, hm9, rfl, rfl⟩
      exact pan_fn_m (.cons (i := 2) rfl .nil) fun w hh => ⟨_, ⟨s9, by simp [LogS.undo, *], rfl, rfl⟩, (((hh.front 4 rfl).front 4 rfl).front 4 rfl).tail.tail.tail⟩
    rintro _ _ ⟨L3, s3, hm3, rfl, rfl⟩
    refine p_nil ?_
    exact end_none_m Tryz.results43 (.cons (i := 2) rfl .nil) (fun w hh => ⟨_, ⟨L3, s3, by simp [LogS.undo, *], rfl, rfl⟩, (((hh.front 4 rfl).front 4 rfl).front 4 rfl).tail.tail.tail⟩)

end Go.Proofs.YtbfheafpecgphaaGreat
