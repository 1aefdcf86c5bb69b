/- The region and its log: what their functions do. Conditions: none. -/
import Derived.Test.YtbfheafpecgphaaGreatNvm
set_option linter.unusedSimpArgs false
set_option linter.unusedVariables false
set_option linter.unnecessarySimpa false
set_option linter.unusedSectionVars false
namespace Go.Proofs.YtbfheafpecgphaaGreat
set_option linter.unusedSimpArgs false
set_option linter.unusedVariables false
open Go
structure Cfg where
  log : Int
  roots : Int
  space : Int
/-- Numbers that may be a config. -/
structure CfgW (c : Cfg) : Prop where
  r1 : 1 ≤ c.roots
  r2 : c.roots ≤ 16
  l1 : c.roots + 2 ≤ c.log
  l2 : c.log ≤ 200
  s1 : 8 ≤ c.space
  s2 : c.space ≤ 4096
def linesI (n : Int) : Int := (n + 7) / 8 * 8
def Cfg.record (_ : Cfg) (i : Int) : Int := 16 + 4 * i
def Cfg.active (c : Cfg) : Int := linesI (c.record c.log)
def Cfg.root (c : Cfg) (i : Int) : Int := c.active + 2 + i
def Cfg.frm (c : Cfg) (s : Int) : Int := linesI (c.root c.roots) + s * linesI c.space
def Cfg.words (c : Cfg) : Int := c.frm 2
abbrev cfgV (c : Cfg) : Value := .agg #[i64 c.log, i64 c.roots, i64 c.space]
theorem quoI {n : Int} (h : 0 ≤ n) (h2 : n ≤ 1000000000) : IntKind.i64.wrap (n.tdiv 8) = n / 8 := by
  rw [Int.tdiv_eq_ediv_of_nonneg h, wr64 (by omega)]
theorem lines_b {n : Int} (h : 0 ≤ n) : n ≤ linesI n ∧ linesI n ≤ n + 7 ∧ linesI n % 8 = 0 := by unfold linesI; omega
theorem CfgW.act {c : Cfg} (h : CfgW c) : 16 + 4 * c.log ≤ c.active ∧ c.active ≤ 16 + 4 * c.log + 7 ∧ c.active % 8 = 0 := by
  have := h.r1; have := h.l1
  exact lines_b (n := 16 + 4 * c.log) (by omega)

theorem lines_ok (B : World) (H : List HP) (n : Int) (h : 0 ≤ n) (h2 : n ≤ 100000000) :
    ∀ w, Holds B H w → Calls Tryz.prog 91 [i64 n].toArray w (PureR B H (i64 (linesI n))) := by
  refine fn_enter Tryz.func91 rfl Tryz.ntmps91 rfl ?_; refine g_seq ?_; refine g_region ?_; refine kPa rfl rfl ?_; refine p_nil ?_; refine g_seq ?_; refine g_region ?_; refine kPm rfl rfl ?_
  first | refine p_val rfl (ev_add rfl rfl (wr64 (by omega))) .free rfl rfl ?_ | refine p_val rfl (ev_add rfl rfl rfl) .free rfl rfl ?_
  refine kPv (ev_sub (c := n + 7) rfl rfl (by rw [wr64 (by omega)]; omega)) rfl ?_
  refine kPv (ev_quo rfl rfl (by decide) (quoI (by omega) (by omega))) rfl ?_
  first | refine p_val rfl (ev_mul rfl rfl (wr64 (by omega))) .free rfl rfl ?_ | refine p_val rfl (ev_mul rfl rfl rfl) .free rfl rfl ?_
  refine kPa rfl rfl ?_; refine p_nil ?_; refine g_ret ?_
  exact ret_tmp Tryz.results91 rfl (fun w hw => ⟨rfl, hw⟩)

theorem record_ok (B : World) (H : List HP) (c : Cfg) (i : Int) (h : 0 ≤ i) (h2 : i ≤ 100000) :
    ∀ w, Holds B H w → Calls Tryz.prog 87 [cfgV c, i64 i].toArray w (PureR B H (i64 (c.record i))) := by
  refine fn_enter Tryz.func87 rfl Tryz.ntmps87 rfl ?_; refine g_seq ?_; refine g_region ?_; refine p_chg rfl (ch_boxA rfl) .free rfl rfl ?_
  rintro _ _ ⟨b2, rfl, rfl⟩
  refine kPa rfl rfl ?_; refine p_nil ?_; refine g_seq ?_; refine g_region ?_; refine kPm rfl rfl ?_
  first | refine p_val rfl (ev_mul rfl rfl (wr64 (by omega))) .free rfl rfl ?_ | refine p_val rfl (ev_mul rfl rfl rfl) .free rfl rfl ?_
  first | refine p_val rfl (ev_add rfl rfl (wr64 (by omega))) .free rfl rfl ?_ | refine p_val rfl (ev_add rfl rfl rfl) .free rfl rfl ?_
  refine kPa rfl rfl ?_; refine p_nil ?_; refine g_ret ?_
  exact ret_tmp Tryz.results87 rfl (fun w hw => ⟨rfl, hw.tail⟩)

theorem active_ok (B : World) (H : List HP) (c : Cfg) (hc : CfgW c) :
    ∀ w, Holds B H w → Calls Tryz.prog 45 [cfgV c].toArray w (PureR B H (i64 c.active)) := by
  refine fn_enter Tryz.func45 rfl Tryz.ntmps45 rfl ?_
  have hc1 := hc.r1
  have hc2 := hc.r2
  have hc3 := hc.l1
  have hc4 := hc.l2
  have hc5 := hc.s1
  have hc6 := hc.s2
  refine g_seq ?_; refine g_region ?_; refine p_chg rfl (ch_boxA rfl) .free rfl rfl ?_
  rintro _ _ ⟨b1, rfl, rfl⟩
  refine kPa rfl rfl ?_; refine p_nil ?_; refine g_seq ?_; refine g_region ?_; refine kPv (ev_loadA Tryz.isAgg30 Tryz.sizeOf30 rfl rfl) rfl ?_; refine kPv (ev_fa (m := _) fa_30_0 rfl rfl) rfl ?_; refine kPv (ev_load Tryz.isAgg3 rfl rfl) rfl ?_; refine p_callq rfl (en_f Tryz.call87 rfl) (record_ok _ _ c _ (by omega) (by omega)) .free rfl rfl ?_; refine p_callq rfl (en_f Tryz.call91 rfl) (lines_ok _ _ _ (by simp only [Cfg.record]; omega) (by simp only [Cfg.record]; omega)) .free rfl rfl ?_
  refine kPa rfl rfl ?_; refine p_nil ?_; refine go_sub (σ' := [(2, _)]) ⟨rfl, trivial⟩ ?_; refine g_ret ?_
  exact ret_tmp Tryz.results45 rfl (fun w hw => ⟨rfl, hw.tail⟩)

theorem root_ok (B : World) (H : List HP) (c : Cfg) (hc : CfgW c) (i : Int) (h : 0 ≤ i) (h2 : i ≤ 100000) :
    ∀ w, Holds B H w → Calls Tryz.prog 71 [cfgV c, i64 i].toArray w (PureR B H (i64 (c.root i))) := by
  refine fn_enter Tryz.func71 rfl Tryz.ntmps71 rfl ?_
  have hc1 := hc.r1
  have hc2 := hc.r2
  have hc3 := hc.l1
  have hc4 := hc.l2
  have hc5 := hc.s1
  have hc6 := hc.s2
  have ha := hc.act
  refine g_seq ?_; refine g_region ?_; refine p_chg rfl (ch_boxA rfl) .free rfl rfl ?_
  rintro _ _ ⟨b2, rfl, rfl⟩
  refine kPa rfl rfl ?_; refine p_nil ?_; refine g_seq ?_; refine g_region ?_; refine kPv (ev_loadA Tryz.isAgg30 Tryz.sizeOf30 rfl rfl) rfl ?_; refine p_callq rfl (en_f Tryz.call45 rfl) (active_ok _ _ c hc) .free rfl rfl ?_
  first | refine p_val rfl (ev_add rfl rfl (wr64 (by omega))) .free rfl rfl ?_ | refine p_val rfl (ev_add rfl rfl rfl) .free rfl rfl ?_
  refine kPm rfl rfl ?_
  first | refine p_val rfl (ev_add rfl rfl (wr64 (by omega))) .free rfl rfl ?_ | refine p_val rfl (ev_add rfl rfl rfl) .free rfl rfl ?_
  refine kPa rfl rfl ?_; refine p_nil ?_; refine go_sub (σ' := [(4, _)]) ⟨rfl, trivial⟩ ?_; refine g_ret ?_
  exact ret_tmp Tryz.results71 rfl (fun w hw => ⟨rfl, hw.tail⟩)

theorem from_ok (B : World) (H : List HP) (c : Cfg) (hc : CfgW c) (i : Int) (h : 0 ≤ i) (h2 : i ≤ 2) :
    ∀ w, Holds B H w → Calls Tryz.prog 46 [cfgV c, i64 i].toArray w (PureR B H (i64 (c.frm i))) := by
  refine fn_enter Tryz.func46 rfl Tryz.ntmps46 rfl ?_
  have hc1 := hc.r1
  have hc2 := hc.r2
  have hc3 := hc.l1
  have hc4 := hc.l2
  have hc5 := hc.s1
  have hc6 := hc.s2
  have ha := hc.act
  have hr : 0 ≤ c.root c.roots ∧ c.root c.roots ≤ 2000 := by simp only [Cfg.root]; omega
  have hl := lines_b hr.1
  have hs := lines_b (n := c.space) (by omega)
  have hm : 0 ≤ i * linesI c.space ∧ i * linesI c.space ≤ 2 * 5000 := ⟨Int.mul_nonneg h (by omega), Int.mul_le_mul h2 (by omega) (by omega) (by omega)⟩
  refine g_seq ?_; refine g_region ?_; refine p_chg rfl (ch_boxA rfl) .free rfl rfl ?_
  rintro _ _ ⟨b2, rfl, rfl⟩
  refine kPa rfl rfl ?_; refine p_nil ?_; refine g_seq ?_; refine g_draw Tryz.mixed (by kernel_rfl) (by kernel_rfl) ?_; refine kQv (ev_loadA Tryz.isAgg30 Tryz.sizeOf30 rfl rfl) rfl ?_; refine kQv (ev_fa (m := _) fa_30_1 rfl rfl) rfl ?_; refine kQv (ev_load Tryz.isAgg3 rfl rfl) rfl ?_; refine q_call rfl (en_f Tryz.call71 rfl) (root_ok _ _ c hc _ (by omega) (by omega)) .free rfl ?_; refine q_call rfl (en_f Tryz.call91 rfl) (lines_ok _ _ _ hr.1 (by have := hr.2; omega)) .free rfl ?_
  refine kQm rfl rfl ?_; refine kQv (ev_fa (m := _) fa_30_2 rfl rfl) rfl ?_; refine kQv (ev_load Tryz.isAgg3 rfl rfl) rfl ?_; refine q_call rfl (en_f Tryz.call91 rfl) (lines_ok _ _ _ (by omega) (by omega)) .free rfl ?_
  first | refine q_val rfl (ev_mul rfl rfl (wr64 (by omega))) .free rfl ?_ | refine q_val rfl (ev_mul rfl rfl rfl) .free rfl ?_
  first | refine q_val rfl (ev_add rfl rfl (wr64 (by omega))) .free rfl ?_ | refine q_val rfl (ev_add rfl rfl rfl) .free rfl ?_
  refine kQa rfl rfl ?_; refine q_nil ?_; refine go_sub (σ' := [(4, _)]) ⟨rfl, trivial⟩ ?_; refine g_ret ?_
  exact ret_tmp Tryz.results46 rfl (fun w hw => ⟨rfl, hw.tail⟩)

theorem cwords_ok (B : World) (H : List HP) (c : Cfg) (hc : CfgW c) :
    ∀ w, Holds B H w → Calls Tryz.prog 44 [cfgV c].toArray w (PureR B H (i64 c.words)) := by
  refine fn_enter Tryz.func44 rfl Tryz.ntmps44 rfl ?_; refine g_seq ?_; refine g_region ?_; refine p_chg rfl (ch_boxA rfl) .free rfl rfl ?_
  rintro _ _ ⟨b1, rfl, rfl⟩
  refine kPa rfl rfl ?_; refine p_nil ?_; refine g_seq ?_; refine g_region ?_; refine kPv (ev_loadA Tryz.isAgg30 Tryz.sizeOf30 rfl rfl) rfl ?_; refine p_callq rfl (en_f Tryz.call46 rfl) (from_ok _ _ c hc _ (by omega) (by omega)) .free rfl rfl ?_; refine kPa rfl rfl ?_; refine p_nil ?_; refine g_ret ?_
  exact ret_tmp Tryz.results44 rfl (fun w hw => ⟨rfl, hw.tail⟩)

theorem cused_ok (B : World) (H : List HP) (c : Cfg) (hc : CfgW c) :
    ∀ w, Holds B H w → Calls Tryz.prog 73 [cfgV c].toArray w (PureR B H (i64 (c.active + 1))) := by
  refine fn_enter Tryz.func73 rfl Tryz.ntmps73 rfl ?_
  have hc1 := hc.r1
  have hc2 := hc.r2
  have hc3 := hc.l1
  have hc4 := hc.l2
  have hc5 := hc.s1
  have hc6 := hc.s2
  have ha := hc.act
  refine g_seq ?_; refine g_region ?_; refine p_chg rfl (ch_boxA rfl) .free rfl rfl ?_
  rintro _ _ ⟨b1, rfl, rfl⟩
  refine kPa rfl rfl ?_; refine p_nil ?_; refine g_seq ?_; refine g_region ?_; refine kPv (ev_loadA Tryz.isAgg30 Tryz.sizeOf30 rfl rfl) rfl ?_; refine p_callq rfl (en_f Tryz.call45 rfl) (active_ok _ _ c hc) .free rfl rfl ?_
  first | refine p_val rfl (ev_add rfl rfl (wr64 (by omega))) .free rfl rfl ?_ | refine p_val rfl (ev_add rfl rfl rfl) .free rfl rfl ?_
  refine kPa rfl rfl ?_; refine p_nil ?_; refine g_ret ?_
  exact ret_tmp Tryz.results73 rfl (fun w hw => ⟨rfl, hw.tail⟩)

instance (c : Cfg) : Decidable (CfgW c) := decidable_of_iff (1 ≤ c.roots ∧ c.roots ≤ 16 ∧ c.roots + 2 ≤ c.log ∧ c.log ≤ 200 ∧ 8 ≤ c.space ∧ c.space ≤ 4096) ⟨fun ⟨a, b, c, d, e, f⟩ => ⟨a, b, c, d, e, f⟩, fun ⟨a, b, c, d, e, f⟩ => ⟨a, b, c, d, e, f⟩⟩
end Go.Proofs.YtbfheafpecgphaaGreat
