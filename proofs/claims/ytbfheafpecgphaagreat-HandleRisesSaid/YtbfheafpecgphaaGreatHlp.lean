/- Helpers of the laws of layer 7. Conditions: none. -/
import Derived.Test.YtbfheafpecgphaaGreatPln
set_option linter.unusedSimpArgs false
set_option linter.unusedVariables false
set_option linter.unnecessarySimpa false
set_option linter.unusedSectionVars false
namespace Go.Proofs.YtbfheafpecgphaaGreat
set_option linter.unusedSimpArgs false
set_option linter.unusedVariables false
open Go
def mkC (l r s : Int) : Cfg := ⟨1 + r % 6 + 2 + l % 12, 1 + r % 6, 8 + s % 90⟩
theorem mkC_w {l r s : Int} (hl : 0 ≤ l) (hr : 0 ≤ r) (hs : 0 ≤ s) : CfgW (mkC l r s) := ⟨by simp only [mkC]; omega, by simp only [mkC]; omega, by simp only [mkC]; omega, by simp only [mkC]; omega, by simp only [mkC]; omega, by simp only [mkC]; omega⟩
abbrev u16 (x : Int) : Value := .int .u16 x
theorem rem_e {a : Int} (k : Int) (h : 0 ≤ a) : a.tmod k = a % k := Int.tmod_eq_emod_of_nonneg h

theorem make_ok (B : World) (H : List HP) (l r s : Int) (hl : 0 ≤ l) (hr : 0 ≤ r) (hs : 0 ≤ s) :
    ∀ w, Holds B H w → Calls Tryz.prog 100 [.agg #[u16 l, u16 r, u16 s]].toArray w (PureR B H (cfgV (mkC l r s))) := by
  refine fn_enter Tryz.func100 rfl Tryz.ntmps100 rfl ?_; refine g_seq ?_; refine g_region ?_; refine p_chg rfl (ch_boxA rfl) .free rfl rfl ?_
  rintro _ _ ⟨b1, rfl, rfl⟩
  refine p_chg rfl (ch_allocA Tryz.zeroValue30 rfl) .free rfl rfl ?_
  rintro _ _ ⟨b2, rfl, rfl⟩
  refine p_nil ?_; refine g_seq ?_; refine g_region ?_; refine kPv (ev_fa (m := _) fa_24_1 rfl rfl) rfl ?_; refine kPv (ev_load Tryz.isAgg22 rfl rfl) rfl ?_; refine kPv (ev_rem (c := r % 6) rfl rfl (by decide) (rem_e 6 (by omega))) rfl ?_
  first | refine p_val rfl (ev_conv Tryz.runUnderlying22 Tryz.runUnderlying3 rfl (wr64 (by omega))) .free rfl rfl ?_ | refine p_val rfl (ev_conv Tryz.runUnderlying22 Tryz.runUnderlying3 rfl rfl) .free rfl rfl ?_
  first | refine p_val rfl (ev_add rfl rfl (wr64 (by omega))) .free rfl rfl ?_ | refine p_val rfl (ev_add rfl rfl rfl) .free rfl rfl ?_
  refine kPa rfl rfl ?_; refine p_nil ?_; refine g_seq ?_; refine g_region ?_; refine kPm rfl rfl ?_; refine kPm rfl rfl ?_
  first | refine p_val rfl (ev_add rfl rfl (wr64 (by omega))) .free rfl rfl ?_ | refine p_val rfl (ev_add rfl rfl rfl) .free rfl rfl ?_
  refine kPv (ev_fa (m := _) fa_24_0 rfl rfl) rfl ?_; refine kPv (ev_load Tryz.isAgg22 rfl rfl) rfl ?_; refine kPv (ev_rem (c := l % 12) rfl rfl (by decide) (rem_e 12 (by omega))) rfl ?_
  first | refine p_val rfl (ev_conv Tryz.runUnderlying22 Tryz.runUnderlying3 rfl (wr64 (by omega))) .free rfl rfl ?_ | refine p_val rfl (ev_conv Tryz.runUnderlying22 Tryz.runUnderlying3 rfl rfl) .free rfl rfl ?_
  first | refine p_val rfl (ev_add rfl rfl (wr64 (by omega))) .free rfl rfl ?_ | refine p_val rfl (ev_add rfl rfl rfl) .free rfl rfl ?_
  refine kPv (ev_fa (m := _) fa_24_2 rfl rfl) rfl ?_; refine kPv (ev_load Tryz.isAgg22 rfl rfl) rfl ?_; refine kPv (ev_rem (c := s % 90) rfl rfl (by decide) (rem_e 90 (by omega))) rfl ?_
  first | refine p_val rfl (ev_conv Tryz.runUnderlying22 Tryz.runUnderlying3 rfl (wr64 (by omega))) .free rfl rfl ?_ | refine p_val rfl (ev_conv Tryz.runUnderlying22 Tryz.runUnderlying3 rfl rfl) .free rfl rfl ?_
  first | refine p_val rfl (ev_add rfl rfl (wr64 (by omega))) .free rfl rfl ?_ | refine p_val rfl (ev_add rfl rfl rfl) .free rfl rfl ?_
  refine kPv (ev_build rfl (bld_30_1_0_2 _ _ _ rfl rfl rfl)) rfl ?_; refine p_chg0 rfl (ch_storeA (vs := _) Tryz.sizeOf30 rfl rfl rfl rfl rfl) .free rfl ?_
  rintro _ _ rfl
  refine p_nil ?_; refine go_sub (σ' := [(2, _)]) ⟨rfl, trivial⟩ ?_; refine g_ret ?_
  exact ret_1 Tryz.results100 (.cellA rfl Tryz.isAgg30 Tryz.sizeOf30 rfl rfl) (fun w hw => ⟨rfl, hw.tail.tail⟩)

theorem equal_ok (B : World) (H : List HP) (q1 q2 : Option Addr) (c1 c2 : Nat) (xs ys : List Int) (hx : xs.length ≤ 1000000) (hy : ys.length ≤ 1000000) (h1 : ∀ i, i < xs.length → ∃ b off, q1 = some ⟨b, off, none⟩) (h2 : ∀ i, i < ys.length → ∃ b off, q2 = some ⟨b, off, none⟩) (r1 : SlR B H (.slice q1 xs.length c1) (xs.map w64)) (r2 : SlR B H (.slice q2 ys.length c2) (ys.map w64)) :
    ∀ w, Holds B H w → Calls Tryz.prog 26 [.slice q1 xs.length c1, .slice q2 ys.length c2].toArray w (PureR B H (.bool (decide (xs = ys)))) := by
  refine fn_enter Tryz.func26 rfl Tryz.ntmps26 rfl ?_; refine g_seq ?_; refine g_region ?_; refine kPa rfl rfl ?_; refine p_nil ?_; refine g_seq ?_; refine g_seq ?_; refine g_region ?_; refine kPm rfl rfl ?_; refine kPv (ev_len rfl Tryz.runUnderlying31 ⟨_, rfl⟩ rfl) rfl ?_; refine kPm rfl rfl ?_; refine kPv (ev_len rfl Tryz.runUnderlying31 ⟨_, rfl⟩ rfl) rfl ?_; refine kPv (ev_cmp rfl rfl rfl) rfl ?_; refine p_nil ?_
  refine g_if rfl (fun h10 => ?_) (fun h10 => ?_)
  · have hne : xs.length ≠ ys.length := by intro e; rw [e] at h10; simp at h10
    refine g_seq ?_; refine g_region ?_; refine kPa rfl rfl ?_; refine p_nil ?_; refine g_ret ?_
    exact ret_tmp Tryz.results26 rfl (fun w hw => ⟨by rw [decide_eq_false (fun e => hne (by rw [e]))], hw⟩)
  · have hle : xs.length = ys.length := by simp at h10; omega
    refine g_skip ?_; refine g_seq ?_; refine g_seq ?_; refine g_region ?_; refine kPm rfl rfl ?_; refine kPv (ev_len rfl Tryz.runUnderlying31 ⟨_, rfl⟩ rfl) rfl ?_; refine kPm rfl rfl ?_; refine p_nil ?_; refine g_block ?_
    refine g_loop (ι := Nat) (fun k => k ≤ xs.length ∧ ∀ j, j < k → xs[j]? = ys[j]?) (fun k => [(0, .slice q1 xs.length c1), (1, .slice q2 ys.length c2), (4, .bool false), (12, i64 xs.length), (13, i64 k)]) (fun _ => H) (fun k => xs.length - k) 0 ⟨Nat.zero_le _, fun j h => absurd h (Nat.not_lt_zero _)⟩ (fun a w st => st.to ⟨rfl, rfl, rfl, rfl, rfl, trivial⟩ id) ?_
    rintro k ⟨hk1, hk2⟩
    refine g_seq ?_; refine g_region ?_; refine kPv (ev_cmp rfl rfl rfl) rfl ?_; refine p_nil ?_; refine g_seq ?_
    refine g_if rfl (fun h14 => ?_) (fun h14 => ?_)
    · have hk : k < xs.length := by simp at h14; omega
      refine g_skip ?_; refine g_seq ?_; refine g_block ?_; refine g_seq ?_; refine g_region ?_; refine kPm rfl rfl ?_; refine kPa rfl rfl ?_; refine p_nil ?_; refine go_sub (σ' := [(5, _), (13, _), (12, _), (4, _), (0, _), (1, _)]) ⟨rfl, rfl, rfl, rfl, rfl, rfl, trivial⟩ ?_; refine g_seq ?_; refine g_draw Tryz.mixed (by kernel_rfl) (by kernel_rfl) ?_
      obtain ⟨b1, o1, rfl⟩ := h1 k hk
      obtain ⟨b2, o2, rfl⟩ := h2 k (by omega)
      refine kQm rfl rfl ?_; refine kQm rfl rfl ?_; refine kQv (ev_iaS Tryz.runUnderlying31 Tryz.sizeOf52 rfl rfl (by omega) (by omega)) rfl ?_
      refine kQv (ev_loadS (v := w64 xs[k]) Tryz.isAgg52 r1 rfl (by rw [Int.toNat_natCast, List.getElem?_map, List.getElem?_eq_getElem hk]; rfl)) rfl ?_
      refine kQm rfl rfl ?_; refine kQm rfl rfl ?_; refine kQv (ev_iaS Tryz.runUnderlying31 Tryz.sizeOf52 rfl rfl (by omega) (by omega)) rfl ?_
      refine kQv (ev_loadS (v := w64 (ys[k]'(by omega))) Tryz.isAgg52 r2 rfl (by rw [Int.toNat_natCast, List.getElem?_map, List.getElem?_eq_getElem (by omega)]; rfl)) rfl ?_
      refine kQv (ev_cmp rfl rfl rfl) rfl ?_; refine q_nil ?_; refine go_sub (σ' := [(24, _), (13, _), (12, _), (4, _), (0, _), (1, _)]) ⟨rfl, rfl, rfl, rfl, rfl, rfl, trivial⟩ ?_
      refine g_if rfl (fun h24 => ?_) (fun h24 => ?_)
      · have hkk : xs[k]? ≠ ys[k]? := by
          rw [List.getElem?_eq_getElem hk, List.getElem?_eq_getElem (by omega)]
          simpa using h24
        refine g_seq ?_; refine g_region ?_; refine kPa rfl rfl ?_; refine p_nil ?_; refine g_ret ?_
        exact ret_tmp Tryz.results26 rfl (fun w hw => ⟨by rw [decide_eq_false (fun e => hkk (by rw [e]))], hw⟩)
      · have hkk : xs[k]? = ys[k]? := by
          rw [List.getElem?_eq_getElem hk, List.getElem?_eq_getElem (by omega)]
          simpa using h24
        refine g_skip ?_; refine g_region ?_
        first | refine p_val rfl (ev_add rfl rfl (wr64 (by omega))) .free rfl rfl ?_ | refine p_val rfl (ev_add rfl rfl rfl) .free rfl rfl ?_
        refine kPm rfl rfl ?_; refine p_nil ?_
        exact fun a w st => ⟨k + 1, ⟨by omega, fun j hj => by
          rcases Nat.lt_succ_iff_lt_or_eq.1 hj with h | h
          · exact hk2 j h
          · subst h; exact hkk⟩, by omega, st.to ⟨rfl, rfl, rfl, rfl, rfl, trivial⟩ id⟩
    · have hk : ¬ k < xs.length := by simp at h14; omega
      refine g_exit ?_; refine g_seq ?_; refine g_region ?_; refine kPa rfl rfl ?_; refine p_nil ?_; refine go_sub (σ' := [(4, _)]) ⟨rfl, trivial⟩ ?_; refine g_ret ?_
      exact ret_tmp Tryz.results26 rfl (fun w hw => ⟨by
      have e : xs = ys := List.ext_getElem? fun j => by
        by_cases hj : j < k
        · exact hk2 j hj
        · rw [List.getElem?_eq_none (by omega), List.getElem?_eq_none (by omega)]
      rw [decide_eq_true e], hw⟩)

theorem act_lt {c : Cfg} (hc : CfgW c) : c.active < c.words := by
  have hact := hc.act
  have hc1 := hc.r1
  have hc3 := hc.l1
  have h1 := lines_b (n := c.root c.roots) (by simp only [Cfg.root]; omega)
  have h2 := lines_b (n := c.space) (by have := hc.s1; omega)
  have := hc.s1
  simp only [Cfg.words, Cfg.frm, Cfg.root] at *
  omega

theorem make_okc (B : World) (H : List HP) (l r s : Int) (c : Cfg) (hc : c = mkC l r s) (hl : 0 ≤ l) (hr : 0 ≤ r) (hs : 0 ≤ s) : ∀ w, Holds B H w → Calls Tryz.prog 100 [.agg #[u16 l, u16 r, u16 s]].toArray w (PureR B H (cfgV c)) := by subst hc; exact make_ok B H l r s hl hr hs
end Go.Proofs.YtbfheafpecgphaaGreat
