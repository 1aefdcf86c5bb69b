/- Helpers of the laws of layer 7. Conditions: none. -/
import Derived.Test.YtbhpbnedocdneaaPln
set_option linter.unusedSimpArgs false
set_option linter.unusedVariables false
set_option linter.unnecessarySimpa false
set_option linter.unusedSectionVars false
namespace Go.Proofs.Ytbhpbnedocdneaa
set_option linter.unusedSimpArgs false
set_option linter.unusedVariables false
open Go
def mkC (l r s : Int) : Cfg := ⟨1 + r % 6 + 2 + l % 12, 1 + r % 6, 8 + s % 90⟩
theorem mkC_w {l r s : Int} (hl : 0 ≤ l) (hr : 0 ≤ r) (hs : 0 ≤ s) : CfgW (mkC l r s) := ⟨by simp only [mkC]; omega, by simp only [mkC]; omega, by simp only [mkC]; omega, by simp only [mkC]; omega, by simp only [mkC]; omega, by simp only [mkC]; omega⟩
abbrev u16 (x : Int) : Value := .int .u16 x
theorem rem_e {a : Int} (k : Int) (h : 0 ≤ a) : a.tmod k = a % k := Int.tmod_eq_emod_of_nonneg h

theorem make_ok (B : World) (H : List HP) (l r s : Int) (hl : 0 ≤ l) (hr : 0 ≤ r) (hs : 0 ≤ s) :
    ∀ w, Holds B H w → Calls Try.prog 43 [.agg #[u16 l, u16 r, u16 s]].toArray w (PureR B H (cfgV (mkC l r s))) := by
  refine fn_enter Try.func43 rfl Try.ntmps43 rfl ?_
  refine g_seq ?_
  refine g_region ?_
  refine p_chg rfl (ch_boxA rfl) .free rfl rfl ?_
  rintro _ _ ⟨b1, rfl, rfl⟩
  refine p_chg rfl (ch_allocA Try.zeroValue38 rfl) .free rfl rfl ?_
  rintro _ _ ⟨b2, rfl, rfl⟩
  refine p_nil ?_
  refine g_seq ?_
  refine g_region ?_
  refine p_val rfl (ev_fa (m := _) fa_24_1 rfl rfl) .free rfl rfl ?_
  refine p_val rfl (ev_load Try.isAgg22 rfl rfl) .free rfl rfl ?_
  refine p_val rfl (ev_rem (c := r % 6) rfl rfl (by decide) (rem_e 6 (by omega))) .free rfl rfl ?_
  first | refine p_val rfl (ev_conv Try.runUnderlying22 Try.runUnderlying3 rfl (wr64 (by omega))) .free rfl rfl ?_ | refine p_val rfl (ev_conv Try.runUnderlying22 Try.runUnderlying3 rfl rfl) .free rfl rfl ?_
  first | refine p_val rfl (ev_add rfl rfl (wr64 (by omega))) .free rfl rfl ?_ | refine p_val rfl (ev_add rfl rfl rfl) .free rfl rfl ?_
  refine p_val rfl (ev_assign rfl) .free rfl rfl ?_
  refine p_nil ?_
  refine g_seq ?_
  refine g_region ?_
  refine p_val rfl (ev_move rfl) .free rfl rfl ?_
  refine p_val rfl (ev_move rfl) .free rfl rfl ?_
  first | refine p_val rfl (ev_add rfl rfl (wr64 (by omega))) .free rfl rfl ?_ | refine p_val rfl (ev_add rfl rfl rfl) .free rfl rfl ?_
  refine p_val rfl (ev_fa (m := _) fa_24_0 rfl rfl) .free rfl rfl ?_
  refine p_val rfl (ev_load Try.isAgg22 rfl rfl) .free rfl rfl ?_
  refine p_val rfl (ev_rem (c := l % 12) rfl rfl (by decide) (rem_e 12 (by omega))) .free rfl rfl ?_
  first | refine p_val rfl (ev_conv Try.runUnderlying22 Try.runUnderlying3 rfl (wr64 (by omega))) .free rfl rfl ?_ | refine p_val rfl (ev_conv Try.runUnderlying22 Try.runUnderlying3 rfl rfl) .free rfl rfl ?_
  first | refine p_val rfl (ev_add rfl rfl (wr64 (by omega))) .free rfl rfl ?_ | refine p_val rfl (ev_add rfl rfl rfl) .free rfl rfl ?_
  refine p_val rfl (ev_fa (m := _) fa_24_2 rfl rfl) .free rfl rfl ?_
  refine p_val rfl (ev_load Try.isAgg22 rfl rfl) .free rfl rfl ?_
  refine p_val rfl (ev_rem (c := s % 90) rfl rfl (by decide) (rem_e 90 (by omega))) .free rfl rfl ?_
  first | refine p_val rfl (ev_conv Try.runUnderlying22 Try.runUnderlying3 rfl (wr64 (by omega))) .free rfl rfl ?_ | refine p_val rfl (ev_conv Try.runUnderlying22 Try.runUnderlying3 rfl rfl) .free rfl rfl ?_
  first | refine p_val rfl (ev_add rfl rfl (wr64 (by omega))) .free rfl rfl ?_ | refine p_val rfl (ev_add rfl rfl rfl) .free rfl rfl ?_
  refine p_val rfl (ev_build rfl (bld_38_1_0_2 _ _ _ rfl rfl rfl)) .free rfl rfl ?_
  refine p_chg0 rfl (ch_storeA (vs := _) Try.sizeOf38 rfl rfl rfl rfl rfl) .free rfl ?_
  rintro _ _ rfl
  refine p_nil ?_
  refine go_sub (σ' := [(2, _)]) ⟨rfl, trivial⟩ ?_
  refine g_ret ?_
  exact ret_1 Try.results43 (.cellA rfl Try.isAgg38 Try.sizeOf38 rfl rfl) (fun w hw => ⟨rfl, hw.tail.tail⟩)

theorem equal_ok (B : World) (H : List HP) (q1 q2 : Option Addr) (c1 c2 : Nat) (xs ys : List Int) (hx : xs.length ≤ 1000000) (hy : ys.length ≤ 1000000) (h1 : ∀ i, i < xs.length → ∃ b off, q1 = some ⟨b, off, none⟩) (h2 : ∀ i, i < ys.length → ∃ b off, q2 = some ⟨b, off, none⟩) (r1 : SlR B H (.slice q1 xs.length c1) (xs.map w64)) (r2 : SlR B H (.slice q2 ys.length c2) (ys.map w64)) :
    ∀ w, Holds B H w → Calls Try.prog 26 [.slice q1 xs.length c1, .slice q2 ys.length c2].toArray w (PureR B H (.bool (decide (xs = ys)))) := by
  refine fn_enter Try.func26 rfl Try.ntmps26 rfl ?_
  refine g_seq ?_
  refine g_region ?_
  refine p_val rfl (ev_assign rfl) .free rfl rfl ?_
  refine p_nil ?_
  refine g_seq ?_
  refine g_seq ?_
  refine g_region ?_
  refine p_val rfl (ev_move rfl) .free rfl rfl ?_
  refine p_val rfl (ev_len rfl Try.runUnderlying39 ⟨_, rfl⟩ rfl) .free rfl rfl ?_
  refine p_val rfl (ev_move rfl) .free rfl rfl ?_
  refine p_val rfl (ev_len rfl Try.runUnderlying39 ⟨_, rfl⟩ rfl) .free rfl rfl ?_
  refine p_val rfl (ev_cmp rfl rfl rfl) .free rfl rfl ?_
  refine p_nil ?_
  refine g_if rfl (fun h10 => ?_) (fun h10 => ?_)
  · have hne : xs.length ≠ ys.length := by intro e; rw [e] at h10; simp at h10
    refine g_seq ?_
    refine g_region ?_
    refine p_val rfl (ev_assign rfl) .free rfl rfl ?_
    refine p_nil ?_
    refine g_ret ?_
    exact ret_tmp Try.results26 rfl (fun w hw => ⟨by rw [decide_eq_false (fun e => hne (by rw [e]))], hw⟩)
  · have hle : xs.length = ys.length := by simp at h10; omega
    refine g_skip ?_
    refine g_seq ?_
    refine g_seq ?_
    refine g_region ?_
    refine p_val rfl (ev_move rfl) .free rfl rfl ?_
    refine p_val rfl (ev_len rfl Try.runUnderlying39 ⟨_, rfl⟩ rfl) .free rfl rfl ?_
    refine p_val rfl (ev_move rfl) .free rfl rfl ?_
    refine p_nil ?_
    refine g_block ?_
    refine g_loop (ι := Nat) (fun k => k ≤ xs.length ∧ ∀ j, j < k → xs[j]? = ys[j]?) (fun k => [(0, .slice q1 xs.length c1), (1, .slice q2 ys.length c2), (4, .bool false), (12, i64 xs.length), (13, i64 k)]) (fun _ => H) (fun k => xs.length - k) 0 ⟨Nat.zero_le _, fun j h => absurd h (Nat.not_lt_zero _)⟩ (fun a w st => st.to ⟨rfl, rfl, rfl, rfl, rfl, trivial⟩ id) ?_
    rintro k ⟨hk1, hk2⟩
    refine g_seq ?_
    refine g_region ?_
    refine p_val rfl (ev_cmp rfl rfl rfl) .free rfl rfl ?_
    refine p_nil ?_
    refine g_seq ?_
    refine g_if rfl (fun h14 => ?_) (fun h14 => ?_)
    · have hk : k < xs.length := by simp at h14; omega
      refine g_skip ?_
      refine g_seq ?_
      refine g_block ?_
      refine g_seq ?_
      refine g_region ?_
      refine p_val rfl (ev_move rfl) .free rfl rfl ?_
      refine p_val rfl (ev_assign rfl) .free rfl rfl ?_
      refine p_nil ?_
      refine go_sub (σ' := [(5, _), (13, _), (12, _), (4, _), (0, _), (1, _)]) ⟨rfl, rfl, rfl, rfl, rfl, rfl, trivial⟩ ?_
      refine g_seq ?_
      refine g_draw Try.mixed (by kernel_rfl) (by kernel_rfl) ?_
      obtain ⟨b1, o1, rfl⟩ := h1 k hk
      obtain ⟨b2, o2, rfl⟩ := h2 k (by omega)
      refine q_val rfl (ev_move rfl) .free rfl ?_
      refine q_val rfl (ev_move rfl) .free rfl ?_
      refine q_val rfl (ev_iaS Try.runUnderlying39 Try.sizeOf46 rfl rfl (by omega) (by omega)) .free rfl ?_
      refine q_val rfl (ev_loadS (v := w64 xs[k]) Try.isAgg46 r1 rfl (by rw [Int.toNat_natCast, List.getElem?_map, List.getElem?_eq_getElem hk]; rfl)) .free rfl ?_
      refine q_val rfl (ev_move rfl) .free rfl ?_
      refine q_val rfl (ev_move rfl) .free rfl ?_
      refine q_val rfl (ev_iaS Try.runUnderlying39 Try.sizeOf46 rfl rfl (by omega) (by omega)) .free rfl ?_
      refine q_val rfl (ev_loadS (v := w64 (ys[k]'(by omega))) Try.isAgg46 r2 rfl (by rw [Int.toNat_natCast, List.getElem?_map, List.getElem?_eq_getElem (by omega)]; rfl)) .free rfl ?_
      refine q_val rfl (ev_cmp rfl rfl rfl) .free rfl ?_
      refine q_nil ?_
      refine go_sub (σ' := [(24, _), (13, _), (12, _), (4, _), (0, _), (1, _)]) ⟨rfl, rfl, rfl, rfl, rfl, rfl, trivial⟩ ?_
      refine g_if rfl (fun h24 => ?_) (fun h24 => ?_)
      · have hkk : xs[k]? ≠ ys[k]? := by
          rw [List.getElem?_eq_getElem hk, List.getElem?_eq_getElem (by omega)]
          simpa using h24
        refine g_seq ?_
        refine g_region ?_
        refine p_val rfl (ev_assign rfl) .free rfl rfl ?_
        refine p_nil ?_
        refine g_ret ?_
        exact ret_tmp Try.results26 rfl (fun w hw => ⟨by rw [decide_eq_false (fun e => hkk (by rw [e]))], hw⟩)
      · have hkk : xs[k]? = ys[k]? := by
          rw [List.getElem?_eq_getElem hk, List.getElem?_eq_getElem (by omega)]
          simpa using h24
        refine g_skip ?_
        refine g_region ?_
        first | refine p_val rfl (ev_add rfl rfl (wr64 (by omega))) .free rfl rfl ?_ | refine p_val rfl (ev_add rfl rfl rfl) .free rfl rfl ?_
        refine p_val rfl (ev_move rfl) .free rfl rfl ?_
        refine p_nil ?_
        exact fun a w st => ⟨k + 1, ⟨by omega, fun j hj => by
          rcases Nat.lt_succ_iff_lt_or_eq.1 hj with h | h
          · exact hk2 j h
          · subst h; exact hkk⟩, by omega, st.to ⟨rfl, rfl, rfl, rfl, rfl, trivial⟩ id⟩
    · have hk : ¬ k < xs.length := by simp at h14; omega
      refine g_exit ?_
      refine g_seq ?_
      refine g_region ?_
      refine p_val rfl (ev_assign rfl) .free rfl rfl ?_
      refine p_nil ?_
      refine go_sub (σ' := [(4, _)]) ⟨rfl, trivial⟩ ?_
      refine g_ret ?_
      exact ret_tmp Try.results26 rfl (fun w hw => ⟨by
      have e : xs = ys := List.ext_getElem? fun j => by
        by_cases hj : j < k
        · exact hk2 j hj
        · rw [List.getElem?_eq_none (by omega), List.getElem?_eq_none (by omega)]
      rw [decide_eq_true e], hw⟩)

theorem words7_ok (B : World) (Fr : List HP) (b : Nat) (s : Dev) (c : Cfg) (hc : CfgW c) (hn : (s.n : Int) = c.words) :
    ∀ w, Holds B (DevA b s :: Fr) w → Calls Try.prog 21 [ptr b, cfgV c].toArray w (Ret B (fun rv H' => ∃ bw rest, rv = .slice (some ⟨bw, c.active.toNat, none⟩) (s.n - c.active.toNat) (s.n + rest.length - c.active.toNat) ∧ H' = row bw (tab s.n (fun i => w64 (s.now i)) ++ rest) 46 :: DevA b s :: Fr) (fun _ _ => False)) := by
  refine fn_enter Try.func21 rfl Try.ntmps21 rfl ?_
  have hact := hc.act
  have hwb := words_b hc
  have hc1 := hc.r1
  have hc3 := hc.l1
  have hlt : c.active < c.words := by
    have h1 := lines_b (n := c.root c.roots) (by simp only [Cfg.root]; omega)
    have h2 := lines_b (n := c.space) (by have := hc.s1; omega)
    have := hc.s1
    simp only [Cfg.words, Cfg.frm, Cfg.root] at *
    omega
  refine go_front 0 rfl ?_
  refine g_seq ?_
  refine g_region ?_
  refine p_chg rfl (ch_boxA rfl) .free rfl rfl ?_
  rintro _ _ ⟨b3, rfl, rfl⟩
  refine p_val rfl (ev_assign rfl) .free rfl rfl ?_
  refine p_nil ?_
  refine g_seq ?_
  refine g_region ?_
  refine go_conv (H' := DevA b s :: row b3 [i64 c.log, i64 c.roots, i64 c.space] 38 :: Fr) (fun w hh => hh.front 1 rfl) ?_
  refine p_val rfl (ev_move rfl) .free rfl rfl ?_
  refine p_call rfl (en_f Try.call27 rfl) (nwords_ok _ _ _ _) .free rfl rfl ?_ ?_
  rotate_left
  · rintro _ _ ⟨⟩
  rintro _ _ ⟨bw, rest, rfl, rfl⟩
  refine p_val rfl (ev_assign rfl) .free rfl rfl ?_
  refine p_nil ?_
  refine g_seq ?_
  refine g_seq ?_
  refine g_region ?_
  refine p_val rfl (ev_move rfl) .free rfl rfl ?_
  refine p_val rfl (ev_len rfl Try.runUnderlying39 ⟨_, rfl⟩ rfl) .free rfl rfl ?_
  refine p_val rfl (ev_loadA Try.isAgg38 Try.sizeOf38 rfl rfl) .free rfl rfl ?_
  refine p_callq rfl (en_f Try.call13 rfl) (cwords_ok _ _ c hc) .free rfl rfl ?_
  refine p_val rfl (ev_cmp rfl rfl rfl) .free rfl rfl ?_
  refine p_nil ?_
  refine go_sub (σ' := [(12, _), (5, _), (4, _), (3, _)]) ⟨rfl, rfl, rfl, rfl, trivial⟩ ?_
  refine g_iff rfl (by simp; omega) ?_
  refine g_skip ?_
  refine g_seq ?_
  refine g_region ?_
  refine p_val rfl (ev_move rfl) .free rfl rfl ?_
  refine p_val rfl (ev_loadA Try.isAgg38 Try.sizeOf38 rfl rfl) .free rfl rfl ?_
  refine p_callq rfl (en_f Try.call12 rfl) (active_ok _ _ c hc) .free rfl rfl ?_
  refine p_val rfl (ev_slice (l := c.active.toNat) (h := s.n) (m := c.active.toNat) Try.runUnderlying39 Try.sizeOf46 rfl (.yesi rfl (by omega)) .no (by omega) (by omega) (.inl (by omega)) (by omega)) .free rfl rfl ?_
  refine p_val rfl (ev_assign rfl) .free rfl rfl ?_
  refine p_nil ?_
  refine go_sub (σ' := [(4, _)]) ⟨rfl, trivial⟩ ?_
  refine g_ret ?_
  exact ret_tmp Try.results21 rfl (fun w hh => ⟨_, ⟨bw, rest, rfl, rfl⟩, ((hh.front 2 rfl).tail)⟩)

theorem act_lt {c : Cfg} (hc : CfgW c) : c.active < c.words := by
  have hact := hc.act
  have hc1 := hc.r1
  have hc3 := hc.l1
  have h1 := lines_b (n := c.root c.roots) (by simp only [Cfg.root]; omega)
  have h2 := lines_b (n := c.space) (by have := hc.s1; omega)
  have := hc.s1
  simp only [Cfg.words, Cfg.frm, Cfg.root] at *
  omega

theorem make_okc (B : World) (H : List HP) (l r s : Int) (c : Cfg) (hc : c = mkC l r s) (hl : 0 ≤ l) (hr : 0 ≤ r) (hs : 0 ≤ s) : ∀ w, Holds B H w → Calls Try.prog 43 [.agg #[u16 l, u16 r, u16 s]].toArray w (PureR B H (cfgV c)) := by subst hc; exact make_ok B H l r s hl hr hs
theorem start_ok (B : World) (Fr : List HP) (l r s : Int) (hl : 0 ≤ l) (hr : 0 ≤ r) (hs : 0 ≤ s) (c : Cfg) (hcm : c = mkC l r s) (q : Option Addr) (cap : Nat) (xs : List Int) (hx : xs.length ≤ 100000) (hq : ∀ i, i < xs.length → ∃ b off, q = some ⟨b, off, none⟩) (hsl : SlR B Fr (.slice q xs.length cap) (xs.map w64)) :
    ∀ w, Holds B Fr w → Calls Try.prog 10 [.agg #[u16 l, u16 r, u16 s], .slice q xs.length cap].toArray w (Ret B (fun rv H' => ∃ (bd bs bm bc : Nat) (s0 : Dev) (rest : List Value), Fmt c s0.n s0 ∧ (s0.n : Int) = c.words ∧ rv = .tuple #[ptr bd, ptr bs, ptr bm] ∧ H' = row bm [i64 c.log, i64 c.roots, i64 c.space, .slice (some ⟨bc, 0, none⟩) (s0.n - c.active.toNat) ((s0.n - c.active.toNat) + rest.length), .slice none 0 0, .slice none 0 0, .bool false, i64 0, i64 0] 42 :: row bc (tab (s0.n - c.active.toNat) (fun i => w64 (s0.now (c.active.toNat + i))) ++ rest) 46 :: SecC bs ⟨openL bd c s0, 0, 0, [], []⟩ :: DevA bd s0 :: Fr) (fun _ _ => False)) := by
  refine fn_enter Try.func10 rfl Try.ntmps10 rfl ?_
  have hc : CfgW c := by rw [hcm]; exact mkC_w hl hr hs
  have hlt := act_lt hc
  have hact := hc.act
  have hwb := words_b hc
  refine g_seq ?_
  refine g_region ?_
  refine p_chg rfl (ch_boxA rfl) .free rfl rfl ?_
  rintro _ _ ⟨b2, rfl, rfl⟩
  refine p_val rfl (ev_assign rfl) .free rfl rfl ?_
  refine p_val rfl (ev_assign rfl) .free rfl rfl ?_
  refine p_val rfl (ev_assign rfl) .free rfl rfl ?_
  refine p_nil ?_
  refine g_seq ?_
  refine g_region ?_
  refine p_val rfl (ev_loadA Try.isAgg24 Try.sizeOf24 rfl rfl) .free rfl rfl ?_
  refine p_callq rfl (en_f Try.call43 rfl) (make_okc _ _ l r s c hcm hl hr hs) .free rfl rfl ?_
  refine p_chg rfl (ch_allocA Try.zeroValue38 rfl) .free rfl rfl ?_
  rintro _ _ ⟨b7, rfl, rfl⟩
  refine p_chg0 rfl (ch_storeA (vs := _) Try.sizeOf38 rfl rfl rfl rfl rfl) .free rfl ?_
  rintro _ _ rfl
  refine p_nil ?_
  refine g_seq ?_
  refine g_region ?_
  refine p_val rfl (ev_loadA Try.isAgg38 Try.sizeOf38 rfl rfl) .free rfl rfl ?_
  refine p_val rfl (ev_move rfl) .free rfl rfl ?_
  refine p_call rfl (en_f Try.call41 rfl) (formatted_ok _ _ c hc q cap xs hx hq ((hsl.cons _).cons _)) .free rfl rfl ?_ ?_
  rotate_left
  · rintro _ _ ⟨⟩
  rintro _ _ ⟨bd, pa, N, s0, hN, hf, rfl, rfl⟩
  have hfm := fmt_of hc hN hf
  have hn : (s0.n : Int) = c.words := by rw [hfm.n]; exact hN
  refine p_val rfl (ev_move rfl) .free rfl rfl ?_
  refine p_val rfl (ev_ext rfl rfl) .free rfl rfl ?_
  refine p_val rfl (ev_ext rfl rfl) .free rfl rfl ?_
  refine p_val rfl (ev_assign rfl) .free rfl rfl ?_
  refine p_val rfl (ev_assign rfl) .free rfl rfl ?_
  refine p_nil ?_
  refine go_sub (σ' := [(9, _), (8, _), (7, _), (6, _), (5, _), (4, _)]) ⟨rfl, rfl, rfl, rfl, rfl, rfl, trivial⟩ ?_
  refine g_seq ?_
  refine g_seq ?_
  refine g_region ?_
  refine p_val rfl (ev_move rfl) .free rfl rfl ?_
  refine p_val rfl (ev_not rfl) .free rfl rfl ?_
  refine p_nil ?_
  refine g_iff rfl (rfl) ?_
  refine g_skip ?_
  refine g_seq ?_
  refine g_region ?_
  refine p_val rfl (ev_move rfl) .free rfl rfl ?_
  refine p_val rfl (ev_loadA Try.isAgg38 Try.sizeOf38 rfl rfl) .free rfl rfl ?_
  refine p_call rfl (en_f Try.call42 rfl) (snew_ok _ _ _ _ c hc) .free rfl rfl ?_ ?_
  rotate_left
  · rintro _ _ ⟨⟩
  rintro _ _ ⟨b10, rfl, rfl⟩
  refine p_val rfl (ev_assign rfl) .free rfl rfl ?_
  refine p_nil ?_
  refine g_seq ?_
  refine g_seq ?_
  refine g_region ?_
  refine go_secC fun bl o1 o2 => ?_
  refine p_val rfl (ev_move rfl) .free rfl rfl ?_
  refine p_val rfl (ev_eqp Try.runUnderlying28 rfl rfl rfl) .free rfl rfl ?_
  refine p_val rfl (ev_move rfl) .free rfl rfl ?_
  refine p_val rfl (ev_move rfl) (.on rfl rfl (beq_eq rfl)) rfl rfl ?_
  first | refine p_val rfl (ev_nil rfl) (.on rfl rfl (beq_eq rfl)) rfl rfl ?_ | refine p_val rfl (ev_nilf rfl) (.on rfl rfl (beq_eq rfl)) rfl rfl ?_
  refine p_val rfl (ev_fa (m := _) fa_51_0 rfl rfl) (.on rfl rfl (beq_eq rfl)) rfl rfl ?_
  refine p_val rfl (ev_load Try.isAgg48 rfl rfl) (.on rfl rfl (beq_eq rfl)) rfl rfl ?_
  refine p_val rfl (ev_eqp Try.runUnderlying48 rfl rfl rfl) (.on rfl rfl (beq_eq rfl)) rfl rfl ?_
  refine p_val rfl (ev_pick_f rfl rfl rfl) .free rfl rfl ?_
  refine p_nil ?_
  refine go_sub (σ' := [(32, _), (10, _), (8, _), (7, _), (6, _), (5, _), (4, _)]) ⟨rfl, rfl, rfl, rfl, rfl, rfl, rfl, trivial⟩ ?_
  refine g_iff rfl (rfl) ?_
  refine g_skip ?_
  refine g_seq ?_
  refine go_conv (H' := pr True :: pr True :: pr True :: DevA bd s0 :: row b7 [i64 c.log, i64 c.roots, i64 c.space] 38 :: SecC b10 ⟨openL bd c s0, 0, 0, [], []⟩ :: row b2 [u16 l, u16 r, u16 s] 24 :: Fr) (fun w hh => ((((((secC_holds (S := ⟨openL bd c s0, 0, 0, [], []⟩) hh).front 0 rfl).front 2 rfl).front 2 rfl).unpr trivial).unpr trivial).unpr trivial) ?_
  refine go_sub (σ' := [(7, ptr b7), (8, ptr bd), (10, ptr b10)]) ⟨rfl, rfl, rfl, trivial⟩ ?_
  refine g_anyg (G := Nat × List Value × Nat × List Value × Nat) [7, 8, 10] (fun g i => match i with | 0 => ptr bd | 1 => ptr b10 | 2 => cfgV c | 3 => ptr bd | 4 => cfgV c | 5 => .slice (some ⟨g.1, c.active.toNat, none⟩) (s0.n - c.active.toNat) (s0.n + g.2.1.length - c.active.toNat) | 6 => .slice (some ⟨g.2.2.1, 0, none⟩) (s0.n - c.active.toNat) ((s0.n - c.active.toNat) + g.2.2.2.1.length) | 7 => .agg #[i64 c.log, i64 c.roots, i64 c.space, .slice (some ⟨g.2.2.1, 0, none⟩) (s0.n - c.active.toNat) ((s0.n - c.active.toNat) + g.2.2.2.1.length), .slice none 0 0, .slice none 0 0, .bool false, i64 0, i64 0] | 8 => ptr g.2.2.2.2 | 9 => ptr bd | 10 => ptr b10 | 11 => ptr g.2.2.2.2 | _ => undef) (fun L g => (if (L.getD 5 false) = true then row g.1 (tab s0.n (fun i => w64 (s0.now i)) ++ g.2.1) 46 else pr True) :: (if (L.getD 6 false) = true then row g.2.2.1 (tab (s0.n - c.active.toNat) (fun i => w64 (s0.now (c.active.toNat + i))) ++ g.2.2.2.1) 46 else pr True) :: (if (L.getD 8 false) = true then row g.2.2.2.2 [i64 c.log, i64 c.roots, i64 c.space, .slice (some ⟨g.2.2.1, 0, none⟩) (s0.n - c.active.toNat) ((s0.n - c.active.toNat) + g.2.2.2.1.length), .slice none 0 0, .slice none 0 0, .bool false, i64 0, i64 0] 42 else pr True) :: DevA bd s0 :: row b7 [i64 c.log, i64 c.roots, i64 c.space] 38 :: SecC b10 ⟨openL bd c s0, 0, 0, [], []⟩ :: row b2 [u16 l, u16 r, u16 s] 24 :: Fr) (0, [], 0, [], 0) (fun g => [(4, ptr bd), (5, ptr b10), (6, ptr g.2.2.2.2)]) (fun g => row g.1 (tab s0.n (fun i => w64 (s0.now i)) ++ g.2.1) 46 :: row g.2.2.1 (tab (s0.n - c.active.toNat) (fun i => w64 (s0.now (c.active.toNat + i))) ++ g.2.2.2.1) 46 :: row g.2.2.2.2 [i64 c.log, i64 c.roots, i64 c.space, .slice (some ⟨g.2.2.1, 0, none⟩) (s0.n - c.active.toNat) ((s0.n - c.active.toNat) + g.2.2.2.1.length), .slice none 0 0, .slice none 0 0, .bool false, i64 0, i64 0] 42 :: DevA bd s0 :: row b7 [i64 c.log, i64 c.roots, i64 c.space] 38 :: SecC b10 ⟨openL bd c s0, 0, 0, [], []⟩ :: row b2 [u16 l, u16 r, u16 s] 24 :: Fr) Try.mixed (by kernel_rfl) (fun t v h => look_mem h) rfl ?_ ?_ ?_
  · intro i o ho L g hsz hun hcl hdep a hk hd w hw
    have hi : i < 12 := (Array.getElem?_eq_some_iff.1 ho).1
    have hL : L.size = 12 := hsz
    obtain rfl | rfl | rfl | rfl | rfl | rfl | rfl | rfl | rfl | rfl | rfl | rfl : i = 0 ∨ i = 1 ∨ i = 2 ∨ i = 3 ∨ i = 4 ∨ i = 5 ∨ i = 6 ∨ i = 7 ∨ i = 8 ∨ i = 9 ∨ i = 10 ∨ i = 11 := by omega
    · obtain rfl := Option.some.inj (show some _ = some o from ho)
      have hk' := hk
      have hun' : L.getD 0 false = false := getD_both hun
      refine doz_val (v := ptr bd) ?_ hk' hw ⟨g, fun _ => rfl, fun _ _ _ => rfl, by simpa only [getD_set_ne false (show (0 : Nat) ≠ 5 by decide), getD_set_ne false (show (0 : Nat) ≠ 6 by decide), getD_set_ne false (show (0 : Nat) ≠ 8 by decide)] using hw⟩
      first | exact ev_move rfl | exact Evs.eq (ev_move rfl) rfl
    · obtain rfl := Option.some.inj (show some _ = some o from ho)
      have hk' := hk
      have hun' : L.getD 1 false = false := getD_both hun
      refine doz_val (v := ptr b10) ?_ hk' hw ⟨g, fun _ => rfl, fun _ _ _ => rfl, by simpa only [getD_set_ne false (show (1 : Nat) ≠ 5 by decide), getD_set_ne false (show (1 : Nat) ≠ 6 by decide), getD_set_ne false (show (1 : Nat) ≠ 8 by decide)] using hw⟩
      first | exact ev_move rfl | exact Evs.eq (ev_move rfl) rfl
    · obtain rfl := Option.some.inj (show some _ = some o from ho)
      have hk' := hk
      have hun' : L.getD 2 false = false := getD_both hun
      refine doz_val (v := cfgV c) ?_ hk' hw ⟨g, fun _ => rfl, fun _ _ _ => rfl, by simpa only [getD_set_ne false (show (2 : Nat) ≠ 5 by decide), getD_set_ne false (show (2 : Nat) ≠ 6 by decide), getD_set_ne false (show (2 : Nat) ≠ 8 by decide)] using hw⟩
      first | exact ev_loadA Try.isAgg38 Try.sizeOf38 rfl rfl | exact Evs.eq (ev_loadA Try.isAgg38 Try.sizeOf38 rfl rfl) rfl
    · obtain rfl := Option.some.inj (show some _ = some o from ho)
      have hk' := hk
      have hun' : L.getD 3 false = false := getD_both hun
      refine doz_val (v := ptr bd) ?_ hk' hw ⟨g, fun _ => rfl, fun _ _ _ => rfl, by simpa only [getD_set_ne false (show (3 : Nat) ≠ 5 by decide), getD_set_ne false (show (3 : Nat) ≠ 6 by decide), getD_set_ne false (show (3 : Nat) ≠ 8 by decide)] using hw⟩
      first | exact ev_move rfl | exact Evs.eq (ev_move rfl) rfl
    · obtain rfl := Option.some.inj (show some _ = some o from ho)
      have hk' := hk
      have hun' : L.getD 4 false = false := getD_both hun
      refine doz_val (v := cfgV c) ?_ hk' hw ⟨g, fun _ => rfl, fun _ _ _ => rfl, by simpa only [getD_set_ne false (show (4 : Nat) ≠ 5 by decide), getD_set_ne false (show (4 : Nat) ≠ 6 by decide), getD_set_ne false (show (4 : Nat) ≠ 8 by decide)] using hw⟩
      first | exact ev_loadA Try.isAgg38 Try.sizeOf38 rfl rfl | exact Evs.eq (ev_loadA Try.isAgg38 Try.sizeOf38 rfl rfl) rfl
    · obtain rfl := Option.some.inj (show some _ = some o from ho)
      have d3_data : L.getD 3 false = true := hdep ⟨3, .data⟩ (by simp) rfl
      have d3 := d3_data
      have d4_data : L.getD 4 false = true := hdep ⟨4, .data⟩ (by simp) rfl
      have d4 := d4_data
      have v3 : a.tmps[36]? = some (ptr bd) := hd 3 _ 36 rfl rfl d3
      have v4 : a.tmps[37]? = some (cfgV c) := hd 4 _ 37 rfl rfl d4
      have hk' := (knows_cons v4 (knows_cons v3 hk))
      have hun' : L.getD 5 false = false := getD_both hun
      simp only [hun'] at hw
      refine doz_call (en_f Try.call21 rfl) (words7_ok B _ bd s0 c hc hn) hk' (((hw.front 0 rfl).front 3 rfl)) ?_
      rintro v H' ⟨bw, rest, rfl, rfl⟩ w' hw'
      refine ⟨(bw, rest, g.2.2), fun _ => rfl, fun j hj hl => ?_, ?_⟩
      · match j with
        | 5 => exact absurd rfl hj
        | 0 | 1 | 2 | 3 | 4 | 6 | 7 | 8 | 9 | 10 | 11 => rfl
        | _ + 12 => rfl
      · simp only [getD_set_ne false (show (5 : Nat) ≠ 6 by decide), getD_set_ne false (show (5 : Nat) ≠ 8 by decide), getD_set_eq (show 5 < L.size by omega)]
        simp only [if_true]
        exact (((((hw'.front 2 rfl).tail.front 1 rfl).front 3 rfl).front 3 rfl).front 3 rfl)
    · obtain rfl := Option.some.inj (show some _ = some o from ho)
      have d5_data : L.getD 5 false = true := hdep ⟨5, .data⟩ (by simp) rfl
      have d5 := d5_data
      have d5_chain : L.getD 5 false = true := hdep ⟨5, .chain⟩ (by simp) rfl
      have d5 := d5_chain
      have v5 : a.tmps[38]? = some (.slice (some ⟨g.1, c.active.toNat, none⟩) (s0.n - c.active.toNat) (s0.n + g.2.1.length - c.active.toNat)) := hd 5 _ 38 rfl rfl d5
      have hk' := (knows_cons v5 hk)
      have hun' : L.getD 6 false = false := getD_both hun
      have n7 : L.getD 7 false = false := by
        cases h : L.getD 7 false with
        | false => rfl
        | true => have h2 := hcl 7 _ rfl h ⟨6, .data⟩ (by simp) rfl; rw [hun'] at h2; cases h2
      simp only [hun', d5, if_true] at hw
      refine doz_call (en_f Try.call34 rfl) (clone64_ok B _ _ _ _ (tab (s0.n - c.active.toNat) (fun i => w64 (s0.now (c.active.toNat + i)))) (by simp) (by rw [tab_len]; omega) (by simp [tab, cell1]) (SlR.row (U := _) (by rw [List.drop_append_of_le_length (by rw [tab_len]; omega), List.take_append_of_le_length (by rw [List.length_drop, tab_len]; omega)]; exact tab_slice (by omega)) (by rw [tab_len]))) hk' hw ?_
      rintro v H' ⟨bc, rest, rfl, rfl⟩ w' hw'
      refine ⟨(g.1, g.2.1, bc, rest, g.2.2.2.2), fun _ => rfl, fun j hj hl => ?_, ?_⟩
      · match j with
        | 6 => exact absurd rfl hj
        | 0 | 1 | 2 | 3 | 4 | 5 | 8 | 9 | 10 | 11 => rfl
        | 7 => exact (absurd hl (by rw [n7]; decide))
        | _ + 12 => rfl
      · have n8 : L.getD 8 false = false := by
          cases h : L.getD 8 false with
          | false => rfl
          | true => have h2 := hcl 8 _ rfl h ⟨7, .data⟩ (by simp) rfl; rw [n7] at h2; cases h2
        simp only [getD_set_ne false (show (6 : Nat) ≠ 5 by decide), getD_set_ne false (show (6 : Nat) ≠ 8 by decide), getD_set_eq (show 6 < L.size by omega)]
        simp only [d5, n8, if_true] at hw' ⊢
        exact (((hw'.front 2 rfl).tail.front 0 rfl).front 1 rfl)
    · obtain rfl := Option.some.inj (show some _ = some o from ho)
      have d2_data : L.getD 2 false = true := hdep ⟨2, .data⟩ (by simp) rfl
      have d2 := d2_data
      have d6_data : L.getD 6 false = true := hdep ⟨6, .data⟩ (by simp) rfl
      have d6 := d6_data
      have v2 : a.tmps[35]? = some (cfgV c) := hd 2 _ 35 rfl rfl d2
      have v6 : a.tmps[39]? = some (.slice (some ⟨g.2.2.1, 0, none⟩) (s0.n - c.active.toNat) ((s0.n - c.active.toNat) + g.2.2.2.1.length)) := hd 6 _ 39 rfl rfl d6
      have hk' := (knows_cons v6 (knows_cons v2 hk))
      have hun' : L.getD 7 false = false := getD_both hun
      refine doz_val (v := .agg #[i64 c.log, i64 c.roots, i64 c.space, .slice (some ⟨g.2.2.1, 0, none⟩) (s0.n - c.active.toNat) ((s0.n - c.active.toNat) + g.2.2.2.1.length), .slice none 0 0, .slice none 0 0, .bool false, i64 0, i64 0]) ?_ hk' hw ⟨g, fun _ => rfl, fun _ _ _ => rfl, by simpa only [getD_set_ne false (show (7 : Nat) ≠ 5 by decide), getD_set_ne false (show (7 : Nat) ≠ 6 by decide), getD_set_ne false (show (7 : Nat) ≠ 8 by decide)] using hw⟩
      first | exact ev_build rfl (bld_42_0_1 _ _ _ _ rfl) | exact Evs.eq (ev_build rfl (bld_42_0_1 _ _ _ _ rfl)) rfl
    · obtain rfl := Option.some.inj (show some _ = some o from ho)
      have d7_data : L.getD 7 false = true := hdep ⟨7, .data⟩ (by simp) rfl
      have d7 := d7_data
      have v7 : a.tmps[40]? = some (.agg #[i64 c.log, i64 c.roots, i64 c.space, .slice (some ⟨g.2.2.1, 0, none⟩) (s0.n - c.active.toNat) ((s0.n - c.active.toNat) + g.2.2.2.1.length), .slice none 0 0, .slice none 0 0, .bool false, i64 0, i64 0]) := hd 7 _ 40 rfl rfl d7
      have hk' := (knows_cons v7 hk)
      have hun' : L.getD 8 false = false := getD_both hun
      have n11 : L.getD 11 false = false := by
        cases h : L.getD 11 false with
        | false => rfl
        | true => have h2 := hcl 11 _ rfl h ⟨8, .data⟩ (by simp) rfl; rw [hun'] at h2; cases h2
      simp only [hun'] at hw
      refine doz_chg (ch_boxA rfl) hk' hw ?_
      rintro v H' ⟨bm, rfl, rfl⟩ w' hw'
      refine ⟨(g.1, g.2.1, g.2.2.1, g.2.2.2.1, bm), fun _ => rfl, fun j hj hl => ?_, ?_⟩
      · match j with
        | 8 => exact absurd rfl hj
        | 0 | 1 | 2 | 3 | 4 | 5 | 6 | 7 | 9 | 10 => rfl
        | 11 => exact (absurd hl (by rw [n11]; decide))
        | _ + 12 => rfl
      · simp only [getD_set_ne false (show (8 : Nat) ≠ 5 by decide), getD_set_ne false (show (8 : Nat) ≠ 6 by decide), getD_set_eq (show 8 < L.size by omega)]
        simp only [if_true] at hw' ⊢
        exact ((((hw'.front 3 rfl).tail.front 0 rfl).front 2 rfl).front 2 rfl)
    · obtain rfl := Option.some.inj (show some _ = some o from ho)
      have d0_data : L.getD 0 false = true := hdep ⟨0, .data⟩ (by simp) rfl
      have d0 := d0_data
      have d6_chain : L.getD 6 false = true := hdep ⟨6, .chain⟩ (by simp) rfl
      have d6 := d6_chain
      have d0_phase : L.getD 0 false = true := hdep ⟨0, .phase⟩ (by simp) rfl
      have d0 := d0_phase
      have v0 : a.tmps[33]? = some (ptr bd) := hd 0 _ 33 rfl rfl d0
      have hk' := (knows_cons v0 hk)
      have hun' : L.getD 9 false = false := getD_both hun
      refine doz_val (v := ptr bd) ?_ hk' hw ⟨g, fun _ => rfl, fun _ _ _ => rfl, by simpa only [getD_set_ne false (show (9 : Nat) ≠ 5 by decide), getD_set_ne false (show (9 : Nat) ≠ 6 by decide), getD_set_ne false (show (9 : Nat) ≠ 8 by decide)] using hw⟩
      first | exact ev_assign rfl | exact Evs.eq (ev_assign rfl) rfl
    · obtain rfl := Option.some.inj (show some _ = some o from ho)
      have d1_data : L.getD 1 false = true := hdep ⟨1, .data⟩ (by simp) rfl
      have d1 := d1_data
      have d1_phase : L.getD 1 false = true := hdep ⟨1, .phase⟩ (by simp) rfl
      have d1 := d1_phase
      have v1 : a.tmps[34]? = some (ptr b10) := hd 1 _ 34 rfl rfl d1
      have hk' := (knows_cons v1 hk)
      have hun' : L.getD 10 false = false := getD_both hun
      refine doz_val (v := ptr b10) ?_ hk' hw ⟨g, fun _ => rfl, fun _ _ _ => rfl, by simpa only [getD_set_ne false (show (10 : Nat) ≠ 5 by decide), getD_set_ne false (show (10 : Nat) ≠ 6 by decide), getD_set_ne false (show (10 : Nat) ≠ 8 by decide)] using hw⟩
      first | exact ev_assign rfl | exact Evs.eq (ev_assign rfl) rfl
    · obtain rfl := Option.some.inj (show some _ = some o from ho)
      have d8_data : L.getD 8 false = true := hdep ⟨8, .data⟩ (by simp) rfl
      have d8 := d8_data
      have d5_phase : L.getD 5 false = true := hdep ⟨5, .phase⟩ (by simp) rfl
      have d5 := d5_phase
      have d6_phase : L.getD 6 false = true := hdep ⟨6, .phase⟩ (by simp) rfl
      have d6 := d6_phase
      have d8_phase : L.getD 8 false = true := hdep ⟨8, .phase⟩ (by simp) rfl
      have d8 := d8_phase
      have v8 : a.tmps[41]? = some (ptr g.2.2.2.2) := hd 8 _ 41 rfl rfl d8
      have hk' := (knows_cons v8 hk)
      have hun' : L.getD 11 false = false := getD_both hun
      refine doz_val (v := ptr g.2.2.2.2) ?_ hk' hw ⟨g, fun _ => rfl, fun _ _ _ => rfl, by simpa only [getD_set_ne false (show (11 : Nat) ≠ 5 by decide), getD_set_ne false (show (11 : Nat) ≠ 6 by decide), getD_set_ne false (show (11 : Nat) ≠ 8 by decide)] using hw⟩
      first | exact ev_assign rfl | exact Evs.eq (ev_assign rfl) rfl
  · intro L g hall a w hk hd hw
    have h5 := hall 5 (by decide)
    have h6 := hall 6 (by decide)
    have h8 := hall 8 (by decide)
    simp only [h5, h6, h8, if_true] at hw
    exact ⟨KnA.knows ⟨hd 9 _ 4 rfl rfl (hall 9 (by decide)), hd 10 _ 5 rfl rfl (hall 10 (by decide)), hd 11 _ 6 rfl rfl (hall 11 (by decide)), trivial⟩, hw⟩
  intro g
  refine g_ret ?_
  exact ret_3 Try.results10 (.tmp rfl) (.tmp rfl) (.tmp rfl) (fun w hh => ⟨_, ⟨bd, b10, g.2.2.2.2, g.2.2.1, s0, g.2.2.2.1, by rw [hfm.n]; exact hfm, hn, rfl, rfl⟩, (((((((hh.front 6 rfl).front 5 rfl).front 2 rfl).tail.tail.tail.front 2 rfl).front 3 rfl).front 2 rfl).front 3 rfl)⟩)

end Go.Proofs.Ytbhpbnedocdneaa
