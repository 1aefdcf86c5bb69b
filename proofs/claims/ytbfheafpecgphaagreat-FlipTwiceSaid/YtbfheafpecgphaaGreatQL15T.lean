/- The law FlipTwice. Conditions: none. -/
import Derived.Test.YtbfheafpecgphaaGreatQL15Tm
set_option linter.unusedSimpArgs false
set_option linter.unusedVariables false
set_option linter.unnecessarySimpa false
set_option linter.unusedSectionVars false
namespace Go.Proofs.YtbfheafpecgphaaGreat
set_option linter.unusedSimpArgs false
set_option linter.unusedVariables false
open Go

theorem flipTwice_ok (B : World) (Fr : List HP) (x0 x1 x2 : Int) (hx : 0 ≤ x0 ∧ 0 ≤ x1 ∧ 0 ≤ x2) (hs : List (Int × Int)) (hhs : ∀ h ∈ hs, (0 ≤ h.1 ∧ h.1 < 256) ∧ (0 ≤ h.2 ∧ h.2 < 256)) (hlen0 : hs.length ≤ 9223372036854775807) (q : Option Addr) (cap : Nat) (hv : SlN B Fr (.slice q hs.length cap) 2 (hs.map fun h => [u8 h.1, u8 h.2])) (ql : Option Addr) (cl : Nat) (l : List Int) (hl : SlR B Fr (.slice ql l.length cl) (l.map u16)) (hlb : ∀ x ∈ l, 0 ≤ x ∧ x < 65536) (hll0 : l.length ≤ 9223372036854775807) (hql : ∀ i, i < l.length → ∃ b off, ql = some ⟨b, off, none⟩) :
    ∀ w, Holds B Fr w → Calls Tryz.prog 3 [.agg #[u16 x0, u16 x1, u16 x2], .slice q hs.length cap, .slice ql l.length cl].toArray w (PureR B Fr (.bool true)) := by
  refine fn_enter Tryz.func3 rfl Tryz.ntmps3 rfl ?_
  obtain ⟨c, hcm⟩ : ∃ c, c = mkC x0 x1 x2 := ⟨_, rfl⟩
  have hc : CfgW c := by rw [hcm]; exact mkC_w hx.1 hx.2.1 hx.2.2
  refine g_seq ?_; refine g_region ?_; refine p_chg rfl (ch_boxA rfl) .free rfl rfl ?_
  rintro _ _ ⟨b3, rfl, rfl⟩
  refine kPa rfl rfl ?_; refine p_nil ?_; refine g_seq ?_; refine g_seq ?_; refine g_region ?_; refine p_callq rfl (en_f Tryz.call11 rfl) (awake15_ok _ _) .free rfl rfl ?_; refine kPv (ev_not rfl) rfl ?_; refine p_nil ?_; refine g_iff rfl (rfl) ?_; refine g_skip ?_; refine g_seq ?_; refine g_seq ?_; refine g_region ?_; refine kPm rfl rfl ?_; refine kPv (ev_len rfl Tryz.runUnderlying25 ⟨_, rfl⟩ rfl) rfl ?_; refine kPv (ev_cmp rfl rfl rfl) rfl ?_; refine kPm rfl rfl ?_
  apply p_or (tp := 27) (t := 23) (σ1 := [(23, _), (6, _), (3, _), (1, _), (2, _)]) 4 rfl ⟨rfl, rfl, rfl, rfl, rfl, trivial⟩
  · intro hg1
    refine p_val rfl (ev_move rfl) (.on rfl rfl (beq_eq hg1)) rfl rfl ?_; refine p_val rfl (ev_len rfl Tryz.runUnderlying26 ⟨_, rfl⟩ rfl) (.on rfl rfl (beq_eq hg1)) rfl rfl ?_; refine p_val rfl (ev_cmp rfl rfl rfl) (.on rfl rfl (beq_eq hg1)) rfl rfl ?_; refine kPv (ev_pick_f rfl hg1 rfl) rfl ?_
    exact p_seg rfl ⟨rfl, rfl, rfl, rfl, rfl, trivial⟩ (or_f hg1)
  · intro hg1
    refine p_skip rfl (.on rfl rfl (beq_ne hg1)) rfl ?_; refine p_skip rfl (.on rfl rfl (beq_ne hg1)) rfl ?_; refine p_skip rfl (.on rfl rfl (beq_ne hg1)) rfl ?_; refine kPv (ev_pick_t rfl hg1 rfl) rfl ?_
    exact p_seg rfl ⟨rfl, rfl, rfl, rfl, rfl, trivial⟩ (or_t hg1)
  refine p_nil ?_
  refine g_if rfl (fun h27 => ?_) (fun h27 => ?_)
  · try simp only [decide_eq_true_eq, decide_eq_false_iff_not, Bool.not_eq_true', Bool.not_eq_false', Bool.or_eq_true, Bool.and_eq_true, Bool.and_eq_false_iff, Bool.or_eq_false_iff, beq_iff_eq, bne_iff_ne, beq_eq_false_iff_ne, bne_eq_false_iff_eq, ge_iff_le, gt_iff_lt, ne_eq] at h27
    refine g_seq ?_; refine g_region ?_; refine kPa rfl rfl ?_; refine p_nil ?_; refine g_ret ?_
    exact ret_tmp Tryz.results3 rfl (fun w hh => ⟨rfl, (hh.dp [0])⟩)
  · have hlen : hs.length ≤ 25 ∧ l.length ≤ 60 := by simp at h27; omega
    obtain ⟨hlen1, hlen2⟩ := hlen
    refine g_skip ?_; refine g_seq ?_; refine g_region ?_; refine kPv (ev_loadA Tryz.isAgg24 Tryz.sizeOf24 rfl rfl) rfl ?_; refine kPm rfl rfl ?_; refine kPm rfl rfl ?_
    refine p_call rfl (en_f Tryz.call12 rfl) (linked_ok B _ x0 x1 x2 hx c hcm hs hhs (by omega) q cap hv.up ql cl l hl.up hlb (by omega) hql 0 (by decide)) .free rfl rfl ?_ ?_
    rotate_left
    · rintro _ _ ⟨⟩
    rintro _ _ ⟨bd, pa, N, s0, sF, out, hfm, hN, ⟨hus0, hf⟩, hfill, hor⟩
    rcases hor with ⟨n1, n2, s1, s2, ov, sv, hl1, hl2, hu2, hlm2, hn2, hov, hsv, rfl, rfl⟩ | ⟨s1, hl1, _⟩
    rotate_left
    · exact (linked_not hc hN hfm hus0 hhs hfill l hl1).elim
    obtain ⟨⟨u, hFi⟩, hSK0⟩ := linked_sk hc hN hfm hus0 hhs hfill l hl1 hl2 bd
    have hbl0 := hFi.block
    have hhp0 := hFi.heap
    rw [hbl0] at hhp0 ⊢
    generalize hr0 : (tab c.roots.toNat fun i => s2.load (c.root i)) = r0 at *
    simp only at hhp0 ⊢
    refine kPm rfl rfl ?_; refine kPv (ev_ext rfl rfl) rfl ?_; refine kPv (ev_ext rfl rfl) rfl ?_; refine kPv (ev_ext rfl rfl) rfl ?_; refine kPv (ev_ext rfl rfl) rfl ?_; refine p_chg rfl (ch_allocA Tryz.zeroValue30 rfl) .free rfl rfl ?_
    rintro _ _ ⟨b8, rfl, rfl⟩
    refine p_chg rfl (ch_allocA Tryz.zeroValue33 rfl) .free rfl rfl ?_
    rintro _ _ ⟨b9, rfl, rfl⟩
    refine kPa rfl rfl ?_; refine p_chg0 rfl (ch_storeA (vs := _) Tryz.sizeOf30 rfl rfl rfl rfl rfl) .free rfl ?_
    rintro _ _ rfl
    refine p_chg0 rfl (ch_storeA (vs := _) Tryz.sizeOf33 rfl rfl rfl (by first | rfl | exact all3 (by assumption)) rfl) .free rfl ?_
    rintro _ _ rfl
    refine kPa rfl rfl ?_; refine p_nil ?_; refine go_sub (σ' := [(7, _), (9, _), (8, _), (6, _)]) ⟨rfl, rfl, rfl, rfl, trivial⟩ ?_; refine g_seq ?_; refine g_seq ?_; refine go_conv (H' := row b9 [i64 0, i64 u, sv] 33 :: row b8 [i64 c.log, i64 c.roots, i64 c.space] 30 :: VecU 0 (sv, r0) :: DevA bd s2 :: VecA 3 i64 0 (ov, out) :: row b3 [u16 x0, u16 x1, u16 x2] 24 :: Fr) (fun w hh => by have h := hh; exact h) ?_
    refine g_region ?_; refine kPm rfl rfl ?_; refine kPv (ev_eqp Tryz.runUnderlying28 rfl rfl rfl) rfl ?_; refine p_nil ?_; refine g_iff rfl (rfl) ?_; refine g_skip ?_; refine g_seq ?_; refine g_region ?_; refine kPm rfl rfl ?_; refine kPv (ev_loadA Tryz.isAgg30 Tryz.sizeOf30 rfl rfl) rfl ?_; refine go_pk [3] ?_
    refine p_call rfl (en_f Tryz.call13 rfl) (snew_ok _ _ bd s2 c hc) .free rfl rfl ?_ ?_
    rotate_left
    · rintro _ _ ⟨⟩
    rintro _ _ ⟨bs, rfl, rfl⟩
    refine kPa rfl rfl ?_; refine p_nil ?_; refine g_seq ?_; refine g_seq ?_; refine g_region ?_; refine go_secC fun bl o1 o2 => ?_; refine kPm rfl rfl ?_; refine kPv (ev_eqp Tryz.runUnderlying37 rfl rfl rfl) rfl ?_; refine kPm rfl rfl ?_; refine p_val rfl (ev_move rfl) (.on rfl rfl (beq_eq rfl)) rfl rfl ?_
    first | refine p_val rfl (ev_nil rfl) (.on rfl rfl (beq_eq rfl)) rfl rfl ?_ | refine p_val rfl (ev_nilf rfl) (.on rfl rfl (beq_eq rfl)) rfl rfl ?_
    refine p_val rfl (ev_fa (m := _) fa_44_0 rfl rfl) (.on rfl rfl (beq_eq rfl)) rfl rfl ?_; refine p_val rfl (ev_load Tryz.isAgg39 rfl rfl) (.on rfl rfl (beq_eq rfl)) rfl rfl ?_; refine p_val rfl (ev_eqp Tryz.runUnderlying39 rfl rfl rfl) (.on rfl rfl (beq_eq rfl)) rfl rfl ?_; refine kPv (ev_pick_f rfl rfl rfl) rfl ?_; refine p_nil ?_; refine go_sub (σ' := [(50, _), (11, _), (7, _), (9, _), (8, _), (6, _)]) ⟨rfl, rfl, rfl, rfl, rfl, rfl, trivial⟩ ?_; refine g_iff rfl (rfl) ?_; refine g_skip ?_
    refine g_seq ?_; refine go_conv (fun w hh => secC_holds (S := (⟨openL bd c s2, 0, 0, [], []⟩ : SecS)) hh) ?_; refine g_region ?_; refine kPa rfl rfl ?_; refine p_nil ?_; refine g_seq ?_; refine g_seq ?_; refine g_region ?_; refine kPm rfl rfl ?_; refine p_nil ?_; refine g_block ?_
    refine g_loopk (ι := Nat × SecS × Dev × Blk × List Int × Int) [11, 7, 9, 8, 6] (fun (k, S, s, bk, L, us) => (k ≤ 3) ∧ (HI c N bd S s bk L) ∧ (bk.act = (k : Int) % 2) ∧ (bk.used ≤ u) ∧ (us = -1 ∨ (us = bk.used ∧ AllR s bk L))) (fun (k, S, s, bk, L, us) => [(51, i64 k), (12, i64 us)]) (fun (k, S, s, bk, L, us) => SecC bs S :: DevA bd s :: row b9 [i64 0, i64 u, sv] 33 :: row b8 [i64 c.log, i64 c.roots, i64 c.space] 30 :: Fr) (fun (k, S, s, bk, L, us) => 3 - k) (0, (⟨openL bd c s2, 0, 0, [], []⟩ : SecS), s2, ⟨0, u, r0⟩, out, -1) (⟨Nat.zero_le _, ⟨hSK0, hbl0, hhp0⟩, rfl, Int.le_refl _, .inl rfl⟩) (fun a w st => st.to ⟨rfl, rfl, trivial⟩ (fun hh => (hh.dp [4, 4, 4]))) ?_
    rintro ⟨k, S, s, bk, L, us⟩ ⟨hk0, hI, hpar, hle, hU⟩
    try simp only at hk0 hI hpar hle hU ⊢
    refine go_sub (σ' := [(51, i64 k), (12, i64 us), (11, _), (7, _), (9, _), (8, _), (6, _)]) ⟨rfl, rfl, rfl, rfl, rfl, rfl, rfl, trivial⟩ ?_; refine g_seq ?_; refine g_region ?_; refine kPv (ev_cmp rfl rfl rfl) rfl ?_; refine p_nil ?_; refine g_seq ?_
    refine g_if rfl (fun h52 => ?_) (fun h52 => ?_)
    · have hk : k < 3 := by simp at h52; omega
      obtain ⟨X, S', s', hcr, hI', hac, hu0, hus, hall, hag⟩ := hi_collect hc hI
      have hlow := hFi.u0
      have hsp := hc.s2
      refine g_skip ?_; refine g_seq ?_; refine g_block ?_; refine g_seq ?_; refine g_region ?_; refine kPm rfl rfl ?_; refine kPa rfl rfl ?_; refine p_nil ?_; refine g_seq ?_; refine g_region ?_; refine kPm rfl rfl ?_; refine kPv (ev_loadA Tryz.isAgg30 Tryz.sizeOf30 rfl rfl) rfl ?_; refine kPm rfl rfl ?_
      refine p_call rfl (en_f Tryz.call14 rfl) (fcollect_ok B _ bs bd S c hc s hI.sk.u (hI.sk.secK hc) none 0 [] (by decide) (fun _ h => by cases h) SlR.nil) .free rfl rfl ?_ ?_
      rotate_left
      · rintro _ _ ⟨s9, hm9, _⟩
        rw [hcr] at hm9; cases hm9
      rintro _ _ ⟨r, s3, hm3, hor⟩
      rw [hcr] at hm3
      cases hm3
      rcases hor with ⟨h1, _⟩ | ⟨x, X2, hX2, h0, rfl, rfl⟩
      · cases h1
      cases hX2
      refine kPm rfl rfl ?_; refine kPv (ev_ext rfl rfl) rfl ?_; refine kPv (ev_ext rfl rfl) rfl ?_; refine kPa rfl rfl ?_; refine kPa rfl rfl ?_; refine p_nil ?_; refine go_sub (σ' := [(15, _), (14, _), (13, _), (51, _), (12, _), (11, _), (7, _), (9, _), (8, _), (6, _)]) ⟨rfl, rfl, rfl, rfl, rfl, rfl, rfl, rfl, rfl, rfl, trivial⟩ ?_; refine g_seq ?_; refine g_region ?_; refine kPm rfl rfl ?_; refine kPv (ev_loadA Tryz.isAgg30 Tryz.sizeOf30 rfl rfl) rfl ?_; refine go_pk [2] ?_
      refine p_call rfl (en_f Tryz.call15 rfl) (rread_ok _ _ _ _ c hc hI'.sk.u) .free rfl rfl ?_ ?_
      rotate_left
      · rintro _ _ ⟨⟩
      rintro _ _ ⟨sv3, hsv3, rfl, rfl⟩
      rw [hI'.bl]
      refine kPm rfl rfl ?_; refine kPv (ev_ext rfl rfl) rfl ?_; refine kPv (ev_ext rfl rfl) rfl ?_; refine p_chg rfl (ch_allocA Tryz.zeroValue33 rfl) .free rfl rfl ?_
      rintro _ _ ⟨b16, rfl, rfl⟩
      refine p_chg0 rfl (ch_storeA (vs := _) Tryz.sizeOf33 rfl rfl rfl (by first | rfl | exact all3 (by assumption)) rfl) .free rfl ?_
      rintro _ _ rfl
      refine kPa rfl rfl ?_; refine p_nil ?_; refine g_seq ?_; refine g_seq ?_; refine g_region ?_; refine kPm rfl rfl ?_; refine kPv (ev_cmp rfl rfl rfl) rfl ?_; refine kPm rfl rfl ?_; refine p_val rfl (ev_move rfl) (.on rfl rfl (beq_eq rfl)) rfl rfl ?_; refine p_val rfl (ev_cmp rfl rfl rfl) (.on rfl rfl (beq_eq rfl)) rfl rfl ?_; refine kPv (ev_pick_f rfl rfl rfl) rfl ?_; refine kPm rfl rfl ?_; refine p_val rfl (ev_move rfl) (.on rfl rfl (beq_eq rfl)) rfl rfl ?_
      refine p_val rfl (ev_eqp Tryz.runUnderlying45 rfl rfl rfl) (.on rfl rfl (beq_eq rfl)) rfl rfl ?_; refine kPv (ev_pick_f rfl rfl rfl) rfl ?_; refine kPm rfl rfl ?_; refine p_val rfl (ev_fa (m := _) fa_33_0 rfl rfl) (.on rfl rfl (beq_eq rfl)) rfl rfl ?_; refine p_val rfl (ev_load Tryz.isAgg3 rfl rfl) (.on rfl rfl (beq_eq rfl)) rfl rfl ?_; refine p_val rfl (ev_move rfl) (.on rfl rfl (beq_eq rfl)) rfl rfl ?_
      first | refine p_val rfl (ev_add rfl rfl (wr64 (by omega))) (.on rfl rfl (beq_eq rfl)) rfl rfl ?_ | refine p_val rfl (ev_add rfl rfl rfl) (.on rfl rfl (beq_eq rfl)) rfl rfl ?_
      refine p_val rfl (ev_rem (c := ((k : Int) + 1) % 2) rfl rfl (by decide) (rem_e 2 (by omega))) (.on rfl rfl (beq_eq rfl)) rfl rfl ?_; refine p_val rfl (ev_cmp rfl rfl rfl) (.on rfl rfl (beq_eq rfl)) rfl rfl ?_; refine kPv (ev_pick_f rfl rfl rfl) rfl ?_; refine kPm rfl rfl ?_; refine p_val rfl (ev_fa (m := _) fa_33_1 rfl rfl) (.on rfl rfl (beq_eq (by simp; omega))) rfl rfl ?_
      refine p_val rfl (ev_load Tryz.isAgg3 rfl rfl) (.on rfl rfl (beq_eq (by simp; omega))) rfl rfl ?_
      refine p_val rfl (ev_fa (m := _) fa_33_1 rfl rfl) (.on rfl rfl (beq_eq (by simp; omega))) rfl rfl ?_
      refine p_val rfl (ev_load Tryz.isAgg3 rfl rfl) (.on rfl rfl (beq_eq (by simp; omega))) rfl rfl ?_
      refine p_val rfl (ev_cmp rfl rfl rfl) (.on rfl rfl (beq_eq (by simp; omega))) rfl rfl ?_
      refine kPv (ev_pick_f rfl (by simp; omega) rfl) rfl ?_
      refine kPm rfl rfl ?_; refine p_val rfl (ev_move rfl) (.on rfl rfl (beq_eq (by simp; omega))) rfl rfl ?_
      refine p_val rfl (ev_cmp rfl rfl rfl) (.on rfl rfl (beq_eq (by simp; omega))) rfl rfl ?_
      refine p_val rfl (ev_move rfl) (.on rfl rfl (beq_eq (by simp; omega))) rfl rfl ?_
      apply p_and (tp := 100) (t := 95) (σ1 := [(95, _), (92, _), (16, _), (51, _), (12, _), (11, _), (7, _), (9, _), (8, _), (6, _)]) 5 rfl ⟨rfl, rfl, rfl, rfl, rfl, rfl, rfl, rfl, rfl, rfl, trivial⟩
      · intro hg2
        refine p_val rfl (ev_fa (m := _) fa_33_1 rfl rfl) (.on rfl rfl (beq_eq hg2)) rfl rfl ?_; refine p_val rfl (ev_load Tryz.isAgg3 rfl rfl) (.on rfl rfl (beq_eq hg2)) rfl rfl ?_; refine p_val rfl (ev_move rfl) (.on rfl rfl (beq_eq hg2)) rfl rfl ?_; refine p_val rfl (ev_cmp rfl rfl rfl) (.on rfl rfl (beq_eq hg2)) rfl rfl ?_; refine p_val rfl (ev_pick_t rfl hg2 rfl) (.on rfl rfl (beq_eq (by simp; omega))) rfl rfl ?_
        exact p_seg rfl ⟨rfl, rfl, rfl, rfl, rfl, rfl, rfl, rfl, rfl, rfl, trivial⟩ (and_t hg2)
      · intro hg2
        refine p_skip rfl (.on rfl rfl (beq_ne hg2)) rfl ?_; refine p_skip rfl (.on rfl rfl (beq_ne hg2)) rfl ?_; refine p_skip rfl (.on rfl rfl (beq_ne hg2)) rfl ?_; refine p_skip rfl (.on rfl rfl (beq_ne hg2)) rfl ?_; refine p_val rfl (ev_pick_f rfl hg2 rfl) (.on rfl rfl (beq_eq (by simp; omega))) rfl rfl ?_
        exact p_seg rfl ⟨rfl, rfl, rfl, rfl, rfl, rfl, rfl, rfl, rfl, rfl, trivial⟩ (and_f hg2)
      refine kPv (ev_pick_f rfl (by simp; omega) rfl) rfl ?_
      refine p_nil ?_
      refine g_iff rfl ((by
      by_cases h9 : us ≥ 0
      · obtain ⟨e9, a9⟩ := hU.resolve_left (by omega)
        rw [hag a9, e9]; simp
      · simp [h9])) ?_
      refine g_skip ?_; refine g_region ?_; refine kPv (ev_fa (m := _) fa_33_1 rfl rfl) rfl ?_; refine kPv (ev_load Tryz.isAgg3 rfl rfl) rfl ?_; refine kPa rfl rfl ?_; refine p_nil ?_; refine go_sub (σ' := [(12, _), (51, _), (11, _), (7, _), (9, _), (8, _), (6, _)]) ⟨rfl, rfl, rfl, rfl, rfl, rfl, rfl, trivial⟩ ?_; refine g_region ?_
      first | refine p_val rfl (ev_add rfl rfl (wr64 (by omega))) .free rfl rfl ?_ | refine p_val rfl (ev_add rfl rfl rfl) .free rfl rfl ?_
      refine kPm rfl rfl ?_; refine p_nil ?_
      exact fun a w st_ => ⟨(k + 1, S', s', X.block, X.went.map Prod.snd, X.block.used), ⟨by first | omega | (simp only; omega), hI', by simp only; omega, by simp only; omega, .inr ⟨rfl, hall⟩⟩, by simp only; omega, st_.to ⟨rfl, rfl, rfl, rfl, rfl, rfl, rfl, trivial⟩ (fun hh => ((hh.dp [0, 0, 1]).pk [1]))⟩
    · have hk : ¬ k < 3 := by simp at h52; omega
      refine g_exit ?_; refine g_seq ?_; refine g_region ?_; refine kPa rfl rfl ?_; refine p_nil ?_; refine go_sub (σ' := [(6, _)]) ⟨rfl, trivial⟩ ?_; refine g_ret ?_
      exact ret_tmp Tryz.results3 rfl (fun w hh => ⟨rfl, (hh.dp [0, 0, 0, 0])⟩)


theorem flipTwice_walk (W : World) (z : Int × Int × Int) (w0 : (Lit.int .u16 z.1).wf = true ∧ (Lit.int .u16 z.2.1).wf = true ∧ (Lit.int .u16 z.2.2).wf = true) {a1 : Option Addr} {n1 cap1 : Nat} {f : Nat → Int × Int} (w1 : n1 ≤ 9223372036854775807 ∧ (∀ i, i < n1 → 0 ≤ (f i).1 ∧ (f i).1 ≤ 255 ∧ 0 ≤ (f i).2 ∧ (f i).2 ≤ 255) ∧ ArgRow W a1 n1 2 (fun i => [.int .u8 (f i).1, .int .u8 (f i).2])) {l : Option Addr} {len cap : Nat} {xs : List Int} (w2 : len = xs.length ∧ len ≤ 9223372036854775807 ∧ ArgRow W l len 1 (fun i => [u16 (xs.getD i 0)]) ∧ ∀ x ∈ xs, 0 ≤ x ∧ x ≤ 65535) :
    Calls Tryz.prog 3 #[.agg #[u16 z.1, u16 z.2.1, u16 z.2.2], .slice a1 n1 cap1, .slice l len cap] W fun e w' => e = .returned (.bool true) ∧ RowKit.Below W.heap.size W w' := by
  have b0 := bounds_u16 w0.1
  have b1 := bounds_u16 w0.2.1
  have b2 := bounds_u16 w0.2.2
  obtain ⟨rfl, v2, v3, v4⟩ := w2
  obtain ⟨u1, u2, u3⟩ := w1
  have hn : n1 = ((List.range n1).map f).length := by simp
  have key := law_of (flipTwice_ok W [old W] z.1 z.2.1 z.2.2 ⟨b0.1, b1.1, b2.1⟩ ((List.range n1).map f) (fun h hh => by
    obtain ⟨i, hi, rfl⟩ := List.mem_map.1 hh
    have := u2 i (List.mem_range.1 hi)
    omega) (by rw [← hn]; exact u1) a1 cap1 (sln_arg2 u3) l cap xs (slr_u16 v3) (fun x hx => by have := v4 x hx; omega) v2 (some_u8 (f := fun i => u16 (xs.getD i 0)) v3))
  rw [← hn] at key
  exact key

namespace flipTwice
open Go.ChangeShapes Go.WideShapes Go.ChangeAt Go.RowKit
set_option maxRecDepth 100000 in
theorem lifted (os : Os) (started : os.Started) (H : Type) (enc : TypeId × Value → H) :
    ReturnsInHanded {} Tryz.checked os 3 .any (Rows.flipTwiceSpec.pre6 enc Tryz.prog Tryz.f3 Rows.flipTwiceRow.domain false) (Rows.flipTwiceSpec.post enc Tryz.prog Tryz.f3 false true false false) := by
  refine returnsInHanded_of_change (C := Tryz.checked) Tryz.ownKnobs started (by kernel_rfl) Tryz.func3
    (ChangeSpec.witness6 (enc := enc) (C := Tryz.checked) false ⟨#[], #[.agg #[.int .u16 0, .int .u16 0, .int .u16 0], .slice none 0 0, .slice none 0 0], []⟩ 8 (by kernel_rfl) (by kernel_rfl) (by kernel_rfl) (by kernel_rfl)) ?_
  intro W base args ds gs before hval0 hW hcnd _
  have hval : ∀ (j : Nat) t v, Tryz.f3.params[j]? = some t → args[j]? = some v → Value.okWide Tryz.prog W .any base t v := hval0
  have hW' := hW
  obtain ⟨p, q, hA0, hV, rfl, hfz, hnd⟩ := hW
  have hA : DataW.TrodAll enc Tryz.prog W 0 (fun _ => true) true Tryz.f3.params.toList args.toList ds p := hA0
  rw [Tryz.params3] at hA hval
  obtain ⟨v0, vs0, d0, ds0, p0, q0, hargs, rfl, rfl, h0, r0⟩ := trodAll_cons hA
  obtain ⟨v1, vs1, d1, ds1, p1, q1, rfl, rfl, rfl, h1, r1⟩ := trodAll_cons r0
  obtain ⟨v2, vs2, d2, ds2, p2, q2, rfl, rfl, rfl, h2, r2⟩ := trodAll_cons r1
  obtain ⟨rfl, rfl, rfl⟩ := trodAll_nil r2
  obtain rfl : args = #[v0, v1, v2] := by cases args; simp_all
  obtain ⟨rfl, rfl⟩ := trodVars_none hV
  have k0 := h0
  have lt0 : ∀ x ∈ p0, x.block < W.heap.size := by obtain ⟨m, hm⟩ := k0; exact DataW.trod_lt m _ _ _ hm
  obtain ⟨z0, rfl, w0⟩ := arg_st_u16_u16_u16 (hval 0 24 v0 rfl rfl) h0
  obtain ⟨a1, len1, cap1, rfl⟩ := okWide_slice Tryz.underlying25 (hval 1 25 v1 rfl rfl)
  have k1 := h1
  have lt1 : ∀ x ∈ p1, x.block < W.heap.size := by obtain ⟨m, hm⟩ := k1; exact DataW.trod_lt m _ _ _ hm
  obtain ⟨z1, w1⟩ := arg_sl_st_u8_u8 h1
  obtain ⟨a2, len2, cap2, rfl⟩ := okWide_slice Tryz.underlying26 (hval 2 26 v2 rfl rfl)
  have k2 := h2
  have lt2 : ∀ x ∈ p2, x.block < W.heap.size := by obtain ⟨m, hm⟩ := k2; exact DataW.trod_lt m _ _ _ hm
  obtain ⟨z2, w2⟩ := arg_sl_u16 h2
  clear hA0 hval0
  refine (flipTwice_walk W z0 w0 w1 w2).mono fun e W' ⟨he, bel⟩ => ?_
  subst he
  exact ⟨_, rfl, _, _, _, [], _, [], hW', trodAll_mk1 (shut_bool Tryz.underlying4 _), (trodAll_cons_mk (Below.trod Tryz.laidOut (by kernel_rfl) (of_decide_eq_true (by kernel_rfl)) k0 bel lt0) (trodAll_cons_mk (Below.trod Tryz.laidOut (by kernel_rfl) (of_decide_eq_true (by kernel_rfl)) k1 bel lt1) (trodAll_cons_mk (Below.trod Tryz.laidOut (by kernel_rfl) (of_decide_eq_true (by kernel_rfl)) k2 bel lt2) trodAll_mk0))), rfl, bel.frame _, fun h => by cases h⟩
theorem over : Rows.flipTwiceRow.holds Tryz.pinned (OpenSpec.ofChange Rows.flipTwiceSpec) :=
  OpenClaim.holds_of_wide 3 Tryz.f3 rfl rfl rfl rfl rfl rfl rfl ⟨rfl, rfl, rfl, rfl, rfl⟩ rfl rfl rfl rfl rfl (by kernel_rfl) Tryz.func3 (by kernel_rfl)
    (of_decide_eq_true (by kernel_rfl)) (by unfold Func.isWrapper; first | (rw [if_pos (by decide +kernel)]; kernel_rfl) | (rw [if_neg (by decide +kernel)]; exact ⟨rfl, rfl⟩))
    (fun os started H enc _ => lifted os started H enc)
/-- The statement. -/
theorem proved : Rows.FlipTwiceSaid := over
end flipTwice

end Go.Proofs.YtbfheafpecgphaaGreat
