/- The law HeapNames. Conditions: none. -/
import Derived.Test.YtlcibdhmgclfjaaGreatQL17No
set_option linter.unusedSimpArgs false
set_option linter.unusedVariables false
set_option linter.unnecessarySimpa false
set_option linter.unusedSectionVars false
namespace Go.Proofs.YtlcibdhmgclfjaaGreat
set_option linter.unusedSimpArgs false
set_option linter.unusedVariables false
open Go
/-- Collect, its outcome known. -/
theorem collectW {B : World} {Fr : List HP} {bh bd N : Nat} {kp : Prop} {c : Cfg} {h : HpS} {s : Dev} {a u : Int} {L : List Int} (H : HC kp c N bd h s a u L) {Q : HpS → Dev → Prop} (h0 : ∀ s', ¬ h.colOff s s') (h1 : ∀ x h' s', h.colR s x h' s' → x = 0 ∧ Q h' s') : ∀ w, Holds B (HepA bh h :: DevA bd s :: Fr) w → Calls Tryz.prog 24 [ptr bh].toArray w (Ret B (fun rv H' => ∃ h' s', Q h' s' ∧ rv = i64 0 ∧ H' = HepA bh h' :: DevA bd s' :: Fr) (fun _ _ => False)) := by
  have hb := H.hbd
  subst hb
  refine fun w hw => (hpcollect_ok B Fr bh h s H.hw H.bok w hw).mono (Ret.mono ?_ ?_)
  · rintro rv H' ⟨x, h', s', hb, rfl, rfl⟩
    obtain ⟨rfl, q⟩ := h1 _ _ _ hb
    exact ⟨h', s', q, rfl, rfl⟩
  · rintro ch H' ⟨s', h9, _⟩
    exact (h0 _ h9).elim

theorem heapNames_ok (B : World) (Fr : List HP) (x0 x1 x2 : Int) (hx : 0 ≤ x0 ∧ 0 ≤ x1 ∧ 0 ≤ x2) (cl : Bool) :
    ∀ w, Holds B Fr w → Calls Tryz.prog 4 [.agg #[u16 x0, u16 x1, u16 x2], .bool cl].toArray w (PureR B Fr (.bool true)) := by
  refine fn_enter Tryz.func4 rfl Tryz.ntmps4 rfl ?_
  obtain ⟨y, hye⟩ : ∃ y, y = IntKind.u16.wrap (x2 + IntKind.u16.wrap (40 - x2 % 90)) := ⟨_, rfl⟩
  have hy : 0 ≤ x0 ∧ 0 ≤ x1 ∧ 0 ≤ y := ⟨hx.1, hx.2.1, by rw [hye]; simp only [IntKind.wrap, IntKind.bits, IntKind.signed]; simp; omega⟩
  obtain ⟨c, hcm⟩ : ∃ c, c = mkC x0 x1 y := ⟨_, rfl⟩
  have hc : CfgW c := by rw [hcm]; exact mkC_w hy.1 hy.2.1 hy.2.2
  have hs1 := hc.s1
  refine g_seq (g_region (p_chg rfl (ch_boxA rfl) .free rfl rfl ?_))
  rintro _ _ ⟨b2, rfl, rfl⟩
  refine kPa rfl rfl (p_nil (g_seq (g_seq (g_region (p_callq rfl (en_f Tryz.call9 rfl) (awake17_ok _ _) .free rfl rfl ?_)))))
  refine kPv (ev_not rfl) rfl (p_nil (g_iff rfl (rfl) (g_skip (g_seq (g_region (kPv (ev_fa (m := _) fa_24_2 rfl rfl) rfl (kPv (ev_load Tryz.isAgg22 rfl rfl) rfl (kPv (ev_fa (m := _) fa_24_2 rfl rfl) rfl (kPv (ev_load Tryz.isAgg22 rfl rfl) rfl (kPv (ev_rem (c := x2 % 90) rfl rfl (by decide) (rem_e 90 (by omega))) rfl (kPv (ev_sub rfl rfl rfl) rfl ?_)))))))))))
  refine kPv (ev_add rfl rfl hye.symm) rfl (kPv (ev_fa (m := _) fa_24_2 rfl rfl) rfl (p_chg0 rfl (ch_store Tryz.sizeOf22 rfl rfl rfl rfl) .free rfl ?_))
  rintro _ _ rfl
  refine p_nil (go_sb [4, 2, 1] rfl (g_seq (g_region (kPv (ev_loadA Tryz.isAgg24 Tryz.sizeOf24 rfl rfl) rfl ?_))))
  refine p_call rfl (en_f Tryz.call10 rfl) (opened_ok B _ x0 x1 y hy c hcm) .free rfl rfl ?_ ?_
  rotate_left
  · rintro _ _ ⟨⟩
  rintro _ _ ⟨bd, bh, bm, br, N, s, hN, H0, rfl, rfl⟩
  obtain ⟨h0, hh0⟩ : ∃ h0 : HpS, h0 = heapOf bd c s := ⟨_, rfl⟩
  rw [← hh0] at H0 ⊢
  have hT0 : h0.T = ⟨[], [], 0⟩ := by rw [hh0]; rfl
  refine kPm rfl rfl (kPv (ev_ext rfl rfl) rfl (kPv (ev_ext rfl rfl) rfl (kPv (ev_ext rfl rfl) rfl (kPa rfl rfl (kPa rfl rfl (kPa rfl rfl (p_nil (go_sb [6, 4, 1] rfl (g_seq (g_seq (g_region ?_)))))))))))
  refine kPm rfl rfl (kPv (ev_eqp Tryz.runUnderlying29 rfl rfl rfl) rfl (kPm rfl rfl (p_val rfl (ev_move rfl) (.on rfl rfl (beq_eq rfl)) rfl rfl ?_)))
  refine p_call rfl (en_f Tryz.call11 rfl) (beginW hc H0 (by decide) (by omega)) (.on rfl rfl (beq_eq rfl)) rfl rfl ?_ ?_
  rotate_left
  · rintro _ _ ⟨⟩
  rintro _ _ ⟨h1, hx1, hT1, H1, rfl, rfl⟩
  obtain ⟨h2, s2, h3, s3, h4, s4, h5, s5, h6, s6, h7, s7, h8, s8, e2, W2, e3, W3, e4, W4, e5, W5, e6, W6, e7, W7, e8, H8, Q8⟩ := names_run hc H1 hx1 (hT1.trans hT0)
  refine p_val rfl (ev_cmp rfl rfl rfl) (.on rfl rfl (beq_eq rfl)) rfl rfl (kPv (ev_pick_f rfl rfl rfl) rfl (p_nil (g_iff rfl (rfl) (g_skip (g_seq (g_region (kPm rfl rfl (kPv (ev_build rfl (bld_38_1_0 _ _ rfl rfl)) rfl ?_))))))))
  refine p_call rfl (en_f Tryz.call12 rfl) (allocW H1.hw H1.hbd e2) .free rfl rfl ?_ ?_
  rotate_left
  · rintro _ _ ⟨⟩
  rintro _ _ ⟨rfl, rfl⟩
  refine kPm rfl rfl (kPv (ev_ext rfl rfl) rfl (kPv (ev_ext rfl rfl) rfl (kPa rfl rfl (kPa rfl rfl (p_nil (go_sb [9, 8, 6, 4, 1] rfl (g_seq (g_region (kPm rfl rfl (kPv (ev_build rfl (bld_38_1_0 _ _ rfl rfl)) rfl ?_))))))))))
  refine p_call rfl (en_f Tryz.call12 rfl) (allocW W2.1 W2.2 e3) .free rfl rfl ?_ ?_
  rotate_left
  · rintro _ _ ⟨⟩
  rintro _ _ ⟨rfl, rfl⟩
  refine kPm rfl rfl (kPv (ev_ext rfl rfl) rfl (kPv (ev_ext rfl rfl) rfl (kPa rfl rfl (kPa rfl rfl (p_nil (g_seq (g_seq (g_region (kPm rfl rfl (kPv (ev_cmp rfl rfl rfl) rfl (kPm rfl rfl ?_)))))))))))
  refine p_val rfl (ev_move rfl) (.on rfl rfl (beq_eq rfl)) rfl rfl (p_val rfl (ev_cmp rfl rfl rfl) (.on rfl rfl (beq_eq rfl)) rfl rfl (kPv (ev_pick_f rfl rfl rfl) rfl (kPm rfl rfl (p_val rfl (ev_move rfl) (.on rfl rfl (beq_eq rfl)) rfl rfl (p_val rfl (ev_move rfl) (.on rfl rfl (beq_eq rfl)) rfl rfl (p_val rfl (ev_move rfl) (.on rfl rfl (beq_eq rfl)) rfl rfl ?_))))))
  refine p_call rfl (en_f Tryz.call23 rfl) (pointW W3.1 W3.2 e4) (.on rfl rfl (beq_eq rfl)) rfl rfl ?_ ?_
  rotate_left
  · rintro _ _ ⟨⟩
  rintro _ _ ⟨rfl, rfl⟩
  refine p_val rfl (ev_cmp rfl rfl rfl) (.on rfl rfl (beq_eq rfl)) rfl rfl (kPv (ev_pick_f rfl rfl rfl) rfl (kPm rfl rfl (p_val rfl (ev_move rfl) (.on rfl rfl (beq_eq rfl)) rfl rfl (p_val rfl (ev_move rfl) (.on rfl rfl (beq_eq rfl)) rfl rfl (p_val rfl (ev_move rfl) (.on rfl rfl (beq_eq rfl)) rfl rfl ?_)))))
  refine p_call rfl (en_f Tryz.call23 rfl) (pointW W4.1 W4.2 e5) (.on rfl rfl (beq_eq rfl)) rfl rfl ?_ ?_
  rotate_left
  · rintro _ _ ⟨⟩
  rintro _ _ ⟨rfl, rfl⟩
  refine p_val rfl (ev_cmp rfl rfl rfl) (.on rfl rfl (beq_eq rfl)) rfl rfl (kPv (ev_pick_f rfl rfl rfl) rfl (kPm rfl rfl (p_val rfl (ev_move rfl) (.on rfl rfl (beq_eq rfl)) rfl rfl (p_val rfl (ev_move rfl) (.on rfl rfl (beq_eq rfl)) rfl rfl (p_val rfl (ev_move rfl) (.on rfl rfl (beq_eq rfl)) rfl rfl ?_)))))
  refine p_call rfl (en_f Tryz.call23 rfl) (pointW W5.1 W5.2 e6) (.on rfl rfl (beq_eq rfl)) rfl rfl ?_ ?_
  rotate_left
  · rintro _ _ ⟨⟩
  rintro _ _ ⟨rfl, rfl⟩
  refine p_val rfl (ev_cmp rfl rfl rfl) (.on rfl rfl (beq_eq rfl)) rfl rfl (kPv (ev_pick_f rfl rfl rfl) rfl (kPm rfl rfl (p_val rfl (ev_move rfl) (.on rfl rfl (beq_eq rfl)) rfl rfl (p_val rfl (ev_move rfl) (.on rfl rfl (beq_eq rfl)) rfl rfl ?_))))
  refine p_call rfl (en_f Tryz.call13 rfl) (setW W6.1 W6.2 e7) (.on rfl rfl (beq_eq rfl)) rfl rfl ?_ ?_
  rotate_left
  · rintro _ _ ⟨⟩
  rintro _ _ ⟨rfl, rfl⟩
  refine p_val rfl (ev_cmp rfl rfl rfl) (.on rfl rfl (beq_eq rfl)) rfl rfl (kPv (ev_pick_f rfl rfl rfl) rfl (kPm rfl rfl (p_val rfl (ev_move rfl) (.on rfl rfl (beq_eq rfl)) rfl rfl ?_)))
  refine p_call rfl (en_f Tryz.call15 rfl) (commitW W7.1 W7.2 e8) (.on rfl rfl (beq_eq rfl)) rfl rfl ?_ ?_
  rotate_left
  · rintro _ _ ⟨⟩
  rintro _ _ ⟨rfl, rfl⟩
  refine p_val rfl (ev_cmp rfl rfl rfl) (.on rfl rfl (beq_eq rfl)) rfl rfl (kPv (ev_pick_f rfl rfl rfl) rfl (p_nil (go_sb [98, 10, 8, 6, 4, 1] rfl (g_iff rfl (rfl) (g_skip (g_seq (g_seq ?_)))))))
  rcases Bool.eq_false_or_eq_true (cl) with hcl | hcl
  · skip
    refine g_region (kPm rfl rfl (kPm rfl rfl (p_val rfl (ev_move rfl) (.on rfl rfl (beq_eq hcl)) rfl rfl ?_)))
    refine p_call rfl (en_f Tryz.call24 rfl) (collectW H8 (Q8.collect hc H8).1 (Q8.collect hc H8).2) (.on rfl rfl (beq_eq hcl)) rfl rfl ?_ ?_
    rotate_left
    · rintro _ _ ⟨⟩
    rintro _ _ ⟨h8, s8, ⟨a8, u8, L8, A8, B8, H8, Q8⟩, rfl, rfl⟩
    refine p_val rfl (ev_cmp rfl rfl rfl) (.on rfl rfl (beq_eq hcl)) rfl rfl (kPv (ev_pick_t rfl hcl rfl) rfl (p_nil (go_sb [104, 10, 8, 6, 4] rfl (g_iff rfl (rfl) (g_skip (g_seq ?_))))))
    obtain ⟨k1, k2, k3, k4, k5, h9, Hd, k6, H9, k7, k8⟩ := Q8.told hc H8
    refine g_region (kPm rfl rfl (kPm rfl rfl ?_))
    refine p_call rfl (en_f Tryz.call25 rfl) (refW H8.hw H8.hbd 1 0) .free rfl rfl ?_ ?_
    rotate_left
    · rintro _ _ ⟨⟩
    rintro _ _ ⟨rfl, rfl⟩
    rw [k1]
    refine kPm rfl rfl (kPv (ev_ext rfl rfl) rfl (kPv (ev_ext rfl rfl) rfl (kPa rfl rfl (kPa rfl rfl (p_nil (go_sb [12, 10, 8, 6, 4] rfl (g_seq (g_region (kPm rfl rfl (kPm rfl rfl ?_))))))))))
    refine p_call rfl (en_f Tryz.call25 rfl) (refW H8.hw H8.hbd 1 1) .free rfl rfl ?_ ?_
    rotate_left
    · rintro _ _ ⟨⟩
    rintro _ _ ⟨rfl, rfl⟩
    rw [k2]
    refine kPm rfl rfl (kPv (ev_ext rfl rfl) rfl (kPv (ev_ext rfl rfl) rfl (kPa rfl rfl (kPa rfl rfl (p_nil (go_sb [14, 12, 10, 8, 6, 4] rfl (g_seq (g_region (kPm rfl rfl ?_)))))))))
    refine p_call rfl (en_f Tryz.call20 rfl) (rootW H8.hw H8.hbd 0) .free rfl rfl ?_ ?_
    rotate_left
    · rintro _ _ ⟨⟩
    rintro _ _ ⟨rfl, rfl⟩
    rw [k3]
    refine kPm rfl rfl (kPv (ev_ext rfl rfl) rfl (kPv (ev_ext rfl rfl) rfl (kPa rfl rfl (kPa rfl rfl (p_nil (g_seq (g_region (kPm rfl rfl (kPm rfl rfl ?_)))))))))
    refine p_call rfl (en_f Tryz.call25 rfl) (refW H8.hw H8.hbd 2 0) .free rfl rfl ?_ ?_
    rotate_left
    · rintro _ _ ⟨⟩
    rintro _ _ ⟨rfl, rfl⟩
    rw [k4]
    refine kPm rfl rfl (kPv (ev_ext rfl rfl) rfl (kPv (ev_ext rfl rfl) rfl (kPa rfl rfl (kPa rfl rfl (p_nil (go_sb [18, 16, 14, 12, 10, 8, 6, 4] rfl (g_seq (g_seq (g_region (kPm rfl rfl (kPm rfl rfl ?_)))))))))))
    refine kPv (ev_cmp rfl rfl rfl) rfl (kPm rfl rfl (p_val rfl (ev_move rfl) (.on rfl rfl (beq_eq rfl)) rfl rfl (p_val rfl (ev_move rfl) (.on rfl rfl (beq_eq rfl)) rfl rfl (p_val rfl (ev_cmp rfl rfl rfl) (.on rfl rfl (beq_eq rfl)) rfl rfl (kPv (ev_pick_f rfl rfl rfl) rfl (kPm rfl rfl (p_val rfl (ev_move rfl) (.on rfl rfl (beq_eq rfl)) rfl rfl (p_val rfl (ev_move rfl) (.on rfl rfl (beq_eq rfl)) rfl rfl (p_val rfl (ev_cmp rfl rfl rfl) (.on rfl rfl (beq_eq rfl)) rfl rfl (kPv (ev_pick_f rfl rfl rfl) rfl (kPm rfl rfl ?_)))))))))))
    refine p_val rfl (ev_move rfl) (.on rfl rfl (beq_eq rfl)) rfl rfl (p_val rfl (ev_move rfl) (.on rfl rfl (beq_eq rfl)) rfl rfl (p_val rfl (ev_cmp rfl rfl rfl) (.on rfl rfl (beq_eq rfl)) rfl rfl (kPv (ev_pick_f rfl rfl rfl) rfl (kPm rfl rfl (p_val rfl (ev_move rfl) (.on rfl rfl (beq_eq rfl)) rfl rfl (p_val rfl (ev_move rfl) (.on rfl rfl (beq_eq rfl)) rfl rfl ?_))))))
    refine p_call rfl (en_f Tryz.call26 rfl) (dropW H8.hw H8.hbd 2) (.on rfl rfl (beq_eq rfl)) rfl rfl ?_ ?_
    rotate_left
    · rintro _ _ ⟨⟩
    rintro _ _ ⟨rfl, rfl⟩
    rw [if_pos k5]
    refine p_val rfl (ev_cmp rfl rfl rfl) (.on rfl rfl (beq_eq rfl)) rfl rfl (kPv (ev_pick_f rfl rfl rfl) rfl (p_nil (go_sb [151, 10, 8, 6, 4] rfl (g_iff rfl (rfl) (g_skip (g_seq (g_region (kPm rfl rfl ?_))))))))
    refine p_call rfl (en_f Tryz.call20 rfl) (rootW Hd.hw Hd.hbd 0) .free rfl rfl ?_ ?_
    rotate_left
    · rintro _ _ ⟨⟩
    rintro _ _ ⟨rfl, rfl⟩
    rw [k6]
    refine kPm rfl rfl (kPv (ev_ext rfl rfl) rfl (kPv (ev_ext rfl rfl) rfl (kPa rfl rfl (kPa rfl rfl (p_nil (go_sb [20, 10, 8, 6, 4] rfl (g_seq (g_region (kPm rfl rfl (kPm rfl rfl ?_))))))))))
    refine p_call rfl (en_f Tryz.call25 rfl) (refW H9.hw H9.hbd 1 0) .free rfl rfl ?_ ?_
    rotate_left
    · rintro _ _ ⟨⟩
    rintro _ _ ⟨rfl, rfl⟩
    rw [k7]
    refine kPm rfl rfl (kPv (ev_ext rfl rfl) rfl (kPv (ev_ext rfl rfl) rfl (kPa rfl rfl (kPa rfl rfl (p_nil (go_sb [22, 20, 10, 6, 4] rfl (g_seq (g_region (kPm rfl rfl (kPm rfl rfl (p_callq rfl (en_f Tryz.call27 rfl) (headW H9.hw H9.hbd 2) .free rfl rfl ?_)))))))))))
    refine kPm rfl rfl (kPv (ev_ext rfl rfl) rfl (kPv (ev_ext rfl rfl) rfl (p_chg rfl (ch_allocA Tryz.zeroValue38 rfl) .free rfl rfl ?_)))
    rintro _ _ ⟨b24, rfl, rfl⟩
    refine p_chg0 rfl (ch_storeA (vs := _) Tryz.sizeOf38 rfl rfl rfl rfl rfl) .free rfl ?_
    rintro _ _ rfl
    refine kPa rfl rfl (p_nil (go_sb [25, 22, 20, 4] rfl (g_seq (g_region (kPm rfl rfl (kPv (ev_cmp rfl rfl rfl) rfl (kPm rfl rfl (p_val rfl (ev_move rfl) (.on rfl rfl (beq_eq rfl)) rfl rfl (p_val rfl (ev_cmp rfl rfl rfl) (.on rfl rfl (beq_eq rfl)) rfl rfl (kPv (ev_pick_t rfl rfl rfl) rfl (kPm rfl rfl ?_)))))))))))
    refine p_val rfl (ev_move rfl) (.on rfl rfl (beq_eq rfl)) rfl rfl (p_val rfl (ev_cmp rfl rfl rfl) (.on rfl rfl (beq_eq rfl)) rfl rfl (kPv (ev_pick_t rfl rfl rfl) rfl (kPa rfl rfl (p_nil (go_sb [4] rfl (g_ret ?_))))))
    exact ret_tmp Tryz.results4 rfl (fun w hh => ⟨by rw [k8]; rfl, (hh.dp [0, 0, 0, 0, 0, 0])⟩)
  · skip
    refine g_region (kPm rfl rfl (kPm rfl rfl (p_skip rfl (.on rfl rfl (beq_ne hcl)) rfl (p_skip rfl (.on rfl rfl (beq_ne hcl)) rfl (p_skip rfl (.on rfl rfl (beq_ne hcl)) rfl (kPv (ev_pick_f rfl hcl rfl) rfl (p_nil (go_sb [104, 10, 8, 6, 4] rfl (g_iff rfl (rfl) (g_skip (g_seq ?_)))))))))))
    obtain ⟨k1, k2, k3, k4, k5, h9, Hd, k6, H9, k7, k8⟩ := Q8.told hc H8
    refine g_region (kPm rfl rfl (kPm rfl rfl ?_))
    refine p_call rfl (en_f Tryz.call25 rfl) (refW H8.hw H8.hbd 1 0) .free rfl rfl ?_ ?_
    rotate_left
    · rintro _ _ ⟨⟩
    rintro _ _ ⟨rfl, rfl⟩
    rw [k1]
    refine kPm rfl rfl (kPv (ev_ext rfl rfl) rfl (kPv (ev_ext rfl rfl) rfl (kPa rfl rfl (kPa rfl rfl (p_nil (go_sb [12, 10, 8, 6, 4] rfl (g_seq (g_region (kPm rfl rfl (kPm rfl rfl ?_))))))))))
    refine p_call rfl (en_f Tryz.call25 rfl) (refW H8.hw H8.hbd 1 1) .free rfl rfl ?_ ?_
    rotate_left
    · rintro _ _ ⟨⟩
    rintro _ _ ⟨rfl, rfl⟩
    rw [k2]
    refine kPm rfl rfl (kPv (ev_ext rfl rfl) rfl (kPv (ev_ext rfl rfl) rfl (kPa rfl rfl (kPa rfl rfl (p_nil (go_sb [14, 12, 10, 8, 6, 4] rfl (g_seq (g_region (kPm rfl rfl ?_)))))))))
    refine p_call rfl (en_f Tryz.call20 rfl) (rootW H8.hw H8.hbd 0) .free rfl rfl ?_ ?_
    rotate_left
    · rintro _ _ ⟨⟩
    rintro _ _ ⟨rfl, rfl⟩
    rw [k3]
    refine kPm rfl rfl (kPv (ev_ext rfl rfl) rfl (kPv (ev_ext rfl rfl) rfl (kPa rfl rfl (kPa rfl rfl (p_nil (g_seq (g_region (kPm rfl rfl (kPm rfl rfl ?_)))))))))
    refine p_call rfl (en_f Tryz.call25 rfl) (refW H8.hw H8.hbd 2 0) .free rfl rfl ?_ ?_
    rotate_left
    · rintro _ _ ⟨⟩
    rintro _ _ ⟨rfl, rfl⟩
    rw [k4]
    refine kPm rfl rfl (kPv (ev_ext rfl rfl) rfl (kPv (ev_ext rfl rfl) rfl (kPa rfl rfl (kPa rfl rfl (p_nil (go_sb [18, 16, 14, 12, 10, 8, 6, 4] rfl (g_seq (g_seq (g_region (kPm rfl rfl (kPm rfl rfl ?_)))))))))))
    refine kPv (ev_cmp rfl rfl rfl) rfl (kPm rfl rfl (p_val rfl (ev_move rfl) (.on rfl rfl (beq_eq rfl)) rfl rfl (p_val rfl (ev_move rfl) (.on rfl rfl (beq_eq rfl)) rfl rfl (p_val rfl (ev_cmp rfl rfl rfl) (.on rfl rfl (beq_eq rfl)) rfl rfl (kPv (ev_pick_f rfl rfl rfl) rfl (kPm rfl rfl (p_val rfl (ev_move rfl) (.on rfl rfl (beq_eq rfl)) rfl rfl (p_val rfl (ev_move rfl) (.on rfl rfl (beq_eq rfl)) rfl rfl (p_val rfl (ev_cmp rfl rfl rfl) (.on rfl rfl (beq_eq rfl)) rfl rfl (kPv (ev_pick_f rfl rfl rfl) rfl (kPm rfl rfl ?_)))))))))))
    refine p_val rfl (ev_move rfl) (.on rfl rfl (beq_eq rfl)) rfl rfl (p_val rfl (ev_move rfl) (.on rfl rfl (beq_eq rfl)) rfl rfl (p_val rfl (ev_cmp rfl rfl rfl) (.on rfl rfl (beq_eq rfl)) rfl rfl (kPv (ev_pick_f rfl rfl rfl) rfl (kPm rfl rfl (p_val rfl (ev_move rfl) (.on rfl rfl (beq_eq rfl)) rfl rfl (p_val rfl (ev_move rfl) (.on rfl rfl (beq_eq rfl)) rfl rfl ?_))))))
    refine p_call rfl (en_f Tryz.call26 rfl) (dropW H8.hw H8.hbd 2) (.on rfl rfl (beq_eq rfl)) rfl rfl ?_ ?_
    rotate_left
    · rintro _ _ ⟨⟩
    rintro _ _ ⟨rfl, rfl⟩
    rw [if_pos k5]
    refine p_val rfl (ev_cmp rfl rfl rfl) (.on rfl rfl (beq_eq rfl)) rfl rfl (kPv (ev_pick_f rfl rfl rfl) rfl (p_nil (go_sb [151, 10, 8, 6, 4] rfl (g_iff rfl (rfl) (g_skip (g_seq (g_region (kPm rfl rfl ?_))))))))
    refine p_call rfl (en_f Tryz.call20 rfl) (rootW Hd.hw Hd.hbd 0) .free rfl rfl ?_ ?_
    rotate_left
    · rintro _ _ ⟨⟩
    rintro _ _ ⟨rfl, rfl⟩
    rw [k6]
    refine kPm rfl rfl (kPv (ev_ext rfl rfl) rfl (kPv (ev_ext rfl rfl) rfl (kPa rfl rfl (kPa rfl rfl (p_nil (go_sb [20, 10, 8, 6, 4] rfl (g_seq (g_region (kPm rfl rfl (kPm rfl rfl ?_))))))))))
    refine p_call rfl (en_f Tryz.call25 rfl) (refW H9.hw H9.hbd 1 0) .free rfl rfl ?_ ?_
    rotate_left
    · rintro _ _ ⟨⟩
    rintro _ _ ⟨rfl, rfl⟩
    rw [k7]
    refine kPm rfl rfl (kPv (ev_ext rfl rfl) rfl (kPv (ev_ext rfl rfl) rfl (kPa rfl rfl (kPa rfl rfl (p_nil (go_sb [22, 20, 10, 6, 4] rfl (g_seq (g_region (kPm rfl rfl (kPm rfl rfl (p_callq rfl (en_f Tryz.call27 rfl) (headW H9.hw H9.hbd 2) .free rfl rfl ?_)))))))))))
    refine kPm rfl rfl (kPv (ev_ext rfl rfl) rfl (kPv (ev_ext rfl rfl) rfl (p_chg rfl (ch_allocA Tryz.zeroValue38 rfl) .free rfl rfl ?_)))
    rintro _ _ ⟨b24, rfl, rfl⟩
    refine p_chg0 rfl (ch_storeA (vs := _) Tryz.sizeOf38 rfl rfl rfl rfl rfl) .free rfl ?_
    rintro _ _ rfl
    refine kPa rfl rfl (p_nil (go_sb [25, 22, 20, 4] rfl (g_seq (g_region (kPm rfl rfl (kPv (ev_cmp rfl rfl rfl) rfl (kPm rfl rfl (p_val rfl (ev_move rfl) (.on rfl rfl (beq_eq rfl)) rfl rfl (p_val rfl (ev_cmp rfl rfl rfl) (.on rfl rfl (beq_eq rfl)) rfl rfl (kPv (ev_pick_t rfl rfl rfl) rfl (kPm rfl rfl ?_)))))))))))
    refine p_val rfl (ev_move rfl) (.on rfl rfl (beq_eq rfl)) rfl rfl (p_val rfl (ev_cmp rfl rfl rfl) (.on rfl rfl (beq_eq rfl)) rfl rfl (kPv (ev_pick_t rfl rfl rfl) rfl (kPa rfl rfl (p_nil (go_sb [4] rfl (g_ret ?_))))))
    exact ret_tmp Tryz.results4 rfl (fun w hh => ⟨by rw [k8]; rfl, (hh.dp [0, 0, 0, 0, 0, 0])⟩)


theorem heapNames_walk (W : World) (z : Int × Int × Int) (w0 : (Lit.int .u16 z.1).wf = true ∧ (Lit.int .u16 z.2.1).wf = true ∧ (Lit.int .u16 z.2.2).wf = true) (cl : Bool) :
    Calls Tryz.prog 4 #[.agg #[u16 z.1, u16 z.2.1, u16 z.2.2], .bool cl] W fun e w' => e = .returned (.bool true) ∧ RowKit.Below W.heap.size W w' := by
  have b0 := bounds_u16 w0.1
  have b1 := bounds_u16 w0.2.1
  have b2 := bounds_u16 w0.2.2
  exact law_of (heapNames_ok W [old W] z.1 z.2.1 z.2.2 ⟨b0.1, b1.1, b2.1⟩ cl)

namespace heapNames
open Go.ChangeShapes Go.WideShapes Go.ChangeAt Go.RowKit
set_option maxRecDepth 100000 in
theorem lifted (os : Os) (started : os.Started) (H : Type) (enc : TypeId × Value → H) :
    ReturnsInHanded {} Tryz.checked os 4 .any (Rows.heapNamesSpec.pre6 enc Tryz.prog Tryz.f4 Rows.heapNamesRow.domain false) (Rows.heapNamesSpec.post enc Tryz.prog Tryz.f4 false true false false) := by
  refine returnsInHanded_of_change (C := Tryz.checked) Tryz.ownKnobs started (by kernel_rfl) Tryz.func4
    (ChangeSpec.witness6 (enc := enc) (C := Tryz.checked) false ⟨#[], #[.agg #[.int .u16 0, .int .u16 0, .int .u16 0], .bool false], []⟩ 8 (by kernel_rfl) (by kernel_rfl) (by kernel_rfl) (by kernel_rfl)) ?_
  intro W base args ds gs before hval0 hW hcnd _
  have hval : ∀ (j : Nat) t v, Tryz.f4.params[j]? = some t → args[j]? = some v → Value.okWide Tryz.prog W .any base t v := hval0
  have hW' := hW
  obtain ⟨p, q, hA0, hV, rfl, hfz, hnd⟩ := hW
  have hA : DataW.TrodAll enc Tryz.prog W 0 (fun _ => true) true Tryz.f4.params.toList args.toList ds p := hA0
  rw [Tryz.params4] at hA hval
  obtain ⟨v0, vs0, d0, ds0, p0, q0, hargs, rfl, rfl, h0, r0⟩ := trodAll_cons hA
  obtain ⟨v1, vs1, d1, ds1, p1, q1, rfl, rfl, rfl, h1, r1⟩ := trodAll_cons r0
  obtain ⟨rfl, rfl, rfl⟩ := trodAll_nil r1
  obtain rfl : args = #[v0, v1] := by cases args; simp_all
  obtain ⟨rfl, rfl⟩ := trodVars_none hV
  have k0 := h0
  have lt0 : ∀ x ∈ p0, x.block < W.heap.size := by obtain ⟨m, hm⟩ := k0; exact DataW.trod_lt m _ _ _ hm
  obtain ⟨z0, rfl, w0⟩ := arg_st_u16_u16_u16 (hval 0 24 v0 rfl rfl) h0
  have k1 := h1
  have lt1 : ∀ x ∈ p1, x.block < W.heap.size := by obtain ⟨m, hm⟩ := k1; exact DataW.trod_lt m _ _ _ hm
  obtain ⟨a1, rfl⟩ : ∃ a, v1 = .bool a := by
    obtain ⟨a, e, _, _⟩ := open_bool Tryz.underlying4 (hval 1 4 v1 rfl rfl) h1
    exact ⟨a, e⟩
  clear hA0 hval0
  refine (heapNames_walk W z0 w0 a1).mono fun e W' ⟨he, bel⟩ => ?_
  subst he
  exact ⟨_, rfl, _, _, _, [], _, [], hW', trodAll_mk1 (shut_bool Tryz.underlying4 _), (trodAll_cons_mk (Below.trod Tryz.laidOut (by kernel_rfl) (of_decide_eq_true (by kernel_rfl)) k0 bel lt0) (trodAll_cons_mk (Below.trod Tryz.laidOut (by kernel_rfl) (of_decide_eq_true (by kernel_rfl)) k1 bel lt1) trodAll_mk0)), rfl, bel.frame _, fun h => by cases h⟩
theorem over : Rows.heapNamesRow.holds Tryz.pinned (OpenSpec.ofChange Rows.heapNamesSpec) :=
  OpenClaim.holds_of_wide 4 Tryz.f4 rfl rfl rfl rfl rfl rfl rfl ⟨rfl, rfl, rfl, rfl, rfl⟩ rfl rfl rfl rfl rfl (by kernel_rfl) Tryz.func4 (by kernel_rfl)
    (of_decide_eq_true (by kernel_rfl)) (by unfold Func.isWrapper; first | (rw [if_pos (by decide +kernel)]; kernel_rfl) | (rw [if_neg (by decide +kernel)]; exact ⟨rfl, rfl⟩))
    (fun os started H enc _ => lifted os started H enc)
/-- The statement. -/
theorem proved : Rows.HeapNamesSaid := over
end heapNames

end Go.Proofs.YtlcibdhmgclfjaaGreat
