/- The root block: what Read, Place and Has do; an object found. Conditions: none. -/
import Derived.Test.YtbfheafpecgphaaGreatHdf
import Derived.Test.YtbfheafpecgphaaGreatVec
import Derived.Test.YtbfheafpecgphaaGreatHlp
set_option linter.unusedSimpArgs false
set_option linter.unusedVariables false
set_option linter.unnecessarySimpa false
set_option linter.unusedSectionVars false
namespace Go.Proofs.YtbfheafpecgphaaGreat
set_option linter.unusedSimpArgs false
set_option linter.unusedVariables false
open Go
abbrev VecU (b : Nat) (x : Value × List Int) : HP := VecA 52 w64 b x
theorem all3 {a b : Int} {sv : Value} (h : cell1 sv = true) : ([i64 a, i64 b, sv] : List Value).all cell1 = true := by
  simp only [List.all_cons, List.all_nil, h]; rfl
theorem subw {v f : Int} (h : decide (v ≥ f) = true) (h1 : 0 ≤ f) (h2 : v < 18446744073709551616) : IntKind.u64.wrap (v - f) = v - f := by
  have h9 : f ≤ v := by simpa using h
  exact wru64 (by omega)
abbrev blkV (b : Blk) (sv : Value) : Value := .agg #[i64 b.act, i64 b.used, sv]

theorem place_ok (B : World) (H : List HP) (c : Cfg) (hc : CfgW c) (b : Blk) (sv : Value) (hb : BlkW c b) (hsv : cell1 sv = true) (i : Int) (hi : -1000000000000 ≤ i ∧ i ≤ 1000000000000) :
    ∀ w, Holds B H w → Calls Tryz.prog 94 [blkV b sv, cfgV c, i64 i].toArray w (PureR B H (i64 (b.place c i))) := by
  refine fn_enter Tryz.func94 rfl Tryz.ntmps94 rfl ?_
  have hb1 := hb.act
  have hb2 := hb.used
  have hfb := frm_b hc (k := b.act) (by omega)
  have hcs := hc.s2
  refine g_seq ?_; refine g_region ?_; refine p_chg rfl (ch_boxA rfl) .free rfl rfl ?_
  rintro _ _ ⟨b3, rfl, rfl⟩
  refine p_chg rfl (ch_boxA rfl) .free rfl rfl ?_
  rintro _ _ ⟨b4, rfl, rfl⟩
  refine kPa rfl rfl ?_; refine p_nil ?_; refine g_seq ?_; refine g_region ?_; refine kPv (ev_loadA Tryz.isAgg30 Tryz.sizeOf30 rfl rfl) rfl ?_; refine kPv (ev_fa (m := _) fa_33_0 rfl rfl) rfl ?_; refine kPv (ev_load Tryz.isAgg3 rfl rfl) rfl ?_; refine p_callq rfl (en_f Tryz.call46 rfl) (from_ok _ _ c hc b.act hb.act.1 (by have := hb.act.2; omega)) .free rfl rfl ?_
  refine kPm rfl rfl ?_
  first | refine p_val rfl (ev_add rfl rfl (wr64 (by omega))) .free rfl rfl ?_ | refine p_val rfl (ev_add rfl rfl rfl) .free rfl rfl ?_
  refine kPa rfl rfl ?_; refine p_nil ?_; refine go_sub (σ' := [(6, _)]) ⟨rfl, trivial⟩ ?_; refine g_ret ?_
  exact ret_tmp Tryz.results94 rfl (fun w hh => ⟨rfl, hh.tail.tail⟩)

theorem has_ok (B : World) (H : List HP) (c : Cfg) (hc : CfgW c) (b : Blk) (sv : Value) (hb : BlkW c b) (hsv : cell1 sv = true) (v : Int) (hv : 0 ≤ v ∧ v < 18446744073709551616) :
    ∀ w, Holds B H w → Calls Tryz.prog 82 [blkV b sv, cfgV c, w64 v].toArray w (PureR B H (.bool (b.has c v))) := by
  refine fn_enter Tryz.func82 rfl Tryz.ntmps82 rfl ?_
  have hb1 := hb.act
  have hb2 := hb.used
  have hfb := frm_b hc (k := b.act) (by omega)
  have hcs := hc.s2
  refine g_seq ?_; refine g_region ?_; refine p_chg rfl (ch_boxA rfl) .free rfl rfl ?_
  rintro _ _ ⟨b3, rfl, rfl⟩
  refine p_chg rfl (ch_boxA rfl) .free rfl rfl ?_
  rintro _ _ ⟨b4, rfl, rfl⟩
  refine kPa rfl rfl ?_; refine p_nil ?_; refine g_seq ?_; refine g_region ?_; refine kPv (ev_loadA Tryz.isAgg30 Tryz.sizeOf30 rfl rfl) rfl ?_; refine kPv (ev_fa (m := _) fa_33_0 rfl rfl) rfl ?_; refine kPv (ev_load Tryz.isAgg3 rfl rfl) rfl ?_; refine p_callq rfl (en_f Tryz.call46 rfl) (from_ok _ _ c hc b.act hb.act.1 (by have := hb.act.2; omega)) .free rfl rfl ?_
  first | refine p_val rfl (ev_conv Tryz.runUnderlying3 Tryz.runUnderlying52 rfl (wru64 (by omega))) .free rfl rfl ?_ | refine p_val rfl (ev_conv Tryz.runUnderlying3 Tryz.runUnderlying52 rfl rfl) .free rfl rfl ?_
  refine kPa rfl rfl ?_; refine p_nil ?_; refine go_sub (σ' := [(7, _), (6, _), (3, _), (2, _)]) ⟨rfl, rfl, rfl, rfl, trivial⟩ ?_; refine g_seq ?_; refine g_region ?_; refine kPm rfl rfl ?_; refine kPm rfl rfl ?_; refine kPv (ev_cmp rfl rfl rfl) rfl ?_; refine kPm rfl rfl ?_
  apply p_and (tp := 24) (t := 16) (σ1 := [(16, _), (6, _)]) 8 rfl ⟨rfl, rfl, trivial⟩
  · intro hg1
    refine p_val rfl (ev_move rfl) (.on rfl rfl (beq_eq hg1)) rfl rfl ?_; refine p_val rfl (ev_move rfl) (.on rfl rfl (beq_eq hg1)) rfl rfl ?_; refine p_val rfl (ev_sub (c := v - c.frm b.act) rfl rfl (subw hg1 (by omega) (by omega))) (.on rfl rfl (beq_eq hg1)) rfl rfl ?_; refine p_val rfl (ev_fa (m := _) fa_33_1 rfl rfl) (.on rfl rfl (beq_eq hg1)) rfl rfl ?_; refine p_val rfl (ev_load Tryz.isAgg3 rfl rfl) (.on rfl rfl (beq_eq hg1)) rfl rfl ?_
    first | refine p_val rfl (ev_conv Tryz.runUnderlying3 Tryz.runUnderlying52 rfl (wru64 (by omega))) (.on rfl rfl (beq_eq hg1)) rfl rfl ?_ | refine p_val rfl (ev_conv Tryz.runUnderlying3 Tryz.runUnderlying52 rfl rfl) (.on rfl rfl (beq_eq hg1)) rfl rfl ?_
    refine p_val rfl (ev_cmp rfl rfl rfl) (.on rfl rfl (beq_eq hg1)) rfl rfl ?_; refine kPv (ev_pick_t rfl hg1 rfl) rfl ?_
    exact p_seg rfl ⟨rfl, rfl, trivial⟩ (and_t hg1)
  · intro hg1
    refine p_skip rfl (.on rfl rfl (beq_ne hg1)) rfl ?_; refine p_skip rfl (.on rfl rfl (beq_ne hg1)) rfl ?_; refine p_skip rfl (.on rfl rfl (beq_ne hg1)) rfl ?_; refine p_skip rfl (.on rfl rfl (beq_ne hg1)) rfl ?_; refine p_skip rfl (.on rfl rfl (beq_ne hg1)) rfl ?_; refine p_skip rfl (.on rfl rfl (beq_ne hg1)) rfl ?_; refine p_skip rfl (.on rfl rfl (beq_ne hg1)) rfl ?_; refine kPv (ev_pick_f rfl hg1 rfl) rfl ?_
    exact p_seg rfl ⟨rfl, rfl, trivial⟩ (and_f hg1)
  refine kPa rfl rfl ?_; refine p_nil ?_; refine g_ret ?_
  exact ret_tmp Tryz.results82 rfl (fun w hh => ⟨by rfl, hh.tail.tail⟩)

theorem tab_succ {α : Type} {n : Nat} {f : Nat → α} : tab (n + 1) f = tab n f ++ [f n] := by simp [tab, List.range_succ]
theorem act_b {c : Cfg} (hc : CfgW c) : 24 ≤ c.active ∧ c.active + 2 + c.roots ≤ c.words ∧ c.words ≤ 20000 := by
  have h1 := frm_b hc (k := 0) (by decide)
  have h2 := hc.act
  have := hc.r1
  have := hc.l1
  omega
theorem rread_ok (B : World) (Fr : List HP) (bd : Nat) (s : Dev) (c : Cfg) (hc : CfgW c) (hu : U64 s) :
    ∀ w, Holds B (DevA bd s :: Fr) w → Calls Tryz.prog 15 [ptr bd, cfgV c].toArray w (Ret B (fun rv H' => ∃ sv, cell1 sv = true ∧ rv = .tuple #[blkV (s.block c).1 sv, i64 (s.block c).2] ∧ H' = VecU 0 (sv, (s.block c).1.rts) :: DevA bd s :: Fr) (fun _ _ => False)) := by
  refine fn_enter Tryz.func15 rfl Tryz.ntmps15 rfl ?_
  obtain ⟨hA1, hA2, hA3⟩ := act_b hc
  have hl1 := hu.load c.active
  have hl2 := hu.load (c.active + 1)
  have hr1 := hc.r1
  have hr2 := hc.r2
  have hs2 := hc.s2
  have hs1 := hc.s1
  obtain ⟨nr, hnr⟩ : ∃ nr : Nat, (nr : Int) = c.roots := ⟨c.roots.toNat, by omega⟩
  have hnr2 : c.roots.toNat = nr := by omega
  refine g_seq ?_; refine g_region ?_; refine p_chg rfl (ch_boxA rfl) .free rfl rfl ?_
  rintro _ _ ⟨b3, rfl, rfl⟩
  refine p_chg rfl (ch_allocA Tryz.zeroValue33 rfl) .free rfl rfl ?_
  rintro _ _ ⟨b4, rfl, rfl⟩
  refine kPa rfl rfl ?_; refine p_nil ?_; refine g_seq ?_; refine g_draw Tryz.mixed (by kernel_rfl) (by kernel_rfl) ?_; refine kQm rfl rfl ?_; refine kQv (ev_loadA Tryz.isAgg30 Tryz.sizeOf30 rfl rfl) rfl ?_; refine q_call rfl (en_f Tryz.call45 rfl) (active_ok _ _ c hc) .free rfl ?_; refine q_call rfl (en_f Tryz.call72 rfl) (ro_at (q := DevA) (fun Fr => nload_ok _ Fr _ _ _)) .free rfl ?_; refine kQm rfl rfl ?_; refine kQv (ev_loadA Tryz.isAgg30 Tryz.sizeOf30 rfl rfl) rfl ?_
  refine q_call rfl (en_f Tryz.call73 rfl) (cused_ok _ _ c hc) .free rfl ?_; refine q_call rfl (en_f Tryz.call72 rfl) (ro_at (q := DevA) (fun Fr => nload_ok _ Fr _ _ _)) .free rfl ?_; refine kQa rfl rfl ?_; refine kQa rfl rfl ?_; refine q_nil ?_; refine go_sub (σ' := [(7, _), (6, _), (5, _), (4, _), (3, _), (0, _)]) ⟨rfl, rfl, rfl, rfl, rfl, rfl, trivial⟩ ?_; refine g_seq ?_; refine g_seq ?_; refine g_region ?_; refine kPm rfl rfl ?_; refine kPv (ev_cmp rfl rfl rfl) rfl ?_; refine kPm rfl rfl ?_
  apply p_or (tp := 26) (t := 20) (σ1 := [(20, _), (7, _), (6, _), (5, _), (4, _), (3, _), (0, _)]) 6 rfl ⟨rfl, rfl, rfl, rfl, rfl, rfl, rfl, trivial⟩
  · intro hg1
    refine p_val rfl (ev_move rfl) (.on rfl rfl (beq_eq hg1)) rfl rfl ?_; refine p_val rfl (ev_fa (m := _) fa_30_2 rfl rfl) (.on rfl rfl (beq_eq hg1)) rfl rfl ?_; refine p_val rfl (ev_load Tryz.isAgg3 rfl rfl) (.on rfl rfl (beq_eq hg1)) rfl rfl ?_
    first | refine p_val rfl (ev_conv Tryz.runUnderlying3 Tryz.runUnderlying52 rfl (wru64 (by omega))) (.on rfl rfl (beq_eq hg1)) rfl rfl ?_ | refine p_val rfl (ev_conv Tryz.runUnderlying3 Tryz.runUnderlying52 rfl rfl) (.on rfl rfl (beq_eq hg1)) rfl rfl ?_
    refine p_val rfl (ev_cmp rfl rfl rfl) (.on rfl rfl (beq_eq hg1)) rfl rfl ?_; refine kPv (ev_pick_f rfl hg1 rfl) rfl ?_
    exact p_seg rfl ⟨rfl, rfl, rfl, rfl, rfl, rfl, rfl, trivial⟩ (or_f hg1)
  · intro hg1
    refine p_skip rfl (.on rfl rfl (beq_ne hg1)) rfl ?_; refine p_skip rfl (.on rfl rfl (beq_ne hg1)) rfl ?_; refine p_skip rfl (.on rfl rfl (beq_ne hg1)) rfl ?_; refine p_skip rfl (.on rfl rfl (beq_ne hg1)) rfl ?_; refine p_skip rfl (.on rfl rfl (beq_ne hg1)) rfl ?_; refine kPv (ev_pick_t rfl hg1 rfl) rfl ?_
    exact p_seg rfl ⟨rfl, rfl, rfl, rfl, rfl, rfl, rfl, trivial⟩ (or_t hg1)
  refine p_nil ?_
  refine g_if rfl (fun h26 => ?_) (fun h26 => ?_)
  · have hbad : 1 < s.load c.active ∨ c.space < s.load (c.active + 1) := by simpa using h26
    have hblk : s.block c = (⟨0, 0, []⟩, 10) := by unfold Dev.block; rw [if_pos hbad]
    refine g_seq ?_; refine g_region ?_; refine kPv (ev_build rfl (bld_33)) rfl ?_; refine p_chg0 rfl (ch_storeA (vs := _) Tryz.sizeOf33 rfl rfl rfl rfl rfl) .free rfl ?_
    rintro _ _ rfl
    refine kPa rfl rfl ?_; refine p_nil ?_; refine g_ret ?_
    exact ret_2 Tryz.results15 (.cellA rfl Tryz.isAgg33 Tryz.sizeOf33 rfl rfl) (.tmp rfl) (fun w hh => ⟨_, ⟨.slice none 0 0, rfl, by rw [hblk]; rfl, rfl⟩, by rw [hblk]; exact vec_nil hh.tail.tail⟩)
  · have hgd : ¬(1 < s.load c.active ∨ c.space < s.load (c.active + 1)) := by simpa using h26
    have hblk : s.block c = (⟨s.load c.active, s.load (c.active + 1), tab nr fun i => s.load (c.root i)⟩, 0) := by unfold Dev.block; rw [if_neg hgd, hnr2]
    refine g_skip ?_; refine g_seq ?_; refine g_region ?_; refine kPm rfl rfl ?_
    first | refine p_val rfl (ev_conv Tryz.runUnderlying52 Tryz.runUnderlying3 rfl (wr64 (by omega))) .free rfl rfl ?_ | refine p_val rfl (ev_conv Tryz.runUnderlying52 Tryz.runUnderlying3 rfl rfl) .free rfl rfl ?_
    refine kPm rfl rfl ?_
    first | refine p_val rfl (ev_conv Tryz.runUnderlying52 Tryz.runUnderlying3 rfl (wr64 (by omega))) .free rfl rfl ?_ | refine p_val rfl (ev_conv Tryz.runUnderlying52 Tryz.runUnderlying3 rfl rfl) .free rfl rfl ?_
    refine kPv (ev_build rfl (bld_33_0_1 _ _ rfl rfl)) rfl ?_; refine p_chg rfl (ch_allocA Tryz.zeroValue33 rfl) .free rfl rfl ?_
    rintro _ _ ⟨b8, rfl, rfl⟩
    refine p_chg0 rfl (ch_storeA (vs := _) Tryz.sizeOf33 rfl rfl rfl rfl rfl) .free rfl ?_
    rintro _ _ rfl
    refine p_nil ?_; refine go_sub (σ' := [(8, _), (5, _), (4, _), (3, _), (0, _)]) ⟨rfl, rfl, rfl, rfl, rfl, trivial⟩ ?_; refine g_seq ?_; refine g_seq ?_; refine g_region ?_; refine kPv (ev_fa (m := _) fa_30_1 rfl rfl) rfl ?_; refine kPv (ev_load Tryz.isAgg3 rfl rfl) rfl ?_; refine kPm rfl rfl ?_; refine p_nil ?_; refine g_block ?_
    refine g_loop (ι := Nat × Value) (fun i => i.1 ≤ nr ∧ cell1 i.2 = true) (fun i => [(0, ptr bd), (3, ptr b3), (4, ptr b4), (5, i64 0), (8, ptr b8), (34, i64 c.roots), (35, i64 i.1)]) (fun i => VecU 0 (i.2, tab i.1 fun j => s.load (c.root j)) :: row b8 [i64 (s.load c.active), i64 (s.load (c.active + 1)), i.2] 33 :: row b4 [i64 0, i64 0, .slice none 0 0] 33 :: row b3 [i64 c.log, i64 c.roots, i64 c.space] 30 :: DevA bd s :: Fr) (fun i => nr - i.1) (0, .slice none 0 0) ⟨Nat.zero_le _, rfl⟩ (fun a w st => st.to ⟨rfl, rfl, rfl, rfl, rfl, rfl, rfl, trivial⟩ (fun hh => vec_nil hh)) ?_
    rintro ⟨k, sv⟩ ⟨hk0, hsv⟩
    simp only at hk0 hsv ⊢
    refine g_seq ?_; refine g_region ?_; refine kPv (ev_cmp rfl rfl rfl) rfl ?_; refine p_nil ?_; refine g_seq ?_
    refine g_if rfl (fun h36 => ?_) (fun h36 => ?_)
    · have hk : k < nr := by simp at h36; omega
      refine g_skip ?_; refine g_seq ?_; refine g_block ?_; refine g_seq ?_; refine g_region ?_; refine kPm rfl rfl ?_; refine kPa rfl rfl ?_; refine p_nil ?_; refine g_drawv [0, 1, 2, 3, 4, 5, 6, 7, 8, 9, 10] [5, 6, 7, 8, 10] [0, 1, 2] [5, 6, 7] [row b8 [i64 (s.load c.active), i64 (s.load (c.active + 1)), sv] 33] Tryz.mixed (by kernel_rfl) ?_; refine v_hoist rfl rfl rfl (ev_fa (m := _) fa_33_2 rfl rfl) .free rfl ?_; refine v_hoist rfl rfl rfl (ev_load Tryz.isAgg31 rfl rfl) .free rfl ?_
      refine v_hoist rfl rfl rfl (ev_move rfl) .free rfl ?_; refine v_val rfl rfl rfl (ev_loadA Tryz.isAgg30 Tryz.sizeOf30 rfl rfl) .free rfl ?_; refine v_val rfl rfl rfl (ev_move rfl) .free rfl ?_; refine v_mark rfl rfl ?_; refine p_callq rfl (en_f Tryz.call71 rfl) (root_ok _ _ c hc _ (by omega) (by omega)) .free rfl rfl ?_; refine p_nil ?_; refine v_on ?_; refine v_mark rfl rfl ?_; refine p_callq rfl (en_f Tryz.call72 rfl) (ro_at (q := DevA) (fun Fr => nload_ok _ Fr _ _ _)) .free rfl rfl ?_
      refine p_nil ?_; refine v_on ?_; refine v_mark rfl rfl ?_; refine p_chg rfl (ch_bs1 Tryz.runUnderlying31 Tryz.sizeOf52 Tryz.zeroValue52 rfl rfl rfl) .free rfl rfl ?_
      rintro _ _ ⟨b1, rfl, rfl⟩
      refine go_front 1 rfl ?_
      simp only [List.eraseIdx_cons_succ, List.eraseIdx_cons_zero]
      refine p_nil ?_; refine v_on ?_; refine v_mark rfl rfl ?_; refine p_chg rfl (ch_append_vec rfl rfl Tryz.runUnderlying31 Tryz.runUnderlying31 ⟨_, rfl⟩ Tryz.sizeOf52 Tryz.zeroValue52 rfl (fun _ => rfl) tb_52 rfl rfl (by rw [tab_len]; omega)) .free rfl rfl ?_
      rintro sv2 _ ⟨hsv2, rfl⟩
      refine p_nil ?_; refine v_off rfl ?_; refine v_val rfl rfl rfl (ev_fa (m := _) fa_33_2 rfl rfl) .free rfl ?_; refine v_mark rfl rfl ?_; refine p_chg0 rfl (ch_store Tryz.sizeOf31 rfl rfl hsv2 rfl) .free rfl ?_
      rintro _ _ rfl
      refine p_nil ?_; refine v_off rfl ?_; refine v_nil ?_; refine go_sub (σ' := [(35, _), (34, _), (8, _), (5, _), (4, _), (3, _), (0, _)]) ⟨rfl, rfl, rfl, rfl, rfl, rfl, rfl, trivial⟩ ?_; refine g_region ?_
      first | refine p_val rfl (ev_add rfl rfl (wr64 (by omega))) .free rfl rfl ?_ | refine p_val rfl (ev_add rfl rfl rfl) .free rfl rfl ?_
      refine kPm rfl rfl ?_; refine p_nil ?_
      exact fun a w st => ⟨(k + 1, sv2), ⟨by simp only; omega, hsv2⟩, by simp only; omega, st.to ⟨rfl, rfl, rfl, rfl, rfl, rfl, rfl, trivial⟩ (fun hh => by rw [← tab_succ] at hh; exact hh)⟩
    · have hk : ¬ k < nr := by simp at h36; omega
      obtain rfl : k = nr := by omega
      refine g_exit ?_; refine g_seq ?_; refine g_region ?_; refine kPv (ev_loadA Tryz.isAgg33 Tryz.sizeOf33 rfl rfl) rfl ?_; refine p_chg0 rfl (ch_storeA (vs := [i64 (s.load c.active), i64 (s.load (c.active + 1)), sv]) Tryz.sizeOf33 rfl rfl rfl (all3 hsv) rfl) .free rfl ?_
      rintro _ _ rfl
      refine kPa rfl rfl ?_; refine p_nil ?_; refine go_sub (σ' := [(5, _), (4, _)]) ⟨rfl, rfl, trivial⟩ ?_; refine g_ret ?_
      exact ret_2 Tryz.results15 (.cellA rfl Tryz.isAgg33 Tryz.sizeOf33 rfl rfl) (.tmp rfl) (fun w hh => ⟨_, ⟨sv, hsv, by rw [hblk]; rfl, rfl⟩, by rw [hblk]; exact (((hh.front 3 rfl).front 3 rfl).front 3 rfl).tail.tail.tail⟩)

end Go.Proofs.YtbfheafpecgphaaGreat
