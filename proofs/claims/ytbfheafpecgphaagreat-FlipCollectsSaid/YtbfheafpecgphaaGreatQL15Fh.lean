/- Part of the texts beneath a law: what its proof names. Conditions: none. -/
import Derived.Test.YtbfheafpecgphaaGreatQL15Fg
set_option linter.unusedSimpArgs false
set_option linter.unusedVariables false
set_option linter.unnecessarySimpa false
set_option linter.unusedSectionVars false
namespace Go.Proofs.YtbfheafpecgphaaGreat
open Go
abbrev VecU (b : Nat) (x : Value × List Int) : HP := VecA 52 w64 b x
theorem all3 {a b : Int} {sv : Value} (h : cell1 sv = true) : ([i64 a, i64 b, sv] : List Value).all cell1 = true := by
  simp only [List.all_cons, List.all_nil, h]; rfl
theorem subw {v f : Int} (h : decide (v ≥ f) = true) (h1 : 0 ≤ f) (h2 : v < 18446744073709551616) : IntKind.u64.wrap (v - f) = v - f := by
  have h9 : f ≤ v := by simpa using h
  exact wru64 (by omega)
abbrev blkV (b : Blk) (sv : Value) : Value := .agg #[i64 b.act, i64 b.used, sv]
theorem place_ok (B : World) (H : List HP) (c : Cfg) (hc : CfgW c) (b : Blk) (sv : Value) (hb : BlkW c b) (hsv : cell1 sv = true) (i : Int) (hi : -1000000000000 ≤ i ∧ i ≤ 1000000000000) :
    ∀ w, Holds B H w → Calls Tryz.prog 94 [blkV b sv, cfgV c, i64 i].toArray w (PureR B H (i64 (b.place c i))) := by
  refine fn_enter Tryz.func94 rfl Tryz.ntmps94 rfl ?_
  have hb1 := hb.act
  have hb2 := hb.used
  have hfb := frm_b hc (k := b.act) (by omega)
  have hcs := hc.s2
  refine g_seq ?_; refine g_region ?_; refine p_chg rfl (ch_boxA rfl) .free rfl rfl ?_
  rintro _ _ ⟨b3, rfl, rfl⟩
  refine p_chg rfl (ch_boxA rfl) .free rfl rfl ?_
  rintro _ _ ⟨b4, rfl, rfl⟩
  refine kPa rfl rfl ?_; refine p_nil ?_; refine g_seq ?_; refine g_region ?_; refine kPv (ev_loadA Tryz.isAgg30 Tryz.sizeOf30 rfl rfl) rfl ?_; refine kPv (ev_fa (m := _) fa_33_0 rfl rfl) rfl ?_; refine kPv (ev_load Tryz.isAgg3 rfl rfl) rfl ?_; refine p_callq rfl (en_f Tryz.call46 rfl) (from_ok _ _ c hc b.act hb.act.1 (by have := hb.act.2; omega)) .free rfl rfl ?_
  refine kPm rfl rfl ?_
  first | refine p_val rfl (ev_add rfl rfl (wr64 (by omega))) .free rfl rfl ?_ | refine p_val rfl (ev_add rfl rfl rfl) .free rfl rfl ?_
  refine kPa rfl rfl ?_; refine p_nil ?_; refine go_sub (σ' := [(6, _)]) ⟨rfl, trivial⟩ ?_; refine g_ret ?_
  exact ret_tmp Tryz.results94 rfl (fun w hh => ⟨rfl, hh.tail.tail⟩)
theorem has_ok (B : World) (H : List HP) (c : Cfg) (hc : CfgW c) (b : Blk) (sv : Value) (hb : BlkW c b) (hsv : cell1 sv = true) (v : Int) (hv : 0 ≤ v ∧ v < 18446744073709551616) :
    ∀ w, Holds B H w → Calls Tryz.prog 82 [blkV b sv, cfgV c, w64 v].toArray w (PureR B H (.bool (b.has c v))) := by
  refine fn_enter Tryz.func82 rfl Tryz.ntmps82 rfl ?_
  have hb1 := hb.act
  have hb2 := hb.used
  have hfb := frm_b hc (k := b.act) (by omega)
  have hcs := hc.s2
  refine g_seq ?_; refine g_region ?_; refine p_chg rfl (ch_boxA rfl) .free rfl rfl ?_
  rintro _ _ ⟨b3, rfl, rfl⟩
  refine p_chg rfl (ch_boxA rfl) .free rfl rfl ?_
  rintro _ _ ⟨b4, rfl, rfl⟩
  refine kPa rfl rfl ?_; refine p_nil ?_; refine g_seq ?_; refine g_region ?_; refine kPv (ev_loadA Tryz.isAgg30 Tryz.sizeOf30 rfl rfl) rfl ?_; refine kPv (ev_fa (m := _) fa_33_0 rfl rfl) rfl ?_; refine kPv (ev_load Tryz.isAgg3 rfl rfl) rfl ?_; refine p_callq rfl (en_f Tryz.call46 rfl) (from_ok _ _ c hc b.act hb.act.1 (by have := hb.act.2; omega)) .free rfl rfl ?_
  first | refine p_val rfl (ev_conv Tryz.runUnderlying3 Tryz.runUnderlying52 rfl (wru64 (by omega))) .free rfl rfl ?_ | refine p_val rfl (ev_conv Tryz.runUnderlying3 Tryz.runUnderlying52 rfl rfl) .free rfl rfl ?_
  refine kPa rfl rfl ?_; refine p_nil ?_; refine go_sub (σ' := [(7, _), (6, _), (3, _), (2, _)]) ⟨rfl, rfl, rfl, rfl, trivial⟩ ?_; refine g_seq ?_; refine g_region ?_; refine kPm rfl rfl ?_; refine kPm rfl rfl ?_; refine kPv (ev_cmp rfl rfl rfl) rfl ?_; refine kPm rfl rfl ?_
  apply p_and (tp := 24) (t := 16) (σ1 := [(16, _), (6, _)]) 8 rfl ⟨rfl, rfl, trivial⟩
  · intro hg1
    refine p_val rfl (ev_move rfl) (.on rfl rfl (beq_eq hg1)) rfl rfl ?_; refine p_val rfl (ev_move rfl) (.on rfl rfl (beq_eq hg1)) rfl rfl ?_; refine p_val rfl (ev_sub (c := v - c.frm b.act) rfl rfl (subw hg1 (by omega) (by omega))) (.on rfl rfl (beq_eq hg1)) rfl rfl ?_; refine p_val rfl (ev_fa (m := _) fa_33_1 rfl rfl) (.on rfl rfl (beq_eq hg1)) rfl rfl ?_; refine p_val rfl (ev_load Tryz.isAgg3 rfl rfl) (.on rfl rfl (beq_eq hg1)) rfl rfl ?_
    first | refine p_val rfl (ev_conv Tryz.runUnderlying3 Tryz.runUnderlying52 rfl (wru64 (by omega))) (.on rfl rfl (beq_eq hg1)) rfl rfl ?_ | refine p_val rfl (ev_conv Tryz.runUnderlying3 Tryz.runUnderlying52 rfl rfl) (.on rfl rfl (beq_eq hg1)) rfl rfl ?_
    refine p_val rfl (ev_cmp rfl rfl rfl) (.on rfl rfl (beq_eq hg1)) rfl rfl ?_; refine kPv (ev_pick_t rfl hg1 rfl) rfl ?_
    exact p_seg rfl ⟨rfl, rfl, trivial⟩ (and_t hg1)
  · intro hg1
    refine p_skip rfl (.on rfl rfl (beq_ne hg1)) rfl ?_; refine p_skip rfl (.on rfl rfl (beq_ne hg1)) rfl ?_; refine p_skip rfl (.on rfl rfl (beq_ne hg1)) rfl ?_; refine p_skip rfl (.on rfl rfl (beq_ne hg1)) rfl ?_; refine p_skip rfl (.on rfl rfl (beq_ne hg1)) rfl ?_; refine p_skip rfl (.on rfl rfl (beq_ne hg1)) rfl ?_; refine p_skip rfl (.on rfl rfl (beq_ne hg1)) rfl ?_; refine kPv (ev_pick_f rfl hg1 rfl) rfl ?_
    exact p_seg rfl ⟨rfl, rfl, trivial⟩ (and_f hg1)
  refine kPa rfl rfl ?_; refine p_nil ?_; refine g_ret ?_
  exact ret_tmp Tryz.results82 rfl (fun w hh => ⟨by rfl, hh.tail.tail⟩)
theorem tab_succ {α : Type} {n : Nat} {f : Nat → α} : tab (n + 1) f = tab n f ++ [f n] := by simp [tab, List.range_succ]
theorem act_b {c : Cfg} (hc : CfgW c) : 24 ≤ c.active ∧ c.active + 2 + c.roots ≤ c.words ∧ c.words ≤ 20000 := by
  have h1 := frm_b hc (k := 0) (by decide)
  have h2 := hc.act
  have := hc.r1
  have := hc.l1
  omega
theorem rread_ok (B : World) (Fr : List HP) (bd : Nat) (s : Dev) (c : Cfg) (hc : CfgW c) (hu : U64 s) :
    ∀ w, Holds B (DevA bd s :: Fr) w → Calls Tryz.prog 15 [ptr bd, cfgV c].toArray w (Ret B (fun rv H' => ∃ sv, cell1 sv = true ∧ rv = .tuple #[blkV (s.block c).1 sv, i64 (s.block c).2] ∧ H' = VecU 0 (sv, (s.block c).1.rts) :: DevA bd s :: Fr) (fun _ _ => False)) := by
  refine fn_enter Tryz.func15 rfl Tryz.ntmps15 rfl ?_
  obtain ⟨hA1, hA2, hA3⟩ := act_b hc
  have hl1 := hu.load c.active
  have hl2 := hu.load (c.active + 1)
  have hr1 := hc.r1
  have hr2 := hc.r2
  have hs2 := hc.s2
  have hs1 := hc.s1
  obtain ⟨nr, hnr⟩ : ∃ nr : Nat, (nr : Int) = c.roots := ⟨c.roots.toNat, by omega⟩
  have hnr2 : c.roots.toNat = nr := by omega
  refine g_seq ?_; refine g_region ?_; refine p_chg rfl (ch_boxA rfl) .free rfl rfl ?_
  rintro _ _ ⟨b3, rfl, rfl⟩
  refine p_chg rfl (ch_allocA Tryz.zeroValue33 rfl) .free rfl rfl ?_
  rintro _ _ ⟨b4, rfl, rfl⟩
  refine kPa rfl rfl ?_; refine p_nil ?_; refine g_seq ?_; refine g_draw Tryz.mixed (by kernel_rfl) (by kernel_rfl) ?_; refine kQm rfl rfl ?_; refine kQv (ev_loadA Tryz.isAgg30 Tryz.sizeOf30 rfl rfl) rfl ?_; refine q_call rfl (en_f Tryz.call45 rfl) (active_ok _ _ c hc) .free rfl ?_; refine q_call rfl (en_f Tryz.call72 rfl) (ro_at (q := DevA) (fun Fr => nload_ok _ Fr _ _ _)) .free rfl ?_; refine kQm rfl rfl ?_; refine kQv (ev_loadA Tryz.isAgg30 Tryz.sizeOf30 rfl rfl) rfl ?_
  refine q_call rfl (en_f Tryz.call73 rfl) (cused_ok _ _ c hc) .free rfl ?_; refine q_call rfl (en_f Tryz.call72 rfl) (ro_at (q := DevA) (fun Fr => nload_ok _ Fr _ _ _)) .free rfl ?_; refine kQa rfl rfl ?_; refine kQa rfl rfl ?_; refine q_nil ?_; refine go_sub (σ' := [(7, _), (6, _), (5, _), (4, _), (3, _), (0, _)]) ⟨rfl, rfl, rfl, rfl, rfl, rfl, trivial⟩ ?_; refine g_seq ?_; refine g_seq ?_; refine g_region ?_; refine kPm rfl rfl ?_; refine kPv (ev_cmp rfl rfl rfl) rfl ?_; refine kPm rfl rfl ?_
  apply p_or (tp := 26) (t := 20) (σ1 := [(20, _), (7, _), (6, _), (5, _), (4, _), (3, _), (0, _)]) 6 rfl ⟨rfl, rfl, rfl, rfl, rfl, rfl, rfl, trivial⟩
  · intro hg1
    refine p_val rfl (ev_move rfl) (.on rfl rfl (beq_eq hg1)) rfl rfl ?_; refine p_val rfl (ev_fa (m := _) fa_30_2 rfl rfl) (.on rfl rfl (beq_eq hg1)) rfl rfl ?_; refine p_val rfl (ev_load Tryz.isAgg3 rfl rfl) (.on rfl rfl (beq_eq hg1)) rfl rfl ?_
    first | refine p_val rfl (ev_conv Tryz.runUnderlying3 Tryz.runUnderlying52 rfl (wru64 (by omega))) (.on rfl rfl (beq_eq hg1)) rfl rfl ?_ | refine p_val rfl (ev_conv Tryz.runUnderlying3 Tryz.runUnderlying52 rfl rfl) (.on rfl rfl (beq_eq hg1)) rfl rfl ?_
    refine p_val rfl (ev_cmp rfl rfl rfl) (.on rfl rfl (beq_eq hg1)) rfl rfl ?_; refine kPv (ev_pick_f rfl hg1 rfl) rfl ?_
    exact p_seg rfl ⟨rfl, rfl, rfl, rfl, rfl, rfl, rfl, trivial⟩ (or_f hg1)
  · intro hg1
    refine p_skip rfl (.on rfl rfl (beq_ne hg1)) rfl ?_; refine p_skip rfl (.on rfl rfl (beq_ne hg1)) rfl ?_; refine p_skip rfl (.on rfl rfl (beq_ne hg1)) rfl ?_; refine p_skip rfl (.on rfl rfl (beq_ne hg1)) rfl ?_; refine p_skip rfl (.on rfl rfl (beq_ne hg1)) rfl ?_; refine kPv (ev_pick_t rfl hg1 rfl) rfl ?_
    exact p_seg rfl ⟨rfl, rfl, rfl, rfl, rfl, rfl, rfl, trivial⟩ (or_t hg1)
  refine p_nil ?_
  refine g_if rfl (fun h26 => ?_) (fun h26 => ?_)
  · have hbad : 1 < s.load c.active ∨ c.space < s.load (c.active + 1) := by simpa using h26
    have hblk : s.block c = (⟨0, 0, []⟩, 10) := by unfold Dev.block; rw [if_pos hbad]
    refine g_seq ?_; refine g_region ?_; refine kPv (ev_build rfl (bld_33)) rfl ?_; refine p_chg0 rfl (ch_storeA (vs := _) Tryz.sizeOf33 rfl rfl rfl (by first | rfl | exact all3 (by assumption)) rfl) .free rfl ?_
    rintro _ _ rfl
    refine kPa rfl rfl ?_; refine p_nil ?_; refine g_ret ?_
    exact ret_2 Tryz.results15 (.cellA rfl Tryz.isAgg33 Tryz.sizeOf33 rfl rfl) (.tmp rfl) (fun w hh => ⟨_, ⟨.slice none 0 0, rfl, by rw [hblk]; rfl, rfl⟩, by rw [hblk]; exact vec_nil hh.tail.tail⟩)
  · have hgd : ¬(1 < s.load c.active ∨ c.space < s.load (c.active + 1)) := by simpa using h26
    have hblk : s.block c = (⟨s.load c.active, s.load (c.active + 1), tab nr fun i => s.load (c.root i)⟩, 0) := by unfold Dev.block; rw [if_neg hgd, hnr2]
    refine g_skip ?_; refine g_seq ?_; refine g_region ?_; refine kPm rfl rfl ?_
    first | refine p_val rfl (ev_conv Tryz.runUnderlying52 Tryz.runUnderlying3 rfl (wr64 (by omega))) .free rfl rfl ?_ | refine p_val rfl (ev_conv Tryz.runUnderlying52 Tryz.runUnderlying3 rfl rfl) .free rfl rfl ?_
    refine kPm rfl rfl ?_
    first | refine p_val rfl (ev_conv Tryz.runUnderlying52 Tryz.runUnderlying3 rfl (wr64 (by omega))) .free rfl rfl ?_ | refine p_val rfl (ev_conv Tryz.runUnderlying52 Tryz.runUnderlying3 rfl rfl) .free rfl rfl ?_
    refine kPv (ev_build rfl (bld_33_0_1 _ _ rfl rfl)) rfl ?_; refine p_chg rfl (ch_allocA Tryz.zeroValue33 rfl) .free rfl rfl ?_
    rintro _ _ ⟨b8, rfl, rfl⟩
    refine p_chg0 rfl (ch_storeA (vs := _) Tryz.sizeOf33 rfl rfl rfl (by first | rfl | exact all3 (by assumption)) rfl) .free rfl ?_
    rintro _ _ rfl
    refine p_nil ?_; refine go_sub (σ' := [(8, _), (5, _), (4, _), (3, _), (0, _)]) ⟨rfl, rfl, rfl, rfl, rfl, trivial⟩ ?_; refine g_seq ?_; refine g_seq ?_; refine g_region ?_; refine kPv (ev_fa (m := _) fa_30_1 rfl rfl) rfl ?_; refine kPv (ev_load Tryz.isAgg3 rfl rfl) rfl ?_; refine kPm rfl rfl ?_; refine p_nil ?_; refine g_block ?_
    refine g_loop (ι := Nat × Value) (fun i => i.1 ≤ nr ∧ cell1 i.2 = true) (fun i => [(0, ptr bd), (3, ptr b3), (4, ptr b4), (5, i64 0), (8, ptr b8), (34, i64 c.roots), (35, i64 i.1)]) (fun i => VecU 0 (i.2, tab i.1 fun j => s.load (c.root j)) :: row b8 [i64 (s.load c.active), i64 (s.load (c.active + 1)), i.2] 33 :: row b4 [i64 0, i64 0, .slice none 0 0] 33 :: row b3 [i64 c.log, i64 c.roots, i64 c.space] 30 :: DevA bd s :: Fr) (fun i => nr - i.1) (0, .slice none 0 0) ⟨Nat.zero_le _, rfl⟩ (fun a w st => st.to ⟨rfl, rfl, rfl, rfl, rfl, rfl, rfl, trivial⟩ (fun hh => vec_nil hh)) ?_
    rintro ⟨k, sv⟩ ⟨hk0, hsv⟩
    simp only at hk0 hsv ⊢
    refine g_seq ?_; refine g_region ?_; refine kPv (ev_cmp rfl rfl rfl) rfl ?_; refine p_nil ?_; refine g_seq ?_
    refine g_if rfl (fun h36 => ?_) (fun h36 => ?_)
    · have hk : k < nr := by simp at h36; omega
      refine g_skip ?_; refine g_seq ?_; refine g_block ?_; refine g_seq ?_; refine g_region ?_; refine kPm rfl rfl ?_; refine kPa rfl rfl ?_; refine p_nil ?_; refine g_drawv [0, 1, 2, 3, 4, 5, 6, 7, 8, 9, 10] [5, 6, 7, 8, 10] [0, 1, 2] [5, 6, 7] [row b8 [i64 (s.load c.active), i64 (s.load (c.active + 1)), sv] 33] Tryz.mixed (by kernel_rfl) ?_; refine v_hoist rfl rfl rfl (ev_fa (m := _) fa_33_2 rfl rfl) .free rfl ?_; refine v_hoist rfl rfl rfl (ev_load Tryz.isAgg31 rfl rfl) .free rfl ?_
      refine v_hoist rfl rfl rfl (ev_move rfl) .free rfl ?_; refine v_val rfl rfl rfl (ev_loadA Tryz.isAgg30 Tryz.sizeOf30 rfl rfl) .free rfl ?_; refine v_val rfl rfl rfl (ev_move rfl) .free rfl ?_; refine v_mark rfl rfl ?_; refine p_callq rfl (en_f Tryz.call71 rfl) (root_ok _ _ c hc _ (by omega) (by omega)) .free rfl rfl ?_; refine p_nil ?_; refine v_on ?_; refine v_mark rfl rfl ?_; refine p_callq rfl (en_f Tryz.call72 rfl) (ro_at (q := DevA) (fun Fr => nload_ok _ Fr _ _ _)) .free rfl rfl ?_
      refine p_nil ?_; refine v_on ?_; refine v_mark rfl rfl ?_; refine p_chg rfl (ch_bs1 Tryz.runUnderlying31 Tryz.sizeOf52 Tryz.zeroValue52 rfl rfl rfl) .free rfl rfl ?_
      rintro _ _ ⟨b1, rfl, rfl⟩
      refine go_front 1 rfl ?_
      simp only [List.eraseIdx_cons_succ, List.eraseIdx_cons_zero]
      refine p_nil ?_; refine v_on ?_; refine v_mark rfl rfl ?_; refine p_chg rfl (ch_append_vec rfl rfl Tryz.runUnderlying31 Tryz.runUnderlying31 ⟨_, rfl⟩ Tryz.sizeOf52 Tryz.zeroValue52 rfl (fun _ => rfl) tb_52 rfl rfl (by rw [tab_len]; omega)) .free rfl rfl ?_
      rintro sv2 _ ⟨hsv2, rfl⟩
      refine p_nil ?_; refine v_off rfl ?_; refine v_val rfl rfl rfl (ev_fa (m := _) fa_33_2 rfl rfl) .free rfl ?_; refine v_mark rfl rfl ?_; refine p_chg0 rfl (ch_store Tryz.sizeOf31 rfl rfl hsv2 rfl) .free rfl ?_
      rintro _ _ rfl
      refine p_nil ?_; refine v_off rfl ?_; refine v_nil ?_; refine go_sub (σ' := [(35, _), (34, _), (8, _), (5, _), (4, _), (3, _), (0, _)]) ⟨rfl, rfl, rfl, rfl, rfl, rfl, rfl, trivial⟩ ?_; refine g_region ?_
      first | refine p_val rfl (ev_add rfl rfl (wr64 (by omega))) .free rfl rfl ?_ | refine p_val rfl (ev_add rfl rfl rfl) .free rfl rfl ?_
      refine kPm rfl rfl ?_; refine p_nil ?_
      exact fun a w st => ⟨(k + 1, sv2), ⟨by simp only; omega, hsv2⟩, by simp only; omega, st.to ⟨rfl, rfl, rfl, rfl, rfl, rfl, rfl, trivial⟩ (fun hh => by rw [← tab_succ] at hh; exact hh)⟩
    · have hk : ¬ k < nr := by simp at h36; omega
      obtain rfl : k = nr := by omega
      refine g_exit ?_; refine g_seq ?_; refine g_region ?_; refine kPv (ev_loadA Tryz.isAgg33 Tryz.sizeOf33 rfl rfl) rfl ?_; refine p_chg0 rfl (ch_storeA (vs := [i64 (s.load c.active), i64 (s.load (c.active + 1)), sv]) Tryz.sizeOf33 rfl rfl rfl (all3 hsv) rfl) .free rfl ?_
      rintro _ _ rfl
      refine kPa rfl rfl ?_; refine p_nil ?_; refine go_sub (σ' := [(5, _), (4, _)]) ⟨rfl, rfl, trivial⟩ ?_; refine g_ret ?_
      exact ret_2 Tryz.results15 (.cellA rfl Tryz.isAgg33 Tryz.sizeOf33 rfl rfl) (.tmp rfl) (fun w hh => ⟨_, ⟨sv, hsv, by rw [hblk]; rfl, rfl⟩, by rw [hblk]; exact (((hh.front 3 rfl).front 3 rfl).front 3 rfl).tail.tail.tail⟩)
end Go.Proofs.YtbfheafpecgphaaGreat
namespace Go.Proofs.YtbfheafpecgphaaGreat
open Go
abbrev objV (o : Obj3) : Value := .agg #[i64 o.1, i64 o.2.1, i64 o.2.2]
theorem nneg {x : Int} (h : decide (x < 0) = false) : 0 ≤ x := by simpa using h
theorem chkH_b {w r : Int} (h : chkH w r = 0) : 0 ≤ w ∧ w ≤ 64 ∧ 0 ≤ r ∧ r ≤ w := by
  unfold chkH at h
  split at h
  · assumption
  · cases h
theorem unp_b (v : Int) : 0 ≤ (unp v).1 ∧ (unp v).1 ≤ 64 ∧ 0 ≤ (unp v).2.1 ∧ (unp v).2.1 ≤ (unp v).1 := by
  unfold unp
  split
  · rename_i h; exact chkH_b h.1
  · exact ⟨by decide, by decide, by decide, by decide⟩
theorem obj_ok (B : World) (Fr : List HP) (bd : Nat) (s : Dev) (c : Cfg) (hc : CfgW c) (b : Blk) (sv : Value) (hb : BlkW c b) (hsv : cell1 sv = true) (at_ : Int) (hat : -9223372036854775808 ≤ at_ ∧ at_ ≤ 9223372036854775807) :
    ∀ w, Holds B (DevA bd s :: Fr) w → Calls Tryz.prog 51 [ptr bd, cfgV c, blkV b sv, i64 at_].toArray w (PureR B (DevA bd s :: Fr) (.tuple #[objV (s.objOf c b at_).1, i64 (s.objOf c b at_).2])) := by
  refine fn_enter Tryz.func51 rfl Tryz.ntmps51 rfl ?_
  have hb1 := hb.act
  have hb2 := hb.used
  have hcs := hc.s2
  have hub := unp_b (s.load at_)
  have hfb := frm_b hc (k := b.act) (by omega)
  refine g_seq ?_; refine g_region ?_; refine p_chg rfl (ch_boxA rfl) .free rfl rfl ?_
  rintro _ _ ⟨b5, rfl, rfl⟩
  refine p_chg rfl (ch_boxA rfl) .free rfl rfl ?_
  rintro _ _ ⟨b6, rfl, rfl⟩
  refine p_chg rfl (ch_allocA Tryz.zeroValue89 rfl) .free rfl rfl ?_
  rintro _ _ ⟨b8, rfl, rfl⟩
  refine kPa rfl rfl ?_; refine p_nil ?_; refine g_seq ?_; refine g_seq ?_; refine g_region ?_; refine kPm rfl rfl ?_; refine kPv (ev_cmp rfl rfl rfl) rfl ?_; refine kPm rfl rfl ?_
  apply p_or (tp := 21) (t := 14) (σ1 := [(14, _), (9, _), (8, _), (6, _), (5, _), (0, _), (3, _)]) 7 rfl ⟨rfl, rfl, rfl, rfl, rfl, rfl, rfl, trivial⟩
  · intro hg1
    refine p_val rfl (ev_loadA Tryz.isAgg33 Tryz.sizeOf33 rfl rfl) (.on rfl rfl (beq_eq hg1)) rfl rfl ?_; refine p_val rfl (ev_loadA Tryz.isAgg30 Tryz.sizeOf30 rfl rfl) (.on rfl rfl (beq_eq hg1)) rfl rfl ?_; refine p_val rfl (ev_move rfl) (.on rfl rfl (beq_eq hg1)) rfl rfl ?_; refine p_val rfl (ev_conv Tryz.runUnderlying3 Tryz.runUnderlying52 rfl (wru64 ⟨nneg hg1, by omega⟩)) (.on rfl rfl (beq_eq hg1)) rfl rfl ?_
    refine p_callq rfl (en_f Tryz.call82 rfl) (has_ok _ _ c hc b sv hb hsv _ ⟨nneg hg1, by omega⟩) (.on rfl rfl (beq_eq hg1)) rfl rfl ?_; refine p_val rfl (ev_not rfl) (.on rfl rfl (beq_eq hg1)) rfl rfl ?_; refine kPv (ev_pick_f rfl hg1 rfl) rfl ?_
    exact p_seg rfl ⟨rfl, rfl, rfl, rfl, rfl, rfl, rfl, trivial⟩ (or_f hg1)
  · intro hg1
    refine p_skip rfl (.on rfl rfl (beq_ne hg1)) rfl ?_; refine p_skip rfl (.on rfl rfl (beq_ne hg1)) rfl ?_; refine p_skip rfl (.on rfl rfl (beq_ne hg1)) rfl ?_; refine p_skip rfl (.on rfl rfl (beq_ne hg1)) rfl ?_; refine p_skip rfl (.on rfl rfl (beq_ne hg1)) rfl ?_; refine p_skip rfl (.on rfl rfl (beq_ne hg1)) rfl ?_; refine kPv (ev_pick_t rfl hg1 rfl) rfl ?_
    exact p_seg rfl ⟨rfl, rfl, rfl, rfl, rfl, rfl, rfl, trivial⟩ (or_t hg1)
  refine p_nil ?_
  refine g_if rfl (fun h21 => ?_) (fun h21 => ?_)
  · have hbad : at_ < 0 ∨ b.has c at_ = false := by simpa using h21
    have hres : s.objOf c b at_ = ((0, 0, 0), 6) := by unfold Dev.objOf; rw [if_pos hbad]
    refine g_seq ?_; refine g_region ?_; refine kPv (ev_build rfl (bld_89)) rfl ?_; refine p_chg0 rfl (ch_storeA (vs := _) Tryz.sizeOf89 rfl rfl rfl rfl rfl) .free rfl ?_
    rintro _ _ rfl
    refine kPa rfl rfl ?_; refine p_nil ?_; refine g_ret ?_
    exact ret_2 Tryz.results51 (.cellA rfl Tryz.isAgg89 Tryz.sizeOf89 rfl rfl) (.tmp rfl) (fun w hh => ⟨by rw [hres]; rfl, hh.tail.tail.tail⟩)
  · have hgd : ¬(at_ < 0 ∨ b.has c at_ = false) := by simpa using h21
    have hat2 := bhas_b hc hb (w := at_) (by cases hh : b.has c at_ with
      | true => rfl
      | false => exact absurd (.inr hh) hgd)
    have hplace : b.place c b.used = c.frm b.act + b.used := rfl
    refine g_skip ?_; refine g_seq ?_; refine g_region ?_; refine kPm rfl rfl ?_; refine kPm rfl rfl ?_; refine p_callq rfl (en_f Tryz.call72 rfl) (ro_at (q := DevA) (fun Fr => nload_ok _ Fr _ _ _)) .free rfl rfl ?_; refine p_callq rfl (en_f Tryz.call93 rfl) (unpack_ok _ _ _) .free rfl rfl ?_; refine kPm rfl rfl ?_; refine kPv (ev_ext rfl rfl) rfl ?_; refine kPv (ev_ext rfl rfl) rfl ?_; refine p_chg rfl (ch_allocA Tryz.zeroValue87 rfl) .free rfl rfl ?_
    rintro _ _ ⟨b10, rfl, rfl⟩
    refine p_chg0 rfl (ch_storeA (vs := _) Tryz.sizeOf87 rfl rfl rfl rfl rfl) .free rfl ?_
    rintro _ _ rfl
    refine kPa rfl rfl ?_; refine p_nil ?_; refine go_sub (σ' := [(11, _), (10, _), (9, _), (8, _), (6, _), (5, _), (3, _)]) ⟨rfl, rfl, rfl, rfl, rfl, rfl, rfl, trivial⟩ ?_; refine g_seq ?_; refine g_seq ?_; refine g_draw Tryz.mixed (by kernel_rfl) (by kernel_rfl) ?_; refine kQm rfl rfl ?_; refine kQv (ev_not rfl) rfl ?_; refine kQm rfl rfl ?_
    apply q_or (tp := 43) (t := 32) (σ1 := [(32, _), (10, _), (9, _), (8, _), (3, _)]) 11 rfl ⟨rfl, rfl, rfl, rfl, rfl, trivial⟩
    · intro hg2
      refine q_val rfl (ev_loadA Tryz.isAgg87 Tryz.sizeOf87 rfl rfl) (.on rfl rfl (beq_eq hg2)) rfl ?_; refine q_call rfl (en_f Tryz.call52 rfl) (hsize_ok _ _ _ _ (by omega)) (.on rfl rfl (beq_eq hg2)) rfl ?_; refine q_val rfl (ev_loadA Tryz.isAgg33 Tryz.sizeOf33 rfl rfl) (.on rfl rfl (beq_eq hg2)) rfl ?_; refine q_val rfl (ev_loadA Tryz.isAgg30 Tryz.sizeOf30 rfl rfl) (.on rfl rfl (beq_eq hg2)) rfl ?_; refine q_val rfl (ev_fa (m := _) fa_33_1 rfl rfl) (.on rfl rfl (beq_eq hg2)) rfl ?_
      refine q_val rfl (ev_load Tryz.isAgg3 rfl rfl) (.on rfl rfl (beq_eq hg2)) rfl ?_; refine q_call rfl (en_f Tryz.call94 rfl) (place_ok _ _ c hc b sv hb hsv _ (by omega)) (.on rfl rfl (beq_eq hg2)) rfl ?_; refine q_val rfl (ev_move rfl) (.on rfl rfl (beq_eq hg2)) rfl ?_
      first | refine q_val rfl (ev_sub rfl rfl (wr64 (by omega))) (.on rfl rfl (beq_eq hg2)) rfl ?_ | refine q_val rfl (ev_sub rfl rfl rfl) (.on rfl rfl (beq_eq hg2)) rfl ?_
      refine q_val rfl (ev_cmp rfl rfl rfl) (.on rfl rfl (beq_eq hg2)) rfl ?_; refine kQv (ev_pick_f rfl hg2 rfl) rfl ?_
      exact q_seg rfl ⟨rfl, rfl, rfl, rfl, rfl, trivial⟩ (or_f hg2)
    · intro hg2
      refine q_skip rfl (.on rfl rfl (beq_ne hg2)) rfl ?_; refine q_skip rfl (.on rfl rfl (beq_ne hg2)) rfl ?_; refine q_skip rfl (.on rfl rfl (beq_ne hg2)) rfl ?_; refine q_skip rfl (.on rfl rfl (beq_ne hg2)) rfl ?_; refine q_skip rfl (.on rfl rfl (beq_ne hg2)) rfl ?_; refine q_skip rfl (.on rfl rfl (beq_ne hg2)) rfl ?_; refine q_skip rfl (.on rfl rfl (beq_ne hg2)) rfl ?_; refine q_skip rfl (.on rfl rfl (beq_ne hg2)) rfl ?_; refine q_skip rfl (.on rfl rfl (beq_ne hg2)) rfl ?_
      refine q_skip rfl (.on rfl rfl (beq_ne hg2)) rfl ?_; refine kQv (ev_pick_t rfl hg2 rfl) rfl ?_
      exact q_seg rfl ⟨rfl, rfl, rfl, rfl, rfl, trivial⟩ (or_t hg2)
    refine q_nil ?_
    refine g_if rfl (fun h43 => ?_) (fun h43 => ?_)
    · have hbad : (unp (s.load at_)).2.2 = false ∨ b.place c b.used - at_ < (unp (s.load at_)).1 + 1 := by simpa using h43
      have hres : s.objOf c b at_ = ((0, 0, 0), 8) := by unfold Dev.objOf; rw [if_neg hgd, if_pos hbad]
      refine g_seq ?_; refine g_region ?_; refine kPv (ev_build rfl (bld_89)) rfl ?_; refine p_chg0 rfl (ch_storeA (vs := _) Tryz.sizeOf89 rfl rfl rfl rfl rfl) .free rfl ?_
      rintro _ _ rfl
      refine kPa rfl rfl ?_; refine p_nil ?_; refine g_ret ?_
      exact ret_2 Tryz.results51 (.cellA rfl Tryz.isAgg89 Tryz.sizeOf89 rfl rfl) (.tmp rfl) (fun w hh => ⟨by rw [hres]; rfl, hh.tail.tail.tail.tail⟩)
    · have hgd2 : ¬((unp (s.load at_)).2.2 = false ∨ b.place c b.used - at_ < (unp (s.load at_)).1 + 1) := by simpa using h43
      have hres : s.objOf c b at_ = (((unp (s.load at_)).1, (unp (s.load at_)).2.1, at_), 0) := by unfold Dev.objOf; rw [if_neg hgd, if_neg hgd2]
      refine g_skip ?_; refine g_seq ?_; refine g_region ?_; refine kPv (ev_loadA Tryz.isAgg87 Tryz.sizeOf87 rfl rfl) rfl ?_; refine kPm rfl rfl ?_; refine kPv (ev_build rfl (bld_89_0_1 _ _ _ rfl)) rfl ?_; refine p_chg0 rfl (ch_storeA (vs := _) Tryz.sizeOf89 rfl rfl rfl rfl rfl) .free rfl ?_
      rintro _ _ rfl
      refine kPa rfl rfl ?_; refine p_nil ?_; refine go_sub (σ' := [(9, _), (8, _)]) ⟨rfl, rfl, trivial⟩ ?_; refine g_ret ?_
      exact ret_2 Tryz.results51 (.cellA rfl Tryz.isAgg89 Tryz.sizeOf89 rfl rfl) (.tmp rfl) (fun w hh => ⟨by rw [hres]; rfl, hh.tail.tail.tail.tail⟩)
structure ObjW (o : Obj3) : Prop where
  w : 0 ≤ o.1 ∧ o.1 ≤ 64
  r : 0 ≤ o.2.1 ∧ o.2.1 ≤ o.1
  at_ : 0 ≤ o.2.2 ∧ o.2.2 ≤ 1000000
theorem field_ok (B : World) (H : List HP) (o : Obj3) (ho : ObjW o) (i : Int) (ref : Bool) :
    ∀ w, Holds B H w → Calls Tryz.prog 104 [objV o, i64 i, .bool ref].toArray w (PureR B H (.tuple #[i64 (objField o i ref).1, i64 (objField o i ref).2])) := by
  refine fn_enter Tryz.func104 rfl Tryz.ntmps104 rfl ?_
  have h1 := ho.w
  have h2 := ho.r
  have h3 := ho.at_
  refine g_seq ?_; refine g_region ?_; refine p_chg rfl (ch_boxA rfl) .free rfl rfl ?_
  rintro _ _ ⟨b3, rfl, rfl⟩
  refine kPa rfl rfl ?_; refine kPa rfl rfl ?_; refine p_nil ?_; refine g_seq ?_; refine g_block ?_; refine g_seq ?_; refine g_region ?_; refine kPm rfl rfl ?_; refine kPv (ev_cmp rfl rfl rfl) rfl ?_; refine kPm rfl rfl ?_
  apply p_or (tp := 17) (t := 11) (σ1 := [(11, _), (7, _), (6, _), (3, _), (1, _), (2, _)]) 6 rfl ⟨rfl, rfl, rfl, rfl, rfl, rfl, trivial⟩
  · intro hg1
    refine p_val rfl (ev_move rfl) (.on rfl rfl (beq_eq hg1)) rfl rfl ?_; refine p_val rfl (ev_fa (m := _) fa_89_0 rfl rfl) (.on rfl rfl (beq_eq hg1)) rfl rfl ?_; refine p_val rfl (ev_fa (m := _) fa_87_0 rfl rfl) (.on rfl rfl (beq_eq hg1)) rfl rfl ?_; refine p_val rfl (ev_load Tryz.isAgg3 rfl rfl) (.on rfl rfl (beq_eq hg1)) rfl rfl ?_; refine p_val rfl (ev_cmp rfl rfl rfl) (.on rfl rfl (beq_eq hg1)) rfl rfl ?_; refine kPv (ev_pick_f rfl hg1 rfl) rfl ?_
    exact p_seg rfl ⟨rfl, rfl, rfl, rfl, rfl, rfl, trivial⟩ (or_f hg1)
  · intro hg1
    refine p_skip rfl (.on rfl rfl (beq_ne hg1)) rfl ?_; refine p_skip rfl (.on rfl rfl (beq_ne hg1)) rfl ?_; refine p_skip rfl (.on rfl rfl (beq_ne hg1)) rfl ?_; refine p_skip rfl (.on rfl rfl (beq_ne hg1)) rfl ?_; refine p_skip rfl (.on rfl rfl (beq_ne hg1)) rfl ?_; refine kPv (ev_pick_t rfl hg1 rfl) rfl ?_
    exact p_seg rfl ⟨rfl, rfl, rfl, rfl, rfl, rfl, trivial⟩ (or_t hg1)
  refine kPa rfl rfl ?_; refine p_nil ?_
  refine g_if rfl (fun h8 => ?_) (fun h8 => ?_)
  · have hbad : i < 0 ∨ o.1 ≤ i := by simpa using h8
    have hres : objField o i ref = (0, 1) := by unfold objField; rw [if_pos hbad]
    refine g_seq ?_; refine g_region ?_; refine kPa rfl rfl ?_; refine kPa rfl rfl ?_; refine p_nil ?_; refine g_ret ?_
    exact ret_tmp2 Tryz.results104 rfl rfl (fun w hh => ⟨by rw [hres], hh.tail⟩)
  · have hgd : ¬(i < 0 ∨ o.1 ≤ i) := by simpa using h8
    refine g_seq ?_; refine g_region ?_; refine kPm rfl rfl ?_; refine kPv (ev_fa (m := _) fa_89_0 rfl rfl) rfl ?_; refine kPv (ev_fa (m := _) fa_87_1 rfl rfl) rfl ?_; refine kPv (ev_load Tryz.isAgg3 rfl rfl) rfl ?_; refine kPv (ev_cmp rfl rfl rfl) rfl ?_; refine kPm rfl rfl ?_; refine kPv (ev_eqb Tryz.runUnderlying4 rfl rfl rfl) rfl ?_; refine kPa rfl rfl ?_; refine p_nil ?_; refine go_sub (σ' := [(18, _), (7, _), (6, _), (3, _), (1, _)]) ⟨rfl, rfl, rfl, rfl, rfl, trivial⟩ ?_
    refine g_if rfl (fun h18 => ?_) (fun h18 => ?_)
    · have hk : decide (i < o.2.1) ≠ ref := by simpa using h18
      have hres : objField o i ref = (0, 5) := by unfold objField; rw [if_neg hgd, if_pos hk]
      refine g_seq ?_; refine g_region ?_; refine kPa rfl rfl ?_; refine kPa rfl rfl ?_; refine p_nil ?_; refine g_ret ?_
      exact ret_tmp2 Tryz.results104 rfl rfl (fun w hh => ⟨by rw [hres], hh.tail⟩)
    · have hk : ¬ decide (i < o.2.1) ≠ ref := by simpa using h18
      have hres : objField o i ref = (o.2.2 + 1 + i, 0) := by unfold objField; rw [if_neg hgd, if_neg hk]
      refine g_skip ?_; refine g_seq ?_; refine g_region ?_; refine kPv (ev_fa (m := _) fa_89_1 rfl rfl) rfl ?_; refine kPv (ev_load Tryz.isAgg3 rfl rfl) rfl ?_
      first | refine p_val rfl (ev_add rfl rfl (wr64 (by omega))) .free rfl rfl ?_ | refine p_val rfl (ev_add rfl rfl rfl) .free rfl rfl ?_
      refine kPm rfl rfl ?_
      first | refine p_val rfl (ev_add rfl rfl (wr64 (by omega))) .free rfl rfl ?_ | refine p_val rfl (ev_add rfl rfl rfl) .free rfl rfl ?_
      refine kPa rfl rfl ?_; refine kPa rfl rfl ?_; refine p_nil ?_; refine go_sub (σ' := [(7, _), (6, _)]) ⟨rfl, rfl, trivial⟩ ?_; refine g_ret ?_
      exact ret_tmp2 Tryz.results104 rfl rfl (fun w hh => ⟨by rw [hres], hh.tail⟩)
theorem oread_ok (B : World) (Fr : List HP) (bd : Nat) (s : Dev) (o : Obj3) (ho : ObjW o) (i : Int) :
    ∀ w, Holds B (DevA bd s :: Fr) w → Calls Tryz.prog 149 [objV o, ptr bd, i64 i].toArray w (PureR B (DevA bd s :: Fr) (.tuple #[w64 (s.objRead o i).1, i64 (s.objRead o i).2])) := by
  refine fn_enter Tryz.func149 rfl Tryz.ntmps149 rfl ?_; refine g_seq ?_; refine g_region ?_; refine p_chg rfl (ch_boxA rfl) .free rfl rfl ?_
  rintro _ _ ⟨b3, rfl, rfl⟩
  refine kPa rfl rfl ?_; refine kPa rfl rfl ?_; refine p_nil ?_; refine g_seq ?_; refine g_region ?_; refine kPv (ev_loadA Tryz.isAgg89 Tryz.sizeOf89 rfl rfl) rfl ?_; refine kPm rfl rfl ?_; refine p_callq rfl (en_f Tryz.call104 rfl) (field_ok _ _ o ho i _) .free rfl rfl ?_; refine kPm rfl rfl ?_; refine kPv (ev_ext rfl rfl) rfl ?_; refine kPv (ev_ext rfl rfl) rfl ?_; refine kPa rfl rfl ?_; refine kPa rfl rfl ?_; refine p_nil ?_
  refine go_sub (σ' := [(9, _), (8, _), (7, _), (6, _), (1, _)]) ⟨rfl, rfl, rfl, rfl, rfl, trivial⟩ ?_; refine g_seq ?_; refine g_seq ?_; refine g_region ?_; refine kPm rfl rfl ?_; refine kPv (ev_cmp rfl rfl rfl) rfl ?_; refine p_nil ?_
  refine g_if rfl (fun h17 => ?_) (fun h17 => ?_)
  · have hk : (objField o i false).2 ≠ 0 := by simpa using h17
    have hres : s.objRead o i = (0, (objField o i false).2) := by unfold Dev.objRead; rw [if_pos hk]
    refine g_seq ?_; refine g_region ?_; refine kPm rfl rfl ?_; refine kPa rfl rfl ?_; refine kPa rfl rfl ?_; refine p_nil ?_; refine g_ret ?_
    exact ret_tmp2 Tryz.results149 rfl rfl (fun w hh => ⟨by rw [hres] <;> rfl, hh.tail⟩)
  · have hk : ¬ (objField o i false).2 ≠ 0 := by simpa using h17
    have hres : s.objRead o i = (s.load (objField o i false).1, 0) := by unfold Dev.objRead; rw [if_neg hk]
    refine g_skip ?_; refine g_seq ?_; refine g_region ?_; refine kPm rfl rfl ?_; refine kPm rfl rfl ?_; refine p_callq rfl (en_f Tryz.call72 rfl) (ro_at (q := DevA) (fun Fr => nload_ok _ Fr _ _ _)) .free rfl rfl ?_; refine kPa rfl rfl ?_; refine kPa rfl rfl ?_; refine p_nil ?_; refine go_sub (σ' := [(7, _), (6, _)]) ⟨rfl, rfl, trivial⟩ ?_; refine g_ret ?_
    exact ret_tmp2 Tryz.results149 rfl rfl (fun w hh => ⟨by rw [hres] <;> rfl, hh.tail⟩)
end Go.Proofs.YtbfheafpecgphaaGreat
namespace Go.Proofs.YtbfheafpecgphaaGreat
open Go
structure StoreF (B : World) (f : FuncId) (fi : List Value) (bd be : Nat) (ε : Type) (ExA : Nat → ε → HP) (op : Int → Int → Dev → ε → Out (Int × ε)) (ok : Dev → ε → Prop) : Prop where
  enter : ∀ args w, (callFunc f args).run Tryz.prog w = .ok (.enter f args) w
  u64 : ∀ s e, ok s e → U64 s
  says : ∀ (Fr : List HP) (i v : Int) (s : Dev) (e : ε), ok s e → ∀ w, Holds B (DevA bd s :: ExA be e :: Fr) w → Calls Tryz.prog f (fi ++ [i64 i, w64 v] ++ []).toArray w (Ret B (fun rv H' => ∃ a e' s', op i v s e = .ok (a, e') s' ∧ rv = i64 a ∧ H' = DevA bd s' :: ExA be e' :: Fr) (fun c H' => ∃ s', op i v s e = .off s' ∧ c = offc ∧ H' = DevA bd s' :: Fr))
  keeps : ∀ i v s e a e' s', ok s e → 0 ≤ v ∧ v < 18446744073709551616 → op i v s e = .ok (a, e') s' → ok s' e'
section
variable {ε : Type}
def fillM (op : Int → Int → Dev → ε → Out (Int × ε)) (at_ h0 : Int) : Nat → Int → Dev → ε → Out ((Int × Int) × ε)
  | 0, _, s, e => .ok ((at_, 0), e) s
  | f + 1, i, s, e => (op (at_ + i) (if i = 0 then h0 else 0) s e).then fun x s => if x.1 ≠ 0 then .ok ((0, x.1), x.2) s else fillM op at_ h0 f (i + 1) s x.2
def allocM (op : Int → Int → Dev → ε → Out (Int × ε)) (c : Cfg) (w r : Int) (s : Dev) (e : ε) : Out ((Int × Int) × ε) :=
  if chkH w r ≠ 0 then .ok ((0, chkH w r), e) s
  else if (s.block c).2 ≠ 0 then .ok ((0, (s.block c).2), e) s
  else if c.space - (s.block c).1.used < w + 1 then .ok ((0, 4), e) s
  else (op (c.active + 1) ((s.block c).1.used + (w + 1)) s e).then fun x s' => if x.1 ≠ 0 then .ok ((0, x.1), x.2) s' else fillM op ((s.block c).1.place c (s.block c).1.used) (packI w r) (w + 1).toNat 0 s' x.2
def setM (op : Int → Int → Dev → ε → Out (Int × ε)) (o : Obj3) (i : Int) (ref : Bool) (v : Int) (s : Dev) (e : ε) : Out (Int × ε) :=
  if (objField o i ref).2 ≠ 0 then .ok ((objField o i ref).2, e) s else op (objField o i ref).1 v s e
def writeN (op : Int → Int → Dev → ε → Out (Int × ε)) : List Int → Int → Dev → ε → Out (Int × ε)
  | [], _, s, e => .ok (0, e) s
  | v :: vs, i, s, e => if s.load i = v then writeN op vs (i + 1) s e else (op i v s e).then fun x s => if x.1 ≠ 0 then .ok x s else writeN op vs (i + 1) s x.2
def writeM (op : Int → Int → Dev → ε → Out (Int × ε)) (c : Cfg) (b : Blk) (s : Dev) (e : ε) : Out (Int × ε) := writeN op (b.act :: b.used :: b.rts) c.active s e
end
theorem packI_b (w r : Int) : 0 ≤ packI w r ∧ packI w r < 18446744073709551616 := by
  unfold packI bitI
  simp only [IntKind.wrap, IntKind.bits, IntKind.signed]
  simp; omega
theorem alloc_ok (B : World) (Fr : List HP) (f : FuncId) (fi : List Value) (bd be : Nat) (ε : Type) (ExA : Nat → ε → HP) (op : Int → Int → Dev → ε → Out (Int × ε)) (ok : Dev → ε → Prop) (hS : StoreF B f fi bd be ε ExA op ok) (c : Cfg) (hc : CfgW c) (w r : Int) (s : Dev) (e : ε) (hok : ok s e) :
    ∀ w_, Holds B (DevA bd s :: ExA be e :: Fr) w_ → Calls Tryz.prog 102 [ptr bd, cfgV c, .agg #[i64 w, i64 r], .func (.func f) fi.toArray #[]].toArray w_ (Ret B (fun rv H' => ∃ x e' s', allocM op c w r s e = .ok (x, e') s' ∧ rv = .tuple #[i64 x.1, i64 x.2] ∧ ok s' e' ∧ H' = DevA bd s' :: ExA be e' :: Fr) (fun ch H' => ∃ s', allocM op c w r s e = .off s' ∧ ch = offc ∧ H' = DevA bd s' :: Fr)) := by
  refine fn_enter Tryz.func102 rfl Tryz.ntmps102 rfl ?_
  have hb := block_w (s := s) hc (hS.u64 _ _ hok)
  have hb1 := hb.act
  have hb2 := hb.used
  have hcs := hc.s2
  have hfb := frm_b hc (k := (s.block c).1.act) (by omega)
  have hplace : (s.block c).1.place c (s.block c).1.used = c.frm (s.block c).1.act + (s.block c).1.used := rfl
  refine g_seq ?_; refine g_region ?_; refine p_chg rfl (ch_boxA rfl) .free rfl rfl ?_
  rintro _ _ ⟨b5, rfl, rfl⟩
  refine p_chg rfl (ch_boxA rfl) .free rfl rfl ?_
  rintro _ _ ⟨b6, rfl, rfl⟩
  refine kPa rfl rfl ?_; refine kPa rfl rfl ?_; refine p_nil ?_; refine g_seq ?_; refine g_seq ?_; refine g_region ?_; refine kPv (ev_loadA Tryz.isAgg87 Tryz.sizeOf87 rfl rfl) rfl ?_; refine p_callq rfl (en_f Tryz.call111 rfl) (hcheck_ok _ _ _ _) .free rfl rfl ?_; refine kPa rfl rfl ?_; refine p_nil ?_; refine g_seq ?_; refine g_region ?_; refine kPm rfl rfl ?_; refine kPv (ev_cmp rfl rfl rfl) rfl ?_; refine p_nil ?_
  refine g_if rfl (fun h21 => ?_) (fun h21 => ?_)
  · have hk1 : chkH w r ≠ 0 := by simpa using h21
    refine g_seq ?_; refine g_region ?_; refine kPm rfl rfl ?_; refine kPa rfl rfl ?_; refine kPa rfl rfl ?_; refine p_nil ?_; refine go_sub (σ' := [(9, _), (8, _), (6, _), (5, _), (0, _), (3, _)]) ⟨rfl, rfl, rfl, rfl, rfl, rfl, trivial⟩ ?_; refine g_ret ?_
    exact ret_tmp2 Tryz.results102 rfl rfl (fun w_ hh => ⟨_, ⟨_, e, s, by unfold allocM; rw [if_pos hk1], rfl, hok, rfl⟩, hh.tail.tail⟩)
  · have hk1 : ¬ chkH w r ≠ 0 := by simpa using h21
    have hwb := chkH_b (w := w) (r := r) (by omega)
    refine g_skip ?_; refine g_seq ?_; refine g_region ?_; refine kPm rfl rfl ?_; refine kPv (ev_loadA Tryz.isAgg30 Tryz.sizeOf30 rfl rfl) rfl ?_; refine go_pull DevA bd ?_
    refine p_call rfl (en_f Tryz.call15 rfl) (rread_ok _ _ _ _ c hc (hS.u64 _ _ hok)) .free rfl rfl ?_ ?_
    rotate_left
    · rintro _ _ ⟨⟩
    rintro _ _ ⟨sv, hsv, rfl, rfl⟩
    refine kPm rfl rfl ?_; refine kPv (ev_ext rfl rfl) rfl ?_; refine kPv (ev_ext rfl rfl) rfl ?_; refine p_chg rfl (ch_allocA Tryz.zeroValue33 rfl) .free rfl rfl ?_
    rintro _ _ ⟨b11, rfl, rfl⟩
    refine p_chg0 rfl (ch_storeA (vs := [i64 (s.block c).1.act, i64 (s.block c).1.used, sv]) Tryz.sizeOf33 rfl rfl rfl (all3 hsv) rfl) .free rfl ?_
    rintro _ _ rfl
    refine kPa rfl rfl ?_; refine p_nil ?_; refine go_sub (σ' := [(12, _), (11, _), (9, _), (8, _), (6, _), (5, _), (3, _)]) ⟨rfl, rfl, rfl, rfl, rfl, rfl, rfl, trivial⟩ ?_; refine g_seq ?_; refine g_seq ?_; refine g_region ?_; refine kPm rfl rfl ?_; refine kPv (ev_cmp rfl rfl rfl) rfl ?_; refine p_nil ?_
    refine g_if rfl (fun h30 => ?_) (fun h30 => ?_)
    · have hk2 : (s.block c).2 ≠ 0 := by simpa using h30
      refine g_seq ?_; refine g_region ?_; refine kPm rfl rfl ?_; refine kPa rfl rfl ?_; refine kPa rfl rfl ?_; refine p_nil ?_; refine g_ret ?_
      exact ret_tmp2 Tryz.results102 rfl rfl (fun w_ hh => ⟨_, ⟨_, e, s, by unfold allocM; rw [if_neg hk1, if_pos hk2], rfl, hok, rfl⟩, ((((((hh.front 0 rfl).tail.front 0 rfl).tail.front 1 rfl).tail.front 1 rfl).tail.front 1 rfl).front 1 rfl)⟩)
    · have hk2 : ¬ (s.block c).2 ≠ 0 := by simpa using h30
      refine g_skip ?_; refine g_seq ?_; refine g_seq ?_; refine g_draw Tryz.mixed (by kernel_rfl) (by kernel_rfl) ?_; refine kQv (ev_loadA Tryz.isAgg87 Tryz.sizeOf87 rfl rfl) rfl ?_; refine q_call rfl (en_f Tryz.call52 rfl) (hsize_ok _ _ _ _ (by omega)) .free rfl ?_; refine kQv (ev_fa (m := _) fa_30_2 rfl rfl) rfl ?_; refine kQv (ev_load Tryz.isAgg3 rfl rfl) rfl ?_; refine kQv (ev_fa (m := _) fa_33_1 rfl rfl) rfl ?_; refine kQv (ev_load Tryz.isAgg3 rfl rfl) rfl ?_
      first | refine q_val rfl (ev_sub rfl rfl (wr64 (by omega))) .free rfl ?_ | refine q_val rfl (ev_sub rfl rfl rfl) .free rfl ?_
      refine kQv (ev_cmp rfl rfl rfl) rfl ?_; refine q_nil ?_; refine go_sub (σ' := [(39, _), (11, _), (9, _), (8, _), (6, _), (5, _), (3, _)]) ⟨rfl, rfl, rfl, rfl, rfl, rfl, rfl, trivial⟩ ?_
      refine g_if rfl (fun h39 => ?_) (fun h39 => ?_)
      · have hk3 : c.space - (s.block c).1.used < w + 1 := by simpa using h39
        refine g_seq ?_; refine g_region ?_; refine kPa rfl rfl ?_; refine kPa rfl rfl ?_; refine p_nil ?_; refine g_ret ?_
        exact ret_tmp2 Tryz.results102 rfl rfl (fun w_ hh => ⟨_, ⟨_, e, s, by unfold allocM; rw [if_neg hk1, if_neg hk2, if_pos hk3], rfl, hok, rfl⟩, ((((((hh.front 0 rfl).tail.front 0 rfl).tail.front 1 rfl).tail.front 1 rfl).tail.front 1 rfl).front 1 rfl)⟩)
      · have hk3 : ¬ c.space - (s.block c).1.used < w + 1 := by simpa using h39
        refine g_skip ?_; refine g_seq ?_; refine g_region ?_; refine kPv (ev_loadA Tryz.isAgg33 Tryz.sizeOf33 rfl rfl) rfl ?_; refine kPv (ev_loadA Tryz.isAgg30 Tryz.sizeOf30 rfl rfl) rfl ?_; refine kPv (ev_fa (m := _) fa_33_1 rfl rfl) rfl ?_; refine kPv (ev_load Tryz.isAgg3 rfl rfl) rfl ?_; refine p_callq rfl (en_f Tryz.call94 rfl) (place_ok _ _ c hc _ sv hb hsv _ (by omega)) .free rfl rfl ?_; refine kPa rfl rfl ?_; refine p_nil ?_; refine g_seq ?_; refine g_seq ?_
        refine g_drawt 9 Tryz.mixed (by kernel_rfl) (by kernel_rfl) ?_; refine kQm rfl rfl ?_; refine kQv (ev_loadA Tryz.isAgg30 Tryz.sizeOf30 rfl rfl) rfl ?_; refine q_call rfl (en_f Tryz.call73 rfl) (cused_ok _ _ c hc) .free rfl ?_; refine kQv (ev_fa (m := _) fa_33_1 rfl rfl) rfl ?_; refine kQv (ev_load Tryz.isAgg3 rfl rfl) rfl ?_; refine kQv (ev_loadA Tryz.isAgg87 Tryz.sizeOf87 rfl rfl) rfl ?_; refine q_call rfl (en_f Tryz.call52 rfl) (hsize_ok _ _ _ _ (by omega)) .free rfl ?_
        first | refine q_val rfl (ev_add rfl rfl (wr64 (by omega))) .free rfl ?_ | refine q_val rfl (ev_add rfl rfl rfl) .free rfl ?_
        refine kQv (ev_conv Tryz.runUnderlying3 Tryz.runUnderlying52 rfl (wru64 (by omega))) rfl ?_; refine q_nil ?_; refine go_pull ExA be ?_; refine go_pull DevA bd ?_
        refine p_call rfl (en_c hS.enter rfl rfl) (hS.says _ _ _ _ _ hok) .free rfl rfl ?_ ?_
        rotate_left
        · rintro _ _ ⟨s9, hm9, rfl, rfl⟩
          exact pan_fn fun w hh => ⟨_, ⟨s9, by unfold allocM; rw [if_neg hk1, if_neg hk2, if_neg hk3]; rw [hm9]; rfl, rfl, rfl⟩, ((((hh.front 4 rfl).front 4 rfl).front 4 rfl).front 4 rfl).tail.tail.tail.tail⟩
        rintro _ _ ⟨a1, e1, s1, hm1, rfl, rfl⟩
        have hok1 := hS.keeps _ _ _ _ _ _ _ hok ⟨by omega, by omega⟩ hm1
        refine kPa rfl rfl ?_; refine p_nil ?_; refine go_sub (σ' := [(14, _), (13, _), (9, _), (8, _), (6, _), (3, _)]) ⟨rfl, rfl, rfl, rfl, rfl, rfl, trivial⟩ ?_; refine g_seq ?_; refine g_region ?_; refine kPm rfl rfl ?_; refine kPv (ev_cmp rfl rfl rfl) rfl ?_; refine p_nil ?_
        refine g_if rfl (fun h56 => ?_) (fun h56 => ?_)
        · have hk4 : a1 ≠ 0 := by simpa using h56
          refine g_seq ?_; refine g_region ?_; refine kPm rfl rfl ?_; refine kPa rfl rfl ?_; refine kPa rfl rfl ?_; refine p_nil ?_; refine g_ret ?_
          exact ret_tmp2 Tryz.results102 rfl rfl (fun w_ hh => ⟨_, ⟨_, e1, s1, by unfold allocM; rw [if_neg hk1, if_neg hk2, if_neg hk3]; rw [hm1, then_ok, if_pos hk4], rfl, hok1, rfl⟩, ((((((hh.front 2 rfl).tail.front 2 rfl).tail.front 2 rfl).tail.front 2 rfl).tail.front 1 rfl).front 1 rfl)⟩)
        · have hk4 : ¬ a1 ≠ 0 := by simpa using h56
          have hmid : allocM op c w r s e = fillM op ((s.block c).1.place c (s.block c).1.used) (packI w r) (w + 1).toNat 0 s1 e1 := by
            unfold allocM; rw [if_neg hk1, if_neg hk2, if_neg hk3, hm1, then_ok, if_neg hk4]
          refine g_skip ?_; refine g_seq ?_; refine g_seq ?_; refine g_region ?_; refine kPv (ev_loadA Tryz.isAgg87 Tryz.sizeOf87 rfl rfl) rfl ?_; refine p_callq rfl (en_f Tryz.call52 rfl) (hsize_ok _ _ _ _ (by omega)) .free rfl rfl ?_; refine kPm rfl rfl ?_; refine p_nil ?_; refine g_block ?_
          refine g_loop (ι := Nat × Dev × ε) (fun i => (i.1 : Int) ≤ w + 1 ∧ ok i.2.1 i.2.2 ∧ fillM op ((s.block c).1.place c (s.block c).1.used) (packI w r) (w + 1).toNat 0 s1 e1 = fillM op ((s.block c).1.place c (s.block c).1.used) (packI w r) ((w + 1).toNat - i.1) i.1 i.2.1 i.2.2) (fun i => [(3, .func (.func f) fi.toArray #[]), (6, ptr b6), (8, i64 0), (9, i64 0), (13, i64 ((s.block c).1.place c (s.block c).1.used)), (59, i64 (w + 1)), (60, i64 i.1)]) (fun i => DevA bd i.2.1 :: ExA be i.2.2 :: row b11 [i64 (s.block c).1.act, i64 (s.block c).1.used, sv] 33 :: VecU 0 (sv, (s.block c).1.rts) :: row b6 [i64 w, i64 r] 87 :: row b5 [i64 c.log, i64 c.roots, i64 c.space] 30 :: Fr) (fun i => (w + 1).toNat - i.1) (0, s1, e1) ⟨by simp only; omega, hok1, rfl⟩ (fun a w st => st.to ⟨rfl, rfl, rfl, rfl, rfl, rfl, rfl, trivial⟩ id) ?_
          rintro ⟨k, sL, eL⟩ ⟨hkw, hok2, hinv⟩
          simp only at hkw hok2 hinv ⊢
          refine g_seq ?_; refine g_region ?_; refine kPv (ev_cmp rfl rfl rfl) rfl ?_; refine p_nil ?_; refine g_seq ?_
          refine g_if rfl (fun h61 => ?_) (fun h61 => ?_)
          · have hk : (k : Int) < w + 1 := by simpa using h61
            refine g_skip ?_; refine g_seq ?_; refine g_block ?_; refine g_seq ?_; refine g_region ?_; refine kPm rfl rfl ?_; refine kPa rfl rfl ?_; refine p_nil ?_; refine g_seq ?_; refine g_region ?_; refine kPa rfl rfl ?_; refine p_nil ?_; refine g_seq ?_; refine g_seq ?_; refine g_region ?_; refine kPm rfl rfl ?_; refine kPv (ev_cmp rfl rfl rfl) rfl ?_; refine p_nil ?_
            refine go_sub (σ' := [(64, _), (16, _), (15, _), (60, _), (59, _), (13, _), (9, _), (8, _), (6, _), (3, _)]) ⟨rfl, rfl, rfl, rfl, rfl, rfl, rfl, rfl, rfl, rfl, trivial⟩ ?_
            refine g_if rfl (fun h64 => ?_) (fun h64 => ?_)
            · have hk0' : k = 0 := by simp at h64; omega
              have hst : fillM op ((s.block c).1.place c (s.block c).1.used) (packI w r) ((w + 1).toNat - k) k sL eL = (op (((s.block c).1.place c (s.block c).1.used) + k) (packI w r) sL eL).then fun x sz => if x.1 ≠ 0 then .ok ((0, x.1), x.2) sz else fillM op ((s.block c).1.place c (s.block c).1.used) (packI w r) ((w + 1).toNat - (k + 1)) ((k : Int) + 1) sz x.2 := by
                rw [show (w + 1).toNat - k = ((w + 1).toNat - (k + 1)) + 1 by omega]
                simp only [fillM]
                rw [if_pos (by omega)]
              have hVb := packI_b w r
              refine g_region ?_; refine kPv (ev_loadA Tryz.isAgg87 Tryz.sizeOf87 rfl rfl) rfl ?_; refine p_callq rfl (en_f Tryz.call112 rfl) (hpack_ok _ _ _ _) .free rfl rfl ?_; refine kPa rfl rfl ?_; refine p_nil ?_; refine g_seq ?_; refine g_region ?_; refine kPm rfl rfl ?_; refine kPm rfl rfl ?_; refine kPm rfl rfl ?_
              first | refine p_val rfl (ev_add rfl rfl (wr64 (by omega))) .free rfl rfl ?_ | refine p_val rfl (ev_add rfl rfl rfl) .free rfl rfl ?_
              refine kPm rfl rfl ?_; refine go_pull ExA be ?_; refine go_pull DevA bd ?_
              refine p_call rfl (en_c hS.enter rfl rfl) (hS.says _ _ _ _ _ hok2) .free rfl rfl ?_ ?_
              rotate_left
              · rintro _ _ ⟨s9, hm9, rfl, rfl⟩
                exact pan_fn fun w hh => ⟨_, ⟨s9, by rw [hmid, hinv, hst, hm9]; rfl, rfl, rfl⟩, ((((hh.front 4 rfl).front 4 rfl).front 4 rfl).front 4 rfl).tail.tail.tail.tail⟩
              rintro _ _ ⟨a2, e2, s2, hm2, rfl, rfl⟩
              have hok3 := hS.keeps _ _ _ _ _ _ _ hok2 hVb hm2
              refine kPa rfl rfl ?_; refine p_nil ?_; refine go_sub (σ' := [(17, _), (60, _), (59, _), (13, _), (9, _), (8, _), (6, _), (3, _)]) ⟨rfl, rfl, rfl, rfl, rfl, rfl, rfl, rfl, trivial⟩ ?_; refine g_seq ?_; refine g_region ?_; refine kPm rfl rfl ?_; refine kPv (ev_cmp rfl rfl rfl) rfl ?_; refine p_nil ?_
              refine g_if rfl (fun h74 => ?_) (fun h74 => ?_)
              · have hk5 : a2 ≠ 0 := by simpa using h74
                refine g_seq ?_; refine g_region ?_; refine kPm rfl rfl ?_; refine kPa rfl rfl ?_; refine kPa rfl rfl ?_; refine p_nil ?_; refine g_ret ?_
                exact ret_tmp2 Tryz.results102 rfl rfl (fun w_ hh => ⟨_, ⟨_, e2, s2, by rw [hmid, hinv, hst, hm2, then_ok, if_pos hk5], rfl, hok3, rfl⟩, ((((((hh.front 2 rfl).tail.front 2 rfl).tail.front 2 rfl).tail.front 2 rfl).tail.front 1 rfl).front 1 rfl)⟩)
              · have hk5 : ¬ a2 ≠ 0 := by simpa using h74
                refine g_skip ?_; refine g_region ?_
                first | refine p_val rfl (ev_add rfl rfl (wr64 (by omega))) .free rfl rfl ?_ | refine p_val rfl (ev_add rfl rfl rfl) .free rfl rfl ?_
                refine kPm rfl rfl ?_; refine p_nil ?_
                exact fun a w_ st => ⟨(k + 1, s2, e2), ⟨by simp only; omega, hok3, by rw [hinv, hst, hm2, then_ok, if_neg hk5]; push_cast; rfl⟩, by simp only; omega, st.to ⟨rfl, rfl, rfl, rfl, rfl, rfl, rfl, trivial⟩ id⟩
            · have hk0' : k ≠ 0 := by simp at h64; omega
              have hst : fillM op ((s.block c).1.place c (s.block c).1.used) (packI w r) ((w + 1).toNat - k) k sL eL = (op (((s.block c).1.place c (s.block c).1.used) + k) 0 sL eL).then fun x sz => if x.1 ≠ 0 then .ok ((0, x.1), x.2) sz else fillM op ((s.block c).1.place c (s.block c).1.used) (packI w r) ((w + 1).toNat - (k + 1)) ((k : Int) + 1) sz x.2 := by
                rw [show (w + 1).toNat - k = ((w + 1).toNat - (k + 1)) + 1 by omega]
                simp only [fillM]
                rw [if_neg (by omega)]
              have hVb : (0 : Int) ≤ 0 ∧ (0 : Int) < 18446744073709551616 := by decide
              refine g_skip ?_; refine g_seq ?_; refine g_region ?_; refine kPm rfl rfl ?_; refine kPm rfl rfl ?_; refine kPm rfl rfl ?_
              first | refine p_val rfl (ev_add rfl rfl (wr64 (by omega))) .free rfl rfl ?_ | refine p_val rfl (ev_add rfl rfl rfl) .free rfl rfl ?_
              refine kPm rfl rfl ?_; refine go_pull ExA be ?_; refine go_pull DevA bd ?_
              refine p_call rfl (en_c hS.enter rfl rfl) (hS.says _ _ _ _ _ hok2) .free rfl rfl ?_ ?_
              rotate_left
              · rintro _ _ ⟨s9, hm9, rfl, rfl⟩
                exact pan_fn fun w hh => ⟨_, ⟨s9, by rw [hmid, hinv, hst, hm9]; rfl, rfl, rfl⟩, ((((hh.front 4 rfl).front 4 rfl).front 4 rfl).front 4 rfl).tail.tail.tail.tail⟩
              rintro _ _ ⟨a2, e2, s2, hm2, rfl, rfl⟩
              have hok3 := hS.keeps _ _ _ _ _ _ _ hok2 hVb hm2
              refine kPa rfl rfl ?_; refine p_nil ?_; refine go_sub (σ' := [(17, _), (60, _), (59, _), (13, _), (9, _), (8, _), (6, _), (3, _)]) ⟨rfl, rfl, rfl, rfl, rfl, rfl, rfl, rfl, trivial⟩ ?_; refine g_seq ?_; refine g_region ?_; refine kPm rfl rfl ?_; refine kPv (ev_cmp rfl rfl rfl) rfl ?_; refine p_nil ?_
              refine g_if rfl (fun h74 => ?_) (fun h74 => ?_)
              · have hk5 : a2 ≠ 0 := by simpa using h74
                refine g_seq ?_; refine g_region ?_; refine kPm rfl rfl ?_; refine kPa rfl rfl ?_; refine kPa rfl rfl ?_; refine p_nil ?_; refine g_ret ?_
                exact ret_tmp2 Tryz.results102 rfl rfl (fun w_ hh => ⟨_, ⟨_, e2, s2, by rw [hmid, hinv, hst, hm2, then_ok, if_pos hk5], rfl, hok3, rfl⟩, ((((((hh.front 2 rfl).tail.front 2 rfl).tail.front 2 rfl).tail.front 2 rfl).tail.front 1 rfl).front 1 rfl)⟩)
              · have hk5 : ¬ a2 ≠ 0 := by simpa using h74
                refine g_skip ?_; refine g_region ?_
                first | refine p_val rfl (ev_add rfl rfl (wr64 (by omega))) .free rfl rfl ?_ | refine p_val rfl (ev_add rfl rfl rfl) .free rfl rfl ?_
                refine kPm rfl rfl ?_; refine p_nil ?_
                exact fun a w_ st => ⟨(k + 1, s2, e2), ⟨by simp only; omega, hok3, by rw [hinv, hst, hm2, then_ok, if_neg hk5]; push_cast; rfl⟩, by simp only; omega, st.to ⟨rfl, rfl, rfl, rfl, rfl, rfl, rfl, trivial⟩ id⟩
          · have hk : ¬ (k : Int) < w + 1 := by simpa using h61
            refine g_exit ?_; refine g_seq ?_; refine g_region ?_; refine kPm rfl rfl ?_; refine kPa rfl rfl ?_; refine kPa rfl rfl ?_; refine p_nil ?_; refine go_sub (σ' := [(9, _), (8, _)]) ⟨rfl, rfl, trivial⟩ ?_; refine g_ret ?_
            exact ret_tmp2 Tryz.results102 rfl rfl (fun w_ hh => ⟨_, ⟨(((s.block c).1.place c (s.block c).1.used), 0), eL, sL, by rw [hmid, hinv, show (w + 1).toNat - k = 0 by omega]; rfl, rfl, hok2, rfl⟩, ((((((hh.front 2 rfl).tail.front 2 rfl).tail.front 2 rfl).tail.front 2 rfl).tail.front 1 rfl).front 1 rfl)⟩)
end Go.Proofs.YtbfheafpecgphaaGreat
namespace Go.Proofs.YtbfheafpecgphaaGreat
open Go
theorem then_inv {α β : Type} {m : Out α} {f : α → Dev → Out β} {b : β} {s' : Dev} (h : m.then f = .ok b s') : ∃ a s1, m = .ok a s1 ∧ f a s1 = .ok b s' := by
  cases m with
  | ok a s1 => exact ⟨a, s1, rfl, h⟩
  | off s => cases h
theorem store_u64 {s s' : Dev} {i v a : Int} (h : U64 s) (hv : 0 ≤ v ∧ v < 18446744073709551616) (e : s.store i v = .ok a s') : U64 s' ∧ s'.n = s.n := by
  unfold Dev.store at e
  split at e
  · cases e; exact ⟨h, rfl⟩
  · split at e
    · cases e
    · cases e
      refine ⟨fun x => ?_, rfl⟩
      show 0 ≤ upd s.now i.toNat v x ∧ upd s.now i.toNat v x < _
      unfold upd
      split
      · exact hv
      · exact h x
theorem flush_u64 {s s' : Dev} {i a : Int} (h : U64 s) (e : s.flush i = .ok a s') : U64 s' ∧ s'.n = s.n := by
  unfold Dev.flush at e
  split at e
  · cases e; exact ⟨h, rfl⟩
  · split at e
    · cases e
    · cases e; exact ⟨h, rfl⟩
theorem fence_u64 {s s' : Dev} {a : Unit} (h : U64 s) (e : s.fence = .ok a s') : U64 s' ∧ s'.n = s.n := by
  unfold Dev.fence at e
  split at e
  · cases e
  · cases e; exact ⟨h, rfl⟩
theorem append_u64 {L L' : LogS} {s s' : Dev} {i a : Int} (hL : LogW L) (h : U64 s) (hn : s.n ≤ 1000000) (e : L.append s i = .ok (a, L') s') : U64 s' ∧ s'.n = s.n := by
  have hl1 := hL.e1
  have hl2 := hL.e2
  have hl3 := hL.n1
  have hl4 := hL.n2
  have hl5 := hL.c.l2
  have hld := h.load
  unfold LogS.append at e
  split at e
  · cases e; exact ⟨h, rfl⟩
  split at e
  · cases e; exact ⟨h, rfl⟩
  obtain ⟨a1, s1, e1, e⟩ := then_inv e
  have h1 := store_u64 h ⟨by omega, by omega⟩ e1
  obtain ⟨a2, s2, e2, e⟩ := then_inv e
  have h2 := store_u64 h1.1 (h1.1.load i) e2
  obtain ⟨a3, s3, e3, e⟩ := then_inv e
  have h3 := flush_u64 h2.1 e3
  obtain ⟨a4, s4, e4, e⟩ := then_inv e
  have h4 := fence_u64 h3.1 e4
  obtain ⟨a5, s5, e5, e⟩ := then_inv e
  have h5 := store_u64 h4.1 (by unfold stampI; omega) e5
  obtain ⟨a6, s6, e6, e⟩ := then_inv e
  have h6 := flush_u64 h5.1 e6
  obtain ⟨a7, s7, e7, e⟩ := then_inv e
  have h7 := fence_u64 h6.1 e7
  cases e
  exact ⟨h7.1, by rw [h7.2, h6.2, h5.2, h4.2, h3.2, h2.2, h1.2]⟩
theorem sstore_u64 {S S' : SecS} {s s' : Dev} {i v a : Int} (hS : SecW S) (h : U64 s) (hn : s.n ≤ 1000000) (hv : 0 ≤ v ∧ v < 18446744073709551616) (e : S.store s i v = .ok (a, S') s') : U64 s' ∧ s'.n = s.n := by
  unfold SecS.store at e
  split at e
  · cases e; exact ⟨h, rfl⟩
  · split at e
    · obtain ⟨⟨x1, x2⟩, t, e1, e⟩ := then_inv e
      have h1 := append_u64 hS.L h hn e1
      split at e
      · cases e; exact h1
      · obtain ⟨y, u, e2, e⟩ := then_inv e
        have h2 := store_u64 h1.1 hv e2
        cases e; exact ⟨h2.1, by rw [h2.2, h1.2]⟩
    · obtain ⟨y, u, e2, e⟩ := then_inv e
      have h2 := store_u64 h hv e2
      cases e; exact h2
theorem storeD (B : World) (bd be : Nat) : StoreF B 70 [ptr bd] bd be Unit (fun _ _ => pr True) (fun i v s _ => (s.store i v).then fun a s' => .ok (a, ()) s') (fun s _ => U64 s) where
  enter := Tryz.call70
  u64 := fun _ _ h => h
  says := fun Fr i v s e hok w hh => by
    refine (nstore_ok B Fr bd s i v w (hh.front 1 rfl).tail).mono fun en w' h => ?_
    cases en with
    | returned rv =>
      obtain ⟨H, ⟨s', ⟨a, hm, rfl⟩, rfl⟩, hh⟩ := h
      exact ⟨_, ⟨a, (), s', by rw [hm]; rfl, rfl, rfl⟩, (hh.unpr (p := True) trivial).back 1 (by simp)⟩
    | panicked c =>
      obtain ⟨H, ⟨s', ⟨hm, rfl⟩, rfl⟩, hh⟩ := h
      exact ⟨_, ⟨s', by rw [hm]; rfl, rfl, rfl⟩, hh⟩
    | outgrown => exact h
  keeps := fun i v s e a e' s' hok hv hm => by
    obtain ⟨a1, s1, e1, hm⟩ := then_inv hm
    cases hm
    exact (store_u64 hok hv e1).1
theorem storeS (B : World) (bd bs : Nat) (c : Cfg) : StoreF B 77 [ptr bs] bd bs SecS (fun b S => SecO b S) (fun i v s S => S.store s i v) (fun s S => U64 s ∧ s.n ≤ 1000000 ∧ SecW S ∧ S.L.d = bd ∧ S.L.c = c) where
  enter := Tryz.call77
  u64 := fun _ _ h => h.1
  says := fun Fr i v s S hok w hh => by
    obtain ⟨h1, h2, h3, rfl, h5⟩ := hok
    refine (sstoreO_ok B Fr bs S s h3 i v w (hh.front 1 rfl)).mono fun en w' h => ?_
    cases en with
    | returned rv =>
      obtain ⟨H, ⟨a, S', s', hm, rfl, rfl⟩, hh⟩ := h
      exact ⟨_, ⟨a, S', s', hm, rfl, rfl⟩, hh.front 1 rfl⟩
    | panicked c =>
      obtain ⟨H, ⟨s', hm, rfl, rfl⟩, hh⟩ := h
      exact ⟨_, ⟨s', hm, rfl, rfl⟩, hh⟩
    | outgrown => exact h
  keeps := fun i v s S a S' s' hok hv hm => by
    have h1 := sstore_u64 hok.2.2.1 hok.1 hok.2.1 hv hm
    have h2 := store_dc hm
    have hc := hok.2.2.1.L.c.act
    exact ⟨h1.1, by rw [h1.2]; exact hok.2.1, store_w hok.2.2.1 hok.2.1 (by have := hok.2.2.1.L.c.l1; have := hok.2.2.1.L.c.r1; omega) hm (store_lw hok.2.2.1.L hm), by rw [h2.1]; exact hok.2.2.2.1, by rw [h2.2.1]; exact hok.2.2.2.2⟩
theorem owrite_ok (B : World) (Fr : List HP) (f : FuncId) (fi : List Value) (bd be : Nat) (ε : Type) (ExA : Nat → ε → HP) (op : Int → Int → Dev → ε → Out (Int × ε)) (ok : Dev → ε → Prop) (hS : StoreF B f fi bd be ε ExA op ok) (o : Obj3) (ho : ObjW o) (i v : Int) (hv : 0 ≤ v ∧ v < 18446744073709551616) (s : Dev) (e : ε) (hok : ok s e) :
    ∀ w_, Holds B (DevA bd s :: ExA be e :: Fr) w_ → Calls Tryz.prog 150 [objV o, i64 i, w64 v, .func (.func f) fi.toArray #[]].toArray w_ (Ret B (fun rv H' => ∃ x e' s', setM op o i false v s e = .ok (x, e') s' ∧ rv = i64 x ∧ ok s' e' ∧ H' = DevA bd s' :: ExA be e' :: Fr) (fun ch H' => ∃ s', setM op o i false v s e = .off s' ∧ ch = offc ∧ H' = DevA bd s' :: Fr)) := by
  refine fn_enter Tryz.func150 rfl Tryz.ntmps150 rfl ?_; refine g_seq ?_; refine g_region ?_; refine p_chg rfl (ch_boxA rfl) .free rfl rfl ?_
  rintro _ _ ⟨b4, rfl, rfl⟩
  refine kPa rfl rfl ?_; refine p_nil ?_; refine g_seq ?_; refine g_region ?_; refine kPv (ev_loadA Tryz.isAgg89 Tryz.sizeOf89 rfl rfl) rfl ?_; refine kPm rfl rfl ?_; refine p_callq rfl (en_f Tryz.call104 rfl) (field_ok _ _ o ho _ _) .free rfl rfl ?_; refine kPm rfl rfl ?_; refine kPv (ev_ext rfl rfl) rfl ?_; refine kPv (ev_ext rfl rfl) rfl ?_; refine kPa rfl rfl ?_; refine kPa rfl rfl ?_; refine p_nil ?_
  refine go_sub (σ' := [(10, _), (9, _), (8, _), (2, _), (3, _)]) ⟨rfl, rfl, rfl, rfl, rfl, trivial⟩ ?_; refine g_seq ?_; refine g_seq ?_; refine g_region ?_; refine kPm rfl rfl ?_; refine kPv (ev_cmp rfl rfl rfl) rfl ?_; refine p_nil ?_
  refine g_if rfl (fun h18 => ?_) (fun h18 => ?_)
  · have hk : (objField o i false).2 ≠ 0 := by simpa using h18
    refine g_seq ?_; refine g_region ?_; refine kPm rfl rfl ?_; refine kPa rfl rfl ?_; refine p_nil ?_; refine g_ret ?_
    exact ret_tmp Tryz.results150 rfl (fun w_ hh => ⟨_, ⟨_, e, s, by unfold setM; rw [if_pos hk], rfl, hok, rfl⟩, hh.tail⟩)
  · have hk : ¬ (objField o i false).2 ≠ 0 := by simpa using h18
    refine g_skip ?_; refine g_seq ?_; refine g_region ?_; refine kPm rfl rfl ?_; refine kPm rfl rfl ?_; refine kPm rfl rfl ?_; refine go_pull ExA be ?_; refine go_pull DevA bd ?_
    refine p_call rfl (en_c hS.enter rfl rfl) (hS.says _ _ _ _ _ hok) .free rfl rfl ?_ ?_
    rotate_left
    · rintro _ _ ⟨s9, hm9, rfl, rfl⟩
      exact pan_fn fun w hh => ⟨_, ⟨s9, by unfold setM; rw [if_neg hk]; exact hm9, rfl, rfl⟩, (hh.front 1 rfl).tail⟩
    rintro _ _ ⟨a1, e1, s1, hm1, rfl, rfl⟩
    have hok1 := hS.keeps _ _ _ _ _ _ _ hok ⟨by omega, by omega⟩ hm1
    refine kPa rfl rfl ?_; refine p_nil ?_; refine go_sub (σ' := [(8, _)]) ⟨rfl, trivial⟩ ?_; refine g_ret ?_
    exact ret_tmp Tryz.results150 rfl (fun w_ hh => ⟨_, ⟨_, e1, s1, by unfold setM; rw [if_neg hk]; exact hm1, rfl, hok1, rfl⟩, (hh.front 2 rfl).tail⟩)
theorem opoint_ok (B : World) (Fr : List HP) (f : FuncId) (fi : List Value) (bd be : Nat) (ε : Type) (ExA : Nat → ε → HP) (op : Int → Int → Dev → ε → Out (Int × ε)) (ok : Dev → ε → Prop) (hS : StoreF B f fi bd be ε ExA op ok) (o : Obj3) (ho : ObjW o) (i v : Int) (hv : 0 ≤ v ∧ v ≤ 9223372036854775807) (s : Dev) (e : ε) (hok : ok s e) :
    ∀ w_, Holds B (DevA bd s :: ExA be e :: Fr) w_ → Calls Tryz.prog 69 [objV o, i64 i, i64 v, .func (.func f) fi.toArray #[]].toArray w_ (Ret B (fun rv H' => ∃ x e' s', setM op o i true v s e = .ok (x, e') s' ∧ rv = i64 x ∧ ok s' e' ∧ H' = DevA bd s' :: ExA be e' :: Fr) (fun ch H' => ∃ s', setM op o i true v s e = .off s' ∧ ch = offc ∧ H' = DevA bd s' :: Fr)) := by
  refine fn_enter Tryz.func69 rfl Tryz.ntmps69 rfl ?_; refine g_seq ?_; refine g_region ?_; refine p_chg rfl (ch_boxA rfl) .free rfl rfl ?_
  rintro _ _ ⟨b4, rfl, rfl⟩
  refine kPa rfl rfl ?_; refine p_nil ?_; refine g_seq ?_; refine g_region ?_; refine kPv (ev_loadA Tryz.isAgg89 Tryz.sizeOf89 rfl rfl) rfl ?_; refine kPm rfl rfl ?_; refine p_callq rfl (en_f Tryz.call104 rfl) (field_ok _ _ o ho _ _) .free rfl rfl ?_; refine kPm rfl rfl ?_; refine kPv (ev_ext rfl rfl) rfl ?_; refine kPv (ev_ext rfl rfl) rfl ?_; refine kPa rfl rfl ?_; refine kPa rfl rfl ?_; refine p_nil ?_
  refine go_sub (σ' := [(10, _), (9, _), (8, _), (2, _), (3, _)]) ⟨rfl, rfl, rfl, rfl, rfl, trivial⟩ ?_; refine g_seq ?_; refine g_seq ?_; refine g_region ?_; refine kPm rfl rfl ?_; refine kPv (ev_cmp rfl rfl rfl) rfl ?_; refine p_nil ?_
  refine g_if rfl (fun h18 => ?_) (fun h18 => ?_)
  · have hk : (objField o i true).2 ≠ 0 := by simpa using h18
    refine g_seq ?_; refine g_region ?_; refine kPm rfl rfl ?_; refine kPa rfl rfl ?_; refine p_nil ?_; refine g_ret ?_
    exact ret_tmp Tryz.results69 rfl (fun w_ hh => ⟨_, ⟨_, e, s, by unfold setM; rw [if_pos hk], rfl, hok, rfl⟩, hh.tail⟩)
  · have hk : ¬ (objField o i true).2 ≠ 0 := by simpa using h18
    refine g_skip ?_; refine g_seq ?_; refine g_region ?_; refine kPm rfl rfl ?_; refine kPm rfl rfl ?_; refine kPm rfl rfl ?_; refine kPv (ev_conv Tryz.runUnderlying3 Tryz.runUnderlying52 rfl (wru64 (by omega))) rfl ?_; refine go_pull ExA be ?_; refine go_pull DevA bd ?_
    refine p_call rfl (en_c hS.enter rfl rfl) (hS.says _ _ _ _ _ hok) .free rfl rfl ?_ ?_
    rotate_left
    · rintro _ _ ⟨s9, hm9, rfl, rfl⟩
      exact pan_fn fun w hh => ⟨_, ⟨s9, by unfold setM; rw [if_neg hk]; exact hm9, rfl, rfl⟩, (hh.front 1 rfl).tail⟩
    rintro _ _ ⟨a1, e1, s1, hm1, rfl, rfl⟩
    have hok1 := hS.keeps _ _ _ _ _ _ _ hok ⟨by omega, by omega⟩ hm1
    refine kPa rfl rfl ?_; refine p_nil ?_; refine go_sub (σ' := [(8, _)]) ⟨rfl, trivial⟩ ?_; refine g_ret ?_
    exact ret_tmp Tryz.results69 rfl (fun w_ hh => ⟨_, ⟨_, e1, s1, by unfold setM; rw [if_neg hk]; exact hm1, rfl, hok1, rfl⟩, (hh.front 2 rfl).tail⟩)
end Go.Proofs.YtbfheafpecgphaaGreat
namespace Go.Proofs.YtbfheafpecgphaaGreat
open Go
theorem rwrite_ok (B : World) (Fr : List HP) (f : FuncId) (fi : List Value) (bd be : Nat) (ε : Type) (ExA : Nat → ε → HP) (op : Int → Int → Dev → ε → Out (Int × ε)) (ok : Dev → ε → Prop) (hS : StoreF B f fi bd be ε ExA op ok) (c : Cfg) (hc : CfgW c) (b : Blk) (hb : 0 ≤ b.act ∧ b.act < 9223372036854775808 ∧ 0 ≤ b.used ∧ b.used < 9223372036854775808) (hw64 : ∀ x ∈ b.rts, 0 ≤ x ∧ x < 18446744073709551616) (hl0 : 0 < b.rts.length) (hl1 : b.rts.length ≤ 100000) (sv : Value) (hsv : cell1 sv = true) (hsl : SlR B Fr sv (b.rts.map w64)) (s : Dev) (e : ε) (hok : ok s e) :
    ∀ w_, Holds B (DevA bd s :: ExA be e :: Fr) w_ → Calls Tryz.prog 75 [ptr bd, cfgV c, blkV b sv, .func (.func f) fi.toArray #[]].toArray w_ (Ret B (fun rv H' => ∃ x e' s', writeM op c b s e = .ok (x, e') s' ∧ rv = i64 x ∧ ok s' e' ∧ H' = DevA bd s' :: ExA be e' :: Fr) (fun ch H' => ∃ s', writeM op c b s e = .off s' ∧ ch = offc ∧ H' = DevA bd s' :: Fr)) := by
  refine fn_enter Tryz.func75 rfl Tryz.ntmps75 rfl ?_
  obtain ⟨hA1, hA2, hA3⟩ := act_b hc
  have hws : ∀ x ∈ (b.act :: b.used :: b.rts), 0 ≤ x ∧ x < 18446744073709551616 := fun x hx => by
    simp only [List.mem_cons] at hx
    rcases hx with rfl | rfl | hx
    · omega
    · omega
    · exact hw64 x hx
  refine g_seq ?_; refine g_region ?_; refine p_chg rfl (ch_boxA rfl) .free rfl rfl ?_
  rintro _ _ ⟨b5, rfl, rfl⟩
  refine p_chg rfl (ch_boxA rfl) .free rfl rfl ?_
  rintro _ _ ⟨b6, rfl, rfl⟩
  refine kPa rfl rfl ?_; refine p_nil ?_; refine g_seq ?_; refine g_region ?_; refine kPv (ev_fa (m := _) fa_33_0 rfl rfl) rfl ?_; refine kPv (ev_load Tryz.isAgg3 rfl rfl) rfl ?_; refine kPv (ev_conv Tryz.runUnderlying3 Tryz.runUnderlying52 rfl (wru64 (by omega))) rfl ?_; refine kPv (ev_fa (m := _) fa_33_1 rfl rfl) rfl ?_; refine kPv (ev_load Tryz.isAgg3 rfl rfl) rfl ?_; refine kPv (ev_conv Tryz.runUnderlying3 Tryz.runUnderlying52 rfl (wru64 (by omega))) rfl ?_
  refine p_chg rfl (ch_bs2 Tryz.runUnderlying31 Tryz.sizeOf52 Tryz.zeroValue52 rfl rfl rfl rfl rfl) .free rfl rfl ?_
  rintro _ _ ⟨b20, rfl, rfl⟩
  refine kPv (ev_fa (m := _) fa_33_2 rfl rfl) rfl ?_; refine kPv (ev_load Tryz.isAgg31 rfl rfl) rfl ?_; refine go_conv (H' := VecA 52 w64 0 (.slice (some ⟨b20, 0, none⟩) 2 2, [b.act, b.used]) :: _) (fun w hh => vec_row rfl rfl hh) ?_; refine p_chg rfl (ch_append_vecs (yv := sv) (ys := b.rts) rfl rfl Tryz.runUnderlying31 Tryz.runUnderlying31 ⟨_, rfl⟩ Tryz.sizeOf52 Tryz.zeroValue52 rfl (fun _ => rfl) tb_52 rfl rfl ((((hsl.cons _).cons _).cons _).cons _) hl0 (by simp; omega)) .free rfl rfl ?_
  rintro sv2 _ ⟨hsv2, rfl⟩
  refine go_vecsa (by simp) fun bW oW capW hW => ?_
  subst hW
  refine kPa rfl rfl ?_; refine p_nil ?_; refine go_sub (σ' := [(9, _), (8, _), (5, _), (0, _), (3, _)]) ⟨rfl, rfl, rfl, rfl, rfl, trivial⟩ ?_; refine g_seq ?_; refine g_seq ?_; refine g_region ?_; refine kPm rfl rfl ?_; refine kPv (ev_len rfl Tryz.runUnderlying31 ⟨_, rfl⟩ rfl) rfl ?_; refine kPm rfl rfl ?_; refine p_nil ?_; refine g_block ?_
  refine g_loop (ι := Nat × Dev × ε) (fun i => i.1 ≤ (b.act :: b.used :: b.rts).length ∧ ok i.2.1 i.2.2 ∧ writeM op c b s e = writeN op ((b.act :: b.used :: b.rts).drop i.1) (c.active + i.1) i.2.1 i.2.2) (fun i => [(0, ptr bd), (3, .func (.func f) fi.toArray #[]), (5, ptr b5), (8, i64 0), (24, .slice (some ⟨bW, oW, none⟩) (b.act :: b.used :: b.rts).length capW), (25, i64 ((b.act :: b.used :: b.rts).length : Nat)), (26, i64 i.1)]) (fun i => VecA 52 w64 0 (.slice (some ⟨bW, oW, none⟩) (b.act :: b.used :: b.rts).length capW, (b.act :: b.used :: b.rts)) :: row b6 [i64 b.act, i64 b.used, sv] 33 :: row b5 [i64 c.log, i64 c.roots, i64 c.space] 30 :: DevA bd i.2.1 :: ExA be i.2.2 :: Fr) (fun i => (b.act :: b.used :: b.rts).length - i.1) (0, s, e) ⟨Nat.zero_le _, hok, by simp [writeM]⟩ (fun a w st => st.to ⟨rfl, rfl, rfl, rfl, rfl, rfl, rfl, trivial⟩ id) ?_
  rintro ⟨k, sL, eL⟩ ⟨hkw, hok2, hinv⟩
  simp only at hkw hok2 hinv ⊢
  have hr1 := hc.r1
  have hkb : (k : Int) ≤ 200000 := by simp at hkw; omega
  refine g_seq ?_; refine g_region ?_; refine kPv (ev_cmp rfl rfl rfl) rfl ?_; refine p_nil ?_; refine g_seq ?_
  refine g_if rfl (fun h27 => ?_) (fun h27 => ?_)
  · have hk : k < (b.act :: b.used :: b.rts).length := by simp at h27 ⊢; omega
    have hwk := hws _ (List.getElem_mem hk)
    have hst : writeN op ((b.act :: b.used :: b.rts).drop k) (c.active + k) sL eL = if sL.load (c.active + k) = (b.act :: b.used :: b.rts)[k] then writeN op ((b.act :: b.used :: b.rts).drop (k + 1)) (c.active + (k + 1 : Nat)) sL eL else (op (c.active + k) ((b.act :: b.used :: b.rts)[k]) sL eL).then fun x s9 => if x.1 ≠ 0 then .ok x s9 else writeN op ((b.act :: b.used :: b.rts).drop (k + 1)) (c.active + (k + 1 : Nat)) s9 x.2 := by
      rw [List.drop_eq_getElem_cons hk]
      push_cast
      rw [← Int.add_assoc]
      rfl
    refine g_skip ?_; refine g_seq ?_; refine g_block ?_; refine g_seq ?_; refine g_region ?_; refine kPm rfl rfl ?_; refine kPv (ev_iaS Tryz.runUnderlying31 Tryz.sizeOf52 rfl rfl (by omega) (by omega)) rfl ?_
    refine kPv (ev_loadS (v := w64 (b.act :: b.used :: b.rts)[k]) Tryz.isAgg52 (vec_slr 0 rfl) rfl (by rw [Int.toNat_natCast, List.getElem?_map, List.getElem?_eq_getElem hk]; rfl)) rfl ?_
    refine kPa rfl rfl ?_; refine kPa rfl rfl ?_; refine p_nil ?_; refine g_seq ?_; refine g_region ?_; refine kPv (ev_loadA Tryz.isAgg30 Tryz.sizeOf30 rfl rfl) rfl ?_; refine p_callq rfl (en_f Tryz.call45 rfl) (active_ok _ _ c hc) .free rfl rfl ?_; refine kPm rfl rfl ?_
    first | refine p_val rfl (ev_add rfl rfl (wr64 (by omega))) .free rfl rfl ?_ | refine p_val rfl (ev_add rfl rfl rfl) .free rfl rfl ?_
    refine kPa rfl rfl ?_; refine p_nil ?_; refine go_sub (σ' := [(12, _), (11, _), (26, _), (25, _), (24, _), (8, _), (5, _), (0, _), (3, _)]) ⟨rfl, rfl, rfl, rfl, rfl, rfl, rfl, rfl, rfl, trivial⟩ ?_; refine g_seq ?_; refine g_seq ?_; refine g_region ?_; refine kPm rfl rfl ?_; refine kPm rfl rfl ?_; refine p_callq rfl (en_f Tryz.call72 rfl) (ro_at (q := DevA) (fun Fr => nload_ok _ Fr _ _ _)) .free rfl rfl ?_; refine kPm rfl rfl ?_; refine kPv (ev_cmp rfl rfl rfl) rfl ?_; refine p_nil ?_
    refine g_if rfl (fun h39 => ?_) (fun h39 => ?_)
    · have hk4 : sL.load (c.active + k) = (b.act :: b.used :: b.rts)[k] := by simpa using h39
      refine g_exit ?_; refine g_region ?_
      first | refine p_val rfl (ev_add rfl rfl (wr64 (by omega))) .free rfl rfl ?_ | refine p_val rfl (ev_add rfl rfl rfl) .free rfl rfl ?_
      refine kPm rfl rfl ?_; refine p_nil ?_; refine go_sub (σ' := [(26, _), (25, _), (24, _), (8, _), (5, _), (0, _), (3, _)]) ⟨rfl, rfl, rfl, rfl, rfl, rfl, rfl, trivial⟩ ?_
      exact fun a w_ st => ⟨(k + 1, sL, eL), ⟨by simp only; omega, hok2, by rw [hinv, hst, if_pos hk4]⟩, by simp only; omega, st.to ⟨rfl, rfl, rfl, rfl, rfl, rfl, rfl, trivial⟩ id⟩
    · have hk4 : ¬ sL.load (c.active + k) = (b.act :: b.used :: b.rts)[k] := by simpa using h39
      refine g_skip ?_; refine g_seq ?_; refine g_region ?_; refine kPm rfl rfl ?_; refine kPm rfl rfl ?_; refine kPm rfl rfl ?_; refine go_pull ExA be ?_; refine go_pull DevA bd ?_
      refine p_call rfl (en_c hS.enter rfl rfl) (hS.says _ _ _ _ _ hok2) .free rfl rfl ?_ ?_
      rotate_left
      · rintro _ _ ⟨s9, hm9, rfl, rfl⟩
        exact pan_fn fun w hh => ⟨_, ⟨s9, by rw [hinv, hst, if_neg hk4, hm9]; rfl, rfl, rfl⟩, (((hh.front 3 rfl).front 3 rfl).front 3 rfl).tail.tail.tail⟩
      rintro _ _ ⟨a2, e2, s2, hm2, rfl, rfl⟩
      have hok3 := hS.keeps _ _ _ _ _ _ _ hok2 hwk hm2
      refine kPa rfl rfl ?_; refine p_nil ?_; refine go_sub (σ' := [(13, _), (26, _), (25, _), (24, _), (8, _), (5, _), (0, _), (3, _)]) ⟨rfl, rfl, rfl, rfl, rfl, rfl, rfl, rfl, trivial⟩ ?_; refine g_seq ?_; refine g_region ?_; refine kPm rfl rfl ?_; refine kPv (ev_cmp rfl rfl rfl) rfl ?_; refine p_nil ?_
      refine g_if rfl (fun h45 => ?_) (fun h45 => ?_)
      · have hk5 : a2 ≠ 0 := by simpa using h45
        refine g_seq ?_; refine g_region ?_; refine kPm rfl rfl ?_; refine kPa rfl rfl ?_; refine p_nil ?_; refine g_ret ?_
        exact ret_tmp Tryz.results75 rfl (fun w_ hh => ⟨_, ⟨_, e2, s2, by rw [hinv, hst, if_neg hk4, hm2, then_ok, if_pos hk5], rfl, hok3, rfl⟩, (((hh.front 4 rfl).front 4 rfl).front 4 rfl).tail.tail.tail⟩)
      · have hk5 : ¬ a2 ≠ 0 := by simpa using h45
        refine g_skip ?_; refine g_region ?_
        first | refine p_val rfl (ev_add rfl rfl (wr64 (by omega))) .free rfl rfl ?_ | refine p_val rfl (ev_add rfl rfl rfl) .free rfl rfl ?_
        refine kPm rfl rfl ?_; refine p_nil ?_
        exact fun a w_ st => ⟨(k + 1, s2, e2), ⟨by simp only; omega, hok3, by rw [hinv, hst, if_neg hk4, hm2, then_ok, if_neg hk5]⟩, by simp only; omega, st.to ⟨rfl, rfl, rfl, rfl, rfl, rfl, rfl, trivial⟩ (fun hh => (((((hh.front 1 rfl).front 1 rfl).front 4 rfl).front 4 rfl).front 4 rfl))⟩
  · have hk : ¬ k < (b.act :: b.used :: b.rts).length := by simp at h27 ⊢; omega
    refine g_exit ?_; refine g_seq ?_; refine g_region ?_; refine kPa rfl rfl ?_; refine p_nil ?_; refine go_sub (σ' := [(8, _)]) ⟨rfl, trivial⟩ ?_; refine g_ret ?_
    exact ret_tmp Tryz.results75 rfl (fun w_ hh => ⟨_, ⟨0, eL, sL, by rw [hinv, List.drop_eq_nil_of_le (by omega)]; rfl, rfl, hok2, rfl⟩, hh.tail.tail.tail⟩)
end Go.Proofs.YtbfheafpecgphaaGreat
namespace Go.Proofs.YtbfheafpecgphaaGreat
open Go
abbrev devOp (i v : Int) (s : Dev) (_ : Unit) : Out (Int × Unit) := (s.store i v).then fun a s' => .ok (a, ()) s'
theorem good_op {s : Dev} {i v : Int} (h : s.pow.lim < 0) : Good (devOp i v s ()) (fun _ => True) s.n :=
  good_then (good_store h) fun _ s1 _ h1 e1 => ⟨_, _, rfl, trivial, h1, e1⟩
theorem good_fill {a h : Int} : ∀ (f : Nat) (i : Int) (s : Dev), s.pow.lim < 0 → Good (fillM devOp a h f i s ()) (fun _ => True) s.n
  | 0, _, s, h1 => ⟨_, _, rfl, trivial, h1, rfl⟩
  | f + 1, i, s, h1 => by
    unfold fillM
    refine good_then (good_op h1) fun x s1 _ h2 e2 => ?_
    split
    · exact ⟨_, _, rfl, trivial, h2, e2⟩
    · exact e2 ▸ good_fill f (i + 1) s1 h2
theorem good_alloc {c : Cfg} {w r : Int} {s : Dev} (h1 : s.pow.lim < 0) : Good (allocM devOp c w r s ()) (fun _ => True) s.n := by
  unfold allocM
  split
  · exact ⟨_, _, rfl, trivial, h1, rfl⟩
  split
  · exact ⟨_, _, rfl, trivial, h1, rfl⟩
  split
  · exact ⟨_, _, rfl, trivial, h1, rfl⟩
  refine good_then (good_op h1) fun x s1 _ h2 e2 => ?_
  split
  · exact ⟨_, _, rfl, trivial, h2, e2⟩
  · exact e2 ▸ good_fill _ _ s1 h2
theorem allocD_ok (B : World) (Fr : List HP) (bd : Nat) (c : Cfg) (hc : CfgW c) (w r : Int) (s : Dev) (hl : s.pow.lim < 0) (hu : U64 s) :
    ∀ w_, Holds B (DevA bd s :: Fr) w_ → Calls Tryz.prog 102 [ptr bd, cfgV c, .agg #[i64 w, i64 r], .func (.func 70) [ptr bd].toArray #[]].toArray w_ (Ret B (fun rv H' => ∃ x s', allocM devOp c w r s () = .ok (x, ()) s' ∧ rv = .tuple #[i64 x.1, i64 x.2] ∧ s'.pow.lim < 0 ∧ s'.n = s.n ∧ U64 s' ∧ H' = DevA bd s' :: Fr) (fun _ _ => False)) := fun w_ hh => by
  obtain ⟨y, s2, hg, _, hg2, hg3⟩ := good_alloc (c := c) (w := w) (r := r) hl
  refine (alloc_ok B Fr _ [ptr bd] bd 0 Unit (fun _ _ => pr True) devOp _ (storeD B bd 0) c hc w r s () hu w_ ((hh.unpr (p := True) trivial).back 1 (by simp))).mono fun en w' h => ?_
  cases en with
  | returned rv =>
    obtain ⟨H, ⟨x, e', s', hm, rfl, hok, rfl⟩, hh⟩ := h
    obtain ⟨rfl, rfl⟩ : y = (x, e') ∧ s2 = s' := by rw [hg] at hm; cases hm; exact ⟨rfl, rfl⟩
    exact ⟨_, ⟨x, s2, hm, rfl, hg2, hg3, hok, rfl⟩, (hh.front 1 rfl).tail⟩
  | panicked c =>
    obtain ⟨H, ⟨s', hm, _⟩, _⟩ := h
    rw [hg] at hm; cases hm
  | outgrown => exact h
theorem zeroN_u64 (f : Int → Int) : ∀ (k : Nat) (i : Int) (s s' : Dev) (a : Unit), U64 s → zeroN f k i s = .ok a s' → U64 s'
  | 0, _, s, s', a, h, e => by cases e; exact h
  | k + 1, i, s, s', a, h, e => by
    rw [zeroN_add] at e
    obtain ⟨_, s1, e1, e⟩ := then_inv e
    obtain ⟨_, s2, e2, e⟩ := then_inv e
    exact zeroN_u64 f k _ s2 s' a (flush_u64 (store_u64 h (by decide) e1).1 e2).1 e
theorem format_u64 {s s' : Dev} {c : Cfg} {a : Int} (h : U64 s) (hc : CfgW c) (e : s.format c = .ok a s') : U64 s' := by
  have := hc.r1; have := hc.r2; have := hc.l1; have := hc.l2; have := hc.s1; have := hc.s2
  unfold Dev.format at e
  split at e
  · cases e; exact h
  obtain ⟨_, s1, e1, e⟩ := then_inv e
  obtain ⟨_, s2, e2, e⟩ := then_inv e
  obtain ⟨_, s3, e3, e⟩ := then_inv e
  have h3 := (fence_u64 (flush_u64 (store_u64 h (by decide) e1).1 e2).1 e3).1
  obtain ⟨_, s4, e4, e⟩ := then_inv e
  simp only [st3] at e4
  obtain ⟨_, t1, f1, e4⟩ := then_inv e4
  obtain ⟨_, t2, f2, e4⟩ := then_inv e4
  obtain ⟨_, t3, f3, e4⟩ := then_inv e4
  have g1 := (store_u64 h3 (show 0 ≤ c.log ∧ c.log < _ by omega) f1).1
  have g2 := (store_u64 g1 (show 0 ≤ c.roots ∧ c.roots < _ by omega) f2).1
  have g3 := (store_u64 g2 (show 0 ≤ c.space ∧ c.space < _ by omega) f3).1
  cases e4
  obtain ⟨_, s5, e5, e⟩ := then_inv e
  obtain ⟨_, s6, e6, e⟩ := then_inv e
  obtain ⟨_, s7, e7, e⟩ := then_inv e
  obtain ⟨_, s8, e8, e⟩ := then_inv e
  have h8 := zeroN_u64 _ _ _ _ _ _ (zeroN_u64 _ _ _ _ _ _ (flush_u64 (store_u64 g3 (by decide) e5).1 e6).1 e7) e8
  obtain ⟨_, s9, e9, e⟩ := then_inv e
  obtain ⟨_, s10, e10, e⟩ := then_inv e
  have h10 := (fence_u64 (flush_u64 h8 e9).1 e10).1
  obtain ⟨_, s11, e11, e⟩ := then_inv e
  obtain ⟨_, s12, e12, e⟩ := then_inv e
  obtain ⟨_, s13, e13, e⟩ := then_inv e
  have h13 := (fence_u64 (flush_u64 (store_u64 h10 (by decide) e11).1 e12).1 e13).1
  cases e; exact h13
theorem dev0_u64 (pa N : Nat) : U64 (dev0 pa [] N) := fun x => by
  show 0 ≤ (tab N (oldW [])).getD x 0 ∧ (tab N (oldW [])).getD x 0 < _
  rw [List.getD_eq_getElem?_getD]
  unfold tab
  by_cases h : x < N
  · simp [h, oldW]
  · simp [h]
abbrev u8 (x : Int) : Value := .int .u8 x
def mkH (h : Int × Int) : Int × Int := (h.2 % 9, h.1 % (h.2 % 9 + 1))
def fillN (c : Cfg) : List (Int × Int) → Dev → List Int → Out (List Int)
  | [], s, acc => .ok acc s
  | h :: t, s, acc => (allocM devOp c (mkH h).1 (mkH h).2 s ()).then fun x s' => fillN c t s' (if x.1.2 = 0 then acc ++ [x.1.1] else acc)
theorem hmake_ok (B : World) (H : List HP) (h : Int × Int) (h0 : 0 ≤ h.1 ∧ h.1 < 256) (h1 : 0 ≤ h.2 ∧ h.2 < 256) :
    ∀ w, Holds B H w → Calls Tryz.prog 103 [.agg #[u8 h.1, u8 h.2]].toArray w (PureR B H (.agg #[i64 (mkH h).1, i64 (mkH h).2])) := by
  refine fn_enter Tryz.func103 rfl Tryz.ntmps103 rfl ?_; refine g_seq ?_; refine g_region ?_; refine p_chg rfl (ch_boxA rfl) .free rfl rfl ?_
  rintro _ _ ⟨b1, rfl, rfl⟩
  refine p_chg rfl (ch_allocA Tryz.zeroValue87 rfl) .free rfl rfl ?_
  rintro _ _ ⟨b2, rfl, rfl⟩
  refine p_nil ?_; refine g_seq ?_; refine g_region ?_; refine kPv (ev_fa (m := _) fa_107_1 rfl rfl) rfl ?_; refine kPv (ev_load Tryz.isAgg5 rfl rfl) rfl ?_; refine kPv (ev_rem (c := h.2 % 9) rfl rfl (by decide) (rem_e 9 (by omega))) rfl ?_
  first | refine p_val rfl (ev_conv Tryz.runUnderlying5 Tryz.runUnderlying3 rfl (wr64 (by omega))) .free rfl rfl ?_ | refine p_val rfl (ev_conv Tryz.runUnderlying5 Tryz.runUnderlying3 rfl rfl) .free rfl rfl ?_
  refine kPa rfl rfl ?_; refine p_nil ?_; refine g_seq ?_; refine g_region ?_; refine kPm rfl rfl ?_; refine kPv (ev_fa (m := _) fa_107_0 rfl rfl) rfl ?_; refine kPv (ev_load Tryz.isAgg5 rfl rfl) rfl ?_
  first | refine p_val rfl (ev_conv Tryz.runUnderlying5 Tryz.runUnderlying3 rfl (wr64 (by omega))) .free rfl rfl ?_ | refine p_val rfl (ev_conv Tryz.runUnderlying5 Tryz.runUnderlying3 rfl rfl) .free rfl rfl ?_
  refine kPm rfl rfl ?_
  first | refine p_val rfl (ev_add rfl rfl (wr64 (by omega))) .free rfl rfl ?_ | refine p_val rfl (ev_add rfl rfl rfl) .free rfl rfl ?_
  refine kPv (ev_rem (c := h.1 % (h.2 % 9 + 1)) rfl rfl (by omega) (rem_e _ (by omega))) rfl ?_; refine kPv (ev_build rfl (bld_87_0_1 _ _ rfl rfl)) rfl ?_; refine p_chg0 rfl (ch_storeA (vs := _) Tryz.sizeOf87 rfl rfl rfl rfl rfl) .free rfl ?_
  rintro _ _ rfl
  refine p_nil ?_; refine go_sub (σ' := [(2, _)]) ⟨rfl, trivial⟩ ?_; refine g_ret ?_
  exact ret_1 Tryz.results103 (.cellA rfl Tryz.isAgg87 Tryz.sizeOf87 rfl rfl) (fun w hw => ⟨rfl, hw.tail.tail⟩)
theorem filled_ok (B : World) (Fr : List HP) (x0 x1 x2 : Int) (hx : 0 ≤ x0 ∧ 0 ≤ x1 ∧ 0 ≤ x2) (c : Cfg) (hcm : c = mkC x0 x1 x2) (hs : List (Int × Int)) (hhs : ∀ h ∈ hs, (0 ≤ h.1 ∧ h.1 < 256) ∧ (0 ≤ h.2 ∧ h.2 < 256)) (hlen : hs.length ≤ 100000) (q : Option Addr) (cap : Nat) (hv : SlN B Fr (.slice q hs.length cap) 2 (hs.map fun h => [u8 h.1, u8 h.2])) :
    ∀ w_, Holds B Fr w_ → Calls Tryz.prog 67 [.agg #[u16 x0, u16 x1, u16 x2], .slice q hs.length cap].toArray w_ (Ret B (fun rv H' => ∃ (bd pa N : Nat) (s0 s' : Dev) (out : List Int) (ov sv : Value), Fmt c N s0 ∧ (N : Int) = c.words ∧ (U64 s0 ∧ (dev0 pa [] N).format c = .ok 0 s0) ∧ fillN c hs s0 [] = .ok out s' ∧ U64 s' ∧ s'.pow.lim < 0 ∧ s'.n = N ∧ cell1 ov = true ∧ cell1 sv = true ∧ rv = .tuple #[ptr bd, cfgV c, blkV (s'.block c).1 sv, ov] ∧ H' = VecU 0 (sv, (s'.block c).1.rts) :: DevA bd s' :: VecA 3 i64 0 (ov, out) :: Fr) (fun _ _ => False)) := by
  refine fn_enter Tryz.func67 rfl Tryz.ntmps67 rfl ?_
  have hc : CfgW c := by rw [hcm]; exact mkC_w hx.1 hx.2.1 hx.2.2
  refine g_seq ?_; refine g_region ?_; refine p_chg rfl (ch_boxA rfl) .free rfl rfl ?_
  rintro _ _ ⟨b2, rfl, rfl⟩
  refine kPa rfl rfl ?_; refine p_chg rfl (ch_allocA Tryz.zeroValue30 rfl) .free rfl rfl ?_
  rintro _ _ ⟨b5, rfl, rfl⟩
  refine p_chg rfl (ch_allocA Tryz.zeroValue33 rfl) .free rfl rfl ?_
  rintro _ _ ⟨b6, rfl, rfl⟩
  refine kPa rfl rfl ?_; refine p_nil ?_; refine g_seq ?_; refine g_region ?_; refine kPv (ev_loadA Tryz.isAgg24 Tryz.sizeOf24 rfl rfl) rfl ?_; refine p_callq rfl (en_f Tryz.call100 rfl) (make_okc _ _ x0 x1 x2 c hcm hx.1 hx.2.1 hx.2.2) .free rfl rfl ?_; refine p_chg rfl (ch_allocA Tryz.zeroValue30 rfl) .free rfl rfl ?_
  rintro _ _ ⟨b8, rfl, rfl⟩
  refine p_chg0 rfl (ch_storeA (vs := _) Tryz.sizeOf30 rfl rfl rfl rfl rfl) .free rfl ?_
  rintro _ _ rfl
  refine p_nil ?_; refine g_seq ?_; refine g_region ?_; refine kPv (ev_loadA Tryz.isAgg30 Tryz.sizeOf30 rfl rfl) rfl ?_
  refine p_call rfl (en_f Tryz.call101 rfl) (formatted_ok _ _ c hc none 0 [] (by decide) (fun _ h => absurd h (Nat.not_lt_zero _)) SlR.nil) .free rfl rfl ?_ ?_
  rotate_left
  · rintro _ _ ⟨⟩
  rintro _ _ ⟨bd, pa, N, s0, hN, hf, rfl, rfl⟩
  have hfm := fmt_of hc hN hf
  have hu0 := format_u64 (dev0_u64 pa N) hc hf
  refine kPm rfl rfl ?_; refine kPv (ev_ext rfl rfl) rfl ?_; refine kPv (ev_ext rfl rfl) rfl ?_; refine kPa rfl rfl ?_; refine kPa rfl rfl ?_; refine p_nil ?_; refine go_sub (σ' := [(10, _), (9, _), (8, _), (7, _), (6, _), (5, _), (4, _), (1, _)]) ⟨rfl, rfl, rfl, rfl, rfl, rfl, rfl, rfl, trivial⟩ ?_; refine g_seq ?_; refine g_seq ?_; refine g_region ?_; refine kPm rfl rfl ?_; refine kPv (ev_not rfl) rfl ?_; refine p_nil ?_; refine g_iff rfl (rfl) ?_; refine g_skip ?_; refine g_seq ?_
  refine g_region ?_; refine kPa rfl rfl ?_; refine p_nil ?_; refine g_seq ?_; refine g_seq ?_; refine g_region ?_; refine kPm rfl rfl ?_; refine kPv (ev_len rfl Tryz.runUnderlying25 ⟨_, rfl⟩ rfl) rfl ?_; refine kPm rfl rfl ?_; refine p_nil ?_; refine g_block ?_
  refine g_loop (ι := Nat × Dev × Value × List Int) (fun i => i.1 ≤ hs.length ∧ U64 i.2.1 ∧ i.2.1.pow.lim < 0 ∧ i.2.1.n = N ∧ cell1 i.2.2.1 = true ∧ i.2.2.2.length ≤ i.1 ∧ fillN c hs s0 [] = fillN c (hs.drop i.1) i.2.1 i.2.2.2) (fun i => [(4, .pointer none), (5, ptr b5), (6, ptr b6), (7, .slice none 0 0), (8, ptr b8), (9, ptr bd), (11, i.2.2.1), (29, .slice q hs.length cap), (30, i64 hs.length), (31, i64 i.1)]) (fun i => DevA bd i.2.1 :: VecA 3 i64 0 (i.2.2.1, i.2.2.2) :: row b8 [i64 c.log, i64 c.roots, i64 c.space] 30 :: row b6 [i64 0, i64 0, .slice none 0 0] 33 :: row b5 [i64 0, i64 0, i64 0] 30 :: row b2 [u16 x0, u16 x1, u16 x2] 24 :: Fr) (fun i => hs.length - i.1) (0, s0, .slice none 0 0, []) ⟨Nat.zero_le _, hu0, hfm.lim, hfm.n, rfl, Nat.le_refl _, rfl⟩ (fun a w st => st.to ⟨rfl, rfl, rfl, rfl, rfl, rfl, rfl, rfl, rfl, rfl, trivial⟩ (fun hh => (vec_nil hh).front 1 rfl)) ?_
  rintro ⟨k, sL, ov, out⟩ ⟨hk1, huL, hlL, hnL, hov, hol, hinv⟩
  simp only at hk1 huL hlL hnL hov hol hinv ⊢
  refine g_seq ?_; refine g_region ?_; refine kPv (ev_cmp rfl rfl rfl) rfl ?_; refine p_nil ?_; refine g_seq ?_
  refine g_if rfl (fun h32 => ?_) (fun h32 => ?_)
  · have hk : k < hs.length := by simpa using h32
    have hst : fillN c (hs.drop k) sL out = (allocM devOp c (mkH hs[k]).1 (mkH hs[k]).2 sL ()).then fun x s' => fillN c (hs.drop (k + 1)) s' (if x.1.2 = 0 then out ++ [x.1.1] else out) := by
      rw [List.drop_eq_getElem_cons hk]
      rfl
    refine g_skip ?_; refine g_seq ?_; refine g_block ?_; refine g_seq ?_; refine g_region ?_; refine go_slq ((((((hv.cons _).cons _).cons _).cons _).cons _).cons _) (by simp; omega) fun bV oV hq => ?_
    subst hq
    refine kPv (ev_ia (m := oV + k * 2) Tryz.runUnderlying25 Tryz.sizeOf107 rfl rfl (by omega) (by omega) (by omega)) rfl ?_
    refine kPv (ev_loadN (i := k) (c := [u8 hs[k].1, u8 hs[k].2]) Tryz.isAgg107 Tryz.sizeOf107 ((((((hv.cons _).cons _).cons _).cons _).cons _).cons _) rfl (by simp [List.getElem?_eq_getElem hk])) rfl ?_
    refine p_chg rfl (ch_allocA Tryz.zeroValue107 rfl) .free rfl rfl ?_
    rintro _ _ ⟨b13, rfl, rfl⟩
    refine p_chg0 rfl (ch_storeA (vs := _) Tryz.sizeOf107 rfl rfl rfl rfl rfl) .free rfl ?_
    rintro _ _ rfl
    refine p_nil ?_; refine go_sub (σ' := [(13, _), (31, _), (30, _), (29, _), (11, _), (9, _), (8, _), (7, _), (6, _), (5, _), (4, _)]) ⟨rfl, rfl, rfl, rfl, rfl, rfl, rfl, rfl, rfl, rfl, rfl, trivial⟩ ?_; refine g_seq ?_; refine g_drawm [6] Tryz.mixed (by kernel_rfl) (by kernel_rfl) ?_; refine seg_q ?_; refine kQm rfl rfl ?_; refine kQv (ev_loadA Tryz.isAgg30 Tryz.sizeOf30 rfl rfl) rfl ?_; refine kQv (ev_loadA Tryz.isAgg107 Tryz.sizeOf107 rfl rfl) rfl ?_
    refine q_call rfl (en_f Tryz.call103 rfl) (hmake_ok _ _ (hs[k]) (hhs _ (List.getElem_mem hk)).1 (hhs _ (List.getElem_mem hk)).2) .free rfl ?_; refine kQm rfl rfl ?_; refine kQv (ev_mkf rfl rfl) rfl ?_; refine q_nil ?_; refine go_pull DevA bd ?_
    refine p_call rfl (en_f Tryz.call102 rfl) (allocD_ok _ _ bd c hc _ _ sL hlL huL) .free rfl rfl ?_ ?_
    rotate_left
    · rintro _ _ ⟨⟩
    rintro _ _ ⟨x1, s1, hm1, rfl, hl1, hn1, hu1, rfl⟩
    refine p_nil ?_; refine seg_e ?_; refine kQm rfl rfl ?_; refine kQv (ev_ext rfl rfl) rfl ?_; refine kQv (ev_ext rfl rfl) rfl ?_; refine kQa rfl rfl ?_; refine kQa rfl rfl ?_; refine q_nil ?_; refine go_sub (σ' := [(15, _), (14, _), (31, _), (30, _), (29, _), (11, _), (9, _), (8, _), (7, _), (6, _), (5, _), (4, _)]) ⟨rfl, rfl, rfl, rfl, rfl, rfl, rfl, rfl, rfl, rfl, rfl, rfl, trivial⟩ ?_; refine g_seq ?_; refine g_region ?_; refine kPm rfl rfl ?_; refine kPv (ev_cmp rfl rfl rfl) rfl ?_
    refine p_nil ?_
    refine g_if rfl (fun h46 => ?_) (fun h46 => ?_)
    · have hk2 : x1.2 = 0 := by simpa using h46
      refine g_region ?_; refine kPm rfl rfl ?_; refine kPm rfl rfl ?_; refine p_chg rfl (ch_bs1 Tryz.runUnderlying34 Tryz.sizeOf3 Tryz.zeroValue3 rfl rfl rfl) .free rfl rfl ?_
      rintro _ _ ⟨b49, rfl, rfl⟩
      refine go_front 3 rfl ?_
      simp only [List.eraseIdx_cons_succ, List.eraseIdx_cons_zero]
      refine p_chg rfl (ch_append_vec rfl rfl Tryz.runUnderlying34 Tryz.runUnderlying34 ⟨_, rfl⟩ Tryz.sizeOf3 Tryz.zeroValue3 rfl (fun _ => rfl) tb_3 rfl rfl (by omega)) .free rfl rfl ?_
      rintro ov2 _ ⟨hov2, rfl⟩
      refine kPa rfl rfl ?_; refine p_nil ?_; refine go_sub (σ' := [(11, _), (31, _), (30, _), (29, _), (9, _), (8, _), (7, _), (6, _), (5, _), (4, _)]) ⟨rfl, rfl, rfl, rfl, rfl, rfl, rfl, rfl, rfl, rfl, trivial⟩ ?_; refine g_region ?_
      first | refine p_val rfl (ev_add rfl rfl (wr64 (by omega))) .free rfl rfl ?_ | refine p_val rfl (ev_add rfl rfl rfl) .free rfl rfl ?_
      refine kPm rfl rfl ?_; refine p_nil ?_
      exact fun a w st => ⟨(k + 1, s1, ov2, out ++ [x1.1]), ⟨by simp only; omega, hu1, hl1, hn1.trans hnL, hov2, by simp; omega, by rw [hinv, hst, hm1, then_ok, if_pos hk2]⟩, by simp only; omega, st.to ⟨rfl, rfl, rfl, rfl, rfl, rfl, rfl, rfl, rfl, rfl, trivial⟩ (fun hh => (((hh.front 2 rfl).tail.front 0 rfl).front 1 rfl))⟩
    · have hk2 : ¬ x1.2 = 0 := by simpa using h46
      refine g_skip ?_; refine g_region ?_
      first | refine p_val rfl (ev_add rfl rfl (wr64 (by omega))) .free rfl rfl ?_ | refine p_val rfl (ev_add rfl rfl rfl) .free rfl rfl ?_
      refine kPm rfl rfl ?_; refine p_nil ?_
      exact fun a w st => ⟨(k + 1, s1, ov, out), ⟨by simp only; omega, hu1, hl1, hn1.trans hnL, hov, by simp only; omega, by rw [hinv, hst, hm1, then_ok, if_neg hk2]⟩, by simp only; omega, st.to ⟨rfl, rfl, rfl, rfl, rfl, rfl, rfl, rfl, rfl, rfl, trivial⟩ (fun hh => (((hh.front 1 rfl).tail.front 1 rfl).front 1 rfl))⟩
  · have hk : ¬ k < hs.length := by simpa using h32
    refine g_exit ?_; refine g_seq ?_; refine g_region ?_; refine kPm rfl rfl ?_; refine kPv (ev_loadA Tryz.isAgg30 Tryz.sizeOf30 rfl rfl) rfl ?_; refine go_pull DevA bd ?_
    refine p_call rfl (en_f Tryz.call15 rfl) (rread_ok _ _ _ _ c hc huL) .free rfl rfl ?_ ?_
    rotate_left
    · rintro _ _ ⟨⟩
    rintro _ _ ⟨sv, hsv, rfl, rfl⟩
    refine kPm rfl rfl ?_; refine kPv (ev_ext rfl rfl) rfl ?_; refine kPv (ev_ext rfl rfl) rfl ?_; refine p_chg rfl (ch_allocA Tryz.zeroValue33 rfl) .free rfl rfl ?_
    rintro _ _ ⟨b16, rfl, rfl⟩
    refine p_chg0 rfl (ch_storeA (vs := [i64 (sL.block c).1.act, i64 (sL.block c).1.used, sv]) Tryz.sizeOf33 rfl rfl rfl (all3 hsv) rfl) .free rfl ?_
    rintro _ _ rfl
    refine go_conv (H' := row b16 [i64 (sL.block c).1.act, i64 (sL.block c).1.used, sv] 33 :: _) (fun w hh => hh) ?_; refine kPa rfl rfl ?_; refine p_nil ?_; refine go_sub (σ' := [(16, _), (11, _), (9, _), (8, _), (7, _), (6, _), (5, _), (4, _)]) ⟨rfl, rfl, rfl, rfl, rfl, rfl, rfl, rfl, trivial⟩ ?_; refine g_seq ?_; refine g_drawv [0, 1, 2, 3, 4, 5, 6, 7] [5, 6] [2, 3] [5, 6] [row b16 [i64 (sL.block c).1.act, i64 (sL.block c).1.used, sv] 33] Tryz.mixed (by kernel_rfl) ?_
    refine v_val rfl rfl rfl (ev_move rfl) .free rfl ?_; refine v_val rfl rfl rfl (ev_loadA Tryz.isAgg30 Tryz.sizeOf30 rfl rfl) .free rfl ?_; refine v_hoist rfl rfl rfl (ev_loadA Tryz.isAgg33 Tryz.sizeOf33 rfl rfl) .free rfl ?_; refine v_hoist rfl rfl rfl (ev_move rfl) .free rfl ?_; refine v_val rfl rfl rfl (ev_assign rfl) .free rfl ?_; refine v_mark rfl rfl ?_; refine p_chg0 rfl (ch_storeA (vs := _) Tryz.sizeOf30 rfl rfl rfl rfl rfl) .free rfl ?_
    rintro _ _ rfl
    refine p_nil ?_; refine v_on ?_; refine v_mark rfl rfl ?_; refine p_chg0 rfl (ch_storeA (vs := [i64 (sL.block c).1.act, i64 (sL.block c).1.used, sv]) Tryz.sizeOf33 rfl rfl rfl (all3 hsv) rfl) .free rfl ?_
    rintro _ _ rfl
    refine p_nil ?_; refine v_on ?_; refine v_val rfl rfl rfl (ev_assign rfl) .free rfl ?_; refine v_nil ?_; refine go_sub (σ' := [(7, _), (4, _), (6, _), (5, _)]) ⟨rfl, rfl, rfl, rfl, trivial⟩ ?_; refine g_ret ?_
    exact ret_4 Tryz.results67 (.tmp rfl) (.cellA rfl Tryz.isAgg30 Tryz.sizeOf30 rfl rfl) (.cellA rfl Tryz.isAgg33 Tryz.sizeOf33 rfl rfl) (.tmp rfl) (fun w hh => ⟨_, ⟨bd, pa, N, s0, sL, out, ov, sv, hfm, hN, ⟨hu0, hf⟩, by rw [hinv, List.drop_eq_nil_of_le (by omega)]; rfl, huL, hlL, hnL, hov, hsv, rfl, rfl⟩, ((((((((hh.front 7 rfl).front 7 rfl).front 7 rfl).front 7 rfl).front 4 rfl).tail.tail.tail.tail.tail.front 2 rfl).front 2 rfl).front 2 rfl)⟩)
end Go.Proofs.YtbfheafpecgphaaGreat
