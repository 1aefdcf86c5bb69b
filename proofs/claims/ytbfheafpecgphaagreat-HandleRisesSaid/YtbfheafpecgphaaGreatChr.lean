/- Objects, copied: what New, Run and Block do. Conditions: none. -/
import Derived.Test.YtbfheafpecgphaaGreatChs
set_option linter.unusedSimpArgs false
set_option linter.unusedVariables false
set_option linter.unnecessarySimpa false
set_option linter.unusedSectionVars false
namespace Go.Proofs.YtbfheafpecgphaaGreat
set_option linter.unusedSimpArgs false
set_option linter.unusedVariables false
open Go
theorem runN_w : ∀ (f : Nat) (S S' : ColS) (s s' : Dev), ColW S → U64 s → runN f S s = .ok S' s' → ColW S' ∧ U64 s' ∧ S'.b = S.b ∧ S'.bd = S.bd ∧ S'.c = S.c ∧ S'.to_ = S.to_
  | 0, S, S', s, s', h, hu, e => by cases e; exact ⟨h, hu, rfl, rfl, rfl, rfl⟩
  | f + 1, S, S', s, s', h, hu, e => by
    rw [runN_succ] at e
    obtain ⟨r, s1, e1, e⟩ := then_inv e
    obtain ⟨h1, u1, g1, g2, g3, g4, _⟩ := step_w h hu e1
    split at e
    · cases e; exact ⟨h1, u1, g1, g2, g3, g4⟩
    · obtain ⟨k1, k2, k3, k4, k5, k6⟩ := runN_w f _ _ _ _ h1 u1 e
      exact ⟨k1, k2, k3.trans g1, k4.trans g2, k5.trans g3, k6.trans g4⟩
theorem map_take_succ {α β : Type} {f : α → β} {l : List α} {k : Nat} (hk : k < l.length) : (l.take (k + 1)).map f = (l.take k).map f ++ [f l[k]] := by
  rw [List.take_succ_eq_append_getElem hk, List.map_append]; rfl
theorem newCol_w {bd : Nat} {c : Cfg} {b : Blk} {ws : List Int} (hc : CfgW c) (hb : BlkW c b) (hl : b.rts.length ≤ 16) (hr : ∀ v ∈ b.rts, 0 ≤ v ∧ v < 18446744073709551616) (hw : ∀ v ∈ ws, 0 ≤ v ∧ v < 18446744073709551616) : ColW (newCol bd c b ws) := by
  have h1 := hb.act
  have h2 := frm_b hc (k := 1 - b.act) (by omega)
  have h3 := hc.s1
  have h4 : 0 ≤ c.frm (1 - b.act) ∧ c.frm (1 - b.act) ≤ 20000 := by omega
  exact ⟨hc, hb, hl, h4, ⟨Int.le_refl _, by unfold newCol; simp only; omega⟩, ⟨Int.le_refl _, by simp [newCol]⟩, List.nodup_nil, fun _ h => (by cases h), fun _ h => (by cases h), hw, hr⟩

theorem crun_ok (B : World) (Fr : List HP) (x : Nat) (S : ColS) (hS : ColW S) (s : Dev) (hu : U64 s) :
    ∀ w, Holds B (ColA x S :: DevA S.bd s :: Fr) w → Calls Tryz.prog 17 [ptr x].toArray w (Ret B (fun rv H' => ∃ r s', S.run s = .ok r s' ∧ rv = .tuple #[] ∧ H' = ColA x r :: DevA S.bd s' :: Fr) (fun c H' => ∃ s', S.run s = .off s' ∧ c = offc ∧ H' = DevA S.bd s' :: Fr)) := by
  refine fn_enter Tryz.func17 rfl Tryz.ntmps17 rfl ?_; refine g_block ?_; refine g_loopk (ι := Nat × ColS × Dev) [0] (fun (n, SI, sI) => (SI.meas < n) ∧ (ColW SI) ∧ (U64 sI) ∧ (SI.bd = S.bd) ∧ (runN (S.meas + 1) S s = runN n SI sI)) (fun (n, SI, sI) => []) (fun (n, SI, sI) => ColA x SI :: DevA SI.bd sI :: Fr) (fun (n, SI, sI) => n) (S.meas + 1, S, s) (⟨Nat.lt_succ_self _, hS, hu, rfl, rfl⟩) (fun a w st => st.to trivial (fun hh => hh)) ?_
  rintro ⟨n, SI, sI⟩ ⟨hn, hSI, huI, hbdI, hinv⟩
  try simp only at hn hSI huI hbdI hinv ⊢
  refine go_sub (σ' := [(0, _)]) ⟨rfl, trivial⟩ ?_; refine g_seq ?_; refine g_seq ?_; refine g_region ?_; refine kPm rfl rfl ?_
  refine p_call rfl (en_f Tryz.call74 rfl) (cstep_ok B _ x SI hSI sI huI) .free rfl rfl ?_ ?_
  rotate_left
  · rintro _ _ ⟨s9, hm9, rfl, rfl⟩
    exact pan_fn fun w hh => ⟨_, ⟨s9, by unfold ColS.run; rw [hinv, show n = n - 1 + 1 by omega, runN_succ, hm9]; rfl, rfl, rfl⟩, by rw [← hbdI]; exact hh⟩
  rintro _ _ ⟨r1, s1, hm1, rfl, rfl⟩
  obtain ⟨hS1, hu1, hb1, hbd1, hc1, hto1, hr1, hms1⟩ := step_w hSI huI hm1
  refine kPv (ev_not rfl) rfl ?_; refine p_nil ?_
  refine g_if rfl (fun h4 => ?_) (fun h4 => ?_)
  · have hg : r1.1 = false := by simpa using h4
    refine g_skip ?_; refine g_block ?_; refine g_skip ?_
    exact fun a w st_ => ⟨(n - 1, r1.2, s1), ⟨by have := hms1 hg; first | omega | (simp only; omega), hS1, hu1, hbd1.trans hbdI, by rw [hinv, show n = n - 1 + 1 by omega, runN_succ, hm1]; simp only [then_ok]; rw [if_neg (by rw [hg]; decide)]; rfl⟩, by first | omega | (simp only; omega), st_.to ⟨rfl, trivial⟩ (fun hh => (by simp only [hbd1]; exact hh))⟩
  · have hg : r1.1 = true := by simpa using h4
    refine g_exit ?_
    exact end_none Tryz.results17 (fun w hh => ⟨_, ⟨_, _, by unfold ColS.run; rw [hinv, show n = n - 1 + 1 by omega, runN_succ, hm1]; simp only [then_ok]; rw [if_pos hg], rfl, rfl⟩, by rw [← hbdI]; exact hh⟩)

theorem cblock_ok (B : World) (Fr : List HP) (x : Nat) (S : ColS) (hS : ColW S) :
    ∀ w, Holds B (ColA x S :: Fr) w → Calls Tryz.prog 76 [ptr x].toArray w (Ret B (fun rv H' => ∃ sv, cell1 sv = true ∧ rv = blkV S.block sv ∧ H' = VecU 0 (sv, S.block.rts) :: ColA x S :: Fr) (fun _ _ => False)) := by
  refine fn_enter Tryz.func76 rfl Tryz.ntmps76 rfl ?_
  have hfb := hS.fb
  have hfr := hS.free
  have hto := hS.to_
  have hba := hS.b.act
  have hrl := hS.rl
  refine g_seq ?_; refine g_region ?_; refine p_chg rfl (ch_allocA Tryz.zeroValue33 rfl) .free rfl rfl ?_
  rintro _ _ ⟨b2, rfl, rfl⟩
  refine p_nil ?_; refine g_seq ?_; refine go_pk [1] ?_; refine go_col fun rsv tsv mw hrsv htsv => ?_
  refine g_drawT (.fin [0, 1, 2, 3, 4, 5, 6, 7, 8, 9, 10, 11, 12, 13, 14, 15, 16, 17]) [16, 17] [0, 1, 2, 3, 4, 5, 6, 7, 8, 9, 10, 11, 12, 13, 14, 15] [16] [row x (colRow S rsv tsv mw) 115] [2, 0] (G := Nat) (fun b3 => [(3, ptr b3)]) (fun b3 => row b3 [i64 (1 - S.b.act), i64 (S.free - S.to_), .slice none 0 0] 33 :: row x (colRow S rsv tsv mw) 115 :: VecU 0 (rsv, S.b.rts) :: VecU 0 (tsv, S.todo) :: mapA .u64 i64 mw S.went :: row b2 [i64 0, i64 0, .slice none 0 0] 33 :: Fr) Tryz.mixed (by kernel_rfl) ?_ ?_
  · skip
    refine t_fin ?_; refine v_hoist rfl rfl rfl (ev_move rfl) .free rfl ?_
    first | refine v_hoist rfl rfl rfl (ev_nil rfl) .free rfl ?_ | refine v_hoist rfl rfl rfl (ev_nilf rfl) .free rfl ?_
    refine v_hoist rfl rfl rfl (ev_fa (m := _) fa_115_2 rfl rfl) .free rfl ?_; refine v_hoist rfl rfl rfl (ev_fa (m := _) fa_33_0 rfl rfl) .free rfl ?_; refine v_hoist rfl rfl rfl (ev_load Tryz.isAgg3 rfl rfl) .free rfl ?_
    first | refine v_hoist rfl rfl rfl (ev_sub rfl rfl (wr64 (by omega))) .free rfl ?_ | refine v_hoist rfl rfl rfl (ev_sub rfl rfl rfl) .free rfl ?_
    refine v_hoist rfl rfl rfl (ev_move rfl) .free rfl ?_
    first | refine v_hoist rfl rfl rfl (ev_nil rfl) .free rfl ?_ | refine v_hoist rfl rfl rfl (ev_nilf rfl) .free rfl ?_
    refine v_hoist rfl rfl rfl (ev_fa (m := _) fa_115_5 rfl rfl) .free rfl ?_; refine v_hoist rfl rfl rfl (ev_load Tryz.isAgg3 rfl rfl) .free rfl ?_; refine v_hoist rfl rfl rfl (ev_move rfl) .free rfl ?_
    first | refine v_hoist rfl rfl rfl (ev_nil rfl) .free rfl ?_ | refine v_hoist rfl rfl rfl (ev_nilf rfl) .free rfl ?_
    refine v_hoist rfl rfl rfl (ev_fa (m := _) fa_115_3 rfl rfl) .free rfl ?_; refine v_hoist rfl rfl rfl (ev_load Tryz.isAgg3 rfl rfl) .free rfl ?_
    first | refine v_hoist rfl rfl rfl (ev_sub rfl rfl (wr64 (by omega))) .free rfl ?_ | refine v_hoist rfl rfl rfl (ev_sub rfl rfl rfl) .free rfl ?_
    refine v_hoist rfl rfl rfl (ev_build rfl (bld_33_0_1 _ _ rfl rfl)) .free rfl ?_; refine v_mark rfl rfl ?_; refine p_chg rfl (ch_allocA Tryz.zeroValue33 rfl) .free rfl rfl ?_
    rintro _ _ ⟨b3, rfl, rfl⟩
    refine p_nil ?_; refine v_on ?_; refine v_mark rfl rfl ?_; refine p_chg0 rfl (ch_storeA (vs := _) Tryz.sizeOf33 rfl rfl rfl (by first | rfl | exact all3 (by assumption)) rfl) .free rfl ?_
    rintro _ _ rfl
    refine p_nil ?_; refine v_off rfl ?_; refine v_nil ?_
    exact fun a w st_ => ⟨b3, st_.to ⟨rfl, rfl, rfl, trivial⟩ (fun hh => hh)⟩
  intro b3
  refine go_sub (σ' := [(3, ptr b3), (2, _), (0, _)]) ⟨rfl, rfl, rfl, trivial⟩ ?_; refine g_seq ?_; refine g_seq ?_; refine go_pk [2] ?_; refine go_vecq fun qr cr hqr hqi => ?_
  subst hqr
  refine go_pk [1, 1, 0, 0, 0, 0] ?_; refine go_conv (fun w hh => vec_nil (T := 52) (enc := w64) hh) ?_; refine g_region ?_; refine kPm rfl rfl ?_
  first | refine kPv (ev_nil rfl) rfl ?_ | refine kPv (ev_nilf rfl) rfl ?_
  refine kPv (ev_fa (m := _) fa_115_2 rfl rfl) rfl ?_; refine kPv (ev_fa (m := _) fa_33_2 rfl rfl) rfl ?_; refine kPv (ev_load Tryz.isAgg31 rfl rfl) rfl ?_; refine kPv (ev_len rfl Tryz.runUnderlying31 ⟨_, rfl⟩ rfl) rfl ?_; refine kPm rfl rfl ?_; refine p_nil ?_; refine g_block ?_
  refine g_loopk (ι := Nat × Value) [27, 26, 3, 2, 0] (fun (k, bv) => (k ≤ S.b.rts.length) ∧ (cell1 bv = true)) (fun (k, bv) => [(28, i64 k)]) (fun (k, bv) => VecU 0 (bv, (S.b.rts.take k).map (fun w => (mget S.went w).getD 0)) :: row b3 [i64 (1 - S.b.act), i64 (S.free - S.to_), bv] 33 :: row x (colRow S (.slice qr S.b.rts.length cr) tsv mw) 115 :: VecU 0 (.slice qr S.b.rts.length cr, S.b.rts) :: VecU 0 (tsv, S.todo) :: mapA .u64 i64 mw S.went :: row b2 [i64 0, i64 0, .slice none 0 0] 33 :: Fr) (fun (k, bv) => S.b.rts.length - k) (0, .slice none 0 0) (⟨Nat.zero_le _, rfl⟩) (fun a w st => st.to ⟨rfl, trivial⟩ (fun hh => hh)) ?_
  rintro ⟨k, bv⟩ ⟨hk0, hbv⟩
  try simp only at hk0 hbv ⊢
  refine go_sub (σ' := [(28, i64 k), (27, _), (26, _), (3, _), (2, _), (0, _)]) ⟨rfl, rfl, rfl, rfl, rfl, rfl, trivial⟩ ?_; refine g_seq ?_; refine g_region ?_; refine kPv (ev_cmp rfl rfl rfl) rfl ?_; refine p_nil ?_; refine g_seq ?_
  refine g_if rfl (fun h29 => ?_) (fun h29 => ?_)
  · have hk : k < S.b.rts.length := by simp at h29; omega
    obtain ⟨bq, oq, rfl⟩ := hqi k hk
    have hvb := hS.vb S.b.rts[k]
    refine g_skip ?_; refine g_seq ?_; refine g_block ?_; refine g_seq ?_; refine g_region ?_; refine kPv (ev_iaS Tryz.runUnderlying31 Tryz.sizeOf52 rfl rfl (by omega) (by omega)) rfl ?_
    refine kPv (ev_loadS (v := w64 S.b.rts[k]) Tryz.isAgg52 (vec_slr 3 rfl) rfl (by rw [Int.toNat_natCast, List.getElem?_map, List.getElem?_eq_getElem hk]; rfl)) rfl ?_
    refine kPa rfl rfl ?_; refine p_nil ?_; refine g_drawv [0, 1, 2, 3, 4, 5, 6, 7, 8, 9, 10, 11, 12] [9, 10, 12] [0, 1] [9] [row b3 [i64 (1 - S.b.act), i64 (S.free - S.to_), bv] 33, row x (colRow S (.slice (some ⟨bq, oq, none⟩) S.b.rts.length cr) tsv mw) 115, mapA .u64 i64 mw S.went] Tryz.mixed (by kernel_rfl) ?_; refine v_hoist rfl rfl rfl (ev_fa (m := _) fa_33_2 rfl rfl) .free rfl ?_; refine v_hoist rfl rfl rfl (ev_load Tryz.isAgg31 rfl rfl) .free rfl ?_
    refine v_val rfl rfl rfl (ev_move rfl) .free rfl ?_
    first | refine v_val rfl rfl rfl (ev_nil rfl) .free rfl ?_ | refine v_val rfl rfl rfl (ev_nilf rfl) .free rfl ?_
    refine v_val rfl rfl rfl (ev_fa (m := _) fa_115_7 rfl rfl) .free rfl ?_; refine v_val rfl rfl rfl (ev_load Tryz.isAgg113 rfl rfl) .free rfl ?_; refine v_val rfl rfl rfl (ev_move rfl) .free rfl ?_; refine v_val rfl rfl rfl ((ev_lookup1 Tryz.runUnderlying113 Tryz.runUnderlying52 Tryz.zeroValue3 rfl rfl).eq (mval_i _)) .free rfl ?_; refine v_val rfl rfl rfl (ev_conv Tryz.runUnderlying3 Tryz.runUnderlying52 rfl (wru64 (by omega))) .free rfl ?_; refine v_mark rfl rfl ?_
    refine p_chg rfl (ch_bs1 Tryz.runUnderlying31 Tryz.sizeOf52 Tryz.zeroValue52 rfl rfl rfl) .free rfl rfl ?_
    rintro _ _ ⟨b41, rfl, rfl⟩
    refine go_pk [1, 0] ?_; refine p_nil ?_; refine v_on ?_; refine v_mark rfl rfl ?_; refine p_chg rfl (ch_append_vec rfl rfl Tryz.runUnderlying31 Tryz.runUnderlying31 ⟨_, rfl⟩ Tryz.sizeOf52 Tryz.zeroValue52 rfl (fun _ => rfl) tb_52 rfl rfl (by simp; omega)) .free rfl rfl ?_
    rintro bv2 _ ⟨hbv2, rfl⟩
    refine p_nil ?_; refine v_off rfl ?_; refine v_val rfl rfl rfl (ev_fa (m := _) fa_33_2 rfl rfl) .free rfl ?_; refine v_mark rfl rfl ?_; refine p_chg0 rfl (ch_store Tryz.sizeOf31 rfl rfl (by first | rfl | assumption) rfl) .free rfl ?_
    rintro _ _ rfl
    refine p_nil ?_; refine v_off rfl ?_; refine v_nil ?_; refine go_sub (σ' := [(28, _), (27, _), (26, _), (3, _), (2, _), (0, _)]) ⟨rfl, rfl, rfl, rfl, rfl, rfl, trivial⟩ ?_; refine g_region ?_
    first | refine p_val rfl (ev_add rfl rfl (wr64 (by omega))) .free rfl rfl ?_ | refine p_val rfl (ev_add rfl rfl rfl) .free rfl rfl ?_
    refine kPm rfl rfl ?_; refine p_nil ?_
    exact fun a w st_ => ⟨(k + 1, bv2), ⟨by first | omega | (simp only; omega), hbv2⟩, by first | omega | (simp only; omega), st_.to ⟨rfl, rfl, rfl, rfl, rfl, rfl, trivial⟩ (fun hh => (by simp only [map_take_succ hk]; exact hh))⟩
  · have hk : ¬ k < S.b.rts.length := by simp at h29; omega
    obtain rfl : k = S.b.rts.length := by omega
    rw [List.take_length]
    refine g_exit ?_; refine g_seq ?_; refine g_region ?_; refine kPv (ev_loadA Tryz.isAgg33 Tryz.sizeOf33 rfl rfl) rfl ?_; refine p_chg0 rfl (ch_storeA (vs := _) Tryz.sizeOf33 rfl rfl rfl (by first | rfl | exact all3 (by assumption)) rfl) .free rfl ?_
    rintro _ _ rfl
    refine p_nil ?_; refine go_sub (σ' := [(2, _)]) ⟨rfl, trivial⟩ ?_; refine g_ret ?_
    exact ret_1 Tryz.results76 (.cellA rfl Tryz.isAgg33 Tryz.sizeOf33 rfl rfl) (fun w hh => ⟨_, ⟨bv, hbv, rfl, rfl⟩, (col_holds (S := S) hrsv htsv ((hh.dp [1, 5]).pk [1, 1, 1, 1])).pk [1]⟩)

theorem clone64n_ok (B : World) (Fr : List HP) (cap : Nat) :
    ∀ w, Holds B Fr w → Calls Tryz.prog 49 [.slice none 0 cap].toArray w (PureR B Fr (.slice none 0 0)) := by
  refine fn_enter Tryz.func49 rfl Tryz.ntmps49 rfl ?_; refine g_seq ?_; refine g_region ?_; refine kPa rfl rfl ?_; refine p_nil ?_; refine g_seq ?_; refine g_seq ?_; refine g_region ?_; refine kPm rfl rfl ?_; refine kPv (ev_eqsl Tryz.runUnderlying31 rfl rfl rfl) rfl ?_; refine p_nil ?_; refine g_ift rfl (rfl) ?_; refine g_seq ?_; refine g_region ?_; refine kPa rfl rfl ?_; refine p_nil ?_; refine g_ret ?_
  exact ret_tmp Tryz.results49 rfl (fun w hh => ⟨rfl, hh⟩)


theorem clone64v_ok (B : World) (Fr : List HP) (q : Option Addr) (cap : Nat) (xs : List Int) (hn : xs.length ≤ 1000000) (hq : q = none → xs = []) (hr : SlR B Fr (.slice q xs.length cap) (xs.map w64)) : ∀ w, Holds B Fr w → Calls Tryz.prog 49 [.slice q xs.length cap].toArray w (Ret B (fun rv H' => cell1 rv = true ∧ H' = VecU 0 (rv, xs) :: Fr) (fun _ _ => False)) := by
  intro w hw
  cases q with
  | none =>
    have := hq rfl
    subst this
    exact (clone64n_ok B Fr cap w hw).mono fun e w' h => by obtain ⟨rfl, h⟩ := h; exact ⟨_, ⟨rfl, rfl⟩, vec_nil h⟩
  | some a =>
    refine (clone64_ok B Fr (some a) xs.length cap (xs.map w64) (by simp) (by simpa using hn) (by rw [List.all_eq_true]; intro v hv; obtain ⟨x, _, rfl⟩ := List.mem_map.1 hv; rfl) hr w hw).mono fun e w' h => ?_
    cases e with
    | returned v =>
      obtain ⟨H', ⟨bn, rest, rfl, rfl⟩, h⟩ := h
      exact ⟨_, ⟨rfl, rfl⟩, vec_row rfl rfl h⟩
    | panicked c => obtain ⟨_, h, _⟩ := h; exact h.elim
    | outgrown => exact h.elim

theorem cnew_ok (B : World) (Fr : List HP) (bd : Nat) (c : Cfg) (hc : CfgW c) (b : Blk) (hb : BlkW c b) (sv : Value) (hsv : cell1 sv = true) (q : Option Addr) (cap : Nat) (ws : List Int) (hwn : ws.length ≤ 1000000) (hwq : q = none → ws = []) (hwl : SlR B (VecU 0 (sv, b.rts) :: Fr) (.slice q ws.length cap) (ws.map w64)) :
    ∀ w, Holds B (VecU 0 (sv, b.rts) :: Fr) w → Calls Tryz.prog 16 [ptr bd, cfgV c, blkV b sv, .slice q ws.length cap].toArray w (Ret B (fun rv H' => ∃ x, rv = ptr x ∧ H' = ColA x (newCol bd c b ws) :: Fr) (fun _ _ => False)) := by
  refine fn_enter Tryz.func16 rfl Tryz.ntmps16 rfl ?_
  have hba := hb.act
  refine g_seq ?_; refine g_region ?_; refine p_chg rfl (ch_boxA rfl) .free rfl rfl ?_
  rintro _ _ ⟨b5, rfl, rfl⟩
  refine p_chg rfl (ch_boxA rfl) .free rfl rfl ?_
  rintro _ _ ⟨b6, rfl, rfl⟩
  refine kPa rfl rfl ?_; refine p_nil ?_; refine g_seq ?_; refine g_region ?_; refine kPv (ev_loadA Tryz.isAgg30 Tryz.sizeOf30 rfl rfl) rfl ?_; refine kPv (ev_fa (m := _) fa_33_0 rfl rfl) rfl ?_; refine kPv (ev_load Tryz.isAgg3 rfl rfl) rfl ?_
  first | refine p_val rfl (ev_sub rfl rfl (wr64 (by omega))) .free rfl rfl ?_ | refine p_val rfl (ev_sub rfl rfl rfl) .free rfl rfl ?_
  refine p_callq rfl (en_f Tryz.call46 rfl) (from_ok _ _ c hc _ (by have := hb.act; omega) (by have := hb.act; omega)) .free rfl rfl ?_
  refine kPa rfl rfl ?_; refine p_nil ?_; refine go_sub (σ' := [(9, _), (8, _), (6, _), (5, _), (0, _), (3, _)]) ⟨rfl, rfl, rfl, rfl, rfl, rfl, trivial⟩ ?_; refine g_seq ?_; refine go_pk [1] ?_
  refine g_drawT (.br [0, 1, 2, 3, 4, 5, 6] 7 (.fin [8, 9, 10, 11]) 8 (.fin [7, 9, 10, 11])) [7, 8, 10] [0, 1, 2, 3, 4, 5, 6] [7, 8] [row b5 [i64 c.log, i64 c.roots, i64 c.space] 30, row b6 [i64 b.act, i64 b.used, sv] 33] [] (G := Nat) (fun x => [(8, ptr x)]) (fun x => ColA x (newCol bd c b ws) :: Fr) Tryz.mixed (by kernel_rfl) ?_ ?_
  · skip
    refine t_br ?_; refine v_hoist rfl rfl rfl (ev_move rfl) .free rfl ?_; refine v_hoist rfl rfl rfl (ev_loadA Tryz.isAgg30 Tryz.sizeOf30 rfl rfl) .free rfl ?_; refine v_hoist rfl rfl rfl (ev_loadA Tryz.isAgg33 Tryz.sizeOf33 rfl rfl) .free rfl ?_; refine v_hoist rfl rfl rfl (ev_move rfl) .free rfl ?_; refine v_hoist rfl rfl rfl (ev_move rfl) .free rfl ?_; refine v_hoist rfl rfl rfl (ev_move rfl) .free rfl ?_; refine v_hoist rfl rfl rfl (ev_move rfl) .free rfl ?_; refine v_nil ?_
    refine t_two rfl rfl ?_ ?_
    · skip
      refine p_call rfl (en_f Tryz.call49 rfl) (clone64v_ok _ _ q cap ws hwn hwq hwl.up) .free rfl rfl ?_ ?_
      rotate_left
      · rintro _ _ ⟨⟩
      rintro tsv _ ⟨htsv, rfl⟩
      refine p_nil ?_; refine t_on ?_; refine t_fin ?_; refine v_mark rfl rfl ?_; refine p_chg rfl (ch_makeMap .u64 i64) .free rfl rfl ?_
      rintro _ _ ⟨mw, rfl, rfl⟩
      refine p_nil ?_; refine v_on ?_; refine v_val rfl rfl rfl (ev_build rfl (bld_115_0_1_2_3_4_5_6_7 _ _ _ _ _ _ _ _ _ _ _ _ (by first | rfl | assumption) rfl rfl rfl (by first | rfl | assumption) (by first | rfl | assumption))) .free rfl ?_; refine v_mark rfl rfl ?_; refine p_chg rfl (ch_boxA rfl) .free rfl rfl ?_
      rintro _ _ ⟨b25, rfl, rfl⟩
      refine p_nil ?_; refine v_off rfl ?_; refine v_val rfl rfl rfl (ev_assign rfl) .free rfl ?_; refine v_nil ?_
      exact fun a w st_ => ⟨b25, st_.to ⟨rfl, trivial⟩ (fun hh => (col_holds (S := newCol bd c b ws) hsv htsv ((hh.dp [3, 3]).pk [0, 2, 1])))⟩
    · skip
      refine p_chg rfl (ch_makeMap .u64 i64) .free rfl rfl ?_
      rintro _ _ ⟨mw, rfl, rfl⟩
      refine p_nil ?_; refine t_on ?_; refine t_fin ?_; refine v_mark rfl rfl ?_
      refine p_call rfl (en_f Tryz.call49 rfl) (clone64v_ok _ _ q cap ws hwn hwq hwl.up) .free rfl rfl ?_ ?_
      rotate_left
      · rintro _ _ ⟨⟩
      rintro tsv _ ⟨htsv, rfl⟩
      refine p_nil ?_; refine v_on ?_; refine v_val rfl rfl rfl (ev_build rfl (bld_115_0_1_2_3_4_5_6_7 _ _ _ _ _ _ _ _ _ _ _ _ (by first | rfl | assumption) rfl rfl rfl (by first | rfl | assumption) (by first | rfl | assumption))) .free rfl ?_; refine v_mark rfl rfl ?_; refine p_chg rfl (ch_boxA rfl) .free rfl rfl ?_
      rintro _ _ ⟨b25, rfl, rfl⟩
      refine p_nil ?_; refine v_off rfl ?_; refine v_val rfl rfl rfl (ev_assign rfl) .free rfl ?_; refine v_nil ?_
      exact fun a w st_ => ⟨b25, st_.to ⟨rfl, trivial⟩ (fun hh => (col_holds (S := newCol bd c b ws) hsv htsv ((hh.dp [3, 3]).pk [0, 2])))⟩
  intro x
  refine go_sub (σ' := [(8, ptr x)]) ⟨rfl, trivial⟩ ?_; refine g_ret ?_
  exact ret_tmp Tryz.results16 rfl (fun w hh => ⟨_, ⟨_, rfl, rfl⟩, hh⟩)

end Go.Proofs.YtbfheafpecgphaaGreat
