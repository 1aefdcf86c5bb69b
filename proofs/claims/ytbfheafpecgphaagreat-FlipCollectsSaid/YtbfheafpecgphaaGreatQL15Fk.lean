/- Part of the texts beneath a law: what its proof names. Conditions: none. -/
import Derived.Test.YtbfheafpecgphaaGreatQL15Fj
set_option linter.unusedSimpArgs false
set_option linter.unusedVariables false
set_option linter.unnecessarySimpa false
set_option linter.unusedSectionVars false
namespace Go.Proofs.YtbfheafpecgphaaGreat
open Go
theorem runN_w : ∀ (f : Nat) (S S' : ColS) (s s' : Dev), ColW S → U64 s → runN f S s = .ok S' s' → ColW S' ∧ U64 s' ∧ S'.b = S.b ∧ S'.bd = S.bd ∧ S'.c = S.c ∧ S'.to_ = S.to_
  | 0, S, S', s, s', h, hu, e => by cases e; exact ⟨h, hu, rfl, rfl, rfl, rfl⟩
  | f + 1, S, S', s, s', h, hu, e => by
    rw [runN_succ] at e
    obtain ⟨r, s1, e1, e⟩ := then_inv e
    obtain ⟨h1, u1, g1, g2, g3, g4, _⟩ := step_w h hu e1
    split at e
    · cases e; exact ⟨h1, u1, g1, g2, g3, g4⟩
    · obtain ⟨k1, k2, k3, k4, k5, k6⟩ := runN_w f _ _ _ _ h1 u1 e
      exact ⟨k1, k2, k3.trans g1, k4.trans g2, k5.trans g3, k6.trans g4⟩
theorem map_take_succ {α β : Type} {f : α → β} {l : List α} {k : Nat} (hk : k < l.length) : (l.take (k + 1)).map f = (l.take k).map f ++ [f l[k]] := by
  rw [List.take_succ_eq_append_getElem hk, List.map_append]; rfl
theorem newCol_w {bd : Nat} {c : Cfg} {b : Blk} {ws : List Int} (hc : CfgW c) (hb : BlkW c b) (hl : b.rts.length ≤ 16) (hr : ∀ v ∈ b.rts, 0 ≤ v ∧ v < 18446744073709551616) (hw : ∀ v ∈ ws, 0 ≤ v ∧ v < 18446744073709551616) : ColW (newCol bd c b ws) := by
  have h1 := hb.act
  have h2 := frm_b hc (k := 1 - b.act) (by omega)
  have h3 := hc.s1
  have h4 : 0 ≤ c.frm (1 - b.act) ∧ c.frm (1 - b.act) ≤ 20000 := by omega
  exact ⟨hc, hb, hl, h4, ⟨Int.le_refl _, by unfold newCol; simp only; omega⟩, ⟨Int.le_refl _, by simp [newCol]⟩, List.nodup_nil, fun _ h => (by cases h), fun _ h => (by cases h), hw, hr⟩
theorem crun_ok (B : World) (Fr : List HP) (x : Nat) (S : ColS) (hS : ColW S) (s : Dev) (hu : U64 s) :
    ∀ w, Holds B (ColA x S :: DevA S.bd s :: Fr) w → Calls Tryz.prog 17 [ptr x].toArray w (Ret B (fun rv H' => ∃ r s', S.run s = .ok r s' ∧ rv = .tuple #[] ∧ H' = ColA x r :: DevA S.bd s' :: Fr) (fun c H' => ∃ s', S.run s = .off s' ∧ c = offc ∧ H' = DevA S.bd s' :: Fr)) := by
  refine fn_enter Tryz.func17 rfl Tryz.ntmps17 rfl ?_; refine g_block ?_; refine g_loopk (ι := Nat × ColS × Dev) [0] (fun (n, SI, sI) => (SI.meas < n) ∧ (ColW SI) ∧ (U64 sI) ∧ (SI.bd = S.bd) ∧ (runN (S.meas + 1) S s = runN n SI sI)) (fun (n, SI, sI) => []) (fun (n, SI, sI) => ColA x SI :: DevA SI.bd sI :: Fr) (fun (n, SI, sI) => n) (S.meas + 1, S, s) (⟨Nat.lt_succ_self _, hS, hu, rfl, rfl⟩) (fun a w st => st.to trivial (fun hh => hh)) ?_
  rintro ⟨n, SI, sI⟩ ⟨hn, hSI, huI, hbdI, hinv⟩
  try simp only at hn hSI huI hbdI hinv ⊢
  refine go_sub (σ' := [(0, _)]) ⟨rfl, trivial⟩ ?_; refine g_seq ?_; refine g_seq ?_; refine g_region ?_; refine kPm rfl rfl ?_
  refine p_call rfl (en_f Tryz.call74 rfl) (cstep_ok B _ x SI hSI sI huI) .free rfl rfl ?_ ?_
  rotate_left
  · rintro _ _ ⟨s9, hm9, rfl, rfl⟩
    exact pan_fn fun w hh => ⟨_, ⟨s9, by unfold ColS.run; rw [hinv, show n = n - 1 + 1 by omega, runN_succ, hm9]; rfl, rfl, rfl⟩, by rw [← hbdI]; exact hh⟩
  rintro _ _ ⟨r1, s1, hm1, rfl, rfl⟩
  obtain ⟨hS1, hu1, hb1, hbd1, hc1, hto1, hr1, hms1⟩ := step_w hSI huI hm1
  refine kPv (ev_not rfl) rfl ?_; refine p_nil ?_
  refine g_if rfl (fun h4 => ?_) (fun h4 => ?_)
  · have hg : r1.1 = false := by simpa using h4
    refine g_skip ?_; refine g_block ?_; refine g_skip ?_
    exact fun a w st_ => ⟨(n - 1, r1.2, s1), ⟨by have := hms1 hg; first | omega | (simp only; omega), hS1, hu1, hbd1.trans hbdI, by rw [hinv, show n = n - 1 + 1 by omega, runN_succ, hm1]; simp only [then_ok]; rw [if_neg (by rw [hg]; decide)]; rfl⟩, by first | omega | (simp only; omega), st_.to ⟨rfl, trivial⟩ (fun hh => (by simp only [hbd1]; exact hh))⟩
  · have hg : r1.1 = true := by simpa using h4
    refine g_exit ?_
    exact end_none Tryz.results17 (fun w hh => ⟨_, ⟨_, _, by unfold ColS.run; rw [hinv, show n = n - 1 + 1 by omega, runN_succ, hm1]; simp only [then_ok]; rw [if_pos hg], rfl, rfl⟩, by rw [← hbdI]; exact hh⟩)
theorem cblock_ok (B : World) (Fr : List HP) (x : Nat) (S : ColS) (hS : ColW S) :
    ∀ w, Holds B (ColA x S :: Fr) w → Calls Tryz.prog 76 [ptr x].toArray w (Ret B (fun rv H' => ∃ sv, cell1 sv = true ∧ rv = blkV S.block sv ∧ H' = VecU 0 (sv, S.block.rts) :: ColA x S :: Fr) (fun _ _ => False)) := by
  refine fn_enter Tryz.func76 rfl Tryz.ntmps76 rfl ?_
  have hfb := hS.fb
  have hfr := hS.free
  have hto := hS.to_
  have hba := hS.b.act
  have hrl := hS.rl
  refine g_seq ?_; refine g_region ?_; refine p_chg rfl (ch_allocA Tryz.zeroValue33 rfl) .free rfl rfl ?_
  rintro _ _ ⟨b2, rfl, rfl⟩
  refine p_nil ?_; refine g_seq ?_; refine go_pk [1] ?_; refine go_col fun rsv tsv mw hrsv htsv => ?_
  refine g_drawT (.fin [0, 1, 2, 3, 4, 5, 6, 7, 8, 9, 10, 11, 12, 13, 14, 15, 16, 17]) [16, 17] [0, 1, 2, 3, 4, 5, 6, 7, 8, 9, 10, 11, 12, 13, 14, 15] [16] [row x (colRow S rsv tsv mw) 115] [2, 0] (G := Nat) (fun b3 => [(3, ptr b3)]) (fun b3 => row b3 [i64 (1 - S.b.act), i64 (S.free - S.to_), .slice none 0 0] 33 :: row x (colRow S rsv tsv mw) 115 :: VecU 0 (rsv, S.b.rts) :: VecU 0 (tsv, S.todo) :: mapA .u64 i64 mw S.went :: row b2 [i64 0, i64 0, .slice none 0 0] 33 :: Fr) Tryz.mixed (by kernel_rfl) ?_ ?_
  · skip
    refine t_fin ?_; refine v_hoist rfl rfl rfl (ev_move rfl) .free rfl ?_
    first | refine v_hoist rfl rfl rfl (ev_nil rfl) .free rfl ?_ | refine v_hoist rfl rfl rfl (ev_nilf rfl) .free rfl ?_
    refine v_hoist rfl rfl rfl (ev_fa (m := _) fa_115_2 rfl rfl) .free rfl ?_; refine v_hoist rfl rfl rfl (ev_fa (m := _) fa_33_0 rfl rfl) .free rfl ?_; refine v_hoist rfl rfl rfl (ev_load Tryz.isAgg3 rfl rfl) .free rfl ?_
    first | refine v_hoist rfl rfl rfl (ev_sub rfl rfl (wr64 (by omega))) .free rfl ?_ | refine v_hoist rfl rfl rfl (ev_sub rfl rfl rfl) .free rfl ?_
    refine v_hoist rfl rfl rfl (ev_move rfl) .free rfl ?_
    first | refine v_hoist rfl rfl rfl (ev_nil rfl) .free rfl ?_ | refine v_hoist rfl rfl rfl (ev_nilf rfl) .free rfl ?_
    refine v_hoist rfl rfl rfl (ev_fa (m := _) fa_115_5 rfl rfl) .free rfl ?_; refine v_hoist rfl rfl rfl (ev_load Tryz.isAgg3 rfl rfl) .free rfl ?_; refine v_hoist rfl rfl rfl (ev_move rfl) .free rfl ?_
    first | refine v_hoist rfl rfl rfl (ev_nil rfl) .free rfl ?_ | refine v_hoist rfl rfl rfl (ev_nilf rfl) .free rfl ?_
    refine v_hoist rfl rfl rfl (ev_fa (m := _) fa_115_3 rfl rfl) .free rfl ?_; refine v_hoist rfl rfl rfl (ev_load Tryz.isAgg3 rfl rfl) .free rfl ?_
    first | refine v_hoist rfl rfl rfl (ev_sub rfl rfl (wr64 (by omega))) .free rfl ?_ | refine v_hoist rfl rfl rfl (ev_sub rfl rfl rfl) .free rfl ?_
    refine v_hoist rfl rfl rfl (ev_build rfl (bld_33_0_1 _ _ rfl rfl)) .free rfl ?_; refine v_mark rfl rfl ?_; refine p_chg rfl (ch_allocA Tryz.zeroValue33 rfl) .free rfl rfl ?_
    rintro _ _ ⟨b3, rfl, rfl⟩
    refine p_nil ?_; refine v_on ?_; refine v_mark rfl rfl ?_; refine p_chg0 rfl (ch_storeA (vs := _) Tryz.sizeOf33 rfl rfl rfl (by first | rfl | exact all3 (by assumption)) rfl) .free rfl ?_
    rintro _ _ rfl
    refine p_nil ?_; refine v_off rfl ?_; refine v_nil ?_
    exact fun a w st_ => ⟨b3, st_.to ⟨rfl, rfl, rfl, trivial⟩ (fun hh => hh)⟩
  intro b3
  refine go_sub (σ' := [(3, ptr b3), (2, _), (0, _)]) ⟨rfl, rfl, rfl, trivial⟩ ?_; refine g_seq ?_; refine g_seq ?_; refine go_pk [2] ?_; refine go_vecq fun qr cr hqr hqi => ?_
  subst hqr
  refine go_pk [1, 1, 0, 0, 0, 0] ?_; refine go_conv (fun w hh => vec_nil (T := 52) (enc := w64) hh) ?_; refine g_region ?_; refine kPm rfl rfl ?_
  first | refine kPv (ev_nil rfl) rfl ?_ | refine kPv (ev_nilf rfl) rfl ?_
  refine kPv (ev_fa (m := _) fa_115_2 rfl rfl) rfl ?_; refine kPv (ev_fa (m := _) fa_33_2 rfl rfl) rfl ?_; refine kPv (ev_load Tryz.isAgg31 rfl rfl) rfl ?_; refine kPv (ev_len rfl Tryz.runUnderlying31 ⟨_, rfl⟩ rfl) rfl ?_; refine kPm rfl rfl ?_; refine p_nil ?_; refine g_block ?_
  refine g_loopk (ι := Nat × Value) [27, 26, 3, 2, 0] (fun (k, bv) => (k ≤ S.b.rts.length) ∧ (cell1 bv = true)) (fun (k, bv) => [(28, i64 k)]) (fun (k, bv) => VecU 0 (bv, (S.b.rts.take k).map (fun w => (mget S.went w).getD 0)) :: row b3 [i64 (1 - S.b.act), i64 (S.free - S.to_), bv] 33 :: row x (colRow S (.slice qr S.b.rts.length cr) tsv mw) 115 :: VecU 0 (.slice qr S.b.rts.length cr, S.b.rts) :: VecU 0 (tsv, S.todo) :: mapA .u64 i64 mw S.went :: row b2 [i64 0, i64 0, .slice none 0 0] 33 :: Fr) (fun (k, bv) => S.b.rts.length - k) (0, .slice none 0 0) (⟨Nat.zero_le _, rfl⟩) (fun a w st => st.to ⟨rfl, trivial⟩ (fun hh => hh)) ?_
  rintro ⟨k, bv⟩ ⟨hk0, hbv⟩
  try simp only at hk0 hbv ⊢
  refine go_sub (σ' := [(28, i64 k), (27, _), (26, _), (3, _), (2, _), (0, _)]) ⟨rfl, rfl, rfl, rfl, rfl, rfl, trivial⟩ ?_; refine g_seq ?_; refine g_region ?_; refine kPv (ev_cmp rfl rfl rfl) rfl ?_; refine p_nil ?_; refine g_seq ?_
  refine g_if rfl (fun h29 => ?_) (fun h29 => ?_)
  · have hk : k < S.b.rts.length := by simp at h29; omega
    obtain ⟨bq, oq, rfl⟩ := hqi k hk
    have hvb := hS.vb S.b.rts[k]
    refine g_skip ?_; refine g_seq ?_; refine g_block ?_; refine g_seq ?_; refine g_region ?_; refine kPv (ev_iaS Tryz.runUnderlying31 Tryz.sizeOf52 rfl rfl (by omega) (by omega)) rfl ?_
    refine kPv (ev_loadS (v := w64 S.b.rts[k]) Tryz.isAgg52 (vec_slr 3 rfl) rfl (by rw [Int.toNat_natCast, List.getElem?_map, List.getElem?_eq_getElem hk]; rfl)) rfl ?_
    refine kPa rfl rfl ?_; refine p_nil ?_; refine g_drawv [0, 1, 2, 3, 4, 5, 6, 7, 8, 9, 10, 11, 12] [9, 10, 12] [0, 1] [9] [row b3 [i64 (1 - S.b.act), i64 (S.free - S.to_), bv] 33, row x (colRow S (.slice (some ⟨bq, oq, none⟩) S.b.rts.length cr) tsv mw) 115, mapA .u64 i64 mw S.went] Tryz.mixed (by kernel_rfl) ?_; refine v_hoist rfl rfl rfl (ev_fa (m := _) fa_33_2 rfl rfl) .free rfl ?_; refine v_hoist rfl rfl rfl (ev_load Tryz.isAgg31 rfl rfl) .free rfl ?_
    refine v_val rfl rfl rfl (ev_move rfl) .free rfl ?_
    first | refine v_val rfl rfl rfl (ev_nil rfl) .free rfl ?_ | refine v_val rfl rfl rfl (ev_nilf rfl) .free rfl ?_
    refine v_val rfl rfl rfl (ev_fa (m := _) fa_115_7 rfl rfl) .free rfl ?_; refine v_val rfl rfl rfl (ev_load Tryz.isAgg113 rfl rfl) .free rfl ?_; refine v_val rfl rfl rfl (ev_move rfl) .free rfl ?_; refine v_val rfl rfl rfl ((ev_lookup1 Tryz.runUnderlying113 Tryz.runUnderlying52 Tryz.zeroValue3 rfl rfl).eq (mval_i _)) .free rfl ?_; refine v_val rfl rfl rfl (ev_conv Tryz.runUnderlying3 Tryz.runUnderlying52 rfl (wru64 (by omega))) .free rfl ?_; refine v_mark rfl rfl ?_
    refine p_chg rfl (ch_bs1 Tryz.runUnderlying31 Tryz.sizeOf52 Tryz.zeroValue52 rfl rfl rfl) .free rfl rfl ?_
    rintro _ _ ⟨b41, rfl, rfl⟩
    refine go_pk [1, 0] ?_; refine p_nil ?_; refine v_on ?_; refine v_mark rfl rfl ?_; refine p_chg rfl (ch_append_vec rfl rfl Tryz.runUnderlying31 Tryz.runUnderlying31 ⟨_, rfl⟩ Tryz.sizeOf52 Tryz.zeroValue52 rfl (fun _ => rfl) tb_52 rfl rfl (by simp; omega)) .free rfl rfl ?_
    rintro bv2 _ ⟨hbv2, rfl⟩
    refine p_nil ?_; refine v_off rfl ?_; refine v_val rfl rfl rfl (ev_fa (m := _) fa_33_2 rfl rfl) .free rfl ?_; refine v_mark rfl rfl ?_; refine p_chg0 rfl (ch_store Tryz.sizeOf31 rfl rfl (by first | rfl | assumption) rfl) .free rfl ?_
    rintro _ _ rfl
    refine p_nil ?_; refine v_off rfl ?_; refine v_nil ?_; refine go_sub (σ' := [(28, _), (27, _), (26, _), (3, _), (2, _), (0, _)]) ⟨rfl, rfl, rfl, rfl, rfl, rfl, trivial⟩ ?_; refine g_region ?_
    first | refine p_val rfl (ev_add rfl rfl (wr64 (by omega))) .free rfl rfl ?_ | refine p_val rfl (ev_add rfl rfl rfl) .free rfl rfl ?_
    refine kPm rfl rfl ?_; refine p_nil ?_
    exact fun a w st_ => ⟨(k + 1, bv2), ⟨by first | omega | (simp only; omega), hbv2⟩, by first | omega | (simp only; omega), st_.to ⟨rfl, rfl, rfl, rfl, rfl, rfl, trivial⟩ (fun hh => (by simp only [map_take_succ hk]; exact hh))⟩
  · have hk : ¬ k < S.b.rts.length := by simp at h29; omega
    obtain rfl : k = S.b.rts.length := by omega
    rw [List.take_length]
    refine g_exit ?_; refine g_seq ?_; refine g_region ?_; refine kPv (ev_loadA Tryz.isAgg33 Tryz.sizeOf33 rfl rfl) rfl ?_; refine p_chg0 rfl (ch_storeA (vs := _) Tryz.sizeOf33 rfl rfl rfl (by first | rfl | exact all3 (by assumption)) rfl) .free rfl ?_
    rintro _ _ rfl
    refine p_nil ?_; refine go_sub (σ' := [(2, _)]) ⟨rfl, trivial⟩ ?_; refine g_ret ?_
    exact ret_1 Tryz.results76 (.cellA rfl Tryz.isAgg33 Tryz.sizeOf33 rfl rfl) (fun w hh => ⟨_, ⟨bv, hbv, rfl, rfl⟩, (col_holds (S := S) hrsv htsv ((hh.dp [1, 5]).pk [1, 1, 1, 1])).pk [1]⟩)
theorem clone64n_ok (B : World) (Fr : List HP) (cap : Nat) :
    ∀ w, Holds B Fr w → Calls Tryz.prog 49 [.slice none 0 cap].toArray w (PureR B Fr (.slice none 0 0)) := by
  refine fn_enter Tryz.func49 rfl Tryz.ntmps49 rfl ?_; refine g_seq ?_; refine g_region ?_; refine kPa rfl rfl ?_; refine p_nil ?_; refine g_seq ?_; refine g_seq ?_; refine g_region ?_; refine kPm rfl rfl ?_; refine kPv (ev_eqsl Tryz.runUnderlying31 rfl rfl rfl) rfl ?_; refine p_nil ?_; refine g_ift rfl (rfl) ?_; refine g_seq ?_; refine g_region ?_; refine kPa rfl rfl ?_; refine p_nil ?_; refine g_ret ?_
  exact ret_tmp Tryz.results49 rfl (fun w hh => ⟨rfl, hh⟩)
theorem clone64v_ok (B : World) (Fr : List HP) (q : Option Addr) (cap : Nat) (xs : List Int) (hn : xs.length ≤ 1000000) (hq : q = none → xs = []) (hr : SlR B Fr (.slice q xs.length cap) (xs.map w64)) : ∀ w, Holds B Fr w → Calls Tryz.prog 49 [.slice q xs.length cap].toArray w (Ret B (fun rv H' => cell1 rv = true ∧ H' = VecU 0 (rv, xs) :: Fr) (fun _ _ => False)) := by
  intro w hw
  cases q with
  | none =>
    have := hq rfl
    subst this
    exact (clone64n_ok B Fr cap w hw).mono fun e w' h => by obtain ⟨rfl, h⟩ := h; exact ⟨_, ⟨rfl, rfl⟩, vec_nil h⟩
  | some a =>
    refine (clone64_ok B Fr (some a) xs.length cap (xs.map w64) (by simp) (by simpa using hn) (by rw [List.all_eq_true]; intro v hv; obtain ⟨x, _, rfl⟩ := List.mem_map.1 hv; rfl) hr w hw).mono fun e w' h => ?_
    cases e with
    | returned v =>
      obtain ⟨H', ⟨bn, rest, rfl, rfl⟩, h⟩ := h
      exact ⟨_, ⟨rfl, rfl⟩, vec_row rfl rfl h⟩
    | panicked c => obtain ⟨_, h, _⟩ := h; exact h.elim
    | outgrown => exact h.elim
theorem cnew_ok (B : World) (Fr : List HP) (bd : Nat) (c : Cfg) (hc : CfgW c) (b : Blk) (hb : BlkW c b) (sv : Value) (hsv : cell1 sv = true) (q : Option Addr) (cap : Nat) (ws : List Int) (hwn : ws.length ≤ 1000000) (hwq : q = none → ws = []) (hwl : SlR B (VecU 0 (sv, b.rts) :: Fr) (.slice q ws.length cap) (ws.map w64)) :
    ∀ w, Holds B (VecU 0 (sv, b.rts) :: Fr) w → Calls Tryz.prog 16 [ptr bd, cfgV c, blkV b sv, .slice q ws.length cap].toArray w (Ret B (fun rv H' => ∃ x, rv = ptr x ∧ H' = ColA x (newCol bd c b ws) :: Fr) (fun _ _ => False)) := by
  refine fn_enter Tryz.func16 rfl Tryz.ntmps16 rfl ?_
  have hba := hb.act
  refine g_seq ?_; refine g_region ?_; refine p_chg rfl (ch_boxA rfl) .free rfl rfl ?_
  rintro _ _ ⟨b5, rfl, rfl⟩
  refine p_chg rfl (ch_boxA rfl) .free rfl rfl ?_
  rintro _ _ ⟨b6, rfl, rfl⟩
  refine kPa rfl rfl ?_; refine p_nil ?_; refine g_seq ?_; refine g_region ?_; refine kPv (ev_loadA Tryz.isAgg30 Tryz.sizeOf30 rfl rfl) rfl ?_; refine kPv (ev_fa (m := _) fa_33_0 rfl rfl) rfl ?_; refine kPv (ev_load Tryz.isAgg3 rfl rfl) rfl ?_
  first | refine p_val rfl (ev_sub rfl rfl (wr64 (by omega))) .free rfl rfl ?_ | refine p_val rfl (ev_sub rfl rfl rfl) .free rfl rfl ?_
  refine p_callq rfl (en_f Tryz.call46 rfl) (from_ok _ _ c hc _ (by have := hb.act; omega) (by have := hb.act; omega)) .free rfl rfl ?_
  refine kPa rfl rfl ?_; refine p_nil ?_; refine go_sub (σ' := [(9, _), (8, _), (6, _), (5, _), (0, _), (3, _)]) ⟨rfl, rfl, rfl, rfl, rfl, rfl, trivial⟩ ?_; refine g_seq ?_; refine go_pk [1] ?_
  refine g_drawT (.br [0, 1, 2, 3, 4, 5, 6] 7 (.fin [8, 9, 10, 11]) 8 (.fin [7, 9, 10, 11])) [7, 8, 10] [0, 1, 2, 3, 4, 5, 6] [7, 8] [row b5 [i64 c.log, i64 c.roots, i64 c.space] 30, row b6 [i64 b.act, i64 b.used, sv] 33] [] (G := Nat) (fun x => [(8, ptr x)]) (fun x => ColA x (newCol bd c b ws) :: Fr) Tryz.mixed (by kernel_rfl) ?_ ?_
  · skip
    refine t_br ?_; refine v_hoist rfl rfl rfl (ev_move rfl) .free rfl ?_; refine v_hoist rfl rfl rfl (ev_loadA Tryz.isAgg30 Tryz.sizeOf30 rfl rfl) .free rfl ?_; refine v_hoist rfl rfl rfl (ev_loadA Tryz.isAgg33 Tryz.sizeOf33 rfl rfl) .free rfl ?_; refine v_hoist rfl rfl rfl (ev_move rfl) .free rfl ?_; refine v_hoist rfl rfl rfl (ev_move rfl) .free rfl ?_; refine v_hoist rfl rfl rfl (ev_move rfl) .free rfl ?_; refine v_hoist rfl rfl rfl (ev_move rfl) .free rfl ?_; refine v_nil ?_
    refine t_two rfl rfl ?_ ?_
    · skip
      refine p_call rfl (en_f Tryz.call49 rfl) (clone64v_ok _ _ q cap ws hwn hwq hwl.up) .free rfl rfl ?_ ?_
      rotate_left
      · rintro _ _ ⟨⟩
      rintro tsv _ ⟨htsv, rfl⟩
      refine p_nil ?_; refine t_on ?_; refine t_fin ?_; refine v_mark rfl rfl ?_; refine p_chg rfl (ch_makeMap .u64 i64) .free rfl rfl ?_
      rintro _ _ ⟨mw, rfl, rfl⟩
      refine p_nil ?_; refine v_on ?_; refine v_val rfl rfl rfl (ev_build rfl (bld_115_0_1_2_3_4_5_6_7 _ _ _ _ _ _ _ _ _ _ _ _ (by first | rfl | assumption) rfl rfl rfl (by first | rfl | assumption) (by first | rfl | assumption))) .free rfl ?_; refine v_mark rfl rfl ?_; refine p_chg rfl (ch_boxA rfl) .free rfl rfl ?_
      rintro _ _ ⟨b25, rfl, rfl⟩
      refine p_nil ?_; refine v_off rfl ?_; refine v_val rfl rfl rfl (ev_assign rfl) .free rfl ?_; refine v_nil ?_
      exact fun a w st_ => ⟨b25, st_.to ⟨rfl, trivial⟩ (fun hh => (col_holds (S := newCol bd c b ws) hsv htsv ((hh.dp [3, 3]).pk [0, 2, 1])))⟩
    · skip
      refine p_chg rfl (ch_makeMap .u64 i64) .free rfl rfl ?_
      rintro _ _ ⟨mw, rfl, rfl⟩
      refine p_nil ?_; refine t_on ?_; refine t_fin ?_; refine v_mark rfl rfl ?_
      refine p_call rfl (en_f Tryz.call49 rfl) (clone64v_ok _ _ q cap ws hwn hwq hwl.up) .free rfl rfl ?_ ?_
      rotate_left
      · rintro _ _ ⟨⟩
      rintro tsv _ ⟨htsv, rfl⟩
      refine p_nil ?_; refine v_on ?_; refine v_val rfl rfl rfl (ev_build rfl (bld_115_0_1_2_3_4_5_6_7 _ _ _ _ _ _ _ _ _ _ _ _ (by first | rfl | assumption) rfl rfl rfl (by first | rfl | assumption) (by first | rfl | assumption))) .free rfl ?_; refine v_mark rfl rfl ?_; refine p_chg rfl (ch_boxA rfl) .free rfl rfl ?_
      rintro _ _ ⟨b25, rfl, rfl⟩
      refine p_nil ?_; refine v_off rfl ?_; refine v_val rfl rfl rfl (ev_assign rfl) .free rfl ?_; refine v_nil ?_
      exact fun a w st_ => ⟨b25, st_.to ⟨rfl, trivial⟩ (fun hh => (col_holds (S := newCol bd c b ws) hsv htsv ((hh.dp [3, 3]).pk [0, 2])))⟩
  intro x
  refine go_sub (σ' := [(8, ptr x)]) ⟨rfl, trivial⟩ ?_; refine g_ret ?_
  exact ret_tmp Tryz.results16 rfl (fun w hh => ⟨_, ⟨_, rfl, rfl⟩, hh⟩)
end Go.Proofs.YtbfheafpecgphaaGreat
namespace Go.Proofs.YtbfheafpecgphaaGreat
open Go
def OutP {α : Type} (m : Out α) (ok : α → Dev → Prop) (off : Dev → Prop) : Prop := match m with
  | .ok a s => ok a s
  | .off s => off s
theorem OutP.bind {α β : Type} {m : Out α} {f : α → Dev → Out β} {ok : α → Dev → Prop} {ok' : β → Dev → Prop} {off : Dev → Prop} (h : OutP m ok off) (g : ∀ a s, ok a s → OutP (f a s) ok' off) : OutP (m.then f) ok' off := by
  cases m with
  | ok a s => exact g a s h
  | off s => exact h
theorem OutP.mono {α : Type} {m : Out α} {ok ok' : α → Dev → Prop} {off off' : Dev → Prop} (h : OutP m ok off) (f : ∀ a s, ok a s → ok' a s) (g : ∀ s, off s → off' s) : OutP m ok' off' := by
  cases m with
  | ok a s => exact f a s h
  | off s => exact g s h
structure Stab (lo hi : Int) (J : Dev → Prop) : Prop where
  n : ∀ s, J s → 0 ≤ lo ∧ hi ≤ s.n
  st : ∀ s i v, J s → lo ≤ i → i < hi → 0 ≤ v → v < 18446744073709551616 → J (s.up.st i.toNat v)
  fl : ∀ s i, J s → lo ≤ i → i < hi → J (s.up.fl i.toNat)
  fe : ∀ s, J s → J s.up.fe
abbrev OffJ (J : Dev → Prop) (s : Dev) : Prop := J s ∧ s.pow.out = true
def updI (m : Int → Int) (i v : Int) : Int → Int := fun j => if j = i then v else m j
theorem Stab.has {lo hi : Int} {J : Dev → Prop} (h : Stab lo hi J) {s : Dev} (hs : J s) {i : Int} (h1 : lo ≤ i) (h2 : i < hi) : s.has i = true := by
  have := h.n s hs
  unfold Dev.has; simp; omega
theorem st_load {s : Dev} {i v : Int} (h : s.has i = true) : (s.up.st i.toNat v).load = updI s.load i v := by
  funext j
  unfold Dev.has at h
  simp only [Bool.and_eq_true, decide_eq_true_eq] at h
  unfold updI Dev.load
  have e : (s.up.st i.toNat v).has j = s.has j := rfl
  rw [e]
  by_cases hj : j = i
  · subst hj
    rw [if_pos rfl, if_pos (by unfold Dev.has; simp; omega)]
    show upd s.now j.toNat v j.toNat = v
    simp [upd]
  · rw [if_neg hj]
    by_cases hh : s.has j = true
    · rw [if_pos hh, if_pos hh]
      unfold Dev.has at hh
      simp only [Bool.and_eq_true, decide_eq_true_eq] at hh
      show upd s.now i.toNat v j.toNat = s.now j.toNat
      unfold upd
      rw [if_neg (by omega)]
    · rw [if_neg hh, if_neg hh]
theorem Stab.store {lo hi : Int} {J : Dev → Prop} (h : Stab lo hi J) {s : Dev} (hs : J s) {i v : Int} (h1 : lo ≤ i) (h2 : i < hi) (h3 : 0 ≤ v) (h4 : v < 18446744073709551616) :
    OutP (s.store i v) (fun a s' => a = 0 ∧ J s' ∧ s'.load = updI s.load i v) (OffJ J) := by
  have hh := h.has hs h1 h2
  unfold Dev.store
  rw [if_neg (by rw [hh]; decide)]
  by_cases hp : s.pow.out = true
  · rw [if_pos hp]; exact ⟨hs, hp⟩
  · rw [if_neg hp]; exact ⟨rfl, h.st s i v hs h1 h2 h3 h4, st_load hh⟩
theorem Stab.flush {lo hi : Int} {J : Dev → Prop} (h : Stab lo hi J) {s : Dev} (hs : J s) {i : Int} (h1 : lo ≤ i) (h2 : i < hi) :
    OutP (s.flush i) (fun a s' => a = 0 ∧ J s' ∧ s' = s.up.fl i.toNat) (OffJ J) := by
  have hh := h.has hs h1 h2
  unfold Dev.flush
  rw [if_neg (by rw [hh]; decide)]
  by_cases hp : s.pow.out = true
  · rw [if_pos hp]; exact ⟨hs, hp⟩
  · rw [if_neg hp]; exact ⟨rfl, h.fl s i hs h1 h2, rfl⟩
theorem Stab.fence {lo hi : Int} {J : Dev → Prop} (h : Stab lo hi J) {s : Dev} (hs : J s) :
    OutP s.fence (fun _ s' => J s' ∧ s' = s.up.fe) (OffJ J) := by
  unfold Dev.fence
  by_cases hp : s.pow.out = true
  · rw [if_pos hp]; exact ⟨hs, hp⟩
  · rw [if_neg hp]; exact ⟨h.fe s hs, rfl⟩
theorem Stab.cpy {lo hi : Int} {J : Dev → Prop} (h : Stab lo hi J) : ∀ (k : Nat) (i a f : Int) (s : Dev), J s → 0 ≤ i → lo ≤ a + i → a + i + k ≤ hi → (f + i + k ≤ a + i ∨ a + i + k ≤ f + i) → (∀ x, 0 ≤ s.load x ∧ s.load x < 18446744073709551616) →
    OutP (cpyN k i a f s) (fun _ s' => J s' ∧ s'.load = fun j => if a + i ≤ j ∧ j < a + i + k then s.load (f + (j - a)) else s.load j) (OffJ J)
  | 0, i, a, f, s, hs, _, _, _, _, _ => by
    refine ⟨hs, ?_⟩
    funext j
    rw [if_neg (by omega)]
  | k + 1, i, a, f, s, hs, hi0, h1, h2, h3, hu => by
    rw [cpyN_succ]
    refine (h.store hs (i := a + i) (v := s.load (f + i)) h1 (by omega) (hu _).1 (hu _).2).bind fun r s1 ⟨_, hs1, e1⟩ => ?_
    have hu1 : ∀ x, 0 ≤ s1.load x ∧ s1.load x < 18446744073709551616 := fun x => by rw [e1]; unfold updI; split; exact hu _; exact hu _
    refine (h.cpy k (i + 1) a f s1 hs1 (by omega) (by omega) (by omega) (by omega) hu1).mono (fun _ s2 ⟨hs2, e2⟩ => ⟨hs2, ?_⟩) (fun _ h => h)
    rw [e2]
    funext j
    rw [e1]
    unfold updI
    by_cases hj : j = a + i
    · subst hj
      rw [if_neg (by omega), if_pos rfl, if_pos (by omega)]
      congr 1; omega
    · by_cases hr : a + (i + 1) ≤ j ∧ j < a + (i + 1) + k
      · rw [if_pos hr, if_neg (by omega), if_pos (by omega)]
      · rw [if_neg hr, if_neg hj, if_neg (by omega)]
def osz (m : Int → Int) (k : Int) : Int := (unp (m k)).1 + 1
def orf (m : Int → Int) (k : Int) : Int := (unp (m k)).2.1
theorem osz_b (m : Int → Int) (k : Int) : 1 ≤ osz m k ∧ osz m k ≤ 65 ∧ 0 ≤ orf m k ∧ orf m k + 1 ≤ osz m k := by
  have := unp_b (m k); unfold osz orf; omega
def Tile (m : Int → Int) : Int → List Int → Int → Prop
  | a, [], e => a = e
  | a, k :: t, e => k = a ∧ (unp (m a)).2.2 = true ∧ Tile m (a + osz m a) t e
theorem Tile.le {m : Int → Int} : ∀ {L : List Int} {a e : Int}, Tile m a L e → a ≤ e
  | [], a, e, h => Int.le_of_eq h
  | k :: t, a, e, h => by have := h.2.2.le; have := osz_b m a; omega
theorem Tile.mem {m : Int → Int} : ∀ {L : List Int} {a e k : Int}, Tile m a L e → k ∈ L → a ≤ k ∧ k + osz m k ≤ e ∧ (unp (m k)).2.2 = true
  | [], _, _, _, _, h => by cases h
  | x :: t, a, e, k, h, hk => by
    obtain ⟨rfl, h2, h3⟩ := h
    have := osz_b m x
    rcases List.mem_cons.1 hk with rfl | hk
    · exact ⟨Int.le_refl _, h3.le, h2⟩
    · have := Tile.mem h3 hk; exact ⟨by omega, this.2⟩
theorem Tile.nodup {m : Int → Int} : ∀ {L : List Int} {a e : Int}, Tile m a L e → L.Nodup
  | [], _, _, _ => List.nodup_nil
  | x :: t, a, e, h => by
    obtain ⟨rfl, h2, h3⟩ := h
    have := osz_b m x
    exact List.nodup_cons.2 ⟨fun hm => by have := (Tile.mem h3 hm).1; omega, h3.nodup⟩
theorem Tile.disj {m : Int → Int} : ∀ {L : List Int} {a e k k' : Int}, Tile m a L e → k ∈ L → k' ∈ L → k < k' → k + osz m k ≤ k'
  | [], _, _, _, _, _, h, _, _ => by cases h
  | x :: t, a, e, k, k', h, hk, hk', hlt => by
    obtain ⟨rfl, h2, h3⟩ := h
    rcases List.mem_cons.1 hk with e1 | hk2
    · rcases List.mem_cons.1 hk' with e2 | hk3
      · omega
      · subst e1; exact (Tile.mem h3 hk3).1
    · rcases List.mem_cons.1 hk' with e2 | hk3
      · have := (Tile.mem h3 hk2).1; have := osz_b m x; omega
      · exact Tile.disj h3 hk2 hk3 hlt
def sumI (f : Int → Int) (l : List Int) : Int := (l.map f).sum
theorem Tile.sum {m : Int → Int} : ∀ {L : List Int} {a e : Int}, Tile m a L e → e = a + sumI (osz m) L
  | [], a, e, h => by simp [sumI]; exact h.symm
  | x :: t, a, e, h => by
    obtain ⟨rfl, h2, h3⟩ := h
    have := Tile.sum h3
    simp only [sumI, List.map_cons, List.sum_cons] at this ⊢
    omega
theorem sumI_nonneg {f : Int → Int} (hf : ∀ x, 0 ≤ f x) : ∀ l, 0 ≤ sumI f l
  | [] => by simp [sumI]
  | x :: t => by have := sumI_nonneg hf t; have := hf x; simp only [sumI, List.map_cons, List.sum_cons] at *; omega
theorem sumI_erase {f : Int → Int} : ∀ {l : List Int} {x : Int}, x ∈ l → sumI f l = f x + sumI f (l.erase x)
  | [], _, h => by cases h
  | y :: t, x, h => by
    by_cases e : y = x
    · subst e; simp [sumI]
    · have h2 : x ∈ t := by rcases List.mem_cons.1 h with h | h; exact absurd h.symm e; exact h
      have := sumI_erase (f := f) h2
      rw [List.erase_cons_tail (by simpa using e)]
      simp only [sumI, List.map_cons, List.sum_cons] at *
      omega
theorem sumI_sub {f : Int → Int} (hf : ∀ x, 0 ≤ f x) : ∀ {l l' : List Int}, l.Nodup → (∀ x ∈ l, x ∈ l') → sumI f l ≤ sumI f l'
  | [], l', _, _ => by have := sumI_nonneg hf l'; simpa [sumI] using this
  | x :: t, l', hn, hs => by
    rw [List.nodup_cons] at hn
    have h1 := sumI_erase (f := f) (hs x (List.mem_cons_self ..))
    have h2 := sumI_sub hf (l := t) (l' := l'.erase x) hn.2 (fun y hy => (List.mem_erase_of_ne (by intro e; subst e; exact hn.1 hy)).2 (hs y (List.mem_cons_of_mem _ hy)))
    simp only [sumI, List.map_cons, List.sum_cons] at *
    omega
theorem sumI_perm {f : Int → Int} (hf : ∀ x, 0 ≤ f x) {l l' : List Int} (h1 : l.Nodup) (h2 : l'.Nodup) (h : ∀ x, x ∈ l ↔ x ∈ l') : sumI f l = sumI f l' :=
  Int.le_antisymm (sumI_sub hf h1 fun x => (h x).1) (sumI_sub hf h2 fun x => (h x).2)
structure HeapW (c : Cfg) (b : Blk) (m : Int → Int) (L : List Int) : Prop where
  tile : Tile m (b.place c 0) L (b.place c b.used)
  names : ∀ k ∈ L, ∀ i, 0 ≤ i → i < orf m k → m (k + 1 + i) = 0 ∨ m (k + 1 + i) ∈ L
  roots : ∀ w ∈ b.rts, w = 0 ∨ w ∈ L
inductive Rch (m : Int → Int) (ws : List Int) : Int → Prop
  | word {w : Int} : w ∈ ws → w ≠ 0 → Rch m ws w
  | name {k i : Int} : Rch m ws k → 0 ≤ i → i < orf m k → m (k + 1 + i) ≠ 0 → Rch m ws (m (k + 1 + i))
theorem heap_b {c : Cfg} (hc : CfgW c) {b : Blk} (hb : BlkW c b) {m : Int → Int} {L : List Int} (h : HeapW c b m L) {k : Int} (hk : k ∈ L) : c.frm b.act ≤ k ∧ k + osz m k ≤ c.frm b.act + b.used ∧ 24 < k ∧ k < 20000 := by
  have h1 := h.tile.mem hk
  have h2 := hb.act; have h3 := hb.used
  have h4 := frm_b hc (k := b.act) (by omega)
  have := osz_b m k; have := hc.s1
  have h5 : (2 - b.act) * c.space = c.space ∨ (2 - b.act) * c.space = 2 * c.space := by
    rcases (by omega : b.act = 0 ∨ b.act = 1) with e | e <;> rw [e]
    · exact .inr (by omega)
    · exact .inl (by omega)
  unfold Blk.place at h1
  omega
theorem heap_of {c : Cfg} (hc : CfgW c) {b : Blk} (hb : BlkW c b) {s : Dev} {L : List Int} (h : HeapW c b s.load L) {k : Int} (hk : k ∈ L) : s.objOf c b k = ((osz s.load k - 1, orf s.load k, k), 0) ∧ b.has c k = true := by
  have h1 := h.tile.mem hk
  have h2 := heap_b hc hb h hk
  have h5 := osz_b s.load k
  have hh : b.has c k = true := by unfold Blk.has; simp; omega
  refine ⟨?_, hh⟩
  unfold Dev.objOf
  rw [if_neg (by rw [hh]; simp; omega), if_neg (by rw [h1.2.2]; unfold osz at h1; simp; omega)]
  unfold osz orf
  simp
end Go.Proofs.YtbfheafpecgphaaGreat
namespace Go.Proofs.YtbfheafpecgphaaGreat
open Go
def Offs (m : Int → Int) : Int → List (Int × Int) → Int → Prop
  | a, [], e => a = e
  | a, q :: t, e => q.2 = a ∧ Offs m (a + osz m q.1) t e
theorem Offs.le {m : Int → Int} : ∀ {W : List (Int × Int)} {a e : Int}, Offs m a W e → a ≤ e
  | [], a, e, h => Int.le_of_eq h
  | q :: t, a, e, h => by have := h.2.le; have := osz_b m q.1; omega
theorem Offs.mem {m : Int → Int} : ∀ {W : List (Int × Int)} {a e : Int} {q : Int × Int}, Offs m a W e → q ∈ W → a ≤ q.2 ∧ q.2 + osz m q.1 ≤ e
  | [], _, _, _, _, h => by cases h
  | x :: t, a, e, q, h, hq => by
    obtain ⟨h1, h2⟩ := h
    have := osz_b m x.1
    rcases List.mem_cons.1 hq with rfl | hq
    · have := h2.le; omega
    · have := Offs.mem h2 hq; omega
theorem Offs.snoc {m : Int → Int} {k : Int} : ∀ {W : List (Int × Int)} {a e : Int}, Offs m a W e → Offs m a (W ++ [(k, e)]) (e + osz m k)
  | [], a, e, h => by cases h; exact ⟨rfl, rfl⟩
  | x :: t, a, e, h => ⟨h.1, h.2.snoc⟩
theorem Offs.sum {m : Int → Int} : ∀ {W : List (Int × Int)} {a e : Int}, Offs m a W e → e = a + sumI (osz m) (W.map Prod.fst)
  | [], a, e, h => by cases h; simp [sumI]
  | x :: t, a, e, h => by
    have := Offs.sum h.2
    simp only [sumI, List.map_cons, List.sum_cons] at *
    omega
theorem Offs.app {m : Int → Int} : ∀ {W V : List (Int × Int)} {a e x : Int}, Offs m a W x → Offs m a (W ++ V) e → Offs m x V e
  | [], V, a, e, x, h, h2 => by cases h; exact h2
  | q :: t, V, a, e, x, h, h2 => Offs.app h.2 h2.2
theorem Offs.disj {m : Int → Int} : ∀ {W : List (Int × Int)} {a e : Int} {q q' : Int × Int}, Offs m a W e → q ∈ W → q' ∈ W → q.2 < q'.2 → q.2 + osz m q.1 ≤ q'.2
  | [], _, _, _, _, _, h, _, _ => by cases h
  | x :: t, a, e, q, q', h, hq, hq', hlt => by
    have hx := osz_b m x.1
    rcases List.mem_cons.1 hq with e1 | hq2
    · rcases List.mem_cons.1 hq' with e2 | hq3
      · subst e1; subst e2; omega
      · subst e1; have := (Offs.mem h.2 hq3).1; have := h.1; omega
    · rcases List.mem_cons.1 hq' with e2 | hq3
      · subst e2; have := (Offs.mem h.2 hq2).1; have := h.1; omega
      · exact Offs.disj h.2 hq2 hq3 hlt
theorem Offs.inj {m : Int → Int} : ∀ {W : List (Int × Int)} {a e : Int} {q q' : Int × Int}, Offs m a W e → q ∈ W → q' ∈ W → q.2 = q'.2 → q = q'
  | [], _, _, _, _, _, h, _, _ => by cases h
  | x :: t, a, e, q, q', h, hq, hq', heq => by
    have hx := osz_b m x.1
    rcases List.mem_cons.1 hq with e1 | hq2
    · rcases List.mem_cons.1 hq' with e2 | hq3
      · rw [e1, e2]
      · subst e1; have := (Offs.mem h.2 hq3).1; have := h.1; omega
    · rcases List.mem_cons.1 hq' with e2 | hq3
      · subst e2; have := (Offs.mem h.2 hq2).1; have := h.1; omega
      · exact Offs.inj h.2 hq2 hq3 heq
theorem Offs.tile {m m' : Int → Int} : ∀ {W : List (Int × Int)} {a e : Int}, Offs m a W e → (∀ q ∈ W, m' q.2 = m q.1) → (∀ q ∈ W, (unp (m q.1)).2.2 = true) → Tile m' a (W.map Prod.snd) e
  | [], a, e, h, _, _ => h
  | q :: t, a, e, h, h1, h2 => by
    have e1 := h1 q (List.mem_cons_self ..)
    obtain ⟨rfl, h3⟩ := h
    refine ⟨rfl, by rw [e1]; exact h2 q (List.mem_cons_self ..), ?_⟩
    rw [show osz m' q.2 = osz m q.1 by unfold osz; rw [e1]]
    exact h3.tile (fun x hx => h1 x (List.mem_cons_of_mem _ hx)) (fun x hx => h2 x (List.mem_cons_of_mem _ hx))
theorem mget_nk {W : List (Int × Int)} {w : Int} (h : w ∉ W.map Prod.fst) : mget W w = none := by
  induction W with
  | nil => rfl
  | cons x t ih =>
    rw [List.map_cons, List.mem_cons] at h
    unfold mget
    rw [if_neg (fun e => h (.inl e.symm)), ih (fun hm => h (.inr hm))]
def tr (W : List (Int × Int)) (w : Int) : Int := (mget W w).getD 0
theorem tr_of {W : List (Int × Int)} (hn : (W.map Prod.fst).Nodup) {q : Int × Int} (hq : q ∈ W) : tr W q.1 = q.2 := by
  unfold tr
  have : mget W q.1 = some q.2 := by
    induction W with
    | nil => cases hq
    | cons x t ih =>
      rw [List.map_cons, List.nodup_cons] at hn
      unfold mget
      rcases List.mem_cons.1 hq with rfl | hq
      · rw [if_pos rfl]
      · rw [if_neg (fun e => hn.1 (by rw [e]; exact List.mem_map_of_mem hq))]; exact ih hn.2 hq
  rw [this]; rfl
theorem tr_not {W : List (Int × Int)} {w : Int} (h : w ∉ W.map Prod.fst) : tr W w = 0 := by
  unfold tr; rw [mget_nk h]; rfl
theorem tr_app {W V : List (Int × Int)} {w : Int} (h : w ∈ W.map Prod.fst) : tr (W ++ V) w = tr W w := by
  unfold tr
  have : mget (W ++ V) w = mget W w := by
    induction W with
    | nil => cases h
    | cons x t ih =>
      rw [List.map_cons, List.mem_cons] at h
      rw [List.cons_append]
      unfold mget
      split
      · rfl
      · rename_i hne; exact ih (h.resolve_left fun e => hne e.symm)
  rw [this]
structure GcH (c : Cfg) (b : Blk) (m0 : Int → Int) (L : List Int) (lo hi : Int) : Prop where
  hc : CfgW c
  hb : BlkW c b
  heap : HeapW c b m0 L
  lo_ : lo = c.frm (1 - b.act)
  hi_ : hi = lo + c.space
  u : ∀ x, 0 ≤ m0 x ∧ m0 x < 18446744073709551616
theorem GcH.apart {c : Cfg} {b : Blk} {m0 : Int → Int} {L : List Int} {lo hi : Int} (G : GcH c b m0 L lo hi) : (c.frm b.act + c.space ≤ lo ∨ hi ≤ c.frm b.act) ∧ 24 < lo ∧ hi ≤ c.words ∧ hi ≤ 20000 ∧ c.active + 2 + c.roots ≤ lo := by
  have h1 := G.hb.act
  have h2 := frm_b G.hc (k := 1 - b.act) (by omega)
  have h3 := G.lo_; have h4 := G.hi_
  have h6 := G.hc.s1; have h7 := G.hc.s2
  have h5 := lines_b (n := c.space) (by omega)
  have e0 : c.frm 0 = linesI (c.root c.roots) := by simp [Cfg.frm]
  have e1 : c.frm 1 = linesI (c.root c.roots) + linesI c.space := by simp [Cfg.frm]
  rcases (by omega : b.act = 0 ∨ b.act = 1) with e | e
  · rw [e] at h2 h3 ⊢; rw [show (1 : Int) - 0 = 1 from rfl] at h2 h3; rw [e0]; rw [e1] at h2 h3; omega
  · rw [e] at h2 h3 ⊢; rw [show (1 : Int) - 1 = 0 from rfl] at h2 h3; rw [e1]; rw [e0] at h2 h3; omega
structure CI (c : Cfg) (b : Blk) (m0 : Int → Int) (L : List Int) (lo : Int) (ws : List Int) (S : ColS) (m : Int → Int) (p : Int) : Prop where
  cc : S.c = c
  bb : S.b = b
  tt : S.to_ = lo
  nd : (S.went.map Prod.fst).Nodup
  inL : ∀ q ∈ S.went, q.1 ∈ L
  offs : Offs m0 lo S.went S.free
  out : ∀ j, j < lo ∨ S.free ≤ j → m j = m0 j
  hd : ∀ q ∈ S.went, m q.2 = m0 q.1
  cp : ∀ q ∈ S.went, ∀ j, 0 ≤ j → j + 1 < osz m0 q.1 → m (q.2 + 1 + j) = if j < orf m0 q.1 ∧ q.2 + 1 + j < p then tr S.went (m0 (q.1 + 1 + j)) else m0 (q.1 + 1 + j)
  dn : ∀ q ∈ S.went, ∀ j, 0 ≤ j → j < orf m0 q.1 → q.2 + 1 + j < p → m0 (q.1 + 1 + j) = 0 ∨ m0 (q.1 + 1 + j) ∈ S.went.map Prod.fst
  rc : ∀ q ∈ S.went, Rch m0 ws q.1
  u : ∀ x, 0 ≤ m x ∧ m x < 18446744073709551616
section
variable {c : Cfg} {b : Blk} {m0 m : Int → Int} {L ws : List Int} {lo hi p : Int} {S : ColS} {J : Dev → Prop} {s : Dev}
theorem CI.free {c : Cfg} (G : GcH c b m0 L lo hi) (h : CI c b m0 L lo ws S m p) : lo ≤ S.free ∧ S.free ≤ lo + b.used ∧ S.free ≤ hi := by
  have h1 := h.offs.le
  have h2 := h.offs.sum
  have h3 := G.heap.tile.sum
  have h4 := sumI_sub (f := osz m0) (fun x => by have := osz_b m0 x; omega) h.nd (fun x hx => by obtain ⟨q, hq, rfl⟩ := List.mem_map.1 hx; exact h.inL q hq)
  have h5 := G.hb.used; have h6 := G.hi_
  unfold Blk.place at h3
  omega
theorem GcH.zero (G : GcH c b m0 L lo hi) : (0 : Int) ∉ L := fun h => by have := heap_b G.hc G.hb G.heap h; omega
theorem CI.zero (G : GcH c b m0 L lo hi) (h : CI c b m0 L lo ws S m p) : (0 : Int) ∉ S.went.map Prod.fst := fun hm => by
  obtain ⟨q, hq, e⟩ := List.mem_map.1 hm
  exact G.zero (e ▸ h.inL q hq)
theorem CI.old (G : GcH c b m0 L lo hi) (h : CI c b m0 L lo ws S m p) {k j : Int} (hk : k ∈ L) (h0 : 0 ≤ j) (h1 : j < osz m0 k) : m (k + j) = m0 (k + j) := by
  have h2 := heap_b G.hc G.hb G.heap hk
  have h3 := G.apart; have h4 := h.free G; have h5 := G.hb.used; have h6 := G.hi_
  exact h.out _ (by omega)
theorem CI.copied (G : GcH c b m0 L lo hi) (hJ : Stab lo hi J) (h : CI c b m0 L lo ws S s.load p) (hs : J s) {w : Int} (hw : w = 0 ∨ w ∈ L) (hr : w ≠ 0 → Rch m0 ws w) (hp : p ≤ S.free) :
    OutP (S.copied s w) (fun r s' => J s' ∧ CI c b m0 L lo ws r.2 s'.load p ∧ r.1 = tr r.2.went w ∧ (w = 0 ∨ w ∈ r.2.went.map Prod.fst) ∧ (∃ V, r.2.went = S.went ++ V) ∧ r.2.scan = S.scan ∧ r.2.todo = S.todo ∧ r.2.done = S.done ∧ S.free ≤ r.2.free) (OffJ J) := by
  have hfr := h.free G
  unfold ColS.copied
  by_cases hm : (mget S.went w).isSome = true
  · rw [if_pos hm]
    refine ⟨hs, h, rfl, .inr ?_, ⟨[], by simp⟩, rfl, rfl, rfl, Int.le_refl _⟩
    apply Classical.byContradiction
    intro hn
    rw [mget_nk hn] at hm; cases hm
  rw [if_neg hm]
  have hmn : mget S.went w = none := by
    cases hx : mget S.went w with
    | none => rfl
    | some v => rw [hx] at hm; exact absurd rfl hm
  rcases hw with rfl | hw
  · have h2 : S.b.has S.c 0 = false := by
      cases hx : S.b.has S.c 0 with
      | false => rfl
      | true => rw [h.bb, h.cc] at hx; have := bhas_b G.hc G.hb hx; omega
    rw [if_pos h2]
    exact ⟨hs, h, by unfold tr; rw [hmn]; rfl, .inl rfl, ⟨[], by simp⟩, rfl, rfl, rfl, Int.le_refl _⟩
  have hb0 := heap_b G.hc G.hb G.heap hw
  have hz := osz_b m0 w
  have hlw : s.load w = m0 w := by have := h.old G hw (j := 0) (Int.le_refl 0) (by omega); simpa using this
  have hob : s.objOf S.c S.b w = ((osz m0 w - 1, orf m0 w, w), 0) ∧ S.b.has S.c w = true := by
    rw [h.cc, h.bb]
    have h1 := G.heap.tile.mem hw
    have hh : b.has c w = true := by unfold Blk.has; simp; omega
    refine ⟨?_, hh⟩
    unfold Dev.objOf
    rw [if_neg (by rw [hh]; simp; omega), if_neg (by rw [hlw, h1.2.2]; unfold osz at h1; simp; omega), hlw]
    unfold osz orf
    simp
  rw [if_neg (by rw [hob.2]; decide), if_neg (by rw [hob.1]; simp), hob.1]
  have hap := G.apart; have hus := G.hb.used; have hhi := G.hi_
  simp only
  rw [show ((osz m0 w - 1) + 1).toNat = (osz m0 w).toNat by congr 1; omega]
  -- there is room
  have hfit : S.free + osz m0 w ≤ hi := by
    have hnk : w ∉ S.went.map Prod.fst := fun hx => by
      obtain ⟨q, hq, e⟩ := List.mem_map.1 hx
      have := tr_of h.nd hq
      unfold tr at this
      rw [e, hmn] at this
      have h1 := (h.offs.mem hq).1
      simp at this; omega
    have h2 := h.offs.sum
    have h3 := G.heap.tile.sum
    have h4 := sumI_sub (f := osz m0) (l := w :: S.went.map Prod.fst) (l' := L) (fun x => by have := osz_b m0 x; omega) (List.nodup_cons.2 ⟨hnk, h.nd⟩) (fun x hx => by
      rcases List.mem_cons.1 hx with rfl | hx
      · exact hw
      · obtain ⟨q, hq, rfl⟩ := List.mem_map.1 hx; exact h.inL q hq)
    unfold Blk.place at h3
    simp only [sumI, List.map_cons, List.sum_cons] at h2 h3 h4
    omega
  refine (hJ.cpy (osz m0 w).toNat 0 S.free w s hs (Int.le_refl 0) (by omega) (by omega) (by omega) h.u).bind fun _ s' ⟨hs', e'⟩ => ?_
  have hk0 : w ∉ S.went.map Prod.fst := mget_none hmn
  have e1 : mset S.went w S.free = S.went ++ [(w, S.free)] := mset_none hmn
  have hmem : ∀ j, s'.load j = if S.free ≤ j ∧ j < S.free + osz m0 w then m0 (w + (j - S.free)) else s.load j := fun j => by
    rw [e']
    show (if S.free + 0 ≤ j ∧ j < S.free + 0 + ↑(osz m0 w).toNat then s.load (w + (j - S.free)) else s.load j) = _
    by_cases hj : S.free ≤ j ∧ j < S.free + osz m0 w
    · rw [if_pos (by omega), if_pos hj, h.old G hw (by omega) (by omega)]
    · rw [if_neg (by omega), if_neg hj]
  have htr : ∀ x, x = 0 ∨ x ∈ S.went.map Prod.fst → tr (S.went ++ [(w, S.free)]) x = tr S.went x := fun x hx => by
    rcases hx with rfl | hx
    · rw [tr_not (h.zero G), tr_not]
      rw [List.map_append, List.mem_append]
      exact fun hx => hx.elim (h.zero G) (fun hx => by simp at hx; omega)
    · exact tr_app hx
  show J s' ∧ CI c b m0 L lo ws { S with free := S.free + (osz m0 w - 1 + 1), went := mset S.went w S.free } s'.load p ∧ _
  rw [show S.free + (osz m0 w - 1 + 1) = S.free + osz m0 w by omega, e1]
  refine ⟨hs', ⟨h.cc, h.bb, h.tt, ?_, fun q hq => ?_, h.offs.snoc, fun j hj => ?_, fun q hq => ?_, fun q hq j h0 h1 => ?_, fun q hq j h0 h1 h2 => ?_, fun q hq => ?_, fun x => ?_⟩, ?_, .inr (by simp), ⟨_, rfl⟩, rfl, rfl, rfl, by simp only; omega⟩
  · rw [List.map_append, List.nodup_append]
    exact ⟨h.nd, by simp, fun a ha b' hb' => by simp at hb'; subst hb'; intro e; subst e; exact hk0 ha⟩
  · rcases List.mem_append.1 hq with hq | hq
    · exact h.inL q hq
    · rw [List.mem_singleton.1 hq]; exact hw
  · simp only at hj
    rw [hmem, if_neg (by omega)]; exact h.out j (by omega)
  · rcases List.mem_append.1 hq with hq | hq
    · have := h.offs.mem hq; have := osz_b m0 q.1
      rw [hmem, if_neg (by omega)]; exact h.hd q hq
    · rw [List.mem_singleton.1 hq, hmem, if_pos (by simp only; omega)]; simp
  · rcases List.mem_append.1 hq with hq | hq
    · have := h.offs.mem hq
      rw [hmem, if_neg (by omega), h.cp q hq j h0 h1]
      by_cases hc : j < orf m0 q.1 ∧ q.2 + 1 + j < p
      · rw [if_pos hc, if_pos hc]; exact (htr _ (h.dn q hq j h0 hc.1 hc.2)).symm
      · rw [if_neg hc, if_neg hc]
    · rw [List.mem_singleton.1 hq] at h1 ⊢
      simp only at h1 ⊢
      rw [hmem, if_pos (by omega), if_neg (by omega)]
      congr 1; omega
  · rcases List.mem_append.1 hq with hq | hq
    · rcases h.dn q hq j h0 h1 h2 with hz | hz
      · exact .inl hz
      · exact .inr (by rw [List.map_append]; exact List.mem_append_left _ hz)
    · rw [List.mem_singleton.1 hq] at h2; simp only at h2; omega
  · rcases List.mem_append.1 hq with hq | hq
    · exact h.rc q hq
    · rw [List.mem_singleton.1 hq]; exact hr (by omega)
  · rw [hmem]; split
    · exact G.u _
    · exact h.u x
  · have := tr_of (W := S.went ++ [(w, S.free)]) (by
      rw [List.map_append, List.nodup_append]
      exact ⟨h.nd, by simp, fun a ha b' hb' => by simp at hb'; subst hb'; intro e; subst e; exact hk0 ha⟩) (q := (w, S.free)) (by simp)
    exact this.symm
end
end Go.Proofs.YtbfheafpecgphaaGreat
namespace Go.Proofs.YtbfheafpecgphaaGreat
open Go
section
variable {c : Cfg} {b : Blk} {m0 m : Int → Int} {L ws : List Int} {lo hi p : Int} {S : ColS} {J : Dev → Prop} {s : Dev}
theorem CI.names (G : GcH c b m0 L lo hi) (h : CI c b m0 L lo ws S m p) {q : Int × Int} (hq : q ∈ S.went) {i : Int} (h0 : 0 ≤ i) (h1 : i < orf m0 q.1) : m0 (q.1 + 1 + i) = 0 ∨ m0 (q.1 + 1 + i) ∈ L := G.heap.names _ (h.inL q hq) i h0 h1
theorem CI.tr_b (G : GcH c b m0 L lo hi) (h : CI c b m0 L lo ws S m p) (w : Int) : 0 ≤ tr S.went w ∧ tr S.went w < 18446744073709551616 := by
  by_cases hw : w ∈ S.went.map Prod.fst
  · obtain ⟨q, hq, rfl⟩ := List.mem_map.1 hw
    rw [tr_of h.nd hq]
    have h1 := h.offs.mem hq
    have h2 := h.free G; have h3 := G.apart; have := osz_b m0 q.1
    omega
  · rw [tr_not hw]; omega
theorem CI.field (G : GcH c b m0 L lo hi) (h : CI c b m0 L lo ws S m p) {q : Int × Int} (hq : q ∈ S.went) {i : Int} (h0 : 0 ≤ i) (h1 : i < orf m0 q.1) (hp : p = q.2 + 1 + i) (hn : m0 (q.1 + 1 + i) = 0 ∨ m0 (q.1 + 1 + i) ∈ S.went.map Prod.fst) :
    CI c b m0 L lo ws S (updI m p (tr S.went (m0 (q.1 + 1 + i)))) (p + 1) := by
  have hz := osz_b m0 q.1
  have hm := h.offs.mem hq
  have hsame : ∀ q' ∈ S.went, ∀ j, 0 ≤ j → j + 1 < osz m0 q'.1 → q'.2 + 1 + j = p → q' = q ∧ j = i := fun q' hq' j g0 g1 e => by
    have : q'.2 = q.2 := by
      rcases Int.lt_trichotomy q'.2 q.2 with hl | he | hl
      · have := h.offs.disj hq' hq hl; omega
      · exact he
      · have := h.offs.disj hq hq' hl; omega
    exact ⟨h.offs.inj hq' hq this, by omega⟩
  refine ⟨h.cc, h.bb, h.tt, h.nd, h.inL, h.offs, fun j hj => ?_, fun q' hq' => ?_, fun q' hq' j g0 g1 => ?_, fun q' hq' j g0 g1 g2 => ?_, h.rc, fun x => ?_⟩
  · unfold updI; rw [if_neg (by omega)]; exact h.out j hj
  · unfold updI
    have hz' := osz_b m0 q'.1
    rw [if_neg]
    · exact h.hd q' hq'
    · intro e
      rcases Int.lt_trichotomy q'.2 q.2 with hl | he | hl
      · have := h.offs.disj hq' hq hl; omega
      · omega
      · have := h.offs.disj hq hq' hl; omega
  · unfold updI
    by_cases e : q'.2 + 1 + j = p
    · obtain ⟨rfl, rfl⟩ := hsame q' hq' j g0 g1 e
      rw [if_pos e, if_pos ⟨h1, by omega⟩]
    · rw [if_neg e, h.cp q' hq' j g0 g1]
      by_cases hc : j < orf m0 q'.1 ∧ q'.2 + 1 + j < p
      · rw [if_pos hc, if_pos ⟨hc.1, by omega⟩]
      · rw [if_neg hc, if_neg (fun hx => hc ⟨hx.1, by omega⟩)]
  · by_cases e : q'.2 + 1 + j = p
    · obtain ⟨rfl, rfl⟩ := hsame q' hq' j g0 (by have := osz_b m0 q'.1; omega) e
      exact hn
    · exact h.dn q' hq' j g0 g1 (by omega)
  · unfold updI; split
    · exact h.tr_b G _
    · exact h.u x
theorem CI.skip (h : CI c b m0 L lo ws S m p) {q : Int × Int} (hq : q ∈ S.went) (hp : p = q.2 + 1 + orf m0 q.1) : CI c b m0 L lo ws S m (q.2 + osz m0 q.1) := by
  have hz := osz_b m0 q.1
  have key : ∀ q' ∈ S.went, ∀ j, 0 ≤ j → j < orf m0 q'.1 → (q'.2 + 1 + j < p ↔ q'.2 + 1 + j < q.2 + osz m0 q.1) := fun q' hq' j g0 g1 => by
    have hz' := osz_b m0 q'.1
    rcases Int.lt_trichotomy q'.2 q.2 with hl | he | hl
    · have := h.offs.disj hq' hq hl; omega
    · have := h.offs.inj hq' hq he; subst this; omega
    · have := h.offs.disj hq hq' hl; omega
  refine ⟨h.cc, h.bb, h.tt, h.nd, h.inL, h.offs, h.out, h.hd, fun q' hq' j g0 g1 => ?_, fun q' hq' j g0 g1 g2 => ?_, h.rc, h.u⟩
  · rw [h.cp q' hq' j g0 g1]
    by_cases hc : j < orf m0 q'.1
    · have := key q' hq' j g0 hc
      by_cases hd : q'.2 + 1 + j < p
      · rw [if_pos ⟨hc, hd⟩, if_pos ⟨hc, this.1 hd⟩]
      · rw [if_neg (fun x => hd x.2), if_neg (fun x => hd (this.2 x.2))]
    · rw [if_neg (fun x => hc x.1), if_neg (fun x => hc x.1)]
  · exact h.dn q' hq' j g0 g1 ((key q' hq' j g0 g1).2 g2)
theorem updI_same {m : Int → Int} {p v : Int} (h : m p = v) : updI m p v = m := by
  funext j; unfold updI; split
  · rename_i e; rw [e, h]
  · rfl
theorem CI.refs (G : GcH c b m0 L lo hi) (hJ : Stab lo hi J) (k0 : Int) : ∀ (n : Nat) (i : Int) (S : ColS) (s : Dev), 0 ≤ i → (n : Int) + i = orf m0 k0 → CI c b m0 L lo ws S s.load (S.scan + 1 + i) → (k0, S.scan) ∈ S.went → J s →
    OutP (refsN n i S s) (fun S' s' => J s' ∧ CI c b m0 L lo ws S' s'.load (S'.scan + 1 + orf m0 k0) ∧ S'.scan = S.scan ∧ S'.todo = S.todo ∧ S'.done = S.done ∧ (∃ V, S'.went = S.went ++ V) ∧ S.free ≤ S'.free) (OffJ J)
  | 0, i, S, s, hi0, hn, h, hq, hs => by
    have e : i = orf m0 k0 := by simpa using hn
    rw [e] at h
    exact ⟨hs, h, rfl, rfl, rfl, ⟨[], by simp⟩, Int.le_refl _⟩
  | n + 1, i, S, s, hi0, hn, h, hq, hs => by
    have hz := osz_b m0 k0
    have hi1 : i < orf m0 k0 := by omega
    have hm := h.offs.mem hq
    have hfr := h.free G; have hap := G.apart
    have hx : s.load (S.scan + 1 + i) = m0 (k0 + 1 + i) := by
      have := h.cp _ hq i hi0 (by simp only; omega)
      rw [if_neg (by simp only; omega)] at this
      exact this
    have hin := h.names G hq hi0 hi1
    simp only at hin
    rw [refsN_succ, hx]
    by_cases h0 : m0 (k0 + 1 + i) = 0
    · rw [if_pos h0]
      have h1 := h.field G hq hi0 hi1 rfl (.inl h0)
      simp only at h1
      rw [updI_same (by rw [hx, h0, tr_not (h.zero G)])] at h1
      have := CI.refs G hJ k0 n (i + 1) S s (by omega) (by omega) (by rw [show S.scan + 1 + (i + 1) = S.scan + 1 + i + 1 by omega]; exact h1) hq hs
      exact this
    · rw [if_neg h0]
      refine (h.copied G hJ hs hin (fun _ => .name (h.rc _ hq) hi0 hi1 h0) (by simp only at hm; omega)).bind fun r s1 ⟨hs1, g1, g2, g3, ⟨V, g4⟩, g5, g6, g7, g8⟩ => ?_
      have hq1 : (k0, S.scan) ∈ r.2.went := by rw [g4]; exact List.mem_append_left _ hq
      have hb := g1.tr_b G (m0 (k0 + 1 + i))
      simp only at hm
      refine (hJ.store hs1 (i := S.scan + 1 + i) (v := r.1) (by omega) (by omega) (by rw [g2]; exact hb.1) (by rw [g2]; exact hb.2)).bind fun a s2 ⟨_, hs2, e2⟩ => ?_
      have h2 := g1.field G hq1 hi0 hi1 rfl g3
      simp only at h2
      rw [← g2] at h2
      have := CI.refs G hJ k0 n (i + 1) r.2 s2 (by omega) (by omega) (by rw [g5, e2, show S.scan + 1 + (i + 1) = S.scan + 1 + i + 1 by omega]; exact h2) (by rw [g5]; exact hq1) hs2
      refine this.mono (fun S' s' ⟨k1, k2, k3, k4, k5, ⟨V', k6⟩, k7⟩ => ⟨k1, k2, k3.trans g5, k4.trans g6, k5.trans g7, ⟨V ++ V', by rw [k6, g4, List.append_assoc]⟩, by omega⟩) (fun _ h => h)
structure SI (c : Cfg) (b : Blk) (m0 : Int → Int) (L : List Int) (lo : Int) (ws : List Int) (S : ColS) (s : Dev) : Prop where
  ci : CI c b m0 L lo ws S s.load S.scan
  bd : ∃ W V, S.went = W ++ V ∧ Offs m0 lo W S.scan
  td : ∃ pre, ws = pre ++ S.todo ∧ ∀ w ∈ pre, w = 0 ∨ w ∈ S.went.map Prod.fst
  dn : S.done = false
theorem SI.scan (h : SI c b m0 L lo ws S s) : lo ≤ S.scan ∧ S.scan ≤ S.free := by
  obtain ⟨W, V, e, h1⟩ := h.bd
  have h2 := h.ci.offs
  rw [e] at h2
  exact ⟨h1.le, (h1.app h2).le⟩
def Dur (lo hi : Int) (s : Dev) : Prop := ∀ i : Nat, lo ≤ i → i < hi → s.kept i = s.now i ∧ s.q (i / 8) = none
structure DI (c : Cfg) (b : Blk) (m0 : Int → Int) (L : List Int) (lo : Int) (ws : List Int) (S : ColS) (s : Dev) : Prop where
  ci : CI c b m0 L lo ws S s.load S.free
  ws : ∀ w ∈ ws, w = 0 ∨ w ∈ S.went.map Prod.fst
  dur : Dur lo S.free s
theorem Stab.keepN (hJ : Stab lo hi J) : ∀ (f : Nat) (i e : Int) (s : Dev), lo ≤ i → e ≤ hi → i % 8 = 0 → e - i < f → J s → (∀ k : Nat, lo ≤ k → (k : Int) < i → s.q (k / 8) = some fun x => s.now (k / 8 * 8 + x)) →
    OutP (keepN f i e s) (fun _ s' => J s' ∧ s'.load = s.load ∧ s'.now = s.now ∧ ∀ k : Nat, lo ≤ k → (k : Int) < e → s'.q (k / 8) = some fun x => s'.now (k / 8 * 8 + x)) (OffJ J)
  | 0, i, e, s, _, _, _, hf, hs, hq => by
    refine ⟨hs, rfl, rfl, fun k h1 h2 => hq k h1 (by omega)⟩
  | f + 1, i, e, s, h1, h2, h3, hf, hs, hq => by
    rw [keepN_succ]
    by_cases h4 : i < e
    · rw [if_pos h4]
      have h0 := (hJ.n s hs).1
      refine (hJ.flush hs (i := i) h1 (by omega)).bind fun _ s1 ⟨_, hs1, e1⟩ => ?_
      subst e1
      refine (hJ.keepN f (i + 8) e _ (by omega) h2 (by omega) (by omega) hs1 fun k k1 k2 => ?_).mono (fun _ s' ⟨g1, g2, g3, g4⟩ => ⟨g1, g2, g3, g4⟩) (fun _ h => h)
      show upd s.q (i.toNat / 8) (some fun x => s.now (i.toNat / 8 * 8 + x)) (k / 8) = some fun x => s.now (k / 8 * 8 + x)
      unfold upd
      by_cases hk : k / 8 = i.toNat / 8
      · rw [if_pos hk, hk]
      · rw [if_neg hk]; exact hq k k1 (by omega)
    · rw [if_neg h4]
      exact ⟨hs, rfl, rfl, fun k k1 k2 => hq k k1 (by omega)⟩
theorem lo_line {c : Cfg} {k : Int} : c.frm k % 8 = 0 := by
  unfold Cfg.frm linesI
  have : k * ((c.space + 7) / 8 * 8) = (k * ((c.space + 7) / 8)) * 8 := by rw [Int.mul_assoc]
  rw [this]; omega
theorem SI.keep (G : GcH c b m0 L lo hi) (hJ : Stab lo hi J) (h : SI c b m0 L lo ws S s) (hs : J s) (hc : S.scan = S.free) (ht : S.todo = []) :
    OutP (S.keep s) (fun _ s' => J s' ∧ DI c b m0 L lo ws { S with done := true } s') (OffJ J) := by
  have hfr := h.ci.free G
  have hto := h.ci.tt
  have hci := h.ci
  rw [hc] at hci
  have hws : ∀ w ∈ ws, w = 0 ∨ w ∈ S.went.map Prod.fst := by
    obtain ⟨pre, e, h1⟩ := h.td
    rw [ht, List.append_nil] at e
    rw [e]; exact h1
  unfold ColS.keep
  refine (hJ.keepN _ S.to_ S.free s (by omega) hfr.2.2 (by rw [hto, G.lo_]; exact lo_line) (by omega) hs (fun k k1 k2 => by omega)).bind fun _ s1 ⟨hs1, e1, e2, hq⟩ => ?_
  by_cases hlt : S.to_ < S.free
  · rw [if_pos hlt]
    refine (hJ.fence hs1).mono (fun _ s2 ⟨hs2, e3⟩ => ⟨hs2, ?_⟩) (fun _ h => h)
    subst e3
    have el : s1.up.fe.load = s.load := e1 ▸ rfl
    refine ⟨?_, hws, fun i h1 h2 => ⟨?_, rfl⟩⟩
    · rw [el]; exact ⟨hci.cc, hci.bb, hci.tt, hci.nd, hci.inL, hci.offs, hci.out, hci.hd, hci.cp, hci.dn, hci.rc, hci.u⟩
    · show fkept s1.kept s1.q i = s1.now i
      unfold fkept
      rw [hq i h1 h2]
      show s1.now (i / 8 * 8 + i % 8) = s1.now i
      congr 1; omega
  · rw [if_neg hlt]
    refine ⟨hs1, ?_, hws, fun i h1 h2 => ?_⟩
    · rw [e1]; exact ⟨hci.cc, hci.bb, hci.tt, hci.nd, hci.inL, hci.offs, hci.out, hci.hd, hci.cp, hci.dn, hci.rc, hci.u⟩
    · simp only at h2; omega
theorem SI.step (G : GcH c b m0 L lo hi) (hJ : Stab lo hi J) (h : SI c b m0 L lo ws S s) (hs : J s) (hw : ∀ w ∈ ws, w = 0 ∨ w ∈ L) :
    OutP (S.step s) (fun r s' => J s' ∧ if r.1 = true then DI c b m0 L lo ws r.2 s' ∧ r.2.done = true else SI c b m0 L lo ws r.2 s') (OffJ J) := by
  unfold ColS.step
  rw [if_neg (by rw [h.dn]; decide)]
  cases ht : S.todo with
  | cons w t =>
    simp only
    obtain ⟨pre, e, h1⟩ := h.td
    rw [ht] at e
    have hwm : w ∈ ws := by rw [e]; simp
    refine (h.ci.copied G hJ hs (hw w hwm) (fun hz => .word hwm hz) h.scan.2).bind fun r s' ⟨k1, k2, k3, k4, ⟨V, k5⟩, k6, k7, k8, k9⟩ => ?_
    refine ⟨k1, ?_⟩
    rw [if_neg (by simp)]
    refine ⟨?_, ?_, ⟨pre ++ [w], by rw [e]; simp, fun x hx => ?_⟩, k8.trans h.dn⟩
    · have := k2; rw [← k6] at this; exact ⟨this.cc, this.bb, this.tt, this.nd, this.inL, this.offs, this.out, this.hd, this.cp, this.dn, this.rc, this.u⟩
    · obtain ⟨W, V', e2, h2⟩ := h.bd
      exact ⟨W, V' ++ V, by simp only; rw [k5, e2, List.append_assoc], by simp only; rw [k6]; exact h2⟩
    · rcases List.mem_append.1 hx with hx | hx
      · rcases h1 x hx with hz | hz
        · exact .inl hz
        · exact .inr (by simp only; rw [k5, List.map_append]; exact List.mem_append_left _ hz)
      · rw [List.mem_singleton.1 hx]; exact k4
  | nil =>
    simp only
    have hsc := h.scan
    by_cases hlt : S.scan < S.free
    · rw [if_pos hlt]
      obtain ⟨W, V, e, h1⟩ := h.bd
      have h2 := h.ci.offs
      rw [e] at h2
      have h3 := h1.app h2
      cases V with
      | nil => exact absurd h3 (by show ¬ S.scan = S.free; omega)
      | cons q V =>
        obtain ⟨k0, v0⟩ := q
        obtain ⟨hv, h4⟩ := h3
        simp only at hv h4
        subst hv
        have hq : (k0, S.scan) ∈ S.went := by rw [e]; simp
        have hhd := h.ci.hd _ hq
        simp only at hhd
        have hz := osz_b m0 k0
        have er : (unp (s.load S.scan)).2.1 = orf m0 k0 := by rw [hhd]; rfl
        have ez : (unp (s.load S.scan)).1 + 1 = osz m0 k0 := by rw [hhd]; rfl
        rw [er, ez]
        have hci : CI c b m0 L lo ws S s.load (S.scan + 1 + 0) := by
          have := h.ci
          refine ⟨this.cc, this.bb, this.tt, this.nd, this.inL, this.offs, this.out, this.hd, fun q' hq' j g0 g1 => ?_, fun q' hq' j g0 g1 g2 => ?_, this.rc, this.u⟩
          · rw [this.cp q' hq' j g0 g1]
            have hz' := osz_b m0 q'.1
            by_cases hc : j < orf m0 q'.1 ∧ q'.2 + 1 + j < S.scan
            · rw [if_pos hc, if_pos ⟨hc.1, by omega⟩]
            · rw [if_neg hc, if_neg (fun hx => hc ⟨hx.1, by
                rcases Int.lt_trichotomy q'.2 S.scan with hl | he | hl
                · have := this.offs.disj hq' hq hl; omega
                · omega
                · omega⟩)]
          · refine this.dn q' hq' j g0 g1 ?_
            have hz' := osz_b m0 q'.1
            rcases Int.lt_trichotomy q'.2 S.scan with hl | he | hl
            · have := this.offs.disj hq' hq hl; omega
            · omega
            · omega
        refine (CI.refs G hJ k0 (orf m0 k0).toNat 0 S s (Int.le_refl 0) (by omega) hci hq hs).bind fun S' s' ⟨k1, k2, k3, k4, k5, ⟨V', k6⟩, k7⟩ => ?_
        refine ⟨k1, ?_⟩
        rw [if_neg (by simp)]
        have hq' : (k0, S'.scan) ∈ S'.went := by rw [k3, k6]; exact List.mem_append_left _ hq
        have k8 := k2.skip hq' rfl
        simp only at k8
        refine ⟨⟨k8.cc, k8.bb, k8.tt, k8.nd, k8.inL, k8.offs, k8.out, k8.hd, k8.cp, k8.dn, k8.rc, k8.u⟩, ⟨W ++ [(k0, S.scan)], V ++ V', by simp only; rw [k6, e]; simp, by simp only; rw [k3]; exact h1.snoc⟩, ?_, k5.trans h.dn⟩
        obtain ⟨pre, e5, h5⟩ := h.td
        refine ⟨pre, by simp only; rw [k4]; exact e5, fun x hx => ?_⟩
        rcases h5 x hx with hz | hz
        · exact .inl hz
        · exact .inr (by simp only; rw [k6, List.map_append]; exact List.mem_append_left _ hz)
    · rw [if_neg hlt]
      refine (h.keep G hJ hs (by omega) ht).bind fun _ s' ⟨k1, k2⟩ => ?_
      rw [ht] at k2
      exact ⟨k1, by rw [if_pos rfl]; exact ⟨k2, rfl⟩⟩
theorem SI.run (G : GcH c b m0 L lo hi) (hJ : Stab lo hi J) (hJu : ∀ s, J s → U64 s) (hw : ∀ w ∈ ws, w = 0 ∨ w ∈ L) : ∀ (f : Nat) (S : ColS) (s : Dev), SI c b m0 L lo ws S s → J s → ColW S → S.meas < f →
    OutP (runN f S s) (fun S' s' => J s' ∧ DI c b m0 L lo ws S' s' ∧ S'.done = true) (OffJ J)
  | 0, S, s, _, _, _, hf => absurd hf (Nat.not_lt_zero _)
  | f + 1, S, s, h, hs, hW, hf => by
    rw [runN_succ]
    have h1 := h.step G hJ hs hw
    cases e : S.step s with
    | off s' => rw [e] at h1; exact h1
    | ok r s' =>
      rw [e] at h1
      obtain ⟨g1, g2⟩ := h1
      have h2 := step_w hW (hJu s hs) e
      show OutP (if r.1 = true then .ok r.2 s' else runN f r.2 s') _ _
      by_cases hr : r.1 = true
      · rw [if_pos hr] at g2 ⊢; exact ⟨g1, g2⟩
      · rw [if_neg hr] at g2 ⊢
        have h3 := h2.2.2.2.2.2.2.2 (by simpa using hr)
        exact SI.run G hJ hJu hw f r.2 s' g2 g1 h2.1 (by omega)
end
end Go.Proofs.YtbfheafpecgphaaGreat
namespace Go.Proofs.YtbfheafpecgphaaGreat
open Go
section
variable {c : Cfg} {b : Blk} {m0 m : Int → Int} {L ws : List Int} {lo hi p : Int} {S : ColS} {J : Dev → Prop} {s : Dev}
theorem si_new {bd : Nat} (G : GcH c b m0 L lo hi) (hm : s.load = m0) (ws : List Int) : SI c b m0 L lo ws (newCol bd c b ws) s := by
  have h := G.lo_
  refine ⟨⟨rfl, rfl, h.symm, List.nodup_nil, fun _ h => (by cases h), ?_, fun j _ => by rw [hm], fun _ h => (by cases h), fun _ h => (by cases h), fun _ h => (by cases h), fun _ h => (by cases h), fun x => by rw [hm]; exact G.u x⟩, ⟨[], [], rfl, ?_⟩, ⟨[], rfl, fun _ h => (by cases h)⟩, rfl⟩
  · exact h
  · exact h
theorem DI.keys (h : DI c b m0 L lo ws S s) {k : Int} : k ∈ S.went.map Prod.fst ↔ Rch m0 ws k := by
  constructor
  · intro hk
    obtain ⟨q, hq, rfl⟩ := List.mem_map.1 hk
    exact h.ci.rc q hq
  · intro r
    induction r with
    | word h1 h2 => exact (h.ws _ h1).resolve_left h2
    | name _ h1 h2 h3 ih =>
      obtain ⟨q, hq, e⟩ := List.mem_map.1 ih
      subst e
      have := h.ci.offs.mem hq
      have := osz_b m0 q.1
      exact (h.ci.dn q hq _ h1 h2 (by omega)).resolve_left h3
theorem DI.head (h : DI c b m0 L lo ws S s) {q : Int × Int} (hq : q ∈ S.went) : osz s.load q.2 = osz m0 q.1 ∧ orf s.load q.2 = orf m0 q.1 ∧ s.load q.2 = m0 q.1 := by
  have := h.ci.hd q hq
  exact ⟨by unfold osz; rw [this], by unfold orf; rw [this], this⟩
theorem DI.fld (h : DI c b m0 L lo ws S s) {q : Int × Int} (hq : q ∈ S.went) {j : Int} (h0 : 0 ≤ j) (h1 : j + 1 < osz m0 q.1) : s.load (q.2 + 1 + j) = if j < orf m0 q.1 then tr S.went (m0 (q.1 + 1 + j)) else m0 (q.1 + 1 + j) := by
  have h2 := h.ci.offs.mem hq
  rw [h.ci.cp q hq j h0 h1]
  by_cases hj : j < orf m0 q.1
  · rw [if_pos ⟨hj, by omega⟩, if_pos hj]
  · rw [if_neg (fun x => hj x.1), if_neg hj]
theorem DI.trm (h : DI c b m0 L lo ws S s) {w : Int} (hw : w ∈ S.went.map Prod.fst) : tr S.went w ∈ S.went.map Prod.snd ∧ (w, tr S.went w) ∈ S.went := by
  obtain ⟨q, hq, rfl⟩ := List.mem_map.1 hw
  rw [tr_of h.ci.nd hq]
  exact ⟨List.mem_map_of_mem hq, hq⟩
theorem DI.name (h : DI c b m0 L lo ws S s) {q : Int × Int} (hq : q ∈ S.went) {j : Int} (h0 : 0 ≤ j) (h1 : j < orf m0 q.1) : m0 (q.1 + 1 + j) = 0 ∨ m0 (q.1 + 1 + j) ∈ S.went.map Prod.fst := by
  have := h.ci.offs.mem hq
  have := osz_b m0 q.1
  exact h.ci.dn q hq j h0 h1 (by omega)
theorem DI.block (G : GcH c b m0 L lo hi) (h : DI c b m0 L lo ws S s) : S.block = ⟨1 - b.act, S.free - lo, b.rts.map (tr S.went)⟩ := by
  unfold ColS.block
  rw [h.ci.bb, h.ci.tt]; rfl
theorem DI.heap (G : GcH c b m0 L lo hi) (h : DI c b m0 L lo ws S s) (hr : ∀ w ∈ b.rts, w ∈ ws) {m' : Int → Int} (hm : ∀ j, lo ≤ j → j < S.free → m' j = s.load j) : HeapW c S.block m' (S.went.map Prod.snd) := by
  have hin : ∀ q ∈ S.went, ∀ j, 0 ≤ j → j < osz m0 q.1 → m' (q.2 + j) = s.load (q.2 + j) := fun q hq j h0 h1 => by
    have := h.ci.offs.mem hq
    exact hm _ (by omega) (by omega)
  have h0 : ∀ q ∈ S.went, m' q.2 = m0 q.1 := fun q hq => by
    have := hin q hq 0 (Int.le_refl 0) (by have := osz_b m0 q.1; omega)
    rw [Int.add_zero] at this
    rw [this]; exact h.ci.hd q hq
  rw [h.block G]
  refine ⟨?_, fun k hk i g0 g1 => ?_, fun w hw => ?_⟩
  · have := h.ci.offs.tile h0 (fun q hq => (G.heap.tile.mem (h.ci.inL q hq)).2.2)
    unfold Blk.place
    simp only
    rw [← G.lo_, Int.add_zero, show lo + (S.free - lo) = S.free by omega]
    exact this
  · obtain ⟨q, hq, rfl⟩ := List.mem_map.1 hk
    have e : orf m' q.2 = orf m0 q.1 := by unfold orf; rw [h0 q hq]
    rw [e] at g1
    have hz := osz_b m0 q.1
    have e2 := hin q hq (1 + i) (by omega) (by omega)
    rw [← Int.add_assoc] at e2
    rw [e2, h.fld hq g0 (by omega), if_pos g1]
    rcases h.name hq g0 g1 with hz | hz
    · rw [hz, tr_not (h.ci.zero G)]; exact .inl rfl
    · exact .inr (h.trm hz).1
  · obtain ⟨u, hu, rfl⟩ := List.mem_map.1 hw
    rcases h.ws u (hr u hu) with hz | hz
    · rw [hz, tr_not (h.ci.zero G)]; exact .inl rfl
    · exact .inr (h.trm hz).1
theorem DI.used (G : GcH c b m0 L lo hi) (h : DI c b m0 L lo ws S s) : S.block.used = sumI (osz m0) (S.went.map Prod.fst) ∧ 0 ≤ S.block.used ∧ S.block.used ≤ b.used := by
  rw [h.block G]
  have h1 := h.ci.offs.sum
  have h2 := h.ci.free G
  simp only
  omega
theorem DI.all (G : GcH c b m0 L lo hi) (h : DI c b m0 L lo ws S s) {m' : Int → Int} (hm : ∀ j, lo ≤ j → j < S.free → m' j = s.load j) {k' : Int} (hk : k' ∈ S.went.map Prod.snd) : Rch m' (ws.map (tr S.went)) k' := by
  have key : ∀ k, Rch m0 ws k → Rch m' (ws.map (tr S.went)) (tr S.went k) := fun k r => by
    induction r with
    | word h1 h2 =>
      rename_i w
      refine .word (List.mem_map_of_mem h1) fun e => ?_
      have h3 := (h.trm ((h.ws _ h1).resolve_left h2)).2
      have h4 := (h.ci.offs.mem h3).1
      have := G.apart
      simp only at h4; omega
    | name r0 h1 h2 h3 ih =>
      rename_i k i
      have hk := h.keys.2 r0
      have hq := (h.trm hk).2
      have hz := osz_b m0 k
      have hf := h.fld hq h1 (by simp only; omega)
      simp only at hf
      rw [if_pos h2] at hf
      have hb := h.ci.offs.mem hq
      simp only at hb
      have e1 : m' (tr S.went k + 1 + i) = tr S.went (m0 (k + 1 + i)) := by rw [hm _ (by omega) (by omega), hf]
      have e2 : orf m' (tr S.went k) = orf m0 k := by unfold orf; rw [hm _ (by omega) (by omega), (h.head hq).2.2]
      rw [← e1]
      refine .name ih h1 (by rw [e2]; exact h2) ?_
      rw [e1]
      have hn := (h.name hq h1 h2).resolve_left h3
      have h4 := (h.ci.offs.mem (h.trm hn).2).1
      have := G.apart
      simp only at h4; omega
  obtain ⟨q, hq, rfl⟩ := List.mem_map.1 hk
  have := key q.1 (h.ci.rc q hq)
  rwa [tr_of h.ci.nd hq] at this
theorem DI.again (G : GcH c b m0 L lo hi) (h : DI c b m0 L lo ws S s) (ha : ∀ k ∈ L, Rch m0 ws k) : S.block.used = b.used := by
  rw [(h.used G).1]
  have h1 := G.heap.tile.sum
  unfold Blk.place at h1
  rw [sumI_perm (l' := L) (fun x => by have := osz_b m0 x; omega) h.ci.nd G.heap.tile.nodup (fun x => ⟨fun hx => by
    obtain ⟨q, hq, rfl⟩ := List.mem_map.1 hx; exact h.ci.inL q hq, fun hx => h.keys.2 (ha x hx)⟩)]
  omega
end
end Go.Proofs.YtbfheafpecgphaaGreat
namespace Go.Proofs.YtbfheafpecgphaaGreat
open Go
theorem pack_all : ((List.range 65).all fun w => (List.range (w + 1)).all fun r => unp (packI w r) == ((w : Int), (r : Int), true)) = true := by kernel_rfl
theorem unp_pack {w r : Int} (h : 0 ≤ r ∧ r ≤ w ∧ w ≤ 64) : unp (packI w r) = (w, r, true) := by
  have h1 := pack_all
  rw [List.all_eq_true] at h1
  have h2 := h1 w.toNat (List.mem_range.2 (by omega))
  rw [List.all_eq_true] at h2
  have h3 := h2 r.toNat (List.mem_range.2 (by omega))
  rw [beq_iff_eq, Int.toNat_of_nonneg (by omega), Int.toNat_of_nonneg (by omega)] at h3
  exact h3
theorem store_lim {s : Dev} {i v : Int} (hl : s.pow.lim < 0) (hh : s.has i = true) : s.store i v = .ok 0 (s.up.st i.toNat v) := by
  unfold Dev.store
  rw [if_neg (by rw [hh]; decide), if_neg]
  unfold Pow.out; simp; omega
theorem Tile.congr {m m' : Int → Int} : ∀ {L : List Int} {a e : Int}, Tile m a L e → (∀ k ∈ L, m' k = m k) → Tile m' a L e
  | [], _, _, h, _ => h
  | x :: t, a, e, h, hm => by
    obtain ⟨rfl, h2, h3⟩ := h
    have e1 := hm x (List.mem_cons_self ..)
    refine ⟨rfl, by rw [e1]; exact h2, ?_⟩
    rw [show osz m' x = osz m x by unfold osz; rw [e1]]
    exact h3.congr fun k hk => hm k (List.mem_cons_of_mem _ hk)
theorem Tile.snoc {m : Int → Int} : ∀ {L : List Int} {a e : Int}, Tile m a L e → (unp (m e)).2.2 = true → Tile m a (L ++ [e]) (e + osz m e)
  | [], a, e, h, h1 => by cases h; exact ⟨rfl, h1, rfl⟩
  | x :: t, a, e, h, h1 => ⟨h.1, h.2.1, h.2.2.snoc h1⟩
structure HL (c : Cfg) (N : Nat) (k0 : Nat → Int) (s : Dev) : Prop where
  u : U64 s
  lim : s.pow.lim < 0
  n : s.n = N
  kept : s.kept = k0
  q : s.q = fun _ => none
  low : ∀ x : Nat, (x : Int) < c.active → s.now x = k0 x
theorem HL.st {c : Cfg} {N : Nat} {k0 : Nat → Int} {s : Dev} (h : HL c N k0 s) {i : Nat} {v : Int} (hi : c.active ≤ i) (hv : 0 ≤ v ∧ v < 18446744073709551616) : HL c N k0 (s.up.st i v) :=
  ⟨fun x => by show 0 ≤ upd s.now i v x ∧ upd s.now i v x < _; unfold upd; split; exact hv; exact h.u x, h.lim, h.n, h.kept, h.q, fun x hx => by show upd s.now i v x = k0 x; unfold upd; rw [if_neg (by omega)]; exact h.low x hx⟩
theorem fill_heap {c : Cfg} {N : Nat} {k0 : Nat → Int} {a h0 : Int} (hh : 0 ≤ h0 ∧ h0 < 18446744073709551616) : ∀ (f : Nat) (i : Int) (s : Dev), HL c N k0 s → 0 ≤ i → 0 ≤ a ∧ c.active ≤ a → a + i + f ≤ N →
    ∃ s', fillM devOp a h0 f i s () = .ok ((a, 0), ()) s' ∧ HL c N k0 s' ∧ s'.load = fun j => if a + i ≤ j ∧ j < a + i + f then (if j = a then h0 else 0) else s.load j
  | 0, i, s, h, hi, ha, hf => ⟨s, rfl, h, by funext j; rw [if_neg (by omega)]⟩
  | f + 1, i, s, h, hi, ha, hf => by
    obtain ⟨v, hvd⟩ : ∃ v, v = if i = 0 then h0 else 0 := ⟨_, rfl⟩
    have hv : 0 ≤ v ∧ v < 18446744073709551616 := by rw [hvd]; split <;> first | exact hh | decide
    have hhas : s.has (a + i) = true := by unfold Dev.has; rw [h.n]; simp; omega
    obtain ⟨s', e1, e2, e3⟩ := fill_heap hh f (i + 1) (s.up.st (a + i).toNat v) (h.st (by omega) hv) (by omega) ha (by omega)
    refine ⟨s', ?_, e2, ?_⟩
    · unfold fillM
      have : devOp (a + i) (if i = 0 then h0 else 0) s () = .ok (0, ()) (s.up.st (a + i).toNat v) := by
        unfold devOp; rw [← hvd, store_lim h.lim hhas]; rfl
      rw [this]
      simp only [then_ok]
      rw [if_neg (by decide)]
      exact e1
    · funext j
      have e4 : s'.load j = if a + (i + 1) ≤ j ∧ j < a + (i + 1) + f then (if j = a then h0 else 0) else updI s.load (a + i) v j := by
        rw [e3, ← st_load hhas]
      rw [e4]
      unfold updI
      by_cases hj : j = a + i
      · subst hj
        rw [if_neg (by omega), if_pos rfl, if_pos (by omega), hvd]
        by_cases h0 : i = 0
        · rw [if_pos h0, if_pos (by omega)]
        · rw [if_neg h0, if_neg (by omega)]
      · by_cases hr : a + (i + 1) ≤ j ∧ j < a + (i + 1) + f
        · rw [if_pos hr, if_pos (c := a + i ≤ j ∧ j < a + i + ((f + 1 : Nat) : Int)) (by omega)]
        · rw [if_neg hr, if_neg hj, if_neg (by omega)]
structure Fi (c : Cfg) (N : Nat) (k0 : Nat → Int) (s : Dev) (out : List Int) (u : Int) : Prop where
  h : HL c N k0 s
  act : s.load c.active = 0
  used : s.load (c.active + 1) = u
  u0 : 0 ≤ u ∧ u ≤ c.space
  tile : Tile s.load (c.frm 0) out (c.frm 0 + u)
  names : ∀ k ∈ out, ∀ i, 0 ≤ i → i < orf s.load k → s.load (k + 1 + i) = 0 ∨ s.load (k + 1 + i) ∈ out
  roots : ∀ i : Nat, (i : Int) < c.roots → s.load (c.root i) = 0 ∨ s.load (c.root i) ∈ out
theorem Fi.block {c : Cfg} {N : Nat} {k0 : Nat → Int} {s : Dev} {out : List Int} {u : Int} (h : Fi c N k0 s out u) : s.block c = (⟨0, u, tab c.roots.toNat fun i => s.load (c.root i)⟩, 0) := by
  have := h.u0
  unfold Dev.block
  rw [h.act, h.used, if_neg (by omega)]
theorem Fi.heap {c : Cfg} {N : Nat} {k0 : Nat → Int} {s : Dev} {out : List Int} {u : Int} (h : Fi c N k0 s out u) : HeapW c (s.block c).1 s.load out := by
  rw [h.block]
  refine ⟨by unfold Blk.place; simp only; rw [Int.add_zero]; exact h.tile, h.names, fun w hw => ?_⟩
  simp only at hw
  obtain ⟨i, hi, rfl⟩ := List.mem_map.1 (show w ∈ (List.range c.roots.toNat).map fun (i : Nat) => s.load (c.root i) from hw)
  have := List.mem_range.1 hi
  exact h.roots i (by omega)
theorem Fi.st {c : Cfg} (hc : CfgW c) {N : Nat} {k0 : Nat → Int} {s : Dev} {out : List Int} {u : Int} (h : Fi c N k0 s out u) {i v : Int} (hh : s.has i = true) (hv : v = 0 ∨ v ∈ out) (hi : (∃ k ∈ out, ∃ j, 0 ≤ j ∧ j < orf s.load k ∧ i = k + 1 + j) ∨ ∃ r : Nat, (r : Int) < c.roots ∧ i = c.root r) : Fi c N k0 (s.up.st i.toNat v) out u := by
  have e := st_load (v := v) hh
  have hfb := frm_b hc (k := 0) (by omega)
  have hnh : ∀ k ∈ out, i ≠ k := fun k hk e => by
    have h1 := h.tile.mem hk
    rcases hi with ⟨k', hk', j, h2, h3, h4⟩ | ⟨r, h2, h3⟩
    · have hz := osz_b s.load k'
      rcases Int.lt_trichotomy k k' with hl | he | hl
      · omega
      · omega
      · have := h.tile.disj hk' hk hl; omega
    · simp only [Cfg.root] at h3; omega
  have hic : c.active + 2 ≤ i := by
    rcases hi with ⟨k', hk', j, h2, h3, h4⟩ | ⟨r, h2, h3⟩
    · have h1 := h.tile.mem hk'
      have := hc.r1; omega
    · simp only [Cfg.root] at h3; omega
  have hvb : 0 ≤ v ∧ v < 18446744073709551616 := by
    rcases hv with rfl | hv
    · decide
    · have h1 := h.tile.mem hv
      have := osz_b s.load v; have := h.u0
      omega
  have e0 : ∀ k, k ≠ i → (s.up.st i.toNat v).load k = s.load k := fun k hk => by rw [e]; unfold updI; rw [if_neg hk]
  have eo : ∀ k ∈ out, orf (s.up.st i.toNat v).load k = orf s.load k := fun k hk => by unfold orf; rw [e0 k (fun x => hnh k hk x.symm)]
  have hal := hc.act
  have hl1 := hc.l1
  have hr1 := hc.r1
  refine ⟨h.h.st (by omega) hvb, by rw [e0 _ (by omega)]; exact h.act, by rw [e0 _ (by omega)]; exact h.used, h.u0, h.tile.congr fun k hk => e0 k (fun x => hnh k hk x.symm), fun k hk j h1 h2 => ?_, fun r hr => ?_⟩
  · rw [eo k hk] at h2
    by_cases hx : k + 1 + j = i
    · rw [e, hx]; unfold updI; rw [if_pos rfl]; exact hv
    · rw [e0 _ hx]; exact h.names k hk j h1 h2
  · by_cases hx : c.root r = i
    · rw [e, hx]; unfold updI; rw [if_pos rfl]; exact hv
    · rw [e0 _ hx]; exact h.roots r hr
theorem frm0 {c : Cfg} (hc : CfgW c) {N : Nat} (hN : (N : Int) = c.words) : c.frm 0 + c.space ≤ N ∧ c.active + 2 + c.roots ≤ c.frm 0 ∧ 24 < c.active ∧ c.frm 0 + c.space ≤ 20000 := by
  have hfb := frm_b hc (k := 0) (by omega)
  have h1 := hc.act
  have := hc.s1; have := hc.r1; have := hc.l1
  omega
theorem Fi.alloc {c : Cfg} (hc : CfgW c) {N : Nat} (hN : (N : Int) = c.words) {k0 : Nat → Int} {s : Dev} {out : List Int} {u : Int} (h : Fi c N k0 s out u) {w r : Int} (hw : 0 ≤ r ∧ r ≤ w ∧ w ≤ 64) :
    ∃ x s', allocM devOp c w r s () = .ok (x, ()) s' ∧ ((x.2 ≠ 0 ∧ s' = s) ∨ (x.2 = 0 ∧ Fi c N k0 s' (out ++ [x.1]) (u + (w + 1)))) := by
  have hf0 := frm0 hc hN
  have hr1 := hc.r1
  have hu := h.u0
  unfold allocM
  have hk : chkH w r = 0 := by unfold chkH; rw [if_pos (by omega)]
  rw [if_neg (by rw [hk]; decide), h.block, if_neg (by simp)]
  simp only
  by_cases hroom : c.space - u < w + 1
  · rw [if_pos hroom]; exact ⟨_, _, rfl, .inl ⟨by decide, rfl⟩⟩
  rw [if_neg hroom]
  have hhas : s.has (c.active + 1) = true := by unfold Dev.has; rw [h.h.n]; simp; omega
  have hd : devOp (c.active + 1) (u + (w + 1)) s () = .ok (0, ()) (s.up.st (c.active + 1).toNat (u + (w + 1))) := by unfold devOp; rw [store_lim h.h.lim hhas]; rfl
  rw [hd]
  simp only [then_ok]
  rw [if_neg (by decide)]
  obtain ⟨s', e1, e2, e3⟩ := fill_heap (a := c.frm 0 + u) (packI_b w r) (w + 1).toNat 0 (s.up.st (c.active + 1).toNat (u + (w + 1))) (h.h.st (by omega) ⟨by omega, by omega⟩) (Int.le_refl 0) (by omega) (by omega)
  refine ⟨_, s', e1, .inr ⟨rfl, ?_⟩⟩
  rw [st_load hhas] at e3
  have hm : ∀ j, s'.load j = if c.frm 0 + u ≤ j ∧ j < c.frm 0 + u + (w + 1) then (if j = c.frm 0 + u then packI w r else 0) else if j = c.active + 1 then u + (w + 1) else s.load j := fun j => by
    rw [e3]
    show (if c.frm 0 + u + 0 ≤ j ∧ j < c.frm 0 + u + 0 + ↑(w + 1).toNat then _ else updI s.load (c.active + 1) (u + (w + 1)) j) = _
    by_cases hj : c.frm 0 + u ≤ j ∧ j < c.frm 0 + u + (w + 1)
    · rw [if_pos hj, if_pos (by omega)]
    · rw [if_neg hj, if_neg (by omega)]; rfl
  have hold : ∀ k ∈ out, ∀ j, 0 ≤ j → j < osz s.load k → s'.load (k + j) = s.load (k + j) := fun k hk j h0 h1 => by
    have := h.tile.mem hk
    rw [hm, if_neg (by omega), if_neg (by omega)]
  have hold0 : ∀ k ∈ out, s'.load k = s.load k := fun k hk => by
    have := hold k hk 0 (Int.le_refl 0) (by have := osz_b s.load k; omega)
    simpa using this
  have hnew : s'.load (c.frm 0 + u) = packI w r := by rw [hm, if_pos (by omega), if_pos rfl]
  have hun : unp (s'.load (c.frm 0 + u)) = (w, r, true) := by rw [hnew]; exact unp_pack hw
  simp only
  refine ⟨e2, by rw [hm, if_neg (by omega), if_neg (by omega)]; exact h.act, by rw [hm, if_neg (by omega), if_pos rfl], by omega, ?_, fun k hk i h0 h1 => ?_, fun i hi => ?_⟩
  · have h1 := (h.tile.congr hold0).snoc (by rw [hun])
    have h2 : osz s'.load (c.frm 0 + u) = w + 1 := by unfold osz; rw [hun]
    rw [h2, Int.add_assoc] at h1
    exact h1
  · rcases List.mem_append.1 hk with hk | hk
    · have e : orf s'.load k = orf s.load k := by unfold orf; rw [hold0 k hk]
      rw [e] at h1
      have hz := osz_b s.load k
      have := hold k hk (1 + i) (by omega) (by omega)
      rw [← Int.add_assoc] at this
      rw [this]
      rcases h.names k hk i h0 h1 with h2 | h2
      · exact .inl h2
      · exact .inr (List.mem_append_left _ h2)
    · rw [List.mem_singleton.1 hk] at h1 ⊢
      have : orf s'.load (c.frm 0 + u) = r := by unfold orf; rw [hun]
      rw [this] at h1
      left
      rw [hm, if_pos (by omega), if_neg (by omega)]
  · have : s'.load (c.root i) = s.load (c.root i) := by
      simp only [Cfg.root]
      rw [hm, if_neg (by omega), if_neg (by omega)]
    rw [this]
    rcases h.roots i hi with h2 | h2
    · exact .inl h2
    · exact .inr (List.mem_append_left _ h2)
theorem mkH_b {h : Int × Int} (h0 : 0 ≤ h.1) (h1 : 0 ≤ h.2) : 0 ≤ (mkH h).2 ∧ (mkH h).2 ≤ (mkH h).1 ∧ (mkH h).1 ≤ 64 := by
  unfold mkH
  simp only
  have a1 := Int.emod_nonneg h.2 (b := 9) (by decide)
  have a2 := Int.emod_lt_of_pos h.2 (b := 9) (by decide)
  have a3 := Int.emod_nonneg h.1 (b := h.2 % 9 + 1) (by omega)
  have a4 := Int.emod_lt_of_pos h.1 (b := h.2 % 9 + 1) (by omega)
  omega
theorem fi_fill {c : Cfg} (hc : CfgW c) {N : Nat} (hN : (N : Int) = c.words) {k0 : Nat → Int} : ∀ (hs : List (Int × Int)) (s : Dev) (acc : List Int) (u : Int), Fi c N k0 s acc u → (∀ h ∈ hs, (0 ≤ h.1 ∧ h.1 < 256) ∧ (0 ≤ h.2 ∧ h.2 < 256)) → ∃ out s' u', fillN c hs s acc = .ok out s' ∧ Fi c N k0 s' out u'
  | [], s, acc, u, h, _ => ⟨acc, s, u, rfl, h⟩
  | t :: hs, s, acc, u, h, hb => by
    have h1 := hb t (List.mem_cons_self ..)
    obtain ⟨x, s1, e1, hx⟩ := h.alloc hc hN (mkH_b h1.1.1 h1.2.1)
    have e2 : fillN c (t :: hs) s acc = fillN c hs s1 (if x.2 = 0 then acc ++ [x.1] else acc) := by
      show (allocM devOp c (mkH t).1 (mkH t).2 s ()).then _ = _
      rw [e1]; rfl
    rw [e2]
    rcases hx with ⟨h2, rfl⟩ | ⟨h2, h3⟩
    · rw [if_neg h2]; exact fi_fill hc hN hs s1 acc u h fun y hy => hb y (List.mem_cons_of_mem _ hy)
    · rw [if_pos h2]; exact fi_fill hc hN hs s1 _ _ h3 fun y hy => hb y (List.mem_cons_of_mem _ hy)
theorem pickL_in {l out : List Int} {k : Nat} : pickL l out 0 k = 0 ∨ pickL l out 0 k ∈ out := by
  unfold pickL
  split
  · exact .inl rfl
  · rename_i h
    rw [if_neg (by omega)]
    right
    have h0 : out.length ≠ 0 := by omega
    have h1 := Int.emod_nonneg (l.getD k 0) (b := (out.length : Int)) (by omega)
    have h2 := Int.emod_lt_of_pos (l.getD k 0) (b := (out.length : Int)) (by omega)
    rw [List.getD_eq_getElem?_getD, List.getElem?_eq_getElem (show (l.getD k 0 % (out.length : Int)).toNat < out.length by omega)]
    exact List.getElem_mem ..
theorem fi_refs {c : Cfg} (hc : CfgW c) {N : Nat} (hN : (N : Int) = c.words) {k0 : Nat → Int} {out : List Int} {u : Int} {f : Nat → Int} (hf : ∀ n, f n = 0 ∨ f n ∈ out) {a w : Int} (ha : a ∈ out) : ∀ (k n : Nat) (i : Int) (s : Dev), Fi c N k0 s out u → 0 ≤ i → i + k ≤ orf s.load a → w + 1 = osz s.load a →
    ∃ n' s', linkRefs f (w, orf s.load a, a) k n i s = .ok n' s' ∧ Fi c N k0 s' out u ∧ ∀ x ∈ out, s'.load x = s.load x
  | 0, n, i, s, h, _, _, _ => ⟨n, s, rfl, h, fun _ _ => rfl⟩
  | k + 1, n, i, s, h, hi, hk, hw => by
    have hm := h.tile.mem ha
    have hz := osz_b s.load a
    have hf0 := frm0 hc hN
    have hr1 := hc.r1
    have hu := h.u0
    have hhas : s.has (a + 1 + i) = true := by unfold Dev.has; rw [h.h.n]; simp; omega
    have h1 := h.st hc hhas (hf n) (.inl ⟨a, ha, i, hi, by omega, rfl⟩)
    have hld : ∀ x ∈ out, (s.up.st (a + 1 + i).toNat (f n)).load x = s.load x := fun x hx => by
      rw [st_load hhas]; unfold updI
      rw [if_neg]
      intro e
      have hmx := h.tile.mem hx
      rcases Int.lt_trichotomy x a with hl | he | hl
      · omega
      · omega
      · have := h.tile.disj ha hx hl; omega
    have eo : orf (s.up.st (a + 1 + i).toNat (f n)).load a = orf s.load a := by unfold orf; rw [hld a ha]
    have ez : osz (s.up.st (a + 1 + i).toNat (f n)).load a = osz s.load a := by unfold osz; rw [hld a ha]
    obtain ⟨n', s', e1, e2, e3⟩ := fi_refs hc hN hf ha k (n + 1) (i + 1) _ h1 (by omega) (by rw [eo]; omega) (by rw [ez]; exact hw)
    rw [eo] at e1
    refine ⟨n', s', ?_, e2, fun x hx => (e3 x hx).trans (hld x hx)⟩
    have hs : setM devOp (w, orf s.load a, a) i true (f n) s () = .ok (0, ()) (s.up.st (a + 1 + i).toNat (f n)) := by
      have hob : objField (w, orf s.load a, a) i true = (a + 1 + i, 0) := by
        unfold objField
        rw [if_neg (show ¬ (i < 0 ∨ w ≤ i) by omega), if_neg (show ¬ (decide (i < orf s.load a) ≠ true) by simp; omega)]
      unfold setM
      rw [hob, if_neg (by simp)]
      unfold devOp; rw [store_lim h.h.lim hhas]; rfl
    show (setM devOp (w, orf s.load a, a) i true (f n) s ()).then _ = _
    rw [hs]; exact e1
theorem fi_objs {c : Cfg} (hc : CfgW c) {N : Nat} (hN : (N : Int) = c.words) {k0 : Nat → Int} {out : List Int} {u : Int} {b : Blk} (hb : BlkW c b) {f : Nat → Int} (hf : ∀ n, f n = 0 ∨ f n ∈ out) (hba : b.act = 0 ∧ b.used = u) : ∀ (t : List Int) (n : Nat) (s : Dev), (∀ x ∈ t, x ∈ out) → Fi c N k0 s out u →
    ∃ n' s', linkObjs c b f t n s = .ok (some n') s' ∧ Fi c N k0 s' out u
  | [], n, s, _, h => ⟨n, s, rfl, h⟩
  | a :: t, n, s, ht, h => by
    have ha := ht a (List.mem_cons_self ..)
    have hw : HeapW c ⟨0, u, []⟩ s.load out := ⟨by unfold Blk.place; simp only; rw [Int.add_zero]; exact h.tile, h.names, fun _ h => by cases h⟩
    have hbk : BlkW c ⟨0, u, []⟩ := ⟨⟨by show (0 : Int) ≤ 0; omega, by show (0 : Int) ≤ 1; omega⟩, h.u0⟩
    have ho := (heap_of hc hbk hw ha).1
    have ho2 : s.objOf c b a = ((osz s.load a - 1, orf s.load a, a), 0) := by
      rw [← ho]
      unfold Dev.objOf Blk.has Blk.place
      rw [hba.1, hba.2]
    have hz := osz_b s.load a
    obtain ⟨n1, s1, e1, e2, _⟩ := fi_refs hc hN hf ha (w := osz s.load a - 1) (orf s.load a).toNat n 0 s h (Int.le_refl 0) (by omega) (by omega)
    obtain ⟨n2, s2, e3, e4⟩ := fi_objs hc hN hb hf hba t n1 s1 (fun x hx => ht x (List.mem_cons_of_mem _ hx)) e2
    refine ⟨n2, s2, ?_, e4⟩
    rw [linkObjs_cons, ho2, if_neg (by simp)]
    simp only
    rw [e1]; exact e3
theorem fi_roots {c : Cfg} (hc : CfgW c) {N : Nat} (hN : (N : Int) = c.words) {k0 : Nat → Int} {out : List Int} {u : Int} {f : Nat → Int} (hf : ∀ n, f n = 0 ∨ f n ∈ out) : ∀ (k n i : Nat) (s : Dev), (i : Int) + k ≤ c.roots → Fi c N k0 s out u →
    ∃ n' s', linkRoots c f k n i s = .ok n' s' ∧ Fi c N k0 s' out u
  | 0, n, i, s, _, h => ⟨n, s, rfl, h⟩
  | k + 1, n, i, s, hi, h => by
    have hf0 := frm0 hc hN
    have hr1 := hc.r1
    have hri : 0 ≤ c.root i ∧ c.root i < s.n := by
      have := hc.s1
      rw [h.h.n]; simp only [Cfg.root]; omega
    have hhas : s.has (c.root i) = true := by unfold Dev.has; simp [hri.1, hri.2]
    have h1 := h.st hc hhas (hf n) (.inr ⟨i, by omega, rfl⟩)
    obtain ⟨n', s', e1, e2⟩ := fi_roots hc hN hf k (n + 1) (i + 1) _ (by omega) h1
    refine ⟨n', s', ?_, e2⟩
    show (s.store (c.root i) (f n)).then _ = _
    rw [store_lim h.h.lim hhas]; exact e1
theorem fi_fmt {c : Cfg} (hc : CfgW c) {N : Nat} (hN : (N : Int) = c.words) {s : Dev} (h : Fmt c N s) (hu : U64 s) : Fi c N s.kept s [] 0 := by
  have hf0 := frm0 hc hN
  have hr := hc.r1
  have hs := hc.s1
  have hb : ∀ x : Int, c.active ≤ x → x < c.root c.roots → s.load x = 0 := fun x h1 h2 => by
    simp only [Cfg.root] at h2
    unfold Dev.load
    split
    · exact h.st.block x.toNat (by omega) (by simp only [Cfg.root]; omega)
    · rfl
  refine ⟨⟨hu, h.lim, h.n, rfl, h.calm.q, fun x _ => by rw [h.calm.kept]⟩, hb _ (by omega) (by simp only [Cfg.root]; omega), hb _ (by omega) (by simp only [Cfg.root]; omega), by omega, by show c.frm 0 = c.frm 0 + 0; omega, fun _ h => (by cases h), fun i hi => .inl (hb _ (by simp only [Cfg.root]; omega) (by simp only [Cfg.root]; omega))⟩
theorem linked_heap {c : Cfg} (hc : CfgW c) {N : Nat} (hN : (N : Int) = c.words) {s0 sF : Dev} (h : Fmt c N s0) (hu : U64 s0) {hs : List (Int × Int)} (hhs : ∀ h ∈ hs, (0 ≤ h.1 ∧ h.1 < 256) ∧ (0 ≤ h.2 ∧ h.2 < 256)) {out : List Int} (e : fillN c hs s0 [] = .ok out sF) (l : List Int) :
    ∃ u n1 n2 s1 s2, linkObjs c (sF.block c).1 (pickL l out 0) out 0 sF = .ok (some n1) s1 ∧ linkRoots c (pickL l out 0) c.roots.toNat n1 0 s1 = .ok n2 s2 ∧ Fi c N s0.kept s2 out u := by
  obtain ⟨out', s', u, e1, e2⟩ := fi_fill hc hN hs s0 [] 0 (fi_fmt hc hN h hu) hhs
  rw [e] at e1
  cases e1
  have hb : (sF.block c).1.act = 0 ∧ (sF.block c).1.used = u := by rw [e2.block]; exact ⟨rfl, rfl⟩
  obtain ⟨n1, s1, e3, e4⟩ := fi_objs hc hN (b := (sF.block c).1) (by rw [e2.block]; exact ⟨⟨by show (0 : Int) ≤ 0; omega, by show (0 : Int) ≤ 1; omega⟩, e2.u0⟩) (fun n => pickL_in (l := l) (k := n)) hb out 0 sF (fun _ h => h) e2
  obtain ⟨n2, s2, e5, e6⟩ := fi_roots hc hN (fun n => pickL_in (l := l) (k := n)) c.roots.toNat n1 0 s1 (by have := hc.r1; omega) e4
  exact ⟨u, n1, n2, s1, s2, e3, e5, e6⟩
end Go.Proofs.YtbfheafpecgphaaGreat
namespace Go.Proofs.YtbfheafpecgphaaGreat
open Go
abbrev secOp (i v : Int) (s : Dev) (S : SecS) : Out (Int × SecS) := S.store s i v
def SecS.fresh (S : SecS) (f t : Int) : SecS := { S with ff := f, ft := t, seen := [], dirty := [] }
def flipM (c : Cfg) (b : Blk) (S : SecS) (s : Dev) : Out (Int × SecS) :=
  (writeM secOp c b s (S.fresh 0 0)).then fun x s1 => if x.1 ≠ 0 then (x.2.abort s1).then fun S2 s2 => .ok (x.1, S2) s2
    else (x.2.commit s1).then fun S2 s2 => .ok (0, S2) s2
def collectM (bd : Nat) (c : Cfg) (S : SecS) (s : Dev) (ws : List Int) : Out (Option ColS × Int × SecS) :=
  if (s.block c).2 ≠ 0 then .ok (none, (s.block c).2, S) s
  else ((newCol bd c (s.block c).1 ((s.block c).1.rts ++ ws)).run s).then fun X s1 => (flipM c X.block S s1).then fun x s2 =>
    if x.1 ≠ 0 then .ok (none, x.1, x.2) s2 else .ok (some X, 0, x.2) s2
theorem block_rl0 {s : Dev} {c : Cfg} (hc : CfgW c) (h : (s.block c).2 = 0) : 0 < (s.block c).1.rts.length := by
  have := hc.r1
  unfold Dev.block at h ⊢
  split at h
  · cases h
  · rename_i h1; rw [if_neg h1]; simp only [tab_len]; omega
theorem mset_len {α : Type} (l : List (Int × α)) (k : Int) (a : α) : (mset l k a).length ≤ l.length + 1 := by
  induction l with
  | nil => simp [mset]
  | cons p t ih => unfold mset; split <;> simp <;> omega
theorem sstore_dirty {S S' : SecS} {s s' : Dev} {i v a : Int} (e : S.store s i v = .ok (a, S') s') : S'.dirty.length ≤ S.dirty.length + 1 := by
  have h1 := mset_len S.dirty (i / 8) ()
  unfold SecS.store at e
  split at e
  · cases e; omega
  · split at e
    · obtain ⟨x, t, e1, e⟩ := then_inv e
      split at e
      · cases e; simp only; omega
      · obtain ⟨y, u, e2, e⟩ := then_inv e
        cases e; exact h1
    · obtain ⟨y, u, e2, e⟩ := then_inv e
      cases e; exact h1
theorem writeN_dirty : ∀ (l : List Int) (i : Int) (S S' : SecS) (s s' : Dev) (a : Int), writeN secOp l i s S = .ok (a, S') s' → S'.dirty.length ≤ S.dirty.length + l.length
  | [], i, S, S', s, s', a, e => by cases e; simp
  | v :: vs, i, S, S', s, s', a, e => by
    unfold writeN at e
    split at e
    · have := writeN_dirty vs _ _ _ _ _ _ e; simp only [List.length_cons]; omega
    · obtain ⟨⟨x, S1⟩, s1, e1, e⟩ := then_inv e
      have h1 := sstore_dirty e1
      split at e
      · cases e; simp only [List.length_cons]; omega
      · have := writeN_dirty vs _ _ _ _ _ _ e; simp only [List.length_cons] at this ⊢; omega
structure SecK (S : SecS) (bd : Nat) (c : Cfg) (s : Dev) : Prop where
  w : LogW S.L
  n : s.n ≤ 1000000
  d : S.L.d = bd
  c : S.L.c = c
theorem flip_ok (B : World) (Fr : List HP) (bs x bd : Nat) (S : SecS) (X : ColS) (hX : ColW X) (hrl0 : 0 < X.b.rts.length) (c : Cfg) (s : Dev) (hu : U64 s) (hK : SecK S bd c s) :
    ∀ w, Holds B (SecC bs S :: ColA x X :: DevA bd s :: Fr) w → Calls Tryz.prog 19 [ptr bd, cfgV c, ptr bs, ptr x].toArray w (Ret B (fun rv H' => ∃ a S' s', flipM c X.block S s = .ok (a, S') s' ∧ rv = i64 a ∧ H' = SecC bs S' :: ColA x X :: DevA bd s' :: Fr) (fun ch H' => ∃ s', flipM c X.block S s = .off s' ∧ ch = offc ∧ H' = DevA bd s' :: Fr)) := by
  refine fn_enter Tryz.func19 rfl Tryz.ntmps19 rfl ?_
  have hrl := hX.rl
  have hbb := hX.b.act
  have hbf := hX.free
  have hbw : ∀ v ∈ X.block.rts, 0 ≤ v ∧ v < 18446744073709551616 := fun v hv => by
    obtain ⟨u, _, rfl⟩ := List.mem_map.1 hv
    have := hX.vb u
    omega
  have hfb := hX.fb
  have hto := hX.to_
  refine g_seq ?_; refine g_region ?_; refine p_chg rfl (ch_boxA rfl) .free rfl rfl ?_
  rintro _ _ ⟨b5, rfl, rfl⟩
  refine kPa rfl rfl ?_; refine p_nil ?_; refine g_seq ?_; refine g_seq ?_; refine g_region ?_; refine kPm rfl rfl ?_; refine kPv (ev_build rfl (bld_41)) rfl ?_; refine go_pk [1] ?_
  refine p_call rfl (en_f Tryz.call18 rfl) (sbeginC_ok B _ bs S 0 0) .free rfl rfl ?_ ?_
  rotate_left
  · rintro _ _ ⟨⟩
  rintro _ _ ⟨rfl, rfl⟩
  refine kPa rfl rfl ?_; refine p_nil ?_; refine g_seq ?_; refine g_region ?_; refine kPm rfl rfl ?_; refine kPv (ev_cmp rfl rfl rfl) rfl ?_; refine p_nil ?_; refine g_iff rfl (rfl) ?_; refine g_skip ?_; refine g_seq ?_; refine g_seq ?_; refine g_drawv [0, 1, 2, 4, 5, 3, 6, 7] [3, 6] [0, 1, 4, 5] [3] [row b5 [i64 c.log, i64 c.roots, i64 c.space] 30] Tryz.mixed (by kernel_rfl) ?_; refine v_hoist rfl rfl rfl (ev_move rfl) .free rfl ?_
  refine v_hoist rfl rfl rfl (ev_loadA Tryz.isAgg30 Tryz.sizeOf30 rfl rfl) .free rfl ?_; refine v_val rfl rfl rfl (ev_move rfl) .free rfl ?_; refine v_hoist rfl rfl rfl (ev_move rfl) .free rfl ?_; refine v_hoist rfl rfl rfl (ev_mkf rfl rfl) .free rfl ?_; refine v_mark rfl rfl ?_; refine go_pk [2] ?_
  refine p_call rfl (en_f Tryz.call76 rfl) (cblock_ok B _ x X hX) .free rfl rfl ?_ ?_
  rotate_left
  · rintro _ _ ⟨⟩
  rintro _ _ ⟨bsv, hbsv, rfl, rfl⟩
  refine go_vecq fun qb cb hqb hqi => ?_
  subst hqb
  refine p_nil ?_; refine v_on ?_; refine v_mark rfl rfl ?_; refine go_pk [4, 2] ?_
  refine p_call rfl (en_f Tryz.call75 rfl) (rwrite_ok B _ _ _ bd bs SecS (fun b S => SecO b S) _ _ (storeS B bd bs c) c (hK.c ▸ hK.w.c) X.block (by simp only [ColS.block]; omega) hbw (by simp only [ColS.block, List.length_map]; omega) (by simp only [ColS.block, List.length_map]; omega) (.slice qb X.block.rts.length cb) rfl (vec_slr 0 rfl) s (S.fresh 0 0) ⟨hu, hK.n, ⟨hK.w, fun _ h => (by cases h)⟩, hK.d, hK.c⟩) .free rfl rfl ?_ ?_
  rotate_left
  · rintro _ _ ⟨s9, hm9, rfl, rfl⟩
    exact pan_fn fun w hh => ⟨_, ⟨s9, by unfold flipM writeM; rw [show writeN secOp (X.block.act :: X.block.used :: X.block.rts) c.active s (S.fresh 0 0) = .off s9 from hm9]; rfl, rfl, rfl⟩, hh.dp [1, 1, 1]⟩
  rintro _ _ ⟨a2, S2, s2, hm2, rfl, hok2, rfl⟩
  obtain ⟨hu2, hn2, hw2, hd2, hc2⟩ := hok2
  obtain rfl := hd2
  refine p_nil ?_; refine v_off rfl ?_; refine v_val rfl rfl rfl (ev_assign rfl) .free rfl ?_; refine v_nil ?_; refine go_sub (σ' := [(10, _), (8, _), (2, _)]) ⟨rfl, rfl, rfl, trivial⟩ ?_; refine g_seq ?_; refine g_region ?_; refine kPm rfl rfl ?_; refine kPv (ev_cmp rfl rfl rfl) rfl ?_; refine p_nil ?_
  refine g_if rfl (fun h25 => ?_) (fun h25 => ?_)
  · have he : a2 ≠ 0 := by simpa using h25
    refine g_seq ?_; refine g_region ?_; refine kPm rfl rfl ?_; refine go_pk [1, 0] ?_
    refine p_call rfl (en_f Tryz.call20 rfl) (sabortO_ok B _ bs S2 s2 hw2) .free rfl rfl ?_ ?_
    rotate_left
    · rintro _ _ ⟨s9, hm9, rfl, rfl⟩
      exact pan_fn fun w hh => ⟨_, ⟨s9, by unfold flipM; rw [hm2]; simp only [then_ok]; rw [if_pos he, hm9]; rfl, rfl, rfl⟩, hh.dp [1, 1, 1]⟩
    rintro _ _ ⟨S3, s3, hm3, rfl, rfl⟩
    refine p_nil ?_; refine g_seq ?_; refine g_region ?_; refine kPm rfl rfl ?_; refine kPa rfl rfl ?_; refine p_nil ?_; refine g_ret ?_
    exact ret_tmp Tryz.results19 rfl (fun w hh => ⟨_, ⟨a2, S3, s3, by unfold flipM; rw [hm2]; simp only [then_ok]; rw [if_pos he, hm3]; rfl, rfl, rfl⟩, ((hh.dp [2, 3]).pk [0, 1])⟩)
  · have he : ¬ a2 ≠ 0 := by simpa using h25
    refine g_skip ?_; refine g_seq ?_; refine g_region ?_; refine kPm rfl rfl ?_; refine go_pk [1, 0] ?_
    refine p_call rfl (en_f Tryz.call78 rfl) (scommitO_ok B _ bs S2 s2 hw2 (by have := writeN_dirty _ _ _ _ _ _ _ hm2; simp only [SecS.fresh, ColS.block, List.length_cons, List.length_map, List.length_nil] at this; omega)) .free rfl rfl ?_ ?_
    rotate_left
    · rintro _ _ ⟨s9, hm9, rfl, rfl⟩
      exact pan_fn fun w hh => ⟨_, ⟨s9, by unfold flipM; rw [hm2]; simp only [then_ok]; rw [if_neg he, hm9]; rfl, rfl, rfl⟩, hh.dp [1, 1, 1]⟩
    rintro _ _ ⟨S3, s3, hm3, rfl, rfl⟩
    refine kPa rfl rfl ?_; refine p_nil ?_; refine g_ret ?_
    exact ret_tmp Tryz.results19 rfl (fun w hh => ⟨_, ⟨0, S3, s3, by unfold flipM; rw [hm2]; simp only [then_ok]; rw [if_neg he, hm3]; rfl, rfl, rfl⟩, ((hh.dp [2, 3]).pk [0, 1])⟩)
theorem ch_append_vecs0 {B : World} {σ : Env} {Fr : List HP} {P : Program} {T : TypeId} {enc : Int → Value} {sv : Value} {xs : List Int} {d : Option Tmp} {ty : TypeId} {p : String} {af : Array Edge} {g : Option (Nat × Bool)} {t : TypeId} {x y : Operand} {at_ : Array TypeId} {u : TypeId} {ud : TypeDesc} {ys : List Int} {z yv : Value}
    (ha : at_[0]? = some t) (ha' : at_[1]? = some u) (ht : ∀ w, (underlying t).run P w = .ok (.slice T) w) (hu : ∀ w, (underlying u).run P w = .ok ud w) (hud : ∃ q, ud = .slice q) (hs : ∀ w, (sizeOf T).run P w = .ok 1 w) (hz : ∀ w, (zeroValue T).run P w = .ok z w) (hz1 : cell1 z = true) (he1 : ∀ v, cell1 (enc v) = true) (hfb : fewBytes P T)
    (hx : evO σ x = some sv) (hy : evO σ y = some yv) (hr : SlR B Fr yv (ys.map enc)) (hn : xs.length + ys.length ≤ 1000000000) :
    Chg P B σ (VecA T enc 0 (sv, xs) :: Fr) ⟨d, .call ⟨.builtin .append, #[x, y], at_⟩, ty, p, af, g⟩ (fun v' H' => cell1 v' = true ∧ H' = VecA T enc 0 (v', xs ++ ys) :: Fr) := by
  by_cases h0 : 0 < ys.length
  · exact ch_append_vecs ha ha' ht hu hud hs hz hz1 he1 hfb hx hy hr h0 hn
  obtain rfl : ys = [] := List.length_eq_zero_iff.1 (by omega)
  intro a w kn hh
  obtain ⟨q, rfl⟩ := hud
  obtain ⟨sq, scap, e0, _⟩ := hr.ex
  subst e0
  have hf : (Builtin.firstCells 1 0 (.slice sq 0 scap)).run P w = .ok #[] w := by
    have := hr.first (P := P) (w := w) hh.tail 0 (Nat.zero_le _)
    simpa using this
  have hsl : ∃ q n c, sv = .slice q n c ∧ n ≤ c := by
    rcases holds_vec hh with ⟨_, h2, _⟩ | ⟨bd, pre, rest, k, _, h1, _⟩
    · exact ⟨_, _, _, h2, Nat.le_refl _⟩
    · exact ⟨_, _, _, h1, Nat.le_add_right _ _⟩
  obtain ⟨q2, n2, c2, rfl, hc2⟩ := hsl
  refine ⟨.value (.slice q2 n2 c2), w, ?_, _, .inl rfl, _, ⟨rfl, rfl⟩, by simpa using hh⟩
  simp only [execOp, resolve, Sem.run_bind, Sem.run_pure, Result.andThen_ok]
  simp only [List.map_nil, List.length_nil] at hy
  cases q2 <;> simp [invoke, builtin, Builtin.append_, ha, ha', hu, kn.eval hx, kn.eval hy, ht, hs, Builtin.lenOf, hc2, hf, storeCells]
theorem store_n {s s' : Dev} {i v a : Int} (e : s.store i v = .ok a s') : s'.n = s.n := by
  unfold Dev.store at e
  split at e
  · cases e; rfl
  split at e
  · cases e
  · cases e; rfl
theorem flush_n {s s' : Dev} {i a : Int} (e : s.flush i = .ok a s') : s'.n = s.n := by
  unfold Dev.flush at e
  split at e
  · cases e; rfl
  split at e
  · cases e
  · cases e; rfl
theorem fence_n {s s' : Dev} {a : Unit} (e : s.fence = .ok a s') : s'.n = s.n := by
  unfold Dev.fence at e
  split at e
  · cases e
  · cases e; rfl
theorem cpyN_n : ∀ (k : Nat) (i a f : Int) (s s' : Dev), cpyN k i a f s = .ok () s' → s'.n = s.n
  | 0, _, _, _, s, s', e => by cases e; rfl
  | k + 1, i, a, f, s, s', e => by
    rw [cpyN_succ] at e
    obtain ⟨_, s1, e1, e⟩ := then_inv e
    exact (cpyN_n k _ _ _ _ _ e).trans (store_n e1)
theorem copied_n {S : ColS} {s s' : Dev} {w : Int} {r : Int × ColS} (e : S.copied s w = .ok r s') : s'.n = s.n := by
  unfold ColS.copied at e
  split at e
  · cases e; rfl
  split at e
  · cases e; rfl
  split at e
  · cases e; rfl
  obtain ⟨_, s1, e1, e⟩ := then_inv e
  cases e
  exact cpyN_n _ _ _ _ _ _ e1
theorem refsN_n : ∀ (k : Nat) (i : Int) (S S' : ColS) (s s' : Dev), refsN k i S s = .ok S' s' → s'.n = s.n
  | 0, _, S, S', s, s', e => by cases e; rfl
  | k + 1, i, S, S', s, s', e => by
    rw [refsN_succ] at e
    split at e
    · exact refsN_n k _ _ _ _ _ e
    · obtain ⟨r, s1, e1, e⟩ := then_inv e
      obtain ⟨_, s2, e2, e⟩ := then_inv e
      exact ((refsN_n k _ _ _ _ _ e).trans (store_n e2)).trans (copied_n e1)
theorem keepN_n : ∀ (f : Nat) (i e : Int) (s s' : Dev) (a : Unit), keepN f i e s = .ok a s' → s'.n = s.n
  | 0, _, _, s, s', a, e => by cases e; rfl
  | f + 1, i, e', s, s', a, e => by
    rw [keepN_succ] at e
    split at e
    · obtain ⟨_, s1, e1, e⟩ := then_inv e
      exact (keepN_n f _ _ _ _ _ e).trans (flush_n e1)
    · cases e; rfl
theorem step_n {S : ColS} {s s' : Dev} {r : Bool × ColS} (e : S.step s = .ok r s') : s'.n = s.n := by
  unfold ColS.step at e
  split at e
  · cases e; rfl
  split at e
  · obtain ⟨_, s1, e1, e⟩ := then_inv e
    cases e; exact copied_n e1
  · split at e
    · obtain ⟨_, s1, e1, e⟩ := then_inv e
      cases e; exact refsN_n _ _ _ _ _ _ e1
    · obtain ⟨_, s1, e1, e⟩ := then_inv e
      cases e
      unfold ColS.keep at e1
      obtain ⟨_, s2, e2, e1⟩ := then_inv e1
      have h2 := keepN_n _ _ _ _ _ _ e2
      split at e1
      · exact (fence_n e1).trans h2
      · cases e1; exact h2
theorem run_n {S S' : ColS} {s s' : Dev} (e : S.run s = .ok S' s') : s'.n = s.n := by
  unfold ColS.run at e
  revert e
  generalize S.meas + 1 = f
  intro e
  induction f generalizing S s with
  | zero => cases e; rfl
  | succ f ih =>
    rw [runN_succ] at e
    obtain ⟨r, s1, e1, e⟩ := then_inv e
    split at e
    · cases e; exact step_n e1
    · exact (ih e).trans (step_n e1)
theorem fcollect_ok (B : World) (Fr : List HP) (bs bd : Nat) (S : SecS) (c : Cfg) (hc : CfgW c) (s : Dev) (hu : U64 s) (hK : SecK S bd c s) (q : Option Addr) (cap : Nat) (ws : List Int) (hwn : ws.length ≤ 900000) (hws : ∀ v ∈ ws, 0 ≤ v ∧ v < 18446744073709551616) (hwl : SlR B Fr (.slice q ws.length cap) (ws.map w64)) :
    ∀ w, Holds B (SecC bs S :: DevA bd s :: Fr) w → Calls Tryz.prog 14 [ptr bd, cfgV c, ptr bs, .slice q ws.length cap].toArray w (Ret B (fun rv H' => ∃ r s', collectM bd c S s ws = .ok r s' ∧ ((r.1 = none ∧ rv = .tuple #[.pointer none, i64 r.2.1] ∧ H' = SecC bs r.2.2 :: DevA bd s' :: Fr) ∨ (∃ x X, r.1 = some X ∧ r.2.1 = 0 ∧ rv = .tuple #[ptr x, i64 0] ∧ H' = ColA x X :: SecC bs r.2.2 :: DevA bd s' :: Fr))) (fun ch H' => ∃ s', collectM bd c S s ws = .off s' ∧ ch = offc ∧ H' = DevA bd s' :: Fr)) := by
  refine fn_enter Tryz.func14 rfl Tryz.ntmps14 rfl ?_; refine g_seq ?_; refine g_region ?_; refine p_chg rfl (ch_boxA rfl) .free rfl rfl ?_
  rintro _ _ ⟨b5, rfl, rfl⟩
  refine kPa rfl rfl ?_; refine kPa rfl rfl ?_; refine p_nil ?_; refine g_seq ?_; refine g_seq ?_; refine g_region ?_; refine kPm rfl rfl ?_; refine p_callq rfl (en_f Tryz.call53 rfl) (ro_at (q := SecC) (fun Fr => sopenC_ok B Fr bs S)) .free rfl rfl ?_; refine p_nil ?_; refine g_iff rfl (rfl) ?_; refine g_skip ?_; refine g_seq ?_; refine g_region ?_; refine kPm rfl rfl ?_; refine kPv (ev_loadA Tryz.isAgg30 Tryz.sizeOf30 rfl rfl) rfl ?_; refine go_pk [2] ?_
  refine p_call rfl (en_f Tryz.call15 rfl) (rread_ok _ _ _ _ c hc hu) .free rfl rfl ?_ ?_
  rotate_left
  · rintro _ _ ⟨⟩
  rintro _ _ ⟨sv, hsv, rfl, rfl⟩
  have hbk := block_w (s := s) hc hu
  have hrl := block_len (s := s) hc
  refine kPm rfl rfl ?_; refine kPv (ev_ext rfl rfl) rfl ?_; refine kPv (ev_ext rfl rfl) rfl ?_; refine p_chg rfl (ch_allocA Tryz.zeroValue33 rfl) .free rfl rfl ?_
  rintro _ _ ⟨b10, rfl, rfl⟩
  refine p_chg0 rfl (ch_storeA (vs := _) Tryz.sizeOf33 rfl rfl rfl (by first | rfl | exact all3 (by assumption)) rfl) .free rfl ?_
  rintro _ _ rfl
  refine kPa rfl rfl ?_; refine p_nil ?_; refine go_sub (σ' := [(11, _), (10, _), (9, _), (8, _), (5, _), (0, _), (2, _), (3, _)]) ⟨rfl, rfl, rfl, rfl, rfl, rfl, rfl, rfl, trivial⟩ ?_; refine g_seq ?_; refine g_seq ?_; refine g_region ?_; refine kPm rfl rfl ?_; refine kPv (ev_cmp rfl rfl rfl) rfl ?_; refine p_nil ?_
  refine g_if rfl (fun h23 => ?_) (fun h23 => ?_)
  · have he : (s.block c).2 ≠ 0 := by simpa using h23
    have hres : collectM bd c S s ws = .ok (none, (s.block c).2, S) s := by unfold collectM; rw [if_pos he]
    refine g_seq ?_; refine g_region ?_; refine kPm rfl rfl ?_; refine kPa rfl rfl ?_; refine kPa rfl rfl ?_; refine p_nil ?_; refine g_ret ?_
    exact ret_tmp2 Tryz.results14 rfl rfl (fun w hh => ⟨_, ⟨_, _, hres, .inl ⟨rfl, rfl, rfl⟩⟩, ((hh.dp [0, 0, 1]).pk [1])⟩)
  · have he : (s.block c).2 = 0 := by simpa using h23
    have hrl0 : 0 < (s.block c).1.rts.length := block_rl0 hc he
    refine go_pk [1] ?_; refine go_vecq fun qo co hqo hqoi => ?_
    subst hqo
    refine go_conv (H' := VecU 0 (.slice qo (s.block c).1.rts.length co, (s.block c).1.rts) :: row b10 [i64 (s.block c).1.act, i64 (s.block c).1.used, .slice qo (s.block c).1.rts.length co] 33 :: DevA bd s :: row b5 [i64 c.log, i64 c.roots, i64 c.space] 30 :: SecC bs S :: Fr) (fun w hh => by have h := hh; exact h) ?_
    refine g_skip ?_; refine g_seq ?_; refine g_drawv [0, 1, 2, 4, 5, 7, 3, 6, 8, 9, 10] [3, 6, 8, 9] [0, 1, 2, 4, 5, 7] [3, 6, 8] [row b5 [i64 c.log, i64 c.roots, i64 c.space] 30, row b10 [i64 (s.block c).1.act, i64 (s.block c).1.used, .slice qo (s.block c).1.rts.length co] 33] Tryz.mixed (by kernel_rfl) ?_; refine v_hoist rfl rfl rfl (ev_move rfl) .free rfl ?_; refine v_hoist rfl rfl rfl (ev_loadA Tryz.isAgg30 Tryz.sizeOf30 rfl rfl) .free rfl ?_
    refine v_hoist rfl rfl rfl (ev_loadA Tryz.isAgg33 Tryz.sizeOf33 rfl rfl) .free rfl ?_; refine v_hoist rfl rfl rfl (ev_fa (m := _) fa_33_2 rfl rfl) .free rfl ?_; refine v_hoist rfl rfl rfl (ev_load Tryz.isAgg31 rfl rfl) .free rfl ?_; refine v_hoist rfl rfl rfl (ev_move rfl) .free rfl ?_; refine v_mark rfl rfl ?_; refine p_chg rfl (ev_bs0 Tryz.runUnderlying31 Tryz.sizeOf52) .free rfl rfl ?_
    rintro _ _ ⟨b28, rfl, rfl⟩
    refine go_conv (H' := VecU 0 (.slice (some ⟨b28, 0, none⟩) 0 0, []) :: _) (fun w hh => vec_row (xs := []) rfl rfl hh) ?_; refine p_nil ?_; refine v_on ?_; refine v_mark rfl rfl ?_; refine p_chg rfl (ch_append_vecs0 (yv := .slice qo (s.block c).1.rts.length co) (ys := (s.block c).1.rts) rfl rfl Tryz.runUnderlying31 Tryz.runUnderlying31 ⟨_, rfl⟩ Tryz.sizeOf52 Tryz.zeroValue52 rfl (fun _ => rfl) tb_52 rfl rfl (vec_slr 0 rfl) (by simp; omega)) .free rfl rfl ?_
    rintro nv2 _ ⟨hnv2, rfl⟩
    refine p_nil ?_; refine v_on ?_; refine v_mark rfl rfl ?_; refine p_chg rfl (ch_append_vecs0 (yv := .slice q ws.length cap) (ys := ws) rfl rfl Tryz.runUnderlying31 Tryz.runUnderlying31 ⟨_, rfl⟩ Tryz.sizeOf52 Tryz.zeroValue52 rfl (fun _ => rfl) tb_52 rfl rfl hwl.up (by simp; omega)) .free rfl rfl ?_
    rintro nv3 _ ⟨hnv3, rfl⟩
    refine go_vecq fun qn cn hqn0 hqni => ?_
    subst hqn0
    have hqn : qn = none → (s.block c).1.rts ++ ws = [] := fun e => by
      cases hl : (s.block c).1.rts ++ ws with
      | nil => rfl
      | cons a t =>
        obtain ⟨b, o, h⟩ := hqni 0 (by show 0 < ((s.block c).1.rts ++ ws).length; rw [hl]; exact Nat.succ_pos _)
        rw [e] at h; cases h
    refine p_nil ?_; refine v_on ?_; refine v_mark rfl rfl ?_; refine go_pk [1] ?_
    refine p_call rfl (en_f Tryz.call16 rfl) (cnew_ok B _ bd c hc (s.block c).1 hbk (.slice qo (s.block c).1.rts.length co) rfl qn cn ((s.block c).1.rts ++ ws) (by rw [List.length_append]; omega) hqn (vec_slr 1 rfl)) .free rfl rfl ?_ ?_
    rotate_left
    · rintro _ _ ⟨⟩
    rintro _ _ ⟨x, rfl, rfl⟩
    have hX0 : ColW (newCol bd c (s.block c).1 ((s.block c).1.rts ++ ws)) := newCol_w hc hbk hrl (block_rts hu) (fun v hv => by
      rcases List.mem_append.1 hv with hv | hv
      · exact block_rts hu v hv
      · exact hws v hv)
    refine p_nil ?_; refine v_off rfl ?_; refine v_val rfl rfl rfl (ev_assign rfl) .free rfl ?_; refine v_nil ?_; refine go_sub (σ' := [(12, _), (9, _), (8, _), (5, _), (0, _), (2, _)]) ⟨rfl, rfl, rfl, rfl, rfl, rfl, trivial⟩ ?_; refine g_seq ?_; refine g_region ?_; refine kPm rfl rfl ?_; refine go_pk [0, 2] ?_
    refine p_call rfl (en_f Tryz.call17 rfl) (crun_ok B _ x (newCol bd c (s.block c).1 ((s.block c).1.rts ++ ws)) hX0 s hu) .free rfl rfl ?_ ?_
    rotate_left
    · rintro _ _ ⟨s9, hm9, rfl, rfl⟩
      exact pan_fn fun w hh => ⟨_, ⟨s9, by unfold collectM; rw [if_neg (by omega)]; rw [hm9]; rfl, rfl, rfl⟩, hh.dp [1, 1, 1, 1]⟩
    rintro _ _ ⟨X, s1, hm1, rfl, rfl⟩
    obtain ⟨hX, hu1, hXb, hXbd, hXc, hXto⟩ := runN_w _ _ _ _ _ hX0 hu hm1
    have hn1 := run_n hm1
    refine p_nil ?_; refine g_seq ?_; refine g_seq ?_; refine g_region ?_; refine kPm rfl rfl ?_; refine kPv (ev_loadA Tryz.isAgg30 Tryz.sizeOf30 rfl rfl) rfl ?_; refine kPm rfl rfl ?_; refine kPm rfl rfl ?_; refine go_pk [5, 0, 0] ?_
    refine p_call rfl (en_f Tryz.call19 rfl) (flip_ok B _ bs x bd S X hX (by rw [hXb]; exact hrl0) c s1 hu1 ⟨hK.w, by rw [hn1]; exact hK.n, hK.d, hK.c⟩) .free rfl rfl ?_ ?_
    rotate_left
    · rintro _ _ ⟨s9, hm9, rfl, rfl⟩
      exact pan_fn fun w hh => ⟨_, ⟨s9, by unfold collectM; rw [if_neg (by omega)]; rw [hm1]; simp only [then_ok]; rw [hm9]; rfl, rfl, rfl⟩, hh.dp [1, 1, 1]⟩
    rintro _ _ ⟨a2, S2, s2, hm2, rfl, rfl⟩
    refine kPa rfl rfl ?_; refine p_nil ?_; refine go_sub (σ' := [(13, _), (12, _), (9, _), (8, _)]) ⟨rfl, rfl, rfl, rfl, trivial⟩ ?_; refine g_seq ?_; refine g_region ?_; refine kPm rfl rfl ?_; refine kPv (ev_cmp rfl rfl rfl) rfl ?_; refine p_nil ?_
    refine g_if rfl (fun h43 => ?_) (fun h43 => ?_)
    · have ha2 : a2 ≠ 0 := by simpa using h43
      refine g_seq ?_; refine g_region ?_; refine kPm rfl rfl ?_; refine kPa rfl rfl ?_; refine kPa rfl rfl ?_; refine p_nil ?_; refine g_ret ?_
      exact ret_tmp2 Tryz.results14 rfl rfl (fun w hh => ⟨_, ⟨(none, a2, S2), s2, by unfold collectM; rw [if_neg (by omega), hm1]; simp only [then_ok]; rw [hm2]; simp only [then_ok]; rw [if_pos ha2], .inl ⟨rfl, rfl, rfl⟩⟩, (hh.dp [1, 2, 2, 2])⟩)
    · have ha2 : ¬ a2 ≠ 0 := by simpa using h43
      refine g_skip ?_; refine g_seq ?_; refine g_region ?_; refine kPm rfl rfl ?_; refine kPa rfl rfl ?_; refine kPa rfl rfl ?_; refine p_nil ?_; refine g_ret ?_
      exact ret_tmp2 Tryz.results14 rfl rfl (fun w hh => ⟨_, ⟨(some X, 0, S2), s2, by unfold collectM; rw [if_neg (by omega), hm1]; simp only [then_ok]; rw [hm2]; simp only [then_ok]; rw [if_neg ha2], .inr ⟨x, X, rfl, rfl, rfl, rfl⟩⟩, ((hh.dp [3, 3, 3]).pk [1])⟩)
theorem fcollectO_ok (B : World) (Fr : List HP) (bs bd : Nat) (S : SecS) (c : Cfg) (wv : Value) :
    ∀ w, Holds B (SecO bs S :: Fr) w → Calls Tryz.prog 14 [ptr bd, cfgV c, ptr bs, wv].toArray w (PureR B (SecO bs S :: Fr) (.tuple #[.pointer none, i64 2])) := by
  refine fn_enter Tryz.func14 rfl Tryz.ntmps14 rfl ?_; refine g_seq ?_; refine g_region ?_; refine p_chg rfl (ch_boxA rfl) .free rfl rfl ?_
  rintro _ _ ⟨b5, rfl, rfl⟩
  refine kPa rfl rfl ?_; refine kPa rfl rfl ?_; refine p_nil ?_; refine g_seq ?_; refine g_seq ?_; refine g_region ?_; refine kPm rfl rfl ?_; refine p_callq rfl (en_f Tryz.call53 rfl) (ro_at (q := SecO) (fun Fr => sopenO_ok B Fr bs S)) .free rfl rfl ?_; refine p_nil ?_; refine g_ift rfl (rfl) ?_; refine g_seq ?_; refine g_region ?_; refine kPa rfl rfl ?_; refine kPa rfl rfl ?_; refine p_nil ?_; refine g_ret ?_
  exact ret_tmp2 Tryz.results14 rfl rfl (fun w hh => ⟨rfl, (hh.dp [0])⟩)
end Go.Proofs.YtbfheafpecgphaaGreat
