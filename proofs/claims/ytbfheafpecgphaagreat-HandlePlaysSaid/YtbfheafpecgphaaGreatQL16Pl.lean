/- Part of the texts beneath a law: what its proof names. Conditions: none. -/
import Derived.Test.YtbfheafpecgphaaGreatQL16Pk
set_option linter.unusedSimpArgs false
set_option linter.unusedVariables false
set_option linter.unnecessarySimpa false
set_option linter.unusedSectionVars false
namespace Go.Proofs.YtbfheafpecgphaaGreat
open Go
theorem runN_w : ∀ (f : Nat) (S S' : ColS) (s s' : Dev), ColW S → U64 s → runN f S s = .ok S' s' → ColW S' ∧ U64 s' ∧ S'.b = S.b ∧ S'.bd = S.bd ∧ S'.c = S.c ∧ S'.to_ = S.to_
  | 0, S, S', s, s', h, hu, e => by cases e; exact ⟨h, hu, rfl, rfl, rfl, rfl⟩
  | f + 1, S, S', s, s', h, hu, e => by
    rw [runN_succ] at e
    obtain ⟨r, s1, e1, e⟩ := then_inv e
    obtain ⟨h1, u1, g1, g2, g3, g4, _⟩ := step_w h hu e1
    split at e
    · cases e; exact ⟨h1, u1, g1, g2, g3, g4⟩
    · obtain ⟨k1, k2, k3, k4, k5, k6⟩ := runN_w f _ _ _ _ h1 u1 e
      exact ⟨k1, k2, k3.trans g1, k4.trans g2, k5.trans g3, k6.trans g4⟩
theorem map_take_succ {α β : Type} {f : α → β} {l : List α} {k : Nat} (hk : k < l.length) : (l.take (k + 1)).map f = (l.take k).map f ++ [f l[k]] := by
  rw [List.take_succ_eq_append_getElem hk, List.map_append]; rfl
theorem newCol_w {bd : Nat} {c : Cfg} {b : Blk} {ws : List Int} (hc : CfgW c) (hb : BlkW c b) (hl : b.rts.length ≤ 16) (hr : ∀ v ∈ b.rts, 0 ≤ v ∧ v < 18446744073709551616) (hw : ∀ v ∈ ws, 0 ≤ v ∧ v < 18446744073709551616) : ColW (newCol bd c b ws) := by
  have h1 := hb.act
  have h2 := frm_b hc (k := 1 - b.act) (by omega)
  have h3 := hc.s1
  have h4 : 0 ≤ c.frm (1 - b.act) ∧ c.frm (1 - b.act) ≤ 20000 := by omega
  exact ⟨hc, hb, hl, h4, ⟨Int.le_refl _, by unfold newCol; simp only; omega⟩, ⟨Int.le_refl _, by simp [newCol]⟩, List.nodup_nil, fun _ h => (by cases h), fun _ h => (by cases h), hw, hr⟩
theorem crun_ok (B : World) (Fr : List HP) (x : Nat) (S : ColS) (hS : ColW S) (s : Dev) (hu : U64 s) :
    ∀ w, Holds B (ColA x S :: DevA S.bd s :: Fr) w → Calls Tryz.prog 17 [ptr x].toArray w (Ret B (fun rv H' => ∃ r s', S.run s = .ok r s' ∧ rv = .tuple #[] ∧ H' = ColA x r :: DevA S.bd s' :: Fr) (fun c H' => ∃ s', S.run s = .off s' ∧ c = offc ∧ H' = DevA S.bd s' :: Fr)) := by
  refine fn_enter Tryz.func17 rfl Tryz.ntmps17 rfl ?_; refine g_block ?_; refine g_loopk (ι := Nat × ColS × Dev) [0] (fun (n, SI, sI) => (SI.meas < n) ∧ (ColW SI) ∧ (U64 sI) ∧ (SI.bd = S.bd) ∧ (runN (S.meas + 1) S s = runN n SI sI)) (fun (n, SI, sI) => []) (fun (n, SI, sI) => ColA x SI :: DevA SI.bd sI :: Fr) (fun (n, SI, sI) => n) (S.meas + 1, S, s) (⟨Nat.lt_succ_self _, hS, hu, rfl, rfl⟩) (fun a w st => st.to trivial (fun hh => hh)) ?_
  rintro ⟨n, SI, sI⟩ ⟨hn, hSI, huI, hbdI, hinv⟩
  try simp only at hn hSI huI hbdI hinv ⊢
  refine go_sub (σ' := [(0, _)]) ⟨rfl, trivial⟩ ?_; refine g_seq ?_; refine g_seq ?_; refine g_region ?_; refine kPm rfl rfl ?_
  refine p_call rfl (en_f Tryz.call74 rfl) (cstep_ok B _ x SI hSI sI huI) .free rfl rfl ?_ ?_
  rotate_left
  · rintro _ _ ⟨s9, hm9, rfl, rfl⟩
    exact pan_fn fun w hh => ⟨_, ⟨s9, by unfold ColS.run; rw [hinv, show n = n - 1 + 1 by omega, runN_succ, hm9]; rfl, rfl, rfl⟩, by rw [← hbdI]; exact hh⟩
  rintro _ _ ⟨r1, s1, hm1, rfl, rfl⟩
  obtain ⟨hS1, hu1, hb1, hbd1, hc1, hto1, hr1, hms1⟩ := step_w hSI huI hm1
  refine kPv (ev_not rfl) rfl ?_; refine p_nil ?_
  refine g_if rfl (fun h4 => ?_) (fun h4 => ?_)
  · have hg : r1.1 = false := by simpa using h4
    refine g_skip ?_; refine g_block ?_; refine g_skip ?_
    exact fun a w st_ => ⟨(n - 1, r1.2, s1), ⟨by have := hms1 hg; first | omega | (simp only; omega), hS1, hu1, hbd1.trans hbdI, by rw [hinv, show n = n - 1 + 1 by omega, runN_succ, hm1]; simp only [then_ok]; rw [if_neg (by rw [hg]; decide)]; rfl⟩, by first | omega | (simp only; omega), st_.to ⟨rfl, trivial⟩ (fun hh => (by simp only [hbd1]; exact hh))⟩
  · have hg : r1.1 = true := by simpa using h4
    refine g_exit ?_
    exact end_none Tryz.results17 (fun w hh => ⟨_, ⟨_, _, by unfold ColS.run; rw [hinv, show n = n - 1 + 1 by omega, runN_succ, hm1]; simp only [then_ok]; rw [if_pos hg], rfl, rfl⟩, by rw [← hbdI]; exact hh⟩)
theorem cblock_ok (B : World) (Fr : List HP) (x : Nat) (S : ColS) (hS : ColW S) :
    ∀ w, Holds B (ColA x S :: Fr) w → Calls Tryz.prog 76 [ptr x].toArray w (Ret B (fun rv H' => ∃ sv, cell1 sv = true ∧ rv = blkV S.block sv ∧ H' = VecU 0 (sv, S.block.rts) :: ColA x S :: Fr) (fun _ _ => False)) := by
  refine fn_enter Tryz.func76 rfl Tryz.ntmps76 rfl ?_
  have hfb := hS.fb
  have hfr := hS.free
  have hto := hS.to_
  have hba := hS.b.act
  have hrl := hS.rl
  refine g_seq ?_; refine g_region ?_; refine p_chg rfl (ch_allocA Tryz.zeroValue33 rfl) .free rfl rfl ?_
  rintro _ _ ⟨b2, rfl, rfl⟩
  refine p_nil ?_; refine g_seq ?_; refine go_pk [1] ?_; refine go_col fun rsv tsv mw hrsv htsv => ?_
  refine g_drawT (.fin [0, 1, 2, 3, 4, 5, 6, 7, 8, 9, 10, 11, 12, 13, 14, 15, 16, 17]) [16, 17] [0, 1, 2, 3, 4, 5, 6, 7, 8, 9, 10, 11, 12, 13, 14, 15] [16] [row x (colRow S rsv tsv mw) 115] [2, 0] (G := Nat) (fun b3 => [(3, ptr b3)]) (fun b3 => row b3 [i64 (1 - S.b.act), i64 (S.free - S.to_), .slice none 0 0] 33 :: row x (colRow S rsv tsv mw) 115 :: VecU 0 (rsv, S.b.rts) :: VecU 0 (tsv, S.todo) :: mapA .u64 i64 mw S.went :: row b2 [i64 0, i64 0, .slice none 0 0] 33 :: Fr) Tryz.mixed (by kernel_rfl) ?_ ?_
  · skip
    refine t_fin ?_; refine v_hoist rfl rfl rfl (ev_move rfl) .free rfl ?_
    first | refine v_hoist rfl rfl rfl (ev_nil rfl) .free rfl ?_ | refine v_hoist rfl rfl rfl (ev_nilf rfl) .free rfl ?_
    refine v_hoist rfl rfl rfl (ev_fa (m := _) fa_115_2 rfl rfl) .free rfl ?_; refine v_hoist rfl rfl rfl (ev_fa (m := _) fa_33_0 rfl rfl) .free rfl ?_; refine v_hoist rfl rfl rfl (ev_load Tryz.isAgg3 rfl rfl) .free rfl ?_
    first | refine v_hoist rfl rfl rfl (ev_sub rfl rfl (wr64 (by omega))) .free rfl ?_ | refine v_hoist rfl rfl rfl (ev_sub rfl rfl rfl) .free rfl ?_
    refine v_hoist rfl rfl rfl (ev_move rfl) .free rfl ?_
    first | refine v_hoist rfl rfl rfl (ev_nil rfl) .free rfl ?_ | refine v_hoist rfl rfl rfl (ev_nilf rfl) .free rfl ?_
    refine v_hoist rfl rfl rfl (ev_fa (m := _) fa_115_5 rfl rfl) .free rfl ?_; refine v_hoist rfl rfl rfl (ev_load Tryz.isAgg3 rfl rfl) .free rfl ?_; refine v_hoist rfl rfl rfl (ev_move rfl) .free rfl ?_
    first | refine v_hoist rfl rfl rfl (ev_nil rfl) .free rfl ?_ | refine v_hoist rfl rfl rfl (ev_nilf rfl) .free rfl ?_
    refine v_hoist rfl rfl rfl (ev_fa (m := _) fa_115_3 rfl rfl) .free rfl ?_; refine v_hoist rfl rfl rfl (ev_load Tryz.isAgg3 rfl rfl) .free rfl ?_
    first | refine v_hoist rfl rfl rfl (ev_sub rfl rfl (wr64 (by omega))) .free rfl ?_ | refine v_hoist rfl rfl rfl (ev_sub rfl rfl rfl) .free rfl ?_
    refine v_hoist rfl rfl rfl (ev_build rfl (bld_33_0_1 _ _ rfl rfl)) .free rfl ?_; refine v_mark rfl rfl ?_; refine p_chg rfl (ch_allocA Tryz.zeroValue33 rfl) .free rfl rfl ?_
    rintro _ _ ⟨b3, rfl, rfl⟩
    refine p_nil ?_; refine v_on ?_; refine v_mark rfl rfl ?_; refine p_chg0 rfl (ch_storeA (vs := _) Tryz.sizeOf33 rfl rfl rfl (by first | rfl | exact all3 (by assumption)) rfl) .free rfl ?_
    rintro _ _ rfl
    refine p_nil ?_; refine v_off rfl ?_; refine v_nil ?_
    exact fun a w st_ => ⟨b3, st_.to ⟨rfl, rfl, rfl, trivial⟩ (fun hh => hh)⟩
  intro b3
  refine go_sub (σ' := [(3, ptr b3), (2, _), (0, _)]) ⟨rfl, rfl, rfl, trivial⟩ ?_; refine g_seq ?_; refine g_seq ?_; refine go_pk [2] ?_; refine go_vecq fun qr cr hqr hqi => ?_
  subst hqr
  refine go_pk [1, 1, 0, 0, 0, 0] ?_; refine go_conv (fun w hh => vec_nil (T := 52) (enc := w64) hh) ?_; refine g_region ?_; refine kPm rfl rfl ?_
  first | refine kPv (ev_nil rfl) rfl ?_ | refine kPv (ev_nilf rfl) rfl ?_
  refine kPv (ev_fa (m := _) fa_115_2 rfl rfl) rfl ?_; refine kPv (ev_fa (m := _) fa_33_2 rfl rfl) rfl ?_; refine kPv (ev_load Tryz.isAgg31 rfl rfl) rfl ?_; refine kPv (ev_len rfl Tryz.runUnderlying31 ⟨_, rfl⟩ rfl) rfl ?_; refine kPm rfl rfl ?_; refine p_nil ?_; refine g_block ?_
  refine g_loopk (ι := Nat × Value) [27, 26, 3, 2, 0] (fun (k, bv) => (k ≤ S.b.rts.length) ∧ (cell1 bv = true)) (fun (k, bv) => [(28, i64 k)]) (fun (k, bv) => VecU 0 (bv, (S.b.rts.take k).map (fun w => (mget S.went w).getD 0)) :: row b3 [i64 (1 - S.b.act), i64 (S.free - S.to_), bv] 33 :: row x (colRow S (.slice qr S.b.rts.length cr) tsv mw) 115 :: VecU 0 (.slice qr S.b.rts.length cr, S.b.rts) :: VecU 0 (tsv, S.todo) :: mapA .u64 i64 mw S.went :: row b2 [i64 0, i64 0, .slice none 0 0] 33 :: Fr) (fun (k, bv) => S.b.rts.length - k) (0, .slice none 0 0) (⟨Nat.zero_le _, rfl⟩) (fun a w st => st.to ⟨rfl, trivial⟩ (fun hh => hh)) ?_
  rintro ⟨k, bv⟩ ⟨hk0, hbv⟩
  try simp only at hk0 hbv ⊢
  refine go_sub (σ' := [(28, i64 k), (27, _), (26, _), (3, _), (2, _), (0, _)]) ⟨rfl, rfl, rfl, rfl, rfl, rfl, trivial⟩ ?_; refine g_seq ?_; refine g_region ?_; refine kPv (ev_cmp rfl rfl rfl) rfl ?_; refine p_nil ?_; refine g_seq ?_
  refine g_if rfl (fun h29 => ?_) (fun h29 => ?_)
  · have hk : k < S.b.rts.length := by simp at h29; omega
    obtain ⟨bq, oq, rfl⟩ := hqi k hk
    have hvb := hS.vb S.b.rts[k]
    refine g_skip ?_; refine g_seq ?_; refine g_block ?_; refine g_seq ?_; refine g_region ?_; refine kPv (ev_iaS Tryz.runUnderlying31 Tryz.sizeOf52 rfl rfl (by omega) (by omega)) rfl ?_
    refine kPv (ev_loadS (v := w64 S.b.rts[k]) Tryz.isAgg52 (vec_slr 3 rfl) rfl (by rw [Int.toNat_natCast, List.getElem?_map, List.getElem?_eq_getElem hk]; rfl)) rfl ?_
    refine kPa rfl rfl ?_; refine p_nil ?_; refine g_drawv [0, 1, 2, 3, 4, 5, 6, 7, 8, 9, 10, 11, 12] [9, 10, 12] [0, 1] [9] [row b3 [i64 (1 - S.b.act), i64 (S.free - S.to_), bv] 33, row x (colRow S (.slice (some ⟨bq, oq, none⟩) S.b.rts.length cr) tsv mw) 115, mapA .u64 i64 mw S.went] Tryz.mixed (by kernel_rfl) ?_; refine v_hoist rfl rfl rfl (ev_fa (m := _) fa_33_2 rfl rfl) .free rfl ?_; refine v_hoist rfl rfl rfl (ev_load Tryz.isAgg31 rfl rfl) .free rfl ?_
    refine v_val rfl rfl rfl (ev_move rfl) .free rfl ?_
    first | refine v_val rfl rfl rfl (ev_nil rfl) .free rfl ?_ | refine v_val rfl rfl rfl (ev_nilf rfl) .free rfl ?_
    refine v_val rfl rfl rfl (ev_fa (m := _) fa_115_7 rfl rfl) .free rfl ?_; refine v_val rfl rfl rfl (ev_load Tryz.isAgg113 rfl rfl) .free rfl ?_; refine v_val rfl rfl rfl (ev_move rfl) .free rfl ?_; refine v_val rfl rfl rfl ((ev_lookup1 Tryz.runUnderlying113 Tryz.runUnderlying52 Tryz.zeroValue3 rfl rfl).eq (mval_i _)) .free rfl ?_; refine v_val rfl rfl rfl (ev_conv Tryz.runUnderlying3 Tryz.runUnderlying52 rfl (wru64 (by omega))) .free rfl ?_; refine v_mark rfl rfl ?_
    refine p_chg rfl (ch_bs1 Tryz.runUnderlying31 Tryz.sizeOf52 Tryz.zeroValue52 rfl rfl rfl) .free rfl rfl ?_
    rintro _ _ ⟨b41, rfl, rfl⟩
    refine go_pk [1, 0] ?_; refine p_nil ?_; refine v_on ?_; refine v_mark rfl rfl ?_; refine p_chg rfl (ch_append_vec rfl rfl Tryz.runUnderlying31 Tryz.runUnderlying31 ⟨_, rfl⟩ Tryz.sizeOf52 Tryz.zeroValue52 rfl (fun _ => rfl) tb_52 rfl rfl (by simp; omega)) .free rfl rfl ?_
    rintro bv2 _ ⟨hbv2, rfl⟩
    refine p_nil ?_; refine v_off rfl ?_; refine v_val rfl rfl rfl (ev_fa (m := _) fa_33_2 rfl rfl) .free rfl ?_; refine v_mark rfl rfl ?_; refine p_chg0 rfl (ch_store Tryz.sizeOf31 rfl rfl (by first | rfl | assumption) rfl) .free rfl ?_
    rintro _ _ rfl
    refine p_nil ?_; refine v_off rfl ?_; refine v_nil ?_; refine go_sub (σ' := [(28, _), (27, _), (26, _), (3, _), (2, _), (0, _)]) ⟨rfl, rfl, rfl, rfl, rfl, rfl, trivial⟩ ?_; refine g_region ?_
    first | refine p_val rfl (ev_add rfl rfl (wr64 (by omega))) .free rfl rfl ?_ | refine p_val rfl (ev_add rfl rfl rfl) .free rfl rfl ?_
    refine kPm rfl rfl ?_; refine p_nil ?_
    exact fun a w st_ => ⟨(k + 1, bv2), ⟨by first | omega | (simp only; omega), hbv2⟩, by first | omega | (simp only; omega), st_.to ⟨rfl, rfl, rfl, rfl, rfl, rfl, trivial⟩ (fun hh => (by simp only [map_take_succ hk]; exact hh))⟩
  · have hk : ¬ k < S.b.rts.length := by simp at h29; omega
    obtain rfl : k = S.b.rts.length := by omega
    rw [List.take_length]
    refine g_exit ?_; refine g_seq ?_; refine g_region ?_; refine kPv (ev_loadA Tryz.isAgg33 Tryz.sizeOf33 rfl rfl) rfl ?_; refine p_chg0 rfl (ch_storeA (vs := _) Tryz.sizeOf33 rfl rfl rfl (by first | rfl | exact all3 (by assumption)) rfl) .free rfl ?_
    rintro _ _ rfl
    refine p_nil ?_; refine go_sub (σ' := [(2, _)]) ⟨rfl, trivial⟩ ?_; refine g_ret ?_
    exact ret_1 Tryz.results76 (.cellA rfl Tryz.isAgg33 Tryz.sizeOf33 rfl rfl) (fun w hh => ⟨_, ⟨bv, hbv, rfl, rfl⟩, (col_holds (S := S) hrsv htsv ((hh.dp [1, 5]).pk [1, 1, 1, 1])).pk [1]⟩)
theorem clone64n_ok (B : World) (Fr : List HP) (cap : Nat) :
    ∀ w, Holds B Fr w → Calls Tryz.prog 49 [.slice none 0 cap].toArray w (PureR B Fr (.slice none 0 0)) := by
  refine fn_enter Tryz.func49 rfl Tryz.ntmps49 rfl ?_; refine g_seq ?_; refine g_region ?_; refine kPa rfl rfl ?_; refine p_nil ?_; refine g_seq ?_; refine g_seq ?_; refine g_region ?_; refine kPm rfl rfl ?_; refine kPv (ev_eqsl Tryz.runUnderlying31 rfl rfl rfl) rfl ?_; refine p_nil ?_; refine g_ift rfl (rfl) ?_; refine g_seq ?_; refine g_region ?_; refine kPa rfl rfl ?_; refine p_nil ?_; refine g_ret ?_
  exact ret_tmp Tryz.results49 rfl (fun w hh => ⟨rfl, hh⟩)
theorem clone64v_ok (B : World) (Fr : List HP) (q : Option Addr) (cap : Nat) (xs : List Int) (hn : xs.length ≤ 1000000) (hq : q = none → xs = []) (hr : SlR B Fr (.slice q xs.length cap) (xs.map w64)) : ∀ w, Holds B Fr w → Calls Tryz.prog 49 [.slice q xs.length cap].toArray w (Ret B (fun rv H' => cell1 rv = true ∧ H' = VecU 0 (rv, xs) :: Fr) (fun _ _ => False)) := by
  intro w hw
  cases q with
  | none =>
    have := hq rfl
    subst this
    exact (clone64n_ok B Fr cap w hw).mono fun e w' h => by obtain ⟨rfl, h⟩ := h; exact ⟨_, ⟨rfl, rfl⟩, vec_nil h⟩
  | some a =>
    refine (clone64_ok B Fr (some a) xs.length cap (xs.map w64) (by simp) (by simpa using hn) (by rw [List.all_eq_true]; intro v hv; obtain ⟨x, _, rfl⟩ := List.mem_map.1 hv; rfl) hr w hw).mono fun e w' h => ?_
    cases e with
    | returned v =>
      obtain ⟨H', ⟨bn, rest, rfl, rfl⟩, h⟩ := h
      exact ⟨_, ⟨rfl, rfl⟩, vec_row rfl rfl h⟩
    | panicked c => obtain ⟨_, h, _⟩ := h; exact h.elim
    | outgrown => exact h.elim
theorem cnew_ok (B : World) (Fr : List HP) (bd : Nat) (c : Cfg) (hc : CfgW c) (b : Blk) (hb : BlkW c b) (sv : Value) (hsv : cell1 sv = true) (q : Option Addr) (cap : Nat) (ws : List Int) (hwn : ws.length ≤ 1000000) (hwq : q = none → ws = []) (hwl : SlR B (VecU 0 (sv, b.rts) :: Fr) (.slice q ws.length cap) (ws.map w64)) :
    ∀ w, Holds B (VecU 0 (sv, b.rts) :: Fr) w → Calls Tryz.prog 16 [ptr bd, cfgV c, blkV b sv, .slice q ws.length cap].toArray w (Ret B (fun rv H' => ∃ x, rv = ptr x ∧ H' = ColA x (newCol bd c b ws) :: Fr) (fun _ _ => False)) := by
  refine fn_enter Tryz.func16 rfl Tryz.ntmps16 rfl ?_
  have hba := hb.act
  refine g_seq ?_; refine g_region ?_; refine p_chg rfl (ch_boxA rfl) .free rfl rfl ?_
  rintro _ _ ⟨b5, rfl, rfl⟩
  refine p_chg rfl (ch_boxA rfl) .free rfl rfl ?_
  rintro _ _ ⟨b6, rfl, rfl⟩
  refine kPa rfl rfl ?_; refine p_nil ?_; refine g_seq ?_; refine g_region ?_; refine kPv (ev_loadA Tryz.isAgg30 Tryz.sizeOf30 rfl rfl) rfl ?_; refine kPv (ev_fa (m := _) fa_33_0 rfl rfl) rfl ?_; refine kPv (ev_load Tryz.isAgg3 rfl rfl) rfl ?_
  first | refine p_val rfl (ev_sub rfl rfl (wr64 (by omega))) .free rfl rfl ?_ | refine p_val rfl (ev_sub rfl rfl rfl) .free rfl rfl ?_
  refine p_callq rfl (en_f Tryz.call46 rfl) (from_ok _ _ c hc _ (by have := hb.act; omega) (by have := hb.act; omega)) .free rfl rfl ?_
  refine kPa rfl rfl ?_; refine p_nil ?_; refine go_sub (σ' := [(9, _), (8, _), (6, _), (5, _), (0, _), (3, _)]) ⟨rfl, rfl, rfl, rfl, rfl, rfl, trivial⟩ ?_; refine g_seq ?_; refine go_pk [1] ?_
  refine g_drawT (.br [0, 1, 2, 3, 4, 5, 6] 7 (.fin [8, 9, 10, 11]) 8 (.fin [7, 9, 10, 11])) [7, 8, 10] [0, 1, 2, 3, 4, 5, 6] [7, 8] [row b5 [i64 c.log, i64 c.roots, i64 c.space] 30, row b6 [i64 b.act, i64 b.used, sv] 33] [] (G := Nat) (fun x => [(8, ptr x)]) (fun x => ColA x (newCol bd c b ws) :: Fr) Tryz.mixed (by kernel_rfl) ?_ ?_
  · skip
    refine t_br ?_; refine v_hoist rfl rfl rfl (ev_move rfl) .free rfl ?_; refine v_hoist rfl rfl rfl (ev_loadA Tryz.isAgg30 Tryz.sizeOf30 rfl rfl) .free rfl ?_; refine v_hoist rfl rfl rfl (ev_loadA Tryz.isAgg33 Tryz.sizeOf33 rfl rfl) .free rfl ?_; refine v_hoist rfl rfl rfl (ev_move rfl) .free rfl ?_; refine v_hoist rfl rfl rfl (ev_move rfl) .free rfl ?_; refine v_hoist rfl rfl rfl (ev_move rfl) .free rfl ?_; refine v_hoist rfl rfl rfl (ev_move rfl) .free rfl ?_; refine v_nil ?_
    refine t_two rfl rfl ?_ ?_
    · skip
      refine p_call rfl (en_f Tryz.call49 rfl) (clone64v_ok _ _ q cap ws hwn hwq hwl.up) .free rfl rfl ?_ ?_
      rotate_left
      · rintro _ _ ⟨⟩
      rintro tsv _ ⟨htsv, rfl⟩
      refine p_nil ?_; refine t_on ?_; refine t_fin ?_; refine v_mark rfl rfl ?_; refine p_chg rfl (ch_makeMap .u64 i64) .free rfl rfl ?_
      rintro _ _ ⟨mw, rfl, rfl⟩
      refine p_nil ?_; refine v_on ?_; refine v_val rfl rfl rfl (ev_build rfl (bld_115_0_1_2_3_4_5_6_7 _ _ _ _ _ _ _ _ _ _ _ _ (by first | rfl | assumption) rfl rfl rfl (by first | rfl | assumption) (by first | rfl | assumption))) .free rfl ?_; refine v_mark rfl rfl ?_; refine p_chg rfl (ch_boxA rfl) .free rfl rfl ?_
      rintro _ _ ⟨b25, rfl, rfl⟩
      refine p_nil ?_; refine v_off rfl ?_; refine v_val rfl rfl rfl (ev_assign rfl) .free rfl ?_; refine v_nil ?_
      exact fun a w st_ => ⟨b25, st_.to ⟨rfl, trivial⟩ (fun hh => (col_holds (S := newCol bd c b ws) hsv htsv ((hh.dp [3, 3]).pk [0, 2, 1])))⟩
    · skip
      refine p_chg rfl (ch_makeMap .u64 i64) .free rfl rfl ?_
      rintro _ _ ⟨mw, rfl, rfl⟩
      refine p_nil ?_; refine t_on ?_; refine t_fin ?_; refine v_mark rfl rfl ?_
      refine p_call rfl (en_f Tryz.call49 rfl) (clone64v_ok _ _ q cap ws hwn hwq hwl.up) .free rfl rfl ?_ ?_
      rotate_left
      · rintro _ _ ⟨⟩
      rintro tsv _ ⟨htsv, rfl⟩
      refine p_nil ?_; refine v_on ?_; refine v_val rfl rfl rfl (ev_build rfl (bld_115_0_1_2_3_4_5_6_7 _ _ _ _ _ _ _ _ _ _ _ _ (by first | rfl | assumption) rfl rfl rfl (by first | rfl | assumption) (by first | rfl | assumption))) .free rfl ?_; refine v_mark rfl rfl ?_; refine p_chg rfl (ch_boxA rfl) .free rfl rfl ?_
      rintro _ _ ⟨b25, rfl, rfl⟩
      refine p_nil ?_; refine v_off rfl ?_; refine v_val rfl rfl rfl (ev_assign rfl) .free rfl ?_; refine v_nil ?_
      exact fun a w st_ => ⟨b25, st_.to ⟨rfl, trivial⟩ (fun hh => (col_holds (S := newCol bd c b ws) hsv htsv ((hh.dp [3, 3]).pk [0, 2])))⟩
  intro x
  refine go_sub (σ' := [(8, ptr x)]) ⟨rfl, trivial⟩ ?_; refine g_ret ?_
  exact ret_tmp Tryz.results16 rfl (fun w hh => ⟨_, ⟨_, rfl, rfl⟩, hh⟩)
end Go.Proofs.YtbfheafpecgphaaGreat
namespace Go.Proofs.YtbfheafpecgphaaGreat
open Go
abbrev secOp (i v : Int) (s : Dev) (S : SecS) : Out (Int × SecS) := S.store s i v
def SecS.fresh (S : SecS) (f t : Int) : SecS := { S with ff := f, ft := t, seen := [], dirty := [] }
def flipM (c : Cfg) (b : Blk) (S : SecS) (s : Dev) : Out (Int × SecS) :=
  (writeM secOp c b s (S.fresh 0 0)).then fun x s1 => if x.1 ≠ 0 then (x.2.abort s1).then fun S2 s2 => .ok (x.1, S2) s2
    else (x.2.commit s1).then fun S2 s2 => .ok (0, S2) s2
def collectM (bd : Nat) (c : Cfg) (S : SecS) (s : Dev) (ws : List Int) : Out (Option ColS × Int × SecS) :=
  if (s.block c).2 ≠ 0 then .ok (none, (s.block c).2, S) s
  else ((newCol bd c (s.block c).1 ((s.block c).1.rts ++ ws)).run s).then fun X s1 => (flipM c X.block S s1).then fun x s2 =>
    if x.1 ≠ 0 then .ok (none, x.1, x.2) s2 else .ok (some X, 0, x.2) s2
theorem block_rl0 {s : Dev} {c : Cfg} (hc : CfgW c) (h : (s.block c).2 = 0) : 0 < (s.block c).1.rts.length := by
  have := hc.r1
  unfold Dev.block at h ⊢
  split at h
  · cases h
  · rename_i h1; rw [if_neg h1]; simp only [tab_len]; omega
theorem mset_len {α : Type} (l : List (Int × α)) (k : Int) (a : α) : (mset l k a).length ≤ l.length + 1 := by
  induction l with
  | nil => simp [mset]
  | cons p t ih => unfold mset; split <;> simp <;> omega
theorem sstore_dirty {S S' : SecS} {s s' : Dev} {i v a : Int} (e : S.store s i v = .ok (a, S') s') : S'.dirty.length ≤ S.dirty.length + 1 := by
  have h1 := mset_len S.dirty (i / 8) ()
  unfold SecS.store at e
  split at e
  · cases e; omega
  · split at e
    · obtain ⟨x, t, e1, e⟩ := then_inv e
      split at e
      · cases e; simp only; omega
      · obtain ⟨y, u, e2, e⟩ := then_inv e
        cases e; exact h1
    · obtain ⟨y, u, e2, e⟩ := then_inv e
      cases e; exact h1
theorem writeN_dirty : ∀ (l : List Int) (i : Int) (S S' : SecS) (s s' : Dev) (a : Int), writeN secOp l i s S = .ok (a, S') s' → S'.dirty.length ≤ S.dirty.length + l.length
  | [], i, S, S', s, s', a, e => by cases e; simp
  | v :: vs, i, S, S', s, s', a, e => by
    unfold writeN at e
    split at e
    · have := writeN_dirty vs _ _ _ _ _ _ e; simp only [List.length_cons]; omega
    · obtain ⟨⟨x, S1⟩, s1, e1, e⟩ := then_inv e
      have h1 := sstore_dirty e1
      split at e
      · cases e; simp only [List.length_cons]; omega
      · have := writeN_dirty vs _ _ _ _ _ _ e; simp only [List.length_cons] at this ⊢; omega
structure SecK (S : SecS) (bd : Nat) (c : Cfg) (s : Dev) : Prop where
  w : LogW S.L
  n : s.n ≤ 1000000
  d : S.L.d = bd
  c : S.L.c = c
theorem flip_ok (B : World) (Fr : List HP) (bs x bd : Nat) (S : SecS) (X : ColS) (hX : ColW X) (hrl0 : 0 < X.b.rts.length) (c : Cfg) (s : Dev) (hu : U64 s) (hK : SecK S bd c s) :
    ∀ w, Holds B (SecC bs S :: ColA x X :: DevA bd s :: Fr) w → Calls Tryz.prog 19 [ptr bd, cfgV c, ptr bs, ptr x].toArray w (Ret B (fun rv H' => ∃ a S' s', flipM c X.block S s = .ok (a, S') s' ∧ rv = i64 a ∧ H' = SecC bs S' :: ColA x X :: DevA bd s' :: Fr) (fun ch H' => ∃ s', flipM c X.block S s = .off s' ∧ ch = offc ∧ H' = DevA bd s' :: Fr)) := by
  refine fn_enter Tryz.func19 rfl Tryz.ntmps19 rfl ?_
  have hrl := hX.rl
  have hbb := hX.b.act
  have hbf := hX.free
  have hbw : ∀ v ∈ X.block.rts, 0 ≤ v ∧ v < 18446744073709551616 := fun v hv => by
    obtain ⟨u, _, rfl⟩ := List.mem_map.1 hv
    have := hX.vb u
    omega
  have hfb := hX.fb
  have hto := hX.to_
  refine g_seq ?_; refine g_region ?_; refine p_chg rfl (ch_boxA rfl) .free rfl rfl ?_
  rintro _ _ ⟨b5, rfl, rfl⟩
  refine kPa rfl rfl ?_; refine p_nil ?_; refine g_seq ?_; refine g_seq ?_; refine g_region ?_; refine kPm rfl rfl ?_; refine kPv (ev_build rfl (bld_41)) rfl ?_; refine go_pk [1] ?_
  refine p_call rfl (en_f Tryz.call18 rfl) (sbeginC_ok B _ bs S 0 0) .free rfl rfl ?_ ?_
  rotate_left
  · rintro _ _ ⟨⟩
  rintro _ _ ⟨rfl, rfl⟩
  refine kPa rfl rfl ?_; refine p_nil ?_; refine g_seq ?_; refine g_region ?_; refine kPm rfl rfl ?_; refine kPv (ev_cmp rfl rfl rfl) rfl ?_; refine p_nil ?_; refine g_iff rfl (rfl) ?_; refine g_skip ?_; refine g_seq ?_; refine g_seq ?_; refine g_drawv [0, 1, 2, 4, 5, 3, 6, 7] [3, 6] [0, 1, 4, 5] [3] [row b5 [i64 c.log, i64 c.roots, i64 c.space] 30] Tryz.mixed (by kernel_rfl) ?_; refine v_hoist rfl rfl rfl (ev_move rfl) .free rfl ?_
  refine v_hoist rfl rfl rfl (ev_loadA Tryz.isAgg30 Tryz.sizeOf30 rfl rfl) .free rfl ?_; refine v_val rfl rfl rfl (ev_move rfl) .free rfl ?_; refine v_hoist rfl rfl rfl (ev_move rfl) .free rfl ?_; refine v_hoist rfl rfl rfl (ev_mkf rfl rfl) .free rfl ?_; refine v_mark rfl rfl ?_; refine go_pk [2] ?_
  refine p_call rfl (en_f Tryz.call76 rfl) (cblock_ok B _ x X hX) .free rfl rfl ?_ ?_
  rotate_left
  · rintro _ _ ⟨⟩
  rintro _ _ ⟨bsv, hbsv, rfl, rfl⟩
  refine go_vecq fun qb cb hqb hqi => ?_
  subst hqb
  refine p_nil ?_; refine v_on ?_; refine v_mark rfl rfl ?_; refine go_pk [4, 2] ?_
  refine p_call rfl (en_f Tryz.call75 rfl) (rwrite_ok B _ _ _ bd bs SecS (fun b S => SecO b S) _ _ (storeS B bd bs c) c (hK.c ▸ hK.w.c) X.block (by simp only [ColS.block]; omega) hbw (by simp only [ColS.block, List.length_map]; omega) (by simp only [ColS.block, List.length_map]; omega) (.slice qb X.block.rts.length cb) rfl (vec_slr 0 rfl) s (S.fresh 0 0) ⟨hu, hK.n, ⟨hK.w, fun _ h => (by cases h)⟩, hK.d, hK.c⟩) .free rfl rfl ?_ ?_
  rotate_left
  · rintro _ _ ⟨s9, hm9, rfl, rfl⟩
    exact pan_fn fun w hh => ⟨_, ⟨s9, by unfold flipM writeM; rw [show writeN secOp (X.block.act :: X.block.used :: X.block.rts) c.active s (S.fresh 0 0) = .off s9 from hm9]; rfl, rfl, rfl⟩, hh.dp [1, 1, 1]⟩
  rintro _ _ ⟨a2, S2, s2, hm2, rfl, hok2, rfl⟩
  obtain ⟨hu2, hn2, hw2, hd2, hc2⟩ := hok2
  obtain rfl := hd2
  refine p_nil ?_; refine v_off rfl ?_; refine v_val rfl rfl rfl (ev_assign rfl) .free rfl ?_; refine v_nil ?_; refine go_sub (σ' := [(10, _), (8, _), (2, _)]) ⟨rfl, rfl, rfl, trivial⟩ ?_; refine g_seq ?_; refine g_region ?_; refine kPm rfl rfl ?_; refine kPv (ev_cmp rfl rfl rfl) rfl ?_; refine p_nil ?_
  refine g_if rfl (fun h25 => ?_) (fun h25 => ?_)
  · have he : a2 ≠ 0 := by simpa using h25
    refine g_seq ?_; refine g_region ?_; refine kPm rfl rfl ?_; refine go_pk [1, 0] ?_
    refine p_call rfl (en_f Tryz.call20 rfl) (sabortO_ok B _ bs S2 s2 hw2) .free rfl rfl ?_ ?_
    rotate_left
    · rintro _ _ ⟨s9, hm9, rfl, rfl⟩
      exact pan_fn fun w hh => ⟨_, ⟨s9, by unfold flipM; rw [hm2]; simp only [then_ok]; rw [if_pos he, hm9]; rfl, rfl, rfl⟩, hh.dp [1, 1, 1]⟩
    rintro _ _ ⟨S3, s3, hm3, rfl, rfl⟩
    refine p_nil ?_; refine g_seq ?_; refine g_region ?_; refine kPm rfl rfl ?_; refine kPa rfl rfl ?_; refine p_nil ?_; refine g_ret ?_
    exact ret_tmp Tryz.results19 rfl (fun w hh => ⟨_, ⟨a2, S3, s3, by unfold flipM; rw [hm2]; simp only [then_ok]; rw [if_pos he, hm3]; rfl, rfl, rfl⟩, ((hh.dp [2, 3]).pk [0, 1])⟩)
  · have he : ¬ a2 ≠ 0 := by simpa using h25
    refine g_skip ?_; refine g_seq ?_; refine g_region ?_; refine kPm rfl rfl ?_; refine go_pk [1, 0] ?_
    refine p_call rfl (en_f Tryz.call78 rfl) (scommitO_ok B _ bs S2 s2 hw2 (by have := writeN_dirty _ _ _ _ _ _ _ hm2; simp only [SecS.fresh, ColS.block, List.length_cons, List.length_map, List.length_nil] at this; omega)) .free rfl rfl ?_ ?_
    rotate_left
    · rintro _ _ ⟨s9, hm9, rfl, rfl⟩
      exact pan_fn fun w hh => ⟨_, ⟨s9, by unfold flipM; rw [hm2]; simp only [then_ok]; rw [if_neg he, hm9]; rfl, rfl, rfl⟩, hh.dp [1, 1, 1]⟩
    rintro _ _ ⟨S3, s3, hm3, rfl, rfl⟩
    refine kPa rfl rfl ?_; refine p_nil ?_; refine g_ret ?_
    exact ret_tmp Tryz.results19 rfl (fun w hh => ⟨_, ⟨0, S3, s3, by unfold flipM; rw [hm2]; simp only [then_ok]; rw [if_neg he, hm3]; rfl, rfl, rfl⟩, ((hh.dp [2, 3]).pk [0, 1])⟩)
theorem ch_append_vecs0 {B : World} {σ : Env} {Fr : List HP} {P : Program} {T : TypeId} {enc : Int → Value} {sv : Value} {xs : List Int} {d : Option Tmp} {ty : TypeId} {p : String} {af : Array Edge} {g : Option (Nat × Bool)} {t : TypeId} {x y : Operand} {at_ : Array TypeId} {u : TypeId} {ud : TypeDesc} {ys : List Int} {z yv : Value}
    (ha : at_[0]? = some t) (ha' : at_[1]? = some u) (ht : ∀ w, (underlying t).run P w = .ok (.slice T) w) (hu : ∀ w, (underlying u).run P w = .ok ud w) (hud : ∃ q, ud = .slice q) (hs : ∀ w, (sizeOf T).run P w = .ok 1 w) (hz : ∀ w, (zeroValue T).run P w = .ok z w) (hz1 : cell1 z = true) (he1 : ∀ v, cell1 (enc v) = true) (hfb : fewBytes P T)
    (hx : evO σ x = some sv) (hy : evO σ y = some yv) (hr : SlR B Fr yv (ys.map enc)) (hn : xs.length + ys.length ≤ 1000000000) :
    Chg P B σ (VecA T enc 0 (sv, xs) :: Fr) ⟨d, .call ⟨.builtin .append, #[x, y], at_⟩, ty, p, af, g⟩ (fun v' H' => cell1 v' = true ∧ H' = VecA T enc 0 (v', xs ++ ys) :: Fr) := by
  by_cases h0 : 0 < ys.length
  · exact ch_append_vecs ha ha' ht hu hud hs hz hz1 he1 hfb hx hy hr h0 hn
  obtain rfl : ys = [] := List.length_eq_zero_iff.1 (by omega)
  intro a w kn hh
  obtain ⟨q, rfl⟩ := hud
  obtain ⟨sq, scap, e0, _⟩ := hr.ex
  subst e0
  have hf : (Builtin.firstCells 1 0 (.slice sq 0 scap)).run P w = .ok #[] w := by
    have := hr.first (P := P) (w := w) hh.tail 0 (Nat.zero_le _)
    simpa using this
  have hsl : ∃ q n c, sv = .slice q n c ∧ n ≤ c := by
    rcases holds_vec hh with ⟨_, h2, _⟩ | ⟨bd, pre, rest, k, _, h1, _⟩
    · exact ⟨_, _, _, h2, Nat.le_refl _⟩
    · exact ⟨_, _, _, h1, Nat.le_add_right _ _⟩
  obtain ⟨q2, n2, c2, rfl, hc2⟩ := hsl
  refine ⟨.value (.slice q2 n2 c2), w, ?_, _, .inl rfl, _, ⟨rfl, rfl⟩, by simpa using hh⟩
  simp only [execOp, resolve, Sem.run_bind, Sem.run_pure, Result.andThen_ok]
  simp only [List.map_nil, List.length_nil] at hy
  cases q2 <;> simp [invoke, builtin, Builtin.append_, ha, ha', hu, kn.eval hx, kn.eval hy, ht, hs, Builtin.lenOf, hc2, hf, storeCells]
theorem store_n {s s' : Dev} {i v a : Int} (e : s.store i v = .ok a s') : s'.n = s.n := by
  unfold Dev.store at e
  split at e
  · cases e; rfl
  split at e
  · cases e
  · cases e; rfl
theorem flush_n {s s' : Dev} {i a : Int} (e : s.flush i = .ok a s') : s'.n = s.n := by
  unfold Dev.flush at e
  split at e
  · cases e; rfl
  split at e
  · cases e
  · cases e; rfl
theorem fence_n {s s' : Dev} {a : Unit} (e : s.fence = .ok a s') : s'.n = s.n := by
  unfold Dev.fence at e
  split at e
  · cases e
  · cases e; rfl
theorem cpyN_n : ∀ (k : Nat) (i a f : Int) (s s' : Dev), cpyN k i a f s = .ok () s' → s'.n = s.n
  | 0, _, _, _, s, s', e => by cases e; rfl
  | k + 1, i, a, f, s, s', e => by
    rw [cpyN_succ] at e
    obtain ⟨_, s1, e1, e⟩ := then_inv e
    exact (cpyN_n k _ _ _ _ _ e).trans (store_n e1)
theorem copied_n {S : ColS} {s s' : Dev} {w : Int} {r : Int × ColS} (e : S.copied s w = .ok r s') : s'.n = s.n := by
  unfold ColS.copied at e
  split at e
  · cases e; rfl
  split at e
  · cases e; rfl
  split at e
  · cases e; rfl
  obtain ⟨_, s1, e1, e⟩ := then_inv e
  cases e
  exact cpyN_n _ _ _ _ _ _ e1
theorem refsN_n : ∀ (k : Nat) (i : Int) (S S' : ColS) (s s' : Dev), refsN k i S s = .ok S' s' → s'.n = s.n
  | 0, _, S, S', s, s', e => by cases e; rfl
  | k + 1, i, S, S', s, s', e => by
    rw [refsN_succ] at e
    split at e
    · exact refsN_n k _ _ _ _ _ e
    · obtain ⟨r, s1, e1, e⟩ := then_inv e
      obtain ⟨_, s2, e2, e⟩ := then_inv e
      exact ((refsN_n k _ _ _ _ _ e).trans (store_n e2)).trans (copied_n e1)
theorem keepN_n : ∀ (f : Nat) (i e : Int) (s s' : Dev) (a : Unit), keepN f i e s = .ok a s' → s'.n = s.n
  | 0, _, _, s, s', a, e => by cases e; rfl
  | f + 1, i, e', s, s', a, e => by
    rw [keepN_succ] at e
    split at e
    · obtain ⟨_, s1, e1, e⟩ := then_inv e
      exact (keepN_n f _ _ _ _ _ e).trans (flush_n e1)
    · cases e; rfl
theorem step_n {S : ColS} {s s' : Dev} {r : Bool × ColS} (e : S.step s = .ok r s') : s'.n = s.n := by
  unfold ColS.step at e
  split at e
  · cases e; rfl
  split at e
  · obtain ⟨_, s1, e1, e⟩ := then_inv e
    cases e; exact copied_n e1
  · split at e
    · obtain ⟨_, s1, e1, e⟩ := then_inv e
      cases e; exact refsN_n _ _ _ _ _ _ e1
    · obtain ⟨_, s1, e1, e⟩ := then_inv e
      cases e
      unfold ColS.keep at e1
      obtain ⟨_, s2, e2, e1⟩ := then_inv e1
      have h2 := keepN_n _ _ _ _ _ _ e2
      split at e1
      · exact (fence_n e1).trans h2
      · cases e1; exact h2
theorem run_n {S S' : ColS} {s s' : Dev} (e : S.run s = .ok S' s') : s'.n = s.n := by
  unfold ColS.run at e
  revert e
  generalize S.meas + 1 = f
  intro e
  induction f generalizing S s with
  | zero => cases e; rfl
  | succ f ih =>
    rw [runN_succ] at e
    obtain ⟨r, s1, e1, e⟩ := then_inv e
    split at e
    · cases e; exact step_n e1
    · exact (ih e).trans (step_n e1)
theorem fcollect_ok (B : World) (Fr : List HP) (bs bd : Nat) (S : SecS) (c : Cfg) (hc : CfgW c) (s : Dev) (hu : U64 s) (hK : SecK S bd c s) (q : Option Addr) (cap : Nat) (ws : List Int) (hwn : ws.length ≤ 900000) (hws : ∀ v ∈ ws, 0 ≤ v ∧ v < 18446744073709551616) (hwl : SlR B Fr (.slice q ws.length cap) (ws.map w64)) :
    ∀ w, Holds B (SecC bs S :: DevA bd s :: Fr) w → Calls Tryz.prog 14 [ptr bd, cfgV c, ptr bs, .slice q ws.length cap].toArray w (Ret B (fun rv H' => ∃ r s', collectM bd c S s ws = .ok r s' ∧ ((r.1 = none ∧ rv = .tuple #[.pointer none, i64 r.2.1] ∧ H' = SecC bs r.2.2 :: DevA bd s' :: Fr) ∨ (∃ x X, r.1 = some X ∧ r.2.1 = 0 ∧ rv = .tuple #[ptr x, i64 0] ∧ H' = ColA x X :: SecC bs r.2.2 :: DevA bd s' :: Fr))) (fun ch H' => ∃ s', collectM bd c S s ws = .off s' ∧ ch = offc ∧ H' = DevA bd s' :: Fr)) := by
  refine fn_enter Tryz.func14 rfl Tryz.ntmps14 rfl ?_; refine g_seq ?_; refine g_region ?_; refine p_chg rfl (ch_boxA rfl) .free rfl rfl ?_
  rintro _ _ ⟨b5, rfl, rfl⟩
  refine kPa rfl rfl ?_; refine kPa rfl rfl ?_; refine p_nil ?_; refine g_seq ?_; refine g_seq ?_; refine g_region ?_; refine kPm rfl rfl ?_; refine p_callq rfl (en_f Tryz.call53 rfl) (ro_at (q := SecC) (fun Fr => sopenC_ok B Fr bs S)) .free rfl rfl ?_; refine p_nil ?_; refine g_iff rfl (rfl) ?_; refine g_skip ?_; refine g_seq ?_; refine g_region ?_; refine kPm rfl rfl ?_; refine kPv (ev_loadA Tryz.isAgg30 Tryz.sizeOf30 rfl rfl) rfl ?_; refine go_pk [2] ?_
  refine p_call rfl (en_f Tryz.call15 rfl) (rread_ok _ _ _ _ c hc hu) .free rfl rfl ?_ ?_
  rotate_left
  · rintro _ _ ⟨⟩
  rintro _ _ ⟨sv, hsv, rfl, rfl⟩
  have hbk := block_w (s := s) hc hu
  have hrl := block_len (s := s) hc
  refine kPm rfl rfl ?_; refine kPv (ev_ext rfl rfl) rfl ?_; refine kPv (ev_ext rfl rfl) rfl ?_; refine p_chg rfl (ch_allocA Tryz.zeroValue33 rfl) .free rfl rfl ?_
  rintro _ _ ⟨b10, rfl, rfl⟩
  refine p_chg0 rfl (ch_storeA (vs := _) Tryz.sizeOf33 rfl rfl rfl (by first | rfl | exact all3 (by assumption)) rfl) .free rfl ?_
  rintro _ _ rfl
  refine kPa rfl rfl ?_; refine p_nil ?_; refine go_sub (σ' := [(11, _), (10, _), (9, _), (8, _), (5, _), (0, _), (2, _), (3, _)]) ⟨rfl, rfl, rfl, rfl, rfl, rfl, rfl, rfl, trivial⟩ ?_; refine g_seq ?_; refine g_seq ?_; refine g_region ?_; refine kPm rfl rfl ?_; refine kPv (ev_cmp rfl rfl rfl) rfl ?_; refine p_nil ?_
  refine g_if rfl (fun h23 => ?_) (fun h23 => ?_)
  · have he : (s.block c).2 ≠ 0 := by simpa using h23
    have hres : collectM bd c S s ws = .ok (none, (s.block c).2, S) s := by unfold collectM; rw [if_pos he]
    refine g_seq ?_; refine g_region ?_; refine kPm rfl rfl ?_; refine kPa rfl rfl ?_; refine kPa rfl rfl ?_; refine p_nil ?_; refine g_ret ?_
    exact ret_tmp2 Tryz.results14 rfl rfl (fun w hh => ⟨_, ⟨_, _, hres, .inl ⟨rfl, rfl, rfl⟩⟩, ((hh.dp [0, 0, 1]).pk [1])⟩)
  · have he : (s.block c).2 = 0 := by simpa using h23
    have hrl0 : 0 < (s.block c).1.rts.length := block_rl0 hc he
    refine go_pk [1] ?_; refine go_vecq fun qo co hqo hqoi => ?_
    subst hqo
    refine go_conv (H' := VecU 0 (.slice qo (s.block c).1.rts.length co, (s.block c).1.rts) :: row b10 [i64 (s.block c).1.act, i64 (s.block c).1.used, .slice qo (s.block c).1.rts.length co] 33 :: DevA bd s :: row b5 [i64 c.log, i64 c.roots, i64 c.space] 30 :: SecC bs S :: Fr) (fun w hh => hh) ?_; refine g_skip ?_; refine g_seq ?_
    refine g_drawv [0, 1, 2, 4, 5, 7, 3, 6, 8, 9, 10] [3, 6, 8, 9] [0, 1, 2, 4, 5, 7] [3, 6, 8] [row b5 [i64 c.log, i64 c.roots, i64 c.space] 30, row b10 [i64 (s.block c).1.act, i64 (s.block c).1.used, .slice qo (s.block c).1.rts.length co] 33] Tryz.mixed (by kernel_rfl) ?_; refine v_hoist rfl rfl rfl (ev_move rfl) .free rfl ?_; refine v_hoist rfl rfl rfl (ev_loadA Tryz.isAgg30 Tryz.sizeOf30 rfl rfl) .free rfl ?_
    refine v_hoist rfl rfl rfl (ev_loadA Tryz.isAgg33 Tryz.sizeOf33 rfl rfl) .free rfl ?_; refine v_hoist rfl rfl rfl (ev_fa (m := _) fa_33_2 rfl rfl) .free rfl ?_; refine v_hoist rfl rfl rfl (ev_load Tryz.isAgg31 rfl rfl) .free rfl ?_; refine v_hoist rfl rfl rfl (ev_move rfl) .free rfl ?_; refine v_mark rfl rfl ?_; refine p_chg rfl (ev_bs0 Tryz.runUnderlying31 Tryz.sizeOf52) .free rfl rfl ?_
    rintro _ _ ⟨b28, rfl, rfl⟩
    refine go_conv (H' := VecU 0 (.slice (some ⟨b28, 0, none⟩) 0 0, []) :: _) (fun w hh => vec_row (xs := []) rfl rfl hh) ?_; refine p_nil ?_; refine v_on ?_; refine v_mark rfl rfl ?_; refine p_chg rfl (ch_append_vecs0 (yv := .slice qo (s.block c).1.rts.length co) (ys := (s.block c).1.rts) rfl rfl Tryz.runUnderlying31 Tryz.runUnderlying31 ⟨_, rfl⟩ Tryz.sizeOf52 Tryz.zeroValue52 rfl (fun _ => rfl) tb_52 rfl rfl (vec_slr 0 rfl) (by simp; omega)) .free rfl rfl ?_
    rintro nv2 _ ⟨hnv2, rfl⟩
    refine p_nil ?_; refine v_on ?_; refine v_mark rfl rfl ?_; refine p_chg rfl (ch_append_vecs0 (yv := .slice q ws.length cap) (ys := ws) rfl rfl Tryz.runUnderlying31 Tryz.runUnderlying31 ⟨_, rfl⟩ Tryz.sizeOf52 Tryz.zeroValue52 rfl (fun _ => rfl) tb_52 rfl rfl hwl.up (by simp; omega)) .free rfl rfl ?_
    rintro nv3 _ ⟨hnv3, rfl⟩
    refine go_vecq fun qn cn hqn0 hqni => ?_
    subst hqn0
    have hqn : qn = none → (s.block c).1.rts ++ ws = [] := fun e => by
      cases hl : (s.block c).1.rts ++ ws with
      | nil => rfl
      | cons a t =>
        obtain ⟨b, o, h⟩ := hqni 0 (by show 0 < ((s.block c).1.rts ++ ws).length; rw [hl]; exact Nat.succ_pos _)
        rw [e] at h; cases h
    refine p_nil ?_; refine v_on ?_; refine v_mark rfl rfl ?_; refine go_pk [1] ?_
    refine p_call rfl (en_f Tryz.call16 rfl) (cnew_ok B _ bd c hc (s.block c).1 hbk (.slice qo (s.block c).1.rts.length co) rfl qn cn ((s.block c).1.rts ++ ws) (by rw [List.length_append]; omega) hqn (vec_slr 1 rfl)) .free rfl rfl ?_ ?_
    rotate_left
    · rintro _ _ ⟨⟩
    rintro _ _ ⟨x, rfl, rfl⟩
    have hX0 : ColW (newCol bd c (s.block c).1 ((s.block c).1.rts ++ ws)) := newCol_w hc hbk hrl (block_rts hu) (fun v hv => by
      rcases List.mem_append.1 hv with hv | hv
      · exact block_rts hu v hv
      · exact hws v hv)
    refine p_nil ?_; refine v_off rfl ?_; refine v_val rfl rfl rfl (ev_assign rfl) .free rfl ?_; refine v_nil ?_; refine go_sub (σ' := [(12, _), (9, _), (8, _), (5, _), (0, _), (2, _)]) ⟨rfl, rfl, rfl, rfl, rfl, rfl, trivial⟩ ?_; refine g_seq ?_; refine g_region ?_; refine kPm rfl rfl ?_; refine go_pk [0, 2] ?_
    refine p_call rfl (en_f Tryz.call17 rfl) (crun_ok B _ x (newCol bd c (s.block c).1 ((s.block c).1.rts ++ ws)) hX0 s hu) .free rfl rfl ?_ ?_
    rotate_left
    · rintro _ _ ⟨s9, hm9, rfl, rfl⟩
      exact pan_fn fun w hh => ⟨_, ⟨s9, by unfold collectM; rw [if_neg (by omega)]; rw [hm9]; rfl, rfl, rfl⟩, hh.dp [1, 1, 1, 1]⟩
    rintro _ _ ⟨X, s1, hm1, rfl, rfl⟩
    obtain ⟨hX, hu1, hXb, hXbd, hXc, hXto⟩ := runN_w _ _ _ _ _ hX0 hu hm1
    have hn1 := run_n hm1
    refine p_nil ?_; refine g_seq ?_; refine g_seq ?_; refine g_region ?_; refine kPm rfl rfl ?_; refine kPv (ev_loadA Tryz.isAgg30 Tryz.sizeOf30 rfl rfl) rfl ?_; refine kPm rfl rfl ?_; refine kPm rfl rfl ?_; refine go_pk [5, 0, 0] ?_
    refine p_call rfl (en_f Tryz.call19 rfl) (flip_ok B _ bs x bd S X hX (by rw [hXb]; exact hrl0) c s1 hu1 ⟨hK.w, by rw [hn1]; exact hK.n, hK.d, hK.c⟩) .free rfl rfl ?_ ?_
    rotate_left
    · rintro _ _ ⟨s9, hm9, rfl, rfl⟩
      exact pan_fn fun w hh => ⟨_, ⟨s9, by unfold collectM; rw [if_neg (by omega)]; rw [hm1]; simp only [then_ok]; rw [hm9]; rfl, rfl, rfl⟩, hh.dp [1, 1, 1]⟩
    rintro _ _ ⟨a2, S2, s2, hm2, rfl, rfl⟩
    refine kPa rfl rfl ?_; refine p_nil ?_; refine go_sub (σ' := [(13, _), (12, _), (9, _), (8, _)]) ⟨rfl, rfl, rfl, rfl, trivial⟩ ?_; refine g_seq ?_; refine g_region ?_; refine kPm rfl rfl ?_; refine kPv (ev_cmp rfl rfl rfl) rfl ?_; refine p_nil ?_
    refine g_if rfl (fun h43 => ?_) (fun h43 => ?_)
    · have ha2 : a2 ≠ 0 := by simpa using h43
      refine g_seq ?_; refine g_region ?_; refine kPm rfl rfl ?_; refine kPa rfl rfl ?_; refine kPa rfl rfl ?_; refine p_nil ?_; refine g_ret ?_
      exact ret_tmp2 Tryz.results14 rfl rfl (fun w hh => ⟨_, ⟨(none, a2, S2), s2, by unfold collectM; rw [if_neg (by omega), hm1]; simp only [then_ok]; rw [hm2]; simp only [then_ok]; rw [if_pos ha2], .inl ⟨rfl, rfl, rfl⟩⟩, (hh.dp [1, 2, 2, 2])⟩)
    · have ha2 : ¬ a2 ≠ 0 := by simpa using h43
      refine g_skip ?_; refine g_seq ?_; refine g_region ?_; refine kPm rfl rfl ?_; refine kPa rfl rfl ?_; refine kPa rfl rfl ?_; refine p_nil ?_; refine g_ret ?_
      exact ret_tmp2 Tryz.results14 rfl rfl (fun w hh => ⟨_, ⟨(some X, 0, S2), s2, by unfold collectM; rw [if_neg (by omega), hm1]; simp only [then_ok]; rw [hm2]; simp only [then_ok]; rw [if_neg ha2], .inr ⟨x, X, rfl, rfl, rfl, rfl⟩⟩, ((hh.dp [3, 3, 3]).pk [1])⟩)
end Go.Proofs.YtbfheafpecgphaaGreat
namespace Go.Proofs.YtbfheafpecgphaaGreat
open Go
def blkIs (x : Blk × Int) (b : Blk) (e : Int) : Bool := x.1.act == b.act && x.1.used == b.used && x.1.rts == b.rts && x.2 == e
theorem blkIs_eq {x : Blk × Int} {b : Blk} {e : Int} (h : blkIs x b e = true) : x = (b, e) := by
  obtain ⟨⟨a1, a2, a3⟩, a4⟩ := x
  obtain ⟨b1, b2, b3⟩ := b
  simp only [blkIs, Bool.and_eq_true, beq_iff_eq] at h
  obtain ⟨⟨⟨rfl, rfl⟩, rfl⟩, rfl⟩ := h
  rfl
def prIs (x : Int × Int) (a e : Int) : Bool := x.1 == a && x.2 == e
theorem prIs_eq {x : Int × Int} {a e : Int} (h : prIs x a e = true) : x = (a, e) := by
  simp only [prIs, Bool.and_eq_true, beq_iff_eq] at h
  exact Prod.ext h.1 h.2
def obIs (x : Obj3 × Int) (o : Obj3) (e : Int) : Bool := x.1.1 == o.1 && x.1.2.1 == o.2.1 && x.1.2.2 == o.2.2 && x.2 == e
theorem obIs_eq {x : Obj3 × Int} {o : Obj3} {e : Int} (h : obIs x o e = true) : x = (o, e) := by
  simp only [obIs, Bool.and_eq_true, beq_iff_eq] at h
  exact Prod.ext (Prod.ext h.1.1.1 (Prod.ext h.1.1.2 h.1.2)) h.2
theorem cfg48 : CfgW ⟨3, 1, 48⟩ := ⟨by decide, by decide, by decide, by decide, by decide, by decide⟩
theorem mkC48 : (⟨3, 1, 48⟩ : Cfg) = mkC 0 0 40 := rfl
abbrev c8 : Cfg := ⟨3, 1, 8⟩
abbrev c48 : Cfg := ⟨3, 1, 48⟩
theorem n48 {N : Nat} (h : (N : Int) = c48.words) : N = 136 := by have : (N : Int) = 136 := h.trans (by decide); omega
theorem owriteD_ok (B : World) (Fr : List HP) (bd : Nat) (o : Obj3) (ho : ObjW o) (i v : Int) (hv : 0 ≤ v ∧ v < 18446744073709551616) (s : Dev) (hl : s.pow.lim < 0) (hu : U64 s) :
    ∀ w_, Holds B (DevA bd s :: Fr) w_ → Calls Tryz.prog 150 [objV o, i64 i, w64 v, .func (.func 70) [ptr bd].toArray #[]].toArray w_ (Ret B (fun rv H' => ∃ x s', setM devOp o i false v s () = .ok (x, ()) s' ∧ rv = i64 x ∧ s'.pow.lim < 0 ∧ s'.n = s.n ∧ U64 s' ∧ H' = DevA bd s' :: Fr) (fun _ _ => False)) := fun w_ hh => by
  obtain ⟨y, s2, hg, _, hg2, hg3⟩ := good_set (o := o) (i := i) (v := v) (r := false) hl
  refine (owrite_ok B Fr _ [ptr bd] bd 0 Unit (fun _ _ => pr True) devOp _ (storeD B bd 0) o ho i v hv s () hu w_ ((hh.unpr (p := True) trivial).back 1 (by simp))).mono fun en w' h => ?_
  cases en with
  | returned rv =>
    obtain ⟨H, ⟨x, e', s', hm, rfl, hok, rfl⟩, hh⟩ := h
    obtain ⟨rfl, rfl⟩ : y = (x, e') ∧ s2 = s' := by rw [hg] at hm; cases hm; exact ⟨rfl, rfl⟩
    exact ⟨_, ⟨x, s2, hm, rfl, hg2, hg3, hok, rfl⟩, (hh.front 1 rfl).tail⟩
  | panicked c =>
    obtain ⟨H, ⟨s', hm, _⟩, _⟩ := h
    rw [hg] at hm; cases hm
  | outgrown => exact h
theorem d8_eval (pa : Nat) : okB ((dev0 pa [] 56).format c8) (fun _ s => blkIs (s.block c8) ⟨0, 0, [0]⟩ 0) = true := by kernel_rfl
theorem d9_eval (pa : Nat) : okB ((dev0 pa [] 56).format c8) (fun _ s => okB (allocM devOp c8 2 0 s ()) fun x s1 => prIs x.1 40 0 && okB (allocM devOp c8 5 0 s1 ()) fun y _ => prIs y.1 0 4) = true := by kernel_rfl
theorem d10_eval (pa : Nat) : okB ((dev0 pa [] 136).format c48) (fun _ s => okB (fillN c48 [(1, 2)] s []) fun out sF => out == [40] && blkIs (sF.block c48) ⟨0, 3, [0]⟩ 0 && obIs (sF.objOf c48 ⟨0, 3, [0]⟩ 40) (2, 1, 40) 0 && prIs (sF.objRead (2, 1, 40) 0) 0 5 && okB (setM devOp (2, 1, 40) 1 false 9 sF ()) fun a s2 => a.1 == 0 && prIs (s2.objRead (2, 1, 40) 1) 9 0) = true := by kernel_rfl
theorem d11_eval (pa : Nat) : okB ((dev0 pa [] 136).format c48) (fun _ s => okB (fillN c48 [(0, 1)] s []) fun out sF => out == [40] && blkIs (sF.block c48) ⟨0, 2, [0]⟩ 0 && okB (linkObjs c48 ⟨0, 2, [0]⟩ (pickL [] [40] 0) [40] 0 sF) fun n1 s1 => n1 == some 0 && okB (linkRoots c48 (pickL [] [40] 0) 1 0 0 s1) fun _ s2 => blkIs (s2.block c48) ⟨0, 2, [0]⟩ 0 && (s2.starts c48 ⟨0, 2, [0]⟩).1 == [(40, (1, 0, 40))] && (s2.starts c48 ⟨0, 2, [0]⟩).2 == 0) = true := by kernel_rfl
theorem d12_eval (pa : Nat) : okB ((dev0 pa [] 56).format c8) (fun _ s => s.check c8 == 0 && okB (s.store 34 5) fun _ s1 => s1.check c8 == 9) = true := by kernel_rfl
theorem awake8_ok (B : World) (Fr : List HP) :
    ∀ w, Holds B Fr w → Calls Tryz.prog 152 [].toArray w (PureR B Fr (.bool true)) := by
  refine fn_enter Tryz.func152 rfl Tryz.ntmps152 rfl ?_; refine g_seq ?_; refine g_region ?_; refine kPa rfl rfl ?_; refine p_nil ?_; refine g_seq ?_; refine g_seq ?_; refine g_region ?_; refine p_callq rfl (en_f Tryz.call153 rfl) (awake7_ok _ _) .free rfl rfl ?_; refine kPv (ev_not rfl) rfl ?_; refine p_nil ?_; refine g_iff rfl (rfl) ?_; refine g_skip ?_; refine g_seq ?_; refine g_region ?_; refine kPv (ev_build rfl (bld_30_0_1_2 _ _ _ rfl rfl rfl)) rfl ?_
  refine p_chg rfl (ch_allocA Tryz.zeroValue30 rfl) .free rfl rfl ?_
  rintro _ _ ⟨b1, rfl, rfl⟩
  refine p_chg0 rfl (ch_storeA (vs := _) Tryz.sizeOf30 rfl rfl rfl rfl rfl) .free rfl ?_
  rintro _ _ rfl
  refine p_nil ?_; refine g_seq ?_; refine g_region ?_; refine kPv (ev_loadA Tryz.isAgg30 Tryz.sizeOf30 rfl rfl) rfl ?_
  refine p_call rfl (en_f Tryz.call101 rfl) (formatted_ok _ _ ⟨3, 1, 8⟩ cfg1 none 0 [] (by decide) (fun _ h => absurd h (Nat.not_lt_zero _)) SlR.nil) .free rfl rfl ?_ ?_
  rotate_left
  · rintro _ _ ⟨⟩
  rintro _ _ ⟨bd, pa, N, s0, hN, hf, rfl, rfl⟩
  obtain rfl : N = 56 := by have : (N : Int) = 56 := hN.trans (by decide); omega
  have hfm := fmt_of cfg1 hN hf
  have hu0 := format_u64 (dev0_u64 pa 56) cfg1 hf
  refine kPm rfl rfl ?_; refine kPv (ev_ext rfl rfl) rfl ?_; refine kPv (ev_ext rfl rfl) rfl ?_; refine kPa rfl rfl ?_; refine kPa rfl rfl ?_; refine p_nil ?_; refine go_sub (σ' := [(3, _), (2, _), (1, _), (0, _)]) ⟨rfl, rfl, rfl, rfl, trivial⟩ ?_; refine g_seq ?_; refine g_seq ?_; refine g_region ?_; refine kPm rfl rfl ?_; refine kPv (ev_not rfl) rfl ?_; refine p_nil ?_; refine g_iff rfl (rfl) ?_; refine g_skip ?_; refine g_seq ?_; refine g_region ?_; refine kPm rfl rfl ?_
  refine kPv (ev_loadA Tryz.isAgg30 Tryz.sizeOf30 rfl rfl) rfl ?_
  refine p_call rfl (en_f Tryz.call15 rfl) (rread_ok _ _ _ _ ⟨3, 1, 8⟩ cfg1 hu0) .free rfl rfl ?_ ?_
  rotate_left
  · rintro _ _ ⟨⟩
  rintro _ _ ⟨sv, hsv, rfl, rfl⟩
  rw [blkIs_eq (okB_ok (d8_eval pa) hf)]
  refine go_vecq fun qv cv hqv hqi => ?_
  subst hqv
  refine kPm rfl rfl ?_; refine kPv (ev_ext rfl rfl) rfl ?_; refine kPv (ev_ext rfl rfl) rfl ?_; refine p_chg rfl (ch_allocA Tryz.zeroValue33 rfl) .free rfl rfl ?_
  rintro _ _ ⟨b4, rfl, rfl⟩
  refine p_chg0 rfl (ch_storeA (vs := _) Tryz.sizeOf33 rfl rfl rfl (by first | rfl | exact all3 (by assumption)) rfl) .free rfl ?_
  rintro _ _ rfl
  refine kPa rfl rfl ?_; refine p_nil ?_; refine go_sub (σ' := [(5, _), (4, _), (1, _), (0, _)]) ⟨rfl, rfl, rfl, rfl, trivial⟩ ?_; refine g_seq ?_; refine g_region ?_; refine kPm rfl rfl ?_; refine kPv (ev_cmp rfl rfl rfl) rfl ?_; refine kPm rfl rfl ?_; refine p_val rfl (ev_fa (m := _) fa_33_0 rfl rfl) (.on rfl rfl (beq_eq rfl)) rfl rfl ?_; refine p_val rfl (ev_load Tryz.isAgg3 rfl rfl) (.on rfl rfl (beq_eq rfl)) rfl rfl ?_
  refine p_val rfl (ev_cmp rfl rfl rfl) (.on rfl rfl (beq_eq rfl)) rfl rfl ?_; refine kPv (ev_pick_t rfl rfl rfl) rfl ?_; refine kPm rfl rfl ?_; refine p_val rfl (ev_fa (m := _) fa_33_1 rfl rfl) (.on rfl rfl (beq_eq rfl)) rfl rfl ?_; refine p_val rfl (ev_load Tryz.isAgg3 rfl rfl) (.on rfl rfl (beq_eq rfl)) rfl rfl ?_; refine p_val rfl (ev_cmp rfl rfl rfl) (.on rfl rfl (beq_eq rfl)) rfl rfl ?_; refine kPv (ev_pick_t rfl rfl rfl) rfl ?_; refine kPm rfl rfl ?_
  refine p_val rfl (ev_fa (m := _) fa_33_2 rfl rfl) (.on rfl rfl (beq_eq rfl)) rfl rfl ?_; refine p_val rfl (ev_load Tryz.isAgg31 rfl rfl) (.on rfl rfl (beq_eq rfl)) rfl rfl ?_; refine p_val rfl (ev_len rfl Tryz.runUnderlying31 ⟨_, rfl⟩ rfl) (.on rfl rfl (beq_eq rfl)) rfl rfl ?_; refine p_val rfl (ev_cmp rfl rfl rfl) (.on rfl rfl (beq_eq rfl)) rfl rfl ?_; refine kPv (ev_pick_t rfl rfl rfl) rfl ?_; refine kPm rfl rfl ?_
  refine p_val rfl (ev_loadA Tryz.isAgg33 Tryz.sizeOf33 rfl rfl) (.on rfl rfl (beq_eq rfl)) rfl rfl ?_; refine p_val rfl (ev_loadA Tryz.isAgg30 Tryz.sizeOf30 rfl rfl) (.on rfl rfl (beq_eq rfl)) rfl rfl ?_; refine p_callq rfl (en_f Tryz.call94 rfl) (place_ok _ _ ⟨3, 1, 8⟩ cfg1 ⟨0, 0, [0]⟩ _ ⟨⟨by decide, by decide⟩, ⟨by decide, by decide⟩⟩ hsv 3 (by decide)) (.on rfl rfl (beq_eq rfl)) rfl rfl ?_; refine p_val rfl (ev_cmp rfl rfl rfl) (.on rfl rfl (beq_eq rfl)) rfl rfl ?_
  refine kPv (ev_pick_t rfl rfl rfl) rfl ?_; refine kPa rfl rfl ?_; refine p_nil ?_; refine go_sub (σ' := [(0, _)]) ⟨rfl, trivial⟩ ?_; refine g_ret ?_
  exact ret_tmp Tryz.results152 rfl (fun w hh => ⟨rfl, (hh.dp [0, 0, 0, 0])⟩)
theorem awake9_ok (B : World) (Fr : List HP) :
    ∀ w, Holds B Fr w → Calls Tryz.prog 148 [].toArray w (PureR B Fr (.bool true)) := by
  refine fn_enter Tryz.func148 rfl Tryz.ntmps148 rfl ?_; refine g_seq ?_; refine g_region ?_; refine kPa rfl rfl ?_; refine p_nil ?_; refine g_seq ?_; refine g_seq ?_; refine g_region ?_; refine p_callq rfl (en_f Tryz.call152 rfl) (awake8_ok _ _) .free rfl rfl ?_; refine kPv (ev_not rfl) rfl ?_; refine p_nil ?_; refine g_iff rfl (rfl) ?_; refine g_skip ?_; refine g_seq ?_; refine g_region ?_; refine kPv (ev_build rfl (bld_30_0_1_2 _ _ _ rfl rfl rfl)) rfl ?_
  refine p_chg rfl (ch_allocA Tryz.zeroValue30 rfl) .free rfl rfl ?_
  rintro _ _ ⟨b1, rfl, rfl⟩
  refine p_chg0 rfl (ch_storeA (vs := _) Tryz.sizeOf30 rfl rfl rfl rfl rfl) .free rfl ?_
  rintro _ _ rfl
  refine p_nil ?_; refine g_seq ?_; refine g_region ?_; refine kPv (ev_loadA Tryz.isAgg30 Tryz.sizeOf30 rfl rfl) rfl ?_
  refine p_call rfl (en_f Tryz.call101 rfl) (formatted_ok _ _ ⟨3, 1, 8⟩ cfg1 none 0 [] (by decide) (fun _ h => absurd h (Nat.not_lt_zero _)) SlR.nil) .free rfl rfl ?_ ?_
  rotate_left
  · rintro _ _ ⟨⟩
  rintro _ _ ⟨bd, pa, N, s0, hN, hf, rfl, rfl⟩
  obtain rfl : N = 56 := by have : (N : Int) = 56 := hN.trans (by decide); omega
  have hfm := fmt_of cfg1 hN hf
  have hu0 := format_u64 (dev0_u64 pa 56) cfg1 hf
  refine kPm rfl rfl ?_; refine kPv (ev_ext rfl rfl) rfl ?_; refine kPv (ev_ext rfl rfl) rfl ?_; refine kPa rfl rfl ?_; refine kPa rfl rfl ?_; refine p_nil ?_; refine go_sub (σ' := [(3, _), (2, _), (1, _), (0, _)]) ⟨rfl, rfl, rfl, rfl, trivial⟩ ?_; refine g_seq ?_; refine g_seq ?_; refine g_region ?_; refine kPm rfl rfl ?_; refine kPv (ev_not rfl) rfl ?_; refine p_nil ?_; refine g_iff rfl (rfl) ?_; refine g_skip ?_; refine g_seq ?_; refine g_region ?_; refine kPm rfl rfl ?_
  refine kPv (ev_loadA Tryz.isAgg30 Tryz.sizeOf30 rfl rfl) rfl ?_; refine kPv (ev_build rfl (bld_87_0 _ rfl)) rfl ?_; refine kPm rfl rfl ?_; refine kPv (ev_mkf rfl rfl) rfl ?_
  refine p_call rfl (en_f Tryz.call102 rfl) (allocD_ok _ _ bd ⟨3, 1, 8⟩ cfg1 2 0 s0 hfm.lim hu0) .free rfl rfl ?_ ?_
  rotate_left
  · rintro _ _ ⟨⟩
  rintro _ _ ⟨x1, s1, hm1, rfl, hl1, hn1, hu1, rfl⟩
  have hev := okB_ok (okB_ok (d9_eval pa) hf) hm1
  simp only [Bool.and_eq_true] at hev
  rw [prIs_eq hev.1]
  refine kPm rfl rfl ?_; refine kPv (ev_ext rfl rfl) rfl ?_; refine kPv (ev_ext rfl rfl) rfl ?_; refine kPa rfl rfl ?_; refine kPa rfl rfl ?_; refine p_nil ?_; refine go_sub (σ' := [(5, _), (4, _), (2, _), (1, _), (0, _)]) ⟨rfl, rfl, rfl, rfl, rfl, trivial⟩ ?_; refine g_seq ?_; refine g_region ?_; refine kPm rfl rfl ?_; refine kPv (ev_loadA Tryz.isAgg30 Tryz.sizeOf30 rfl rfl) rfl ?_; refine kPv (ev_build rfl (bld_87_0 _ rfl)) rfl ?_; refine kPm rfl rfl ?_; refine kPv (ev_mkf rfl rfl) rfl ?_
  refine p_call rfl (en_f Tryz.call102 rfl) (allocD_ok _ _ bd ⟨3, 1, 8⟩ cfg1 5 0 s1 hl1 hu1) .free rfl rfl ?_ ?_
  rotate_left
  · rintro _ _ ⟨⟩
  rintro _ _ ⟨x2, s2, hm2, rfl, hl2, hn2, hu2, rfl⟩
  rw [show x2 = ((0 : Int), (4 : Int)) from prIs_eq (okB_ok hev.2 hm2)]
  refine kPm rfl rfl ?_; refine kPv (ev_ext rfl rfl) rfl ?_; refine kPv (ev_ext rfl rfl) rfl ?_; refine kPa rfl rfl ?_; refine kPa rfl rfl ?_; refine p_nil ?_; refine go_sub (σ' := [(7, _), (5, _), (4, _), (1, _), (0, _)]) ⟨rfl, rfl, rfl, rfl, rfl, trivial⟩ ?_; refine g_seq ?_; refine g_region ?_; refine kPm rfl rfl ?_; refine kPv (ev_loadA Tryz.isAgg30 Tryz.sizeOf30 rfl rfl) rfl ?_; refine p_callq rfl (en_f Tryz.call46 rfl) (from_ok _ _ ⟨3, 1, 8⟩ cfg1 0 (by decide) (by decide)) .free rfl rfl ?_
  refine kPv (ev_cmp rfl rfl rfl) rfl ?_; refine kPm rfl rfl ?_; refine p_val rfl (ev_move rfl) (.on rfl rfl (beq_eq rfl)) rfl rfl ?_; refine p_val rfl (ev_cmp rfl rfl rfl) (.on rfl rfl (beq_eq rfl)) rfl rfl ?_; refine kPv (ev_pick_t rfl rfl rfl) rfl ?_; refine kPm rfl rfl ?_; refine p_val rfl (ev_move rfl) (.on rfl rfl (beq_eq rfl)) rfl rfl ?_; refine p_val rfl (ev_cmp rfl rfl rfl) (.on rfl rfl (beq_eq rfl)) rfl rfl ?_; refine kPv (ev_pick_t rfl rfl rfl) rfl ?_; refine kPa rfl rfl ?_
  refine p_nil ?_; refine go_sub (σ' := [(0, _)]) ⟨rfl, trivial⟩ ?_; refine g_ret ?_
  exact ret_tmp Tryz.results148 rfl (fun w hh => ⟨rfl, (hh.dp [0, 0])⟩)
abbrev encH (h : Int × Int) : List Value := [u8 h.1, u8 h.2]
theorem encH_w : EncW 2 encH := ⟨fun _ => rfl, fun _ => rfl⟩
theorem hh1 {a b : Int} (h1 : 0 ≤ a ∧ a < 256) (h2 : 0 ≤ b ∧ b < 256) : ∀ h ∈ [(a, b)], (0 ≤ h.1 ∧ h.1 < 256) ∧ (0 ≤ h.2 ∧ h.2 < 256) := fun h hm => by rw [List.mem_singleton.1 hm]; exact ⟨h1, h2⟩
theorem sln1 {B : World} {H : List HP} {b : Nat} {x y : Value} {T1 : TypeId} {U : List Value → List HP} [RowU H b [x, y] T1 U] {cap : Nat} : SlN B H (.slice (some ⟨b, 0, none⟩) 1 cap) 2 [[x, y]] :=
  SlN.row (cs := [[x, y]]) fun i c h => by
    cases i with
    | zero => cases h; exact ⟨rfl, fun j _ => by rw [Nat.zero_mul, Nat.zero_add, Nat.zero_add]⟩
    | succ i => cases h
theorem awake10_ok (B : World) (Fr : List HP) :
    ∀ w, Holds B Fr w → Calls Tryz.prog 141 [].toArray w (PureR B Fr (.bool true)) := by
  refine fn_enter Tryz.func141 rfl Tryz.ntmps141 rfl ?_; refine g_seq ?_; refine g_region ?_; refine kPa rfl rfl ?_; refine p_nil ?_; refine g_seq ?_; refine g_seq ?_; refine g_region ?_; refine p_callq rfl (en_f Tryz.call148 rfl) (awake9_ok _ _) .free rfl rfl ?_; refine kPv (ev_not rfl) rfl ?_; refine p_nil ?_; refine g_iff rfl (rfl) ?_; refine g_skip ?_; refine g_seq ?_; refine g_region ?_; refine kPv (ev_build rfl (bld_24_2 _ rfl)) rfl ?_
  refine kPv (ev_build rfl (bld_107_0_1 _ _ rfl rfl)) rfl ?_; refine p_chg rfl (ch_bsG encH_w (v := (1, 2)) Tryz.runUnderlying25 Tryz.sizeOf107 Tryz.zeroValue107 ⟨⟨by decide, by decide⟩, rfl⟩ rfl rfl) .free rfl rfl ?_
  rintro _ _ ⟨b17, rfl, rfl⟩
  refine p_call rfl (en_f Tryz.call67 rfl) (filled_ok _ _ 0 0 40 ⟨by decide, by decide, by decide⟩ ⟨3, 1, 48⟩ mkC48 [(1, 2)] (hh1 ⟨by decide, by decide⟩ ⟨by decide, by decide⟩) (by decide) (some ⟨b17, 0, none⟩) 1 sln1) .free rfl rfl ?_ ?_
  rotate_left
  · rintro _ _ ⟨⟩
  rintro _ _ ⟨bd, pa, N, s0, sF, out, ov, sv, hfm, hN, ⟨hus0, hf⟩, hfill, huF, hlF, hnF, hov, hsv, rfl, rfl⟩
  obtain rfl := n48 hN
  have hev := okB_ok (okB_ok (d10_eval pa) hf) hfill
  simp only [Bool.and_eq_true, beq_iff_eq] at hev
  obtain ⟨⟨⟨⟨rfl, e1⟩, e2⟩, e3⟩, e4⟩ := hev
  rw [blkIs_eq e1]
  refine go_pk [2] ?_; refine go_vecq fun qo co hqo hqi => ?_
  subst hqo
  obtain ⟨bO, oO, rfl⟩ := hqi 0 (by decide)
  have ho : ObjW (2, 1, 40) := ⟨⟨by decide, by decide⟩, ⟨by decide, by decide⟩, ⟨by decide, by decide⟩⟩
  refine kPm rfl rfl ?_; refine kPv (ev_ext rfl rfl) rfl ?_; refine kPv (ev_ext rfl rfl) rfl ?_; refine kPv (ev_ext rfl rfl) rfl ?_; refine kPv (ev_ext rfl rfl) rfl ?_; refine p_chg rfl (ch_allocA Tryz.zeroValue30 rfl) .free rfl rfl ?_
  rintro _ _ ⟨b2, rfl, rfl⟩
  refine p_chg rfl (ch_allocA Tryz.zeroValue33 rfl) .free rfl rfl ?_
  rintro _ _ ⟨b3, rfl, rfl⟩
  refine kPa rfl rfl ?_; refine p_chg0 rfl (ch_storeA (vs := _) Tryz.sizeOf30 rfl rfl rfl rfl rfl) .free rfl ?_
  rintro _ _ rfl
  refine p_chg0 rfl (ch_storeA (vs := _) Tryz.sizeOf33 rfl rfl rfl (by first | rfl | exact all3 (by assumption)) rfl) .free rfl ?_
  rintro _ _ rfl
  refine kPa rfl rfl ?_; refine p_nil ?_; refine go_sub (σ' := [(4, _), (1, _), (3, _), (2, _), (0, _)]) ⟨rfl, rfl, rfl, rfl, rfl, trivial⟩ ?_; refine g_seq ?_; refine g_seq ?_; refine g_region ?_; refine kPm rfl rfl ?_; refine kPv (ev_eqp Tryz.runUnderlying28 rfl rfl rfl) rfl ?_; refine kPm rfl rfl ?_; refine p_val rfl (ev_move rfl) (.on rfl rfl (beq_eq rfl)) rfl rfl ?_; refine p_val rfl (ev_len rfl Tryz.runUnderlying34 ⟨_, rfl⟩ rfl) (.on rfl rfl (beq_eq rfl)) rfl rfl ?_
  refine p_val rfl (ev_cmp rfl rfl rfl) (.on rfl rfl (beq_eq rfl)) rfl rfl ?_; refine kPv (ev_pick_f rfl rfl rfl) rfl ?_; refine p_nil ?_; refine g_iff rfl (rfl) ?_; refine g_skip ?_; refine g_seq ?_; refine go_conv (H' := VecA 3 i64 0 (.slice (some ⟨bO, oO, none⟩) 1 co, [40]) :: row b3 [i64 0, i64 3, sv] 33 :: row b2 [i64 3, i64 1, i64 48] 30 :: VecU 0 (sv, [0]) :: DevA bd sF :: Fr) (fun w hh => ((hh.dp [5]).pk [2])) ?_
  refine g_drawT (.br [0, 1, 2, 3, 4, 5] 6 (.fin [7, 8, 9, 10, 11, 12]) 10 (.fin [6, 7, 8, 9, 11, 12])) [6, 10, 11] [0, 1, 2, 3, 4, 5, 7, 8, 9] [10, 11] [row b2 [i64 3, i64 1, i64 48] 30, row b3 [i64 0, i64 3, sv] 33, VecA 3 i64 0 (.slice (some ⟨bO, oO, none⟩) 1 co, [40])] [1, 0] (G := Nat) (fun b5 => [(5, ptr b5), (6, i64 (sF.objOf ⟨3, 1, 48⟩ ⟨0, 3, [0]⟩ 40).2)]) (fun b5 => row b5 [i64 (sF.objOf ⟨3, 1, 48⟩ ⟨0, 3, [0]⟩ 40).1.1, i64 (sF.objOf ⟨3, 1, 48⟩ ⟨0, 3, [0]⟩ 40).1.2.1, i64 (sF.objOf ⟨3, 1, 48⟩ ⟨0, 3, [0]⟩ 40).1.2.2] 89 :: VecA 3 i64 0 (.slice (some ⟨bO, oO, none⟩) 1 co, [40]) :: row b3 [i64 0, i64 3, sv] 33 :: row b2 [i64 3, i64 1, i64 48] 30 :: VecU 0 (sv, [0]) :: DevA bd sF :: Fr) Tryz.mixed (by kernel_rfl) ?_ ?_
  · skip
    refine t_br ?_; refine v_hoist rfl rfl rfl (ev_move rfl) .free rfl ?_; refine v_hoist rfl rfl rfl (ev_loadA Tryz.isAgg30 Tryz.sizeOf30 rfl rfl) .free rfl ?_; refine v_hoist rfl rfl rfl (ev_loadA Tryz.isAgg33 Tryz.sizeOf33 rfl rfl) .free rfl ?_; refine v_hoist rfl rfl rfl (ev_move rfl) .free rfl ?_; refine v_hoist rfl rfl rfl (ev_iaS Tryz.runUnderlying34 Tryz.sizeOf3 rfl rfl (by decide) (by decide)) .free rfl ?_
    refine v_hoist rfl rfl rfl (ev_loadS (v := i64 40) Tryz.isAgg3 (vec_slr 2 rfl) rfl rfl) .free rfl ?_; refine v_nil ?_
    refine t_two rfl rfl ?_ ?_
    · skip
      refine p_callq rfl (en_f Tryz.call51 rfl) (ro_at (q := DevA) (fun Fr => obj_ok _ Fr _ _ ⟨3, 1, 48⟩ cfg48 ⟨0, 3, [0]⟩ sv ⟨⟨by decide, by decide⟩, ⟨by decide, by decide⟩⟩ hsv 40 (by decide))) .free rfl rfl ?_; refine p_nil ?_; refine t_off rfl ?_; refine t_fin ?_; refine v_hoist rfl rfl rfl (ev_move rfl) .free rfl ?_; refine v_hoist rfl rfl rfl (ev_ext rfl rfl) .free rfl ?_; refine v_hoist rfl rfl rfl (ev_ext rfl rfl) .free rfl ?_; refine v_mark rfl rfl ?_
      refine p_chg rfl (ch_allocA Tryz.zeroValue89 rfl) .free rfl rfl ?_
      rintro _ _ ⟨b5, rfl, rfl⟩
      refine p_nil ?_; refine v_on ?_; refine v_mark rfl rfl ?_; refine p_chg0 rfl (ch_storeA (vs := _) Tryz.sizeOf89 rfl rfl rfl rfl rfl) .free rfl ?_
      rintro _ _ rfl
      refine p_nil ?_; refine v_on ?_; refine v_val rfl rfl rfl (ev_assign rfl) .free rfl ?_; refine v_nil ?_
      exact fun a w st_ => ⟨b5, st_.to ⟨rfl, rfl, rfl, rfl, trivial⟩ (fun hh => hh)⟩
    · skip
      refine p_chg rfl (ch_allocA Tryz.zeroValue89 rfl) .free rfl rfl ?_
      rintro _ _ ⟨b5, rfl, rfl⟩
      refine p_nil ?_; refine t_on ?_; refine t_fin ?_; refine v_mark rfl rfl ?_; refine p_callq rfl (en_f Tryz.call51 rfl) (ro_at (q := DevA) (fun Fr => obj_ok _ Fr _ _ ⟨3, 1, 48⟩ cfg48 ⟨0, 3, [0]⟩ sv ⟨⟨by decide, by decide⟩, ⟨by decide, by decide⟩⟩ hsv 40 (by decide))) .free rfl rfl ?_; refine p_nil ?_; refine v_off rfl ?_; refine v_hoist rfl rfl rfl (ev_move rfl) .free rfl ?_; refine v_hoist rfl rfl rfl (ev_ext rfl rfl) .free rfl ?_; refine v_hoist rfl rfl rfl (ev_ext rfl rfl) .free rfl ?_
      refine v_mark rfl rfl ?_; refine p_chg0 rfl (ch_storeA (vs := _) Tryz.sizeOf89 rfl rfl rfl rfl rfl) .free rfl ?_
      rintro _ _ rfl
      refine p_nil ?_; refine v_on ?_; refine v_val rfl rfl rfl (ev_assign rfl) .free rfl ?_; refine v_nil ?_
      exact fun a w st_ => ⟨b5, st_.to ⟨rfl, rfl, rfl, rfl, trivial⟩ (fun hh => hh)⟩
  intro b5
  refine go_sub (σ' := [(5, ptr b5), (6, i64 (sF.objOf ⟨3, 1, 48⟩ ⟨0, 3, [0]⟩ 40).2), (1, _), (0, _)]) ⟨rfl, rfl, rfl, rfl, trivial⟩ ?_; refine g_seq ?_
  rw [show sF.objOf ⟨3, 1, 48⟩ ⟨0, 3, [0]⟩ 40 = (((2 : Int), (1 : Int), (40 : Int)), (0 : Int)) from obIs_eq e2]
  refine g_region ?_; refine kPv (ev_loadA Tryz.isAgg89 Tryz.sizeOf89 rfl rfl) rfl ?_; refine kPm rfl rfl ?_; refine p_callq rfl (en_f Tryz.call149 rfl) (ro_at (q := DevA) (fun Fr => oread_ok _ Fr _ _ (2, 1, 40) ho 0)) .free rfl rfl ?_; refine kPm rfl rfl ?_; refine kPv (ev_ext rfl rfl) rfl ?_; refine kPv (ev_ext rfl rfl) rfl ?_; refine kPa rfl rfl ?_; refine kPa rfl rfl ?_; refine p_nil ?_; refine go_sub (σ' := [(8, _), (5, _), (6, _), (1, _), (0, _)]) ⟨rfl, rfl, rfl, rfl, rfl, trivial⟩ ?_
  refine g_seq ?_; refine g_region ?_; refine kPv (ev_loadA Tryz.isAgg89 Tryz.sizeOf89 rfl rfl) rfl ?_; refine kPm rfl rfl ?_; refine kPv (ev_mkf rfl rfl) rfl ?_; refine go_pk [5] ?_
  refine p_call rfl (en_f Tryz.call150 rfl) (owriteD_ok B _ bd (2, 1, 40) ho 1 9 (by decide) sF hlF huF) .free rfl rfl ?_ ?_
  rotate_left
  · rintro _ _ ⟨⟩
  rintro _ _ ⟨x2, s2, hm2, rfl, hl2, hn2, hu2, rfl⟩
  have hev2 := okB_ok e4 hm2
  simp only [Bool.and_eq_true, beq_iff_eq] at hev2
  obtain ⟨f1, f2⟩ := hev2
  obtain rfl : x2 = 0 := f1
  refine kPa rfl rfl ?_; refine p_nil ?_; refine g_seq ?_; refine g_region ?_; refine kPv (ev_loadA Tryz.isAgg89 Tryz.sizeOf89 rfl rfl) rfl ?_; refine kPm rfl rfl ?_; refine p_callq rfl (en_f Tryz.call149 rfl) (ro_at (q := DevA) (fun Fr => oread_ok _ Fr _ _ (2, 1, 40) ho 1)) .free rfl rfl ?_; refine kPm rfl rfl ?_; refine kPv (ev_ext rfl rfl) rfl ?_; refine kPv (ev_ext rfl rfl) rfl ?_; refine kPa rfl rfl ?_; refine kPa rfl rfl ?_; refine p_nil ?_
  refine go_sub (σ' := [(11, _), (10, _), (9, _), (8, _), (5, _), (6, _), (1, _), (0, _)]) ⟨rfl, rfl, rfl, rfl, rfl, rfl, rfl, rfl, trivial⟩ ?_; refine g_seq ?_
  rw [show sF.objRead (2, 1, 40) 0 = ((0 : Int), (5 : Int)) from prIs_eq e3, show s2.objRead (2, 1, 40) 1 = ((9 : Int), (0 : Int)) from prIs_eq f2]
  refine g_region ?_; refine kPm rfl rfl ?_; refine kPv (ev_cmp rfl rfl rfl) rfl ?_; refine kPm rfl rfl ?_; refine p_val rfl (ev_move rfl) (.on rfl rfl (beq_eq rfl)) rfl rfl ?_; refine p_val rfl (ev_cmp rfl rfl rfl) (.on rfl rfl (beq_eq rfl)) rfl rfl ?_; refine kPv (ev_pick_t rfl rfl rfl) rfl ?_; refine kPm rfl rfl ?_; refine p_val rfl (ev_move rfl) (.on rfl rfl (beq_eq rfl)) rfl rfl ?_; refine p_val rfl (ev_cmp rfl rfl rfl) (.on rfl rfl (beq_eq rfl)) rfl rfl ?_
  refine kPv (ev_pick_t rfl rfl rfl) rfl ?_; refine kPm rfl rfl ?_; refine p_val rfl (ev_move rfl) (.on rfl rfl (beq_eq rfl)) rfl rfl ?_; refine p_val rfl (ev_cmp rfl rfl rfl) (.on rfl rfl (beq_eq rfl)) rfl rfl ?_; refine kPv (ev_pick_t rfl rfl rfl) rfl ?_; refine kPm rfl rfl ?_; refine p_val rfl (ev_move rfl) (.on rfl rfl (beq_eq rfl)) rfl rfl ?_; refine p_val rfl (ev_cmp rfl rfl rfl) (.on rfl rfl (beq_eq rfl)) rfl rfl ?_; refine kPv (ev_pick_t rfl rfl rfl) rfl ?_; refine kPm rfl rfl ?_
  refine p_val rfl (ev_loadA Tryz.isAgg89 Tryz.sizeOf89 rfl rfl) (.on rfl rfl (beq_eq rfl)) rfl rfl ?_; refine p_val rfl (ev_move rfl) (.on rfl rfl (beq_eq rfl)) rfl rfl ?_
  refine p_call rfl (en_f Tryz.call129 rfl) (onames_ok _ _ (2, 1, 40) bd) (.on rfl rfl (beq_eq rfl)) rfl rfl ?_ ?_
  rotate_left
  · rintro _ _ ⟨⟩
  rintro _ _ ⟨n1, n2, rfl, rfl⟩
  refine p_val rfl (ev_eqfn Tryz.runUnderlying188 ⟨_, _, _, rfl⟩ rfl rfl rfl) (.on rfl rfl (beq_eq rfl)) rfl rfl ?_; refine kPv (ev_pick_t rfl rfl rfl) rfl ?_; refine kPa rfl rfl ?_; refine p_nil ?_; refine go_sub (σ' := [(0, _)]) ⟨rfl, trivial⟩ ?_; refine g_ret ?_
  exact ret_tmp Tryz.results141 rfl (fun w hh => ⟨rfl, (hh.dp [0, 0, 0, 0, 0, 0, 0, 0])⟩)
theorem awake11_ok (B : World) (Fr : List HP) :
    ∀ w, Holds B Fr w → Calls Tryz.prog 126 [].toArray w (PureR B Fr (.bool true)) := by
  refine fn_enter Tryz.func126 rfl Tryz.ntmps126 rfl ?_; refine g_seq ?_; refine g_region ?_; refine kPa rfl rfl ?_; refine p_nil ?_; refine g_seq ?_; refine g_seq ?_; refine g_region ?_; refine p_callq rfl (en_f Tryz.call141 rfl) (awake10_ok _ _) .free rfl rfl ?_; refine kPv (ev_not rfl) rfl ?_; refine p_nil ?_; refine g_iff rfl (rfl) ?_; refine g_skip ?_; refine g_seq ?_; refine g_region ?_; refine kPv (ev_build rfl (bld_24_2 _ rfl)) rfl ?_; refine kPv (ev_build rfl (bld_107_1 _ rfl)) rfl ?_
  refine p_chg rfl (ch_bsG encH_w (v := (0, 1)) Tryz.runUnderlying25 Tryz.sizeOf107 Tryz.zeroValue107 ⟨⟨by decide, by decide⟩, rfl⟩ rfl rfl) .free rfl rfl ?_
  rintro _ _ ⟨b12, rfl, rfl⟩
  refine p_call rfl (en_f Tryz.call12 rfl) (linked_ok _ _ 0 0 40 ⟨by decide, by decide, by decide⟩ ⟨3, 1, 48⟩ mkC48 [(0, 1)] (hh1 ⟨by decide, by decide⟩ ⟨by decide, by decide⟩) (by decide) (some ⟨b12, 0, none⟩) _ sln1 none 0 [] SlR.nil (fun _ h => (by cases h)) (by decide) (fun _ h => absurd h (Nat.not_lt_zero _)) 0 (by decide)) .free rfl rfl ?_ ?_
  rotate_left
  · rintro _ _ ⟨⟩
  rintro _ _ ⟨bd, pa, N, s0, sF, out, hfm, hN, ⟨hus0, hf⟩, hfill, hor⟩
  obtain rfl := n48 hN
  have hev := okB_ok (okB_ok (d11_eval pa) hf) hfill
  simp only [Bool.and_eq_true, beq_iff_eq] at hev
  obtain ⟨⟨rfl, e1⟩, e2⟩ := hev
  rw [blkIs_eq e1] at hor
  rcases hor with ⟨n1, n2, s1, s2, ov, sv, hl1, hl2, hu2, hlm2, hn2, hov, hsv, rfl, rfl⟩ | ⟨s1, hl1, _⟩
  rotate_left
  · have e3 := okB_ok e2 hl1
    simp only [Bool.and_eq_true, beq_iff_eq] at e3
    exact absurd e3.1 (by simp)
  have e3 := okB_ok e2 hl1
  simp only [Bool.and_eq_true, beq_iff_eq] at e3
  obtain ⟨e4, e5⟩ := e3
  obtain rfl : n1 = 0 := by injection e4
  have e6 := okB_ok e5 hl2
  simp only [Bool.and_eq_true, beq_iff_eq] at e6
  obtain ⟨⟨e7, e8⟩, e9⟩ := e6
  rw [blkIs_eq e7]
  refine go_pk [2] ?_; refine go_vecq fun qo co hqo hqi => ?_
  subst hqo
  obtain ⟨bO, oO, rfl⟩ := hqi 0 (by decide)
  refine kPm rfl rfl ?_; refine kPv (ev_ext rfl rfl) rfl ?_; refine kPv (ev_ext rfl rfl) rfl ?_; refine kPv (ev_ext rfl rfl) rfl ?_; refine kPv (ev_ext rfl rfl) rfl ?_; refine p_chg rfl (ch_allocA Tryz.zeroValue30 rfl) .free rfl rfl ?_
  rintro _ _ ⟨b2, rfl, rfl⟩
  refine p_chg rfl (ch_allocA Tryz.zeroValue33 rfl) .free rfl rfl ?_
  rintro _ _ ⟨b3, rfl, rfl⟩
  refine kPa rfl rfl ?_; refine p_chg0 rfl (ch_storeA (vs := _) Tryz.sizeOf30 rfl rfl rfl rfl rfl) .free rfl ?_
  rintro _ _ rfl
  refine p_chg0 rfl (ch_storeA (vs := _) Tryz.sizeOf33 rfl rfl rfl (by first | rfl | exact all3 (by assumption)) rfl) .free rfl ?_
  rintro _ _ rfl
  refine kPa rfl rfl ?_; refine p_nil ?_; refine go_sub (σ' := [(4, _), (1, _), (3, _), (2, _), (0, _)]) ⟨rfl, rfl, rfl, rfl, rfl, trivial⟩ ?_; refine g_seq ?_; refine g_seq ?_; refine g_region ?_; refine kPm rfl rfl ?_; refine kPv (ev_eqp Tryz.runUnderlying28 rfl rfl rfl) rfl ?_; refine kPm rfl rfl ?_; refine p_val rfl (ev_move rfl) (.on rfl rfl (beq_eq rfl)) rfl rfl ?_; refine p_val rfl (ev_loadA Tryz.isAgg30 Tryz.sizeOf30 rfl rfl) (.on rfl rfl (beq_eq rfl)) rfl rfl ?_
  refine p_val rfl (ev_loadA Tryz.isAgg33 Tryz.sizeOf33 rfl rfl) (.on rfl rfl (beq_eq rfl)) rfl rfl ?_
  refine p_call rfl (en_f Tryz.call83 rfl) (wobjs_ok _ _ bd ⟨3, 1, 48⟩ ⟨0, 2, [0]⟩ sv hsv) (.on rfl rfl (beq_eq rfl)) rfl rfl ?_ ?_
  rotate_left
  · rintro _ _ ⟨⟩
  rintro _ _ ⟨c3, c4, c5, rfl, rfl⟩
  refine p_val rfl (ev_eqfn Tryz.runUnderlying131 ⟨_, _, _, rfl⟩ rfl rfl rfl) (.on rfl rfl (beq_eq rfl)) rfl rfl ?_; refine kPv (ev_pick_f rfl rfl rfl) rfl ?_; refine p_nil ?_; refine go_sub (σ' := [(26, _), (4, _), (1, _), (3, _), (2, _), (0, _)]) ⟨rfl, rfl, rfl, rfl, rfl, rfl, trivial⟩ ?_; refine g_iff rfl (rfl) ?_; refine g_skip ?_; refine g_seq ?_; refine g_region ?_; refine kPm rfl rfl ?_; refine kPv (ev_loadA Tryz.isAgg30 Tryz.sizeOf30 rfl rfl) rfl ?_
  refine kPv (ev_loadA Tryz.isAgg33 Tryz.sizeOf33 rfl rfl) rfl ?_; refine go_pk [7] ?_
  refine p_call rfl (en_f Tryz.call80 rfl) (wstarts_ok _ _ bd s2 ⟨3, 1, 48⟩ cfg48 ⟨0, 2, [0]⟩ sv ⟨⟨by decide, by decide⟩, ⟨by decide, by decide⟩⟩ hsv) .free rfl rfl ?_ ?_
  rotate_left
  · rintro _ _ ⟨⟩
  rintro _ _ ⟨mb, rfl, rfl⟩
  rw [e8, e9]
  refine kPm rfl rfl ?_; refine kPv (ev_ext rfl rfl) rfl ?_; refine kPv (ev_ext rfl rfl) rfl ?_; refine kPa rfl rfl ?_; refine kPa rfl rfl ?_; refine p_nil ?_; refine go_sub (σ' := [(6, _), (5, _), (4, _), (0, _)]) ⟨rfl, rfl, rfl, rfl, trivial⟩ ?_; refine g_seq ?_; refine g_region ?_; refine kPm rfl rfl ?_; refine kPv (ev_cmp rfl rfl rfl) rfl ?_; refine kPm rfl rfl ?_; refine p_val rfl (ev_move rfl) (.on rfl rfl (beq_eq rfl)) rfl rfl ?_
  refine p_val rfl (ev_lenM rfl Tryz.runUnderlying124 rfl) (.on rfl rfl (beq_eq rfl)) rfl rfl ?_; refine p_val rfl (ev_cmp rfl rfl rfl) (.on rfl rfl (beq_eq rfl)) rfl rfl ?_; refine kPv (ev_pick_t rfl rfl rfl) rfl ?_; refine kPm rfl rfl ?_; refine p_val rfl (ev_move rfl) (.on rfl rfl (beq_eq rfl)) rfl rfl ?_; refine p_val rfl (ev_len rfl Tryz.runUnderlying34 ⟨_, rfl⟩ rfl) (.on rfl rfl (beq_eq rfl)) rfl rfl ?_; refine p_val rfl (ev_cmp rfl rfl rfl) (.on rfl rfl (beq_eq rfl)) rfl rfl ?_
  refine kPv (ev_pick_t rfl rfl rfl) rfl ?_; refine kPm rfl rfl ?_; refine p_val rfl (ev_move rfl) (.on rfl rfl (beq_eq rfl)) rfl rfl ?_; refine p_val rfl (ev_move rfl) (.on rfl rfl (beq_eq rfl)) rfl rfl ?_; refine p_val rfl (ev_iaS Tryz.runUnderlying34 Tryz.sizeOf3 rfl rfl (by decide) (by decide)) (.on rfl rfl (beq_eq rfl)) rfl rfl ?_; refine p_val rfl (ev_loadS (v := i64 40) Tryz.isAgg3 (vec_slr 7 rfl) rfl rfl) (.on rfl rfl (beq_eq rfl)) rfl rfl ?_
  refine p_val rfl ((ev_lookup1 Tryz.runUnderlying124 Tryz.runUnderlying3 Tryz.zeroValue89 rfl rfl).eq (mval_o _)) (.on rfl rfl (beq_eq rfl)) rfl rfl ?_; refine p_val rfl (ev_fieldA Tryz.runUnderlying89 (t := 87) (off := 0) rfl Tryz.isAgg87 Tryz.sizeOf87 rfl) (.on rfl rfl (beq_eq rfl)) rfl rfl ?_; refine p_val rfl (ev_field1 Tryz.runUnderlying87 (t := 3) (off := 0) rfl Tryz.isAgg3 rfl rfl) (.on rfl rfl (beq_eq rfl)) rfl rfl ?_
  refine p_val rfl (ev_cmp rfl rfl rfl) (.on rfl rfl (beq_eq rfl)) rfl rfl ?_; refine kPv (ev_pick_t rfl rfl rfl) rfl ?_; refine kPa rfl rfl ?_; refine p_nil ?_; refine go_sub (σ' := [(0, _)]) ⟨rfl, trivial⟩ ?_; refine g_ret ?_
  exact ret_tmp Tryz.results126 rfl (fun w hh => ⟨rfl, (hh.dp [0, 0, 0, 0, 0, 0, 0, 0, 0, 0])⟩)
end Go.Proofs.YtbfheafpecgphaaGreat
namespace Go.Proofs.YtbfheafpecgphaaGreat
open Go
theorem mkeysi_ok (B : World) (H : List HP) (r : Nat) :
    ∀ w, Holds B H w → Calls Tryz.prog 96 [.map (some r)].toArray w (Ret B (fun v H' => ∃ bb, v = .func (.func 115) [].toArray [ptr bb].toArray ∧ H' = row bb [.map (some r)] 69 :: H) (fun _ _ => False)) := by
  refine fn_enter Tryz.func96 rfl Tryz.ntmps96 rfl ?_; refine g_seq ?_; refine g_region ?_; refine p_chg rfl (ch_box1 rfl rfl) .free rfl rfl ?_
  rintro _ _ ⟨b1, rfl, rfl⟩
  refine kPa rfl rfl ?_; refine p_nil ?_; refine g_seq ?_; refine g_region ?_; refine kPv (ev_mkf rfl rfl) rfl ?_; refine kPa rfl rfl ?_; refine p_nil ?_; refine g_ret ?_
  exact ret_tmp Tryz.results96 rfl (fun w hw => ⟨_, ⟨_, rfl, rfl⟩, hw⟩)
theorem mkeysi1_ok (B : World) (Fr : List HP) (l f mr bb b2 : Nat) (ml : List (Int × Int)) (r : Loop) (hrf : r.fn = f) (hrp : r.params.size = 1) (hround : ∀ (A1 A2 : HP) (v : Int) (xs : List Int), xs.length < ml.length → ∀ w, Holds B (blk l (.loop r) :: A1 :: A2 :: AccA b2 xs :: Fr) w → RoundIn (Wd (cxF f)) 0 Tryz.prog l f ((r.params.zip [i64 v].toArray).foldl (fun tmps (t, a) => tmps.setIfInBounds t a) r.tmps) r.assign r.body w (Ret B (fun rv H' => rv = .bool true ∧ H' = blk l (.loop r) :: A1 :: A2 :: AccA b2 (xs ++ [v]) :: Fr) (fun _ _ => False))) :
    ∀ w, Holds B (blk l (.loop r) :: row bb [.map (some mr)] 69 :: mapA .i64 i64 mr ml :: AccA b2 [] :: Fr) w → Calls Tryz.prog 115 [.func (.yield l) #[] #[], ptr bb].toArray w (Ret B (fun rv H' => ∃ ks : List Int, ks.Perm (ml.map Prod.fst) ∧ H' = blk l (.loop r) :: row bb [.map (some mr)] 69 :: mapA .i64 i64 mr ml :: AccA b2 ks :: Fr) (fun _ _ => False)) := by
  refine fn_enter Tryz.func115 rfl Tryz.ntmps115 rfl ?_; refine g_seq ?_; refine g_region ?_; refine kPv (ev_load Tryz.isAgg69 rfl rfl) rfl ?_; refine p_chg rfl (ch_range Tryz.runUnderlying69 rfl) .free rfl rfl ?_
  rintro _ _ ⟨it, rfl, rfl⟩
  refine p_nil ?_; refine g_block ?_; refine g_loop (ι := List (Int × Int)) (fun d => d.length ≤ ml.length) (fun d => [(0, .func (.yield l) #[] #[]), (1, ptr bb), (5, .pointer (some ⟨it, 0, none⟩))]) (fun done => blk l (.loop r) :: row bb [.map (some mr)] 69 :: iterA .i64 i64 mr it ml done :: AccA b2 (done.map Prod.fst) :: Fr) (fun d => ml.length - d.length) [] (Nat.zero_le _) (fun a w st => st.to ⟨rfl, rfl, rfl, trivial⟩ id) ?_
  intro done hdone
  refine g_seq ?_; refine g_region ?_; refine p_chg rfl (ch_next rfl) .free rfl rfl ?_
  rintro _ _ ⟨bb0, vs, done', rfl, hvs, rfl, hno, hyes⟩
  refine kPv (ev_ext rfl hvs) rfl ?_; refine p_nil ?_; refine g_seq ?_
  refine g_if rfl (fun h7 => ?_) (fun h7 => ?_)
  · obtain ⟨pp, hpl, hpn, rfl⟩ := hyes h7
    refine go_iter it fun hl hd hsub => ?_; refine g_skip ?_; refine g_block ?_; refine g_seq ?_; refine g_region ?_; refine kPv (ev_entry (p0 := pp) (dn := done) rfl) rfl ?_; refine kPv (ev_ext rfl rfl) rfl ?_; refine kPa rfl rfl ?_; refine p_nil ?_; refine g_seq ?_; refine g_region ?_; refine kPm rfl rfl ?_; refine kPm rfl rfl ?_
    refine p_yield (f := f) rfl rfl (fun w hw => hw) (by rw [hrp]; rfl) hrf (hround _ _ _ _ (by have := iter_le hd hsub; simp; omega)) .free rfl ?_ ?_
    rotate_left
    · rintro _ _ ⟨⟩
    rintro _ _ ⟨rfl, rfl⟩
    refine kPv (ev_not rfl) rfl ?_; refine p_nil ?_; refine go_sub (σ' := [(13, _), (5, _), (0, _), (1, _)]) ⟨rfl, rfl, rfl, rfl, trivial⟩ ?_; refine g_iff rfl (rfl) ?_; refine g_skip ?_
    have hle := iter_le hd hsub
    exact fun a w st => ⟨done ++ [pp], by simp; omega, by simp; omega, st.to ⟨rfl, rfl, rfl, trivial⟩ (fun hh => by rw [List.map_append]; exact hh)⟩
  · obtain ⟨rfl, hall⟩ := hno h7
    refine go_iter it fun hl hd hsub => ?_; refine go_conv (fun w hh => hh.iter_end it) ?_; refine g_exit ?_
    exact end_none Tryz.results115 (fun w hh => ⟨_, ⟨_, (List.perm_ext_iff_of_nodup hd hl).2 fun x => ⟨fun hx => by obtain ⟨p, hp, rfl⟩ := List.mem_map.1 hx; exact List.mem_map_of_mem (hsub p hp), fun hx => by obtain ⟨p, hp, rfl⟩ := List.mem_map.1 hx; exact List.mem_map_of_mem (hall p hp)⟩, rfl⟩, hh⟩)
theorem appseqi_ok (B : World) (Fr : List HP) (mr bb : Nat) (ml : List (Int × Int)) (hml : ml.length ≤ 1000000) :
    ∀ w, Holds B (row bb [.map (some mr)] 69 :: mapA .i64 i64 mr ml :: Fr) w → Calls Tryz.prog 123 [.slice none 0 0, .func (.func 115) [].toArray [ptr bb].toArray].toArray w (Ret B (fun rv H' => ∃ ks : List Int, ks.Perm (ml.map Prod.fst) ∧ H' = AccV 0 (rv, ks) :: mapA .i64 i64 mr ml :: Fr) (fun _ _ => False)) := by
  refine fn_enter_m Tryz.func123 rfl Tryz.ntmps123 rfl ?_; refine g_seq ?_; refine g_region ?_; refine p_chg rfl (ch_box1 rfl rfl) .free rfl rfl ?_
  rintro _ _ ⟨b2, rfl, rfl⟩
  refine kPa rfl rfl ?_; refine p_nil ?_; refine g_seq ?_; refine g_seq ?_; refine g_region ?_; refine kPm rfl rfl ?_; refine p_nil ?_; refine g_block ?_
  refine g_range0 (ι := List Int) (fun ks => row bb [.map (some mr)] 69 :: mapA .i64 i64 mr ml :: AccA b2 ks :: Fr) (fun ks => ks.Perm (ml.map Prod.fst)) (fun _ => False) [] rfl Tryz.call115 ?_ ?_ ?_
  · intro l m tmps hts hkn w hh
    have hk2 := hkn 2 _ rfl
    refine (mkeysi1_ok B (blk m (.deferred (some [])) :: Fr) l 123 mr bb b2 ml _ rfl rfl ?_ w (((((acc_nil ((((hh.front 4 rfl).front 4 rfl).front 2 rfl).front 4 rfl)).front 0 rfl).front 3 rfl).front 3 rfl).front 3 rfl)).mono (Ret.mono ?_ ?_)
    rotate_left
    · rintro v H' ⟨ks, hks, rfl⟩
      exact ⟨ks, hks, fun w hh => ((hh.front 4 rfl).front 1 rfl)⟩
    · rintro c H' ⟨⟩
    intro A1 A2 v xs hxs
    have hxs : xs.length ≤ 1000000 := by omega
    refine round_go (n := 13) (σ := [(7, i64 v), (2, ptr b2)]) Tryz.func123 (by simp [lrec, hts]) (KnA.knows (by simp [KnA, lrec, hts]; exact (Array.getElem?_eq_some_iff.1 hk2).2)) rfl ?_; refine g_region ?_; refine kPa rfl rfl ?_; refine p_nil ?_; refine go_mid ?_; refine go_front 3 rfl ?_
    refine go_acc (fun hxe => ?_) (fun bd rest => ?_)
    · subst hxe
      refine g_block ?_; refine g_region ?_; refine kPv (ev_load Tryz.isAgg34 rfl rfl) rfl ?_; refine kPm rfl rfl ?_; refine p_chg rfl (ch_bs1 Tryz.runUnderlying34 Tryz.sizeOf3 Tryz.zeroValue3 rfl rfl rfl) .free rfl rfl ?_
      rintro _ _ ⟨b1, rfl, rfl⟩
      refine p_chg rfl (ch_append_nil rfl rfl Tryz.runUnderlying34 Tryz.runUnderlying34 ⟨_, rfl⟩ Tryz.sizeOf3 Tryz.zeroValue3 rfl tb_3 rfl rfl (SlR.row (xs := [i64 v]) rfl rfl) (by simp) (by simp)) .free rfl rfl ?_
      rintro _ _ ⟨bn, cn, rest', hcn, hrest, rfl, rfl⟩
      refine p_chg0 rfl (ch_store Tryz.sizeOf34 rfl rfl rfl rfl) .free rfl ?_
      rintro _ _ rfl
      refine p_nil ?_; refine go_sub (σ' := []) trivial ?_; refine go_front 3 rfl ?_
      exact go_rK fun w hh => ⟨_, ⟨rfl, rfl⟩, ((((((acc_row (xs := [] ++ [v]) (by simp) (by first | omega | (simp at *; omega)) ((hh.front 1 rfl).front 3 rfl)).front 2 rfl).tail.front 0 rfl).front 3 rfl).front 3 rfl).front 3 rfl)⟩
    · skip
      refine g_block ?_; refine g_region ?_; refine kPv (ev_load Tryz.isAgg34 rfl rfl) rfl ?_; refine kPm rfl rfl ?_; refine p_chg rfl (ch_bs1 Tryz.runUnderlying34 Tryz.sizeOf3 Tryz.zeroValue3 rfl rfl rfl) .free rfl rfl ?_
      rintro _ _ ⟨b1, rfl, rfl⟩
      refine p_chg rfl (ch_append rfl rfl Tryz.runUnderlying34 Tryz.runUnderlying34 ⟨_, rfl⟩ Tryz.sizeOf3 Tryz.zeroValue3 rfl tb_3 rfl rfl (SlR.row (xs := [i64 v]) rfl rfl) (by simp) (by omega) (by simp; omega) rfl) .free rfl rfl ?_
      refine fun v2 H2 hY => ?_
      revert hY
      generalize hob : Obj.loop _ = ob
      intro hY
      have hY2 : ∃ bn c' rest', c' = xs.length + 1 + rest'.length ∧ v2 = .slice (some ⟨bn, 0, none⟩) (xs.length + 1) c' ∧ ∀ w, Holds B H2 w → Holds B (row b2 [.slice (some ⟨bd, 0, none⟩) xs.length (xs.length + rest.length)] 34 :: row bn ((xs ++ [v]).map i64 ++ rest') 3 :: blk l ob :: A1 :: A2 :: blk m (.deferred (some [])) :: Fr) w := by
        rcases hY with ⟨h1, rfl, rfl⟩ | ⟨h1, bn, cn, rest', h2, _, rfl, rfl⟩
        · refine ⟨bd, _, rest.drop 1, by simp at h1 ⊢; omega, rfl, fun w hh => ?_⟩
          have h3 := hh.tail
          rw [acc_put (by simp at h1; omega)] at h3
          exact h3
        · refine ⟨bn, _, rest', by simpa using h2.symm, rfl, fun w hh => ?_⟩
          have h3 := ((((hh.front 1 rfl).tail).front 2 rfl).tail).front 1 rfl
          have e : (xs ++ [v]).map i64 ++ rest' = ((xs.map i64 ++ rest).drop 0).take xs.length ++ [i64 v] ++ rest' := by simp
          rw [e]
          exact h3
      obtain ⟨bn, c', rest', hc', rfl, hY3⟩ := hY2
      refine go_conv hY3 ?_; refine p_chg0 rfl (ch_store Tryz.sizeOf34 rfl rfl rfl rfl) .free rfl ?_
      rintro _ _ rfl
      refine p_nil ?_; refine go_sub (σ' := []) trivial ?_
      subst hob
      refine go_front 2 rfl ?_
      exact go_rK fun w hh => ⟨_, ⟨rfl, rfl⟩, (((((acc_row (xs := xs ++ [v]) (by simp) (by first | omega | (simp at *; omega)) ((hh.front 2 rfl).front 2 rfl)).front 0 rfl).front 3 rfl).front 3 rfl).front 3 rfl)⟩
  rotate_left
  · rintro m x ⟨⟩
  intro m ks hks
  refine go_front 3 rfl ?_; refine go_acco fun sv => ?_; refine g_seq ?_; refine g_region ?_; refine kPv (ev_load Tryz.isAgg34 rfl rfl) rfl ?_; refine kPa rfl rfl ?_; refine p_nil ?_; refine g_ret ?_
  exact ret_tmp_m Tryz.results123 rfl (.cons (i := 2) rfl .nil) (fun w hh => ⟨_, ⟨ks, hks, rfl⟩, (((hh.front 3 rfl).front 3 rfl).front 2 rfl).tail.tail.tail⟩)
theorem collecti_ok (B : World) (Fr : List HP) (mr bb : Nat) (ml : List (Int × Int)) (hml : ml.length ≤ 1000000) :
    ∀ w, Holds B (row bb [.map (some mr)] 69 :: mapA .i64 i64 mr ml :: Fr) w → Calls Tryz.prog 113 [.func (.func 115) [].toArray [ptr bb].toArray].toArray w (Ret B (fun rv H' => ∃ ks : List Int, ks.Perm (ml.map Prod.fst) ∧ H' = AccV 0 (rv, ks) :: mapA .i64 i64 mr ml :: Fr) (fun _ _ => False)) := by
  refine fn_enter Tryz.func113 rfl Tryz.ntmps113 rfl ?_; refine g_seq ?_; refine g_region ?_; refine kPa rfl rfl ?_; refine p_nil ?_; refine g_seq ?_; refine g_region ?_; refine kPm rfl rfl ?_
  refine p_call rfl (en_f Tryz.call123 rfl) (appseqi_ok _ _ mr bb ml hml) .free rfl rfl ?_ ?_
  rotate_left
  · rintro _ _ ⟨⟩
  rintro _ _ ⟨ks, hks, rfl⟩
  refine kPa rfl rfl ?_; refine p_nil ?_; refine g_ret ?_
  exact ret_tmp Tryz.results113 rfl (fun w hw => ⟨_, ⟨ks, hks, rfl⟩, hw⟩)
theorem sortedi_ok (B : World) (Fr : List HP) (mr bb : Nat) (ml : List (Int × Int)) (hml : ml.length ≤ 1000000) :
    ∀ w, Holds B (row bb [.map (some mr)] 69 :: mapA .i64 i64 mr ml :: Fr) w → Calls Tryz.prog 95 [.func (.func 115) [].toArray [ptr bb].toArray].toArray w (Ret B (fun rv H' => H' = AccV 0 (rv, sortI (ml.map Prod.fst)) :: mapA .i64 i64 mr ml :: Fr) (fun _ _ => False)) := by
  refine fn_enter Tryz.func95 rfl Tryz.ntmps95 rfl ?_; refine g_seq ?_; refine g_region ?_; refine kPa rfl rfl ?_; refine p_nil ?_; refine g_seq ?_; refine g_region ?_; refine kPm rfl rfl ?_
  refine p_call rfl (en_f Tryz.call113 rfl) (collecti_ok _ _ mr bb ml hml) .free rfl rfl ?_ ?_
  rotate_left
  · rintro _ _ ⟨⟩
  rintro v5 _ ⟨ks, hks, rfl⟩
  have hkl : ks.length ≤ 1000000 := by rw [hks.length_eq, List.length_map]; exact hml
  refine kPa rfl rfl ?_; refine p_nil ?_; refine g_seq ?_; refine g_region ?_; refine kPm rfl rfl ?_
  refine p_call rfl (en_f Tryz.call114 rfl) (ssort_ok _ _ _ ks hkl) .free rfl rfl ?_ ?_
  rotate_left
  · rintro _ _ ⟨⟩
  rintro _ _ rfl
  refine p_nil ?_; refine g_seq ?_; refine g_region ?_; refine kPm rfl rfl ?_; refine kPa rfl rfl ?_; refine p_nil ?_; refine go_sub (σ' := [(2, _)]) ⟨rfl, trivial⟩ ?_; refine g_ret ?_
  exact ret_tmp Tryz.results95 rfl (fun w hw => ⟨_, rfl, by rw [← sortI_perm hks]; exact hw⟩)
end Go.Proofs.YtbfheafpecgphaaGreat
namespace Go.Proofs.YtbfheafpecgphaaGreat
open Go
structure TabS where
  at_ : List (Int × Int)
  no : List (Int × Int)
  last : Int
def TabA (b : Nat) (T : TabS) : HP := hex fun (x : Nat × Nat) => grp [row b [.map (some x.1), .map (some x.2), i64 T.last] 139, mapA .i64 i64 x.1 T.at_, mapA .i64 i64 x.2 T.no]
theorem go_tab {B : World} {n : Nat} {D : List Deferred} {σ : Env} {b : Nat} {T : TabS} {Fr : List HP} {K : Act → World → Prop} (h : ∀ b1 b2, GO B n D σ (row b [.map (some b1), .map (some b2), i64 T.last] 139 :: mapA .i64 i64 b1 T.at_ :: mapA .i64 i64 b2 T.no :: Fr) K) : GO B n D σ (TabA b T :: Fr) K := fun a w st => by
  obtain ⟨x, hx⟩ := st.holds.hex
  exact h _ _ a w ⟨st.toStA, hx.grp⟩
theorem tab_holds {B : World} {b b1 b2 : Nat} {T : TabS} {Fr : List HP} {w : World} (h : Holds B (row b [.map (some b1), .map (some b2), i64 T.last] 139 :: mapA .i64 i64 b1 T.at_ :: mapA .i64 i64 b2 T.no :: Fr) w) : Holds B (TabA b T :: Fr) w :=
  Holds.unhex (b1, b2) (Holds.ungrp (l := [row b [.map (some b1), .map (some b2), i64 T.last] 139, mapA .i64 i64 b1 T.at_, mapA .i64 i64 b2 T.no]) h)
theorem hnew_ok (B : World) (H : List HP) :
    ∀ w, Holds B H w → Calls Tryz.prog 30 [].toArray w (Ret B (fun rv H' => ∃ b, rv = ptr b ∧ H' = TabA b ⟨[], [], 0⟩ :: H) (fun _ _ => False)) := by
  refine fn_enter Tryz.func30 rfl Tryz.ntmps30 rfl ?_; refine g_seq ?_; refine g_region ?_; refine kPa rfl rfl ?_; refine p_nil ?_; refine g_seq ?_; refine g_region ?_; refine p_chg rfl (ch_makeMap .i64 i64) .free rfl rfl ?_
  rintro _ _ ⟨b1, rfl, rfl⟩
  refine p_chg rfl (ch_makeMap .i64 i64) .free rfl rfl ?_
  rintro _ _ ⟨b2, rfl, rfl⟩
  refine p_val rfl (ev_build rfl (bld_139_0_1 _ _ (by first | rfl | assumption) (by first | rfl | assumption))) .free rfl rfl ?_; refine p_chg rfl (ch_boxA rfl) .free rfl rfl ?_
  rintro _ _ ⟨b4, rfl, rfl⟩
  refine kPa rfl rfl ?_; refine p_nil ?_; refine g_ret ?_
  exact ret_tmp Tryz.results30 rfl (fun w hh => ⟨_, ⟨_, rfl, rfl⟩, tab_holds (T := ⟨[], [], 0⟩) ((hh.front 2 rfl).back 1 (by simp))⟩)
theorem hplace_ok (B : World) (Fr : List HP) (b : Nat) (T : TabS) (n : Int) :
    ∀ w, Holds B (TabA b T :: Fr) w → Calls Tryz.prog 61 [ptr b, i64 n].toArray w (PureR B (TabA b T :: Fr) (.tuple #[i64 ((mget T.at_ n).getD 0), .bool (mget T.at_ n).isSome])) := by
  refine fn_enter Tryz.func61 rfl Tryz.ntmps61 rfl ?_; refine go_tab fun b1 b2 => ?_; refine g_seq ?_; refine g_region ?_; refine kPa rfl rfl ?_; refine kPa rfl rfl ?_; refine p_nil ?_; refine g_seq ?_; refine g_region ?_; refine kPm rfl rfl ?_
  first | refine kPv (ev_nil rfl) rfl ?_ | refine kPv (ev_nilf rfl) rfl ?_
  refine kPv (ev_fa (m := _) fa_139_0 rfl rfl) rfl ?_; refine kPv (ev_load Tryz.isAgg69 rfl rfl) rfl ?_; refine kPm rfl rfl ?_; refine kPv ((ev_lookup2 Tryz.runUnderlying69 Tryz.runUnderlying3 Tryz.zeroValue3 rfl rfl).eq (congrArg (fun v => Value.tuple #[v, .bool _]) (mval_i _))) rfl ?_; refine kPm rfl rfl ?_; refine kPv (ev_ext rfl rfl) rfl ?_; refine kPv (ev_ext rfl rfl) rfl ?_; refine kPa rfl rfl ?_; refine kPa rfl rfl ?_; refine p_nil ?_
  refine go_sub (σ' := [(7, _), (6, _), (5, _), (4, _)]) ⟨rfl, rfl, rfl, rfl, trivial⟩ ?_; refine g_seq ?_; refine g_region ?_; refine kPm rfl rfl ?_; refine kPm rfl rfl ?_; refine kPa rfl rfl ?_; refine kPa rfl rfl ?_; refine p_nil ?_; refine g_ret ?_
  exact ret_tmp2 Tryz.results61 rfl rfl (fun w hh => ⟨rfl, tab_holds hh⟩)
theorem hdrop_ok (B : World) (Fr : List HP) (b : Nat) (T : TabS) (n : Int) :
    ∀ w, Holds B (TabA b T :: Fr) w → Calls Tryz.prog 32 [ptr b, i64 n].toArray w (Ret B (fun rv H' => rv = .bool (mget T.at_ n).isSome ∧ H' = TabA b ⟨mdel T.at_ n, if (mget T.at_ n).isSome = true then mdel T.no ((mget T.at_ n).getD 0) else T.no, T.last⟩ :: Fr) (fun _ _ => False)) := by
  refine fn_enter Tryz.func32 rfl Tryz.ntmps32 rfl ?_; refine go_tab fun b1 b2 => ?_; refine g_seq ?_; refine g_region ?_; refine kPa rfl rfl ?_; refine p_nil ?_; refine g_seq ?_; refine g_region ?_; refine kPm rfl rfl ?_
  first | refine kPv (ev_nil rfl) rfl ?_ | refine kPv (ev_nilf rfl) rfl ?_
  refine kPv (ev_fa (m := _) fa_139_0 rfl rfl) rfl ?_; refine kPv (ev_load Tryz.isAgg69 rfl rfl) rfl ?_; refine kPm rfl rfl ?_; refine kPv ((ev_lookup2 Tryz.runUnderlying69 Tryz.runUnderlying3 Tryz.zeroValue3 rfl rfl).eq (congrArg (fun v => Value.tuple #[v, .bool _]) (mval_i _))) rfl ?_; refine kPm rfl rfl ?_; refine kPv (ev_ext rfl rfl) rfl ?_; refine kPv (ev_ext rfl rfl) rfl ?_; refine kPa rfl rfl ?_; refine kPa rfl rfl ?_; refine p_nil ?_
  refine go_sub (σ' := [(6, _), (5, _), (4, _), (0, _), (1, _)]) ⟨rfl, rfl, rfl, rfl, rfl, trivial⟩ ?_; refine g_seq ?_; refine g_region ?_; refine kPm rfl rfl ?_
  first | refine kPv (ev_nil rfl) rfl ?_ | refine kPv (ev_nilf rfl) rfl ?_
  refine kPv (ev_fa (m := _) fa_139_0 rfl rfl) rfl ?_; refine kPv (ev_load Tryz.isAgg69 rfl rfl) rfl ?_; refine kPm rfl rfl ?_; refine p_chg0 rfl (ch_delete rfl Tryz.runUnderlying69 Tryz.runUnderlying3 rfl rfl) .free rfl ?_
  rintro _ _ rfl
  refine p_nil ?_; refine g_seq ?_; refine g_seq ?_; refine g_region ?_; refine kPm rfl rfl ?_; refine p_nil ?_
  refine g_if rfl (fun h21 => ?_) (fun h21 => ?_)
  · try simp only [decide_eq_true_eq, decide_eq_false_iff_not, Bool.not_eq_true', Bool.not_eq_false', Bool.or_eq_true, Bool.and_eq_true, Bool.and_eq_false_iff, Bool.or_eq_false_iff, beq_iff_eq, bne_iff_ne, beq_eq_false_iff_ne, bne_eq_false_iff_eq, ge_iff_le, gt_iff_lt, ne_eq] at h21
    refine g_region ?_; refine kPm rfl rfl ?_
    first | refine kPv (ev_nil rfl) rfl ?_ | refine kPv (ev_nilf rfl) rfl ?_
    refine kPv (ev_fa (m := _) fa_139_1 rfl rfl) rfl ?_; refine kPv (ev_load Tryz.isAgg69 rfl rfl) rfl ?_; refine kPm rfl rfl ?_; refine p_chg0 rfl (ch_delete rfl Tryz.runUnderlying69 Tryz.runUnderlying3 rfl rfl) .free rfl ?_
    rintro _ _ rfl
    refine p_nil ?_; refine go_sub (σ' := [(6, _), (4, _)]) ⟨rfl, rfl, trivial⟩ ?_; refine g_seq ?_; refine g_region ?_; refine kPm rfl rfl ?_; refine kPa rfl rfl ?_; refine p_nil ?_; refine g_ret ?_
    exact ret_tmp Tryz.results32 rfl (fun w hh => ⟨_, ⟨rfl, rfl⟩, by rw [if_pos h21]; exact tab_holds hh⟩)
  · try simp only [decide_eq_true_eq, decide_eq_false_iff_not, Bool.not_eq_true', Bool.not_eq_false', Bool.or_eq_true, Bool.and_eq_true, Bool.and_eq_false_iff, Bool.or_eq_false_iff, beq_iff_eq, bne_iff_ne, beq_eq_false_iff_ne, bne_eq_false_iff_eq, ge_iff_le, gt_iff_lt, ne_eq] at h21
    refine g_skip ?_; refine g_seq ?_; refine g_region ?_; refine kPm rfl rfl ?_; refine kPa rfl rfl ?_; refine p_nil ?_; refine go_sub (σ' := [(4, _)]) ⟨rfl, trivial⟩ ?_; refine g_ret ?_
    exact ret_tmp Tryz.results32 rfl (fun w hh => ⟨_, ⟨rfl, rfl⟩, by rw [if_neg (by rw [h21]; decide)]; exact tab_holds hh⟩)
theorem mset_new {α : Type} {k : Int} {z u : α} : ∀ {l : List (Int × α)}, (∀ p ∈ l, p.1 ≠ k) → mset (l ++ [(k, z)]) k u = l ++ [(k, u)]
  | [], _ => by simp [mset]
  | p :: l, h => by
    simp only [List.cons_append, mset]
    rw [if_neg (h p (List.mem_cons_self ..)), mset_new fun q hq => h q (List.mem_cons_of_mem _ hq)]
theorem mset_entry {α : Type} {k : Int} {z u : α} {l : List (Int × α)} : mset (mentry l k z) k u = mset l k u := by
  unfold mentry
  cases hc : mfind l k 0 with
  | none => rw [mfind_none hc]; exact mset_new (mfind_notin hc)
  | some v => rfl
def TabS.take (T : TabS) (p : Int) : Int × TabS :=
  if p = 0 then (0, T) else if (mget T.no p).isSome = true then ((mget T.no p).getD 0, T)
  else (T.last + 1, ⟨mset T.at_ (T.last + 1) p, mset T.no p (T.last + 1), T.last + 1⟩)
theorem htake_ok (B : World) (Fr : List HP) (b : Nat) (T : TabS) (p : Int) (hT : 0 ≤ T.last ∧ T.last ≤ 1000000000) :
    ∀ w, Holds B (TabA b T :: Fr) w → Calls Tryz.prog 31 [ptr b, i64 p].toArray w (Ret B (fun rv H' => rv = i64 (T.take p).1 ∧ H' = TabA b (T.take p).2 :: Fr) (fun _ _ => False)) := by
  refine fn_enter Tryz.func31 rfl Tryz.ntmps31 rfl ?_; refine go_tab fun b1 b2 => ?_; refine g_seq ?_; refine g_region ?_; refine kPa rfl rfl ?_; refine p_nil ?_; refine g_seq ?_; refine g_seq ?_; refine g_region ?_; refine kPm rfl rfl ?_; refine kPv (ev_cmp rfl rfl rfl) rfl ?_; refine p_nil ?_
  refine g_if rfl (fun h8 => ?_) (fun h8 => ?_)
  · have hk : p = 0 := by simpa using h8
    have hres : T.take p = (0, T) := by unfold TabS.take; rw [if_pos hk]
    refine g_seq ?_; refine g_region ?_; refine kPa rfl rfl ?_; refine p_nil ?_; refine g_ret ?_
    exact ret_tmp Tryz.results31 rfl (fun w hh => ⟨_, ⟨by rw [hres], rfl⟩, by rw [hres]; exact tab_holds hh⟩)
  · have hk : ¬ p = 0 := by simpa using h8
    refine g_skip ?_; refine g_seq ?_; refine g_seq ?_; refine g_region ?_; refine kPm rfl rfl ?_
    first | refine kPv (ev_nil rfl) rfl ?_ | refine kPv (ev_nilf rfl) rfl ?_
    refine kPv (ev_fa (m := _) fa_139_1 rfl rfl) rfl ?_; refine kPv (ev_load Tryz.isAgg69 rfl rfl) rfl ?_; refine kPm rfl rfl ?_; refine kPv ((ev_lookup2 Tryz.runUnderlying69 Tryz.runUnderlying3 Tryz.zeroValue3 rfl rfl).eq (congrArg (fun v => Value.tuple #[v, .bool _]) (mval_i _))) rfl ?_; refine kPm rfl rfl ?_; refine kPv (ev_ext rfl rfl) rfl ?_; refine kPv (ev_ext rfl rfl) rfl ?_; refine kPa rfl rfl ?_; refine kPa rfl rfl ?_; refine p_nil ?_
    refine go_sub (σ' := [(6, _), (5, _), (4, _), (0, _), (1, _)]) ⟨rfl, rfl, rfl, rfl, rfl, trivial⟩ ?_; refine g_seq ?_; refine g_region ?_; refine kPm rfl rfl ?_; refine p_nil ?_
    refine g_if rfl (fun h18 => ?_) (fun h18 => ?_)
    · have hres : T.take p = ((mget T.no p).getD 0, T) := by unfold TabS.take; rw [if_neg hk, if_pos h18]
      refine g_seq ?_; refine g_region ?_; refine kPm rfl rfl ?_; refine kPa rfl rfl ?_; refine p_nil ?_; refine g_ret ?_
      exact ret_tmp Tryz.results31 rfl (fun w hh => ⟨_, ⟨by rw [hres]; rfl, rfl⟩, by rw [hres]; exact tab_holds hh⟩)
    · have hres : T.take p = (T.last + 1, ⟨mset T.at_ (T.last + 1) p, mset T.no p (T.last + 1), T.last + 1⟩) := by unfold TabS.take; rw [if_neg hk, if_neg (by rw [h18]; decide)]
      refine g_skip ?_; refine g_seq ?_; refine g_region ?_; refine kPm rfl rfl ?_
      first | refine kPv (ev_nil rfl) rfl ?_ | refine kPv (ev_nilf rfl) rfl ?_
      refine kPv (ev_fa (m := _) fa_139_2 rfl rfl) rfl ?_; refine kPv (ev_load Tryz.isAgg3 rfl rfl) rfl ?_
      first | refine p_val rfl (ev_add rfl rfl (wr64 (by omega))) .free rfl rfl ?_ | refine p_val rfl (ev_add rfl rfl rfl) .free rfl rfl ?_
      first | refine kPv (ev_nil rfl) rfl ?_ | refine kPv (ev_nilf rfl) rfl ?_
      refine kPv (ev_fa (m := _) fa_139_2 rfl rfl) rfl ?_; refine p_chg0 rfl (ch_store Tryz.sizeOf3 rfl rfl rfl rfl) .free rfl ?_
      rintro _ _ rfl
      refine p_nil ?_; refine go_sub (σ' := [(4, _), (0, _), (1, _)]) ⟨rfl, rfl, rfl, trivial⟩ ?_; refine g_seq ?_; refine g_drawv [0, 1, 2, 3, 4, 5, 6, 7, 8, 9, 10, 11, 12, 13, 14, 15, 16, 17, 18, 19, 20, 21, 22, 23] [18, 20, 21, 23] [12, 13] [18, 20] [] Tryz.mixed (by kernel_rfl) ?_; refine v_val rfl rfl rfl (ev_move rfl) .free rfl ?_
      first | refine v_val rfl rfl rfl (ev_nil rfl) .free rfl ?_ | refine v_val rfl rfl rfl (ev_nilf rfl) .free rfl ?_
      refine v_val rfl rfl rfl (ev_fa (m := _) fa_139_0 rfl rfl) .free rfl ?_; refine v_val rfl rfl rfl (ev_load Tryz.isAgg69 rfl rfl) .free rfl ?_; refine v_val rfl rfl rfl (ev_move rfl) .free rfl ?_
      first | refine v_val rfl rfl rfl (ev_nil rfl) .free rfl ?_ | refine v_val rfl rfl rfl (ev_nilf rfl) .free rfl ?_
      refine v_val rfl rfl rfl (ev_fa (m := _) fa_139_2 rfl rfl) .free rfl ?_; refine v_val rfl rfl rfl (ev_load Tryz.isAgg3 rfl rfl) .free rfl ?_; refine v_val rfl rfl rfl (ev_move rfl) .free rfl ?_
      first | refine v_val rfl rfl rfl (ev_nil rfl) .free rfl ?_ | refine v_val rfl rfl rfl (ev_nilf rfl) .free rfl ?_
      refine v_val rfl rfl rfl (ev_fa (m := _) fa_139_1 rfl rfl) .free rfl ?_; refine v_val rfl rfl rfl (ev_load Tryz.isAgg69 rfl rfl) .free rfl ?_; refine v_hoist rfl rfl rfl (ev_move rfl) .free rfl ?_; refine v_hoist rfl rfl rfl (ev_move rfl) .free rfl ?_; refine v_val rfl rfl rfl (ev_move rfl) .free rfl ?_
      first | refine v_val rfl rfl rfl (ev_nil rfl) .free rfl ?_ | refine v_val rfl rfl rfl (ev_nilf rfl) .free rfl ?_
      refine v_val rfl rfl rfl (ev_fa (m := _) fa_139_2 rfl rfl) .free rfl ?_; refine v_val rfl rfl rfl (ev_load Tryz.isAgg3 rfl rfl) .free rfl ?_; refine v_mark rfl rfl ?_; refine go_front 1 rfl ?_
      simp only [List.eraseIdx_cons_succ, List.eraseIdx_cons_zero]
      refine p_chg rfl (ch_mapentry (u0 := (0 : Int)) Tryz.runUnderlying69 Tryz.runUnderlying3 Tryz.zeroValue3 rfl rfl) .free rfl rfl ?_
      rintro _ _ ⟨z1, st1, rfl, rfl⟩
      refine p_nil ?_; refine v_on ?_; refine v_val rfl rfl rfl (ev_ext rfl rfl) .free rfl ?_; refine v_mark rfl rfl ?_; refine p_chg0 rfl (ch_entrystore rfl rfl rfl rfl) .free rfl ?_
      rintro _ _ rfl
      refine p_nil ?_; refine v_on ?_; refine v_mark rfl rfl ?_; refine go_front 2 rfl ?_
      simp only [List.eraseIdx_cons_succ, List.eraseIdx_cons_zero]
      refine p_chg rfl (ch_mapentry (u0 := (0 : Int)) Tryz.runUnderlying69 Tryz.runUnderlying3 Tryz.zeroValue3 rfl rfl) .free rfl rfl ?_
      rintro _ _ ⟨z2, st2, rfl, rfl⟩
      refine p_nil ?_; refine v_off rfl ?_; refine v_val rfl rfl rfl (ev_ext rfl rfl) .free rfl ?_; refine v_mark rfl rfl ?_; refine p_chg0 rfl (ch_entrystore rfl rfl rfl rfl) .free rfl ?_
      rintro _ _ rfl
      refine p_nil ?_; refine v_off rfl ?_; refine v_nil ?_; refine go_sub (σ' := [(4, _), (0, _)]) ⟨rfl, rfl, trivial⟩ ?_; refine g_seq ?_; refine g_region ?_; refine kPm rfl rfl ?_
      first | refine kPv (ev_nil rfl) rfl ?_ | refine kPv (ev_nilf rfl) rfl ?_
      refine kPv (ev_fa (m := _) fa_139_2 rfl rfl) rfl ?_; refine kPv (ev_load Tryz.isAgg3 rfl rfl) rfl ?_; refine kPa rfl rfl ?_; refine p_nil ?_; refine g_ret ?_
      exact ret_tmp Tryz.results31 rfl (fun w hh => ⟨_, ⟨by rw [hres], rfl⟩, by rw [hres]; rw [mset_entry, mset_entry] at hh; exact tab_holds (T := ⟨_, _, _⟩) ((hh.front 1 rfl).front 2 rfl)⟩)
theorem hnumbers_ok (B : World) (Fr : List HP) (b : Nat) (T : TabS) (hTl : T.at_.length ≤ 1000000) :
    ∀ w, Holds B (TabA b T :: Fr) w → Calls Tryz.prog 56 [ptr b].toArray w (Ret B (fun rv H' => H' = AccV 0 (rv, sortI (T.at_.map Prod.fst)) :: TabA b T :: Fr) (fun _ _ => False)) := by
  refine fn_enter Tryz.func56 rfl Tryz.ntmps56 rfl ?_; refine go_tab fun b1 b2 => ?_; refine g_seq ?_; refine g_region ?_; refine kPa rfl rfl ?_; refine p_nil ?_; refine g_seq ?_; refine g_region ?_; refine kPm rfl rfl ?_
  first | refine kPv (ev_nil rfl) rfl ?_ | refine kPv (ev_nilf rfl) rfl ?_
  refine kPv (ev_fa (m := _) fa_139_0 rfl rfl) rfl ?_; refine kPv (ev_load Tryz.isAgg69 rfl rfl) rfl ?_
  refine p_call rfl (en_f Tryz.call96 rfl) (mkeysi_ok _ _ _) .free rfl rfl ?_ ?_
  rotate_left
  · rintro _ _ ⟨⟩
  rintro _ _ ⟨bb, rfl, rfl⟩
  refine go_conv (H' := row bb [.map (some b1)] 69 :: mapA .i64 i64 b1 T.at_ :: row b [.map (some b1), .map (some b2), i64 T.last] 139 :: mapA .i64 i64 b2 T.no :: Fr) (fun w hh => (hh.front 2 rfl).back 1 (by simp)) ?_
  refine p_call rfl (en_f Tryz.call95 rfl) (sortedi_ok _ _ b1 bb T.at_ hTl) .free rfl rfl ?_ ?_
  rotate_left
  · rintro _ _ ⟨⟩
  rintro v8 _ rfl
  refine kPa rfl rfl ?_; refine p_nil ?_; refine go_sub (σ' := [(2, _)]) ⟨rfl, trivial⟩ ?_; refine g_ret ?_
  exact ret_tmp Tryz.results56 rfl (fun w hh => ⟨_, rfl, Holds.front (A := AccV 0 (v8, sortI (T.at_.map Prod.fst))) (tab_holds (T := T) (((hh.front 3 rfl).front 2 rfl).front 3 rfl)) 1 rfl⟩)
end Go.Proofs.YtbfheafpecgphaaGreat
namespace Go.Proofs.YtbfheafpecgphaaGreat
open Go
theorem truncate_k {L L' : LogS} {s s' : Dev} (hL : LogW L) (e : L.truncate s = .ok L' s') : (U64 s → U64 s') ∧ s'.n = s.n ∧ LogW L' ∧ L'.d = L.d ∧ L'.c = L.c ∧ L'.n = 0 := by
  unfold LogS.truncate at e
  split at e
  · rename_i h; cases e; exact ⟨id, rfl, hL, rfl, rfl, h⟩
  obtain ⟨_, s1, e1, e⟩ := then_inv e
  obtain ⟨_, s2, e2, e⟩ := then_inv e
  obtain ⟨_, s3, e3, e⟩ := then_inv e
  cases e
  have h1 := hL.c.l1; have h2 := hL.c.r1
  refine ⟨fun hu => ?_, ((fence_n e3).trans (flush_n e2)).trans (store_n e1), ⟨hL.c, by simp only; omega, by simp only; omega, Int.le_refl 0, by simp only; omega⟩, rfl, rfl, rfl⟩
  exact (fence_u64 (flush_u64 (store_u64 hu (by omega) e1).1 e2).1 e3).1
theorem recN_k {c : Cfg} : ∀ (k : Nat) (s s' : Dev), recN undoS c k s = .ok () s' → (U64 s → U64 s') ∧ s'.n = s.n
  | 0, s, s', e => by cases e; exact ⟨id, rfl⟩
  | k + 1, s, s', e => by
    unfold recN at e
    obtain ⟨_, s1, e1, e⟩ := then_inv e
    unfold undoS at e1
    obtain ⟨_, s2, e2, e1⟩ := then_inv e1
    obtain ⟨_, s3, e3, e1⟩ := then_inv e1
    cases e1
    obtain ⟨g1, g2⟩ := recN_k k s1 s' e
    exact ⟨fun hu => g1 (flush_u64 (store_u64 hu (hu.load _) e2).1 e3).1, g2.trans ((flush_n e3).trans (store_n e2))⟩
theorem undo_k {L L' : LogS} {s s' : Dev} (hL : LogW L) (e : L.undo s = .ok L' s') : (U64 s → U64 s') ∧ s'.n = s.n ∧ LogW L' ∧ L'.d = L.d ∧ L'.c = L.c ∧ L'.n = 0 := by
  unfold LogS.undo at e
  obtain ⟨_, s1, e1, e⟩ := then_inv e
  obtain ⟨_, s2, e2, e⟩ := then_inv e
  obtain ⟨g1, g2⟩ := recN_k _ _ _ e1
  obtain ⟨h1, h2, h3, h4, h5, h6⟩ := truncate_k hL e
  have k : (U64 s1 → U64 s2) ∧ s2.n = s1.n := by
    split at e2
    · exact ⟨fun hu => (fence_u64 hu e2).1, fence_n e2⟩
    · cases e2; exact ⟨id, rfl⟩
  exact ⟨fun hu => h1 (k.1 (g1 hu)), (h2.trans k.2).trans g2, h3, h4, h5, h6⟩
theorem flushAll_k : ∀ (l : List Int) (s s' : Dev), flushAll l s = .ok () s' → (U64 s → U64 s') ∧ s'.n = s.n
  | [], s, s', e => by cases e; exact ⟨id, rfl⟩
  | k :: ks, s, s', e => by
    unfold flushAll at e
    obtain ⟨_, s1, e1, e⟩ := then_inv e
    obtain ⟨g1, g2⟩ := flushAll_k ks s1 s' e
    exact ⟨fun hu => g1 (flush_u64 hu e1).1, g2.trans (flush_n e1)⟩
theorem commit_k {S S' : SecS} {s s' : Dev} (hL : LogW S.L) (e : S.commit s = .ok S' s') : (U64 s → U64 s') ∧ s'.n = s.n ∧ LogW S'.L ∧ S'.L.d = S.L.d ∧ S'.L.c = S.L.c ∧ S'.L.n = 0 := by
  unfold SecS.commit at e
  obtain ⟨_, s1, e1, e⟩ := then_inv e
  obtain ⟨_, s2, e2, e⟩ := then_inv e
  obtain ⟨_, s3, e3, e⟩ := then_inv e
  cases e
  obtain ⟨g1, g2⟩ := flushAll_k _ _ _ e1
  obtain ⟨h1, h2, h3, h4, h5, h6⟩ := truncate_k hL e3
  have k : (U64 s1 → U64 s2) ∧ s2.n = s1.n := by
    split at e2
    · exact ⟨fun hu => (fence_u64 hu e2).1, fence_n e2⟩
    · cases e2; exact ⟨id, rfl⟩
  exact ⟨fun hu => h1 (k.1 (g1 hu)), (h2.trans k.2).trans g2, h3, h4, h5, h6⟩
theorem abort_k {S S' : SecS} {s s' : Dev} (hL : LogW S.L) (e : S.abort s = .ok S' s') : (U64 s → U64 s') ∧ s'.n = s.n ∧ LogW S'.L ∧ S'.L.d = S.L.d ∧ S'.L.c = S.L.c ∧ S'.L.n = 0 := by
  unfold SecS.abort at e
  obtain ⟨_, s1, e1, e⟩ := then_inv e
  cases e
  exact undo_k hL e1
theorem writeN_k : ∀ (l : List Int) (i : Int) (S S' : SecS) (s s' : Dev) (a : Int), (∀ v ∈ l, 0 ≤ v ∧ v < 18446744073709551616) → SecW S → U64 s → s.n ≤ 1000000 → writeN secOp l i s S = .ok (a, S') s' → U64 s' ∧ s'.n = s.n ∧ LogW S'.L ∧ S'.L.d = S.L.d ∧ S'.L.c = S.L.c
  | [], i, S, S', s, s', a, _, hS, hu, _, e => by cases e; exact ⟨hu, rfl, hS.L, rfl, rfl⟩
  | v :: vs, i, S, S', s, s', a, hv, hS, hu, hn, e => by
    unfold writeN at e
    split at e
    · exact writeN_k vs _ _ _ _ _ _ (fun v hv' => hv v (List.mem_cons_of_mem _ hv')) hS hu hn e
    · obtain ⟨⟨x, S1⟩, s1, e1, e⟩ := then_inv e
      have h1 := sstore_u64 hS hu hn (hv v (List.mem_cons_self ..)) e1
      have h2 := store_lw hS.L e1
      have h3 := store_dc e1
      have h4 : SecW S1 := store_w hS hn (by have := (act_b hS.L.c).1; omega) e1 h2
      split at e
      · cases e; exact ⟨h1.1, h1.2, h2, h3.1, h3.2.1⟩
      · obtain ⟨g1, g2, g3, g4, g5⟩ := writeN_k vs _ _ _ _ _ _ (fun v hv' => hv v (List.mem_cons_of_mem _ hv')) h4 h1.1 (by rw [h1.2]; exact hn) e
        exact ⟨g1, g2.trans h1.2, g3, g4.trans h3.1, g5.trans h3.2.1⟩
theorem fresh_w {S : SecS} (h : LogW S.L) (f t : Int) : SecW (S.fresh f t) := ⟨h, fun p hp => (List.not_mem_nil (show p ∈ ([] : List (Int × Unit)) from hp)).elim⟩
theorem flip_k {c : Cfg} {b : Blk} {S S' : SecS} {s s' : Dev} {a : Int} (hb : ∀ v ∈ b.act :: b.used :: b.rts, 0 ≤ v ∧ v < 18446744073709551616) (hL : LogW S.L) (hu : U64 s) (hn : s.n ≤ 1000000) (e : flipM c b S s = .ok (a, S') s') : U64 s' ∧ s'.n = s.n ∧ LogW S'.L ∧ S'.L.d = S.L.d ∧ S'.L.c = S.L.c ∧ S'.L.n = 0 := by
  unfold flipM writeM at e
  obtain ⟨⟨x, S1⟩, s1, e1, e⟩ := then_inv e
  obtain ⟨g1, g2, g3, g4, g5⟩ := writeN_k _ _ _ _ _ _ _ hb (fresh_w hL 0 0) hu hn e1
  split at e
  · obtain ⟨S2, s2, e2, e⟩ := then_inv e
    cases e
    obtain ⟨h1, h2, h3, h4, h5, h6⟩ := abort_k g3 e2
    exact ⟨h1 g1, h2.trans g2, h3, h4.trans g4, h5.trans g5, h6⟩
  · obtain ⟨S2, s2, e2, e⟩ := then_inv e
    cases e
    obtain ⟨h1, h2, h3, h4, h5, h6⟩ := commit_k g3 e2
    exact ⟨h1 g1, h2.trans g2, h3, h4.trans g4, h5.trans g5, h6⟩
theorem colblk_w {X : ColS} (h : ColW X) : ∀ v ∈ X.block.act :: X.block.used :: X.block.rts, 0 ≤ v ∧ v < 18446744073709551616 := fun v hv => by
  have h1 := h.b.act; have h2 := h.free; have h3 := h.fb; have h4 := h.to_
  simp only [List.mem_cons] at hv
  rcases hv with rfl | rfl | hv
  · simp only [ColS.block]; omega
  · simp only [ColS.block]; omega
  · obtain ⟨u, _, rfl⟩ := List.mem_map.1 hv
    have := h.vb u
    omega
theorem collect_k {bd : Nat} {c : Cfg} {S : SecS} {s s' : Dev} {ws : List Int} {r : Option ColS × Int × SecS} (hc : CfgW c) (hw : ∀ v ∈ ws, 0 ≤ v ∧ v < 18446744073709551616) (hL : LogW S.L) (hu : U64 s) (hn : s.n ≤ 1000000) (hL0 : S.L.n = 0) (e : collectM bd c S s ws = .ok r s') : U64 s' ∧ s'.n = s.n ∧ LogW r.2.2.L ∧ r.2.2.L.d = S.L.d ∧ r.2.2.L.c = S.L.c ∧ r.2.2.L.n = 0 ∧ (∀ X, r.1 = some X → ColW X) := by
  unfold collectM at e
  split at e
  · cases e; exact ⟨hu, rfl, hL, rfl, rfl, hL0, fun _ h => by cases h⟩
  obtain ⟨X, s1, e1, e⟩ := then_inv e
  have hX0 : ColW (newCol bd c (s.block c).1 ((s.block c).1.rts ++ ws)) := newCol_w hc (block_w hc hu) (block_len hc) (block_rts hu) fun v hv => by
    rcases List.mem_append.1 hv with hv | hv
    · exact block_rts hu v hv
    · exact hw v hv
  obtain ⟨hX, u1, _⟩ := runN_w _ _ _ _ _ hX0 hu e1
  have n1 := run_n e1
  obtain ⟨⟨a, S2⟩, s2, e2, e⟩ := then_inv e
  obtain ⟨g1, g2, g3, g4, g5, g6⟩ := flip_k (colblk_w hX) hL u1 (by rw [n1]; exact hn) e2
  split at e
  · cases e; exact ⟨g1, g2.trans n1, g3, g4, g5, g6, fun _ h => by cases h⟩
  · cases e; exact ⟨g1, g2.trans n1, g3, g4, g5, g6, fun X' h => by cases h; exact hX⟩
end Go.Proofs.YtbfheafpecgphaaGreat
