/- The law SectionKeeps: the walk. Conditions: none. -/
import Derived.Test.YtbhpbnedocdneaaSpl
import Derived.Test.YtbhpbnedocdneaaArg
set_option linter.unusedSimpArgs false
set_option linter.unusedVariables false
set_option linter.unnecessarySimpa false
set_option linter.unusedSectionVars false
namespace Go.Proofs.Ytbhpbnedocdneaa
set_option linter.unusedSimpArgs false
set_option linter.unusedVariables false
open Go
structure KeepI where
  k : Nat
  s : Dev
  S : SecS
  M : MS
theorem eq_rows (B : World) (H : List HP) (b1 b2 o1 o2 c1 c2 n N1 N2 : Nat) (r1 r2 : List Value) (T1 T2 : TypeId) {U1 U2 : List Value → List HP} (f g : Nat → Int) (hn : n ≤ 1000000) (h1 : o1 + n = N1) (h2 : o2 + n = N2) [RowU H b1 (tab N1 (fun i => w64 (f i)) ++ r1) T1 U1] [RowU H b2 (tab N2 (fun i => w64 (g i)) ++ r2) T2 U2] (h : ∀ x, x < n → f (o1 + x) = g (o2 + x)) :
    ∀ w, Holds B H w → Calls Try.prog 26 [.slice (some ⟨b1, o1, none⟩) n c1, .slice (some ⟨b2, o2, none⟩) n c2].toArray w (PureR B H (.bool true)) := by
  have s1 : ∀ (h : Nat → Int) (r : List Value) (o N : Nat), o + n = N → ((tab N (fun i => w64 (h i)) ++ r).drop o).take n = (tab n fun j => w64 (h (o + j))) := fun h r o N e => by
    rw [List.drop_append_of_le_length (by rw [tab_len]; omega), List.take_append_of_le_length (by rw [List.length_drop, tab_len]; omega), tab_slice (by omega)]
  have h0 := equal_ok B H (some ⟨b1, o1, none⟩) (some ⟨b2, o2, none⟩) c1 c2 (tab n fun j => f (o1 + j)) (tab n fun j => g (o2 + j)) (by rw [tab_len]; exact hn) (by rw [tab_len]; exact hn) (fun _ _ => ⟨_, _, rfl⟩) (fun _ _ => ⟨_, _, rfl⟩)
  rw [tab_len, tab_len, tab_map, tab_map] at h0
  have h3 := h0 (SlR.row (s1 f r1 _ _ h1) (tab_len _ _)) (SlR.row (s1 g r2 _ _ h2) (tab_len _ _))
  rwa [decide_eq_true (tab_congr h)] at h3

theorem sectionKeeps_ok (B : World) (Fr : List HP) [HasOld Fr B] (l r s : Int) (hl : 0 ≤ l) (hr : 0 ≤ r) (hs : 0 ≤ s) (qa : Option Addr) (len capa : Nat) (A : Nat → Int × Int × Int) (hlen0 : len ≤ 9223372036854775807) (hA : ∀ i, i < len → 0 ≤ (A i).1 ∧ (A i).1 ≤ 255 ∧ 0 ≤ (A i).2.1 ∧ (A i).2.1 ≤ 65535) (ha : ArgRow B qa len 3 (fun i => [.int .u8 (A i).1, u16 (A i).2.1, w64 (A i).2.2])) (fh : Int) (hfr : 0 ≤ fh) (bits : Int) :
    ∀ w, Holds B Fr w → Calls Try.prog 7 [.agg #[u16 l, u16 r, u16 s], .slice qa len capa, u8 fh, w64 bits].toArray w (PureR B Fr (.bool true)) := by
  refine fn_enter Try.func7 rfl Try.ntmps7 rfl ?_
  obtain ⟨c, hcm⟩ : ∃ c, c = mkC l r s := ⟨_, rfl⟩
  have hc : CfgW c := by rw [hcm]; exact mkC_w hl hr hs
  obtain ⟨hA1, hA2, hA3⟩ := act_w hc
  refine g_seq ?_
  refine g_region ?_
  refine p_chg rfl (ch_boxA rfl) .free rfl rfl ?_
  rintro _ _ ⟨b4, rfl, rfl⟩
  refine p_chg rfl (ch_box1 rfl rfl) .free rfl rfl ?_
  rintro _ _ ⟨b7, rfl, rfl⟩
  refine p_val rfl (ev_assign rfl) .free rfl rfl ?_
  refine p_nil ?_
  refine g_seq ?_
  refine g_seq ?_
  refine g_region ?_
  refine p_callq rfl (en_f Try.call9 rfl) (awake7_ok _ _) .free rfl rfl ?_
  refine p_val rfl (ev_not rfl) .free rfl rfl ?_
  refine p_nil ?_
  refine g_iff rfl (rfl) ?_
  refine g_skip ?_
  refine g_seq ?_
  refine g_seq ?_
  refine g_region ?_
  refine p_val rfl (ev_move rfl) .free rfl rfl ?_
  refine p_val rfl (ev_len rfl Try.runUnderlying54 ⟨_, rfl⟩ rfl) .free rfl rfl ?_
  refine p_val rfl (ev_cmp rfl rfl rfl) .free rfl rfl ?_
  refine p_nil ?_
  refine g_if rfl (fun h19 => ?_) (fun h19 => ?_)
  · try simp only [decide_eq_true_eq, decide_eq_false_iff_not, Bool.not_eq_true', Bool.not_eq_false', Bool.or_eq_true, Bool.and_eq_true, Bool.and_eq_false_iff, Bool.or_eq_false_iff, beq_iff_eq, bne_iff_ne, beq_eq_false_iff_ne, bne_eq_false_iff_eq, ge_iff_le, gt_iff_lt, ne_eq] at h19
    refine g_seq ?_
    refine g_region ?_
    refine p_val rfl (ev_assign rfl) .free rfl rfl ?_
    refine p_nil ?_
    refine go_sub (σ' := [(8, _), (7, _), (4, _), (1, _), (2, _)]) ⟨rfl, rfl, rfl, rfl, rfl, trivial⟩ ?_
    refine g_ret ?_
    exact ret_tmp Try.results7 rfl (fun w hh => ⟨rfl, hh.tail.tail⟩)
  · have hlen4 : len ≤ 40 := by simp at h19; omega
    refine g_skip ?_
    refine g_seq ?_
    refine g_region ?_
    refine p_val rfl (ev_loadA Try.isAgg24 Try.sizeOf24 rfl rfl) .free rfl rfl ?_
    refine p_call rfl (en_f Try.call10 rfl) (start_ok _ _ l r s hl hr hs c hcm none 0 [] (by decide) (fun i hi => absurd hi (Nat.not_lt_zero _)) SlR.nil) .free rfl rfl ?_ ?_
    rotate_left
    · rintro _ _ ⟨⟩
    rintro _ _ ⟨bd, bs, bm, bc, s0, rest, hf, hn, rfl, rfl⟩
    refine p_val rfl (ev_move rfl) .free rfl rfl ?_
    refine p_val rfl (ev_ext rfl rfl) .free rfl rfl ?_
    refine p_val rfl (ev_ext rfl rfl) .free rfl rfl ?_
    refine p_val rfl (ev_ext rfl rfl) .free rfl rfl ?_
    refine p_val rfl (ev_assign rfl) .free rfl rfl ?_
    refine p_val rfl (ev_assign rfl) .free rfl rfl ?_
    refine p_val rfl (ev_assign rfl) .free rfl rfl ?_
    refine p_nil ?_
    refine go_sub (σ' := [(11, _), (10, _), (9, _), (8, _), (7, _), (1, _), (2, _)]) ⟨rfl, rfl, rfl, rfl, rfl, rfl, rfl, trivial⟩ ?_
    refine g_seq ?_
    refine g_seq ?_
    refine g_region ?_
    simp only [hf.log]
    have hP0 : PI True c s0.n bd ⟨c, s0.n - c.active.toNat, fun i => s0.now (c.active.toNat + i), none, [], false, 0, 0⟩ ⟨⟨bd, c, 1, 0⟩, 0, 0, [], []⟩ s0 := ⟨rfl, rfl, rfl, hn, fun _ _ => rfl, rfl, fun _ => ⟨⟨hf.lim, hf.calm.q⟩, fun _ => hf.calm.kept, rfl, ⟨hc, show (0 : Int) ≤ 1 by decide, show (1 : Int) < 4294967296 by decide, show (0 : Int) ≤ 0 by decide, by have := hc.l1; have := hc.r1; show (0 : Int) ≤ c.log; omega⟩, rfl, hf.ep.1, by rw [hf.ep.2]; show (0 : Int) ≠ stampI 1 0; decide⟩, fun h => (by cases h)⟩
    refine go_conv (H' := MA bm ⟨c, s0.n - c.active.toNat, fun i => s0.now (c.active.toNat + i), none, [], false, 0, 0⟩ :: SecX false bs ⟨⟨bd, c, 1, 0⟩, 0, 0, [], []⟩ :: DevA bd s0 :: _) (fun w hh => ma_holds (M := ⟨c, s0.n - c.active.toNat, fun i => s0.now (c.active.toNat + i), none, [], false, 0, 0⟩) ((((((accv_nil (Holds.unpr rfl hh)).front 0 rfl).front 1 rfl).front 3 rfl).front 3 rfl))) ?_
    refine p_val rfl (ev_move rfl) .free rfl rfl ?_
    refine p_val rfl (ev_eqp Try.runUnderlying27 rfl rfl rfl) .free rfl rfl ?_
    refine p_val rfl (ev_move rfl) .free rfl rfl ?_
    refine p_val rfl (ev_move rfl) (.on rfl rfl (beq_eq rfl)) rfl rfl ?_
    refine p_val rfl (ev_move rfl) (.on rfl rfl (beq_eq rfl)) rfl rfl ?_
    refine p_val rfl (ev_build rfl (bld_56)) (.on rfl rfl (beq_eq rfl)) rfl rfl ?_
    refine p_val rfl (ev_move rfl) (.on rfl rfl (beq_eq rfl)) rfl rfl ?_
    refine go_pull DevA bd ?_
    refine go_pull (SecX false) bs ?_
    refine go_pull MA bm ?_
    refine p_call rfl (en_f Try.call18 rfl) (mdo_pi _ _ _ _ _ _ True c _ _ _ hc hP0 _ _ _ _ (by omega) ⟨by omega, by omega⟩ hfr (fun h => absurd h (by decide))) (.on rfl rfl (beq_eq rfl)) rfl rfl ?_ ?_
    rotate_left
    · rintro _ _ ⟨⟩
    rintro rv _ ⟨M1, S1, s1, rfl, hP1, ⟨hop1, -, -⟩, rfl⟩
    have ho1 : M1.o = true := hop1 (by decide)
    refine p_val rfl (ev_not rfl) (.on rfl rfl (beq_eq rfl)) rfl rfl ?_
    refine p_val rfl (ev_pick_f rfl rfl rfl) .free rfl rfl ?_
    refine p_nil ?_
    refine go_sub (σ' := [(35, _), (11, _), (10, _), (9, _), (8, _), (7, _), (1, _), (2, _)]) ⟨rfl, rfl, rfl, rfl, rfl, rfl, rfl, rfl, trivial⟩ ?_
    refine g_iff rfl (rfl) ?_
    refine g_skip ?_
    refine g_seq ?_
    refine g_seq ?_
    refine g_region ?_
    refine p_val rfl (ev_move rfl) .free rfl rfl ?_
    refine p_val rfl (ev_len rfl Try.runUnderlying54 ⟨_, rfl⟩ rfl) .free rfl rfl ?_
    refine p_val rfl (ev_move rfl) .free rfl rfl ?_
    refine p_nil ?_
    refine g_block ?_
    refine g_loop (ι := KeepI) (fun i => i.k ≤ len ∧ PI True c s0.n bd i.M i.S i.s ∧ i.M.o = true) (fun i => [(2, u8 fh), (7, ptr b7), (9, ptr bd), (10, ptr bs), (11, ptr bm), (8, .bool false), (36, .slice qa len capa), (37, i64 len), (38, i64 i.k)]) (fun i => MA bm i.M :: SecX i.M.o bs i.S :: DevA bd i.s :: row b7 [w64 bits] 46 :: row b4 [u16 l, u16 r, u16 s] 24 :: Fr) (fun i => len - i.k) ⟨0, s1, S1, M1⟩ ⟨Nat.zero_le _, hP1, ho1⟩ (fun a w st => st.to ⟨rfl, rfl, rfl, rfl, rfl, rfl, rfl, rfl, rfl, trivial⟩ id) ?_
    rintro ⟨k, s, S, M⟩ ⟨hk0, hP9, ho9⟩
    simp only at hk0 hP9 ho9 ⊢
    refine g_seq ?_
    refine g_region ?_
    refine p_val rfl (ev_cmp rfl rfl rfl) .free rfl rfl ?_
    refine p_nil ?_
    refine g_seq ?_
    refine g_if rfl (fun h39 => ?_) (fun h39 => ?_)
    · have hk : k < len := by simpa using h39
      have hAk := hA k hk
      refine g_skip ?_
      refine g_seq ?_
      refine g_block ?_
      refine g_seq ?_
      refine g_region ?_
      obtain ⟨bq, oq, rfl, hz, hqa⟩ := ha.cell k hk
      refine p_val rfl (ev_ia Try.runUnderlying54 Try.sizeOf56 rfl rfl (by omega) (by omega) rfl) .free rfl rfl ?_
      refine p_val rfl (ev_loadOA (cs := [.int .u8 (A k).1, u16 (A k).2.1, w64 (A k).2.2]) Try.isAgg56 Try.sizeOf56 rfl rfl (fun j hj => by rw [Int.toNat_natCast, Nat.add_assoc]; exact hqa j hj)) .free rfl rfl ?_
      refine p_chg rfl (ch_allocA Try.zeroValue56 rfl) .free rfl rfl ?_
      rintro _ _ ⟨b13, rfl, rfl⟩
      refine p_chg0 rfl (ch_storeA (vs := _) Try.sizeOf56 rfl rfl rfl rfl rfl) .free rfl ?_
      rintro _ _ rfl
      refine p_nil ?_
      refine g_seq ?_
      refine g_region ?_
      refine p_val rfl (ev_fa (m := _) fa_56_0 rfl rfl) .free rfl rfl ?_
      refine p_val rfl (ev_load Try.isAgg5 rfl rfl) .free rfl rfl ?_
      refine p_val rfl (ev_rem (c := (A k).1 % 5) rfl rfl (by decide) (rem_e 5 hAk.1)) .free rfl rfl ?_
      first | refine p_val rfl (ev_add rfl rfl (wru8 (by omega))) .free rfl rfl ?_ | refine p_val rfl (ev_add rfl rfl rfl) .free rfl rfl ?_
      refine p_val rfl (ev_fa (m := _) fa_56_0 rfl rfl) .free rfl rfl ?_
      refine p_chg0 rfl (ch_store Try.sizeOf5 rfl rfl rfl rfl) .free rfl ?_
      rintro _ _ rfl
      refine p_nil ?_
      refine go_sub (σ' := [(13, _), (38, _), (37, _), (36, _), (11, _), (10, _), (9, _), (8, _), (7, _), (2, _)]) ⟨rfl, rfl, rfl, rfl, rfl, rfl, rfl, rfl, rfl, rfl, trivial⟩ ?_
      refine g_seq ?_
      refine g_region ?_
      refine p_val rfl (ev_move rfl) .free rfl rfl ?_
      refine p_val rfl (ev_move rfl) .free rfl rfl ?_
      refine p_val rfl (ev_loadA Try.isAgg56 Try.sizeOf56 rfl rfl) .free rfl rfl ?_
      refine p_val rfl (ev_move rfl) .free rfl rfl ?_
      refine go_pull DevA bd ?_
      refine go_pull (SecX M.o) bs ?_
      refine go_pull MA bm ?_
      refine p_call rfl (en_f Try.call18 rfl) (mdo_pi _ _ _ _ _ _ True c _ _ _ hc hP9 _ _ _ _ (by omega) ⟨by omega, by omega⟩ hfr (fun h => absurd h (by omega))) .free rfl rfl ?_ ?_
      rotate_left
      · rintro _ _ ⟨⟩
      rintro rv _ ⟨M', S', s', rfl, hP', ⟨-, -, hop'⟩, rfl⟩
      have ho' : M'.o = true := (hop' (by omega)).trans ho9
      refine p_val rfl (ev_not rfl) .free rfl rfl ?_
      refine p_nil ?_
      refine g_iff rfl (rfl) ?_
      refine g_skip ?_
      refine g_region ?_
      first | refine p_val rfl (ev_add rfl rfl (wr64 (by omega))) .free rfl rfl ?_ | refine p_val rfl (ev_add rfl rfl rfl) .free rfl rfl ?_
      refine p_val rfl (ev_move rfl) .free rfl rfl ?_
      refine p_nil ?_
      refine go_sub (σ' := [(38, _), (37, _), (36, _), (11, _), (10, _), (9, _), (8, _), (7, _), (2, _)]) ⟨rfl, rfl, rfl, rfl, rfl, rfl, rfl, rfl, rfl, trivial⟩ ?_
      exact fun a w st => ⟨⟨k + 1, s', S', M'⟩, ⟨by simp only; omega, hP', ho'⟩, by simp only; omega, st.to ⟨rfl, rfl, rfl, rfl, rfl, rfl, rfl, rfl, rfl, trivial⟩ (fun hh => (hh.front 3 rfl).tail)⟩
    · have hk : ¬ k < len := by simpa using h39
      refine g_exit ?_
      refine g_seq ?_
      refine g_seq ?_
      refine g_region ?_
      refine p_val rfl (ev_move rfl) .free rfl rfl ?_
      refine p_val rfl (ev_move rfl) .free rfl rfl ?_
      refine p_val rfl (ev_build rfl (bld_56_0 _ rfl)) .free rfl rfl ?_
      refine p_val rfl (ev_move rfl) .free rfl rfl ?_
      refine go_pull DevA bd ?_
      refine go_pull (SecX M.o) bs ?_
      refine go_pull MA bm ?_
      refine p_call rfl (en_f Try.call18 rfl) (mdo_pi _ _ _ _ _ _ True c _ _ _ hc hP9 _ _ _ _ (by omega) ⟨by omega, by omega⟩ hfr (fun h => absurd h (by decide))) .free rfl rfl ?_ ?_
      rotate_left
      · rintro _ _ ⟨⟩
      rintro rv _ ⟨M2, S2, s2, rfl, hP2, ⟨-, hcl, -⟩, rfl⟩
      obtain ⟨ho2, hcalm⟩ := hcl (by decide)
      have hcalm := hcalm trivial ho9
      refine p_val rfl (ev_not rfl) .free rfl rfl ?_
      refine p_nil ?_
      refine go_sub (σ' := [(59, _), (11, _), (9, _), (8, _), (7, _)]) ⟨rfl, rfl, rfl, rfl, rfl, trivial⟩ ?_
      refine g_iff rfl (rfl) ?_
      refine g_skip ?_
      refine g_seq ?_
      refine g_region ?_
      obtain ⟨hst2, hkp2, hc2, hw2, hn2, hsh2⟩ := hP2.shut ho2
      have hcn : (s2.crash (chc bits)).n = s0.n := hP2.n
      have hcw : (s2.crash (chc bits)).now = s2.now := (crash_calm hcalm _).1
      have hop9 : openL bd c (s2.crash (chc bits)) = ⟨bd, c, S2.L.epoch, 0⟩ := by
        have h9 := shut0_open (L := S2.L) (s := s2.crash (chc bits)) (d := bd) (by unfold Shut0; rw [hcw]; exact hsh2) hw2 (by rw [hcn]; omega)
        rw [hc2] at h9; exact h9
      have hmw := hP2.nw
      have hmc := hP2.mc
      have heq9 : ∀ x, x < s0.n - c.active.toNat → (s2.crash (chc bits)).now (c.active.toNat + x) = M2.now (0 + x) := fun x hx => by rw [hcw, Nat.zero_add]; exact (hP2.now x (by rw [hmw]; exact hx)).symm
      refine p_val rfl (ev_move rfl) .free rfl rfl ?_
      refine p_val rfl (ev_mkf rfl rfl) .free rfl rfl ?_
      refine go_pull DevA bd ?_
      refine p_call rfl (en_f Try.call23 rfl) (ncrash_ok _ _ _ _ _ _ _ (keepsCh_c _ _ 2 _ _ _ (by have := hP2.n; omega) rfl)) .free rfl rfl ?_ ?_
      rotate_left
      · rintro _ _ ⟨⟩
      rintro _ _ rfl
      refine p_nil ?_
      refine g_seq ?_
      refine g_region ?_
      refine go_pull MA bm ?_
      refine go_ma fun bc9 rest9 wv9 sv9 => ?_
      simp only [mRow, nRow, hmc, hmw]
      refine p_val rfl (ev_move rfl) .free rfl rfl ?_
      refine p_val rfl (ev_move rfl) .free rfl rfl ?_
      first | refine p_val rfl (ev_nil rfl) .free rfl rfl ?_ | refine p_val rfl (ev_nilf rfl) .free rfl rfl ?_
      refine p_val rfl (ev_fa (m := _) fa_42_0 rfl rfl) .free rfl rfl ?_
      refine p_val rfl (ev_loadA Try.isAgg38 Try.sizeOf38 rfl rfl) .free rfl rfl ?_
      refine go_pull DevA bd ?_
      refine p_call rfl (en_f Try.call31 rfl) (lopen_ok _ _ _ _ c hc) .free rfl rfl ?_ ?_
      rotate_left
      · rintro _ _ ⟨⟩
      rintro _ _ ⟨bl9, rfl, rfl⟩
      simp only [hop9]
      refine p_val rfl (ev_assign rfl) .free rfl rfl ?_
      refine p_nil ?_
      refine go_sub (σ' := [(14, _), (11, _), (9, _), (8, _)]) ⟨rfl, rfl, rfl, rfl, trivial⟩ ?_
      refine g_seq ?_
      refine g_drawv [0, 1, 2, 3, 4, 6, 7, 8, 9, 5, 10, 11, 12, 13, 14, 15, 16, 17, 18, 19, 20] [5, 10, 17] [6, 7, 8, 9] [row bm [i64 c.log, i64 c.roots, i64 c.space, .slice (some ⟨bc9, 0, none⟩) (s0.n - c.active.toNat) ((s0.n - c.active.toNat) + rest9.length), wv9, sv9, .bool M2.o, i64 M2.f, i64 M2.t] 42] Try.mixed (by kernel_rfl) ?_
      refine v_val rfl rfl rfl (ev_move rfl) .free rfl ?_
      refine v_val rfl rfl rfl (ev_move rfl) .free rfl ?_
      first | refine v_val rfl rfl rfl (ev_nil rfl) .free rfl ?_ | refine v_val rfl rfl rfl (ev_nilf rfl) .free rfl ?_
      refine v_val rfl rfl rfl (ev_fa (m := _) fa_42_0 rfl rfl) .free rfl ?_
      refine v_val rfl rfl rfl (ev_loadA Try.isAgg38 Try.sizeOf38 rfl rfl) .free rfl ?_
      refine v_hoist rfl rfl rfl (ev_move rfl) .free rfl ?_
      first | refine v_hoist rfl rfl rfl (ev_nil rfl) .free rfl ?_ | refine v_hoist rfl rfl rfl (ev_nilf rfl) .free rfl ?_
      refine v_hoist rfl rfl rfl (ev_fa (m := _) fa_42_1 rfl rfl) .free rfl ?_
      refine v_hoist rfl rfl rfl (ev_load Try.isAgg39 rfl rfl) .free rfl ?_
      refine v_mark rfl rfl ?_
      refine go_pull DevA bd ?_
      refine p_call rfl (en_f Try.call21 rfl) (words7_ok _ _ _ _ c hc (by rw [hcn]; exact hn)) .free rfl rfl ?_ ?_
      rotate_left
      · rintro _ _ ⟨⟩
      rintro _ _ ⟨bw, restw, rfl, rfl⟩
      simp only [hcn]
      refine p_nil ?_
      refine v_on ?_
      refine v_mark rfl rfl ?_
      refine p_callq rfl (en_f Try.call26 rfl) (eq_rows _ _ _ _ _ _ _ _ _ _ _ _ _ _ _ _ _ (by omega) (by omega) (by omega) heq9) .free rfl rfl ?_
      refine p_nil ?_
      refine v_on ?_
      refine v_val rfl rfl rfl (ev_move rfl) .free rfl ?_
      refine v_val rfl rfl rfl (ev_move rfl) (.on rfl rfl (beq_eq rfl)) rfl ?_
      refine v_val rfl rfl rfl (ev_eqp Try.runUnderlying48 rfl rfl rfl) (.on rfl rfl (beq_eq rfl)) rfl ?_
      refine v_val rfl rfl rfl (ev_pick_t rfl rfl rfl) .free rfl ?_
      refine v_val rfl rfl rfl (ev_move rfl) .free rfl ?_
      refine v_val rfl rfl rfl (ev_move rfl) (.on rfl rfl (beq_eq rfl)) rfl ?_
      refine v_mark rfl rfl ?_
      refine p_callq rfl (en_f Try.call16 rfl) (ro_at (q := LogA) (fun Fr => llen_ok _ Fr _ _)) (.on rfl rfl (beq_eq rfl)) rfl rfl ?_
      refine p_nil ?_
      refine v_on ?_
      refine v_val rfl rfl rfl (ev_cmp rfl rfl rfl) (.on rfl rfl (beq_eq rfl)) rfl ?_
      refine v_val rfl rfl rfl (ev_pick_t rfl rfl rfl) .free rfl ?_
      refine v_val rfl rfl rfl (ev_assign rfl) .free rfl ?_
      refine v_nil ?_
      refine go_sub (σ' := [(8, _)]) ⟨rfl, trivial⟩ ?_
      refine g_ret ?_
      exact ret_tmp Try.results7 rfl (fun w hh => ⟨rfl, hh.tail.tail.tail.tail.tail.tail.tail.tail.tail.tail⟩)


theorem sectionKeeps_walk (W : World) (z : Int × Int × Int) (w0 : (Lit.int .u16 z.1).wf = true ∧ (Lit.int .u16 z.2.1).wf = true ∧ (Lit.int .u16 z.2.2).wf = true) {la : Option Addr} {lena capa : Nat} {f : Nat → Int × Int × Int} (w2 : lena ≤ 9223372036854775807 ∧ (∀ i, i < lena → 0 ≤ (f i).1 ∧ (f i).1 ≤ 255 ∧ 0 ≤ (f i).2.1 ∧ (f i).2.1 ≤ 65535) ∧ ArgRow W la lena 3 (fun i => [.int .u8 (f i).1, u16 (f i).2.1, w64 (f i).2.2])) (fh : Int) (wf : (Lit.int .u8 fh).wf = true) (bits : Int) (wb : (Lit.int .u64 bits).wf = true) :
    Calls Try.prog 7 #[.agg #[u16 z.1, u16 z.2.1, u16 z.2.2], .slice la lena capa, .int .u8 fh, .int .u64 bits] W fun e w' => e = .returned (.bool true) ∧ RowKit.Below W.heap.size W w' := by
  have b0 := bounds_u16 w0.1
  have b1 := bounds_u16 w0.2.1
  have b2 := bounds_u16 w0.2.2
  have b3 := bounds_u8 wf
  exact law_of (sectionKeeps_ok W [old W] z.1 z.2.1 z.2.2 (by omega) (by omega) (by omega) la lena capa f w2.1 w2.2.1 w2.2.2 fh (by omega) bits)

namespace sectionKeeps
open Go.ChangeShapes Go.WideShapes Go.ChangeAt Go.RowKit
set_option maxRecDepth 100000 in
theorem lifted (os : Os) (started : os.Started) (H : Type) (enc : TypeId × Value → H) :
    ReturnsInHanded {} Try.checked os 7 .any (Rows.sectionKeepsSpec.pre6 enc Try.prog Try.f7 Rows.sectionKeepsRow.domain false) (Rows.sectionKeepsSpec.post enc Try.prog Try.f7 false true false false) := by
  refine returnsInHanded_of_change (C := Try.checked) Try.ownKnobs started (by kernel_rfl) Try.func7
    (ChangeSpec.witness6 (enc := enc) (C := Try.checked) false ⟨#[], #[.agg #[.int .u16 0, .int .u16 0, .int .u16 0], .slice none 0 0, .int .u8 0, .int .u64 0], []⟩ 8 (by kernel_rfl) (by kernel_rfl) (by kernel_rfl) (by kernel_rfl)) ?_
  intro W base args ds gs before hval0 hW hcnd _
  have hval : ∀ (j : Nat) t v, Try.f7.params[j]? = some t → args[j]? = some v → Value.okWide Try.prog W .any base t v := hval0
  have hW' := hW
  obtain ⟨p, q, hA0, hV, rfl, hfz, hnd⟩ := hW
  have hA : DataW.TrodAll enc Try.prog W 0 (fun _ => true) true Try.f7.params.toList args.toList ds p := hA0
  rw [Try.params7] at hA hval
  obtain ⟨v0, vs0, d0, ds0, p0, q0, hargs, rfl, rfl, h0, r0⟩ := trodAll_cons hA
  obtain ⟨v1, vs1, d1, ds1, p1, q1, rfl, rfl, rfl, h1, r1⟩ := trodAll_cons r0
  obtain ⟨v2, vs2, d2, ds2, p2, q2, rfl, rfl, rfl, h2, r2⟩ := trodAll_cons r1
  obtain ⟨v3, vs3, d3, ds3, p3, q3, rfl, rfl, rfl, h3, r3⟩ := trodAll_cons r2
  obtain ⟨rfl, rfl, rfl⟩ := trodAll_nil r3
  obtain rfl : args = #[v0, v1, v2, v3] := by cases args; simp_all
  obtain ⟨rfl, rfl⟩ := trodVars_none hV
  have k0 := h0
  have lt0 : ∀ x ∈ p0, x.block < W.heap.size := by obtain ⟨m, hm⟩ := k0; exact DataW.trod_lt m _ _ _ hm
  obtain ⟨z0, rfl, w0⟩ := arg_st_u16_u16_u16 (hval 0 24 v0 rfl rfl) h0
  obtain ⟨a1, len1, cap1, rfl⟩ := okWide_slice Try.underlying54 (hval 1 54 v1 rfl rfl)
  have k1 := h1
  have lt1 : ∀ x ∈ p1, x.block < W.heap.size := by obtain ⟨m, hm⟩ := k1; exact DataW.trod_lt m _ _ _ hm
  obtain ⟨z1, w1⟩ := arg_sl_st_u8_u16_u64 h1
  have k2 := h2
  have lt2 : ∀ x ∈ p2, x.block < W.heap.size := by obtain ⟨m, hm⟩ := k2; exact DataW.trod_lt m _ _ _ hm
  obtain ⟨a2, rfl, w2⟩ : ∃ a, v2 = .int .u8 a ∧ (Lit.int .u8 a).wf = true := by
    obtain ⟨a, e, _, _, wa⟩ := open_int Try.underlying5 (hval 2 5 v2 rfl rfl) h2
    exact ⟨a, e, wa⟩
  have k3 := h3
  have lt3 : ∀ x ∈ p3, x.block < W.heap.size := by obtain ⟨m, hm⟩ := k3; exact DataW.trod_lt m _ _ _ hm
  obtain ⟨a3, rfl, w3⟩ : ∃ a, v3 = .int .u64 a ∧ (Lit.int .u64 a).wf = true := by
    obtain ⟨a, e, _, _, wa⟩ := open_int Try.underlying46 (hval 3 46 v3 rfl rfl) h3
    exact ⟨a, e, wa⟩
  clear hA0 hval0
  refine (sectionKeeps_walk W z0 w0 w1 a2 w2 a3 w3).mono fun e W' ⟨he, bel⟩ => ?_
  subst he
  exact ⟨_, rfl, _, _, _, [], _, [], hW', trodAll_mk1 (shut_bool Try.underlying4 _), (trodAll_cons_mk (Below.trod Try.laidOut (by kernel_rfl) (of_decide_eq_true (by kernel_rfl)) k0 bel lt0) (trodAll_cons_mk (Below.trod Try.laidOut (by kernel_rfl) (of_decide_eq_true (by kernel_rfl)) k1 bel lt1) (trodAll_cons_mk (Below.trod Try.laidOut (by kernel_rfl) (of_decide_eq_true (by kernel_rfl)) k2 bel lt2) (trodAll_cons_mk (Below.trod Try.laidOut (by kernel_rfl) (of_decide_eq_true (by kernel_rfl)) k3 bel lt3) trodAll_mk0)))), rfl, bel.frame _, fun h => by cases h⟩
theorem over : Rows.sectionKeepsRow.holds Try.pinned (OpenSpec.ofChange Rows.sectionKeepsSpec) :=
  OpenClaim.holds_of_wide 7 Try.f7 rfl rfl rfl rfl rfl rfl rfl ⟨rfl, rfl, rfl, rfl, rfl⟩ rfl rfl rfl rfl rfl (by kernel_rfl) Try.func7 (by kernel_rfl)
    (of_decide_eq_true (by kernel_rfl)) (by unfold Func.isWrapper; first | (rw [if_pos (by decide +kernel)]; kernel_rfl) | (rw [if_neg (by decide +kernel)]; exact ⟨rfl, rfl⟩))
    (fun os started H enc _ => lifted os started H enc)
/-- The statement. -/
theorem proved : Rows.SectionKeepsSaid := over
end sectionKeeps

end Go.Proofs.Ytbhpbnedocdneaa
