/- The law FlipKeeps. Conditions: none. -/
import Derived.Test.YtbfheafpecgphaaGreatQL15Kn
set_option linter.unusedSimpArgs false
set_option linter.unusedVariables false
set_option linter.unnecessarySimpa false
set_option linter.unusedSectionVars false
namespace Go.Proofs.YtbfheafpecgphaaGreat
set_option linter.unusedSimpArgs false
set_option linter.unusedVariables false
open Go
theorem undo_zero {L : LogS} {s : Dev} (h : L.n = 0) : L.undo s = .ok L s := by
  unfold LogS.undo
  rw [show L.n.toNat = 0 by omega]
  simp [recN, LogS.truncate, h, Out.then]
theorem abort_zero {S : SecS} {s : Dev} (h : S.L.n = 0) : S.abort s = .ok S s := by
  unfold SecS.abort
  rw [undo_zero h]; rfl
theorem was_load {s t : Dev} {N : Nat} (hn : s.n = N) (ht : t.n = N) (h : ∀ i, i < N → t.now i = s.now i) : t.load = s.load := by
  funext j
  unfold Dev.load Dev.has
  rw [hn, ht]
  split
  · rename_i hj
    simp only [Bool.and_eq_true, decide_eq_true_eq] at hj
    exact h _ (by omega)
  · rfl
theorem SlR.tab {B : World} {H : List HP} {n b cap : Nat} {f : Nat → Value} {rest : List Value} {T : TypeId} {U : List Value → List HP} [RowU H b (tab n f ++ rest) T U] : SlR B H (.slice (some ⟨b, 0, none⟩) n cap) (tab n f) :=
  SlR.row (cs := Proofs.YtbfheafpecgphaaGreat.tab n f ++ rest) (T := T) (U := U) (by rw [List.drop_zero, List.take_append_of_le_length (by rw [tab_len]; omega), List.take_of_length_le (by rw [tab_len]; omega)]) (by rw [tab_len])
theorem tab_gd {n i : Nat} {f : Nat → Int} (h : i < n) : (tab n f).getD i 0 = f i := by
  have e : tab n f = (List.range n).map f := rfl
  rw [e, List.getD_eq_getElem?_getD]
  simp [h]
theorem was_dev {c : Cfg} {N : Nat} (hN : (N : Int) = c.words) {s t : Dev} (hn : s.n = N) (hu : U64 s) {pa : Nat} (h : (⟨pa, ⟨-1, 0⟩, ((tab s.n s.now).length + 7) / 8 * 8, fun i => (tab s.n s.now).getD i 0, fun i => (tab s.n s.now).getD i 0, fun _ => none⟩ : Dev) = t) : t.load = s.load ∧ U64 t := by
  have h8 : c.words % 8 = 0 := lo_line
  have hb : ∀ i, 0 ≤ (tab s.n s.now).getD i 0 ∧ (tab s.n s.now).getD i 0 < 18446744073709551616 := fun i => by
    by_cases hi : i < s.n
    · rw [tab_gd hi]; exact hu i
    · rw [List.getD_eq_getElem?_getD, List.getElem?_eq_none (by rw [tab_len]; omega)]; decide
  subst h
  refine ⟨was_load hn (by show ((tab s.n s.now).length + 7) / 8 * 8 = N; rw [tab_len, hn]; omega) fun i hi => tab_gd (by omega), hb⟩
theorem fits_lines {c : Cfg} : c.words % 8 = 0 := lo_line

theorem flipKeeps_ok (B : World) (Fr : List HP) (x0 x1 x2 : Int) (hx : 0 ≤ x0 ∧ 0 ≤ x1 ∧ 0 ≤ x2) (hs : List (Int × Int)) (hhs : ∀ h ∈ hs, (0 ≤ h.1 ∧ h.1 < 256) ∧ (0 ≤ h.2 ∧ h.2 < 256)) (hlen0 : hs.length ≤ 9223372036854775807) (q : Option Addr) (cap : Nat) (hv : SlN B Fr (.slice q hs.length cap) 2 (hs.map fun h => [u8 h.1, u8 h.2])) (ql : Option Addr) (cl : Nat) (l : List Int) (hl : SlR B Fr (.slice ql l.length cl) (l.map u16)) (hlb : ∀ x ∈ l, 0 ≤ x ∧ x < 65536) (hll0 : l.length ≤ 9223372036854775807) (hql : ∀ i, i < l.length → ∃ b off, ql = some ⟨b, off, none⟩) (bits : Int) :
    ∀ w, Holds B Fr w → Calls Tryz.prog 4 [.agg #[u16 x0, u16 x1, u16 x2], .slice q hs.length cap, .slice ql l.length cl, w64 bits].toArray w (PureR B Fr (.bool true)) := by
  refine fn_enter Tryz.func4 rfl Tryz.ntmps4 rfl ?_
  obtain ⟨c, hcm⟩ : ∃ c, c = mkC x0 x1 x2 := ⟨_, rfl⟩
  have hc : CfgW c := by rw [hcm]; exact mkC_w hx.1 hx.2.1 hx.2.2
  have hA := act_w hc
  refine g_seq ?_; refine g_region ?_; refine p_chg rfl (ch_boxA rfl) .free rfl rfl ?_
  rintro _ _ ⟨b4, rfl, rfl⟩
  refine p_chg rfl (ch_box1 rfl rfl) .free rfl rfl ?_
  rintro _ _ ⟨b7, rfl, rfl⟩
  refine kPa rfl rfl ?_; refine p_nil ?_; refine g_seq ?_; refine g_seq ?_; refine g_region ?_; refine p_callq rfl (en_f Tryz.call11 rfl) (awake15_ok _ _) .free rfl rfl ?_; refine kPv (ev_not rfl) rfl ?_; refine p_nil ?_; refine g_iff rfl (rfl) ?_; refine g_skip ?_; refine g_seq ?_; refine g_seq ?_; refine g_region ?_; refine kPm rfl rfl ?_; refine kPv (ev_len rfl Tryz.runUnderlying25 ⟨_, rfl⟩ rfl) rfl ?_; refine kPv (ev_cmp rfl rfl rfl) rfl ?_; refine kPm rfl rfl ?_
  apply p_or (tp := 30) (t := 26) (σ1 := [(26, _), (8, _), (7, _), (4, _), (1, _), (2, _)]) 4 rfl ⟨rfl, rfl, rfl, rfl, rfl, rfl, trivial⟩
  · intro hg1
    refine p_val rfl (ev_move rfl) (.on rfl rfl (beq_eq hg1)) rfl rfl ?_; refine p_val rfl (ev_len rfl Tryz.runUnderlying26 ⟨_, rfl⟩ rfl) (.on rfl rfl (beq_eq hg1)) rfl rfl ?_; refine p_val rfl (ev_cmp rfl rfl rfl) (.on rfl rfl (beq_eq hg1)) rfl rfl ?_; refine kPv (ev_pick_f rfl hg1 rfl) rfl ?_
    exact p_seg rfl ⟨rfl, rfl, rfl, rfl, rfl, rfl, trivial⟩ (or_f hg1)
  · intro hg1
    refine p_skip rfl (.on rfl rfl (beq_ne hg1)) rfl ?_; refine p_skip rfl (.on rfl rfl (beq_ne hg1)) rfl ?_; refine p_skip rfl (.on rfl rfl (beq_ne hg1)) rfl ?_; refine kPv (ev_pick_t rfl hg1 rfl) rfl ?_
    exact p_seg rfl ⟨rfl, rfl, rfl, rfl, rfl, rfl, trivial⟩ (or_t hg1)
  refine p_nil ?_
  refine g_if rfl (fun h30 => ?_) (fun h30 => ?_)
  · try simp only [decide_eq_true_eq, decide_eq_false_iff_not, Bool.not_eq_true', Bool.not_eq_false', Bool.or_eq_true, Bool.and_eq_true, Bool.and_eq_false_iff, Bool.or_eq_false_iff, beq_iff_eq, bne_iff_ne, beq_eq_false_iff_ne, bne_eq_false_iff_eq, ge_iff_le, gt_iff_lt, ne_eq] at h30
    refine g_seq ?_; refine g_region ?_; refine kPa rfl rfl ?_; refine p_nil ?_; refine g_ret ?_
    exact ret_tmp Tryz.results4 rfl (fun w hh => ⟨rfl, (hh.dp [0, 0])⟩)
  · have hlen : hs.length ≤ 25 ∧ l.length ≤ 60 := by simp at h30; omega
    obtain ⟨hlen1, hlen2⟩ := hlen
    refine g_skip ?_; refine g_seq ?_; refine g_region ?_; refine kPv (ev_loadA Tryz.isAgg24 Tryz.sizeOf24 rfl rfl) rfl ?_; refine kPm rfl rfl ?_; refine kPm rfl rfl ?_
    refine p_call rfl (en_f Tryz.call12 rfl) (linked_ok B _ x0 x1 x2 hx c hcm hs hhs (by omega) q cap hv.up ql cl l hl.up hlb (by omega) hql 0 (by decide)) .free rfl rfl ?_ ?_
    rotate_left
    · rintro _ _ ⟨⟩
    rintro _ _ ⟨bd, pa, N, s0, sF, out, hfm, hN, ⟨hus0, hf⟩, hfill, hor⟩
    rcases hor with ⟨n1, n2, s1', s2, ov, sv, hl1, hl2, hu2, hlm2, hn2, hov, hsv, rfl, rfl⟩ | ⟨s1', hl1, _⟩
    rotate_left
    · exact (linked_not hc hN hfm hus0 hhs hfill l hl1).elim
    obtain ⟨⟨u, hFi⟩, hSK0⟩ := linked_sk hc hN hfm hus0 hhs hfill l hl1 hl2 bd
    obtain ⟨X, s1, hrun, hX, hXb, hXbd, hSK1, hact, S', s', hfl, hSK', hblk, hheap, hcr⟩ := keeps_run hc hSK0 hfm hus0 hFi
    have hrl0 := block_rl0 (s := s2) hc (by rw [hFi.block])
    have hbw := block_w (s := s2) hc hu2
    have hbr := block_rts (s := s2) (c := c) hu2
    have hbl := block_len (s := s2) hc
    generalize (s2.block c).1 = b0 at *
    refine kPm rfl rfl ?_; refine kPv (ev_ext rfl rfl) rfl ?_; refine kPv (ev_ext rfl rfl) rfl ?_; refine kPv (ev_ext rfl rfl) rfl ?_; refine kPv (ev_ext rfl rfl) rfl ?_; refine p_chg rfl (ch_allocA Tryz.zeroValue30 rfl) .free rfl rfl ?_
    rintro _ _ ⟨b10, rfl, rfl⟩
    refine p_chg rfl (ch_allocA Tryz.zeroValue33 rfl) .free rfl rfl ?_
    rintro _ _ ⟨b11, rfl, rfl⟩
    refine kPa rfl rfl ?_; refine p_chg0 rfl (ch_storeA (vs := _) Tryz.sizeOf30 rfl rfl rfl rfl rfl) .free rfl ?_
    rintro _ _ rfl
    refine p_chg0 rfl (ch_storeA (vs := _) Tryz.sizeOf33 rfl rfl rfl (by first | rfl | exact all3 (by assumption)) rfl) .free rfl ?_
    rintro _ _ rfl
    refine kPa rfl rfl ?_; refine p_nil ?_; refine go_sub (σ' := [(9, _), (11, _), (10, _), (8, _), (7, _)]) ⟨rfl, rfl, rfl, rfl, rfl, trivial⟩ ?_; refine g_seq ?_; refine g_seq ?_; refine go_conv (H' := row b11 [i64 b0.act, i64 b0.used, sv] 33 :: row b10 [i64 c.log, i64 c.roots, i64 c.space] 30 :: VecU 0 (sv, b0.rts) :: DevA bd s2 :: VecA 3 i64 0 (ov, out) :: row b7 [w64 bits] 52 :: row b4 [u16 x0, u16 x1, u16 x2] 24 :: Fr) (fun w hh => by have h := hh; exact h) ?_
    refine g_region ?_; refine kPm rfl rfl ?_; refine kPv (ev_eqp Tryz.runUnderlying28 rfl rfl rfl) rfl ?_; refine p_nil ?_; refine g_iff rfl (rfl) ?_; refine g_skip ?_; refine g_seq ?_; refine g_region ?_; refine kPm rfl rfl ?_; refine kPv (ev_loadA Tryz.isAgg30 Tryz.sizeOf30 rfl rfl) rfl ?_; refine go_pk [3] ?_
    refine p_call rfl (en_f Tryz.call13 rfl) (snew_ok _ _ bd s2 c hc) .free rfl rfl ?_ ?_
    rotate_left
    · rintro _ _ ⟨⟩
    rintro _ _ ⟨bs, rfl, rfl⟩
    refine kPa rfl rfl ?_; refine p_nil ?_; refine g_seq ?_; refine g_seq ?_; refine g_region ?_; refine go_secC fun bl o1 o2 => ?_; refine kPm rfl rfl ?_; refine kPv (ev_eqp Tryz.runUnderlying37 rfl rfl rfl) rfl ?_; refine kPm rfl rfl ?_; refine p_val rfl (ev_move rfl) (.on rfl rfl (beq_eq rfl)) rfl rfl ?_
    first | refine p_val rfl (ev_nil rfl) (.on rfl rfl (beq_eq rfl)) rfl rfl ?_ | refine p_val rfl (ev_nilf rfl) (.on rfl rfl (beq_eq rfl)) rfl rfl ?_
    refine p_val rfl (ev_fa (m := _) fa_44_0 rfl rfl) (.on rfl rfl (beq_eq rfl)) rfl rfl ?_; refine p_val rfl (ev_load Tryz.isAgg39 rfl rfl) (.on rfl rfl (beq_eq rfl)) rfl rfl ?_; refine p_val rfl (ev_eqp Tryz.runUnderlying39 rfl rfl rfl) (.on rfl rfl (beq_eq rfl)) rfl rfl ?_; refine kPv (ev_pick_f rfl rfl rfl) rfl ?_; refine p_nil ?_; refine go_sub (σ' := [(53, _), (13, _), (9, _), (11, _), (10, _), (8, _), (7, _)]) ⟨rfl, rfl, rfl, rfl, rfl, rfl, rfl, trivial⟩ ?_; refine g_iff rfl (rfl) ?_
    refine g_skip ?_; refine g_seq ?_; refine go_conv (fun w hh => secC_holds (S := (⟨openL bd c s2, 0, 0, [], []⟩ : SecS)) hh) ?_; refine go_pk [4] ?_; refine go_vecq fun qo co hqo' hqo => ?_
    subst hqo'
    refine g_region ?_; refine kPm rfl rfl ?_; refine kPv (ev_loadA Tryz.isAgg30 Tryz.sizeOf30 rfl rfl) rfl ?_; refine kPv (ev_loadA Tryz.isAgg33 Tryz.sizeOf33 rfl rfl) rfl ?_; refine kPv (ev_fa (m := _) fa_33_2 rfl rfl) rfl ?_; refine kPv (ev_load Tryz.isAgg31 rfl rfl) rfl ?_
    refine p_call rfl (en_f Tryz.call16 rfl) (cnew_ok B _ bd c hc b0 hbw (.slice qo b0.rts.length co) rfl qo co b0.rts (by omega) (fun h => List.eq_nil_of_length_eq_zero (Nat.eq_zero_of_not_pos fun h0 => by obtain ⟨b, o, e⟩ := hqo 0 h0; rw [h] at e; cases e)) (vec_slr 0 rfl)) .free rfl rfl ?_ ?_
    rotate_left
    · rintro _ _ ⟨⟩
    rintro _ _ ⟨x, rfl, rfl⟩
    have hX0 : ColW (newCol bd c b0 b0.rts) := newCol_w hc hbw hbl hbr hbr
    refine kPa rfl rfl ?_; refine p_nil ?_; refine go_sub (σ' := [(14, _), (13, _), (9, _), (10, _), (8, _), (7, _)]) ⟨rfl, rfl, rfl, rfl, rfl, rfl, trivial⟩ ?_; refine g_seq ?_; refine g_seq ?_; refine g_region ?_; refine kPm rfl rfl ?_; refine kPv (ev_eqp Tryz.runUnderlying45 rfl rfl rfl) rfl ?_; refine p_nil ?_; refine g_iff rfl (rfl) ?_; refine g_skip ?_; refine g_seq ?_; refine g_region ?_; refine kPm rfl rfl ?_; refine go_pk [0, 1] ?_
    refine p_call rfl (en_f Tryz.call17 rfl) (crun_ok B _ x (newCol bd c b0 b0.rts) hX0 s2 hu2) .free rfl rfl ?_ ?_
    rotate_left
    · rintro _ _ ⟨s9, hm9, _⟩
      rw [hrun] at hm9; cases hm9
    rintro _ _ ⟨X2, s12, hm1, rfl, rfl⟩
    rw [hrun] at hm1
    cases hm1
    refine p_nil ?_; refine g_seq ?_; refine g_region ?_; refine kPm rfl rfl ?_; refine kPv (ev_build rfl (bld_41)) rfl ?_; refine go_pk [2] ?_
    refine p_call rfl (en_f Tryz.call18 rfl) (sbeginC_ok B _ bs (⟨openL bd c s2, 0, 0, [], []⟩ : SecS) 0 0) .free rfl rfl ?_ ?_
    rotate_left
    · rintro _ _ ⟨⟩
    rintro _ _ ⟨rfl, rfl⟩
    refine p_nil ?_; refine go_sub (σ' := [(14, _), (13, _), (9, _), (10, _), (8, _), (7, _)]) ⟨rfl, rfl, rfl, rfl, rfl, rfl, trivial⟩ ?_; refine g_seq ?_; refine g_seq ?_; refine g_region ?_; refine kPm rfl rfl ?_; refine kPv (ev_loadA Tryz.isAgg30 Tryz.sizeOf30 rfl rfl) rfl ?_; refine kPm rfl rfl ?_; refine kPm rfl rfl ?_; refine p_callq rfl (en_f Tryz.call19 rfl) (flipO_ok B _ bs bd x ((⟨openL bd c s2, 0, 0, [], []⟩ : SecS).fresh 0 0) c) .free rfl rfl ?_; refine kPv (ev_cmp rfl rfl rfl) rfl ?_
    refine kPm rfl rfl ?_; refine p_val rfl (ev_move rfl) (.on rfl rfl (beq_eq rfl)) rfl rfl ?_; refine go_pk [0, 1] ?_
    refine p_call rfl (en_f Tryz.call20 rfl) (sabortO_ok B _ bs ((⟨openL bd c s2, 0, 0, [], []⟩ : SecS).fresh 0 0) s1 (fresh_w hSK0.lw 0 0)) (.on rfl rfl (beq_eq rfl)) rfl rfl ?_ ?_
    rotate_left
    · rintro _ _ ⟨s9, hm9, _⟩
      rw [abort_zero (S := SecS.fresh ⟨openL bd c s2, 0, 0, [], []⟩ 0 0) hSK0.ln] at hm9; cases hm9
    rintro _ _ ⟨S3, s3, hm3, rfl, rfl⟩
    rw [abort_zero (S := SecS.fresh ⟨openL bd c s2, 0, 0, [], []⟩ 0 0) hSK0.ln] at hm3
    cases hm3
    refine p_val rfl (ev_cmp rfl rfl rfl) (.on rfl rfl (beq_eq rfl)) rfl rfl ?_; refine kPv (ev_pick_f rfl rfl rfl) rfl ?_; refine p_nil ?_; refine go_sub (σ' := [(77, _), (14, _), (13, _), (9, _), (10, _), (8, _), (7, _)]) ⟨rfl, rfl, rfl, rfl, rfl, rfl, rfl, trivial⟩ ?_; refine g_iff rfl (rfl) ?_; refine g_skip ?_; refine g_seq ?_; refine g_region ?_; refine kPm rfl rfl ?_; refine kPv (ev_loadA Tryz.isAgg30 Tryz.sizeOf30 rfl rfl) rfl ?_; refine kPm rfl rfl ?_; refine kPm rfl rfl ?_
    refine go_pk [0, 1, 0] ?_
    refine p_call rfl (en_f Tryz.call19 rfl) (flip_ok B _ bs x bd ((⟨openL bd c s2, 0, 0, [], []⟩ : SecS).fresh 0 0) X hX (by rw [hXb]; exact hrl0) c s1 hSK1.u ⟨hSK0.lw, by rw [hSK1.n]; omega, hSK0.ld, hSK0.lc⟩) .free rfl rfl ?_ ?_
    rotate_left
    · rintro _ _ ⟨s9, hm9, _⟩
      rw [show flipM c X.block ((⟨openL bd c s2, 0, 0, [], []⟩ : SecS).fresh 0 0) s1 = .ok (0, S') s' from hfl] at hm9; cases hm9
    rintro _ _ ⟨a2, S2, s22, hm2, rfl, rfl⟩
    rw [show flipM c X.block ((⟨openL bd c s2, 0, 0, [], []⟩ : SecS).fresh 0 0) s1 = .ok (0, S') s' from hfl] at hm2
    cases hm2
    refine kPa rfl rfl ?_; refine p_nil ?_; refine go_sub (σ' := [(15, _), (9, _), (10, _), (8, _), (7, _)]) ⟨rfl, rfl, rfl, rfl, rfl, trivial⟩ ?_; refine g_seq ?_; refine g_region ?_; refine kPm rfl rfl ?_; refine kPv (ev_loadA Tryz.isAgg30 Tryz.sizeOf30 rfl rfl) rfl ?_; refine go_pk [2] ?_
    refine p_call rfl (en_f Tryz.call15 rfl) (rread_ok _ _ _ _ c hc hSK'.u) .free rfl rfl ?_ ?_
    rotate_left
    · rintro _ _ ⟨⟩
    rintro _ _ ⟨sv4, hsv4, rfl, rfl⟩
    rw [hblk]
    refine go_vecq fun q4 c4 hq4 hq4i => ?_
    subst hq4
    refine kPm rfl rfl ?_; refine kPv (ev_ext rfl rfl) rfl ?_; refine kPv (ev_ext rfl rfl) rfl ?_; refine p_chg rfl (ch_allocA Tryz.zeroValue33 rfl) .free rfl rfl ?_
    rintro _ _ ⟨b16, rfl, rfl⟩
    refine p_chg0 rfl (ch_storeA (vs := _) Tryz.sizeOf33 rfl rfl rfl (by first | rfl | exact all3 (by assumption)) rfl) .free rfl ?_
    rintro _ _ rfl
    refine kPa rfl rfl ?_; refine p_nil ?_; refine g_seq ?_; refine g_region ?_; refine kPm rfl rfl ?_; refine go_pk [2] ?_
    refine p_call rfl (en_f Tryz.call22 rfl) (nwords_ok _ _ bd s') .free rfl rfl ?_ ?_
    rotate_left
    · rintro _ _ ⟨⟩
    rintro _ _ ⟨bw, rest, rfl, rfl⟩
    refine p_call rfl (en_f Tryz.call21 rfl) (new2_ok _ _ _ (tab s'.n s'.now) (by rw [tab_len, hSK'.n]; omega) (by rw [tab_len, hSK'.n]; omega) (by rw [tab_map]; exact SlR.tab)) .free rfl rfl ?_ ?_
    rotate_left
    · rintro _ _ ⟨⟩
    rintro _ _ ⟨be, pa2, rfl, rfl⟩
    generalize ht0 : (⟨pa2, ⟨-1, 0⟩, ((tab s'.n s'.now).length + 7) / 8 * 8, fun i => (tab s'.n s'.now).getD i 0, fun i => (tab s'.n s'.now).getD i 0, fun _ => none⟩ : Dev) = t0
    obtain ⟨hld0, hu0⟩ := was_dev hN hSK'.n hSK'.u ht0
    refine kPa rfl rfl ?_; refine p_nil ?_; refine go_sub (σ' := [(18, _), (17, _), (16, _), (15, _), (9, _), (10, _), (8, _), (7, _)]) ⟨rfl, rfl, rfl, rfl, rfl, rfl, rfl, rfl, trivial⟩ ?_; refine g_seq ?_; refine g_region ?_; refine kPm rfl rfl ?_; refine kPv (ev_mkf rfl rfl) rfl ?_; refine go_pk [2] ?_
    refine p_call rfl (en_f Tryz.call23 rfl) (ncrash_ok _ _ bd s' _ _ _ (fkeepsCh_c _ _ (10 - 1) _ _ _ (by rw [hSK'.n]; omega) rfl)) .free rfl rfl ?_ ?_
    rotate_left
    · rintro _ _ ⟨⟩
    rintro _ _ rfl
    refine p_nil ?_; refine g_seq ?_
    obtain ⟨hb9, hl9, hu9⟩ := hcr (chc bits)
    refine g_region ?_; refine kPm rfl rfl ?_; refine kPv (ev_loadA Tryz.isAgg30 Tryz.sizeOf30 rfl rfl) rfl ?_
    refine p_call rfl (en_f Tryz.call15 rfl) (rread_ok _ _ _ _ c hc hu9) .free rfl rfl ?_ ?_
    rotate_left
    · rintro _ _ ⟨⟩
    rintro _ _ ⟨sv5, hsv5, rfl, rfl⟩
    rw [hb9]
    refine go_vecq fun q5 c5 hq5 hq5i => ?_
    subst hq5
    refine kPm rfl rfl ?_; refine kPv (ev_ext rfl rfl) rfl ?_; refine kPv (ev_ext rfl rfl) rfl ?_; refine p_chg rfl (ch_allocA Tryz.zeroValue33 rfl) .free rfl rfl ?_
    rintro _ _ ⟨b19, rfl, rfl⟩
    refine p_chg0 rfl (ch_storeA (vs := _) Tryz.sizeOf33 rfl rfl rfl (by first | rfl | exact all3 (by assumption)) rfl) .free rfl ?_
    rintro _ _ rfl
    refine kPa rfl rfl ?_; refine p_nil ?_; refine go_sub (σ' := [(20, _), (19, _), (18, _), (17, _), (16, _), (15, _), (9, _), (10, _), (8, _)]) ⟨rfl, rfl, rfl, rfl, rfl, rfl, rfl, rfl, rfl, trivial⟩ ?_; refine g_seq ?_
    have hbX : BlkW c X.block := by have h9 := block_w hc hSK'.u; rw [hblk] at h9; exact h9
    have hrX : X.block.rts.length ≤ 16 := by have h9 := block_len (s := s') hc; rw [hblk] at h9; exact h9
    have hXl : X.went.length ≤ 1000000 := by have h9 := hX.wl; have h8 := hX.b.used; have h7 := hX.c.s2; omega
    have hiso := iso_refl hc hbX (s := t0) (t := s'.crash (chc bits)) (by rw [hld0]; exact hheap) (fun j h1 h2 => by rw [hld0]; exact hl9 j h1 h2)
    have hpr : ∀ i (h : i < X.block.rts.length), PrR ((X.went.map Prod.snd).map fun k => (k, k)) X.block.rts[i] X.block.rts[i] := fun i h => (hheap.roots _ (List.getElem_mem h)).elim (fun e => .inl ⟨e, e⟩) (fun e => .inr (List.mem_map.2 ⟨_, e, rfl⟩))
    have hck := heap_check hc hu9 hb9 (hheap.congr hl9)
    rw [show (X.block, (0 : Int)).1 = X.block from rfl]
    refine g_region ?_; refine kPm rfl rfl ?_; refine kPv (ev_cmp rfl rfl rfl) rfl ?_; refine kPm rfl rfl ?_; refine p_val rfl (ev_move rfl) (.on rfl rfl (beq_eq rfl)) rfl rfl ?_; refine p_val rfl (ev_cmp rfl rfl rfl) (.on rfl rfl (beq_eq rfl)) rfl rfl ?_; refine kPv (ev_pick_t rfl rfl rfl) rfl ?_; refine kPm rfl rfl ?_; refine p_val rfl (ev_move rfl) (.on rfl rfl (beq_eq rfl)) rfl rfl ?_; refine p_val rfl (ev_cmp rfl rfl rfl) (.on rfl rfl (beq_eq rfl)) rfl rfl ?_
    refine kPv (ev_pick_t rfl rfl rfl) rfl ?_; refine kPm rfl rfl ?_; refine p_val rfl (ev_move rfl) (.on rfl rfl (beq_eq rfl)) rfl rfl ?_; refine p_val rfl (ev_eqp Tryz.runUnderlying28 rfl rfl rfl) (.on rfl rfl (beq_eq rfl)) rfl rfl ?_; refine kPv (ev_pick_t rfl rfl rfl) rfl ?_; refine kPm rfl rfl ?_; refine p_val rfl (ev_fa (m := _) fa_33_0 rfl rfl) (.on rfl rfl (beq_eq rfl)) rfl rfl ?_; refine p_val rfl (ev_load Tryz.isAgg3 rfl rfl) (.on rfl rfl (beq_eq rfl)) rfl rfl ?_
    refine p_val rfl (ev_fa (m := _) fa_33_0 rfl rfl) (.on rfl rfl (beq_eq rfl)) rfl rfl ?_; refine p_val rfl (ev_load Tryz.isAgg3 rfl rfl) (.on rfl rfl (beq_eq rfl)) rfl rfl ?_; refine p_val rfl (ev_cmp rfl rfl rfl) (.on rfl rfl (beq_eq rfl)) rfl rfl ?_; refine kPv (ev_pick_t rfl rfl rfl) rfl ?_; refine kPm rfl rfl ?_; refine p_val rfl (ev_fa (m := _) fa_33_1 rfl rfl) (.on rfl rfl (beq_eq (by simp))) rfl rfl ?_
    refine p_val rfl (ev_load Tryz.isAgg3 rfl rfl) (.on rfl rfl (beq_eq (by simp))) rfl rfl ?_; refine p_val rfl (ev_fa (m := _) fa_33_1 rfl rfl) (.on rfl rfl (beq_eq (by simp))) rfl rfl ?_; refine p_val rfl (ev_load Tryz.isAgg3 rfl rfl) (.on rfl rfl (beq_eq (by simp))) rfl rfl ?_; refine p_val rfl (ev_cmp rfl rfl rfl) (.on rfl rfl (beq_eq (by simp))) rfl rfl ?_; refine kPv (ev_pick_t rfl (by simp) rfl) rfl ?_; refine kPm rfl rfl ?_
    refine p_val rfl (ev_fa (m := _) fa_33_2 rfl rfl) (.on rfl rfl (beq_eq (by simp))) rfl rfl ?_; refine p_val rfl (ev_load Tryz.isAgg31 rfl rfl) (.on rfl rfl (beq_eq (by simp))) rfl rfl ?_; refine p_val rfl (ev_fa (m := _) fa_33_2 rfl rfl) (.on rfl rfl (beq_eq (by simp))) rfl rfl ?_; refine p_val rfl (ev_load Tryz.isAgg31 rfl rfl) (.on rfl rfl (beq_eq (by simp))) rfl rfl ?_; refine go_pk [1] ?_
    refine p_callq rfl (en_f Tryz.call26 rfl) (equal_ok _ _ q5 q4 c5 c4 X.block.rts X.block.rts (by omega) (by omega) hq5i hq4i (vec_slr 0 rfl) (vec_slr 6 rfl)) (.on rfl rfl (beq_eq (by simp))) rfl rfl ?_; refine kPv (ev_pick_t rfl (by simp) rfl) rfl ?_; refine kPm rfl rfl ?_; refine p_val rfl (ev_move rfl) (.on rfl rfl (beq_eq (by simp))) rfl rfl ?_; refine p_val rfl (ev_loadA Tryz.isAgg30 Tryz.sizeOf30 rfl rfl) (.on rfl rfl (beq_eq (by simp))) rfl rfl ?_
    refine p_callq rfl (en_f Tryz.call27 rfl) (ro_at (q := DevA) (fun Fr => ccheck_ok _ Fr bd _ c hc hu9)) (.on rfl rfl (beq_eq (by simp))) rfl rfl ?_; refine p_val rfl (ev_cmp rfl rfl rfl) (.on rfl rfl (beq_eq (by simp))) rfl rfl ?_; refine kPv (ev_pick_t rfl (by simp) rfl) rfl ?_; refine kPm rfl rfl ?_; refine go_pk [3, 2] ?_; refine p_val rfl (ev_move rfl) (.on rfl rfl (beq_eq (by rw [hck]; rfl))) rfl rfl ?_
    refine p_val rfl (ev_loadA Tryz.isAgg30 Tryz.sizeOf30 rfl rfl) (.on rfl rfl (beq_eq (by rw [hck]; rfl))) rfl rfl ?_
    refine p_val rfl (ev_loadA Tryz.isAgg33 Tryz.sizeOf33 rfl rfl) (.on rfl rfl (beq_eq (by rw [hck]; rfl))) rfl rfl ?_
    refine p_val rfl (ev_fa (m := _) fa_33_2 rfl rfl) (.on rfl rfl (beq_eq (by rw [hck]; rfl))) rfl rfl ?_
    refine p_val rfl (ev_load Tryz.isAgg31 rfl rfl) (.on rfl rfl (beq_eq (by rw [hck]; rfl))) rfl rfl ?_
    refine p_val rfl (ev_move rfl) (.on rfl rfl (beq_eq (by rw [hck]; rfl))) rfl rfl ?_
    refine p_val rfl (ev_loadA Tryz.isAgg33 Tryz.sizeOf33 rfl rfl) (.on rfl rfl (beq_eq (by rw [hck]; rfl))) rfl rfl ?_
    refine p_val rfl (ev_fa (m := _) fa_33_2 rfl rfl) (.on rfl rfl (beq_eq (by rw [hck]; rfl))) rfl rfl ?_
    refine p_val rfl (ev_load Tryz.isAgg31 rfl rfl) (.on rfl rfl (beq_eq (by rw [hck]; rfl))) rfl rfl ?_
    refine p_callq rfl (en_f Tryz.call28 rfl) (same_ok B _ be bd t0 (s'.crash (chc bits)) c hc X.block X.block (.slice q4 X.block.rts.length c4) (.slice q5 X.block.rts.length c5) hbX hbX rfl rfl hu0 hu9 _ hiso (by rw [List.length_map, List.length_map]; exact hXl) X.block.rts X.block.rts rfl (by omega) hpr q4 q5 c4 c5 hq4i hq5i (vec_slr (6 - 2) rfl) (vec_slr (2 - 2) rfl)) (.on rfl rfl (beq_eq (by rw [hck]; rfl))) rfl rfl ?_
    refine kPv (ev_pick_t rfl (by rw [hck]; rfl) rfl) rfl ?_
    refine kPa rfl rfl ?_; refine p_nil ?_; refine go_sub (σ' := [(8, _)]) ⟨rfl, trivial⟩ ?_; refine g_ret ?_
    exact ret_tmp Tryz.results4 rfl (fun w hh => ⟨rfl, (hh.dp [0, 0, 0, 0, 0, 0, 0, 0, 0, 0, 0, 0, 0, 0])⟩)


theorem flipKeeps_walk (W : World) (z : Int × Int × Int) (w0 : (Lit.int .u16 z.1).wf = true ∧ (Lit.int .u16 z.2.1).wf = true ∧ (Lit.int .u16 z.2.2).wf = true) {a1 : Option Addr} {n1 cap1 : Nat} {f : Nat → Int × Int} (w1 : n1 ≤ 9223372036854775807 ∧ (∀ i, i < n1 → 0 ≤ (f i).1 ∧ (f i).1 ≤ 255 ∧ 0 ≤ (f i).2 ∧ (f i).2 ≤ 255) ∧ ArgRow W a1 n1 2 (fun i => [.int .u8 (f i).1, .int .u8 (f i).2])) {l : Option Addr} {len cap : Nat} {xs : List Int} (w2 : len = xs.length ∧ len ≤ 9223372036854775807 ∧ ArgRow W l len 1 (fun i => [u16 (xs.getD i 0)]) ∧ ∀ x ∈ xs, 0 ≤ x ∧ x ≤ 65535) (bits : Int) (wb : (Lit.int .u64 bits).wf = true) :
    Calls Tryz.prog 4 #[.agg #[u16 z.1, u16 z.2.1, u16 z.2.2], .slice a1 n1 cap1, .slice l len cap, .int .u64 bits] W fun e w' => e = .returned (.bool true) ∧ RowKit.Below W.heap.size W w' := by
  have b0 := bounds_u16 w0.1
  have b1 := bounds_u16 w0.2.1
  have b2 := bounds_u16 w0.2.2
  obtain ⟨rfl, v2, v3, v4⟩ := w2
  obtain ⟨u1, u2, u3⟩ := w1
  have hn : n1 = ((List.range n1).map f).length := by simp
  have key := law_of (flipKeeps_ok W [old W] z.1 z.2.1 z.2.2 ⟨b0.1, b1.1, b2.1⟩ ((List.range n1).map f) (fun h hh => by
    obtain ⟨i, hi, rfl⟩ := List.mem_map.1 hh
    have := u2 i (List.mem_range.1 hi)
    omega) (by rw [← hn]; exact u1) a1 cap1 (sln_arg2 u3) l cap xs (slr_u16 v3) (fun x hx => by have := v4 x hx; omega) v2 (some_u8 (f := fun i => u16 (xs.getD i 0)) v3) bits)
  rw [← hn] at key
  exact key

namespace flipKeeps
open Go.ChangeShapes Go.WideShapes Go.ChangeAt Go.RowKit
set_option maxRecDepth 100000 in
theorem lifted (os : Os) (started : os.Started) (H : Type) (enc : TypeId × Value → H) :
    ReturnsInHanded {} Tryz.checked os 4 .any (Rows.flipKeepsSpec.pre6 enc Tryz.prog Tryz.f4 Rows.flipKeepsRow.domain false) (Rows.flipKeepsSpec.post enc Tryz.prog Tryz.f4 false true false false) := by
  refine returnsInHanded_of_change (C := Tryz.checked) Tryz.ownKnobs started (by kernel_rfl) Tryz.func4
    (ChangeSpec.witness6 (enc := enc) (C := Tryz.checked) false ⟨#[], #[.agg #[.int .u16 0, .int .u16 0, .int .u16 0], .slice none 0 0, .slice none 0 0, .int .u64 0], []⟩ 8 (by kernel_rfl) (by kernel_rfl) (by kernel_rfl) (by kernel_rfl)) ?_
  intro W base args ds gs before hval0 hW hcnd _
  have hval : ∀ (j : Nat) t v, Tryz.f4.params[j]? = some t → args[j]? = some v → Value.okWide Tryz.prog W .any base t v := hval0
  have hW' := hW
  obtain ⟨p, q, hA0, hV, rfl, hfz, hnd⟩ := hW
  have hA : DataW.TrodAll enc Tryz.prog W 0 (fun _ => true) true Tryz.f4.params.toList args.toList ds p := hA0
  rw [Tryz.params4] at hA hval
  obtain ⟨v0, vs0, d0, ds0, p0, q0, hargs, rfl, rfl, h0, r0⟩ := trodAll_cons hA
  obtain ⟨v1, vs1, d1, ds1, p1, q1, rfl, rfl, rfl, h1, r1⟩ := trodAll_cons r0
  obtain ⟨v2, vs2, d2, ds2, p2, q2, rfl, rfl, rfl, h2, r2⟩ := trodAll_cons r1
  obtain ⟨v3, vs3, d3, ds3, p3, q3, rfl, rfl, rfl, h3, r3⟩ := trodAll_cons r2
  obtain ⟨rfl, rfl, rfl⟩ := trodAll_nil r3
  obtain rfl : args = #[v0, v1, v2, v3] := by cases args; simp_all
  obtain ⟨rfl, rfl⟩ := trodVars_none hV
  have k0 := h0
  have lt0 : ∀ x ∈ p0, x.block < W.heap.size := by obtain ⟨m, hm⟩ := k0; exact DataW.trod_lt m _ _ _ hm
  obtain ⟨z0, rfl, w0⟩ := arg_st_u16_u16_u16 (hval 0 24 v0 rfl rfl) h0
  obtain ⟨a1, len1, cap1, rfl⟩ := okWide_slice Tryz.underlying25 (hval 1 25 v1 rfl rfl)
  have k1 := h1
  have lt1 : ∀ x ∈ p1, x.block < W.heap.size := by obtain ⟨m, hm⟩ := k1; exact DataW.trod_lt m _ _ _ hm
  obtain ⟨z1, w1⟩ := arg_sl_st_u8_u8 h1
  obtain ⟨a2, len2, cap2, rfl⟩ := okWide_slice Tryz.underlying26 (hval 2 26 v2 rfl rfl)
  have k2 := h2
  have lt2 : ∀ x ∈ p2, x.block < W.heap.size := by obtain ⟨m, hm⟩ := k2; exact DataW.trod_lt m _ _ _ hm
  obtain ⟨z2, w2⟩ := arg_sl_u16 h2
  have k3 := h3
  have lt3 : ∀ x ∈ p3, x.block < W.heap.size := by obtain ⟨m, hm⟩ := k3; exact DataW.trod_lt m _ _ _ hm
  obtain ⟨a3, rfl, w3⟩ : ∃ a, v3 = .int .u64 a ∧ (Lit.int .u64 a).wf = true := by
    obtain ⟨a, e, _, _, wa⟩ := open_int Tryz.underlying52 (hval 3 52 v3 rfl rfl) h3
    exact ⟨a, e, wa⟩
  clear hA0 hval0
  refine (flipKeeps_walk W z0 w0 w1 w2 a3 w3).mono fun e W' ⟨he, bel⟩ => ?_
  subst he
  exact ⟨_, rfl, _, _, _, [], _, [], hW', trodAll_mk1 (shut_bool Tryz.underlying4 _), (trodAll_cons_mk (Below.trod Tryz.laidOut (by kernel_rfl) (of_decide_eq_true (by kernel_rfl)) k0 bel lt0) (trodAll_cons_mk (Below.trod Tryz.laidOut (by kernel_rfl) (of_decide_eq_true (by kernel_rfl)) k1 bel lt1) (trodAll_cons_mk (Below.trod Tryz.laidOut (by kernel_rfl) (of_decide_eq_true (by kernel_rfl)) k2 bel lt2) (trodAll_cons_mk (Below.trod Tryz.laidOut (by kernel_rfl) (of_decide_eq_true (by kernel_rfl)) k3 bel lt3) trodAll_mk0)))), rfl, bel.frame _, fun h => by cases h⟩
theorem over : Rows.flipKeepsRow.holds Tryz.pinned (OpenSpec.ofChange Rows.flipKeepsSpec) :=
  OpenClaim.holds_of_wide 4 Tryz.f4 rfl rfl rfl rfl rfl rfl rfl ⟨rfl, rfl, rfl, rfl, rfl⟩ rfl rfl rfl rfl rfl (by kernel_rfl) Tryz.func4 (by kernel_rfl)
    (of_decide_eq_true (by kernel_rfl)) (by unfold Func.isWrapper; first | (rw [if_pos (by decide +kernel)]; kernel_rfl) | (rw [if_neg (by decide +kernel)]; exact ⟨rfl, rfl⟩))
    (fun os started H enc _ => lifted os started H enc)
/-- The statement. -/
theorem proved : Rows.FlipKeepsSaid := over
end flipKeeps

end Go.Proofs.YtbfheafpecgphaaGreat
