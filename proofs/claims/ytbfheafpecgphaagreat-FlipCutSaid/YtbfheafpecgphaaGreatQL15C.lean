/- The law FlipCut. Conditions: none. -/
import Derived.Test.YtbfheafpecgphaaGreatQL15Cn
set_option linter.unusedSimpArgs false
set_option linter.unusedVariables false
set_option linter.unnecessarySimpa false
set_option linter.unusedSectionVars false
namespace Go.Proofs.YtbfheafpecgphaaGreat
set_option linter.unusedSimpArgs false
set_option linter.unusedVariables false
open Go

theorem cutCol_ok (B : World) (Fr : List HP) (A0 : HP) (b0 b1 b2 bd bs : Nat) (c : Cfg) (hc : CfgW c) (S : SecS) (s : Dev) (hu : U64 s) (hK : SecK S bd c s) (R : Dev → Prop) (hcut : OutW (collectM bd c S s []) (fun _ s' => R s') R) :
    ∀ w, Holds B (A0 :: row b0 [ptr bd] 28 :: row b1 [i64 c.log, i64 c.roots, i64 c.space] 30 :: row b2 [ptr bs] 37 :: SecC bs S :: DevA bd s :: Fr) w → Calls Tryz.prog 39 [ptr b0, ptr b1, ptr b2].toArray w (Ret B (fun _ H' => ∃ s', R s' ∧ H' = DevA bd s' :: A0 :: row b0 [ptr bd] 28 :: row b1 [i64 c.log, i64 c.roots, i64 c.space] 30 :: row b2 [ptr bs] 37 :: Fr) (fun ch H' => ch = offc ∧ ∃ s', R s' ∧ H' = DevA bd s' :: A0 :: row b0 [ptr bd] 28 :: row b1 [i64 c.log, i64 c.roots, i64 c.space] 30 :: row b2 [ptr bs] 37 :: Fr)) := by
  refine fn_enter Tryz.func39 rfl Tryz.ntmps39 rfl ?_; refine g_region ?_; refine kPv (ev_load Tryz.isAgg28 rfl rfl) rfl ?_; refine kPv (ev_loadA Tryz.isAgg30 Tryz.sizeOf30 rfl rfl) rfl ?_; refine kPv (ev_load Tryz.isAgg37 rfl rfl) rfl ?_; refine go_pk [4, 4] ?_
  refine p_call rfl (en_f Tryz.call14 rfl) (fcollect_ok B _ bs bd S c hc s hu hK none 0 [] (by decide) (fun _ h => by cases h) SlR.nil) .free rfl rfl ?_ ?_
  rotate_left
  · rintro _ _ ⟨s9, hm9, rfl, rfl⟩
    rw [hm9] at hcut
    exact pan_fn fun w hh => ⟨_, ⟨rfl, s9, hcut, rfl⟩, hh⟩
  rintro rv H9 ⟨r, s3, hm3, hor⟩
  rw [hm3] at hcut
  have hH : ∀ w, Holds B H9 w → Holds B (DevA bd s3 :: A0 :: row b0 [ptr bd] 28 :: row b1 [i64 c.log, i64 c.roots, i64 c.space] 30 :: row b2 [ptr bs] 37 :: Fr) w := by
    rcases hor with ⟨_, _, rfl⟩ | ⟨x, X, _, _, _, rfl⟩
    · exact fun w hh => hh.tail
    · exact fun w hh => hh.tail.tail
  refine go_conv (fun w hh => hH w hh) ?_; refine p_nil ?_; refine go_sub (σ' := []) trivial ?_
  exact end_none Tryz.results39 (fun w hh => ⟨_, ⟨s3, hcut, rfl⟩, hh⟩)


theorem cutCol_r (B : World) (Fr : List HP) (A0 : HP) (b0 b1 b2 bd bs : Nat) (c : Cfg) (hc : CfgW c) (S : SecS) (s : Dev) (hu : U64 s) (hK : SecK S bd c s) (R : Dev → Prop) (hcut : OutW (collectM bd c S s []) (fun _ s' => R s') R) :
    ∀ w, Holds B (A0 :: row b0 [ptr bd] 28 :: row b1 [i64 c.log, i64 c.roots, i64 c.space] 30 :: row b2 [ptr bs] 37 :: SecC bs S :: DevA bd s :: Fr) w → Calls Tryz.prog 39 [ptr b0, ptr b1, ptr b2].toArray w (Ret B (fun _ H' => ∃ H1, (∃ s', R s' ∧ H1 = DevA bd s' :: row b0 [ptr bd] 28 :: row b1 [i64 c.log, i64 c.roots, i64 c.space] 30 :: row b2 [ptr bs] 37 :: Fr) ∧ ∀ w, Holds B H' w → Holds B (A0 :: H1) w) (fun ch H' => ch = offc ∧ ∃ H1, (∃ s', R s' ∧ H1 = DevA bd s' :: row b0 [ptr bd] 28 :: row b1 [i64 c.log, i64 c.roots, i64 c.space] 30 :: row b2 [ptr bs] 37 :: Fr) ∧ ∀ w, Holds B H' w → Holds B (A0 :: H1) w)) := fun w hw =>
  (cutCol_ok B Fr A0 b0 b1 b2 bd bs c hc S s hu hK R hcut w hw).mono (Ret.mono (fun _ H' h => by
    obtain ⟨s', h1, e⟩ := h
    subst e
    exact ⟨_, ⟨s', h1, rfl⟩, fun w hh => hh.front 1 rfl⟩) (fun _ H' h => by
    obtain ⟨h0, s', h1, e⟩ := h
    subst e
    exact ⟨h0, _, ⟨s', h1, rfl⟩, fun w hh => hh.front 1 rfl⟩))
theorem eq_part (B : World) (H : List HP) (b1 b2 o c1 c2 n N1 N2 : Nat) (r1 r2 : List Value) (T1 T2 : TypeId) {U1 U2 : List Value → List HP} (f g : Nat → Int) (hn : n ≤ 1000000) (h1 : o + n ≤ N1) (h2 : o + n ≤ N2) [RowU H b1 (tab N1 (fun i => w64 (f i)) ++ r1) T1 U1] [RowU H b2 (tab N2 (fun i => w64 (g i)) ++ r2) T2 U2] (he : ∀ i, i < n → f (o + i) = g (o + i)) :
    ∀ w, Holds B H w → Calls Tryz.prog 26 [.slice (some ⟨b1, o, none⟩) n c1, .slice (some ⟨b2, o, none⟩) n c2].toArray w (PureR B H (.bool true)) := by
  have s1 : ∀ (h : Nat → Int) (r : List Value) (N : Nat), o + n ≤ N → ((tab N (fun i => w64 (h i)) ++ r).drop o).take n = (tab n fun j => w64 (h (o + j))) := fun h r N e => by
    rw [List.drop_append_of_le_length (by rw [tab_len]; omega), List.take_append_of_le_length (by rw [List.length_drop, tab_len]; omega), tab_slice e]
  have h0 := equal_ok B H (some ⟨b1, o, none⟩) (some ⟨b2, o, none⟩) c1 c2 (tab n fun j => f (o + j)) (tab n fun j => g (o + j)) (by rw [tab_len]; exact hn) (by rw [tab_len]; exact hn) (fun _ _ => ⟨_, _, rfl⟩) (fun _ _ => ⟨_, _, rfl⟩)
  rw [tab_len, tab_len, tab_map, tab_map, show (decide ((tab n fun j => f (o + j)) = (tab n fun j => g (o + j)))) = true from decide_eq_true (tab_congr he)] at h0
  exact h0 (SlR.row (s1 f r1 _ h1) (tab_len _ _)) (SlR.row (s1 g r2 _ h2) (tab_len _ _))

theorem flipCut_ok (B : World) (Fr : List HP) (x0 x1 x2 : Int) (hx : 0 ≤ x0 ∧ 0 ≤ x1 ∧ 0 ≤ x2) (hs : List (Int × Int)) (hhs : ∀ h ∈ hs, (0 ≤ h.1 ∧ h.1 < 256) ∧ (0 ≤ h.2 ∧ h.2 < 256)) (hlen0 : hs.length ≤ 9223372036854775807) (q : Option Addr) (cap : Nat) (hv : SlN B Fr (.slice q hs.length cap) 2 (hs.map fun h => [u8 h.1, u8 h.2])) (ql : Option Addr) (cl : Nat) (l : List Int) (hl : SlR B Fr (.slice ql l.length cl) (l.map u16)) (hlb : ∀ x ∈ l, 0 ≤ x ∧ x < 65536) (hll0 : l.length ≤ 9223372036854775807) (hql : ∀ i, i < l.length → ∃ b off, ql = some ⟨b, off, none⟩) (lim : Int) (hlim : 0 ≤ lim) (bits : Int) :
    ∀ w, Holds B Fr w → Calls Tryz.prog 6 [.agg #[u16 x0, u16 x1, u16 x2], .slice q hs.length cap, .slice ql l.length cl, u16 lim, w64 bits].toArray w (PureR B Fr (.bool true)) := by
  refine fn_enter Tryz.func6 rfl Tryz.ntmps6 rfl ?_
  obtain ⟨c, hcm⟩ : ∃ c, c = mkC x0 x1 x2 := ⟨_, rfl⟩
  have hc : CfgW c := by rw [hcm]; exact mkC_w hx.1 hx.2.1 hx.2.2
  have hA := act_w hc
  have hl1 := hc.l1
  have hr1 := hc.r1
  refine g_seq ?_; refine g_region ?_; refine p_chg rfl (ch_boxA rfl) .free rfl rfl ?_
  rintro _ _ ⟨b5, rfl, rfl⟩
  refine p_chg rfl (ch_box1 rfl rfl) .free rfl rfl ?_
  rintro _ _ ⟨b9, rfl, rfl⟩
  refine kPa rfl rfl ?_; refine p_nil ?_; refine g_seq ?_; refine g_seq ?_; refine g_region ?_; refine p_callq rfl (en_f Tryz.call11 rfl) (awake15_ok _ _) .free rfl rfl ?_; refine kPv (ev_not rfl) rfl ?_; refine p_nil ?_; refine g_iff rfl (rfl) ?_; refine g_skip ?_; refine g_seq ?_; refine g_seq ?_; refine g_region ?_; refine kPm rfl rfl ?_; refine kPv (ev_len rfl Tryz.runUnderlying25 ⟨_, rfl⟩ rfl) rfl ?_; refine kPv (ev_cmp rfl rfl rfl) rfl ?_; refine kPm rfl rfl ?_
  apply p_or (tp := 32) (t := 28) (σ1 := [(28, _), (10, _), (9, _), (5, _), (1, _), (2, _), (3, _)]) 4 rfl ⟨rfl, rfl, rfl, rfl, rfl, rfl, rfl, trivial⟩
  · intro hg1
    refine p_val rfl (ev_move rfl) (.on rfl rfl (beq_eq hg1)) rfl rfl ?_; refine p_val rfl (ev_len rfl Tryz.runUnderlying26 ⟨_, rfl⟩ rfl) (.on rfl rfl (beq_eq hg1)) rfl rfl ?_; refine p_val rfl (ev_cmp rfl rfl rfl) (.on rfl rfl (beq_eq hg1)) rfl rfl ?_; refine kPv (ev_pick_f rfl hg1 rfl) rfl ?_
    exact p_seg rfl ⟨rfl, rfl, rfl, rfl, rfl, rfl, rfl, trivial⟩ (or_f hg1)
  · intro hg1
    refine p_skip rfl (.on rfl rfl (beq_ne hg1)) rfl ?_; refine p_skip rfl (.on rfl rfl (beq_ne hg1)) rfl ?_; refine p_skip rfl (.on rfl rfl (beq_ne hg1)) rfl ?_; refine kPv (ev_pick_t rfl hg1 rfl) rfl ?_
    exact p_seg rfl ⟨rfl, rfl, rfl, rfl, rfl, rfl, rfl, trivial⟩ (or_t hg1)
  refine p_nil ?_
  refine g_if rfl (fun h32 => ?_) (fun h32 => ?_)
  · try simp only [decide_eq_true_eq, decide_eq_false_iff_not, Bool.not_eq_true', Bool.not_eq_false', Bool.or_eq_true, Bool.and_eq_true, Bool.and_eq_false_iff, Bool.or_eq_false_iff, beq_iff_eq, bne_iff_ne, beq_eq_false_iff_ne, bne_eq_false_iff_eq, ge_iff_le, gt_iff_lt, ne_eq] at h32
    refine g_seq ?_; refine g_region ?_; refine kPa rfl rfl ?_; refine p_nil ?_; refine g_ret ?_
    exact ret_tmp Tryz.results6 rfl (fun w hh => ⟨rfl, (hh.dp [0, 0])⟩)
  · have hlen : hs.length ≤ 25 ∧ l.length ≤ 60 := by simp at h32; omega
    obtain ⟨hlen1, hlen2⟩ := hlen
    refine g_skip ?_; refine g_seq ?_; refine g_region ?_; refine kPv (ev_loadA Tryz.isAgg24 Tryz.sizeOf24 rfl rfl) rfl ?_; refine kPm rfl rfl ?_; refine kPm rfl rfl ?_
    refine p_call rfl (en_f Tryz.call12 rfl) (linked_ok B _ x0 x1 x2 hx c hcm hs hhs (by omega) q cap hv.up ql cl l hl.up hlb (by omega) hql 0 (by decide)) .free rfl rfl ?_ ?_
    rotate_left
    · rintro _ _ ⟨⟩
    rintro _ _ ⟨bd, pa, N, s0, sF, out, hfm, hN, ⟨hus0, hf⟩, hfill, hor⟩
    rcases hor with ⟨n1, n2, s1', s2, ov, sv, hl1, hl2, hu2, hlm2, hn2, hov, hsv, rfl, rfl⟩ | ⟨s1', hl1, _⟩
    rotate_left
    · exact (linked_not hc hN hfm hus0 hhs hfill l hl1).elim
    obtain ⟨⟨u, hFi⟩, hSK0⟩ := linked_sk hc hN hfm hus0 hhs hfill l hl1 hl2 bd
    have hb0a : (s2.block c).1.act = 0 := by rw [hFi.block]
    have hb2 : s2.block c = ((s2.block c).1, 0) := by rw [hFi.block]
    have hhp := hFi.heap
    have hbw := block_w (s := s2) hc hu2
    have hbl := block_len (s := s2) hc
    generalize (s2.block c).1 = b0 at *
    refine kPm rfl rfl ?_; refine kPv (ev_ext rfl rfl) rfl ?_; refine kPv (ev_ext rfl rfl) rfl ?_; refine kPv (ev_ext rfl rfl) rfl ?_; refine kPv (ev_ext rfl rfl) rfl ?_; refine p_chg rfl (ch_alloc1 Tryz.zeroValue28 rfl) .free rfl rfl ?_
    rintro _ _ ⟨b11, rfl, rfl⟩
    refine p_chg rfl (ch_allocA Tryz.zeroValue30 rfl) .free rfl rfl ?_
    rintro _ _ ⟨b12, rfl, rfl⟩
    refine p_chg rfl (ch_allocA Tryz.zeroValue33 rfl) .free rfl rfl ?_
    rintro _ _ ⟨b13, rfl, rfl⟩
    refine p_chg0 rfl (ch_store Tryz.sizeOf28 rfl rfl (by first | rfl | assumption) rfl) .free rfl ?_
    rintro _ _ rfl
    refine p_chg0 rfl (ch_storeA (vs := _) Tryz.sizeOf30 rfl rfl rfl rfl rfl) .free rfl ?_
    rintro _ _ rfl
    refine p_chg0 rfl (ch_storeA (vs := _) Tryz.sizeOf33 rfl rfl rfl (by first | rfl | exact all3 (by assumption)) rfl) .free rfl ?_
    rintro _ _ rfl
    refine kPa rfl rfl ?_; refine p_nil ?_; refine go_sub (σ' := [(13, _), (12, _), (11, _), (10, _), (9, _), (3, _)]) ⟨rfl, rfl, rfl, rfl, rfl, rfl, trivial⟩ ?_; refine g_seq ?_; refine g_seq ?_; refine g_region ?_; refine kPv (ev_load Tryz.isAgg28 rfl rfl) rfl ?_; refine kPv (ev_eqp Tryz.runUnderlying28 rfl rfl rfl) rfl ?_; refine p_nil ?_; refine g_iff rfl (rfl) ?_; refine g_skip ?_; refine g_seq ?_; refine g_seq ?_
    refine go_conv (H' := row b13 [i64 b0.act, i64 b0.used, sv] 33 :: row b12 [i64 c.log, i64 c.roots, i64 c.space] 30 :: row b11 [ptr bd] 28 :: VecU 0 (sv, b0.rts) :: DevA bd s2 :: VecA 3 i64 0 (ov, out) :: row b9 [w64 bits] 52 :: row b5 [u16 x0, u16 x1, u16 x2] 24 :: Fr) (fun w hh => by have h := hh; exact h) ?_
    refine g_region ?_; refine kPv (ev_load Tryz.isAgg28 rfl rfl) rfl ?_; refine p_callq rfl (en_f Tryz.call33 rfl) (ro_at (q := DevA) (fun Fr => nlen_ok _ Fr _ _)) .free rfl rfl ?_; refine kPm rfl rfl ?_; refine p_nil ?_; refine g_block ?_
    refine g_loopk (ι := Nat × Dev) [45, 13, 12, 11, 10, 9, 3] (fun (k, s) => (k ≤ N) ∧ (FlI s2 k s)) (fun (k, s) => [(46, i64 k)]) (fun (k, s) => DevA bd s :: row b13 [i64 b0.act, i64 b0.used, sv] 33 :: row b12 [i64 c.log, i64 c.roots, i64 c.space] 30 :: row b11 [ptr bd] 28 :: VecU 0 (sv, b0.rts) :: VecA 3 i64 0 (ov, out) :: row b9 [w64 bits] 52 :: row b5 [u16 x0, u16 x1, u16 x2] 24 :: Fr) (fun (k, s) => N - k) (0, s2) (⟨Nat.zero_le _, FlI.uq0 hfm hus0 hFi⟩) (fun a w st => st.to ⟨rfl, trivial⟩ (fun hh => (hh.pk [4]))) ?_
    rintro ⟨k, s⟩ ⟨hk0, hI⟩
    try simp only at hk0 hI ⊢
    refine go_sub (σ' := [(46, i64 k), (45, _), (13, _), (12, _), (11, _), (10, _), (9, _), (3, _)]) ⟨rfl, rfl, rfl, rfl, rfl, rfl, rfl, rfl, trivial⟩ ?_; refine g_seq ?_; refine g_region ?_; refine kPv (ev_cmp rfl rfl rfl) rfl ?_; refine p_nil ?_; refine g_seq ?_
    refine g_if rfl (fun h47 => ?_) (fun h47 => ?_)
    · have hk : k < N := by simp at h47; omega
      obtain ⟨_, hsn⟩ : True ∧ s.n = N := ⟨trivial, hI.n.trans hFi.h.n⟩
      have hfl9 : s.flush k = .ok 0 (s.up.fl k) := by
        unfold Dev.flush
        rw [if_neg (by simp [Dev.has]; omega), if_neg (by simp [Pow.out]; have := hI.lim; omega)]; rfl
      have hnof : ∀ {s9 : Dev}, s.flush k = .off s9 → False := fun h => (by rw [hfl9] at h; cases h)
      refine g_skip ?_; refine g_seq ?_; refine g_block ?_; refine g_seq ?_; refine g_region ?_; refine kPm rfl rfl ?_; refine kPa rfl rfl ?_; refine p_nil ?_; refine g_region ?_; refine kPv (ev_load Tryz.isAgg28 rfl rfl) rfl ?_; refine kPm rfl rfl ?_
      refine p_call rfl (en_f Tryz.call34 rfl) (nflush_ok _ _ _ _ _) .free rfl rfl ?_ ?_
      rotate_left
      · rintro _ _ ⟨s9, hm9, rfl⟩
        exact (hnof hm9.1).elim
      rintro _ _ ⟨s9, ⟨e9, hm9, rfl⟩, rfl⟩
      rw [hfl9] at hm9
      cases hm9
      refine p_nil ?_; refine g_region ?_
      first | refine p_val rfl (ev_add rfl rfl (wr64 (by omega))) .free rfl rfl ?_ | refine p_val rfl (ev_add rfl rfl rfl) .free rfl rfl ?_
      refine kPm rfl rfl ?_; refine p_nil ?_; refine go_sub (σ' := [(46, _), (45, _), (13, _), (12, _), (11, _), (10, _), (9, _), (3, _)]) ⟨rfl, rfl, rfl, rfl, rfl, rfl, rfl, rfl, trivial⟩ ?_
      exact fun a w st_ => ⟨(k + 1, s.up.fl k), ⟨by first | omega | (simp only; omega), hI.step⟩, by simp only; omega, st_.to ⟨rfl, rfl, rfl, rfl, rfl, rfl, rfl, rfl, trivial⟩ (fun hh => hh)⟩
    · have hk : N = k := by simp at h47; omega
      subst hk
      have hfe9 : s.fence = .ok () s.up.fe := by
        unfold Dev.fence
        rw [if_neg (by simp [Pow.out]; have := hI.lim; omega)]
      have hnof : ∀ {s9 : Dev}, s.fence = .off s9 → False := fun h => (by rw [hfe9] at h; cases h)
      refine g_exit ?_; refine g_seq ?_; refine g_region ?_; refine kPv (ev_load Tryz.isAgg28 rfl rfl) rfl ?_
      refine p_call rfl (en_f Tryz.call35 rfl) (nfence_ok _ _ _ _) .free rfl rfl ?_ ?_
      rotate_left
      · rintro _ _ ⟨s9, hm9, rfl⟩
        exact (hnof hm9.1).elim
      rintro _ _ ⟨s9, ⟨e9, hm9, rfl⟩, rfl⟩
      rw [hfe9] at hm9
      cases hm9
      obtain ⟨s3, hs3, hld3, hn3, huq3, hcut3, hb3, hhp3⟩ := hI.all hc hN hfm hFi hb2 hhp
      rw [← hs3]
      have hu3 := huq3.u
      have hop3 := cut_open (hcut3 (fun _ => False) s3.pa s3.pow) hc hN bd
      refine p_nil ?_; refine g_seq ?_; refine g_region ?_; refine kPv (ev_load Tryz.isAgg28 rfl rfl) rfl ?_; refine kPv (ev_loadA Tryz.isAgg30 Tryz.sizeOf30 rfl rfl) rfl ?_
      refine p_call rfl (en_f Tryz.call13 rfl) (snew_ok _ _ bd s3 c hc) .free rfl rfl ?_ ?_
      rotate_left
      · rintro _ _ ⟨⟩
      rintro _ _ ⟨bs, rfl, rfl⟩
      rw [show openL bd c s3 = ⟨bd, c, 1, 0⟩ from hop3]
      refine p_chg rfl (ch_alloc1 Tryz.zeroValue37 rfl) .free rfl rfl ?_
      rintro _ _ ⟨b16, rfl, rfl⟩
      refine p_chg0 rfl (ch_store Tryz.sizeOf37 rfl rfl (by first | rfl | assumption) rfl) .free rfl ?_
      rintro _ _ rfl
      refine p_nil ?_; refine go_sub (σ' := [(16, _), (13, _), (12, _), (11, _), (10, _), (9, _), (3, _)]) ⟨rfl, rfl, rfl, rfl, rfl, rfl, rfl, trivial⟩ ?_; refine g_seq ?_; refine g_seq ?_; refine g_region ?_; refine go_pk [1] ?_; refine go_secC fun bl o1 o2 => ?_; refine kPv (ev_load Tryz.isAgg37 rfl rfl) rfl ?_; refine kPv (ev_eqp Tryz.runUnderlying37 rfl rfl rfl) rfl ?_; refine kPm rfl rfl ?_
      apply p_or (tp := 66) (t := 60) (σ1 := [(60, _), (16, _), (13, _), (12, _), (11, _), (10, _), (9, _), (3, _)]) 6 rfl ⟨rfl, rfl, rfl, rfl, rfl, rfl, rfl, rfl, trivial⟩
      · intro hg2
        refine p_val rfl (ev_load Tryz.isAgg37 rfl rfl) (.on rfl rfl (beq_eq hg2)) rfl rfl ?_
        first | refine p_val rfl (ev_nil rfl) (.on rfl rfl (beq_eq hg2)) rfl rfl ?_ | refine p_val rfl (ev_nilf rfl) (.on rfl rfl (beq_eq hg2)) rfl rfl ?_
        refine p_val rfl (ev_fa (m := _) fa_44_0 rfl rfl) (.on rfl rfl (beq_eq hg2)) rfl rfl ?_; refine p_val rfl (ev_load Tryz.isAgg39 rfl rfl) (.on rfl rfl (beq_eq hg2)) rfl rfl ?_; refine p_val rfl (ev_eqp Tryz.runUnderlying39 rfl rfl rfl) (.on rfl rfl (beq_eq hg2)) rfl rfl ?_; refine kPv (ev_pick_f rfl hg2 rfl) rfl ?_
        exact p_seg rfl ⟨rfl, rfl, rfl, rfl, rfl, rfl, rfl, rfl, trivial⟩ (or_f hg2)
      · intro hg2
        refine p_skip rfl (.on rfl rfl (beq_ne hg2)) rfl ?_; refine p_skip rfl (.on rfl rfl (beq_ne hg2)) rfl ?_; refine p_skip rfl (.on rfl rfl (beq_ne hg2)) rfl ?_; refine p_skip rfl (.on rfl rfl (beq_ne hg2)) rfl ?_; refine p_skip rfl (.on rfl rfl (beq_ne hg2)) rfl ?_; refine kPv (ev_pick_t rfl hg2 rfl) rfl ?_
        exact p_seg rfl ⟨rfl, rfl, rfl, rfl, rfl, rfl, rfl, rfl, trivial⟩ (or_t hg2)
      refine p_nil ?_; refine g_iff rfl (rfl) ?_; refine g_skip ?_; refine g_seq ?_; refine go_conv (fun w hh => secC_holds (S := (⟨⟨bd, c, 1, 0⟩, 0, 0, [], []⟩ : SecS)) hh) ?_; refine g_region ?_; refine kPv (ev_load Tryz.isAgg28 rfl rfl) rfl ?_; refine go_pk [2] ?_
      refine p_call rfl (en_f Tryz.call22 rfl) (nwords_ok _ _ bd _) .free rfl rfl ?_ ?_
      rotate_left
      · rintro _ _ ⟨⟩
      rintro _ _ ⟨bw5, rest5, rfl, rfl⟩
      refine kPa rfl rfl ?_; refine p_nil ?_; refine g_seq ?_; refine g_region ?_; refine kPm rfl rfl ?_
      refine p_call rfl (en_f Tryz.call21 rfl) (new2_ok _ _ _ (tab s3.n s3.now) (by rw [tab_len, hn3]; omega) (by rw [tab_len, hn3]; omega) (by rw [tab_map]; exact SlR.tab)) .free rfl rfl ?_ ?_
      rotate_left
      · rintro _ _ ⟨⟩
      rintro _ _ ⟨be, pa2, rfl, rfl⟩
      generalize ht0 : (⟨pa2, ⟨-1, 0⟩, ((tab s3.n s3.now).length + 7) / 8 * 8, fun i => (tab s3.n s3.now).getD i 0, fun i => (tab s3.n s3.now).getD i 0, fun _ => none⟩ : Dev) = t0
      obtain ⟨hld0, hu0⟩ := was_dev hN hn3 hu3 ht0
      refine kPa rfl rfl ?_; refine p_nil ?_; refine g_seq ?_; refine g_drawv [0, 1, 2, 3, 4, 5] [4, 5] [0] [4] [row b11 [ptr bd] 28] Tryz.mixed (by kernel_rfl) ?_; refine v_hoist rfl rfl rfl (ev_load Tryz.isAgg28 rfl rfl) .free rfl ?_; refine v_val rfl rfl rfl (ev_move rfl) .free rfl ?_; refine v_val rfl rfl rfl (ev_rem (c := lim % 600) rfl rfl (by decide) (rem_e 600 hlim)) .free rfl ?_
      first | refine v_val rfl rfl rfl (ev_conv Tryz.runUnderlying22 Tryz.runUnderlying3 rfl (wr64 (by omega))) .free rfl ?_ | refine v_val rfl rfl rfl (ev_conv Tryz.runUnderlying22 Tryz.runUnderlying3 rfl rfl) .free rfl ?_
      refine v_mark rfl rfl ?_
      refine p_call rfl (en_f Tryz.call37 rfl) (pnew_ok _ _ _) .free rfl rfl ?_ ?_
      rotate_left
      · rintro _ _ ⟨⟩
      rintro _ _ ⟨pb7, rfl, rfl⟩
      refine p_nil ?_; refine v_on ?_; refine v_mark rfl rfl ?_; refine go_pk [3, 0] ?_
      refine p_call rfl (en_f Tryz.call36 rfl) (npower_ok _ _ _ _ _ _) .free rfl rfl ?_ ?_
      rotate_left
      · rintro _ _ ⟨⟩
      rintro _ _ rfl
      refine p_nil ?_; refine v_off rfl ?_; refine v_nil ?_; refine go_sub (σ' := [(18, _), (17, _), (16, _), (13, _), (12, _), (11, _), (10, _), (9, _)]) ⟨rfl, rfl, rfl, rfl, rfl, rfl, rfl, rfl, trivial⟩ ?_; refine g_seq ?_; refine g_region ?_; refine kPv (ev_mkf rfl rfl) rfl ?_; refine go_pk [7, 6, 4, 3, 0] ?_
      refine p_call rfl (en_f Tryz.call38 rfl) (run_ok Tryz.call39 (fun A0 w hw => cutCol_r B _ A0 b11 b12 b16 bd bs c hc (⟨⟨bd, c, 1, 0⟩, 0, 0, [], []⟩ : SecS) { s3 with pa := pb7, pow := ⟨lim % 600, 0⟩ } hu3 ⟨⟨hc, show (0 : Int) ≤ 1 by decide, show (1 : Int) < 4294967296 by decide, Int.le_refl _, show (0 : Int) ≤ c.log by omega⟩, show s3.n ≤ 1000000 by omega, rfl, rfl⟩ (fun s' => CutR c N bd b0 s3.load out s3.now s' ∧ UQ s') (collect_cut hc hN (s := { s3 with pa := pb7, pow := ⟨lim % 600, 0⟩ }) hb3 hb0a hhp3 ⟨huq3.u, huq3.k, huq3.q⟩ (hcut3 _ pb7 ⟨lim % 600, 0⟩) (by decide) rfl) w hw)) .free rfl rfl ?_ ?_
      rotate_left
      · rintro _ _ ⟨⟩
      rintro v H' hR
      obtain ⟨s4, hR4, rfl⟩ := hR.elim (fun h => h.2) (fun h => h.2)
      have hn4 := hR4.1.n
      refine p_nil ?_; refine g_seq ?_; refine g_region ?_; refine kPv (ev_load Tryz.isAgg28 rfl rfl) rfl ?_; refine kPv (ev_mkf rfl rfl) rfl ?_
      refine p_call rfl (en_f Tryz.call23 rfl) (ncrash_ok _ _ bd s4 _ _ _ (fcutCh_c _ _ (9 - 1) _ _ _ (by omega) rfl)) .free rfl rfl ?_ ?_
      rotate_left
      · rintro _ _ ⟨⟩
      rintro _ _ rfl
      refine p_nil ?_; refine go_sub (σ' := [(18, _), (17, _), (13, _), (12, _), (11, _), (10, _)]) ⟨rfl, rfl, rfl, rfl, rfl, rfl, trivial⟩ ?_; refine g_seq ?_; refine g_drawv [0, 1, 2] [1, 2] [0] [1] [row b11 [ptr bd] 28] Tryz.mixed (by kernel_rfl) ?_; refine v_hoist rfl rfl rfl (ev_load Tryz.isAgg28 rfl rfl) .free rfl ?_; refine v_mark rfl rfl ?_
      refine p_call rfl (en_f Tryz.call37 rfl) (pnew_ok _ _ _) .free rfl rfl ?_ ?_
      rotate_left
      · rintro _ _ ⟨⟩
      rintro _ _ ⟨pb11, rfl, rfl⟩
      refine p_nil ?_; refine v_on ?_; refine v_mark rfl rfl ?_; refine go_pk [1, 0] ?_
      refine p_call rfl (en_f Tryz.call36 rfl) (npower_ok _ _ _ _ _ _) .free rfl rfl ?_ ?_
      rotate_left
      · rintro _ _ ⟨⟩
      rintro _ _ rfl
      refine p_nil ?_; refine v_off rfl ?_; refine v_nil ?_; refine g_seq ?_
      obtain ⟨e0, js0, hop9, hgood9, hbd9, L9', s9, e9, hn9, hor9⟩ := cutR_recover hc hN hR4.1 (t := { s4.crash (chc bits) with pa := pb11, pow := ⟨-1, 0⟩ }) ⟨rfl, rfl, rfl, (left_crash s4 (chc bits)).p⟩ (by show (-1 : Int) < 0; decide) bd
      have hLw : LogW ⟨bd, c, e0, js0.length⟩ := ⟨hc, hbd9.1, hbd9.2.1, by show (0 : Int) ≤ js0.length; omega, hbd9.2.2⟩
      have hu9 : U64 s9 := (uq_undo (Left.uq hR4.2 (t := { s4.crash (chc bits) with pa := pb11, pow := ⟨-1, 0⟩ }) ⟨rfl, rfl, rfl, (left_crash s4 (chc bits)).p⟩) e9).u
      obtain ⟨nb, hbt9, hck9, hcase⟩ := cut_end hc hN hb3 hb0a hhp3 hu3 hn3 hn9 hu9 hor9
      have hbnb : BlkW c nb := by have h9 := block_w hc hu9; rw [hbt9] at h9; exact h9
      have hf1 := frm_b hc (k := 1) (by omega)
      refine g_region ?_; refine kPv (ev_load Tryz.isAgg28 rfl rfl) rfl ?_; refine kPv (ev_loadA Tryz.isAgg30 Tryz.sizeOf30 rfl rfl) rfl ?_
      refine p_call rfl (en_f Tryz.call41 rfl) (lopen_ok _ _ _ _ c hc) .free rfl rfl ?_ ?_
      rotate_left
      · rintro _ _ ⟨⟩
      rintro _ _ ⟨bl9, rfl, rfl⟩
      simp only [hop9]
      refine kPa rfl rfl ?_; refine p_nil ?_; refine g_seq ?_; refine g_seq ?_; refine g_region ?_; refine kPm rfl rfl ?_; refine kPv (ev_eqp Tryz.runUnderlying28 rfl rfl rfl) rfl ?_; refine kPm rfl rfl ?_
      apply p_or (tp := 93) (t := 90) (σ1 := [(90, _), (19, _), (18, _), (17, _), (13, _), (12, _), (11, _), (10, _)]) 3 rfl ⟨rfl, rfl, rfl, rfl, rfl, rfl, rfl, rfl, trivial⟩
      · intro hg3
        refine p_val rfl (ev_move rfl) (.on rfl rfl (beq_eq hg3)) rfl rfl ?_; refine p_val rfl (ev_eqp Tryz.runUnderlying39 rfl rfl rfl) (.on rfl rfl (beq_eq hg3)) rfl rfl ?_; refine kPv (ev_pick_f rfl hg3 rfl) rfl ?_
        exact p_seg rfl ⟨rfl, rfl, rfl, rfl, rfl, rfl, rfl, rfl, trivial⟩ (or_f hg3)
      · intro hg3
        refine p_skip rfl (.on rfl rfl (beq_ne hg3)) rfl ?_; refine p_skip rfl (.on rfl rfl (beq_ne hg3)) rfl ?_; refine kPv (ev_pick_t rfl hg3 rfl) rfl ?_
        exact p_seg rfl ⟨rfl, rfl, rfl, rfl, rfl, rfl, rfl, rfl, trivial⟩ (or_t hg3)
      refine kPm rfl rfl ?_
      apply p_or (tp := 98) (t := 94) (σ1 := [(94, _), (19, _), (18, _), (17, _), (13, _), (12, _), (11, _), (10, _)]) 4 rfl ⟨rfl, rfl, rfl, rfl, rfl, rfl, rfl, rfl, trivial⟩
      · intro hg4
        refine p_val rfl (ev_move rfl) (.on rfl rfl (beq_eq hg4)) rfl rfl ?_; refine p_callq rfl (en_f Tryz.call42 rfl) (lgood_ok _ _ _ _ _ hLw) (.on rfl rfl (beq_eq hg4)) rfl rfl ?_; refine p_val rfl (ev_cmp rfl rfl rfl) (.on rfl rfl (beq_eq hg4)) rfl rfl ?_; refine kPv (ev_pick_f rfl hg4 rfl) rfl ?_
        exact p_seg rfl ⟨rfl, rfl, rfl, rfl, rfl, rfl, rfl, rfl, trivial⟩ (or_f hg4)
      · intro hg4
        refine p_skip rfl (.on rfl rfl (beq_ne hg4)) rfl ?_; refine p_skip rfl (.on rfl rfl (beq_ne hg4)) rfl ?_; refine p_skip rfl (.on rfl rfl (beq_ne hg4)) rfl ?_; refine kPv (ev_pick_t rfl hg4 rfl) rfl ?_
        exact p_seg rfl ⟨rfl, rfl, rfl, rfl, rfl, rfl, rfl, rfl, trivial⟩ (or_t hg4)
      refine p_nil ?_; refine g_iff rfl ((by simp [hgood9])) ?_; refine g_skip ?_; refine g_seq ?_; refine g_region ?_; refine kPm rfl rfl ?_
      refine p_call rfl (en_f Tryz.call43 rfl) (lundo_ok _ _ _ _ _ hLw) .free rfl rfl ?_ ?_
      rotate_left
      · rintro _ _ ⟨s8, hm9, -, -⟩
        cases e9.symm.trans hm9
      rintro _ _ ⟨L9, s8, hm9, rfl, rfl⟩
      cases e9.symm.trans hm9
      refine p_nil ?_; refine g_seq ?_; refine g_region ?_; refine kPv (ev_load Tryz.isAgg28 rfl rfl) rfl ?_; refine kPv (ev_loadA Tryz.isAgg30 Tryz.sizeOf30 rfl rfl) rfl ?_; refine go_pk [1] ?_
      refine p_call rfl (en_f Tryz.call15 rfl) (rread_ok _ _ _ _ c hc hu9) .free rfl rfl ?_ ?_
      rotate_left
      · rintro _ _ ⟨⟩
      rintro _ _ ⟨sv5, hsv5, rfl, rfl⟩
      rw [hbt9]
      refine go_vecq fun q5 c5 hq5 hq5i => ?_
      subst hq5
      refine kPm rfl rfl ?_; refine kPv (ev_ext rfl rfl) rfl ?_; refine kPv (ev_ext rfl rfl) rfl ?_; refine p_chg rfl (ch_allocA Tryz.zeroValue33 rfl) .free rfl rfl ?_
      rintro _ _ ⟨b20, rfl, rfl⟩
      refine p_chg0 rfl (ch_storeA (vs := _) Tryz.sizeOf33 rfl rfl rfl (by first | rfl | exact all3 (by assumption)) rfl) .free rfl ?_
      rintro _ _ rfl
      refine kPa rfl rfl ?_; refine p_nil ?_; refine go_sub (σ' := [(21, _), (20, _), (18, _), (17, _), (13, _), (12, _), (11, _), (10, _)]) ⟨rfl, rfl, rfl, rfl, rfl, rfl, rfl, rfl, trivial⟩ ?_; refine g_seq ?_; refine g_seq ?_; refine g_region ?_; refine kPm rfl rfl ?_; refine kPv (ev_cmp rfl rfl rfl) rfl ?_; refine kPm rfl rfl ?_
      apply p_or (tp := 114) (t := 109) (σ1 := [(109, _), (20, _), (18, _), (17, _), (13, _), (12, _), (11, _), (10, _)]) 5 rfl ⟨rfl, rfl, rfl, rfl, rfl, rfl, rfl, rfl, trivial⟩
      · intro hg5
        refine p_val rfl (ev_load Tryz.isAgg28 rfl rfl) (.on rfl rfl (beq_eq hg5)) rfl rfl ?_; refine p_val rfl (ev_loadA Tryz.isAgg30 Tryz.sizeOf30 rfl rfl) (.on rfl rfl (beq_eq hg5)) rfl rfl ?_; refine p_callq rfl (en_f Tryz.call27 rfl) (ro_at (q := DevA) (fun Fr => ccheck_ok _ Fr bd _ c hc hu9)) (.on rfl rfl (beq_eq hg5)) rfl rfl ?_; refine p_val rfl (ev_cmp rfl rfl rfl) (.on rfl rfl (beq_eq hg5)) rfl rfl ?_; refine kPv (ev_pick_f rfl hg5 rfl) rfl ?_
        exact p_seg rfl ⟨rfl, rfl, rfl, rfl, rfl, rfl, rfl, rfl, trivial⟩ (or_f hg5)
      · intro hg5
        refine p_skip rfl (.on rfl rfl (beq_ne hg5)) rfl ?_; refine p_skip rfl (.on rfl rfl (beq_ne hg5)) rfl ?_; refine p_skip rfl (.on rfl rfl (beq_ne hg5)) rfl ?_; refine p_skip rfl (.on rfl rfl (beq_ne hg5)) rfl ?_; refine kPv (ev_pick_t rfl hg5 rfl) rfl ?_
        exact p_seg rfl ⟨rfl, rfl, rfl, rfl, rfl, rfl, rfl, rfl, trivial⟩ (or_t hg5)
      refine kPm rfl rfl ?_
      apply p_or (tp := 121) (t := 115) (σ1 := [(115, _), (20, _), (18, _), (17, _), (13, _), (12, _), (11, _), (10, _)]) 6 rfl ⟨rfl, rfl, rfl, rfl, rfl, rfl, rfl, rfl, trivial⟩
      · intro hg6
        refine p_val rfl (ev_move rfl) (.on rfl rfl (beq_eq hg6)) rfl rfl ?_; refine p_val rfl (ev_len rfl Tryz.runUnderlying31 ⟨_, rfl⟩ rfl) (.on rfl rfl (beq_eq hg6)) rfl rfl ?_; refine p_val rfl (ev_loadA Tryz.isAgg30 Tryz.sizeOf30 rfl rfl) (.on rfl rfl (beq_eq hg6)) rfl rfl ?_; refine p_callq rfl (en_f Tryz.call44 rfl) (cwords_ok _ _ c hc) (.on rfl rfl (beq_eq hg6)) rfl rfl ?_; refine p_val rfl (ev_cmp rfl rfl rfl) (.on rfl rfl (beq_eq hg6)) rfl rfl ?_
        refine kPv (ev_pick_f rfl hg6 rfl) rfl ?_
        exact p_seg rfl ⟨rfl, rfl, rfl, rfl, rfl, rfl, rfl, rfl, trivial⟩ (or_f hg6)
      · intro hg6
        refine p_skip rfl (.on rfl rfl (beq_ne hg6)) rfl ?_; refine p_skip rfl (.on rfl rfl (beq_ne hg6)) rfl ?_; refine p_skip rfl (.on rfl rfl (beq_ne hg6)) rfl ?_; refine p_skip rfl (.on rfl rfl (beq_ne hg6)) rfl ?_; refine p_skip rfl (.on rfl rfl (beq_ne hg6)) rfl ?_; refine kPv (ev_pick_t rfl hg6 rfl) rfl ?_
        exact p_seg rfl ⟨rfl, rfl, rfl, rfl, rfl, rfl, rfl, rfl, trivial⟩ (or_t hg6)
      refine p_nil ?_; refine g_iff rfl ((by rw [hck9]; simp; omega)) ?_
      refine g_skip ?_; refine g_seq ?_; refine g_seq ?_; refine g_region ?_; refine kPv (ev_fa (m := _) fa_33_0 rfl rfl) rfl ?_; refine kPv (ev_load Tryz.isAgg3 rfl rfl) rfl ?_; refine kPv (ev_fa (m := _) fa_33_0 rfl rfl) rfl ?_; refine kPv (ev_load Tryz.isAgg3 rfl rfl) rfl ?_; refine kPv (ev_cmp rfl rfl rfl) rfl ?_; refine p_nil ?_
      refine g_if rfl (fun h126 => ?_) (fun h126 => ?_)
      · have hact9 : nb.act = b0.act := by simpa using h126
        have hw9 : ∀ x : Nat, c.active ≤ x → (x : Int) < c.frm 1 → s9.now x = s3.now x := (hcase.resolve_right fun h => h.1 hact9).2
        have heq9 : ∀ i, i < (c.frm 1).toNat - c.active.toNat → s9.now (c.active.toNat + i) = s3.now (c.active.toNat + i) := fun i hi => hw9 _ (by omega) (by omega)
        refine g_seq ?_; refine g_region ?_; refine kPv (ev_load Tryz.isAgg28 rfl rfl) rfl ?_; refine go_pk [2] ?_
        refine p_call rfl (en_f Tryz.call22 rfl) (nwords_ok _ _ bd _) .free rfl rfl ?_ ?_
        rotate_left
        · rintro _ _ ⟨⟩
        rintro _ _ ⟨bw16, rest16, rfl, rfl⟩
        refine kPa rfl rfl ?_; refine p_nil ?_; refine go_sub (σ' := [(22, _), (20, _), (18, _), (17, _), (13, _), (12, _), (11, _), (10, _)]) ⟨rfl, rfl, rfl, rfl, rfl, rfl, rfl, rfl, trivial⟩ ?_; refine g_seq ?_; refine g_draw Tryz.mixed (by kernel_rfl) (by kernel_rfl) ?_; refine kQm rfl rfl ?_; refine kQv (ev_len rfl Tryz.runUnderlying31 ⟨_, rfl⟩ rfl) rfl ?_; refine kQv (ev_loadA Tryz.isAgg30 Tryz.sizeOf30 rfl rfl) rfl ?_
        refine q_call rfl (en_f Tryz.call44 rfl) (cwords_ok _ _ c hc) .free rfl ?_; refine kQv (ev_cmp rfl rfl rfl) rfl ?_; refine kQm rfl rfl ?_
        apply q_and (tp := 148) (t := 134) (σ1 := [(134, _), (20, _), (18, _), (13, _), (12, _), (11, _), (10, _)]) 14 rfl ⟨rfl, rfl, rfl, rfl, rfl, rfl, rfl, trivial⟩
        · intro hg7
          refine q_val rfl (ev_move rfl) (.on rfl rfl (beq_eq hg7)) rfl ?_; refine q_val rfl (ev_loadA Tryz.isAgg30 Tryz.sizeOf30 rfl rfl) (.on rfl rfl (beq_eq hg7)) rfl ?_; refine q_call rfl (en_f Tryz.call45 rfl) (active_ok _ _ c hc) (.on rfl rfl (beq_eq hg7)) rfl ?_; refine q_val rfl (ev_loadA Tryz.isAgg30 Tryz.sizeOf30 rfl rfl) (.on rfl rfl (beq_eq hg7)) rfl ?_; refine q_call rfl (en_f Tryz.call46 rfl) (from_ok _ _ c hc _ (by omega) (by omega)) (.on rfl rfl (beq_eq hg7)) rfl ?_
          refine q_val rfl (ev_slice (l := c.active.toNat) (h := (c.frm 1).toNat) (m := c.active.toNat) Tryz.runUnderlying31 Tryz.sizeOf52 rfl (.yesi rfl (by omega)) (.yesi rfl (by omega)) (by omega) (by omega) (.inl (by omega)) (by omega)) (.on rfl rfl (beq_eq hg7)) rfl ?_; refine q_val rfl (ev_move rfl) (.on rfl rfl (beq_eq hg7)) rfl ?_; refine q_val rfl (ev_loadA Tryz.isAgg30 Tryz.sizeOf30 rfl rfl) (.on rfl rfl (beq_eq hg7)) rfl ?_
          refine q_call rfl (en_f Tryz.call45 rfl) (active_ok _ _ c hc) (.on rfl rfl (beq_eq hg7)) rfl ?_; refine q_val rfl (ev_loadA Tryz.isAgg30 Tryz.sizeOf30 rfl rfl) (.on rfl rfl (beq_eq hg7)) rfl ?_; refine q_call rfl (en_f Tryz.call46 rfl) (from_ok _ _ c hc _ (by omega) (by omega)) (.on rfl rfl (beq_eq hg7)) rfl ?_
          refine q_val rfl (ev_slice (l := c.active.toNat) (h := (c.frm 1).toNat) (m := c.active.toNat) Tryz.runUnderlying31 Tryz.sizeOf52 rfl (.yesi rfl (by omega)) (.yesi rfl (by omega)) (by omega) (by omega) (.inl (by omega)) (by omega)) (.on rfl rfl (beq_eq hg7)) rfl ?_; refine q_call rfl (en_f Tryz.call26 rfl) (eq_part _ _ _ _ _ _ _ _ _ _ _ _ _ _ _ _ (by omega) (by omega) (by omega) heq9) (.on rfl rfl (beq_eq hg7)) rfl ?_; refine kQv (ev_pick_t rfl hg7 rfl) rfl ?_
          exact q_seg rfl ⟨rfl, rfl, rfl, rfl, rfl, rfl, rfl, trivial⟩ (and_t hg7)
        · intro hg7
          refine q_skip rfl (.on rfl rfl (beq_ne hg7)) rfl ?_; refine q_skip rfl (.on rfl rfl (beq_ne hg7)) rfl ?_; refine q_skip rfl (.on rfl rfl (beq_ne hg7)) rfl ?_; refine q_skip rfl (.on rfl rfl (beq_ne hg7)) rfl ?_; refine q_skip rfl (.on rfl rfl (beq_ne hg7)) rfl ?_; refine q_skip rfl (.on rfl rfl (beq_ne hg7)) rfl ?_; refine q_skip rfl (.on rfl rfl (beq_ne hg7)) rfl ?_; refine q_skip rfl (.on rfl rfl (beq_ne hg7)) rfl ?_; refine q_skip rfl (.on rfl rfl (beq_ne hg7)) rfl ?_
          refine q_skip rfl (.on rfl rfl (beq_ne hg7)) rfl ?_; refine q_skip rfl (.on rfl rfl (beq_ne hg7)) rfl ?_; refine q_skip rfl (.on rfl rfl (beq_ne hg7)) rfl ?_; refine q_skip rfl (.on rfl rfl (beq_ne hg7)) rfl ?_; refine kQv (ev_pick_f rfl hg7 rfl) rfl ?_
          exact q_seg rfl ⟨rfl, rfl, rfl, rfl, rfl, rfl, rfl, trivial⟩ (and_f hg7)
        refine kQa rfl rfl ?_; refine q_nil ?_; refine g_ret ?_
        exact ret_tmp Tryz.results6 rfl (fun w hh => ⟨by simp; omega, (hh.dp [0, 0, 0, 0, 0, 0, 0, 0, 0, 0, 0, 0, 0, 0, 0])⟩)
      · have hact9 : nb.act ≠ b0.act := by simpa using h126
        obtain ⟨_, hrl9, R9, hRl9, hiso9, hpr9⟩ := hcase.resolve_left fun h => hact9 h.1
        have hld9 : t0.load = s3.load := hld0
        refine g_skip ?_; refine g_seq ?_; refine go_pk [10] ?_; refine go_vecq fun qo co hqo' hqo => ?_
        subst hqo'
        refine g_region ?_; refine kPm rfl rfl ?_; refine kPv (ev_loadA Tryz.isAgg30 Tryz.sizeOf30 rfl rfl) rfl ?_; refine kPv (ev_loadA Tryz.isAgg33 Tryz.sizeOf33 rfl rfl) rfl ?_; refine kPv (ev_fa (m := _) fa_33_2 rfl rfl) rfl ?_; refine kPv (ev_load Tryz.isAgg31 rfl rfl) rfl ?_; refine kPv (ev_load Tryz.isAgg28 rfl rfl) rfl ?_; refine kPv (ev_loadA Tryz.isAgg33 Tryz.sizeOf33 rfl rfl) rfl ?_; refine kPv (ev_fa (m := _) fa_33_2 rfl rfl) rfl ?_; refine kPv (ev_load Tryz.isAgg31 rfl rfl) rfl ?_
        refine go_pk [8, 3] ?_; refine p_callq rfl (en_f Tryz.call28 rfl) (same_ok B _ be bd t0 s9 c hc b0 nb (.slice qo b0.rts.length co) (.slice q5 nb.rts.length c5) hbw hbnb rfl rfl hu0 hu9 R9 (hiso9 t0 hld9) hRl9 b0.rts nb.rts hrl9.symm (by omega) (fun i h => hpr9 i h (by omega)) qo q5 co c5 hqo hq5i (vec_slr (2 - 2) rfl) (vec_slr (4 - 2) rfl)) .free rfl rfl ?_; refine kPa rfl rfl ?_; refine p_nil ?_; refine go_sub (σ' := [(10, _)]) ⟨rfl, trivial⟩ ?_; refine g_ret ?_
        exact ret_tmp Tryz.results6 rfl (fun w hh => ⟨rfl, (hh.dp [0, 0, 0, 0, 0, 0, 0, 0, 0, 0, 0, 0, 0, 0])⟩)


theorem flipCut_walk (W : World) (z : Int × Int × Int) (w0 : (Lit.int .u16 z.1).wf = true ∧ (Lit.int .u16 z.2.1).wf = true ∧ (Lit.int .u16 z.2.2).wf = true) {a1 : Option Addr} {n1 cap1 : Nat} {f : Nat → Int × Int} (w1 : n1 ≤ 9223372036854775807 ∧ (∀ i, i < n1 → 0 ≤ (f i).1 ∧ (f i).1 ≤ 255 ∧ 0 ≤ (f i).2 ∧ (f i).2 ≤ 255) ∧ ArgRow W a1 n1 2 (fun i => [.int .u8 (f i).1, .int .u8 (f i).2])) {l : Option Addr} {len cap : Nat} {xs : List Int} (w2 : len = xs.length ∧ len ≤ 9223372036854775807 ∧ ArgRow W l len 1 (fun i => [u16 (xs.getD i 0)]) ∧ ∀ x ∈ xs, 0 ≤ x ∧ x ≤ 65535) (lim : Int) (wl : (Lit.int .u16 lim).wf = true) (bits : Int) (wb : (Lit.int .u64 bits).wf = true) :
    Calls Tryz.prog 6 #[.agg #[u16 z.1, u16 z.2.1, u16 z.2.2], .slice a1 n1 cap1, .slice l len cap, .int .u16 lim, .int .u64 bits] W fun e w' => e = .returned (.bool true) ∧ RowKit.Below W.heap.size W w' := by
  have b0 := bounds_u16 w0.1
  have b1 := bounds_u16 w0.2.1
  have b2 := bounds_u16 w0.2.2
  have b3 := bounds_u16 wl
  obtain ⟨rfl, v2, v3, v4⟩ := w2
  obtain ⟨u1, u2, u3⟩ := w1
  have hn : n1 = ((List.range n1).map f).length := by simp
  have key := law_of (flipCut_ok W [old W] z.1 z.2.1 z.2.2 ⟨b0.1, b1.1, b2.1⟩ ((List.range n1).map f) (fun h hh => by
    obtain ⟨i, hi, rfl⟩ := List.mem_map.1 hh
    have := u2 i (List.mem_range.1 hi)
    omega) (by rw [← hn]; exact u1) a1 cap1 (sln_arg2 u3) l cap xs (slr_u16 v3) (fun x hx => by have := v4 x hx; omega) v2 (some_u8 (f := fun i => u16 (xs.getD i 0)) v3) lim (by omega) bits)
  rw [← hn] at key
  exact key

namespace flipCut
open Go.ChangeShapes Go.WideShapes Go.ChangeAt Go.RowKit
set_option maxRecDepth 100000 in
theorem lifted (os : Os) (started : os.Started) (H : Type) (enc : TypeId × Value → H) :
    ReturnsInHanded {} Tryz.checked os 6 .any (Rows.flipCutSpec.pre6 enc Tryz.prog Tryz.f6 Rows.flipCutRow.domain false) (Rows.flipCutSpec.post enc Tryz.prog Tryz.f6 false true false false) := by
  refine returnsInHanded_of_change (C := Tryz.checked) Tryz.ownKnobs started (by kernel_rfl) Tryz.func6
    (ChangeSpec.witness6 (enc := enc) (C := Tryz.checked) false ⟨#[], #[.agg #[.int .u16 0, .int .u16 0, .int .u16 0], .slice none 0 0, .slice none 0 0, .int .u16 0, .int .u64 0], []⟩ 8 (by kernel_rfl) (by kernel_rfl) (by kernel_rfl) (by kernel_rfl)) ?_
  intro W base args ds gs before hval0 hW hcnd _
  have hval : ∀ (j : Nat) t v, Tryz.f6.params[j]? = some t → args[j]? = some v → Value.okWide Tryz.prog W .any base t v := hval0
  have hW' := hW
  obtain ⟨p, q, hA0, hV, rfl, hfz, hnd⟩ := hW
  have hA : DataW.TrodAll enc Tryz.prog W 0 (fun _ => true) true Tryz.f6.params.toList args.toList ds p := hA0
  rw [Tryz.params6] at hA hval
  obtain ⟨v0, vs0, d0, ds0, p0, q0, hargs, rfl, rfl, h0, r0⟩ := trodAll_cons hA
  obtain ⟨v1, vs1, d1, ds1, p1, q1, rfl, rfl, rfl, h1, r1⟩ := trodAll_cons r0
  obtain ⟨v2, vs2, d2, ds2, p2, q2, rfl, rfl, rfl, h2, r2⟩ := trodAll_cons r1
  obtain ⟨v3, vs3, d3, ds3, p3, q3, rfl, rfl, rfl, h3, r3⟩ := trodAll_cons r2
  obtain ⟨v4, vs4, d4, ds4, p4, q4, rfl, rfl, rfl, h4, r4⟩ := trodAll_cons r3
  obtain ⟨rfl, rfl, rfl⟩ := trodAll_nil r4
  obtain rfl : args = #[v0, v1, v2, v3, v4] := by cases args; simp_all
  obtain ⟨rfl, rfl⟩ := trodVars_none hV
  have k0 := h0
  have lt0 : ∀ x ∈ p0, x.block < W.heap.size := by obtain ⟨m, hm⟩ := k0; exact DataW.trod_lt m _ _ _ hm
  obtain ⟨z0, rfl, w0⟩ := arg_st_u16_u16_u16 (hval 0 24 v0 rfl rfl) h0
  obtain ⟨a1, len1, cap1, rfl⟩ := okWide_slice Tryz.underlying25 (hval 1 25 v1 rfl rfl)
  have k1 := h1
  have lt1 : ∀ x ∈ p1, x.block < W.heap.size := by obtain ⟨m, hm⟩ := k1; exact DataW.trod_lt m _ _ _ hm
  obtain ⟨z1, w1⟩ := arg_sl_st_u8_u8 h1
  obtain ⟨a2, len2, cap2, rfl⟩ := okWide_slice Tryz.underlying26 (hval 2 26 v2 rfl rfl)
  have k2 := h2
  have lt2 : ∀ x ∈ p2, x.block < W.heap.size := by obtain ⟨m, hm⟩ := k2; exact DataW.trod_lt m _ _ _ hm
  obtain ⟨z2, w2⟩ := arg_sl_u16 h2
  have k3 := h3
  have lt3 : ∀ x ∈ p3, x.block < W.heap.size := by obtain ⟨m, hm⟩ := k3; exact DataW.trod_lt m _ _ _ hm
  obtain ⟨a3, rfl, w3⟩ : ∃ a, v3 = .int .u16 a ∧ (Lit.int .u16 a).wf = true := by
    obtain ⟨a, e, _, _, wa⟩ := open_int Tryz.underlying22 (hval 3 22 v3 rfl rfl) h3
    exact ⟨a, e, wa⟩
  have k4 := h4
  have lt4 : ∀ x ∈ p4, x.block < W.heap.size := by obtain ⟨m, hm⟩ := k4; exact DataW.trod_lt m _ _ _ hm
  obtain ⟨a4, rfl, w4⟩ : ∃ a, v4 = .int .u64 a ∧ (Lit.int .u64 a).wf = true := by
    obtain ⟨a, e, _, _, wa⟩ := open_int Tryz.underlying52 (hval 4 52 v4 rfl rfl) h4
    exact ⟨a, e, wa⟩
  clear hA0 hval0
  refine (flipCut_walk W z0 w0 w1 w2 a3 w3 a4 w4).mono fun e W' ⟨he, bel⟩ => ?_
  subst he
  exact ⟨_, rfl, _, _, _, [], _, [], hW', trodAll_mk1 (shut_bool Tryz.underlying4 _), (trodAll_cons_mk (Below.trod Tryz.laidOut (by kernel_rfl) (of_decide_eq_true (by kernel_rfl)) k0 bel lt0) (trodAll_cons_mk (Below.trod Tryz.laidOut (by kernel_rfl) (of_decide_eq_true (by kernel_rfl)) k1 bel lt1) (trodAll_cons_mk (Below.trod Tryz.laidOut (by kernel_rfl) (of_decide_eq_true (by kernel_rfl)) k2 bel lt2) (trodAll_cons_mk (Below.trod Tryz.laidOut (by kernel_rfl) (of_decide_eq_true (by kernel_rfl)) k3 bel lt3) (trodAll_cons_mk (Below.trod Tryz.laidOut (by kernel_rfl) (of_decide_eq_true (by kernel_rfl)) k4 bel lt4) trodAll_mk0))))), rfl, bel.frame _, fun h => by cases h⟩
theorem over : Rows.flipCutRow.holds Tryz.pinned (OpenSpec.ofChange Rows.flipCutSpec) :=
  OpenClaim.holds_of_wide 6 Tryz.f6 rfl rfl rfl rfl rfl rfl rfl ⟨rfl, rfl, rfl, rfl, rfl⟩ rfl rfl rfl rfl rfl (by kernel_rfl) Tryz.func6 (by kernel_rfl)
    (of_decide_eq_true (by kernel_rfl)) (by unfold Func.isWrapper; first | (rw [if_pos (by decide +kernel)]; kernel_rfl) | (rw [if_neg (by decide +kernel)]; exact ⟨rfl, rfl⟩))
    (fun os started H enc _ => lifted os started H enc)
/-- The statement. -/
theorem proved : Rows.FlipCutSaid := over
end flipCut

end Go.Proofs.YtbfheafpecgphaaGreat
