/- Part of the texts beneath a law: what its proof names. Conditions: none. -/
import Derived.Test.YtbfheafpecgphaaGreatQL16Mi
set_option linter.unusedSimpArgs false
set_option linter.unusedVariables false
set_option linter.unnecessarySimpa false
set_option linter.unusedSectionVars false
namespace Go.Proofs.YtbfheafpecgphaaGreat
open Go
abbrev devOp (i v : Int) (s : Dev) (_ : Unit) : Out (Int × Unit) := (s.store i v).then fun a s' => .ok (a, ()) s'
theorem good_op {s : Dev} {i v : Int} (h : s.pow.lim < 0) : Good (devOp i v s ()) (fun _ => True) s.n :=
  good_then (good_store h) fun _ s1 _ h1 e1 => ⟨_, _, rfl, trivial, h1, e1⟩
theorem good_fill {a h : Int} : ∀ (f : Nat) (i : Int) (s : Dev), s.pow.lim < 0 → Good (fillM devOp a h f i s ()) (fun _ => True) s.n
  | 0, _, s, h1 => ⟨_, _, rfl, trivial, h1, rfl⟩
  | f + 1, i, s, h1 => by
    unfold fillM
    refine good_then (good_op h1) fun x s1 _ h2 e2 => ?_
    split
    · exact ⟨_, _, rfl, trivial, h2, e2⟩
    · exact e2 ▸ good_fill f (i + 1) s1 h2
theorem good_alloc {c : Cfg} {w r : Int} {s : Dev} (h1 : s.pow.lim < 0) : Good (allocM devOp c w r s ()) (fun _ => True) s.n := by
  unfold allocM
  split
  · exact ⟨_, _, rfl, trivial, h1, rfl⟩
  split
  · exact ⟨_, _, rfl, trivial, h1, rfl⟩
  split
  · exact ⟨_, _, rfl, trivial, h1, rfl⟩
  refine good_then (good_op h1) fun x s1 _ h2 e2 => ?_
  split
  · exact ⟨_, _, rfl, trivial, h2, e2⟩
  · exact e2 ▸ good_fill _ _ s1 h2
theorem allocD_ok (B : World) (Fr : List HP) (bd : Nat) (c : Cfg) (hc : CfgW c) (w r : Int) (s : Dev) (hl : s.pow.lim < 0) (hu : U64 s) :
    ∀ w_, Holds B (DevA bd s :: Fr) w_ → Calls Tryz.prog 102 [ptr bd, cfgV c, .agg #[i64 w, i64 r], .func (.func 70) [ptr bd].toArray #[]].toArray w_ (Ret B (fun rv H' => ∃ x s', allocM devOp c w r s () = .ok (x, ()) s' ∧ rv = .tuple #[i64 x.1, i64 x.2] ∧ s'.pow.lim < 0 ∧ s'.n = s.n ∧ U64 s' ∧ H' = DevA bd s' :: Fr) (fun _ _ => False)) := fun w_ hh => by
  obtain ⟨y, s2, hg, _, hg2, hg3⟩ := good_alloc (c := c) (w := w) (r := r) hl
  refine (alloc_ok B Fr _ [ptr bd] bd 0 Unit (fun _ _ => pr True) devOp _ (storeD B bd 0) c hc w r s () hu w_ ((hh.unpr (p := True) trivial).back 1 (by simp))).mono fun en w' h => ?_
  cases en with
  | returned rv =>
    obtain ⟨H, ⟨x, e', s', hm, rfl, hok, rfl⟩, hh⟩ := h
    obtain ⟨rfl, rfl⟩ : y = (x, e') ∧ s2 = s' := by rw [hg] at hm; cases hm; exact ⟨rfl, rfl⟩
    exact ⟨_, ⟨x, s2, hm, rfl, hg2, hg3, hok, rfl⟩, (hh.front 1 rfl).tail⟩
  | panicked c =>
    obtain ⟨H, ⟨s', hm, _⟩, _⟩ := h
    rw [hg] at hm; cases hm
  | outgrown => exact h
theorem zeroN_u64 (f : Int → Int) : ∀ (k : Nat) (i : Int) (s s' : Dev) (a : Unit), U64 s → zeroN f k i s = .ok a s' → U64 s'
  | 0, _, s, s', a, h, e => by cases e; exact h
  | k + 1, i, s, s', a, h, e => by
    rw [zeroN_add] at e
    obtain ⟨_, s1, e1, e⟩ := then_inv e
    obtain ⟨_, s2, e2, e⟩ := then_inv e
    exact zeroN_u64 f k _ s2 s' a (flush_u64 (store_u64 h (by decide) e1).1 e2).1 e
theorem format_u64 {s s' : Dev} {c : Cfg} {a : Int} (h : U64 s) (hc : CfgW c) (e : s.format c = .ok a s') : U64 s' := by
  have := hc.r1; have := hc.r2; have := hc.l1; have := hc.l2; have := hc.s1; have := hc.s2
  unfold Dev.format at e
  split at e
  · cases e; exact h
  obtain ⟨_, s1, e1, e⟩ := then_inv e
  obtain ⟨_, s2, e2, e⟩ := then_inv e
  obtain ⟨_, s3, e3, e⟩ := then_inv e
  have h3 := (fence_u64 (flush_u64 (store_u64 h (by decide) e1).1 e2).1 e3).1
  obtain ⟨_, s4, e4, e⟩ := then_inv e
  simp only [st3] at e4
  obtain ⟨_, t1, f1, e4⟩ := then_inv e4
  obtain ⟨_, t2, f2, e4⟩ := then_inv e4
  obtain ⟨_, t3, f3, e4⟩ := then_inv e4
  have g1 := (store_u64 h3 (show 0 ≤ c.log ∧ c.log < _ by omega) f1).1
  have g2 := (store_u64 g1 (show 0 ≤ c.roots ∧ c.roots < _ by omega) f2).1
  have g3 := (store_u64 g2 (show 0 ≤ c.space ∧ c.space < _ by omega) f3).1
  cases e4
  obtain ⟨_, s5, e5, e⟩ := then_inv e
  obtain ⟨_, s6, e6, e⟩ := then_inv e
  obtain ⟨_, s7, e7, e⟩ := then_inv e
  obtain ⟨_, s8, e8, e⟩ := then_inv e
  have h8 := zeroN_u64 _ _ _ _ _ _ (zeroN_u64 _ _ _ _ _ _ (flush_u64 (store_u64 g3 (by decide) e5).1 e6).1 e7) e8
  obtain ⟨_, s9, e9, e⟩ := then_inv e
  obtain ⟨_, s10, e10, e⟩ := then_inv e
  have h10 := (fence_u64 (flush_u64 h8 e9).1 e10).1
  obtain ⟨_, s11, e11, e⟩ := then_inv e
  obtain ⟨_, s12, e12, e⟩ := then_inv e
  obtain ⟨_, s13, e13, e⟩ := then_inv e
  have h13 := (fence_u64 (flush_u64 (store_u64 h10 (by decide) e11).1 e12).1 e13).1
  cases e; exact h13
theorem dev0_u64 (pa N : Nat) : U64 (dev0 pa [] N) := fun x => by
  show 0 ≤ (tab N (oldW [])).getD x 0 ∧ (tab N (oldW [])).getD x 0 < _
  rw [List.getD_eq_getElem?_getD]
  unfold tab
  by_cases h : x < N
  · simp [h, oldW]
  · simp [h]
abbrev u8 (x : Int) : Value := .int .u8 x
def mkH (h : Int × Int) : Int × Int := (h.2 % 9, h.1 % (h.2 % 9 + 1))
def fillN (c : Cfg) : List (Int × Int) → Dev → List Int → Out (List Int)
  | [], s, acc => .ok acc s
  | h :: t, s, acc => (allocM devOp c (mkH h).1 (mkH h).2 s ()).then fun x s' => fillN c t s' (if x.1.2 = 0 then acc ++ [x.1.1] else acc)
theorem hmake_ok (B : World) (H : List HP) (h : Int × Int) (h0 : 0 ≤ h.1 ∧ h.1 < 256) (h1 : 0 ≤ h.2 ∧ h.2 < 256) :
    ∀ w, Holds B H w → Calls Tryz.prog 103 [.agg #[u8 h.1, u8 h.2]].toArray w (PureR B H (.agg #[i64 (mkH h).1, i64 (mkH h).2])) := by
  refine fn_enter Tryz.func103 rfl Tryz.ntmps103 rfl ?_; refine g_seq ?_; refine g_region ?_; refine p_chg rfl (ch_boxA rfl) .free rfl rfl ?_
  rintro _ _ ⟨b1, rfl, rfl⟩
  refine p_chg rfl (ch_allocA Tryz.zeroValue87 rfl) .free rfl rfl ?_
  rintro _ _ ⟨b2, rfl, rfl⟩
  refine p_nil ?_; refine g_seq ?_; refine g_region ?_; refine kPv (ev_fa (m := _) fa_107_1 rfl rfl) rfl ?_; refine kPv (ev_load Tryz.isAgg5 rfl rfl) rfl ?_; refine kPv (ev_rem (c := h.2 % 9) rfl rfl (by decide) (rem_e 9 (by omega))) rfl ?_
  first | refine p_val rfl (ev_conv Tryz.runUnderlying5 Tryz.runUnderlying3 rfl (wr64 (by omega))) .free rfl rfl ?_ | refine p_val rfl (ev_conv Tryz.runUnderlying5 Tryz.runUnderlying3 rfl rfl) .free rfl rfl ?_
  refine kPa rfl rfl ?_; refine p_nil ?_; refine g_seq ?_; refine g_region ?_; refine kPm rfl rfl ?_; refine kPv (ev_fa (m := _) fa_107_0 rfl rfl) rfl ?_; refine kPv (ev_load Tryz.isAgg5 rfl rfl) rfl ?_
  first | refine p_val rfl (ev_conv Tryz.runUnderlying5 Tryz.runUnderlying3 rfl (wr64 (by omega))) .free rfl rfl ?_ | refine p_val rfl (ev_conv Tryz.runUnderlying5 Tryz.runUnderlying3 rfl rfl) .free rfl rfl ?_
  refine kPm rfl rfl ?_
  first | refine p_val rfl (ev_add rfl rfl (wr64 (by omega))) .free rfl rfl ?_ | refine p_val rfl (ev_add rfl rfl rfl) .free rfl rfl ?_
  refine kPv (ev_rem (c := h.1 % (h.2 % 9 + 1)) rfl rfl (by omega) (rem_e _ (by omega))) rfl ?_; refine kPv (ev_build rfl (bld_87_0_1 _ _ rfl rfl)) rfl ?_; refine p_chg0 rfl (ch_storeA (vs := _) Tryz.sizeOf87 rfl rfl rfl rfl rfl) .free rfl ?_
  rintro _ _ rfl
  refine p_nil ?_; refine go_sub (σ' := [(2, _)]) ⟨rfl, trivial⟩ ?_; refine g_ret ?_
  exact ret_1 Tryz.results103 (.cellA rfl Tryz.isAgg87 Tryz.sizeOf87 rfl rfl) (fun w hw => ⟨rfl, hw.tail.tail⟩)
theorem filled_ok (B : World) (Fr : List HP) (x0 x1 x2 : Int) (hx : 0 ≤ x0 ∧ 0 ≤ x1 ∧ 0 ≤ x2) (c : Cfg) (hcm : c = mkC x0 x1 x2) (hs : List (Int × Int)) (hhs : ∀ h ∈ hs, (0 ≤ h.1 ∧ h.1 < 256) ∧ (0 ≤ h.2 ∧ h.2 < 256)) (hlen : hs.length ≤ 100000) (q : Option Addr) (cap : Nat) (hv : SlN B Fr (.slice q hs.length cap) 2 (hs.map fun h => [u8 h.1, u8 h.2])) :
    ∀ w_, Holds B Fr w_ → Calls Tryz.prog 67 [.agg #[u16 x0, u16 x1, u16 x2], .slice q hs.length cap].toArray w_ (Ret B (fun rv H' => ∃ (bd pa N : Nat) (s0 s' : Dev) (out : List Int) (ov sv : Value), Fmt c N s0 ∧ (N : Int) = c.words ∧ (U64 s0 ∧ (dev0 pa [] N).format c = .ok 0 s0) ∧ fillN c hs s0 [] = .ok out s' ∧ U64 s' ∧ s'.pow.lim < 0 ∧ s'.n = N ∧ cell1 ov = true ∧ cell1 sv = true ∧ rv = .tuple #[ptr bd, cfgV c, blkV (s'.block c).1 sv, ov] ∧ H' = VecU 0 (sv, (s'.block c).1.rts) :: DevA bd s' :: VecA 3 i64 0 (ov, out) :: Fr) (fun _ _ => False)) := by
  refine fn_enter Tryz.func67 rfl Tryz.ntmps67 rfl ?_
  have hc : CfgW c := by rw [hcm]; exact mkC_w hx.1 hx.2.1 hx.2.2
  refine g_seq ?_; refine g_region ?_; refine p_chg rfl (ch_boxA rfl) .free rfl rfl ?_
  rintro _ _ ⟨b2, rfl, rfl⟩
  refine kPa rfl rfl ?_; refine p_chg rfl (ch_allocA Tryz.zeroValue30 rfl) .free rfl rfl ?_
  rintro _ _ ⟨b5, rfl, rfl⟩
  refine p_chg rfl (ch_allocA Tryz.zeroValue33 rfl) .free rfl rfl ?_
  rintro _ _ ⟨b6, rfl, rfl⟩
  refine kPa rfl rfl ?_; refine p_nil ?_; refine g_seq ?_; refine g_region ?_; refine kPv (ev_loadA Tryz.isAgg24 Tryz.sizeOf24 rfl rfl) rfl ?_; refine p_callq rfl (en_f Tryz.call100 rfl) (make_okc _ _ x0 x1 x2 c hcm hx.1 hx.2.1 hx.2.2) .free rfl rfl ?_; refine p_chg rfl (ch_allocA Tryz.zeroValue30 rfl) .free rfl rfl ?_
  rintro _ _ ⟨b8, rfl, rfl⟩
  refine p_chg0 rfl (ch_storeA (vs := _) Tryz.sizeOf30 rfl rfl rfl rfl rfl) .free rfl ?_
  rintro _ _ rfl
  refine p_nil ?_; refine g_seq ?_; refine g_region ?_; refine kPv (ev_loadA Tryz.isAgg30 Tryz.sizeOf30 rfl rfl) rfl ?_
  refine p_call rfl (en_f Tryz.call101 rfl) (formatted_ok _ _ c hc none 0 [] (by decide) (fun _ h => absurd h (Nat.not_lt_zero _)) SlR.nil) .free rfl rfl ?_ ?_
  rotate_left
  · rintro _ _ ⟨⟩
  rintro _ _ ⟨bd, pa, N, s0, hN, hf, rfl, rfl⟩
  have hfm := fmt_of hc hN hf
  have hu0 := format_u64 (dev0_u64 pa N) hc hf
  refine kPm rfl rfl ?_; refine kPv (ev_ext rfl rfl) rfl ?_; refine kPv (ev_ext rfl rfl) rfl ?_; refine kPa rfl rfl ?_; refine kPa rfl rfl ?_; refine p_nil ?_; refine go_sub (σ' := [(10, _), (9, _), (8, _), (7, _), (6, _), (5, _), (4, _), (1, _)]) ⟨rfl, rfl, rfl, rfl, rfl, rfl, rfl, rfl, trivial⟩ ?_; refine g_seq ?_; refine g_seq ?_; refine g_region ?_; refine kPm rfl rfl ?_; refine kPv (ev_not rfl) rfl ?_; refine p_nil ?_; refine g_iff rfl (rfl) ?_; refine g_skip ?_; refine g_seq ?_
  refine g_region ?_; refine kPa rfl rfl ?_; refine p_nil ?_; refine g_seq ?_; refine g_seq ?_; refine g_region ?_; refine kPm rfl rfl ?_; refine kPv (ev_len rfl Tryz.runUnderlying25 ⟨_, rfl⟩ rfl) rfl ?_; refine kPm rfl rfl ?_; refine p_nil ?_; refine g_block ?_
  refine g_loop (ι := Nat × Dev × Value × List Int) (fun i => i.1 ≤ hs.length ∧ U64 i.2.1 ∧ i.2.1.pow.lim < 0 ∧ i.2.1.n = N ∧ cell1 i.2.2.1 = true ∧ i.2.2.2.length ≤ i.1 ∧ fillN c hs s0 [] = fillN c (hs.drop i.1) i.2.1 i.2.2.2) (fun i => [(4, .pointer none), (5, ptr b5), (6, ptr b6), (7, .slice none 0 0), (8, ptr b8), (9, ptr bd), (11, i.2.2.1), (29, .slice q hs.length cap), (30, i64 hs.length), (31, i64 i.1)]) (fun i => DevA bd i.2.1 :: VecA 3 i64 0 (i.2.2.1, i.2.2.2) :: row b8 [i64 c.log, i64 c.roots, i64 c.space] 30 :: row b6 [i64 0, i64 0, .slice none 0 0] 33 :: row b5 [i64 0, i64 0, i64 0] 30 :: row b2 [u16 x0, u16 x1, u16 x2] 24 :: Fr) (fun i => hs.length - i.1) (0, s0, .slice none 0 0, []) ⟨Nat.zero_le _, hu0, hfm.lim, hfm.n, rfl, Nat.le_refl _, rfl⟩ (fun a w st => st.to ⟨rfl, rfl, rfl, rfl, rfl, rfl, rfl, rfl, rfl, rfl, trivial⟩ (fun hh => (vec_nil hh).front 1 rfl)) ?_
  rintro ⟨k, sL, ov, out⟩ ⟨hk1, huL, hlL, hnL, hov, hol, hinv⟩
  simp only at hk1 huL hlL hnL hov hol hinv ⊢
  refine g_seq ?_; refine g_region ?_; refine kPv (ev_cmp rfl rfl rfl) rfl ?_; refine p_nil ?_; refine g_seq ?_
  refine g_if rfl (fun h32 => ?_) (fun h32 => ?_)
  · have hk : k < hs.length := by simpa using h32
    have hst : fillN c (hs.drop k) sL out = (allocM devOp c (mkH hs[k]).1 (mkH hs[k]).2 sL ()).then fun x s' => fillN c (hs.drop (k + 1)) s' (if x.1.2 = 0 then out ++ [x.1.1] else out) := by
      rw [List.drop_eq_getElem_cons hk]
      rfl
    refine g_skip ?_; refine g_seq ?_; refine g_block ?_; refine g_seq ?_; refine g_region ?_; refine go_slq ((((((hv.cons _).cons _).cons _).cons _).cons _).cons _) (by simp; omega) fun bV oV hq => ?_
    subst hq
    refine kPv (ev_ia (m := oV + k * 2) Tryz.runUnderlying25 Tryz.sizeOf107 rfl rfl (by omega) (by omega) (by omega)) rfl ?_
    refine kPv (ev_loadN (i := k) (c := [u8 hs[k].1, u8 hs[k].2]) Tryz.isAgg107 Tryz.sizeOf107 ((((((hv.cons _).cons _).cons _).cons _).cons _).cons _) rfl (by simp [List.getElem?_eq_getElem hk])) rfl ?_
    refine p_chg rfl (ch_allocA Tryz.zeroValue107 rfl) .free rfl rfl ?_
    rintro _ _ ⟨b13, rfl, rfl⟩
    refine p_chg0 rfl (ch_storeA (vs := _) Tryz.sizeOf107 rfl rfl rfl rfl rfl) .free rfl ?_
    rintro _ _ rfl
    refine p_nil ?_; refine go_sub (σ' := [(13, _), (31, _), (30, _), (29, _), (11, _), (9, _), (8, _), (7, _), (6, _), (5, _), (4, _)]) ⟨rfl, rfl, rfl, rfl, rfl, rfl, rfl, rfl, rfl, rfl, rfl, trivial⟩ ?_; refine g_seq ?_; refine g_drawm [6] Tryz.mixed (by kernel_rfl) (by kernel_rfl) ?_; refine seg_q ?_; refine kQm rfl rfl ?_; refine kQv (ev_loadA Tryz.isAgg30 Tryz.sizeOf30 rfl rfl) rfl ?_; refine kQv (ev_loadA Tryz.isAgg107 Tryz.sizeOf107 rfl rfl) rfl ?_
    refine q_call rfl (en_f Tryz.call103 rfl) (hmake_ok _ _ (hs[k]) (hhs _ (List.getElem_mem hk)).1 (hhs _ (List.getElem_mem hk)).2) .free rfl ?_; refine kQm rfl rfl ?_; refine kQv (ev_mkf rfl rfl) rfl ?_; refine q_nil ?_; refine go_pull DevA bd ?_
    refine p_call rfl (en_f Tryz.call102 rfl) (allocD_ok _ _ bd c hc _ _ sL hlL huL) .free rfl rfl ?_ ?_
    rotate_left
    · rintro _ _ ⟨⟩
    rintro _ _ ⟨x1, s1, hm1, rfl, hl1, hn1, hu1, rfl⟩
    refine p_nil ?_; refine seg_e ?_; refine kQm rfl rfl ?_; refine kQv (ev_ext rfl rfl) rfl ?_; refine kQv (ev_ext rfl rfl) rfl ?_; refine kQa rfl rfl ?_; refine kQa rfl rfl ?_; refine q_nil ?_; refine go_sub (σ' := [(15, _), (14, _), (31, _), (30, _), (29, _), (11, _), (9, _), (8, _), (7, _), (6, _), (5, _), (4, _)]) ⟨rfl, rfl, rfl, rfl, rfl, rfl, rfl, rfl, rfl, rfl, rfl, rfl, trivial⟩ ?_; refine g_seq ?_; refine g_region ?_; refine kPm rfl rfl ?_; refine kPv (ev_cmp rfl rfl rfl) rfl ?_
    refine p_nil ?_
    refine g_if rfl (fun h46 => ?_) (fun h46 => ?_)
    · have hk2 : x1.2 = 0 := by simpa using h46
      refine g_region ?_; refine kPm rfl rfl ?_; refine kPm rfl rfl ?_; refine p_chg rfl (ch_bs1 Tryz.runUnderlying34 Tryz.sizeOf3 Tryz.zeroValue3 rfl rfl rfl) .free rfl rfl ?_
      rintro _ _ ⟨b49, rfl, rfl⟩
      refine go_front 3 rfl ?_
      simp only [List.eraseIdx_cons_succ, List.eraseIdx_cons_zero]
      refine p_chg rfl (ch_append_vec rfl rfl Tryz.runUnderlying34 Tryz.runUnderlying34 ⟨_, rfl⟩ Tryz.sizeOf3 Tryz.zeroValue3 rfl (fun _ => rfl) tb_3 rfl rfl (by omega)) .free rfl rfl ?_
      rintro ov2 _ ⟨hov2, rfl⟩
      refine kPa rfl rfl ?_; refine p_nil ?_; refine go_sub (σ' := [(11, _), (31, _), (30, _), (29, _), (9, _), (8, _), (7, _), (6, _), (5, _), (4, _)]) ⟨rfl, rfl, rfl, rfl, rfl, rfl, rfl, rfl, rfl, rfl, trivial⟩ ?_; refine g_region ?_
      first | refine p_val rfl (ev_add rfl rfl (wr64 (by omega))) .free rfl rfl ?_ | refine p_val rfl (ev_add rfl rfl rfl) .free rfl rfl ?_
      refine kPm rfl rfl ?_; refine p_nil ?_
      exact fun a w st => ⟨(k + 1, s1, ov2, out ++ [x1.1]), ⟨by simp only; omega, hu1, hl1, hn1.trans hnL, hov2, by simp; omega, by rw [hinv, hst, hm1, then_ok, if_pos hk2]⟩, by simp only; omega, st.to ⟨rfl, rfl, rfl, rfl, rfl, rfl, rfl, rfl, rfl, rfl, trivial⟩ (fun hh => (((hh.front 2 rfl).tail.front 0 rfl).front 1 rfl))⟩
    · have hk2 : ¬ x1.2 = 0 := by simpa using h46
      refine g_skip ?_; refine g_region ?_
      first | refine p_val rfl (ev_add rfl rfl (wr64 (by omega))) .free rfl rfl ?_ | refine p_val rfl (ev_add rfl rfl rfl) .free rfl rfl ?_
      refine kPm rfl rfl ?_; refine p_nil ?_
      exact fun a w st => ⟨(k + 1, s1, ov, out), ⟨by simp only; omega, hu1, hl1, hn1.trans hnL, hov, by simp only; omega, by rw [hinv, hst, hm1, then_ok, if_neg hk2]⟩, by simp only; omega, st.to ⟨rfl, rfl, rfl, rfl, rfl, rfl, rfl, rfl, rfl, rfl, trivial⟩ (fun hh => (((hh.front 1 rfl).tail.front 1 rfl).front 1 rfl))⟩
  · have hk : ¬ k < hs.length := by simpa using h32
    refine g_exit ?_; refine g_seq ?_; refine g_region ?_; refine kPm rfl rfl ?_; refine kPv (ev_loadA Tryz.isAgg30 Tryz.sizeOf30 rfl rfl) rfl ?_; refine go_pull DevA bd ?_
    refine p_call rfl (en_f Tryz.call15 rfl) (rread_ok _ _ _ _ c hc huL) .free rfl rfl ?_ ?_
    rotate_left
    · rintro _ _ ⟨⟩
    rintro _ _ ⟨sv, hsv, rfl, rfl⟩
    refine kPm rfl rfl ?_; refine kPv (ev_ext rfl rfl) rfl ?_; refine kPv (ev_ext rfl rfl) rfl ?_; refine p_chg rfl (ch_allocA Tryz.zeroValue33 rfl) .free rfl rfl ?_
    rintro _ _ ⟨b16, rfl, rfl⟩
    refine p_chg0 rfl (ch_storeA (vs := [i64 (sL.block c).1.act, i64 (sL.block c).1.used, sv]) Tryz.sizeOf33 rfl rfl rfl (all3 hsv) rfl) .free rfl ?_
    rintro _ _ rfl
    refine go_conv (H' := row b16 [i64 (sL.block c).1.act, i64 (sL.block c).1.used, sv] 33 :: _) (fun w hh => hh) ?_; refine kPa rfl rfl ?_; refine p_nil ?_; refine go_sub (σ' := [(16, _), (11, _), (9, _), (8, _), (7, _), (6, _), (5, _), (4, _)]) ⟨rfl, rfl, rfl, rfl, rfl, rfl, rfl, rfl, trivial⟩ ?_; refine g_seq ?_; refine g_drawv [0, 1, 2, 3, 4, 5, 6, 7] [5, 6] [2, 3] [5, 6] [row b16 [i64 (sL.block c).1.act, i64 (sL.block c).1.used, sv] 33] Tryz.mixed (by kernel_rfl) ?_
    refine v_val rfl rfl rfl (ev_move rfl) .free rfl ?_; refine v_val rfl rfl rfl (ev_loadA Tryz.isAgg30 Tryz.sizeOf30 rfl rfl) .free rfl ?_; refine v_hoist rfl rfl rfl (ev_loadA Tryz.isAgg33 Tryz.sizeOf33 rfl rfl) .free rfl ?_; refine v_hoist rfl rfl rfl (ev_move rfl) .free rfl ?_; refine v_val rfl rfl rfl (ev_assign rfl) .free rfl ?_; refine v_mark rfl rfl ?_; refine p_chg0 rfl (ch_storeA (vs := _) Tryz.sizeOf30 rfl rfl rfl rfl rfl) .free rfl ?_
    rintro _ _ rfl
    refine p_nil ?_; refine v_on ?_; refine v_mark rfl rfl ?_; refine p_chg0 rfl (ch_storeA (vs := [i64 (sL.block c).1.act, i64 (sL.block c).1.used, sv]) Tryz.sizeOf33 rfl rfl rfl (all3 hsv) rfl) .free rfl ?_
    rintro _ _ rfl
    refine p_nil ?_; refine v_on ?_; refine v_val rfl rfl rfl (ev_assign rfl) .free rfl ?_; refine v_nil ?_; refine go_sub (σ' := [(7, _), (4, _), (6, _), (5, _)]) ⟨rfl, rfl, rfl, rfl, trivial⟩ ?_; refine g_ret ?_
    exact ret_4 Tryz.results67 (.tmp rfl) (.cellA rfl Tryz.isAgg30 Tryz.sizeOf30 rfl rfl) (.cellA rfl Tryz.isAgg33 Tryz.sizeOf33 rfl rfl) (.tmp rfl) (fun w hh => ⟨_, ⟨bd, pa, N, s0, sL, out, ov, sv, hfm, hN, ⟨hu0, hf⟩, by rw [hinv, List.drop_eq_nil_of_le (by omega)]; rfl, huL, hlL, hnL, hov, hsv, rfl, rfl⟩, ((((((((hh.front 7 rfl).front 7 rfl).front 7 rfl).front 7 rfl).front 4 rfl).tail.tail.tail.tail.tail.front 2 rfl).front 2 rfl).front 2 rfl)⟩)
end Go.Proofs.YtbfheafpecgphaaGreat
namespace Go.Proofs.YtbfheafpecgphaaGreat
open Go
section
variable {B : World} {n : Nat} {D : List Deferred} {σ : Env} {H : List HP} {P : Program} {ro : Cx} {K : Act → World → Prop} {X : Ext} {w : World}
theorem stepR_scope {b : Frame} {a : Act} {k : List Item} {cs : List Frame} {c : Code} : step P (lone (b.atR a (.code (.scope c) :: k)) cs w) = .next (lone (b.atR a (.code c :: .inScope c :: k)) cs w) :=
  step_lone_go (by simp [stepG, stepG.exec, Frame.atR])
theorem stepR_inScope {b : Frame} {a : Act} {k : List Item} {cs : List Frame} {c : Code} : step P (lone (b.atR a (.inScope c :: k)) cs w) = .next (lone (b.atR a k) cs w) :=
  step_lone_go (by simp [stepG, stepG.exec, Frame.atR])
theorem g_scope {c : Code} (h : GO B n D σ H (cw ro P c K X)) : GO B n D σ H (cw ro P (.scope c) K X) := fun a w s => by
  intro b k cs hro hf
  have h0 : (lone (b.atR a (.code (.scope c) :: k)) cs w).fenced P (Wd ro) := fenced_calm (n := 0) trivial (rmW _ _) rfl
  obtain ⟨e, a₁, w₁, hq, harr⟩ := h a w s b (.inScope c :: k) cs hro hf
  cases e with
  | normal => exact ⟨.normal, a₁, w₁, hq, .head h0 stepR_scope (StepsIn.trans harr (.one (fenced_calm (n := 0) trivial (rmW _ _) rfl) stepR_inScope))⟩
  | exit id =>
    have hx : exitTo id (.inScope c :: k) = exitTo id k := by simp [exitTo]
    exact ⟨.exit id, a₁, w₁, hq, fun k' hk => .head h0 stepR_scope (harr.1 k' (by rw [hx]; exact hk)),
      fun hr' hk => let ⟨k₁, h1, h2⟩ := harr.2 hr' (by rw [hx]; exact hk); ⟨k₁, h1, .head h0 stepR_scope h2⟩⟩
  | goto l => exact hq.elim
  | ret => exact ⟨.ret, a₁, w₁, hq, ArrivesIn.of_steps (k := k) (e := .ret) (.one h0 stepR_scope) harr⟩
  | panic ch => exact ⟨.panic ch, a₁, w₁, hq, ArrivesIn.of_steps (k := k) (e := .panic ch) (.one h0 stepR_scope) harr⟩
  | outgrown => exact hq.elim
class GetT (i : Nat) (l : List HP) (A : outParam HP) (r : outParam (List HP)) : Prop where
  get : l[i]? = some A ∧ l.eraseIdx i = r
instance GetT.zero {A : HP} {l : List HP} : GetT 0 (A :: l) A l := ⟨rfl, rfl⟩
instance GetT.succ {i : Nat} {A C : HP} {l r : List HP} [g : GetT i l A r] : GetT (i + 1) (C :: l) A (C :: r) := ⟨by simpa using g.get.1, by simp [g.get.2]⟩
class PickT (is : List Nat) (l : List HP) (r : outParam (List HP)) : Prop where
  ok : ∀ h : Frag, sat l h → sat r h
instance PickT.nil {l : List HP} : PickT [] l l := ⟨fun _ a => a⟩
instance PickT.cons {i : Nat} {is : List Nat} {A : HP} {l l' r : List HP} [g : GetT i l A l'] [p : PickT is l' r] : PickT (i :: is) l (A :: r) :=
  ⟨fun h a => sat_cons (fun k hk => p.ok k hk) (by have := sat_front i g.get.1 a; rwa [g.get.2] at this)⟩
class DropT (is : List Nat) (l : List HP) (r : outParam (List HP)) : Prop where
  ok : ∀ h : Frag, sat l h → sat r h
instance DropT.nil {l : List HP} : DropT [] l l := ⟨fun _ a => a⟩
instance DropT.cons {i : Nat} {is : List Nat} {A : HP} {l l' r : List HP} [g : GetT i l A l'] [p : DropT is l' r] : DropT (i :: is) l r :=
  ⟨fun h a => p.ok h (by have := sat_tail (sat_front i g.get.1 a); rwa [g.get.2] at this)⟩
theorem Holds.pk {l r : List HP} (h : Holds B l w) (is : List Nat) [p : PickT is l r] : Holds B r w := h.map p.ok
theorem Holds.dp {l r : List HP} (h : Holds B l w) (is : List Nat) [p : DropT is l r] : Holds B r w := h.map p.ok
theorem go_pk {H' : List HP} (is : List Nat) [p : PickT is H H'] (h : GO B n D σ H' K) : GO B n D σ H K := go_conv (fun _ hh => hh.pk is) h
class SetM (i : Nat) (l : List HP) (m : Nat) (r : outParam (List HP)) : Prop where
  ok : l[i]? = some (blk m (.deferred (some []))) ∧ l.set i (blk m (.deferred none)) = r
instance SetM.zero {m : Nat} {l : List HP} : SetM 0 (blk m (.deferred (some [])) :: l) m (blk m (.deferred none) :: l) := ⟨rfl, rfl⟩
instance SetM.succ {i m : Nat} {C : HP} {l r : List HP} [g : SetM i l m r] : SetM (i + 1) (C :: l) m (C :: r) := ⟨by simpa using g.ok.1, by simp [g.ok.2]⟩
theorem Marks.at {m : Nat} {H' H2 : List HP} (i : Nat) [g : SetM i H m H'] (h : Marks D H' H2) : Marks (mark1 m :: D) H H2 := by
  refine .cons (i := i) g.ok.1 ?_
  rw [g.ok.2]; exact h
theorem sat_perm {l l' : List HP} (p : l.Perm l') : ∀ {h : Frag}, Go.Proofs.YtbfheafpecgphaaGreat.sat l h → Go.Proofs.YtbfheafpecgphaaGreat.sat l' h := by
  induction p with
  | nil => exact id
  | cons A _ ih => exact fun a => sat_cons (fun _ => ih) a
  | swap A B l => exact fun a => sat_swap a
  | trans _ _ i1 i2 => exact fun a => i2 (i1 a)
theorem Holds.perm {l l' : List HP} (h : Holds B l w) (p : l.Perm l') : Holds B l' w := h.map fun _ => sat_perm p
theorem ret_2_m {f : FuncId} {fn : Func} {R : Ending → World → Prop} {H2 : List HP} {x y : ResultVar} {v u : Value} (hr : fn.results = #[x, y]) (m : Marks D H H2) (h1 : ResV P σ H2 x v) (h2 : ResV P σ H2 y u) (h : ∀ w, Holds B H2 w → R (.returned (.tuple #[v, u])) w) : GO B n D σ H (fnXM P f fn R).ret := fun a w s => by
  show LeavesInM _ _ _ _ _ _ a.defers _ _
  rw [s.defers]
  refine m.leave (by simp) w s.holds fun w' hw' => ⟨.tuple #[v, u], ?_, h w' hw'⟩
  have e1 := h1.run s.env hw'
  have e2 := h2.run s.env hw'
  simp [results, hr] at e1 e2 ⊢
  cases x <;> cases y <;> simp_all
def marksD (ms : List Nat) : List Deferred := ms.map mark1
def marksH (ms : List Nat) : HP := grp (ms.map fun m => blk m (.deferred (some [])))
theorem marksH_nil {l : List HP} (h : Holds B l w) : Holds B (marksH [] :: l) w := Holds.ungrp (l := []) h
theorem marksH_cons {l : List HP} {m : Nat} {ms : List Nat} (h : Holds B (blk m (.deferred (some [])) :: marksH ms :: l) w) : Holds B (marksH (m :: ms) :: l) w :=
  Holds.ungrp (l := blk m (.deferred (some [])) :: ms.map fun m => blk m (.deferred (some []))) ((h.front 1 rfl).grp.map fun _ a => by
    have h2 : ∀ (x : List HP) (A : HP) (y : List HP) (k : Frag), sat (x ++ A :: y) k → sat (A :: (x ++ y)) k := by
      intro x
      induction x with
      | nil => intro A y k a; exact a
      | cons C x ih => intro A y k a; exact sat_swap (sat_cons (fun k => ih A y k) a)
    exact h2 _ _ _ _ a)
theorem marks_front : ∀ (ms : List Nat) {l : List HP}, Marks (marksD ms) (marksH ms :: l) l
  | [], l => .conv (fun _ a => sat_tail a) .nil
  | m :: ms, l => by
    refine .conv (H' := blk m (.deferred (some [])) :: marksH ms :: l) (fun k a => ?_) (.cons (i := 0) rfl (.conv (fun _ a => sat_tail a) (marks_front ms)))
    have a2 := sat_grp a
    exact sat_cons (fun k b => grp_sat b) a2
theorem marks_at {ms : List Nat} {l r : List HP} (i : Nat) [g : GetT i l (marksH ms) r] : Marks (marksD ms) l r :=
  .conv (fun _ a => by have := sat_front i g.get.1 a; rwa [g.get.2] at this) (marks_front ms)
theorem look_cat {l l' : Env} {t : Nat} {v : Value} (h : look (l ++ l') t = some v) : look l t = some v ∨ look l' t = some v := by
  induction l with
  | nil => exact .inr h
  | cons p l ih =>
    obtain ⟨k, u⟩ := p
    simp only [List.cons_append, look] at h ⊢
    by_cases e : k = t
    · subst e; simp at h ⊢; exact .inl h
    · rw [beq_no e] at h ⊢; exact ih h
theorem g_loopD {c : Code} {ι : Type} (I : ι → Prop) (DI : ι → List Deferred) (σI : ι → Env) (HI : ι → List HP) (μ : ι → Nat) (i₀ : ι)
    (h0 : I i₀) (h1 : ∀ a w, St B n D σ H a w → St B n (DI i₀) (σI i₀) (HI i₀) a w)
    (round : ∀ i, I i → GO B n (DI i) (σI i) (HI i) (cw ro P c (fun a w => ∃ j, I j ∧ μ j < μ i ∧ St B n (DI j) (σI j) (HI j) a w) X)) :
    GO B n D σ H (cw ro P (.loop c) K X) := by
  intro a w s b k cs hro hb
  have h00 : (lone (b.atR a (.code (.loop c) :: k)) cs w).fenced P (Wd ro) := fenced_calm (n := 0) trivial (rmW _ _) rfl
  have key : ∀ m i, I i → μ i = m → ∀ a w, St B n (DI i) (σI i) (HI i) a w →
      ∃ e a' w', toQ K X e a' w' ∧ ArrivesIn (Machine.fenced P (Wd ro)) P (lone (b.atR a (.code c :: .inLoop c :: k)) cs w) b k cs e a' w' := by
    intro m
    induction m using Nat.strongRecOn with
    | _ m ih =>
      intro i hI hi a w s
      obtain ⟨e, a₁, w₁, hq, harr⟩ := round i hI a w s b (.inLoop c :: k) cs hro hb
      cases e with
      | normal =>
        obtain ⟨j, hIj, hj, sj⟩ := hq
        obtain ⟨e₂, a₂, w₂, hq₂, harr₂⟩ := ih (μ j) (by omega) j hIj rfl a₁ w₁ sj
        exact ⟨e₂, a₂, w₂, hq₂, .of_steps (StepsIn.trans harr (.one (fenced_calm (n := 0) trivial (rmW _ _) rfl) stepR_inLoop)) harr₂⟩
      | exit id => exact ⟨.exit id, a₁, w₁, hq, .pass (x := .inLoop c) rfl (fun _ _ => .inl (by simp)) harr⟩
      | goto l => exact hq.elim
      | ret => exact ⟨.ret, a₁, w₁, hq, .pass (x := .inLoop c) rfl (fun _ _ => .inl (by simp)) harr⟩
      | panic ch => exact ⟨.panic ch, a₁, w₁, hq, .pass (x := .inLoop c) rfl (fun _ _ => .inl (by simp)) harr⟩
      | outgrown => exact hq.elim
  obtain ⟨e, a', w', q, r⟩ := key _ i₀ h0 rfl a w (h1 a w s)
  exact ⟨e, a', w', q, .of_steps (.one h00 stepR_loop) r⟩
theorem g_loopkD {c : Code} {ι : Type} (ks : List Nat) (I : ι → Prop) (DI : ι → List Deferred) (σI : ι → Env) (HI : ι → List HP) (μ : ι → Nat) (i₀ : ι)
    (h0 : I i₀) (h1 : ∀ a w, St B n D σ H a w → St B n (DI i₀) (σI i₀) (HI i₀) a w)
    (round : ∀ i, I i → GO B n (DI i) (σI i ++ keep σ ks) (HI i) (cw ro P c (fun a w => ∃ j, I j ∧ μ j < μ i ∧ St B n (DI j) (σI j ++ keep σ ks) (HI j) a w) X)) :
    GO B n D σ H (cw ro P (.loop c) K X) := by
  refine g_loopD I DI (fun i => σI i ++ keep σ ks) HI μ i₀ h0 (fun a w s => ?_) round
  have s1 := h1 a w s
  refine ⟨⟨s.size, s1.defers, fun t v h => ?_⟩, s1.holds⟩
  rcases look_cat h with h | h
  · exact s1.env t v h
  · exact s.env t v (look_keep h)
theorem g_loopk {c : Code} {ι : Type} (ks : List Nat) (I : ι → Prop) (σI : ι → Env) (HI : ι → List HP) (μ : ι → Nat) (i₀ : ι)
    (h0 : I i₀) (h1 : ∀ a w, St B n D σ H a w → St B n D (σI i₀) (HI i₀) a w)
    (round : ∀ i, I i → GO B n D (σI i ++ keep σ ks) (HI i) (cw ro P c (fun a w => ∃ j, I j ∧ μ j < μ i ∧ St B n D (σI j ++ keep σ ks) (HI j) a w) X)) :
    GO B n D σ H (cw ro P (.loop c) K X) := g_loopkD ks I (fun _ => D) σI HI μ i₀ h0 h1 round
end
end Go.Proofs.YtbfheafpecgphaaGreat
namespace Go.Proofs.YtbfheafpecgphaaGreat
open Go
theorem fillM_res {ε : Type} {op : Int → Int → Dev → ε → Out (Int × ε)} {a h : Int} : ∀ (f : Nat) (i : Int) (s s' : Dev) (e e' : ε) (x : Int × Int), fillM op a h f i s e = .ok (x, e') s' → x.2 = 0 → x.1 = a
  | 0, _, s, s', e, e', x, hm, hx => by cases hm; rfl
  | f + 1, i, s, s', e, e', x, hm, hx => by
    unfold fillM at hm
    obtain ⟨y, s1, e1, hm⟩ := then_inv hm
    split at hm
    · cases hm; rename_i hne; exact absurd hx hne
    · exact fillM_res f _ s1 s' _ e' x hm hx
theorem allocM_res {ε : Type} {op : Int → Int → Dev → ε → Out (Int × ε)} {c : Cfg} {w r : Int} {s s' : Dev} {e e' : ε} {x : Int × Int} (hm : allocM op c w r s e = .ok (x, e') s') (hx : x.2 = 0) : x.1 = (s.block c).1.place c (s.block c).1.used := by
  unfold allocM at hm
  split at hm
  · rename_i h; cases hm; exact absurd hx h
  split at hm
  · rename_i h; cases hm; exact absurd hx h
  split at hm
  · cases hm; exact absurd hx (by decide)
  obtain ⟨y, s1, e1, hm⟩ := then_inv hm
  split at hm
  · rename_i h; cases hm; exact absurd hx h
  · exact fillM_res _ _ _ _ _ _ _ hm hx
theorem fillM_keeps {ε : Type} {op : Int → Int → Dev → ε → Out (Int × ε)} {ok : Dev → ε → Prop} (K : ∀ i v s e a e' s', ok s e → 0 ≤ v ∧ v < 18446744073709551616 → op i v s e = .ok (a, e') s' → ok s' e') {a h : Int} (hh : 0 ≤ h ∧ h < 18446744073709551616) : ∀ (f : Nat) (i : Int) (s s' : Dev) (e e' : ε) (x : Int × Int), ok s e → fillM op a h f i s e = .ok (x, e') s' → ok s' e'
  | 0, _, s, s', e, e', x, h0, hm => by cases hm; exact h0
  | f + 1, i, s, s', e, e', x, h0, hm => by
    unfold fillM at hm
    obtain ⟨⟨y, e1⟩, s1, h1, hm⟩ := then_inv hm
    have h2 := K _ _ _ _ _ _ _ h0 (by split <;> first | exact hh | decide) h1
    split at hm
    · cases hm; exact h2
    · exact fillM_keeps K hh f _ s1 s' _ e' x h2 hm
theorem allocM_keeps {ε : Type} {op : Int → Int → Dev → ε → Out (Int × ε)} {ok : Dev → ε → Prop} (K : ∀ i v s e a e' s', ok s e → 0 ≤ v ∧ v < 18446744073709551616 → op i v s e = .ok (a, e') s' → ok s' e') {c : Cfg} (hc : CfgW c) {w r : Int} {s s' : Dev} {e e' : ε} {x : Int × Int} (hb : BlkW c (s.block c).1) (h0 : ok s e) (hm : allocM op c w r s e = .ok (x, e') s') : ok s' e' := by
  have h1 := hb.used
  have h2 := hc.s2
  unfold allocM at hm
  split at hm
  · cases hm; exact h0
  rename_i hk
  have hw := chkH_b (w := w) (r := r) (by omega)
  split at hm
  · cases hm; exact h0
  split at hm
  · cases hm; exact h0
  obtain ⟨⟨y, e1⟩, s1, h3, hm⟩ := then_inv hm
  have h4 := K _ _ _ _ _ _ _ h0 ⟨by omega, by omega⟩ h3
  split at hm
  · cases hm; exact h4
  · exact fillM_keeps K (packI_b w r) _ _ _ _ _ _ _ h4 hm
theorem devOp_keeps : ∀ (i v : Int) (s : Dev) (e : Unit) (a : Int) (e' : Unit) (s' : Dev), U64 s → 0 ≤ v ∧ v < 18446744073709551616 → devOp i v s e = .ok (a, e') s' → U64 s' := fun i v s e a e' s' h hv hm => by
  obtain ⟨_, s1, h1, hm⟩ := then_inv hm
  cases hm; exact (store_u64 h hv h1).1
theorem place_b {c : Cfg} (hc : CfgW c) {b : Blk} (hb : BlkW c b) {i : Int} (hi : 0 ≤ i ∧ i ≤ c.space) : 0 ≤ b.place c i ∧ b.place c i ≤ 20000 := by
  have h1 := frm_b hc (k := b.act) (by have := hb.act; omega)
  have h2 := hb.act
  unfold Blk.place
  rcases (by omega : b.act = 0 ∨ b.act = 1) with e | e <;> (rw [e] at h1 ⊢; omega)
theorem fillN_b {c : Cfg} (hc : CfgW c) : ∀ (hs : List (Int × Int)) (s s' : Dev) (acc out : List Int), U64 s → fillN c hs s acc = .ok out s' → (∀ a ∈ acc, 0 ≤ a ∧ a ≤ 20000) → ∀ a ∈ out, 0 ≤ a ∧ a ≤ 20000
  | [], s, s', acc, out, _, hm, h => by cases hm; exact h
  | t :: hs, s, s', acc, out, hu, hm, h => by
    unfold fillN at hm
    obtain ⟨⟨x, e'⟩, s1, e1, hm⟩ := then_inv hm
    have hb := block_w (s := s) hc hu
    refine fillN_b hc hs s1 s' _ out (allocM_keeps (ok := fun s _ => U64 s) devOp_keeps hc hb hu e1) hm fun a ha => ?_
    split at ha
    · rename_i hx
      rcases List.mem_append.1 ha with ha | ha
      · exact h a ha
      · rw [List.mem_singleton.1 ha, allocM_res e1 hx]
        exact place_b hc hb hb.used
    · exact h a ha
theorem objOf_w {s : Dev} {c : Cfg} (hc : CfgW c) {b : Blk} (hb : BlkW c b) {a : Int} (h : (s.objOf c b a).2 = 0) : ObjW (s.objOf c b a).1 := by
  unfold Dev.objOf at h ⊢
  split at h
  · cases h
  split at h
  · cases h
  rename_i h1 h2
  rw [if_neg h1, if_neg h2]
  have h3 := unp_b (s.load a)
  have h4 := bhas_b hc hb (w := a) (by cases hh : b.has c a with
    | true => rfl
    | false => exact absurd (.inr hh) h1)
  exact ⟨⟨h3.1, h3.2.1⟩, ⟨h3.2.2.1, h3.2.2.2⟩, ⟨by simp only; omega, by simp only; omega⟩⟩
theorem good_set {o : Obj3} {i v : Int} {r : Bool} {s : Dev} (h1 : s.pow.lim < 0) : Good (setM devOp o i r v s ()) (fun _ => True) s.n := by
  unfold setM
  split
  · exact ⟨_, _, rfl, trivial, h1, rfl⟩
  · exact good_op h1
theorem opointD_ok (B : World) (Fr : List HP) (bd : Nat) (o : Obj3) (ho : ObjW o) (i v : Int) (hv : 0 ≤ v ∧ v ≤ 9223372036854775807) (s : Dev) (hl : s.pow.lim < 0) (hu : U64 s) :
    ∀ w_, Holds B (DevA bd s :: Fr) w_ → Calls Tryz.prog 69 [objV o, i64 i, i64 v, .func (.func 70) [ptr bd].toArray #[]].toArray w_ (Ret B (fun rv H' => ∃ x s', setM devOp o i true v s () = .ok (x, ()) s' ∧ rv = i64 x ∧ s'.pow.lim < 0 ∧ s'.n = s.n ∧ U64 s' ∧ H' = DevA bd s' :: Fr) (fun _ _ => False)) := fun w_ hh => by
  obtain ⟨y, s2, hg, _, hg2, hg3⟩ := good_set (o := o) (i := i) (v := v) (r := true) hl
  refine (opoint_ok B Fr _ [ptr bd] bd 0 Unit (fun _ _ => pr True) devOp _ (storeD B bd 0) o ho i v hv s () hu w_ ((hh.unpr (p := True) trivial).back 1 (by simp))).mono fun en w' h => ?_
  cases en with
  | returned rv =>
    obtain ⟨H, ⟨x, e', s', hm, rfl, hok, rfl⟩, hh⟩ := h
    obtain ⟨rfl, rfl⟩ : y = (x, e') ∧ s2 = s' := by rw [hg] at hm; cases hm; exact ⟨rfl, rfl⟩
    exact ⟨_, ⟨x, s2, hm, rfl, hg2, hg3, hok, rfl⟩, (hh.front 1 rfl).tail⟩
  | panicked c =>
    obtain ⟨H, ⟨s', hm, _⟩, _⟩ := h
    rw [hg] at hm; cases hm
  | outgrown => exact h
theorem fillN_len {c : Cfg} : ∀ {hs : List (Int × Int)} {s s' : Dev} {acc out : List Int}, fillN c hs s acc = .ok out s' → out.length ≤ acc.length + hs.length
  | [], s, s', acc, out, hm => by cases hm; exact Nat.le_add_right _ _
  | t :: hs, s, s', acc, out, hm => by
    unfold fillN at hm
    obtain ⟨⟨x, e'⟩, s1, e1, hm⟩ := then_inv hm
    have := fillN_len hm
    split at this
    · simp at this ⊢; omega
    · simp at this ⊢; omega
theorem nstoreL_ok (B : World) (Fr : List HP) (b : Nat) (s : Dev) (i v : Int) (hl : s.pow.lim < 0) (hu : U64 s) (hv : 0 ≤ v ∧ v < 18446744073709551616) :
    ∀ w, Holds B (DevA b s :: Fr) w → Calls Tryz.prog 70 [ptr b, i64 i, w64 v].toArray w (Ret B (fun rv H' => ∃ x s', s.store i v = .ok x s' ∧ rv = i64 x ∧ s'.pow.lim < 0 ∧ s'.n = s.n ∧ U64 s' ∧ H' = DevA b s' :: Fr) (fun _ _ => False)) := fun w hh => by
  obtain ⟨y, s2, hg, _, hg2, hg3⟩ := good_store (i := i) (v := v) hl
  refine (nstore_ok B Fr b s i v w hh).mono fun en w' h => ?_
  cases en with
  | returned rv =>
    obtain ⟨H, ⟨s', ⟨a, hm, rfl⟩, rfl⟩, hh⟩ := h
    obtain ⟨rfl, rfl⟩ : y = a ∧ s2 = s' := by rw [hg] at hm; cases hm; exact ⟨rfl, rfl⟩
    exact ⟨_, ⟨y, s2, hg, rfl, hg2, hg3, (store_u64 hu hv hg).1, rfl⟩, hh⟩
  | panicked c =>
    obtain ⟨H, ⟨s', ⟨hm, _⟩, _⟩, _⟩ := h
    rw [hg] at hm; cases hm
  | outgrown => exact h
theorem go_vecq {B : World} {n : Nat} {D : List Deferred} {σ : Env} {Fr : List HP} {K : Act → World → Prop} {T : TypeId} {enc : Int → Value} {sv : Value} {xs : List Int} (h : ∀ q cap, sv = .slice q xs.length cap → (∀ i, i < xs.length → ∃ b off, q = some ⟨b, off, none⟩) → GO B n D σ (VecA T enc 0 (sv, xs) :: Fr) K) : GO B n D σ (VecA T enc 0 (sv, xs) :: Fr) K := fun a w st => by
  rcases holds_vec st.holds with ⟨e1, e2, _⟩ | ⟨bd, pre, rest, k, _, e, _⟩
  · exact h none 0 (by rw [e2, e1]; rfl) (fun i hi => by rw [e1] at hi; exact absurd hi (Nat.not_lt_zero _)) a w st
  · exact h _ _ e (fun _ _ => ⟨_, _, rfl⟩) a w st
def pickL (l out : List Int) (sp : Int) (k : Nat) : Int :=
  if l.length ≤ k ∨ out.length = 0 ∨ l.getD k 0 % 5 = 0 then 0
  else if 0 < sp ∧ l.getD k 0 % sp = 1 then out.getD (l.getD k 0 % out.length).toNat 0 + 1 else out.getD (l.getD k 0 % out.length).toNat 0
theorem pickL_b {l out : List Int} {sp : Int} {k : Nat} (hob : ∀ x ∈ out, 0 ≤ x ∧ x ≤ 20000) : 0 ≤ pickL l out sp k ∧ pickL l out sp k ≤ 20001 := by
  have h : ∀ j, 0 ≤ out.getD j 0 ∧ out.getD j 0 ≤ 20000 := fun j => by
    rw [List.getD_eq_getElem?_getD]
    by_cases hj : j < out.length
    · rw [List.getElem?_eq_getElem hj]; exact hob _ (List.getElem_mem hj)
    · rw [List.getElem?_eq_none (by omega)]; decide
  unfold pickL
  split
  · decide
  · have h1 := h (l.getD k 0 % (out.length : Int)).toNat
    split <;> omega
def linkRefs (f : Nat → Int) (o : Obj3) : Nat → Nat → Int → Dev → Out Nat
  | 0, n, _, s => .ok n s
  | k + 1, n, i, s => (setM devOp o i true (f n) s ()).then fun _ s' => linkRefs f o k (n + 1) (i + 1) s'
def linkObjs (c : Cfg) (b : Blk) (f : Nat → Int) : List Int → Nat → Dev → Out (Option Nat)
  | [], n, s => .ok (some n) s
  | a :: t, n, s => if (s.objOf c b a).2 ≠ 0 then .ok none s else (linkRefs f (s.objOf c b a).1 (s.objOf c b a).1.2.1.toNat n 0 s).then fun n' s' => linkObjs c b f t n' s'
theorem linkObjs_cons (c : Cfg) (b : Blk) (f : Nat → Int) (a : Int) (t : List Int) (n : Nat) (s : Dev) : linkObjs c b f (a :: t) n s = if (s.objOf c b a).2 ≠ 0 then .ok none s else (linkRefs f (s.objOf c b a).1 (s.objOf c b a).1.2.1.toNat n 0 s).then fun n' s' => linkObjs c b f t n' s' := rfl
def linkRoots (c : Cfg) (f : Nat → Int) : Nat → Nat → Int → Dev → Out Nat
  | 0, n, _, s => .ok n s
  | k + 1, n, i, s => (s.store (c.root i) (f n)).then fun _ s' => linkRoots c f k (n + 1) (i + 1) s'
theorem lclos_ok (B : World) (Fr : List HP) (b0 b1 b2 b3 : Nat) (n : Nat) (ql qo : Option Addr) (cl co : Nat) (l out : List Int) (sp : Int) (hn : n ≤ 1000000000) (hl : SlR B Fr (.slice ql l.length cl) (l.map u16)) (ho : SlR B Fr (.slice qo out.length co) (out.map i64)) (hlb : ∀ x ∈ l, 0 ≤ x ∧ x < 65536) (hob : ∀ x ∈ out, 0 ≤ x ∧ x ≤ 20000) (hlen : l.length ≤ 1000000 ∧ out.length ≤ 1000000) (hsp : 0 ≤ sp ∧ sp < 256) (hql : ∀ i, i < l.length → ∃ b off, ql = some ⟨b, off, none⟩) (hqo : ∀ i, i < out.length → ∃ b off, qo = some ⟨b, off, none⟩) :
    ∀ w, Holds B (row b0 [i64 n] 3 :: row b1 [.slice ql l.length cl] 26 :: row b2 [.slice qo out.length co] 34 :: row b3 [u8 sp] 5 :: Fr) w → Calls Tryz.prog 68 [ptr b0, ptr b1, ptr b2, ptr b3].toArray w (Ret B (fun rv H' => rv = w64 (pickL l out sp n) ∧ H' = row b0 [i64 (n + 1 : Nat)] 3 :: row b1 [.slice ql l.length cl] 26 :: row b2 [.slice qo out.length co] 34 :: row b3 [u8 sp] 5 :: Fr) (fun _ _ => False)) := by
  refine fn_enter Tryz.func68 rfl Tryz.ntmps68 rfl ?_; refine g_seq ?_; refine g_region ?_; refine kPa rfl rfl ?_; refine p_nil ?_; refine g_seq ?_; refine g_seq ?_; refine g_region ?_; refine kPv (ev_load Tryz.isAgg3 rfl rfl) rfl ?_
  first | refine p_val rfl (ev_add rfl rfl (wr64 (by omega))) .free rfl rfl ?_ | refine p_val rfl (ev_add rfl rfl rfl) .free rfl rfl ?_
  refine p_chg0 rfl (ch_store Tryz.sizeOf3 rfl rfl rfl rfl) .free rfl ?_
  rintro _ _ rfl
  refine p_nil ?_; refine g_seq ?_; refine g_region ?_; refine kPv (ev_load Tryz.isAgg3 rfl rfl) rfl ?_; refine kPv (ev_load Tryz.isAgg26 rfl rfl) rfl ?_; refine kPv (ev_len rfl Tryz.runUnderlying26 ⟨_, rfl⟩ rfl) rfl ?_; refine kPv (ev_cmp rfl rfl rfl) rfl ?_; refine kPm rfl rfl ?_
  apply p_or (tp := 16) (t := 12) (σ1 := [(12, _), (4, _), (0, _), (1, _), (2, _), (3, _)]) 4 rfl ⟨rfl, rfl, rfl, rfl, rfl, rfl, trivial⟩
  · intro hg1
    refine p_val rfl (ev_load Tryz.isAgg34 rfl rfl) (.on rfl rfl (beq_eq hg1)) rfl rfl ?_; refine p_val rfl (ev_len rfl Tryz.runUnderlying34 ⟨_, rfl⟩ rfl) (.on rfl rfl (beq_eq hg1)) rfl rfl ?_; refine p_val rfl (ev_cmp rfl rfl rfl) (.on rfl rfl (beq_eq hg1)) rfl rfl ?_; refine kPv (ev_pick_f rfl hg1 rfl) rfl ?_
    exact p_seg rfl ⟨rfl, rfl, rfl, rfl, rfl, rfl, trivial⟩ (or_f hg1)
  · intro hg1
    refine p_skip rfl (.on rfl rfl (beq_ne hg1)) rfl ?_; refine p_skip rfl (.on rfl rfl (beq_ne hg1)) rfl ?_; refine p_skip rfl (.on rfl rfl (beq_ne hg1)) rfl ?_; refine kPv (ev_pick_t rfl hg1 rfl) rfl ?_
    exact p_seg rfl ⟨rfl, rfl, rfl, rfl, rfl, rfl, trivial⟩ (or_t hg1)
  refine kPm rfl rfl ?_
  apply p_or (tp := 25) (t := 17) (σ1 := [(17, _), (4, _), (0, _), (1, _), (2, _), (3, _)]) 8 rfl ⟨rfl, rfl, rfl, rfl, rfl, rfl, trivial⟩
  · intro hg2
    refine p_val rfl (ev_load Tryz.isAgg26 rfl rfl) (.on rfl rfl (beq_eq hg2)) rfl rfl ?_; refine p_val rfl (ev_load Tryz.isAgg3 rfl rfl) (.on rfl rfl (beq_eq hg2)) rfl rfl ?_
    first | refine p_val rfl (ev_sub rfl rfl (wr64 (by omega))) (.on rfl rfl (beq_eq hg2)) rfl rfl ?_ | refine p_val rfl (ev_sub rfl rfl rfl) (.on rfl rfl (beq_eq hg2)) rfl rfl ?_
    have hnl : n < l.length := by simp at hg2; omega
    obtain ⟨bL, oL, rfl⟩ := hql n hnl
    have hn1 : ((n : Int) + 1 - 1).toNat = n := by omega
    have hlx := hlb (l.getD n 0) (by rw [List.getD_eq_getElem?_getD, List.getElem?_eq_getElem hnl]; exact List.getElem_mem hnl)
    refine p_val rfl (ev_iaS Tryz.runUnderlying26 Tryz.sizeOf22 rfl rfl (by omega) (by omega)) (.on rfl rfl (beq_eq hg2)) rfl rfl ?_; refine p_val rfl (ev_loadS (v := u16 (l.getD n 0)) Tryz.isAgg22 ((((hl.cons _).cons _).cons _).cons _) rfl (by rw [hn1]; simp [hnl])) (.on rfl rfl (beq_eq hg2)) rfl rfl ?_
    refine p_val rfl (ev_rem (c := l.getD n 0 % 5) rfl rfl (by decide) (rem_e 5 (by omega))) (.on rfl rfl (beq_eq hg2)) rfl rfl ?_; refine p_val rfl (ev_cmp rfl rfl rfl) (.on rfl rfl (beq_eq hg2)) rfl rfl ?_; refine kPv (ev_pick_f rfl hg2 rfl) rfl ?_
    exact p_seg rfl ⟨rfl, rfl, rfl, rfl, rfl, rfl, trivial⟩ (or_f hg2)
  · intro hg2
    refine p_skip rfl (.on rfl rfl (beq_ne hg2)) rfl ?_; refine p_skip rfl (.on rfl rfl (beq_ne hg2)) rfl ?_; refine p_skip rfl (.on rfl rfl (beq_ne hg2)) rfl ?_; refine p_skip rfl (.on rfl rfl (beq_ne hg2)) rfl ?_; refine p_skip rfl (.on rfl rfl (beq_ne hg2)) rfl ?_; refine p_skip rfl (.on rfl rfl (beq_ne hg2)) rfl ?_; refine p_skip rfl (.on rfl rfl (beq_ne hg2)) rfl ?_; refine kPv (ev_pick_t rfl hg2 rfl) rfl ?_
    exact p_seg rfl ⟨rfl, rfl, rfl, rfl, rfl, rfl, trivial⟩ (or_t hg2)
  refine p_nil ?_
  refine g_if rfl (fun h25 => ?_) (fun h25 => ?_)
  · have hres : pickL l out sp n = 0 := by
      unfold pickL
      rw [if_pos (by simp [-List.length_eq_zero_iff] at h25 ⊢; omega)]
    refine g_seq ?_; refine g_region ?_; refine kPa rfl rfl ?_; refine p_nil ?_; refine g_ret ?_
    exact ret_tmp Tryz.results68 rfl (fun w hw => ⟨_, ⟨by rw [hres], rfl⟩, hw⟩)
  · have hcnd : n < l.length ∧ out.length ≠ 0 ∧ l.getD n 0 % 5 ≠ 0 := by simp [-List.length_eq_zero_iff] at h25 ⊢; omega
    have hnl := hcnd.1
    have hlx := hlb (l.getD n 0) (by rw [List.getD_eq_getElem?_getD, List.getElem?_eq_getElem hnl]; exact List.getElem_mem hnl)
    have hn1 : ((n : Int) + 1 - 1).toNat = n := by omega
    obtain ⟨bL, oL, rfl⟩ := hql n hnl
    have hop : (0 : Int) < out.length := by omega
    obtain ⟨j, hj0⟩ : ∃ j : Nat, (j : Int) = l.getD n 0 % (out.length : Int) := ⟨(l.getD n 0 % (out.length : Int)).toNat, by rw [Int.toNat_of_nonneg (Int.emod_nonneg _ (by omega))]⟩
    have hj : j < out.length := by have := Int.emod_lt_of_pos (l.getD n 0) hop; omega
    have hjm : (l.getD n 0).tmod (out.length : Int) = j := by rw [rem_e _ (by omega)]; omega
    have hox := hob (out.getD j 0) (by rw [List.getD_eq_getElem?_getD, List.getElem?_eq_getElem hj]; exact List.getElem_mem hj)
    obtain ⟨bO, oO, rfl⟩ := hqo j hj
    have hjt : (l.getD n 0 % (out.length : Int)).toNat = j := by omega
    have hcnd2 : ¬(l.length ≤ n ∨ out.length = 0 ∨ l.getD n 0 % 5 = 0) := by omega
    refine g_skip ?_; refine g_seq ?_; refine g_draw Tryz.mixed (by kernel_rfl) (by kernel_rfl) ?_; refine kQv (ev_load Tryz.isAgg34 rfl rfl) rfl ?_; refine kQv (ev_load Tryz.isAgg26 rfl rfl) rfl ?_; refine kQv (ev_load Tryz.isAgg3 rfl rfl) rfl ?_
    first | refine q_val rfl (ev_sub rfl rfl (wr64 (by omega))) .free rfl ?_ | refine q_val rfl (ev_sub rfl rfl rfl) .free rfl ?_
    refine kQv (ev_iaS Tryz.runUnderlying26 Tryz.sizeOf22 rfl rfl (by omega) (by omega)) rfl ?_; refine kQv (ev_loadS (v := u16 (l.getD n 0)) Tryz.isAgg22 ((((hl.cons _).cons _).cons _).cons _) rfl (by rw [hn1]; simp [hnl])) rfl ?_
    first | refine q_val rfl (ev_conv Tryz.runUnderlying22 Tryz.runUnderlying3 rfl (wr64 (by omega))) .free rfl ?_ | refine q_val rfl (ev_conv Tryz.runUnderlying22 Tryz.runUnderlying3 rfl rfl) .free rfl ?_
    refine kQv (ev_load Tryz.isAgg34 rfl rfl) rfl ?_; refine kQv (ev_len rfl Tryz.runUnderlying34 ⟨_, rfl⟩ rfl) rfl ?_; refine kQv (ev_rem (c := (j : Int)) rfl rfl (by omega) hjm) rfl ?_; refine kQv (ev_iaS Tryz.runUnderlying34 Tryz.sizeOf3 rfl rfl (by omega) (by omega)) rfl ?_; refine kQv (ev_loadS (v := i64 (out.getD j 0)) Tryz.isAgg3 ((((ho.cons _).cons _).cons _).cons _) rfl (by simp [hj])) rfl ?_; refine kQa rfl rfl ?_; refine q_nil ?_
    refine go_sub (σ' := [(5, _), (4, _), (0, _), (1, _), (3, _)]) ⟨rfl, rfl, rfl, rfl, rfl, trivial⟩ ?_; refine g_seq ?_; refine g_seq ?_; refine g_draw Tryz.mixed (by kernel_rfl) (by kernel_rfl) ?_; refine kQv (ev_load Tryz.isAgg5 rfl rfl) rfl ?_; refine kQv (ev_cmp rfl rfl rfl) rfl ?_; refine kQm rfl rfl ?_
    apply q_and (tp := 50) (t := 40) (σ1 := [(40, _), (5, _), (4, _)]) 10 rfl ⟨rfl, rfl, rfl, trivial⟩
    · intro hg3
      refine q_val rfl (ev_load Tryz.isAgg26 rfl rfl) (.on rfl rfl (beq_eq hg3)) rfl ?_; refine q_val rfl (ev_load Tryz.isAgg3 rfl rfl) (.on rfl rfl (beq_eq hg3)) rfl ?_
      first | refine q_val rfl (ev_sub rfl rfl (wr64 (by omega))) (.on rfl rfl (beq_eq hg3)) rfl ?_ | refine q_val rfl (ev_sub rfl rfl rfl) (.on rfl rfl (beq_eq hg3)) rfl ?_
      refine q_val rfl (ev_iaS Tryz.runUnderlying26 Tryz.sizeOf22 rfl rfl (by omega) (by omega)) (.on rfl rfl (beq_eq hg3)) rfl ?_; refine q_val rfl (ev_loadS (v := u16 (l.getD n 0)) Tryz.isAgg22 ((((hl.cons _).cons _).cons _).cons _) rfl (by rw [hn1]; simp [hnl])) (.on rfl rfl (beq_eq hg3)) rfl ?_
      refine q_val rfl (ev_load Tryz.isAgg5 rfl rfl) (.on rfl rfl (beq_eq hg3)) rfl ?_; refine q_val rfl (ev_conv Tryz.runUnderlying5 Tryz.runUnderlying22 rfl (show IntKind.u16.wrap sp = sp by simp [IntKind.wrap, IntKind.bits, IntKind.signed]; omega)) (.on rfl rfl (beq_eq hg3)) rfl ?_
      have hsp0 : 0 < sp := by simpa using hg3
      refine q_val rfl (ev_rem (c := l.getD n 0 % sp) rfl rfl (by omega) (rem_e _ (by omega))) (.on rfl rfl (beq_eq hg3)) rfl ?_; refine q_val rfl (ev_cmp rfl rfl rfl) (.on rfl rfl (beq_eq hg3)) rfl ?_; refine kQv (ev_pick_t rfl hg3 rfl) rfl ?_
      exact q_seg rfl ⟨rfl, rfl, rfl, trivial⟩ (and_t hg3)
    · intro hg3
      refine q_skip rfl (.on rfl rfl (beq_ne hg3)) rfl ?_; refine q_skip rfl (.on rfl rfl (beq_ne hg3)) rfl ?_; refine q_skip rfl (.on rfl rfl (beq_ne hg3)) rfl ?_; refine q_skip rfl (.on rfl rfl (beq_ne hg3)) rfl ?_; refine q_skip rfl (.on rfl rfl (beq_ne hg3)) rfl ?_; refine q_skip rfl (.on rfl rfl (beq_ne hg3)) rfl ?_; refine q_skip rfl (.on rfl rfl (beq_ne hg3)) rfl ?_; refine q_skip rfl (.on rfl rfl (beq_ne hg3)) rfl ?_; refine q_skip rfl (.on rfl rfl (beq_ne hg3)) rfl ?_
      refine kQv (ev_pick_f rfl hg3 rfl) rfl ?_
      exact q_seg rfl ⟨rfl, rfl, rfl, trivial⟩ (and_f hg3)
    refine q_nil ?_
    refine g_if rfl (fun h50 => ?_) (fun h50 => ?_)
    · have hk : 0 < sp ∧ l.getD n 0 % sp = 1 := by simpa using h50
      have hres : pickL l out sp n = out.getD j 0 + 1 := by unfold pickL; rw [if_neg hcnd2, if_pos hk, hjt]
      refine g_region ?_; refine kPm rfl rfl ?_
      first | refine p_val rfl (ev_add rfl rfl (wr64 (by omega))) .free rfl rfl ?_ | refine p_val rfl (ev_add rfl rfl rfl) .free rfl rfl ?_
      refine kPa rfl rfl ?_; refine p_nil ?_; refine g_seq ?_; refine g_region ?_; refine kPm rfl rfl ?_; refine kPv (ev_conv Tryz.runUnderlying3 Tryz.runUnderlying52 rfl (wru64 (by omega))) rfl ?_; refine kPa rfl rfl ?_; refine p_nil ?_; refine go_sub (σ' := [(4, _)]) ⟨rfl, trivial⟩ ?_; refine g_ret ?_
      exact ret_tmp Tryz.results68 rfl (fun w hw => ⟨_, ⟨by rw [hres], rfl⟩, hw⟩)
    · have hk : ¬ (0 < sp ∧ l.getD n 0 % sp = 1) := by simpa using h50
      have hres : pickL l out sp n = out.getD j 0 := by unfold pickL; rw [if_neg hcnd2, if_neg hk, hjt]
      refine g_skip ?_; refine g_seq ?_; refine g_region ?_; refine kPm rfl rfl ?_; refine kPv (ev_conv Tryz.runUnderlying3 Tryz.runUnderlying52 rfl (wru64 (by omega))) rfl ?_; refine kPa rfl rfl ?_; refine p_nil ?_; refine g_ret ?_
      exact ret_tmp Tryz.results68 rfl (fun w hw => ⟨_, ⟨by rw [hres], rfl⟩, hw⟩)
theorem linked_ok (B : World) (Fr : List HP) (x0 x1 x2 : Int) (hx : 0 ≤ x0 ∧ 0 ≤ x1 ∧ 0 ≤ x2) (c : Cfg) (hcm : c = mkC x0 x1 x2) (hs : List (Int × Int)) (hhs : ∀ h ∈ hs, (0 ≤ h.1 ∧ h.1 < 256) ∧ (0 ≤ h.2 ∧ h.2 < 256)) (hlen : hs.length ≤ 100000) (q : Option Addr) (cap : Nat) (hv : SlN B Fr (.slice q hs.length cap) 2 (hs.map fun h => [u8 h.1, u8 h.2])) (ql : Option Addr) (cl : Nat) (l : List Int) (hl : SlR B Fr (.slice ql l.length cl) (l.map u16)) (hlb : ∀ x ∈ l, 0 ≤ x ∧ x < 65536) (hll : l.length ≤ 1000000) (hql : ∀ i, i < l.length → ∃ b off, ql = some ⟨b, off, none⟩) (sp : Int) (hsp : 0 ≤ sp ∧ sp < 256) :
    ∀ w_, Holds B Fr w_ → Calls Tryz.prog 12 [.agg #[u16 x0, u16 x1, u16 x2], .slice q hs.length cap, .slice ql l.length cl, u8 sp].toArray w_ (Ret B (fun rv H' => ∃ (bd pa N : Nat) (s0 sF : Dev) (out : List Int), Fmt c N s0 ∧ (N : Int) = c.words ∧ (U64 s0 ∧ (dev0 pa [] N).format c = .ok 0 s0) ∧ fillN c hs s0 [] = .ok out sF ∧ ((∃ n1 n2 s1 s2 ov sv, linkObjs c (sF.block c).1 (pickL l out sp) out 0 sF = .ok (some n1) s1 ∧ linkRoots c (pickL l out sp) c.roots.toNat n1 0 s1 = .ok n2 s2 ∧ U64 s2 ∧ s2.pow.lim < 0 ∧ s2.n = N ∧ cell1 ov = true ∧ cell1 sv = true ∧ rv = .tuple #[ptr bd, cfgV c, blkV (s2.block c).1 sv, ov] ∧ H' = VecU 0 (sv, (s2.block c).1.rts) :: DevA bd s2 :: VecA 3 i64 0 (ov, out) :: Fr) ∨ (∃ s1, linkObjs c (sF.block c).1 (pickL l out sp) out 0 sF = .ok none s1 ∧ H' = Fr))) (fun _ _ => False)) := by
  refine fn_enter Tryz.func12 rfl Tryz.ntmps12 rfl ?_
  have hc : CfgW c := by rw [hcm]; exact mkC_w hx.1 hx.2.1 hx.2.2
  refine g_seq ?_; refine g_region ?_; refine p_chg rfl (ch_boxA rfl) .free rfl rfl ?_
  rintro _ _ ⟨b4, rfl, rfl⟩
  refine p_chg rfl (ch_box1 rfl rfl) .free rfl rfl ?_
  rintro _ _ ⟨b6, rfl, rfl⟩
  refine p_chg rfl (ch_box1 rfl rfl) .free rfl rfl ?_
  rintro _ _ ⟨b7, rfl, rfl⟩
  refine kPa rfl rfl ?_; refine p_chg rfl (ch_allocA Tryz.zeroValue30 rfl) .free rfl rfl ?_
  rintro _ _ ⟨b9, rfl, rfl⟩
  refine p_chg rfl (ch_allocA Tryz.zeroValue33 rfl) .free rfl rfl ?_
  rintro _ _ ⟨b10, rfl, rfl⟩
  refine kPa rfl rfl ?_; refine p_nil ?_; refine g_seq ?_; refine g_region ?_; refine kPv (ev_loadA Tryz.isAgg24 Tryz.sizeOf24 rfl rfl) rfl ?_; refine kPm rfl rfl ?_
  refine p_call rfl (en_f Tryz.call67 rfl) (filled_ok _ _ x0 x1 x2 hx c hcm hs hhs hlen q cap ((((((hv.cons _).cons _).cons _).cons _).cons _))) .free rfl rfl ?_ ?_
  rotate_left
  · rintro _ _ ⟨⟩
  rintro _ _ ⟨bd, pa, N, s0, sF, out, ov, sv, hfm, hN, ⟨hus0, hf0⟩, hfill, huF, hlF, hnF, hov, hsv, rfl, rfl⟩
  refine kPm rfl rfl ?_; refine kPv (ev_ext rfl rfl) rfl ?_; refine kPv (ev_ext rfl rfl) rfl ?_; refine kPv (ev_ext rfl rfl) rfl ?_; refine kPv (ev_ext rfl rfl) rfl ?_; refine p_chg rfl (ch_allocA Tryz.zeroValue30 rfl) .free rfl rfl ?_
  rintro _ _ ⟨b13, rfl, rfl⟩
  refine p_chg rfl (ch_allocA Tryz.zeroValue33 rfl) .free rfl rfl ?_
  rintro _ _ ⟨b14, rfl, rfl⟩
  refine p_chg rfl (ch_alloc1 Tryz.zeroValue34 rfl) .free rfl rfl ?_
  rintro _ _ ⟨b15, rfl, rfl⟩
  refine kPa rfl rfl ?_; refine p_chg0 rfl (ch_storeA (vs := _) Tryz.sizeOf30 rfl rfl rfl rfl rfl) .free rfl ?_
  rintro _ _ rfl
  refine p_chg0 rfl (ch_storeA (vs := [i64 (sF.block c).1.act, i64 (sF.block c).1.used, sv]) Tryz.sizeOf33 rfl rfl rfl (all3 hsv) rfl) .free rfl ?_
  rintro _ _ rfl
  refine p_chg0 rfl (ch_store Tryz.sizeOf34 rfl rfl hov rfl) .free rfl ?_
  rintro _ _ rfl
  refine go_front 5 rfl ?_
  simp only [List.eraseIdx_cons_succ, List.eraseIdx_cons_zero]
  refine go_vecq fun qo co hqe hqo => ?_
  subst hqe
  have hbk := block_w (s := sF) hc huF
  have hob : ∀ x ∈ out, 0 ≤ x ∧ x ≤ 20000 := fillN_b hc hs s0 sF [] out hus0 hfill (fun _ h => by cases h)
  have hol : out.length ≤ hs.length := by have := fillN_len hfill; simpa using this
  have hr1 := hc.r1
  have hr2 := hc.r2
  refine p_nil ?_; refine go_sub (σ' := [(12, _), (15, _), (14, _), (13, _), (11, _), (10, _), (9, _), (8, _), (7, _), (6, _)]) ⟨rfl, rfl, rfl, rfl, rfl, rfl, rfl, rfl, rfl, rfl, trivial⟩ ?_; refine g_seq ?_; refine g_seq ?_; refine g_region ?_; refine kPm rfl rfl ?_; refine kPv (ev_eqp Tryz.runUnderlying28 rfl rfl rfl) rfl ?_; refine p_nil ?_; refine g_iff rfl (rfl) ?_; refine g_skip ?_; refine g_seq ?_; refine g_region ?_; refine p_chg rfl (ch_alloc1 Tryz.zeroValue3 rfl) .free rfl rfl ?_
  rintro _ _ ⟨b16, rfl, rfl⟩
  refine p_chg0 rfl (ch_store Tryz.sizeOf3 rfl rfl rfl rfl) .free rfl ?_
  rintro _ _ rfl
  refine p_nil ?_; refine g_seq ?_; refine g_region ?_; refine kPv (ev_mkf rfl rfl) rfl ?_; refine kPa rfl rfl ?_; refine p_nil ?_; refine g_seq ?_; refine g_seq ?_; refine g_region ?_; refine kPv (ev_load Tryz.isAgg34 rfl rfl) rfl ?_; refine kPv (ev_len rfl Tryz.runUnderlying34 ⟨_, rfl⟩ rfl) rfl ?_; refine kPm rfl rfl ?_; refine p_nil ?_; refine g_block ?_
  refine g_loop (ι := Nat × Nat × Dev) (fun i => i.1 ≤ out.length ∧ i.2.1 ≤ 64 * i.1 ∧ U64 i.2.2 ∧ i.2.2.pow.lim < 0 ∧ i.2.2.n = N ∧ linkObjs c (sF.block c).1 (pickL l out sp) out 0 sF = linkObjs c (sF.block c).1 (pickL l out sp) (out.drop i.1) i.2.1 i.2.2) (fun i => [(8, .pointer none), (9, ptr b9), (10, ptr b10), (11, .slice none 0 0), (12, ptr bd), (13, ptr b13), (14, ptr b14), (15, ptr b15), (17, .func (.func 68) #[] #[ptr b16, ptr b6, ptr b15, ptr b7]), (37, .slice qo out.length co), (38, i64 out.length), (39, i64 i.1)]) (fun i => row b16 [i64 (i.2.1 : Nat)] 3 :: VecA 3 i64 0 (.slice qo out.length co, out) :: row b15 [.slice qo out.length co] 34 :: row b14 [i64 (sF.block c).1.act, i64 (sF.block c).1.used, sv] 33 :: row b13 [i64 c.log, i64 c.roots, i64 c.space] 30 :: VecU 0 (sv, (sF.block c).1.rts) :: DevA bd i.2.2 :: row b10 [i64 0, i64 0, .slice none 0 0] 33 :: row b9 [i64 0, i64 0, i64 0] 30 :: row b7 [u8 sp] 5 :: row b6 [.slice ql l.length cl] 26 :: row b4 [u16 x0, u16 x1, u16 x2] 24 :: Fr) (fun i => out.length - i.1) (0, 0, sF) ⟨Nat.zero_le _, Nat.zero_le _, huF, hlF, hnF, rfl⟩ (fun a w st => st.to ⟨rfl, rfl, rfl, rfl, rfl, rfl, rfl, rfl, rfl, rfl, rfl, rfl, trivial⟩ id) ?_
  rintro ⟨k, n, sL⟩ ⟨hk1, hn1, huL, hlL, hnL, hinv⟩
  simp only at hk1 hn1 huL hlL hnL hinv ⊢
  refine g_seq ?_; refine g_region ?_; refine kPv (ev_cmp rfl rfl rfl) rfl ?_; refine p_nil ?_; refine g_seq ?_
  refine g_if rfl (fun h40 => ?_) (fun h40 => ?_)
  · have hk : k < out.length := by simpa using h40
    have hak := hob _ (List.getElem_mem hk)
    obtain ⟨bQ, oQ, rfl⟩ := hqo k hk
    refine g_skip ?_; refine g_seq ?_; refine g_block ?_; refine g_seq ?_; refine g_region ?_; refine kPv (ev_iaS Tryz.runUnderlying34 Tryz.sizeOf3 rfl rfl (by omega) (by omega)) rfl ?_
    refine kPv (ev_loadS (v := i64 out[k]) Tryz.isAgg3 (vec_slr 1 rfl) rfl (by rw [Int.toNat_natCast, List.getElem?_map, List.getElem?_eq_getElem hk]; rfl)) rfl ?_
    refine kPa rfl rfl ?_; refine p_nil ?_; refine go_sub (σ' := [(19, _), (39, _), (38, _), (37, _), (17, _), (12, _), (15, _), (14, _), (13, _), (11, _), (10, _), (9, _), (8, _)]) ⟨rfl, rfl, rfl, rfl, rfl, rfl, rfl, rfl, rfl, rfl, rfl, rfl, rfl, trivial⟩ ?_; refine g_seq ?_; refine g_region ?_; refine kPm rfl rfl ?_; refine kPv (ev_loadA Tryz.isAgg30 Tryz.sizeOf30 rfl rfl) rfl ?_; refine kPv (ev_loadA Tryz.isAgg33 Tryz.sizeOf33 rfl rfl) rfl ?_; refine kPm rfl rfl ?_
    refine p_callq rfl (en_f Tryz.call51 rfl) (ro_at (q := DevA) (fun Fr => obj_ok _ Fr _ _ c hc _ _ hbk hsv out[k] (by omega))) .free rfl rfl ?_; refine kPm rfl rfl ?_; refine kPv (ev_ext rfl rfl) rfl ?_; refine kPv (ev_ext rfl rfl) rfl ?_; refine p_chg rfl (ch_allocA Tryz.zeroValue89 rfl) .free rfl rfl ?_
    rintro _ _ ⟨b20, rfl, rfl⟩
    refine p_chg0 rfl (ch_storeA (vs := _) Tryz.sizeOf89 rfl rfl rfl rfl rfl) .free rfl ?_
    rintro _ _ rfl
    refine kPa rfl rfl ?_; refine p_nil ?_; refine go_sub (σ' := [(21, _), (20, _), (39, _), (38, _), (37, _), (17, _), (12, _), (15, _), (14, _), (13, _), (11, _), (10, _), (9, _), (8, _)]) ⟨rfl, rfl, rfl, rfl, rfl, rfl, rfl, rfl, rfl, rfl, rfl, rfl, rfl, rfl, trivial⟩ ?_; refine g_seq ?_; refine g_seq ?_; refine g_region ?_; refine kPm rfl rfl ?_; refine kPv (ev_cmp rfl rfl rfl) rfl ?_; refine p_nil ?_
    refine g_if rfl (fun h52 => ?_) (fun h52 => ?_)
    · have hk2 : (sL.objOf c (sF.block c).1 out[k]).2 ≠ 0 := by simpa using h52
      refine g_seq ?_; refine g_drawv [0, 1, 2, 3, 4, 5] [3, 4] [1] [3] [row b14 [i64 (sF.block c).1.act, i64 (sF.block c).1.used, sv] 33] Tryz.mixed (by kernel_rfl) ?_; refine v_val rfl rfl rfl (ev_loadA Tryz.isAgg30 Tryz.sizeOf30 rfl rfl) .free rfl ?_; refine v_hoist rfl rfl rfl (ev_loadA Tryz.isAgg33 Tryz.sizeOf33 rfl rfl) .free rfl ?_; refine v_val rfl rfl rfl (ev_assign rfl) .free rfl ?_; refine v_mark rfl rfl ?_
      refine p_chg0 rfl (ch_storeA (vs := _) Tryz.sizeOf30 rfl rfl rfl rfl rfl) .free rfl ?_
      rintro _ _ rfl
      refine p_nil ?_; refine v_on ?_; refine v_mark rfl rfl ?_; refine p_chg0 rfl (ch_storeA (vs := [i64 (sF.block c).1.act, i64 (sF.block c).1.used, sv]) Tryz.sizeOf33 rfl rfl rfl (all3 hsv) rfl) .free rfl ?_
      rintro _ _ rfl
      refine p_nil ?_; refine v_off rfl ?_; refine v_val rfl rfl rfl (ev_assign rfl) .free rfl ?_; refine v_nil ?_; refine g_ret ?_
      exact ret_4 Tryz.results12 (.tmp rfl) (.cellA rfl Tryz.isAgg30 Tryz.sizeOf30 rfl rfl) (.cellA rfl Tryz.isAgg33 Tryz.sizeOf33 rfl rfl) (.tmp rfl) (fun w_ hh => ⟨_, ⟨bd, pa, N, s0, sF, out, hfm, hN, ⟨hus0, hf0⟩, hfill, .inr ⟨sL, by rw [hinv, List.drop_eq_getElem_cons hk]; rw [linkObjs_cons, if_pos hk2], rfl⟩⟩, hh.tail.tail.tail.tail.tail.tail.tail.tail.tail.tail.tail.tail.tail⟩)
    · have hk2 : (sL.objOf c (sF.block c).1 out[k]).2 = 0 := by simpa using h52
      have ho := objOf_w hc hbk hk2
      have ho1 := ho.w
      have ho2 := ho.r
      have ho3 := ho.at_
      refine g_skip ?_; refine g_seq ?_; refine g_region ?_; refine kPv (ev_fa (m := _) fa_89_0 rfl rfl) rfl ?_; refine kPv (ev_fa (m := _) fa_87_1 rfl rfl) rfl ?_; refine kPv (ev_load Tryz.isAgg3 rfl rfl) rfl ?_; refine kPm rfl rfl ?_; refine p_nil ?_; refine g_block ?_
      refine g_loop (ι := Nat × Nat × Dev) (fun i => (i.1 : Int) ≤ (sL.objOf c (sF.block c).1 out[k]).1.2.1 ∧ i.2.1 = n + i.1 ∧ U64 i.2.2 ∧ i.2.2.pow.lim < 0 ∧ i.2.2.n = N ∧ linkRefs (pickL l out sp) (sL.objOf c (sF.block c).1 out[k]).1 (sL.objOf c (sF.block c).1 out[k]).1.2.1.toNat n 0 sL = linkRefs (pickL l out sp) (sL.objOf c (sF.block c).1 out[k]).1 ((sL.objOf c (sF.block c).1 out[k]).1.2.1.toNat - i.1) i.2.1 i.1 i.2.2) (fun i => [(8, .pointer none), (9, ptr b9), (10, ptr b10), (11, .slice none 0 0), (12, ptr bd), (13, ptr b13), (14, ptr b14), (15, ptr b15), (17, .func (.func 68) #[] #[ptr b16, ptr b6, ptr b15, ptr b7]), (37, .slice (some ⟨bQ, oQ, none⟩) out.length co), (38, i64 out.length), (39, i64 k), (20, ptr b20), (57, i64 (sL.objOf c (sF.block c).1 out[k]).1.2.1), (58, i64 i.1)]) (fun i => row b20 [i64 (sL.objOf c (sF.block c).1 out[k]).1.1, i64 (sL.objOf c (sF.block c).1 out[k]).1.2.1, i64 (sL.objOf c (sF.block c).1 out[k]).1.2.2] 89 :: row b16 [i64 (i.2.1 : Nat)] 3 :: VecA 3 i64 0 (.slice (some ⟨bQ, oQ, none⟩) out.length co, out) :: row b15 [.slice (some ⟨bQ, oQ, none⟩) out.length co] 34 :: row b14 [i64 (sF.block c).1.act, i64 (sF.block c).1.used, sv] 33 :: row b13 [i64 c.log, i64 c.roots, i64 c.space] 30 :: VecU 0 (sv, (sF.block c).1.rts) :: DevA bd i.2.2 :: row b10 [i64 0, i64 0, .slice none 0 0] 33 :: row b9 [i64 0, i64 0, i64 0] 30 :: row b7 [u8 sp] 5 :: row b6 [.slice ql l.length cl] 26 :: row b4 [u16 x0, u16 x1, u16 x2] 24 :: Fr) (fun i => (sL.objOf c (sF.block c).1 out[k]).1.2.1.toNat - i.1) (0, n, sL) ⟨by simp only; omega, rfl, huL, hlL, hnL, rfl⟩ (fun a w st => st.to ⟨rfl, rfl, rfl, rfl, rfl, rfl, rfl, rfl, rfl, rfl, rfl, rfl, rfl, rfl, rfl, trivial⟩ id) ?_
      rintro ⟨j, nI, sI⟩ ⟨hj1, hnI, huI, hlI, hnI2, hinvI⟩
      simp only at hj1 hnI huI hlI hnI2 hinvI ⊢
      refine g_seq ?_; refine g_region ?_; refine kPv (ev_cmp rfl rfl rfl) rfl ?_; refine p_nil ?_; refine g_seq ?_
      refine g_if rfl (fun h59 => ?_) (fun h59 => ?_)
      · have hj : (j : Int) < (sL.objOf c (sF.block c).1 out[k]).1.2.1 := by simpa using h59
        refine g_skip ?_; refine g_seq ?_; refine g_block ?_; refine g_seq ?_; refine g_region ?_; refine kPm rfl rfl ?_; refine kPa rfl rfl ?_; refine p_nil ?_; refine go_sub (σ' := [(22, _), (58, _), (57, _), (20, _), (39, _), (38, _), (37, _), (17, _), (12, _), (15, _), (14, _), (13, _), (11, _), (10, _), (9, _), (8, _)]) ⟨rfl, rfl, rfl, rfl, rfl, rfl, rfl, rfl, rfl, rfl, rfl, rfl, rfl, rfl, rfl, rfl, trivial⟩ ?_
        refine g_drawv [0, 1, 2, 5, 6, 3, 4, 7] [3, 7] [0, 1, 5, 6] [3] [row b20 [i64 (sL.objOf c (sF.block c).1 out[k]).1.1, i64 (sL.objOf c (sF.block c).1 out[k]).1.2.1, i64 (sL.objOf c (sF.block c).1 out[k]).1.2.2] 89] Tryz.mixed (by kernel_rfl) ?_; refine v_hoist rfl rfl rfl (ev_loadA Tryz.isAgg89 Tryz.sizeOf89 rfl rfl) .free rfl ?_; refine v_hoist rfl rfl rfl (ev_move rfl) .free rfl ?_; refine v_val rfl rfl rfl (ev_move rfl) .free rfl ?_; refine v_hoist rfl rfl rfl (ev_move rfl) .free rfl ?_
        refine v_hoist rfl rfl rfl (ev_mkf rfl rfl) .free rfl ?_; refine v_mark rfl rfl ?_
        refine go_conv (H' := row b16 [i64 (nI : Nat)] 3 :: row b6 [.slice ql l.length cl] 26 :: row b15 [.slice (some ⟨bQ, oQ, none⟩) out.length co] 34 :: row b7 [u8 sp] 5 :: row b20 [i64 (sL.objOf c (sF.block c).1 out[k]).1.1, i64 (sL.objOf c (sF.block c).1 out[k]).1.2.1, i64 (sL.objOf c (sF.block c).1 out[k]).1.2.2] 89 :: VecA 3 i64 0 (.slice (some ⟨bQ, oQ, none⟩) out.length co, out) :: row b14 [i64 (sF.block c).1.act, i64 (sF.block c).1.used, sv] 33 :: row b13 [i64 c.log, i64 c.roots, i64 c.space] 30 :: VecU 0 (sv, (sF.block c).1.rts) :: DevA bd sI :: row b10 [i64 0, i64 0, .slice none 0 0] 33 :: row b9 [i64 0, i64 0, i64 0] 30 :: row b4 [u16 x0, u16 x1, u16 x2] 24 :: Fr) (fun w hh => (hh.pk [1, 10, 2, 8])) ?_
        refine p_call rfl (en_c Tryz.call68 rfl rfl) (lclos_ok B _ b16 b6 b15 b7 nI ql (some ⟨bQ, oQ, none⟩) cl co l out sp (by omega) ((((((((((hl.cons _).cons _).cons _).cons _).cons _).cons _).cons _).cons _).cons _)) (vec_slr 1 rfl) hlb hob ⟨by omega, by omega⟩ hsp hql hqo) .free rfl rfl ?_ ?_
        rotate_left
        · rintro _ _ ⟨⟩
        rintro _ _ ⟨rfl, rfl⟩
        refine p_nil ?_; refine v_on ?_
        have hpk := pickL_b (l := l) (sp := sp) (k := nI) hob
        refine v_val rfl rfl rfl (ev_conv Tryz.runUnderlying52 Tryz.runUnderlying3 rfl (wr64 (by omega))) .free rfl ?_; refine v_mark rfl rfl ?_; refine go_pull DevA bd ?_
        refine p_call rfl (en_f Tryz.call69 rfl) (opointD_ok _ _ bd (sL.objOf c (sF.block c).1 out[k]).1 ho _ ((pickL l out sp) nI) (by have := pickL_b (l := l) (sp := sp) (k := nI) hob; omega) sI hlI huI) .free rfl rfl ?_ ?_
        rotate_left
        · rintro _ _ ⟨⟩
        rintro _ _ ⟨x2, s2, hm2, rfl, hl2, hn2, hu2, rfl⟩
        refine p_nil ?_; refine v_off rfl ?_; refine v_nil ?_; refine go_sub (σ' := [(58, _), (57, _), (20, _), (39, _), (38, _), (37, _), (17, _), (12, _), (15, _), (14, _), (13, _), (11, _), (10, _), (9, _), (8, _)]) ⟨rfl, rfl, rfl, rfl, rfl, rfl, rfl, rfl, rfl, rfl, rfl, rfl, rfl, rfl, rfl, trivial⟩ ?_; refine g_region ?_
        first | refine p_val rfl (ev_add rfl rfl (wr64 (by omega))) .free rfl rfl ?_ | refine p_val rfl (ev_add rfl rfl rfl) .free rfl rfl ?_
        refine kPm rfl rfl ?_; refine p_nil ?_
        exact fun a w st => ⟨(j + 1, nI + 1, s2), ⟨by simp only; omega, by simp only; omega, hu2, hl2, hn2.trans hnI2, by
          rw [hinvI, show (sL.objOf c (sF.block c).1 out[k]).1.2.1.toNat - j = ((sL.objOf c (sF.block c).1 out[k]).1.2.1.toNat - (j + 1)) + 1 by omega]
          show (setM devOp (sL.objOf c (sF.block c).1 out[k]).1 j true ((pickL l out sp) nI) sI ()).then _ = _
          rw [hm2]
          push_cast
          rfl⟩, by simp only; omega, st.to ⟨rfl, rfl, rfl, rfl, rfl, rfl, rfl, rfl, rfl, rfl, rfl, rfl, rfl, rfl, rfl, trivial⟩ (fun hh => (hh.pk [5, 1, 4, 2, 3, 3, 3, 0, 2, 2, 1]))⟩
      · have hj : ¬ (j : Int) < (sL.objOf c (sF.block c).1 out[k]).1.2.1 := by simpa using h59
        refine g_exit ?_; refine g_region ?_
        first | refine p_val rfl (ev_add rfl rfl (wr64 (by omega))) .free rfl rfl ?_ | refine p_val rfl (ev_add rfl rfl rfl) .free rfl rfl ?_
        refine kPm rfl rfl ?_; refine p_nil ?_; refine go_sub (σ' := [(39, _), (38, _), (37, _), (17, _), (12, _), (15, _), (14, _), (13, _), (11, _), (10, _), (9, _), (8, _)]) ⟨rfl, rfl, rfl, rfl, rfl, rfl, rfl, rfl, rfl, rfl, rfl, rfl, trivial⟩ ?_
        exact fun a w st => ⟨(k + 1, nI, sI), ⟨by simp only; omega, by simp only; omega, huI, hlI, hnI2, by
          rw [hinv, List.drop_eq_getElem_cons hk]
          rw [linkObjs_cons, if_neg (by omega), hinvI, show (sL.objOf c (sF.block c).1 out[k]).1.2.1.toNat - j = 0 by omega]
          rfl⟩, by simp only; omega, st.to ⟨rfl, rfl, rfl, rfl, rfl, rfl, rfl, rfl, rfl, rfl, rfl, rfl, trivial⟩ (fun hh => hh.tail)⟩
  · have hk : ¬ k < out.length := by simpa using h40
    refine g_exit ?_; refine g_seq ?_; refine g_seq ?_; refine g_region ?_; refine kPv (ev_fa (m := _) fa_30_1 rfl rfl) rfl ?_; refine kPv (ev_load Tryz.isAgg3 rfl rfl) rfl ?_; refine kPm rfl rfl ?_; refine p_nil ?_; refine go_sub (σ' := [(73, _), (72, _), (17, _), (12, _), (15, _), (14, _), (13, _), (11, _), (10, _), (9, _), (8, _)]) ⟨rfl, rfl, rfl, rfl, rfl, rfl, rfl, rfl, rfl, rfl, rfl, trivial⟩ ?_; refine g_block ?_
    refine g_loop (ι := Nat × Nat × Dev) (fun i => (i.1 : Int) ≤ c.roots ∧ i.2.1 = n + i.1 ∧ U64 i.2.2 ∧ i.2.2.pow.lim < 0 ∧ i.2.2.n = N ∧ linkRoots c (pickL l out sp) c.roots.toNat n 0 sL = linkRoots c (pickL l out sp) (c.roots.toNat - i.1) i.2.1 i.1 i.2.2) (fun i => [(8, .pointer none), (9, ptr b9), (10, ptr b10), (11, .slice none 0 0), (12, ptr bd), (13, ptr b13), (14, ptr b14), (15, ptr b15), (17, .func (.func 68) #[] #[ptr b16, ptr b6, ptr b15, ptr b7]), (72, i64 c.roots), (73, i64 i.1)]) (fun i => row b16 [i64 (i.2.1 : Nat)] 3 :: VecA 3 i64 0 (.slice qo out.length co, out) :: row b15 [.slice qo out.length co] 34 :: row b14 [i64 (sF.block c).1.act, i64 (sF.block c).1.used, sv] 33 :: row b13 [i64 c.log, i64 c.roots, i64 c.space] 30 :: VecU 0 (sv, (sF.block c).1.rts) :: DevA bd i.2.2 :: row b10 [i64 0, i64 0, .slice none 0 0] 33 :: row b9 [i64 0, i64 0, i64 0] 30 :: row b7 [u8 sp] 5 :: row b6 [.slice ql l.length cl] 26 :: row b4 [u16 x0, u16 x1, u16 x2] 24 :: Fr) (fun i => c.roots.toNat - i.1) (0, n, sL) ⟨by simp only; omega, rfl, huL, hlL, hnL, rfl⟩ (fun a w st => st.to ⟨rfl, rfl, rfl, rfl, rfl, rfl, rfl, rfl, rfl, rfl, rfl, trivial⟩ id) ?_
    rintro ⟨i, nJ, sJ⟩ ⟨hi1, hnJ, huJ, hlJ, hnJ2, hinvJ⟩
    simp only at hi1 hnJ huJ hlJ hnJ2 hinvJ ⊢
    refine g_seq ?_; refine g_region ?_; refine kPv (ev_cmp rfl rfl rfl) rfl ?_; refine p_nil ?_; refine g_seq ?_
    refine g_if rfl (fun h74 => ?_) (fun h74 => ?_)
    · have hi : (i : Int) < c.roots := by simpa using h74
      refine g_skip ?_; refine g_seq ?_; refine g_block ?_; refine g_seq ?_; refine g_region ?_; refine kPm rfl rfl ?_; refine kPa rfl rfl ?_; refine p_nil ?_; refine g_region ?_; refine kPm rfl rfl ?_; refine kPv (ev_loadA Tryz.isAgg30 Tryz.sizeOf30 rfl rfl) rfl ?_; refine kPm rfl rfl ?_; refine p_callq rfl (en_f Tryz.call71 rfl) (root_ok _ _ c hc _ (by omega) (by omega)) .free rfl rfl ?_; refine kPm rfl rfl ?_
      refine go_conv (H' := row b16 [i64 (nJ : Nat)] 3 :: row b6 [.slice ql l.length cl] 26 :: row b15 [.slice qo out.length co] 34 :: row b7 [u8 sp] 5 :: VecA 3 i64 0 (.slice qo out.length co, out) :: row b14 [i64 (sF.block c).1.act, i64 (sF.block c).1.used, sv] 33 :: row b13 [i64 c.log, i64 c.roots, i64 c.space] 30 :: VecU 0 (sv, (sF.block c).1.rts) :: DevA bd sJ :: row b10 [i64 0, i64 0, .slice none 0 0] 33 :: row b9 [i64 0, i64 0, i64 0] 30 :: row b4 [u16 x0, u16 x1, u16 x2] 24 :: Fr) (fun w hh => (hh.pk [0, 9, 1, 7])) ?_
      refine p_call rfl (en_c Tryz.call68 rfl rfl) (lclos_ok B _ b16 b6 b15 b7 nJ ql qo cl co l out sp (by omega) (((((((((hl.cons _).cons _).cons _).cons _).cons _).cons _).cons _).cons _)) (vec_slr 0 rfl) hlb hob ⟨by omega, by omega⟩ hsp hql hqo) .free rfl rfl ?_ ?_
      rotate_left
      · rintro _ _ ⟨⟩
      rintro _ _ ⟨rfl, rfl⟩
      refine go_pull DevA bd ?_
      refine p_call rfl (en_f Tryz.call70 rfl) (nstoreL_ok _ _ _ _ _ (pickL l out sp nJ) hlJ huJ (by have := pickL_b (l := l) (sp := sp) (k := nJ) hob; omega)) .free rfl rfl ?_ ?_
      rotate_left
      · rintro _ _ ⟨⟩
      rintro _ _ ⟨x3, s3, hm3, rfl, hl3, hn3, hu3, rfl⟩
      refine p_nil ?_; refine go_sub (σ' := [(73, _), (72, _), (17, _), (12, _), (15, _), (14, _), (13, _), (11, _), (10, _), (9, _), (8, _)]) ⟨rfl, rfl, rfl, rfl, rfl, rfl, rfl, rfl, rfl, rfl, rfl, trivial⟩ ?_; refine g_region ?_
      first | refine p_val rfl (ev_add rfl rfl (wr64 (by omega))) .free rfl rfl ?_ | refine p_val rfl (ev_add rfl rfl rfl) .free rfl rfl ?_
      refine kPm rfl rfl ?_; refine p_nil ?_
      exact fun a w st => ⟨(i + 1, nJ + 1, s3), ⟨by simp only; omega, by simp only; omega, hu3, hl3, hn3.trans hnJ2, by
        rw [hinvJ, show c.roots.toNat - i = (c.roots.toNat - (i + 1)) + 1 by omega]
        show (sJ.store (c.root i) ((pickL l out sp) nJ)).then _ = _
        rw [hm3]
        push_cast
        rfl⟩, by simp only; omega, st.to ⟨rfl, rfl, rfl, rfl, rfl, rfl, rfl, rfl, rfl, rfl, rfl, trivial⟩ (fun hh => (hh.pk [1, 4, 2, 3, 3, 3, 0, 2, 2, 1]))⟩
    · have hi : ¬ (i : Int) < c.roots := by simpa using h74
      refine g_exit ?_; refine g_seq ?_; refine g_region ?_; refine kPm rfl rfl ?_; refine kPv (ev_loadA Tryz.isAgg30 Tryz.sizeOf30 rfl rfl) rfl ?_; refine go_pull DevA bd ?_
      refine p_call rfl (en_f Tryz.call15 rfl) (rread_ok _ _ _ _ c hc huJ) .free rfl rfl ?_ ?_
      rotate_left
      · rintro _ _ ⟨⟩
      rintro _ _ ⟨sv2, hsv2, rfl, rfl⟩
      refine kPm rfl rfl ?_; refine kPv (ev_ext rfl rfl) rfl ?_; refine kPv (ev_ext rfl rfl) rfl ?_; refine p_chg0 rfl (ch_storeA (vs := [i64 (sJ.block c).1.act, i64 (sJ.block c).1.used, sv2]) Tryz.sizeOf33 rfl rfl rfl (all3 hsv2) rfl) .free rfl ?_
      rintro _ _ rfl
      refine go_conv (H' := VecU 0 (sv2, (sJ.block c).1.rts) :: DevA bd sJ :: row b16 [i64 (nJ : Nat)] 3 :: VecA 3 i64 0 (.slice qo out.length co, out) :: row b15 [.slice qo out.length co] 34 :: row b14 [i64 (sJ.block c).1.act, i64 (sJ.block c).1.used, sv2] 33 :: row b13 [i64 c.log, i64 c.roots, i64 c.space] 30 :: VecU 0 (sv, (sF.block c).1.rts) :: row b10 [i64 0, i64 0, .slice none 0 0] 33 :: row b9 [i64 0, i64 0, i64 0] 30 :: row b7 [u8 sp] 5 :: row b6 [.slice ql l.length cl] 26 :: row b4 [u16 x0, u16 x1, u16 x2] 24 :: Fr) (fun w hh => hh) ?_
      refine p_nil ?_; refine go_sub (σ' := [(12, _), (15, _), (14, _), (13, _), (11, _), (10, _), (9, _), (8, _)]) ⟨rfl, rfl, rfl, rfl, rfl, rfl, rfl, rfl, trivial⟩ ?_; refine g_seq ?_; refine g_drawv [0, 1, 2, 3, 4, 5, 6, 7] [5, 6] [2, 3] [5, 6] [row b14 [i64 (sJ.block c).1.act, i64 (sJ.block c).1.used, sv2] 33, row b15 [.slice qo out.length co] 34] Tryz.mixed (by kernel_rfl) ?_; refine v_val rfl rfl rfl (ev_move rfl) .free rfl ?_
      refine v_val rfl rfl rfl (ev_loadA Tryz.isAgg30 Tryz.sizeOf30 rfl rfl) .free rfl ?_; refine v_hoist rfl rfl rfl (ev_loadA Tryz.isAgg33 Tryz.sizeOf33 rfl rfl) .free rfl ?_; refine v_hoist rfl rfl rfl (ev_load Tryz.isAgg34 rfl rfl) .free rfl ?_; refine v_val rfl rfl rfl (ev_assign rfl) .free rfl ?_; refine v_mark rfl rfl ?_; refine p_chg0 rfl (ch_storeA (vs := _) Tryz.sizeOf30 rfl rfl rfl rfl rfl) .free rfl ?_
      rintro _ _ rfl
      refine p_nil ?_; refine v_on ?_; refine v_mark rfl rfl ?_; refine p_chg0 rfl (ch_storeA (vs := [i64 (sJ.block c).1.act, i64 (sJ.block c).1.used, sv2]) Tryz.sizeOf33 rfl rfl rfl (all3 hsv2) rfl) .free rfl ?_
      rintro _ _ rfl
      refine p_nil ?_; refine v_on ?_; refine v_val rfl rfl rfl (ev_assign rfl) .free rfl ?_; refine v_nil ?_; refine go_sub (σ' := [(11, _), (8, _), (10, _), (9, _)]) ⟨rfl, rfl, rfl, rfl, trivial⟩ ?_; refine g_ret ?_
      exact ret_4 Tryz.results12 (.tmp rfl) (.cellA rfl Tryz.isAgg30 Tryz.sizeOf30 rfl rfl) (.cellA rfl Tryz.isAgg33 Tryz.sizeOf33 rfl rfl) (.tmp rfl) (fun w_ hh => ⟨_, ⟨bd, pa, N, s0, sF, out, hfm, hN, ⟨hus0, hf0⟩, hfill, .inl ⟨n, nJ, sL, sJ, _, sv2, by rw [hinv, List.drop_eq_nil_of_le (by omega)]; rfl, by rw [hinvJ, show c.roots.toNat - i = 0 by omega]; rfl, huJ, hlJ, hnJ2, rfl, hsv2, rfl, rfl⟩⟩, (hh.dp [2, 3, 3, 3, 3, 3, 3, 3, 3, 3])⟩)
end Go.Proofs.YtbfheafpecgphaaGreat
