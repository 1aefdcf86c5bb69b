/- Devices with objects: what Filled makes. Conditions: none. -/
import Derived.Test.YtbfheafpecgphaaGreatRwr
import Derived.Test.YtbfheafpecgphaaGreatHlp
set_option linter.unusedSimpArgs false
set_option linter.unusedVariables false
set_option linter.unnecessarySimpa false
set_option linter.unusedSectionVars false
namespace Go.Proofs.YtbfheafpecgphaaGreat
set_option linter.unusedSimpArgs false
set_option linter.unusedVariables false
open Go
abbrev devOp (i v : Int) (s : Dev) (_ : Unit) : Out (Int × Unit) := (s.store i v).then fun a s' => .ok (a, ()) s'
theorem good_op {s : Dev} {i v : Int} (h : s.pow.lim < 0) : Good (devOp i v s ()) (fun _ => True) s.n :=
  good_then (good_store h) fun _ s1 _ h1 e1 => ⟨_, _, rfl, trivial, h1, e1⟩
theorem good_fill {a h : Int} : ∀ (f : Nat) (i : Int) (s : Dev), s.pow.lim < 0 → Good (fillM devOp a h f i s ()) (fun _ => True) s.n
  | 0, _, s, h1 => ⟨_, _, rfl, trivial, h1, rfl⟩
  | f + 1, i, s, h1 => by
    unfold fillM
    refine good_then (good_op h1) fun x s1 _ h2 e2 => ?_
    split
    · exact ⟨_, _, rfl, trivial, h2, e2⟩
    · exact e2 ▸ good_fill f (i + 1) s1 h2
theorem good_alloc {c : Cfg} {w r : Int} {s : Dev} (h1 : s.pow.lim < 0) : Good (allocM devOp c w r s ()) (fun _ => True) s.n := by
  unfold allocM
  split
  · exact ⟨_, _, rfl, trivial, h1, rfl⟩
  split
  · exact ⟨_, _, rfl, trivial, h1, rfl⟩
  split
  · exact ⟨_, _, rfl, trivial, h1, rfl⟩
  refine good_then (good_op h1) fun x s1 _ h2 e2 => ?_
  split
  · exact ⟨_, _, rfl, trivial, h2, e2⟩
  · exact e2 ▸ good_fill _ _ s1 h2
theorem allocD_ok (B : World) (Fr : List HP) (bd : Nat) (c : Cfg) (hc : CfgW c) (w r : Int) (s : Dev) (hl : s.pow.lim < 0) (hu : U64 s) :
    ∀ w_, Holds B (DevA bd s :: Fr) w_ → Calls Tryz.prog 102 [ptr bd, cfgV c, .agg #[i64 w, i64 r], .func (.func 70) [ptr bd].toArray #[]].toArray w_ (Ret B (fun rv H' => ∃ x s', allocM devOp c w r s () = .ok (x, ()) s' ∧ rv = .tuple #[i64 x.1, i64 x.2] ∧ s'.pow.lim < 0 ∧ s'.n = s.n ∧ U64 s' ∧ H' = DevA bd s' :: Fr) (fun _ _ => False)) := fun w_ hh => by
  obtain ⟨y, s2, hg, _, hg2, hg3⟩ := good_alloc (c := c) (w := w) (r := r) hl
  refine (alloc_ok B Fr _ [ptr bd] bd 0 Unit (fun _ _ => pr True) devOp _ (storeD B bd 0) c hc w r s () hu w_ ((hh.unpr (p := True) trivial).back 1 (by simp))).mono fun en w' h => ?_
  cases en with
  | returned rv =>
    obtain ⟨H, ⟨x, e', s', hm, rfl, hok, rfl⟩, hh⟩ := h
    obtain ⟨rfl, rfl⟩ : y = (x, e') ∧ s2 = s' := by rw [hg] at hm; cases hm; exact ⟨rfl, rfl⟩
    exact ⟨_, ⟨x, s2, hm, rfl, hg2, hg3, hok, rfl⟩, (hh.front 1 rfl).tail⟩
  | panicked c =>
    obtain ⟨H, ⟨s', hm, _⟩, _⟩ := h
    rw [hg] at hm; cases hm
  | outgrown => exact h
theorem zeroN_u64 (f : Int → Int) : ∀ (k : Nat) (i : Int) (s s' : Dev) (a : Unit), U64 s → zeroN f k i s = .ok a s' → U64 s'
  | 0, _, s, s', a, h, e => by cases e; exact h
  | k + 1, i, s, s', a, h, e => by
    rw [zeroN_add] at e
    obtain ⟨_, s1, e1, e⟩ := then_inv e
    obtain ⟨_, s2, e2, e⟩ := then_inv e
    exact zeroN_u64 f k _ s2 s' a (flush_u64 (store_u64 h (by decide) e1).1 e2).1 e
theorem format_u64 {s s' : Dev} {c : Cfg} {a : Int} (h : U64 s) (hc : CfgW c) (e : s.format c = .ok a s') : U64 s' := by
  have := hc.r1; have := hc.r2; have := hc.l1; have := hc.l2; have := hc.s1; have := hc.s2
  unfold Dev.format at e
  split at e
  · cases e; exact h
  obtain ⟨_, s1, e1, e⟩ := then_inv e
  obtain ⟨_, s2, e2, e⟩ := then_inv e
  obtain ⟨_, s3, e3, e⟩ := then_inv e
  have h3 := (fence_u64 (flush_u64 (store_u64 h (by decide) e1).1 e2).1 e3).1
  obtain ⟨_, s4, e4, e⟩ := then_inv e
  simp only [st3] at e4
  obtain ⟨_, t1, f1, e4⟩ := then_inv e4
  obtain ⟨_, t2, f2, e4⟩ := then_inv e4
  obtain ⟨_, t3, f3, e4⟩ := then_inv e4
  have g1 := (store_u64 h3 (show 0 ≤ c.log ∧ c.log < _ by omega) f1).1
  have g2 := (store_u64 g1 (show 0 ≤ c.roots ∧ c.roots < _ by omega) f2).1
  have g3 := (store_u64 g2 (show 0 ≤ c.space ∧ c.space < _ by omega) f3).1
  cases e4
  obtain ⟨_, s5, e5, e⟩ := then_inv e
  obtain ⟨_, s6, e6, e⟩ := then_inv e
  obtain ⟨_, s7, e7, e⟩ := then_inv e
  obtain ⟨_, s8, e8, e⟩ := then_inv e
  have h8 := zeroN_u64 _ _ _ _ _ _ (zeroN_u64 _ _ _ _ _ _ (flush_u64 (store_u64 g3 (by decide) e5).1 e6).1 e7) e8
  obtain ⟨_, s9, e9, e⟩ := then_inv e
  obtain ⟨_, s10, e10, e⟩ := then_inv e
  have h10 := (fence_u64 (flush_u64 h8 e9).1 e10).1
  obtain ⟨_, s11, e11, e⟩ := then_inv e
  obtain ⟨_, s12, e12, e⟩ := then_inv e
  obtain ⟨_, s13, e13, e⟩ := then_inv e
  have h13 := (fence_u64 (flush_u64 (store_u64 h10 (by decide) e11).1 e12).1 e13).1
  cases e; exact h13
theorem dev0_u64 (pa N : Nat) : U64 (dev0 pa [] N) := fun x => by
  show 0 ≤ (tab N (oldW [])).getD x 0 ∧ (tab N (oldW [])).getD x 0 < _
  rw [List.getD_eq_getElem?_getD]
  unfold tab
  by_cases h : x < N
  · simp [h, oldW]
  · simp [h]
abbrev u8 (x : Int) : Value := .int .u8 x
/-- A head that an H makes. -/
def mkH (h : Int × Int) : Int × Int := (h.2 % 9, h.1 % (h.2 % 9 + 1))
/-- Objects made, one behind the other; where those are that were made. -/
def fillN (c : Cfg) : List (Int × Int) → Dev → List Int → Out (List Int)
  | [], s, acc => .ok acc s
  | h :: t, s, acc => (allocM devOp c (mkH h).1 (mkH h).2 s ()).then fun x s' => fillN c t s' (if x.1.2 = 0 then acc ++ [x.1.1] else acc)

theorem hmake_ok (B : World) (H : List HP) (h : Int × Int) (h0 : 0 ≤ h.1 ∧ h.1 < 256) (h1 : 0 ≤ h.2 ∧ h.2 < 256) :
    ∀ w, Holds B H w → Calls Tryz.prog 103 [.agg #[u8 h.1, u8 h.2]].toArray w (PureR B H (.agg #[i64 (mkH h).1, i64 (mkH h).2])) := by
  refine fn_enter Tryz.func103 rfl Tryz.ntmps103 rfl ?_; refine g_seq ?_; refine g_region ?_; refine p_chg rfl (ch_boxA rfl) .free rfl rfl ?_
  rintro _ _ ⟨b1, rfl, rfl⟩
  refine p_chg rfl (ch_allocA Tryz.zeroValue87 rfl) .free rfl rfl ?_
  rintro _ _ ⟨b2, rfl, rfl⟩
  refine p_nil ?_; refine g_seq ?_; refine g_region ?_; refine kPv (ev_fa (m := _) fa_107_1 rfl rfl) rfl ?_; refine kPv (ev_load Tryz.isAgg5 rfl rfl) rfl ?_; refine kPv (ev_rem (c := h.2 % 9) rfl rfl (by decide) (rem_e 9 (by omega))) rfl ?_
  first | refine p_val rfl (ev_conv Tryz.runUnderlying5 Tryz.runUnderlying3 rfl (wr64 (by omega))) .free rfl rfl ?_ | refine p_val rfl (ev_conv Tryz.runUnderlying5 Tryz.runUnderlying3 rfl rfl) .free rfl rfl ?_
  refine kPa rfl rfl ?_; refine p_nil ?_; refine g_seq ?_; refine g_region ?_; refine kPm rfl rfl ?_; refine kPv (ev_fa (m := _) fa_107_0 rfl rfl) rfl ?_; refine kPv (ev_load Tryz.isAgg5 rfl rfl) rfl ?_
  first | refine p_val rfl (ev_conv Tryz.runUnderlying5 Tryz.runUnderlying3 rfl (wr64 (by omega))) .free rfl rfl ?_ | refine p_val rfl (ev_conv Tryz.runUnderlying5 Tryz.runUnderlying3 rfl rfl) .free rfl rfl ?_
  refine kPm rfl rfl ?_
  first | refine p_val rfl (ev_add rfl rfl (wr64 (by omega))) .free rfl rfl ?_ | refine p_val rfl (ev_add rfl rfl rfl) .free rfl rfl ?_
  refine kPv (ev_rem (c := h.1 % (h.2 % 9 + 1)) rfl rfl (by omega) (rem_e _ (by omega))) rfl ?_; refine kPv (ev_build rfl (bld_87_0_1 _ _ rfl rfl)) rfl ?_; refine p_chg0 rfl (ch_storeA (vs := _) Tryz.sizeOf87 rfl rfl rfl rfl rfl) .free rfl ?_
  rintro _ _ rfl
  refine p_nil ?_; refine go_sub (σ' := [(2, _)]) ⟨rfl, trivial⟩ ?_; refine g_ret ?_
  exact ret_1 Tryz.results103 (.cellA rfl Tryz.isAgg87 Tryz.sizeOf87 rfl rfl) (fun w hw => ⟨rfl, hw.tail.tail⟩)

theorem filled_ok (B : World) (Fr : List HP) (x0 x1 x2 : Int) (hx : 0 ≤ x0 ∧ 0 ≤ x1 ∧ 0 ≤ x2) (c : Cfg) (hcm : c = mkC x0 x1 x2) (hs : List (Int × Int)) (hhs : ∀ h ∈ hs, (0 ≤ h.1 ∧ h.1 < 256) ∧ (0 ≤ h.2 ∧ h.2 < 256)) (hlen : hs.length ≤ 100000) (q : Option Addr) (cap : Nat) (hv : SlN B Fr (.slice q hs.length cap) 2 (hs.map fun h => [u8 h.1, u8 h.2])) :
    ∀ w_, Holds B Fr w_ → Calls Tryz.prog 67 [.agg #[u16 x0, u16 x1, u16 x2], .slice q hs.length cap].toArray w_ (Ret B (fun rv H' => ∃ (bd pa N : Nat) (s0 s' : Dev) (out : List Int) (ov sv : Value), Fmt c N s0 ∧ (N : Int) = c.words ∧ (U64 s0 ∧ (dev0 pa [] N).format c = .ok 0 s0) ∧ fillN c hs s0 [] = .ok out s' ∧ U64 s' ∧ s'.pow.lim < 0 ∧ s'.n = N ∧ cell1 ov = true ∧ cell1 sv = true ∧ rv = .tuple #[ptr bd, cfgV c, blkV (s'.block c).1 sv, ov] ∧ H' = VecU 0 (sv, (s'.block c).1.rts) :: DevA bd s' :: VecA 3 i64 0 (ov, out) :: Fr) (fun _ _ => False)) := by
  refine fn_enter Tryz.func67 rfl Tryz.ntmps67 rfl ?_
  have hc : CfgW c := by rw [hcm]; exact mkC_w hx.1 hx.2.1 hx.2.2
  refine g_seq ?_; refine g_region ?_; refine p_chg rfl (ch_boxA rfl) .free rfl rfl ?_
  rintro _ _ ⟨b2, rfl, rfl⟩
  refine kPa rfl rfl ?_; refine p_chg rfl (ch_allocA Tryz.zeroValue30 rfl) .free rfl rfl ?_
  rintro _ _ ⟨b5, rfl, rfl⟩
  refine p_chg rfl (ch_allocA Tryz.zeroValue33 rfl) .free rfl rfl ?_
  rintro _ _ ⟨b6, rfl, rfl⟩
  refine kPa rfl rfl ?_; refine p_nil ?_; refine g_seq ?_; refine g_region ?_; refine kPv (ev_loadA Tryz.isAgg24 Tryz.sizeOf24 rfl rfl) rfl ?_; refine p_callq rfl (en_f Tryz.call100 rfl) (make_okc _ _ x0 x1 x2 c hcm hx.1 hx.2.1 hx.2.2) .free rfl rfl ?_; refine p_chg rfl (ch_allocA Tryz.zeroValue30 rfl) .free rfl rfl ?_
  rintro _ _ ⟨b8, rfl, rfl⟩
  refine p_chg0 rfl (ch_storeA (vs := _) Tryz.sizeOf30 rfl rfl rfl rfl rfl) .free rfl ?_
  rintro _ _ rfl
  refine p_nil ?_; refine g_seq ?_; refine g_region ?_; refine kPv (ev_loadA Tryz.isAgg30 Tryz.sizeOf30 rfl rfl) rfl ?_
  refine p_call rfl (en_f Tryz.call101 rfl) (formatted_ok _ _ c hc none 0 [] (by decide) (fun _ h => absurd h (Nat.not_lt_zero _)) SlR.nil) .free rfl rfl ?_ ?_
  rotate_left
  · rintro _ _ ⟨⟩
  rintro _ _ ⟨bd, pa, N, s0, hN, hf, rfl, rfl⟩
  have hfm := fmt_of hc hN hf
  have hu0 := format_u64 (dev0_u64 pa N) hc hf
  refine kPm rfl rfl ?_; refine kPv (ev_ext rfl rfl) rfl ?_; refine kPv (ev_ext rfl rfl) rfl ?_; refine kPa rfl rfl ?_; refine kPa rfl rfl ?_; refine p_nil ?_; refine go_sub (σ' := [(10, _), (9, _), (8, _), (7, _), (6, _), (5, _), (4, _), (1, _)]) ⟨rfl, rfl, rfl, rfl, rfl, rfl, rfl, rfl, trivial⟩ ?_; refine g_seq ?_; refine g_seq ?_; refine g_region ?_; refine kPm rfl rfl ?_; refine kPv (ev_not rfl) rfl ?_; refine p_nil ?_; refine g_iff rfl (rfl) ?_; refine g_skip ?_; refine g_seq ?_
  refine g_region ?_; refine kPa rfl rfl ?_; refine p_nil ?_; refine g_seq ?_; refine g_seq ?_; refine g_region ?_; refine kPm rfl rfl ?_; refine kPv (ev_len rfl Tryz.runUnderlying25 ⟨_, rfl⟩ rfl) rfl ?_; refine kPm rfl rfl ?_; refine p_nil ?_; refine g_block ?_
  refine g_loop (ι := Nat × Dev × Value × List Int) (fun i => i.1 ≤ hs.length ∧ U64 i.2.1 ∧ i.2.1.pow.lim < 0 ∧ i.2.1.n = N ∧ cell1 i.2.2.1 = true ∧ i.2.2.2.length ≤ i.1 ∧ fillN c hs s0 [] = fillN c (hs.drop i.1) i.2.1 i.2.2.2) (fun i => [(4, .pointer none), (5, ptr b5), (6, ptr b6), (7, .slice none 0 0), (8, ptr b8), (9, ptr bd), (11, i.2.2.1), (29, .slice q hs.length cap), (30, i64 hs.length), (31, i64 i.1)]) (fun i => DevA bd i.2.1 :: VecA 3 i64 0 (i.2.2.1, i.2.2.2) :: row b8 [i64 c.log, i64 c.roots, i64 c.space] 30 :: row b6 [i64 0, i64 0, .slice none 0 0] 33 :: row b5 [i64 0, i64 0, i64 0] 30 :: row b2 [u16 x0, u16 x1, u16 x2] 24 :: Fr) (fun i => hs.length - i.1) (0, s0, .slice none 0 0, []) ⟨Nat.zero_le _, hu0, hfm.lim, hfm.n, rfl, Nat.le_refl _, rfl⟩ (fun a w st => st.to ⟨rfl, rfl, rfl, rfl, rfl, rfl, rfl, rfl, rfl, rfl, trivial⟩ (fun hh => (vec_nil hh).front 1 rfl)) ?_
  rintro ⟨k, sL, ov, out⟩ ⟨hk1, huL, hlL, hnL, hov, hol, hinv⟩
  simp only at hk1 huL hlL hnL hov hol hinv ⊢
  refine g_seq ?_; refine g_region ?_; refine kPv (ev_cmp rfl rfl rfl) rfl ?_; refine p_nil ?_; refine g_seq ?_
  refine g_if rfl (fun h32 => ?_) (fun h32 => ?_)
  · have hk : k < hs.length := by simpa using h32
    have hst : fillN c (hs.drop k) sL out = (allocM devOp c (mkH hs[k]).1 (mkH hs[k]).2 sL ()).then fun x s' => fillN c (hs.drop (k + 1)) s' (if x.1.2 = 0 then out ++ [x.1.1] else out) := by
      rw [List.drop_eq_getElem_cons hk]
      rfl
    refine g_skip ?_; refine g_seq ?_; refine g_block ?_; refine g_seq ?_; refine g_region ?_; refine go_slq ((((((hv.cons _).cons _).cons _).cons _).cons _).cons _) (by simp; omega) fun bV oV hq => ?_
    subst hq
    refine kPv (ev_ia (m := oV + k * 2) Tryz.runUnderlying25 Tryz.sizeOf107 rfl rfl (by omega) (by omega) (by omega)) rfl ?_
    refine kPv (ev_loadN (i := k) (c := [u8 hs[k].1, u8 hs[k].2]) Tryz.isAgg107 Tryz.sizeOf107 ((((((hv.cons _).cons _).cons _).cons _).cons _).cons _) rfl (by simp [List.getElem?_eq_getElem hk])) rfl ?_
    refine p_chg rfl (ch_allocA Tryz.zeroValue107 rfl) .free rfl rfl ?_
    rintro _ _ ⟨b13, rfl, rfl⟩
    refine p_chg0 rfl (ch_storeA (vs := _) Tryz.sizeOf107 rfl rfl rfl rfl rfl) .free rfl ?_
    rintro _ _ rfl
    refine p_nil ?_; refine go_sub (σ' := [(13, _), (31, _), (30, _), (29, _), (11, _), (9, _), (8, _), (7, _), (6, _), (5, _), (4, _)]) ⟨rfl, rfl, rfl, rfl, rfl, rfl, rfl, rfl, rfl, rfl, rfl, trivial⟩ ?_; refine g_seq ?_; refine g_drawm [6] Tryz.mixed (by kernel_rfl) (by kernel_rfl) ?_; refine seg_q ?_; refine kQm rfl rfl ?_; refine kQv (ev_loadA Tryz.isAgg30 Tryz.sizeOf30 rfl rfl) rfl ?_; refine kQv (ev_loadA Tryz.isAgg107 Tryz.sizeOf107 rfl rfl) rfl ?_
    refine q_call rfl (en_f Tryz.call103 rfl) (hmake_ok _ _ (hs[k]) (hhs _ (List.getElem_mem hk)).1 (hhs _ (List.getElem_mem hk)).2) .free rfl ?_; refine kQm rfl rfl ?_; refine kQv (ev_mkf rfl rfl) rfl ?_; refine q_nil ?_; refine go_pull DevA bd ?_
    refine p_call rfl (en_f Tryz.call102 rfl) (allocD_ok _ _ bd c hc _ _ sL hlL huL) .free rfl rfl ?_ ?_
    rotate_left
    · rintro _ _ ⟨⟩
    rintro _ _ ⟨x1, s1, hm1, rfl, hl1, hn1, hu1, rfl⟩
    refine p_nil ?_; refine seg_e ?_; refine kQm rfl rfl ?_; refine kQv (ev_ext rfl rfl) rfl ?_; refine kQv (ev_ext rfl rfl) rfl ?_; refine kQa rfl rfl ?_; refine kQa rfl rfl ?_; refine q_nil ?_; refine go_sub (σ' := [(15, _), (14, _), (31, _), (30, _), (29, _), (11, _), (9, _), (8, _), (7, _), (6, _), (5, _), (4, _)]) ⟨rfl, rfl, rfl, rfl, rfl, rfl, rfl, rfl, rfl, rfl, rfl, rfl, trivial⟩ ?_; refine g_seq ?_; refine g_region ?_; refine kPm rfl rfl ?_; refine kPv (ev_cmp rfl rfl rfl) rfl ?_
    refine p_nil ?_
    refine g_if rfl (fun h46 => ?_) (fun h46 => ?_)
    · have hk2 : x1.2 = 0 := by simpa using h46
      refine g_region ?_; refine kPm rfl rfl ?_; refine kPm rfl rfl ?_; refine p_chg rfl (ch_bs1 Tryz.runUnderlying34 Tryz.sizeOf3 Tryz.zeroValue3 rfl rfl rfl) .free rfl rfl ?_
      rintro _ _ ⟨b49, rfl, rfl⟩
      refine go_front 3 rfl ?_
      simp only [List.eraseIdx_cons_succ, List.eraseIdx_cons_zero]
      refine p_chg rfl (ch_append_vec rfl rfl Tryz.runUnderlying34 Tryz.runUnderlying34 ⟨_, rfl⟩ Tryz.sizeOf3 Tryz.zeroValue3 rfl (fun _ => rfl) tb_3 rfl rfl (by omega)) .free rfl rfl ?_
      rintro ov2 _ ⟨hov2, rfl⟩
      refine kPa rfl rfl ?_; refine p_nil ?_; refine go_sub (σ' := [(11, _), (31, _), (30, _), (29, _), (9, _), (8, _), (7, _), (6, _), (5, _), (4, _)]) ⟨rfl, rfl, rfl, rfl, rfl, rfl, rfl, rfl, rfl, rfl, trivial⟩ ?_; refine g_region ?_
      first | refine p_val rfl (ev_add rfl rfl (wr64 (by omega))) .free rfl rfl ?_ | refine p_val rfl (ev_add rfl rfl rfl) .free rfl rfl ?_
      refine kPm rfl rfl ?_; refine p_nil ?_
      exact fun a w st => ⟨(k + 1, s1, ov2, out ++ [x1.1]), ⟨by simp only; omega, hu1, hl1, hn1.trans hnL, hov2, by simp; omega, by rw [hinv, hst, hm1, then_ok, if_pos hk2]⟩, by simp only; omega, st.to ⟨rfl, rfl, rfl, rfl, rfl, rfl, rfl, rfl, rfl, rfl, trivial⟩ (fun hh => (((hh.front 2 rfl).tail.front 0 rfl).front 1 rfl))⟩
    · have hk2 : ¬ x1.2 = 0 := by simpa using h46
      refine g_skip ?_; refine g_region ?_
      first | refine p_val rfl (ev_add rfl rfl (wr64 (by omega))) .free rfl rfl ?_ | refine p_val rfl (ev_add rfl rfl rfl) .free rfl rfl ?_
      refine kPm rfl rfl ?_; refine p_nil ?_
      exact fun a w st => ⟨(k + 1, s1, ov, out), ⟨by simp only; omega, hu1, hl1, hn1.trans hnL, hov, by simp only; omega, by rw [hinv, hst, hm1, then_ok, if_neg hk2]⟩, by simp only; omega, st.to ⟨rfl, rfl, rfl, rfl, rfl, rfl, rfl, rfl, rfl, rfl, trivial⟩ (fun hh => (((hh.front 1 rfl).tail.front 1 rfl).front 1 rfl))⟩
  · have hk : ¬ k < hs.length := by simpa using h32
    refine g_exit ?_; refine g_seq ?_; refine g_region ?_; refine kPm rfl rfl ?_; refine kPv (ev_loadA Tryz.isAgg30 Tryz.sizeOf30 rfl rfl) rfl ?_; refine go_pull DevA bd ?_
    refine p_call rfl (en_f Tryz.call15 rfl) (rread_ok _ _ _ _ c hc huL) .free rfl rfl ?_ ?_
    rotate_left
    · rintro _ _ ⟨⟩
    rintro _ _ ⟨sv, hsv, rfl, rfl⟩
    refine kPm rfl rfl ?_; refine kPv (ev_ext rfl rfl) rfl ?_; refine kPv (ev_ext rfl rfl) rfl ?_; refine p_chg rfl (ch_allocA Tryz.zeroValue33 rfl) .free rfl rfl ?_
    rintro _ _ ⟨b16, rfl, rfl⟩
    refine p_chg0 rfl (ch_storeA (vs := [i64 (sL.block c).1.act, i64 (sL.block c).1.used, sv]) Tryz.sizeOf33 rfl rfl rfl (all3 hsv) rfl) .free rfl ?_
    rintro _ _ rfl
    refine go_conv (H' := row b16 [i64 (sL.block c).1.act, i64 (sL.block c).1.used, sv] 33 :: _) (fun w hh => hh) ?_; refine kPa rfl rfl ?_; refine p_nil ?_; refine go_sub (σ' := [(16, _), (11, _), (9, _), (8, _), (7, _), (6, _), (5, _), (4, _)]) ⟨rfl, rfl, rfl, rfl, rfl, rfl, rfl, rfl, trivial⟩ ?_; refine g_seq ?_; refine g_drawv [0, 1, 2, 3, 4, 5, 6, 7] [5, 6] [2, 3] [5, 6] [row b16 [i64 (sL.block c).1.act, i64 (sL.block c).1.used, sv] 33] Tryz.mixed (by kernel_rfl) ?_
    refine v_val rfl rfl rfl (ev_move rfl) .free rfl ?_; refine v_val rfl rfl rfl (ev_loadA Tryz.isAgg30 Tryz.sizeOf30 rfl rfl) .free rfl ?_; refine v_hoist rfl rfl rfl (ev_loadA Tryz.isAgg33 Tryz.sizeOf33 rfl rfl) .free rfl ?_; refine v_hoist rfl rfl rfl (ev_move rfl) .free rfl ?_; refine v_val rfl rfl rfl (ev_assign rfl) .free rfl ?_; refine v_mark rfl rfl ?_; refine p_chg0 rfl (ch_storeA (vs := _) Tryz.sizeOf30 rfl rfl rfl rfl rfl) .free rfl ?_
    rintro _ _ rfl
    refine p_nil ?_; refine v_on ?_; refine v_mark rfl rfl ?_; refine p_chg0 rfl (ch_storeA (vs := [i64 (sL.block c).1.act, i64 (sL.block c).1.used, sv]) Tryz.sizeOf33 rfl rfl rfl (all3 hsv) rfl) .free rfl ?_
    rintro _ _ rfl
    refine p_nil ?_; refine v_on ?_; refine v_val rfl rfl rfl (ev_assign rfl) .free rfl ?_; refine v_nil ?_; refine go_sub (σ' := [(7, _), (4, _), (6, _), (5, _)]) ⟨rfl, rfl, rfl, rfl, trivial⟩ ?_; refine g_ret ?_
    exact ret_4 Tryz.results67 (.tmp rfl) (.cellA rfl Tryz.isAgg30 Tryz.sizeOf30 rfl rfl) (.cellA rfl Tryz.isAgg33 Tryz.sizeOf33 rfl rfl) (.tmp rfl) (fun w hh => ⟨_, ⟨bd, pa, N, s0, sL, out, ov, sv, hfm, hN, ⟨hu0, hf⟩, by rw [hinv, List.drop_eq_nil_of_le (by omega)]; rfl, huL, hlL, hnL, hov, hsv, rfl, rfl⟩, ((((((((hh.front 7 rfl).front 7 rfl).front 7 rfl).front 7 rfl).front 4 rfl).tail.tail.tail.tail.tail.front 2 rfl).front 2 rfl).front 2 rfl)⟩)

end Go.Proofs.YtbfheafpecgphaaGreat
