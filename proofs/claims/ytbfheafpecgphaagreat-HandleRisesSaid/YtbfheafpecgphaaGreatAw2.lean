/- The fixed facts of the layers 5 to 7; devices that were formatted. Conditions: none. -/
import Derived.Test.YtbfheafpecgphaaGreatAw
set_option linter.unusedSimpArgs false
set_option linter.unusedVariables false
set_option linter.unnecessarySimpa false
set_option linter.unusedSectionVars false
namespace Go.Proofs.YtbfheafpecgphaaGreat
set_option linter.unusedSimpArgs false
set_option linter.unusedVariables false
open Go
def readW (s : Dev) (j : Nat) : Int := IntKind.i64.wrap (s.load (1 + (j : Int)))
def Dev.readC (s : Dev) : Cfg × Int :=
  if s.load 0 ≠ magicI then (⟨0, 0, 0⟩, 7)
  else if 4096 < s.load 1 ∨ 4096 < s.load 2 ∨ 4096 < s.load 3 then (⟨0, 0, 0⟩, 1)
  else if ¬ CfgW ⟨readW s 0, readW s 1, readW s 2⟩ ∨ (s.n : Int) ≠ Cfg.words ⟨readW s 0, readW s 1, readW s 2⟩ then (⟨0, 0, 0⟩, 1)
  else (⟨readW s 0, readW s 1, readW s 2⟩, 0)
def rrow (s : Dev) (k : Nat) : List Value := tab 3 fun j => i64 (if j < k then readW s j else 0)
theorem rrow_set {s : Dev} {k : Nat} {x : Int} (h : x = readW s k) : (rrow s k).set k (i64 x) = rrow s (k + 1) := by
  subst h
  unfold rrow
  rw [tab_set]
  refine tab_congr fun j _ => ?_
  simp only [upd]
  by_cases e : j = k
  · subst e; simp
  · rw [if_neg e]
    by_cases e2 : j < k
    · rw [if_pos e2, if_pos (by omega)]
    · rw [if_neg e2, if_neg (by omega)]
theorem rrow_get {s : Dev} {k : Nat} (h : k < 3) : (rrow s 3)[k]? = some (i64 (readW s k)) := by
  unfold rrow; rw [tab_get h, if_pos h]

theorem read_ok (B : World) (Fr : List HP) (b : Nat) (s : Dev) :
    ∀ w, Holds B (DevA b s :: Fr) w → Calls Tryz.prog 158 [ptr b].toArray w (PureR B (DevA b s :: Fr) (.tuple #[cfgV s.readC.1, i64 s.readC.2])) := by
  refine fn_enter Tryz.func158 rfl Tryz.ntmps158 rfl ?_
  generalize hres : s.readC = res
  refine g_seq ?_; refine g_region ?_; refine p_chg rfl (ch_allocA Tryz.zeroValue30 rfl) .free rfl rfl ?_
  rintro _ _ ⟨b2, rfl, rfl⟩
  refine kPa rfl rfl ?_; refine p_nil ?_; refine g_seq ?_; refine g_seq ?_; refine g_region ?_; refine kPm rfl rfl ?_; refine p_callq rfl (en_f Tryz.call72 rfl) (ro_at (q := DevA) (fun Fr => nload_ok _ Fr _ _ _)) .free rfl rfl ?_; refine kPv (ev_cmp rfl rfl rfl) rfl ?_; refine p_nil ?_
  refine g_if rfl (fun h10 => ?_) (fun h10 => ?_)
  · try simp only [decide_eq_true_eq, decide_eq_false_iff_not, Bool.not_eq_true', Bool.not_eq_false', Bool.or_eq_true, Bool.and_eq_true, Bool.and_eq_false_iff, Bool.or_eq_false_iff, beq_iff_eq, bne_iff_ne, beq_eq_false_iff_ne, bne_eq_false_iff_eq, ge_iff_le, gt_iff_lt, ne_eq] at h10
    refine g_seq ?_; refine g_region ?_; refine kPv (ev_build rfl (bld_30)) rfl ?_; refine p_chg0 rfl (ch_storeA (vs := _) Tryz.sizeOf30 rfl rfl rfl rfl rfl) .free rfl ?_
    rintro _ _ rfl
    refine kPa rfl rfl ?_; refine p_nil ?_; refine g_ret ?_
    exact ret_2 Tryz.results158 (.cellA rfl Tryz.isAgg30 Tryz.sizeOf30 rfl rfl) (.tmp rfl) (fun w hw => ⟨by rw [← hres]; unfold Dev.readC; rw [if_pos (by simpa [magicI] using h10)]; rfl, hw.tail⟩)
  · try simp only [decide_eq_true_eq, decide_eq_false_iff_not, Bool.not_eq_true', Bool.not_eq_false', Bool.or_eq_true, Bool.and_eq_true, Bool.and_eq_false_iff, Bool.or_eq_false_iff, beq_iff_eq, bne_iff_ne, beq_eq_false_iff_ne, bne_eq_false_iff_eq, ge_iff_le, gt_iff_lt, ne_eq] at h10
    refine g_skip ?_; refine g_seq ?_; refine g_region ?_; refine p_chg rfl (ch_allocA Tryz.zeroValue211 rfl) .free rfl rfl ?_
    rintro _ _ ⟨b4, rfl, rfl⟩
    refine p_nil ?_; refine g_seq ?_; refine g_seq ?_; refine g_region ?_; refine kPm rfl rfl ?_; refine p_nil ?_; refine g_block ?_
    refine g_loop (ι := Nat) (fun k => k ≤ 3 ∧ ∀ j : Nat, j < k → s.load (1 + (j : Int)) ≤ 4096) (fun k => [(0, ptr b), (2, ptr b2), (3, i64 0), (4, ptr b4), (12, i64 k)]) (fun k => row b4 (rrow s k) 211 :: row b2 [i64 0, i64 0, i64 0] 30 :: DevA b s :: Fr) (fun k => 3 - k) 0 ⟨Nat.zero_le _, fun j h => absurd h (Nat.not_lt_zero _)⟩ (fun a w st => st.to ⟨rfl, rfl, rfl, rfl, rfl, trivial⟩ id) ?_
    rintro k ⟨hk1, hk2⟩
    refine g_seq ?_; refine g_region ?_; refine kPv (ev_cmp rfl rfl rfl) rfl ?_; refine p_nil ?_; refine g_seq ?_
    refine g_if rfl (fun h13 => ?_) (fun h13 => ?_)
    · have hk3 : k < 3 := by simp at h13; omega
      refine g_skip ?_; refine g_seq ?_; refine g_block ?_; refine g_seq ?_; refine g_region ?_; refine kPm rfl rfl ?_; refine kPa rfl rfl ?_; refine p_nil ?_; refine g_seq ?_; refine g_region ?_; refine kPm rfl rfl ?_; refine kPm rfl rfl ?_
      first | refine p_val rfl (ev_add rfl rfl (wr64 (by omega))) .free rfl rfl ?_ | refine p_val rfl (ev_add rfl rfl rfl) .free rfl rfl ?_
      refine p_callq rfl (en_f Tryz.call72 rfl) (ro_at (q := DevA) (fun Fr => nload_ok _ Fr _ _ _)) .free rfl rfl ?_; refine kPa rfl rfl ?_; refine p_nil ?_; refine go_sub (σ' := [(6, _), (5, _), (12, _), (4, _), (3, _), (2, _), (0, _)]) ⟨rfl, rfl, rfl, rfl, rfl, rfl, rfl, trivial⟩ ?_; refine g_seq ?_; refine g_seq ?_; refine g_region ?_; refine kPm rfl rfl ?_; refine kPv (ev_cmp rfl rfl rfl) rfl ?_; refine p_nil ?_
      refine g_if rfl (fun h20 => ?_) (fun h20 => ?_)
      · try simp only [decide_eq_true_eq, decide_eq_false_iff_not, Bool.not_eq_true', Bool.not_eq_false', Bool.or_eq_true, Bool.and_eq_true, Bool.and_eq_false_iff, Bool.or_eq_false_iff, beq_iff_eq, bne_iff_ne, beq_eq_false_iff_ne, bne_eq_false_iff_eq, ge_iff_le, gt_iff_lt, ne_eq] at h20
        refine g_seq ?_; refine g_region ?_; refine kPv (ev_build rfl (bld_30)) rfl ?_; refine p_chg0 rfl (ch_storeA (vs := _) Tryz.sizeOf30 rfl rfl rfl rfl rfl) .free rfl ?_
        rintro _ _ rfl
        refine kPa rfl rfl ?_; refine p_nil ?_; refine g_ret ?_
        exact ret_2 Tryz.results158 (.cellA rfl Tryz.isAgg30 Tryz.sizeOf30 rfl rfl) (.tmp rfl) (fun w hw => ⟨by
      rw [← hres]; unfold Dev.readC; rw [if_neg (by simpa [magicI] using h10), if_pos (by
        rcases (by omega : k = 0 ∨ k = 1 ∨ k = 2) with rfl | rfl | rfl
        · left; exact h20
        · right; left; exact h20
        · right; right; exact h20)]; rfl, hw.tail.tail⟩)
      · try simp only [decide_eq_true_eq, decide_eq_false_iff_not, Bool.not_eq_true', Bool.not_eq_false', Bool.or_eq_true, Bool.and_eq_true, Bool.and_eq_false_iff, Bool.or_eq_false_iff, beq_iff_eq, bne_iff_ne, beq_eq_false_iff_ne, bne_eq_false_iff_eq, ge_iff_le, gt_iff_lt, ne_eq] at h20
        refine g_skip ?_; refine g_region ?_; refine kPm rfl rfl ?_; refine kPm rfl rfl ?_
        first | refine p_val rfl (ev_conv Tryz.runUnderlying52 Tryz.runUnderlying3 rfl (wr64 (by omega))) .free rfl rfl ?_ | refine p_val rfl (ev_conv Tryz.runUnderlying52 Tryz.runUnderlying3 rfl rfl) .free rfl rfl ?_
        refine kPv (ev_iaA (m := k) Tryz.runUnderlying211 Tryz.sizeOf3 rfl rfl (by omega) (by omega) (by omega)) rfl ?_; refine p_chg0 rfl (ch_store Tryz.sizeOf3 rfl rfl rfl (by rw [Nat.blt_eq]; simp [rrow, tab_len]; omega)) .free rfl ?_
        rintro _ _ rfl
        refine p_nil ?_; refine go_sub (σ' := [(12, _), (4, _), (3, _), (2, _), (0, _)]) ⟨rfl, rfl, rfl, rfl, rfl, trivial⟩ ?_; refine g_region ?_
        first | refine p_val rfl (ev_add rfl rfl (wr64 (by omega))) .free rfl rfl ?_ | refine p_val rfl (ev_add rfl rfl rfl) .free rfl rfl ?_
        refine kPm rfl rfl ?_; refine p_nil ?_
        exact fun a w st => ⟨k + 1, ⟨by omega, fun j hj => by
          rcases Nat.lt_succ_iff_lt_or_eq.1 hj with h | h
          · exact hk2 j h
          · subst h; omega⟩, by omega, st.to ⟨rfl, rfl, rfl, rfl, rfl, trivial⟩ (fun hh => by rw [show (Value.int IntKind.i64 (IntKind.i64.wrap (s.load (1 + (k : Int))))) = i64 (readW s k) from rfl, rrow_set rfl] at hh; exact hh)⟩
    · have hk3 : ¬ k < 3 := by simp at h13; omega
      obtain rfl : k = 3 := by omega
      have hb0 : s.load 1 ≤ 4096 := hk2 0 (by decide)
      have hb1 : s.load 2 ≤ 4096 := hk2 1 (by decide)
      have hb2 : s.load 3 ≤ 4096 := hk2 2 (by decide)
      refine g_exit ?_; refine g_seq ?_; refine g_region ?_; refine kPv (ev_iaA (m := 0) Tryz.runUnderlying211 Tryz.sizeOf3 rfl rfl (by decide) (by decide) (by decide)) rfl ?_; refine kPv (ev_load (v := i64 (readW s 0)) Tryz.isAgg3 rfl (rrow_get (by decide))) rfl ?_; refine kPv (ev_iaA (m := 1) Tryz.runUnderlying211 Tryz.sizeOf3 rfl rfl (by decide) (by decide) (by decide)) rfl ?_; refine kPv (ev_load (v := i64 (readW s 1)) Tryz.isAgg3 rfl (rrow_get (by decide))) rfl ?_
      refine kPv (ev_iaA (m := 2) Tryz.runUnderlying211 Tryz.sizeOf3 rfl rfl (by decide) (by decide) (by decide)) rfl ?_; refine kPv (ev_load (v := i64 (readW s 2)) Tryz.isAgg3 rfl (rrow_get (by decide))) rfl ?_; refine kPv (ev_build rfl (bld_30_0_1_2 _ _ _ rfl rfl rfl)) rfl ?_; refine p_chg rfl (ch_allocA Tryz.zeroValue30 rfl) .free rfl rfl ?_
      rintro _ _ ⟨b7, rfl, rfl⟩
      refine p_chg0 rfl (ch_storeA (vs := _) Tryz.sizeOf30 rfl rfl rfl rfl rfl) .free rfl ?_
      rintro _ _ rfl
      refine p_nil ?_; refine go_sub (σ' := [(7, _), (3, _), (2, _), (0, _)]) ⟨rfl, rfl, rfl, rfl, trivial⟩ ?_; refine g_seq ?_; refine g_seq ?_; refine g_draw Tryz.mixed (by kernel_rfl) (by kernel_rfl) ?_; refine kQv (ev_loadA Tryz.isAgg30 Tryz.sizeOf30 rfl rfl) rfl ?_; refine q_call rfl (en_f Tryz.call130 rfl) (check_ok _ _ ⟨readW s 0, readW s 1, readW s 2⟩) .free rfl ?_; refine kQv (ev_cmp rfl rfl rfl) rfl ?_; refine kQm rfl rfl ?_
      apply q_or (tp := 43) (t := 37) (σ1 := [(37, _), (7, _), (3, _), (2, _)]) 6 rfl ⟨rfl, rfl, rfl, rfl, trivial⟩
      · intro hg1
        refine q_val rfl (ev_move rfl) (.on rfl rfl (beq_eq hg1)) rfl ?_; refine q_call rfl (en_f Tryz.call33 rfl) (ro_at (q := DevA) (fun Fr => nlen_ok _ Fr _ _)) (.on rfl rfl (beq_eq hg1)) rfl ?_; refine q_val rfl (ev_loadA Tryz.isAgg30 Tryz.sizeOf30 rfl rfl) (.on rfl rfl (beq_eq hg1)) rfl ?_; refine q_call rfl (en_f Tryz.call44 rfl) (cwords_ok _ _ ⟨readW s 0, readW s 1, readW s 2⟩ (chk_w hg1)) (.on rfl rfl (beq_eq hg1)) rfl ?_
        refine q_val rfl (ev_cmp rfl rfl rfl) (.on rfl rfl (beq_eq hg1)) rfl ?_; refine kQv (ev_pick_f rfl hg1 rfl) rfl ?_
        exact q_seg rfl ⟨rfl, rfl, rfl, rfl, trivial⟩ (or_f hg1)
      · intro hg1
        refine q_skip rfl (.on rfl rfl (beq_ne hg1)) rfl ?_; refine q_skip rfl (.on rfl rfl (beq_ne hg1)) rfl ?_; refine q_skip rfl (.on rfl rfl (beq_ne hg1)) rfl ?_; refine q_skip rfl (.on rfl rfl (beq_ne hg1)) rfl ?_; refine q_skip rfl (.on rfl rfl (beq_ne hg1)) rfl ?_; refine kQv (ev_pick_t rfl hg1 rfl) rfl ?_
        exact q_seg rfl ⟨rfl, rfl, rfl, rfl, trivial⟩ (or_t hg1)
      refine q_nil ?_
      refine g_if rfl (fun h43 => ?_) (fun h43 => ?_)
      · have hbad : ¬ CfgW ⟨readW s 0, readW s 1, readW s 2⟩ ∨ (s.n : Int) ≠ Cfg.words ⟨readW s 0, readW s 1, readW s 2⟩ := by
          by_cases q : CfgW ⟨readW s 0, readW s 1, readW s 2⟩
          · right; simpa [chk, q] using h43
          · exact .inl q
        refine g_seq ?_; refine g_region ?_; refine kPv (ev_build rfl (bld_30)) rfl ?_; refine p_chg0 rfl (ch_storeA (vs := _) Tryz.sizeOf30 rfl rfl rfl rfl rfl) .free rfl ?_
        rintro _ _ rfl
        refine kPa rfl rfl ?_; refine p_nil ?_; refine g_ret ?_
        exact ret_2 Tryz.results158 (.cellA rfl Tryz.isAgg30 Tryz.sizeOf30 rfl rfl) (.tmp rfl) (fun w hw => ⟨by rw [← hres]; unfold Dev.readC; rw [if_neg (by simpa [magicI] using h10), if_neg (by omega), if_pos hbad]; rfl, hw.tail.tail.tail⟩)
      · have hgd : ¬ (¬ CfgW ⟨readW s 0, readW s 1, readW s 2⟩ ∨ (s.n : Int) ≠ Cfg.words ⟨readW s 0, readW s 1, readW s 2⟩) := by
          by_cases q : CfgW ⟨readW s 0, readW s 1, readW s 2⟩
          · simp [chk, q] at h43; simp [q, h43]
          · simp [chk, q] at h43
        refine g_skip ?_; refine g_seq ?_; refine g_region ?_; refine kPv (ev_loadA Tryz.isAgg30 Tryz.sizeOf30 rfl rfl) rfl ?_; refine p_chg0 rfl (ch_storeA (vs := _) Tryz.sizeOf30 rfl rfl rfl rfl rfl) .free rfl ?_
        rintro _ _ rfl
        refine kPa rfl rfl ?_; refine p_nil ?_; refine g_ret ?_
        exact ret_2 Tryz.results158 (.cellA rfl Tryz.isAgg30 Tryz.sizeOf30 rfl rfl) (.tmp rfl) (fun w hw => ⟨by rw [← hres]; unfold Dev.readC; rw [if_neg (by simpa [magicI] using h10), if_neg (by omega), if_neg hgd]; rfl, hw.tail.tail.tail⟩)


/-- What holds of a call that is through. -/
def okB {α : Type} (m : Out α) (p : α → Dev → Bool) : Bool := match m with
  | .ok a s => p a s
  | .off _ => false
theorem okB_ok {α : Type} {m : Out α} {p : α → Dev → Bool} {a : α} {s : Dev} (h : okB m p = true) (e : m = .ok a s) : p a s = true := by rw [e] at h; exact h
theorem okB_off {α : Type} {m : Out α} {p : α → Dev → Bool} {s : Dev} (h : okB m p = true) (e : m = .off s) : False := by rw [e] at h; cases h
/-- A power without an end: no call is broken off. -/
def Good {α : Type} (m : Out α) (p : α → Prop) (n : Nat) : Prop := ∃ a s, m = .ok a s ∧ p a ∧ s.pow.lim < 0 ∧ s.n = n
theorem good_then {α β : Type} {m : Out α} {f : α → Dev → Out β} {p : α → Prop} {q : β → Prop} {n : Nat} (h : Good m p n) (g : ∀ a s, p a → s.pow.lim < 0 → s.n = n → Good (f a s) q n) : Good (m.then f) q n := by
  obtain ⟨a, s, rfl, h1, h2, h3⟩ := h
  exact g a s h1 h2 h3
theorem good_store {s : Dev} {i v : Int} (h : s.pow.lim < 0) : Good (s.store i v) (fun _ => True) s.n := by
  unfold Dev.store
  split
  · exact ⟨_, _, rfl, trivial, h, rfl⟩
  · rw [out_ne h]; exact ⟨_, _, rfl, trivial, h, rfl⟩
theorem good_flush {s : Dev} {i : Int} (h : s.pow.lim < 0) : Good (s.flush i) (fun _ => True) s.n := by
  unfold Dev.flush
  split
  · exact ⟨_, _, rfl, trivial, h, rfl⟩
  · rw [out_ne h]; exact ⟨_, _, rfl, trivial, h, rfl⟩
theorem good_fence {s : Dev} (h : s.pow.lim < 0) : Good s.fence (fun _ => True) s.n := ⟨(), _, fence_ne h, trivial, h, rfl⟩
theorem good_zero (f : Int → Int) : ∀ (k : Nat) (i : Int) (s : Dev), s.pow.lim < 0 → Good (zeroN f k i s) (fun _ => True) s.n
  | 0, _, s, h => ⟨(), s, rfl, trivial, h, rfl⟩
  | k + 1, i, s, h => good_then (good_store h) fun _ s1 _ h1 e1 => e1 ▸ good_then (good_flush h1) fun _ s2 _ h2 e2 => e2 ▸ good_zero f k (i + 1) s2 h2
theorem good_st3 (l : List Int) : ∀ (k i : Nat) (s : Dev), s.pow.lim < 0 → Good (st3 l k i s) (fun _ => True) s.n
  | 0, _, s, h => ⟨(), s, rfl, trivial, h, rfl⟩
  | k + 1, i, s, h => good_then (good_store h) fun _ s1 _ h1 e1 => e1 ▸ good_st3 l k (i + 1) s1 h1
theorem good_format {s : Dev} {c : Cfg} (h : s.pow.lim < 0) (hc : CfgW c) (hn : (s.n : Int) = c.words) : Good (s.format c) (fun a => a = 0) s.n := by
  unfold Dev.format
  rw [if_neg (format_ok hc hn)]
  refine good_then (good_store h) fun _ s1 _ h1 e1 => ?_; refine e1 ▸ good_then (good_flush h1) fun _ s2 _ h2 e2 => ?_; refine e2 ▸ good_then (good_fence h2) fun _ s3 _ h3 e3 => ?_; refine e3 ▸ good_then (good_st3 _ _ _ _ h3) fun _ s4 _ h4 e4 => ?_; refine e4 ▸ good_then (good_store h4) fun _ s5 _ h5 e5 => ?_; refine e5 ▸ good_then (good_flush h5) fun _ s6 _ h6 e6 => ?_; refine e6 ▸ good_then (good_zero _ _ _ _ h6) fun _ s7 _ h7 e7 => ?_
  refine e7 ▸ good_then (good_zero _ _ _ _ h7) fun _ s8 _ h8 e8 => ?_; refine e8 ▸ good_then (good_flush h8) fun _ s9 _ h9 e9 => ?_; refine e9 ▸ good_then (good_fence h9) fun _ s10 _ h10 e10 => ?_; refine e10 ▸ good_then (good_store h10) fun _ s11 _ h11 e11 => ?_; refine e11 ▸ good_then (good_flush h11) fun _ s12 _ h12 e12 => ?_; refine e12 ▸ good_then (good_fence h12) fun _ s13 _ h13 e13 => ?_
  exact ⟨0, s13, rfl, rfl, h13, e13⟩
/-- The words that a device is formatted over. -/
def oldW (xs : List Int) (j : Nat) : Int := if xs.length = 0 then 0 else xs.getD (j % xs.length) 0
def dev0 (pa : Nat) (xs : List Int) (n : Nat) : Dev := ⟨pa, ⟨-1, 0⟩, n, fun i => (tab n (oldW xs)).getD i 0, fun i => (tab n (oldW xs)).getD i 0, fun _ => none⟩
theorem words_b {c : Cfg} (h : CfgW c) : 40 ≤ c.words ∧ c.words ≤ 20000 ∧ c.words % 8 = 0 := by
  have h1 := h.act
  have := h.r1; have := h.r2; have := h.l1; have := h.l2; have := h.s1; have := h.s2
  have hl := lines_b (n := c.root c.roots) (by simp only [Cfg.root]; omega)
  have hs := lines_b (n := c.space) (by omega)
  simp only [Cfg.words, Cfg.frm, Cfg.root] at *
  omega
def frow (xs : List Int) (n k : Nat) : List Value := tab n fun j => w64 (if j < k then oldW xs j else 0)
theorem frow_set {xs : List Int} {n k : Nat} {x : Int} (h : x = oldW xs k) : (frow xs n k).set k (w64 x) = frow xs n (k + 1) := by
  subst h
  unfold frow
  rw [tab_set]
  refine tab_congr fun j _ => ?_
  simp only [upd]
  by_cases e : j = k
  · subst e; simp
  · rw [if_neg e]
    by_cases e2 : j < k
    · rw [if_pos e2, if_pos (by omega)]
    · rw [if_neg e2, if_neg (by omega)]
theorem frow_skip {xs : List Int} {n k : Nat} (h : xs.length = 0) : frow xs n (k + 1) = frow xs n k := by
  refine tab_congr fun j _ => ?_
  simp [oldW, h]
theorem frow_zero (xs : List Int) (n : Nat) : List.replicate n (.int .u64 0) = frow xs n 0 := by
  apply List.ext_getElem?
  intro j
  by_cases h : j < n
  · rw [frow, tab_get h]; simp [h]
  · rw [List.getElem?_eq_none (by simpa using h), List.getElem?_eq_none (by rw [frow, tab_len]; omega)]
theorem frow_all (xs : List Int) (n : Nat) : frow xs n n = (tab n (oldW xs)).map w64 := by
  rw [tab_map]; exact tab_congr fun j hj => by rw [if_pos hj]


theorem dev0_eq {pa N : Nat} {xs : List Int} (h : N % 8 = 0) : (⟨pa, ⟨-1, 0⟩, ((tab N (oldW xs)).length + 7) / 8 * 8, fun i => (tab N (oldW xs)).getD i 0, fun i => (tab N (oldW xs)).getD i 0, fun _ => none⟩ : Dev) = dev0 pa xs N := by
  rw [tab_len, show (N + 7) / 8 * 8 = N by omega]; rfl
theorem fmt_ok {pa N : Nat} {xs : List Int} {c : Cfg} {a : Int} {s : Dev} (hc : CfgW c) (hN : (N : Int) = c.words) (h : (dev0 pa xs N).format c = .ok a s) : a = 0 := by
  obtain ⟨b, t, e, hb, _⟩ := good_format (s := dev0 pa xs N) (show (-1 : Int) < 0 by decide) hc hN
  rw [e] at h; cases h; exact hb
theorem fmt_off {pa N : Nat} {xs : List Int} {c : Cfg} {s : Dev} (hc : CfgW c) (hN : (N : Int) = c.words) (h : (dev0 pa xs N).format c = .off s) : False := by
  obtain ⟨b, t, e, hb, _⟩ := good_format (s := dev0 pa xs N) (show (-1 : Int) < 0 by decide) hc hN
  rw [e] at h; cases h

theorem formatted_ok (B : World) (Fr : List HP) (c : Cfg) (hc : CfgW c) (q : Option Addr) (cap : Nat) (xs : List Int) (hx : xs.length ≤ 100000) (hq : ∀ i, i < xs.length → ∃ b off, q = some ⟨b, off, none⟩) (hr : SlR B Fr (.slice q xs.length cap) (xs.map w64)) :
    ∀ w, Holds B Fr w → Calls Tryz.prog 101 [cfgV c, .slice q xs.length cap].toArray w (Ret B (fun rv H' => ∃ (b pa N : Nat) (s' : Dev), (N : Int) = c.words ∧ (dev0 pa xs N).format c = .ok 0 s' ∧ rv = .tuple #[ptr b, .bool true] ∧ H' = DevA b s' :: Fr) (fun _ _ => False)) := by
  refine fn_enter Tryz.func101 rfl Tryz.ntmps101 rfl ?_
  have hwb := words_b hc
  obtain ⟨N, hN⟩ : ∃ N : Nat, (N : Int) = c.words := ⟨c.words.toNat, by omega⟩
  refine g_seq ?_; refine g_region ?_; refine p_chg rfl (ch_boxA rfl) .free rfl rfl ?_
  rintro _ _ ⟨b2, rfl, rfl⟩
  refine kPa rfl rfl ?_; refine kPa rfl rfl ?_; refine p_nil ?_; refine g_seq ?_; refine g_region ?_; refine kPv (ev_loadA Tryz.isAgg30 Tryz.sizeOf30 rfl rfl) rfl ?_; refine p_callq rfl (en_f Tryz.call44 rfl) (cwords_ok _ _ c hc) .free rfl rfl ?_
  rw [← hN]
  refine p_chg rfl (ch_make Tryz.runUnderlying31 tb_52 Tryz.sizeOf52 Tryz.zeroValue52 rfl rfl rfl (by omega)) .free rfl rfl ?_
  rintro _ _ ⟨bl, rfl, rfl⟩
  rw [frow_zero xs]
  refine kPa rfl rfl ?_; refine p_nil ?_; refine g_seq ?_; refine g_seq ?_; refine g_region ?_; refine kPm rfl rfl ?_; refine kPv (ev_len rfl Tryz.runUnderlying31 ⟨_, rfl⟩ rfl) rfl ?_; refine kPm rfl rfl ?_; refine p_nil ?_; refine g_block ?_
  refine g_loop (ι := Nat) (fun k => k ≤ N) (fun k => [(1, .slice q xs.length cap), (2, ptr b2), (4, .pointer none), (5, .bool false), (6, .slice (some ⟨bl, 0, none⟩) N N), (13, i64 N), (14, i64 k)]) (fun k => row bl (frow xs N k) 52 :: row b2 [i64 c.log, i64 c.roots, i64 c.space] 30 :: Fr) (fun k => N - k) 0 (Nat.zero_le _) (fun a w st => st.to ⟨rfl, rfl, rfl, rfl, rfl, rfl, rfl, trivial⟩ id) ?_
  intro k hk
  refine g_seq ?_; refine g_region ?_; refine kPv (ev_cmp rfl rfl rfl) rfl ?_; refine p_nil ?_; refine g_seq ?_
  refine g_if rfl (fun h15 => ?_) (fun h15 => ?_)
  · have hkN : k < N := by simp at h15; omega
    refine g_skip ?_; refine g_seq ?_; refine g_block ?_; refine g_seq ?_; refine g_region ?_; refine kPm rfl rfl ?_; refine kPa rfl rfl ?_; refine p_nil ?_; refine go_sub (σ' := [(7, _), (14, _), (13, _), (6, _), (5, _), (4, _), (2, _), (1, _)]) ⟨rfl, rfl, rfl, rfl, rfl, rfl, rfl, rfl, trivial⟩ ?_; refine g_seq ?_; refine g_region ?_; refine kPm rfl rfl ?_; refine kPv (ev_len rfl Tryz.runUnderlying31 ⟨_, rfl⟩ rfl) rfl ?_; refine kPv (ev_cmp rfl rfl rfl) rfl ?_; refine p_nil ?_
    refine g_if rfl (fun h19 => ?_) (fun h19 => ?_)
    · have hpos : 0 < xs.length := by simp at h19; omega
      refine g_region ?_; refine kPm rfl rfl ?_; refine kPm rfl rfl ?_; refine kPm rfl rfl ?_; refine kPm rfl rfl ?_; refine kPm rfl rfl ?_; refine kPv (ev_len rfl Tryz.runUnderlying31 ⟨_, rfl⟩ rfl) rfl ?_; refine kPv (ev_rem (c := ((k % xs.length : Nat) : Int)) rfl rfl (by omega) (by rw [Int.tmod_eq_emod_of_nonneg (by omega)]; omega)) rfl ?_
      obtain ⟨ob, oo, rfl⟩ := hq 0 hpos
      refine kPv (ev_iaS Tryz.runUnderlying31 Tryz.sizeOf52 rfl rfl (by omega) (by have := Nat.mod_lt k hpos; omega)) rfl ?_
      refine kPv (ev_loadS (v := w64 (oldW xs k)) Tryz.isAgg52 ((hr.cons _).cons _) rfl (by have := Nat.mod_lt k hpos; rw [Int.toNat_natCast]; simp [oldW, show ¬ xs.length = 0 by omega, this, List.getD])) rfl ?_
      refine kPv (ev_iaS Tryz.runUnderlying31 Tryz.sizeOf52 rfl rfl (by omega) (by omega)) rfl ?_; refine p_chg0 rfl (ch_store Tryz.sizeOf52 rfl rfl rfl (by rw [Nat.blt_eq, frow, tab_len]; omega)) .free rfl ?_
      rintro _ _ rfl
      rw [show 0 + (k : Int).toNat = k by omega, frow_set rfl]
      refine p_nil ?_; refine go_sub (σ' := [(14, _), (13, _), (6, _), (5, _), (4, _), (2, _), (1, _)]) ⟨rfl, rfl, rfl, rfl, rfl, rfl, rfl, trivial⟩ ?_; refine g_region ?_
      first | refine p_val rfl (ev_add rfl rfl (wr64 (by omega))) .free rfl rfl ?_ | refine p_val rfl (ev_add rfl rfl rfl) .free rfl rfl ?_
      refine kPm rfl rfl ?_; refine p_nil ?_
      first
        | exact fun a w st => ⟨k + 1, by omega, by omega, st.to ⟨rfl, rfl, rfl, rfl, rfl, rfl, rfl, trivial⟩ id⟩
        | exact fun a w st => ⟨k + 1, by omega, by omega, st.to ⟨rfl, rfl, rfl, rfl, rfl, rfl, rfl, trivial⟩ (fun hh => by rw [frow_skip hz]; exact hh)⟩
    · have hz : xs.length = 0 := by have := of_decide_eq_false h19; omega
      refine g_skip ?_; refine g_region ?_
      first | refine p_val rfl (ev_add rfl rfl (wr64 (by omega))) .free rfl rfl ?_ | refine p_val rfl (ev_add rfl rfl rfl) .free rfl rfl ?_
      refine kPm rfl rfl ?_; refine p_nil ?_
      first
        | exact fun a w st => ⟨k + 1, by omega, by omega, st.to ⟨rfl, rfl, rfl, rfl, rfl, rfl, rfl, trivial⟩ id⟩
        | exact fun a w st => ⟨k + 1, by omega, by omega, st.to ⟨rfl, rfl, rfl, rfl, rfl, rfl, rfl, trivial⟩ (fun hh => by rw [frow_skip hz]; exact hh)⟩
  · have hkN : ¬ k < N := by simp at h15; omega
    have hkN2 : k = N := by omega
    rw [hkN2]
    refine g_exit ?_; refine g_seq ?_; refine g_region ?_; refine kPm rfl rfl ?_
    refine p_call rfl (en_f Tryz.call21 rfl) (new2_ok _ _ _ (tab N (oldW xs)) (by rw [tab_len]; omega) (by rw [tab_len]; omega) (SlR.row (by rw [List.drop_zero, frow_all, List.take_of_length_le (by rw [List.length_map, tab_len]; omega)]) (by rw [List.length_map, tab_len]))) .free rfl rfl ?_ ?_
    rotate_left
    · rintro _ _ ⟨⟩
    rintro _ _ ⟨bd, pa, rfl, rfl⟩
    refine kPa rfl rfl ?_; refine p_nil ?_; refine go_sub (σ' := [(8, _), (5, _), (4, _), (2, _)]) ⟨rfl, rfl, rfl, rfl, trivial⟩ ?_; refine g_seq ?_; refine g_seq ?_; refine g_region ?_
    rw [dev0_eq (by omega)]
    refine kPm rfl rfl ?_; refine kPv (ev_eqp Tryz.runUnderlying28 rfl rfl rfl) rfl ?_; refine kPm rfl rfl ?_; refine p_val rfl (ev_move rfl) (.on rfl rfl (beq_eq rfl)) rfl rfl ?_; refine p_val rfl (ev_loadA Tryz.isAgg30 Tryz.sizeOf30 rfl rfl) (.on rfl rfl (beq_eq rfl)) rfl rfl ?_
    refine p_call rfl (en_f Tryz.call121 rfl) (format_ok2 _ _ _ _ c) (.on rfl rfl (beq_eq rfl)) rfl rfl ?_ ?_
    rotate_left
    · rintro _ _ ⟨s9, hm9, rfl, rfl⟩
      exact (fmt_off hc hN hm9).elim
    rintro _ _ ⟨a, s1, hm1, rfl, rfl⟩
    refine p_val rfl (ev_cmp rfl rfl rfl) (.on rfl rfl (beq_eq rfl)) rfl rfl ?_; refine kPv (ev_pick_f rfl rfl rfl) rfl ?_; refine p_nil ?_; refine go_sub (σ' := [(40, _), (8, _), (5, _), (4, _)]) ⟨rfl, rfl, rfl, rfl, trivial⟩ ?_; refine g_iff rfl (by have := fmt_ok hc hN hm1; subst this; rfl) ?_
    refine g_skip ?_; refine g_seq ?_; refine g_region ?_; refine kPm rfl rfl ?_; refine kPa rfl rfl ?_; refine kPa rfl rfl ?_; refine p_nil ?_; refine g_ret ?_
    exact ret_tmp2 Tryz.results101 rfl rfl (fun w hh => ⟨_, ⟨bd, pa, N, s1, rfl, by rw [← fmt_ok hc hN hm1]; exact hm1, rfl, rfl⟩, (((hh.front 1 rfl).tail).front 1 rfl).tail⟩)


def d5 (pa : Nat) : Dev := ⟨pa, ⟨-1, 0⟩, 56, fun i => (List.replicate 56 (0 : Int)).getD i 0, fun i => (List.replicate 56 (0 : Int)).getD i 0, fun _ => none⟩
set_option maxRecDepth 100000 in
theorem d5_eval (pa : Nat) : okB ((d5 pa).format ⟨3, 1, 8⟩) (fun a s => a == 0 && s.readC.1.log == 3 && s.readC.1.roots == 1 && s.readC.1.space == 8 && s.readC.2 == 0 && (d5 pa).readC.2 == 7) = true := by kernel_rfl

theorem awake5_ok (B : World) (H : List HP) :
    ∀ w, Holds B H w → Calls Tryz.prog 155 [].toArray w (PureR B H (.bool true)) := by
  refine fn_enter Tryz.func155 rfl Tryz.ntmps155 rfl ?_; refine g_seq ?_; refine g_region ?_; refine kPa rfl rfl ?_; refine p_nil ?_; refine g_seq ?_; refine g_seq ?_; refine g_region ?_; refine p_callq rfl (en_f Tryz.call157 rfl) (awake4_ok _ _) .free rfl rfl ?_; refine kPv (ev_not rfl) rfl ?_; refine p_nil ?_; refine g_iff rfl (rfl) ?_; refine g_skip ?_; refine g_seq ?_; refine g_region ?_
  refine p_chg rfl (ch_make (n := 56) Tryz.runUnderlying31 tb_52 Tryz.sizeOf52 Tryz.zeroValue52 rfl rfl rfl (by omega)) .free rfl rfl ?_
  rintro _ _ ⟨bl, rfl, rfl⟩
  refine p_call rfl (en_f Tryz.call21 rfl) (new2_ok _ _ _ (List.replicate 56 0) (by decide) (by decide) (SlR.row (by simp [w64]) (by simp))) .free rfl rfl ?_ ?_
  rotate_left
  · rintro _ _ ⟨⟩
  rintro _ _ ⟨bd, pa, rfl, rfl⟩
  rw [show (⟨pa, ⟨-1, 0⟩, ((List.replicate 56 (0 : Int)).length + 7) / 8 * 8, fun i => (List.replicate 56 (0 : Int)).getD i 0, fun i => (List.replicate 56 (0 : Int)).getD i 0, fun _ => none⟩ : Dev) = d5 pa from rfl]
  refine kPa rfl rfl ?_; refine p_nil ?_; refine g_seq ?_; refine g_seq ?_; refine g_region ?_; refine kPm rfl rfl ?_; refine kPv (ev_eqp Tryz.runUnderlying28 rfl rfl rfl) rfl ?_; refine p_nil ?_; refine g_iff rfl (rfl) ?_; refine g_skip ?_; refine g_seq ?_; refine g_region ?_; refine kPm rfl rfl ?_; refine p_callq rfl (en_f Tryz.call158 rfl) (ro_at (q := DevA) (fun Fr => read_ok _ Fr _ _)) .free rfl rfl ?_; refine kPm rfl rfl ?_; refine kPv (ev_ext rfl rfl) rfl ?_
  refine kPv (ev_ext rfl rfl) rfl ?_; refine p_chg rfl (ch_allocA Tryz.zeroValue30 rfl) .free rfl rfl ?_
  rintro _ _ ⟨b2, rfl, rfl⟩
  refine p_chg0 rfl (ch_storeA (vs := _) Tryz.sizeOf30 rfl rfl rfl rfl rfl) .free rfl ?_
  rintro _ _ rfl
  refine kPa rfl rfl ?_; refine p_nil ?_; refine go_sub (σ' := [(3, _), (1, _), (0, _)]) ⟨rfl, rfl, rfl, trivial⟩ ?_; refine g_seq ?_; refine g_region ?_; refine go_front 1 rfl ?_; refine kPm rfl rfl ?_; refine kPv (ev_build rfl (bld_30_0_1_2 _ _ _ rfl rfl rfl)) rfl ?_
  refine p_call rfl (en_f Tryz.call121 rfl) (format_ok2 _ _ _ _ ⟨3, 1, 8⟩) .free rfl rfl ?_ ?_
  rotate_left
  · rintro _ _ ⟨s9, hm9, rfl, rfl⟩
    exact (okB_off (d5_eval pa) hm9).elim
  rintro _ _ ⟨a, s1, hm1, rfl, rfl⟩
  have hev := okB_ok (d5_eval pa) hm1
  simp only [Bool.and_eq_true, beq_iff_eq] at hev
  obtain ⟨⟨⟨⟨⟨v1, v2⟩, v3⟩, v4⟩, v5⟩, v6⟩ := hev
  have hw5 : CfgW s1.readC.1 := ⟨by omega, by omega, by omega, by omega, by omega, by omega⟩
  refine kPa rfl rfl ?_; refine p_nil ?_; refine g_seq ?_; refine g_region ?_; refine kPm rfl rfl ?_; refine p_callq rfl (en_f Tryz.call158 rfl) (ro_at (q := DevA) (fun Fr => read_ok _ Fr _ _)) .free rfl rfl ?_; refine kPm rfl rfl ?_; refine kPv (ev_ext rfl rfl) rfl ?_; refine kPv (ev_ext rfl rfl) rfl ?_; refine p_chg rfl (ch_allocA Tryz.zeroValue30 rfl) .free rfl rfl ?_
  rintro _ _ ⟨b5, rfl, rfl⟩
  refine p_chg0 rfl (ch_storeA (vs := _) Tryz.sizeOf30 rfl rfl rfl rfl rfl) .free rfl ?_
  rintro _ _ rfl
  refine kPa rfl rfl ?_; refine p_nil ?_; refine go_sub (σ' := [(6, _), (5, _), (4, _), (3, _), (0, _)]) ⟨rfl, rfl, rfl, rfl, rfl, trivial⟩ ?_; refine g_seq ?_; refine g_region ?_; refine kPm rfl rfl ?_; refine kPv (ev_cmp rfl rfl rfl) rfl ?_; refine kPm rfl rfl ?_
  apply p_and (tp := 31) (t := 28) (σ1 := [(28, _), (6, _), (5, _), (0, _)]) 3 rfl ⟨rfl, rfl, rfl, rfl, trivial⟩
  · intro hg1
    refine p_val rfl (ev_move rfl) (.on rfl rfl (beq_eq hg1)) rfl rfl ?_; refine p_val rfl (ev_cmp rfl rfl rfl) (.on rfl rfl (beq_eq hg1)) rfl rfl ?_; refine kPv (ev_pick_t rfl hg1 rfl) rfl ?_
    exact p_seg rfl ⟨rfl, rfl, rfl, rfl, trivial⟩ (and_t hg1)
  · intro hg1
    refine p_skip rfl (.on rfl rfl (beq_ne hg1)) rfl ?_; refine p_skip rfl (.on rfl rfl (beq_ne hg1)) rfl ?_; refine kPv (ev_pick_f rfl hg1 rfl) rfl ?_
    exact p_seg rfl ⟨rfl, rfl, rfl, rfl, trivial⟩ (and_f hg1)
  refine kPm rfl rfl ?_
  apply p_and (tp := 35) (t := 32) (σ1 := [(32, _), (5, _), (0, _)]) 3 rfl ⟨rfl, rfl, rfl, trivial⟩
  · intro hg2
    refine p_val rfl (ev_move rfl) (.on rfl rfl (beq_eq hg2)) rfl rfl ?_; refine p_val rfl (ev_cmp rfl rfl rfl) (.on rfl rfl (beq_eq hg2)) rfl rfl ?_; refine kPv (ev_pick_t rfl hg2 rfl) rfl ?_
    exact p_seg rfl ⟨rfl, rfl, rfl, trivial⟩ (and_t hg2)
  · intro hg2
    refine p_skip rfl (.on rfl rfl (beq_ne hg2)) rfl ?_; refine p_skip rfl (.on rfl rfl (beq_ne hg2)) rfl ?_; refine kPv (ev_pick_f rfl hg2 rfl) rfl ?_
    exact p_seg rfl ⟨rfl, rfl, rfl, trivial⟩ (and_f hg2)
  refine kPm rfl rfl ?_
  apply p_and (tp := 40) (t := 36) (σ1 := [(36, _), (0, _)]) 4 rfl ⟨rfl, rfl, trivial⟩
  · intro hg3
    refine p_val rfl (ev_loadA Tryz.isAgg30 Tryz.sizeOf30 rfl rfl) (.on rfl rfl (beq_eq hg3)) rfl rfl ?_; refine p_callq rfl (en_f Tryz.call44 rfl) (cwords_ok _ _ _ hw5) (.on rfl rfl (beq_eq hg3)) rfl rfl ?_; refine p_val rfl (ev_cmp rfl rfl rfl) (.on rfl rfl (beq_eq hg3)) rfl rfl ?_; refine kPv (ev_pick_t rfl hg3 rfl) rfl ?_
    exact p_seg rfl ⟨rfl, rfl, trivial⟩ (and_t hg3)
  · intro hg3
    refine p_skip rfl (.on rfl rfl (beq_ne hg3)) rfl ?_; refine p_skip rfl (.on rfl rfl (beq_ne hg3)) rfl ?_; refine p_skip rfl (.on rfl rfl (beq_ne hg3)) rfl ?_; refine kPv (ev_pick_f rfl hg3 rfl) rfl ?_
    exact p_seg rfl ⟨rfl, rfl, trivial⟩ (and_f hg3)
  refine kPa rfl rfl ?_; refine p_nil ?_; refine g_ret ?_
  exact ret_tmp Tryz.results155 rfl (fun w hw => ⟨ret_b (by rw [v6, v1, v5]; simp [Cfg.words, Cfg.frm, Cfg.root, Cfg.active, Cfg.record, linesI, v2, v3, v4]), hw.tail.tail.tail.tail⟩)


def l6 (d : Nat) (s : Dev) : Out (Int × LogS) := ((openL d ⟨3, 1, 8⟩ s).append s 40)
set_option maxRecDepth 100000 in
theorem d6_eval (pa d : Nat) : okB ((dev0 pa [] 56).format ⟨3, 1, 8⟩) (fun _ s => okB (l6 d s) fun x s' => x.1 == 0 && (openL d ⟨3, 1, 8⟩ s').n == 1 && (openL d ⟨3, 1, 8⟩ s').epoch == 1) = true := by kernel_rfl
def s7 (d : Nat) (s : Dev) : SecS := ⟨openL d ⟨3, 1, 8⟩ s, 0, 0, [], []⟩
set_option maxRecDepth 100000 in
theorem d7_eval (pa d : Nat) : okB ((dev0 pa [] 56).format ⟨3, 1, 8⟩) (fun _ s => okB ((s7 d s).store s 40 5) fun x s' => x.1 == 0 && s'.load 40 == 5 && okB (x.2.abort s') fun _ s2 => s2.load 40 == 0) = true := by kernel_rfl

theorem awake6_ok (B : World) (H : List HP) :
    ∀ w, Holds B H w → Calls Tryz.prog 154 [].toArray w (PureR B H (.bool true)) := by
  refine fn_enter Tryz.func154 rfl Tryz.ntmps154 rfl ?_; refine g_seq ?_; refine g_region ?_; refine kPa rfl rfl ?_; refine p_nil ?_; refine g_seq ?_; refine g_seq ?_; refine g_region ?_; refine p_callq rfl (en_f Tryz.call155 rfl) (awake5_ok _ _) .free rfl rfl ?_; refine kPv (ev_not rfl) rfl ?_; refine p_nil ?_; refine g_iff rfl (rfl) ?_; refine g_skip ?_; refine g_seq ?_; refine g_region ?_; refine kPv (ev_build rfl (bld_30_0_1_2 _ _ _ rfl rfl rfl)) rfl ?_
  refine p_chg rfl (ch_allocA Tryz.zeroValue30 rfl) .free rfl rfl ?_
  rintro _ _ ⟨b1, rfl, rfl⟩
  refine p_chg0 rfl (ch_storeA (vs := _) Tryz.sizeOf30 rfl rfl rfl rfl rfl) .free rfl ?_
  rintro _ _ rfl
  refine p_nil ?_; refine g_seq ?_; refine g_region ?_; refine kPv (ev_loadA Tryz.isAgg30 Tryz.sizeOf30 rfl rfl) rfl ?_
  refine p_call rfl (en_f Tryz.call101 rfl) (formatted_ok _ _ ⟨3, 1, 8⟩ cfg1 none 0 [] (by decide) (fun _ h => absurd h (Nat.not_lt_zero _)) SlR.nil) .free rfl rfl ?_ ?_
  rotate_left
  · rintro _ _ ⟨⟩
  rintro _ _ ⟨bd, pa, N, s0, hN, hf, rfl, rfl⟩
  obtain rfl : N = 56 := by have : (N : Int) = 56 := hN.trans (by decide); omega
  refine kPm rfl rfl ?_; refine kPv (ev_ext rfl rfl) rfl ?_; refine kPv (ev_ext rfl rfl) rfl ?_; refine kPa rfl rfl ?_; refine kPa rfl rfl ?_; refine p_nil ?_; refine go_sub (σ' := [(3, _), (2, _), (1, _), (0, _)]) ⟨rfl, rfl, rfl, rfl, trivial⟩ ?_; refine g_seq ?_; refine g_seq ?_; refine g_region ?_; refine kPm rfl rfl ?_; refine kPv (ev_not rfl) rfl ?_; refine p_nil ?_; refine g_iff rfl (rfl) ?_; refine g_skip ?_; refine g_seq ?_; refine g_region ?_; refine kPm rfl rfl ?_
  refine kPv (ev_loadA Tryz.isAgg30 Tryz.sizeOf30 rfl rfl) rfl ?_
  refine p_call rfl (en_f Tryz.call41 rfl) (lopen_ok _ _ _ _ ⟨3, 1, 8⟩ cfg1) .free rfl rfl ?_ ?_
  rotate_left
  · rintro _ _ ⟨⟩
  rintro _ _ ⟨bl2, rfl, rfl⟩
  refine kPa rfl rfl ?_; refine p_nil ?_; refine g_seq ?_; refine g_seq ?_; refine g_region ?_; refine kPm rfl rfl ?_; refine kPv (ev_eqp Tryz.runUnderlying39 rfl rfl rfl) rfl ?_; refine kPm rfl rfl ?_; refine p_val rfl (ev_move rfl) (.on rfl rfl (beq_eq rfl)) rfl rfl ?_
  refine p_call rfl (en_f Tryz.call107 rfl) (lappend_ok _ _ _ (openL bd ⟨3, 1, 8⟩ s0) s0 (openL_w cfg1) 40) (.on rfl rfl (beq_eq rfl)) rfl rfl ?_ ?_
  rotate_left
  · rintro _ _ ⟨s9, hm9, rfl, rfl⟩
    exact (okB_off (okB_ok (d6_eval pa bd) hf) hm9).elim
  rintro _ _ ⟨a, L1, s1, hm1, rfl, rfl⟩
  have hev := okB_ok (okB_ok (d6_eval pa bd) hf) hm1
  simp only [Bool.and_eq_true, beq_iff_eq] at hev
  obtain ⟨⟨e1, e2⟩, e3⟩ := hev
  refine p_val rfl (ev_cmp rfl rfl rfl) (.on rfl rfl (beq_eq rfl)) rfl rfl ?_; refine kPv (ev_pick_f rfl rfl rfl) rfl ?_; refine kPm rfl rfl ?_; refine p_val rfl (ev_move rfl) (.on rfl rfl (beq_eq (by rw [e1]; rfl))) rfl rfl ?_
  refine p_call rfl (en_f Tryz.call89 rfl) (lrecords_ok _ _ _) (.on rfl rfl (beq_eq (by rw [e1]; rfl))) rfl rfl ?_ ?_
  rotate_left
  · rintro _ _ ⟨⟩
  rintro _ _ ⟨bb, rfl, rfl⟩
  refine p_val rfl (ev_eqfn Tryz.runUnderlying149 ⟨_, _, _, rfl⟩ rfl rfl rfl) (.on rfl rfl (beq_eq (by rw [e1]; rfl))) rfl rfl ?_
  refine kPv (ev_pick_f rfl (by rw [e1]; rfl) rfl) rfl ?_
  refine p_nil ?_; refine go_sub (σ' := [(30, _), (2, _), (1, _), (0, _)]) ⟨rfl, rfl, rfl, rfl, trivial⟩ ?_; refine g_iff rfl (rfl) ?_; refine g_skip ?_; refine g_seq ?_; refine g_region ?_; refine go_front 2 rfl ?_
  simp only [List.eraseIdx_cons_succ, List.eraseIdx_cons_zero]
  refine kPm rfl rfl ?_; refine kPv (ev_loadA Tryz.isAgg30 Tryz.sizeOf30 rfl rfl) rfl ?_
  refine p_call rfl (en_f Tryz.call41 rfl) (lopen_ok _ _ _ _ ⟨3, 1, 8⟩ cfg1) .free rfl rfl ?_ ?_
  rotate_left
  · rintro _ _ ⟨⟩
  rintro _ _ ⟨bl5, rfl, rfl⟩
  refine kPa rfl rfl ?_; refine p_nil ?_; refine g_seq ?_; refine g_region ?_; refine kPm rfl rfl ?_; refine kPv (ev_eqp Tryz.runUnderlying39 rfl rfl rfl) rfl ?_; refine kPm rfl rfl ?_
  apply p_and (tp := 40) (t := 36) (σ1 := [(36, _), (5, _), (0, _)]) 4 rfl ⟨rfl, rfl, rfl, trivial⟩
  · intro hg1
    refine p_val rfl (ev_move rfl) (.on rfl rfl (beq_eq hg1)) rfl rfl ?_; refine p_callq rfl (en_f Tryz.call54 rfl) (llen_ok _ _ _ _) (.on rfl rfl (beq_eq hg1)) rfl rfl ?_; refine p_val rfl (ev_cmp rfl rfl rfl) (.on rfl rfl (beq_eq hg1)) rfl rfl ?_; refine kPv (ev_pick_t rfl hg1 rfl) rfl ?_
    exact p_seg rfl ⟨rfl, rfl, rfl, trivial⟩ (and_t hg1)
  · intro hg1
    refine p_skip rfl (.on rfl rfl (beq_ne hg1)) rfl ?_; refine p_skip rfl (.on rfl rfl (beq_ne hg1)) rfl ?_; refine p_skip rfl (.on rfl rfl (beq_ne hg1)) rfl ?_; refine kPv (ev_pick_f rfl hg1 rfl) rfl ?_
    exact p_seg rfl ⟨rfl, rfl, rfl, trivial⟩ (and_f hg1)
  refine kPm rfl rfl ?_
  apply p_and (tp := 45) (t := 41) (σ1 := [(41, _), (0, _)]) 4 rfl ⟨rfl, rfl, trivial⟩
  · intro hg2
    refine p_val rfl (ev_move rfl) (.on rfl rfl (beq_eq hg2)) rfl rfl ?_; refine p_callq rfl (en_f Tryz.call156 rfl) (lepoch_ok _ _ _ _) (.on rfl rfl (beq_eq hg2)) rfl rfl ?_; refine p_val rfl (ev_cmp rfl rfl rfl) (.on rfl rfl (beq_eq hg2)) rfl rfl ?_; refine kPv (ev_pick_t rfl hg2 rfl) rfl ?_
    exact p_seg rfl ⟨rfl, rfl, trivial⟩ (and_t hg2)
  · intro hg2
    refine p_skip rfl (.on rfl rfl (beq_ne hg2)) rfl ?_; refine p_skip rfl (.on rfl rfl (beq_ne hg2)) rfl ?_; refine p_skip rfl (.on rfl rfl (beq_ne hg2)) rfl ?_; refine kPv (ev_pick_f rfl hg2 rfl) rfl ?_
    exact p_seg rfl ⟨rfl, rfl, trivial⟩ (and_f hg2)
  refine kPa rfl rfl ?_; refine p_nil ?_; refine g_ret ?_
  exact ret_tmp Tryz.results154 rfl (fun w hw => ⟨ret_b (by
      show (!(some (⟨bl5, 0, none⟩ : Addr)).isNone && (openL bd ⟨3, 1, 8⟩ s1).n == 1 && (openL bd ⟨3, 1, 8⟩ s1).epoch == 1) = true
      rw [e2, e3]; rfl), hw.tail.tail.tail.tail.tail⟩)


theorem secW0 {d : Nat} {c : Cfg} {s : Dev} {f t : Int} (h : CfgW c) : SecW ⟨openL d c s, f, t, [], []⟩ := ⟨openL_w h, by simp⟩
theorem secC_log {B : World} {n : Nat} {D : List Deferred} {σ : Env} {b : Nat} {S : SecS} {Fr : List HP} {K : Act → World → Prop} (h : ∀ bl o1 o2, GO B n D σ (secRow b bl S false o1 o2 :: LogA bl S.L :: Fr) K) : GO B n D σ (SecC b S :: Fr) K := go_secC h
theorem store_w {S S' : SecS} {s s' : Dev} {i v a : Int} (h : SecW S) (hs : s.n ≤ 1000000) (ha : 0 ≤ S.L.c.active) (e : S.store s i v = .ok (a, S') s') (hw : LogW S'.L) : SecW S' := by
  refine ⟨hw, ?_⟩
  unfold SecS.store at e
  split at e
  · cases e; exact h.dirty
  · rename_i hb
    split at e
    · cases h1 : S.L.append s i with
      | off t => rw [h1] at e; cases e
      | ok x t =>
        rw [h1, then_ok] at e
        split at e
        · cases e; exact h.dirty
        · cases h2 : t.store i v with
          | off u => rw [h2] at e; cases e
          | ok y u =>
            rw [h2, then_ok] at e; cases e
            intro p hp
            rcases mset_mem hp with rfl | hp
            · simp only; omega
            · exact h.dirty p hp
    · cases h2 : s.store i v with
      | off u => rw [h2] at e; cases e
      | ok y u =>
        rw [h2, then_ok] at e; cases e
        intro p hp
        rcases mset_mem hp with rfl | hp
        · simp only; omega
        · exact h.dirty p hp
theorem append_w {L L' : LogS} {s s' : Dev} {i a : Int} (h : LogW L) (e : L.append s i = .ok (a, L') s') : LogW L' := by
  unfold LogS.append at e
  split at e
  · cases e; exact h
  · split at e
    · cases e; exact h
    · rename_i hn
      have h1 := h.n2
      have h2 := h.n1
      simp only [Out.then] at e
      repeat' split at e
      all_goals first | (cases e; exact ⟨h.c, h.e1, h.e2, by simp only; omega, by simp only; omega⟩) | cases e
theorem store_lw {S S' : SecS} {s s' : Dev} {i v a : Int} (h : LogW S.L) (e : S.store s i v = .ok (a, S') s') : LogW S'.L := by
  unfold SecS.store at e
  split at e
  · cases e; exact h
  · split at e
    · cases h1 : S.L.append s i with
      | off t => rw [h1] at e; cases e
      | ok x t =>
        obtain ⟨x1, x2⟩ := x
        have hx := append_w h h1
        rw [h1, then_ok] at e
        split at e
        · cases e; exact hx
        · cases h2 : t.store i v with
          | off u => rw [h2] at e; cases e
          | ok y u => rw [h2, then_ok] at e; cases e; exact hx
    · cases h2 : s.store i v with
      | off u => rw [h2] at e; cases e
      | ok y u => rw [h2, then_ok] at e; cases e; exact h


theorem store_dc {S S' : SecS} {s s' : Dev} {i v a : Int} (e : S.store s i v = .ok (a, S') s') : S'.L.d = S.L.d ∧ S'.L.c = S.L.c ∧ S'.ff = S.ff ∧ S'.ft = S.ft := by
  unfold SecS.store at e
  split at e
  · cases e; exact ⟨rfl, rfl, rfl, rfl⟩
  · split at e
    · cases h1 : S.L.append s i with
      | off t => rw [h1] at e; cases e
      | ok x t =>
        obtain ⟨x1, x2⟩ := x
        have hx := append_dc h1
        rw [h1, then_ok] at e
        split at e
        · cases e; exact ⟨hx.1, hx.2, rfl, rfl⟩
        · cases h2 : t.store i v with
          | off u => rw [h2] at e; cases e
          | ok y u => rw [h2, then_ok] at e; cases e; exact ⟨hx.1, hx.2, rfl, rfl⟩
    · cases h2 : s.store i v with
      | off u => rw [h2] at e; cases e
      | ok y u => rw [h2, then_ok] at e; cases e; exact ⟨rfl, rfl, rfl, rfl⟩

theorem awake7_ok (B : World) (H : List HP) :
    ∀ w, Holds B H w → Calls Tryz.prog 153 [].toArray w (PureR B H (.bool true)) := by
  refine fn_enter Tryz.func153 rfl Tryz.ntmps153 rfl ?_; refine g_seq ?_; refine g_region ?_; refine kPa rfl rfl ?_; refine p_nil ?_; refine g_seq ?_; refine g_seq ?_; refine g_region ?_; refine p_callq rfl (en_f Tryz.call154 rfl) (awake6_ok _ _) .free rfl rfl ?_; refine kPv (ev_not rfl) rfl ?_; refine p_nil ?_; refine g_iff rfl (rfl) ?_; refine g_skip ?_; refine g_seq ?_; refine g_region ?_; refine kPv (ev_build rfl (bld_30_0_1_2 _ _ _ rfl rfl rfl)) rfl ?_
  refine p_chg rfl (ch_allocA Tryz.zeroValue30 rfl) .free rfl rfl ?_
  rintro _ _ ⟨b1, rfl, rfl⟩
  refine p_chg0 rfl (ch_storeA (vs := _) Tryz.sizeOf30 rfl rfl rfl rfl rfl) .free rfl ?_
  rintro _ _ rfl
  refine p_nil ?_; refine g_seq ?_; refine g_region ?_; refine kPv (ev_loadA Tryz.isAgg30 Tryz.sizeOf30 rfl rfl) rfl ?_
  refine p_call rfl (en_f Tryz.call101 rfl) (formatted_ok _ _ ⟨3, 1, 8⟩ cfg1 none 0 [] (by decide) (fun _ h => absurd h (Nat.not_lt_zero _)) SlR.nil) .free rfl rfl ?_ ?_
  rotate_left
  · rintro _ _ ⟨⟩
  rintro _ _ ⟨bd, pa, N, s0, hN, hf, rfl, rfl⟩
  obtain rfl : N = 56 := by have : (N : Int) = 56 := hN.trans (by decide); omega
  refine kPm rfl rfl ?_; refine kPv (ev_ext rfl rfl) rfl ?_; refine kPv (ev_ext rfl rfl) rfl ?_; refine kPa rfl rfl ?_; refine kPa rfl rfl ?_; refine p_nil ?_; refine go_sub (σ' := [(3, _), (2, _), (1, _), (0, _)]) ⟨rfl, rfl, rfl, rfl, trivial⟩ ?_; refine g_seq ?_; refine g_seq ?_; refine g_region ?_; refine kPm rfl rfl ?_; refine kPv (ev_not rfl) rfl ?_; refine p_nil ?_; refine g_iff rfl (rfl) ?_; refine g_skip ?_; refine g_seq ?_; refine g_region ?_; refine kPm rfl rfl ?_
  refine kPv (ev_loadA Tryz.isAgg30 Tryz.sizeOf30 rfl rfl) rfl ?_
  refine p_call rfl (en_f Tryz.call13 rfl) (snew_ok _ _ _ _ ⟨3, 1, 8⟩ cfg1) .free rfl rfl ?_ ?_
  rotate_left
  · rintro _ _ ⟨⟩
  rintro _ _ ⟨bs, rfl, rfl⟩
  refine kPa rfl rfl ?_; refine p_nil ?_; refine go_sub (σ' := [(4, _), (2, _), (0, _)]) ⟨rfl, rfl, rfl, trivial⟩ ?_; refine g_seq ?_; refine g_seq ?_; refine g_region ?_; refine go_secC fun bl o1 o2 => ?_; refine kPm rfl rfl ?_; refine kPv (ev_eqp Tryz.runUnderlying37 rfl rfl rfl) rfl ?_; refine kPm rfl rfl ?_; refine p_val rfl (ev_move rfl) (.on rfl rfl (beq_eq rfl)) rfl rfl ?_
  first | refine p_val rfl (ev_nil rfl) (.on rfl rfl (beq_eq rfl)) rfl rfl ?_ | refine p_val rfl (ev_nilf rfl) (.on rfl rfl (beq_eq rfl)) rfl rfl ?_
  refine p_val rfl (ev_fa (m := _) fa_44_0 rfl rfl) (.on rfl rfl (beq_eq rfl)) rfl rfl ?_; refine p_val rfl (ev_load Tryz.isAgg39 rfl rfl) (.on rfl rfl (beq_eq rfl)) rfl rfl ?_; refine p_val rfl (ev_eqp Tryz.runUnderlying39 rfl rfl rfl) (.on rfl rfl (beq_eq rfl)) rfl rfl ?_; refine kPv (ev_pick_f rfl rfl rfl) rfl ?_; refine p_nil ?_; refine go_sub (σ' := [(30, _), (4, _), (2, _), (0, _)]) ⟨rfl, rfl, rfl, rfl, trivial⟩ ?_; refine g_iff rfl (rfl) ?_; refine g_skip ?_; refine g_seq ?_
  refine g_region ?_; refine go_conv (H' := SecC bs (⟨openL bd ⟨3, 1, 8⟩ s0, 0, 0, [], []⟩ : SecS) :: DevA bd s0 :: row b1 _ 30 :: H) (fun w hh => secC_holds (S := (⟨openL bd ⟨3, 1, 8⟩ s0, 0, 0, [], []⟩ : SecS)) hh) ?_; refine go_dw bd fun hn1 hn2 hn3 => ?_; refine kPm rfl rfl ?_; refine kPv (ev_build rfl (bld_41)) rfl ?_
  refine p_call rfl (en_f Tryz.call18 rfl) (sbeginC_ok _ _ _ _ _ _) .free rfl rfl ?_ ?_
  rotate_left
  · rintro _ _ ⟨⟩
  rintro _ _ ⟨rfl, rfl⟩
  refine kPm rfl rfl ?_
  refine p_call rfl (en_f Tryz.call77 rfl) (sstoreO_ok _ _ _ (⟨openL bd ⟨3, 1, 8⟩ s0, 0, 0, [], []⟩ : SecS) s0 (secW0 cfg1) _ _) .free rfl rfl ?_ ?_
  rotate_left
  · rintro _ _ ⟨s9, hm9, rfl, rfl⟩
    exact (okB_off (okB_ok (d7_eval pa bd) hf) hm9).elim
  rintro _ _ ⟨a, S1, s1, hm1, rfl, rfl⟩
  have hev := okB_ok (okB_ok (d7_eval pa bd) hf) hm1
  simp only [Bool.and_eq_true, beq_iff_eq] at hev
  obtain ⟨⟨e1, e2⟩, e3⟩ := hev
  have hd := (store_dc hm1).1
  have hW1 : SecW S1 := store_w (secW0 cfg1) hn3 (show (0 : Int) ≤ (Cfg.mk 3 1 8).active by decide) hm1 (store_lw (openL_w cfg1) hm1)
  refine go_conv (H' := SecO bs S1 :: DevA bd s1 :: row b1 _ 30 :: H) (fun w hh => hh) ?_; refine kPa rfl rfl ?_; refine kPa rfl rfl ?_; refine p_nil ?_; refine g_seq ?_; refine g_region ?_; refine kPm rfl rfl ?_; refine p_callq rfl (en_f Tryz.call72 rfl) (ro_at (q := DevA) (fun Fr => nload_ok _ Fr _ _ _)) .free rfl rfl ?_; refine kPa rfl rfl ?_; refine p_nil ?_; refine go_sub (σ' := [(7, _), (6, _), (5, _), (4, _), (2, _), (0, _)]) ⟨rfl, rfl, rfl, rfl, rfl, rfl, trivial⟩ ?_; refine g_seq ?_
  refine g_region ?_; refine go_conv (H' := SecO bs S1 :: DevA S1.L.d s1 :: row b1 _ 30 :: H) (fun w hh => by rw [hd]; exact hh) ?_
  refine kPm rfl rfl ?_
  refine p_call rfl (en_f Tryz.call20 rfl) (sabortO_ok _ _ _ S1 s1 hW1) .free rfl rfl ?_ ?_
  rotate_left
  · rintro _ _ ⟨s9, hm9, rfl, rfl⟩
    exact (okB_off e3 hm9).elim
  rintro _ _ ⟨S2, s2, hm2, rfl, rfl⟩
  have e4 := okB_ok e3 hm2
  simp only [beq_iff_eq] at e4
  refine go_conv (H' := SecC bs S2 :: DevA bd s2 :: row b1 _ 30 :: H) (fun w hh => by rw [hd] at hh; exact hh) ?_
  refine kPa rfl rfl ?_; refine p_nil ?_; refine g_seq ?_; refine g_region ?_; refine kPm rfl rfl ?_; refine kPv (ev_cmp rfl rfl rfl) rfl ?_; refine kPm rfl rfl ?_
  apply p_and (tp := 45) (t := 42) (σ1 := [(42, _), (8, _), (7, _), (4, _), (2, _), (0, _)]) 3 rfl ⟨rfl, rfl, rfl, rfl, rfl, rfl, trivial⟩
  · intro hg1
    refine p_val rfl (ev_move rfl) (.on rfl rfl (beq_eq hg1)) rfl rfl ?_; refine p_val rfl (ev_cmp rfl rfl rfl) (.on rfl rfl (beq_eq hg1)) rfl rfl ?_; refine kPv (ev_pick_t rfl hg1 rfl) rfl ?_
    exact p_seg rfl ⟨rfl, rfl, rfl, rfl, rfl, rfl, trivial⟩ (and_t hg1)
  · intro hg1
    refine p_skip rfl (.on rfl rfl (beq_ne hg1)) rfl ?_; refine p_skip rfl (.on rfl rfl (beq_ne hg1)) rfl ?_; refine kPv (ev_pick_f rfl hg1 rfl) rfl ?_
    exact p_seg rfl ⟨rfl, rfl, rfl, rfl, rfl, rfl, trivial⟩ (and_f hg1)
  refine kPm rfl rfl ?_
  apply p_and (tp := 49) (t := 46) (σ1 := [(46, _), (7, _), (4, _), (2, _), (0, _)]) 3 rfl ⟨rfl, rfl, rfl, rfl, rfl, trivial⟩
  · intro hg2
    refine p_val rfl (ev_move rfl) (.on rfl rfl (beq_eq hg2)) rfl rfl ?_; refine p_val rfl (ev_cmp rfl rfl rfl) (.on rfl rfl (beq_eq hg2)) rfl rfl ?_; refine kPv (ev_pick_t rfl hg2 rfl) rfl ?_
    exact p_seg rfl ⟨rfl, rfl, rfl, rfl, rfl, trivial⟩ (and_t hg2)
  · intro hg2
    refine p_skip rfl (.on rfl rfl (beq_ne hg2)) rfl ?_; refine p_skip rfl (.on rfl rfl (beq_ne hg2)) rfl ?_; refine kPv (ev_pick_f rfl hg2 rfl) rfl ?_
    exact p_seg rfl ⟨rfl, rfl, rfl, rfl, rfl, trivial⟩ (and_f hg2)
  refine kPm rfl rfl ?_
  apply p_and (tp := 53) (t := 50) (σ1 := [(50, _), (4, _), (2, _), (0, _)]) 3 rfl ⟨rfl, rfl, rfl, rfl, trivial⟩
  · intro hg3
    refine p_val rfl (ev_move rfl) (.on rfl rfl (beq_eq hg3)) rfl rfl ?_; refine p_val rfl (ev_cmp rfl rfl rfl) (.on rfl rfl (beq_eq hg3)) rfl rfl ?_; refine kPv (ev_pick_t rfl hg3 rfl) rfl ?_
    exact p_seg rfl ⟨rfl, rfl, rfl, rfl, trivial⟩ (and_t hg3)
  · intro hg3
    refine p_skip rfl (.on rfl rfl (beq_ne hg3)) rfl ?_; refine p_skip rfl (.on rfl rfl (beq_ne hg3)) rfl ?_; refine kPv (ev_pick_f rfl hg3 rfl) rfl ?_
    exact p_seg rfl ⟨rfl, rfl, rfl, rfl, trivial⟩ (and_f hg3)
  refine kPm rfl rfl ?_
  apply p_and (tp := 58) (t := 54) (σ1 := [(54, _), (4, _), (0, _)]) 4 rfl ⟨rfl, rfl, rfl, trivial⟩
  · intro hg4
    refine p_val rfl (ev_move rfl) (.on rfl rfl (beq_eq hg4)) rfl rfl ?_; refine p_callq rfl (en_f Tryz.call72 rfl) (ro_at (q := DevA) (fun Fr => nload_ok _ Fr _ _ _)) (.on rfl rfl (beq_eq hg4)) rfl rfl ?_; refine p_val rfl (ev_cmp rfl rfl rfl) (.on rfl rfl (beq_eq hg4)) rfl rfl ?_; refine kPv (ev_pick_t rfl hg4 rfl) rfl ?_
    exact p_seg rfl ⟨rfl, rfl, rfl, trivial⟩ (and_t hg4)
  · intro hg4
    refine p_skip rfl (.on rfl rfl (beq_ne hg4)) rfl ?_; refine p_skip rfl (.on rfl rfl (beq_ne hg4)) rfl ?_; refine p_skip rfl (.on rfl rfl (beq_ne hg4)) rfl ?_; refine kPv (ev_pick_f rfl hg4 rfl) rfl ?_
    exact p_seg rfl ⟨rfl, rfl, rfl, trivial⟩ (and_f hg4)
  refine kPm rfl rfl ?_
  apply p_and (tp := 63) (t := 59) (σ1 := [(59, _), (0, _)]) 4 rfl ⟨rfl, rfl, trivial⟩
  · intro hg5
    refine p_val rfl (ev_move rfl) (.on rfl rfl (beq_eq hg5)) rfl rfl ?_; refine p_callq rfl (en_f Tryz.call53 rfl) (sopenC_ok _ _ _ _) (.on rfl rfl (beq_eq hg5)) rfl rfl ?_; refine p_val rfl (ev_not rfl) (.on rfl rfl (beq_eq hg5)) rfl rfl ?_; refine kPv (ev_pick_t rfl hg5 rfl) rfl ?_
    exact p_seg rfl ⟨rfl, rfl, trivial⟩ (and_t hg5)
  · intro hg5
    refine p_skip rfl (.on rfl rfl (beq_ne hg5)) rfl ?_; refine p_skip rfl (.on rfl rfl (beq_ne hg5)) rfl ?_; refine p_skip rfl (.on rfl rfl (beq_ne hg5)) rfl ?_; refine kPv (ev_pick_f rfl hg5 rfl) rfl ?_
    exact p_seg rfl ⟨rfl, rfl, trivial⟩ (and_f hg5)
  refine kPa rfl rfl ?_; refine p_nil ?_; refine g_ret ?_
  exact ret_tmp Tryz.results153 rfl (fun w hw => ⟨ret_b (by rw [e1, e2, e4]; rfl), hw.tail.tail.tail⟩)

end Go.Proofs.YtbfheafpecgphaaGreat
