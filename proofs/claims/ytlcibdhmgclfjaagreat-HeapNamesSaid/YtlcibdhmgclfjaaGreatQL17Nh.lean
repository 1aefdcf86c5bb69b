/- Part of the texts beneath a law: what its proof names. Conditions: none. -/
import Derived.Test.YtlcibdhmgclfjaaGreatQL17Ng
set_option linter.unusedSimpArgs false
set_option linter.unusedVariables false
set_option linter.unnecessarySimpa false
set_option linter.unusedSectionVars false
namespace Go.Proofs.YtlcibdhmgclfjaaGreat
open Go
theorem out_ne {p : Pow} (h : p.lim < 0) : p.out = false := by simp [Pow.out]; omega
theorem store_ne {s : Dev} {i v : Int} (h : s.pow.lim < 0) (hi : 0 ≤ i ∧ i < s.n) : s.store i v = .ok 0 (s.up.st i.toNat v) := by
  have : s.has i = true := by simp [Dev.has, hi]
  simp [Dev.store, this, out_ne h]
theorem flush_ne {s : Dev} {i : Int} (h : s.pow.lim < 0) (hi : 0 ≤ i ∧ i < s.n) : s.flush i = .ok 0 (s.up.fl i.toNat) := by
  have : s.has i = true := by simp [Dev.has, hi]
  simp [Dev.flush, this, out_ne h]
theorem fence_ne {s : Dev} (h : s.pow.lim < 0) : s.fence = .ok () s.up.fe := by simp [Dev.fence, out_ne h]
theorem ret_b {x : Bool} (h : x = true) : Ending.returned (.bool x) = Ending.returned (.bool true) := by rw [h]
theorem ok_inj {α : Type} {a b : α} {s t : Dev} (h : Out.ok a s = Out.ok b t) : a = b ∧ s = t := by cases h; exact ⟨rfl, rfl⟩
theorem ok_off {α : Type} {a : α} {s t : Dev} (h : Out.ok a s = Out.off t) : False := by cases h
theorem aw1_ok (B : World) (Fr : List HP) (bp pb : Nat) :
    ∀ w, Holds B (row bp [ptr pb] 78 :: PowA pb ⟨1, 0⟩ :: Fr) w → Calls Tryz.prog 222 [ptr bp].toArray w (Ret B (fun _ _ => False) (fun c H' => c = offc ∧ H' = row bp [ptr pb] 78 :: PowA pb ⟨1, 1⟩ :: Fr)) := by
  refine fn_enter Tryz.func222 rfl Tryz.ntmps222 rfl (g_seq (g_region (kPv (ev_load Tryz.isAgg78 rfl rfl) rfl ?_)))
  refine p_call rfl (en_f Tryz.call165 rfl) (up_at (fun Fr => tick_ok _ Fr _ _)) .free rfl rfl ?_ ?_
  rotate_left
  · rintro _ _ ⟨_, ⟨ho, rfl, rfl⟩, rfl⟩
    first | (exfalso; revert ho; decide) | exact pan_fn fun w hw => ⟨_, ⟨rfl, rfl⟩, hw⟩
  rintro _ _ ⟨_, ⟨ho, rfl, rfl⟩, rfl⟩
  refine p_nil (g_region (kPv (ev_load Tryz.isAgg78 rfl rfl) rfl ?_))
  refine p_call rfl (en_f Tryz.call165 rfl) (up_at (fun Fr => tick_ok _ Fr _ _)) .free rfl rfl ?_ ?_
  rotate_left
  · rintro _ _ ⟨_, ⟨ho, rfl, rfl⟩, rfl⟩
    first | (exfalso; revert ho; decide) | exact pan_fn fun w hw => ⟨_, ⟨rfl, rfl⟩, hw⟩
  rintro _ _ ⟨_, ⟨ho, rfl, rfl⟩, rfl⟩
  exfalso; revert ho; decide
theorem aw2_ok (B : World) (H : List HP) :
    ∀ w, Holds B H w → Calls Tryz.prog 224 [].toArray w (PureR B H (.tuple #[])) := by
  refine fn_enter Tryz.func224 rfl Tryz.ntmps224 rfl (g_skip ?_)
  exact end_none Tryz.results224 (fun w hw => ⟨rfl, hw⟩)
theorem awake1_ok (B : World) (H : List HP) :
    ∀ w, Holds B H w → Calls Tryz.prog 220 [].toArray w (PureR B H (.bool true)) := by
  refine fn_enter Tryz.func220 rfl Tryz.ntmps220 rfl (g_seq (g_region (kPa rfl rfl (p_nil (g_seq (g_region ?_))))))
  refine p_call rfl (en_f Tryz.call35 rfl) (pnew_ok _ _ _) .free rfl rfl ?_ ?_
  rotate_left
  · rintro _ _ ⟨⟩
  rintro _ _ ⟨pb, rfl, rfl⟩
  refine p_chg rfl (ch_alloc1 Tryz.zeroValue78 rfl) .free rfl rfl ?_
  rintro _ _ ⟨b1, rfl, rfl⟩
  refine p_chg0 rfl (ch_store Tryz.sizeOf78 rfl rfl (by first | rfl | assumption) rfl) .free rfl ?_
  rintro _ _ rfl
  refine p_nil (g_seq (g_seq (g_region (kPv (ev_load Tryz.isAgg78 rfl rfl) rfl (kPv (ev_eqp Tryz.runUnderlying78 rfl rfl rfl) rfl (p_nil (g_iff rfl (rfl) (g_skip (g_seq (g_region (kPv (ev_mkf rfl rfl) rfl ?_)))))))))))
  refine p_call rfl (en_f Tryz.call36 rfl) (run_det false (row b1 [ptr pb] 78 :: PowA pb ⟨1, 1⟩ :: H) Tryz.call222 (fun A w hw => (aw1_ok B (A :: H) b1 pb w ((hw.front 2 rfl).front 2 rfl)).mono (Ret.mono (fun _ _ h => h.elim) (fun c H' h => ⟨rfl, h.1, fun w hw => h.2 ▸ hw |>.front 2 rfl⟩)))) .free rfl rfl ?_ ?_
  rotate_left
  · rintro _ _ ⟨⟩
  rintro _ _ ⟨rfl, rfl⟩
  refine kPa rfl rfl (p_nil (g_seq (g_region (kPm rfl rfl (kPv (ev_not rfl) rfl (kPm rfl rfl ?_))))))
  apply p_and (tp := 14) (t := 10) (σ1 := [(10, _), (0, _)]) 4 rfl ⟨rfl, rfl, trivial⟩
  · intro hg1
    refine p_val rfl (ev_load Tryz.isAgg78 rfl rfl) (.on rfl rfl (beq_eq hg1)) rfl rfl (p_callq rfl (en_f Tryz.call223 rfl) (ro_at (fun Fr => used_ok _ Fr _ _)) (.on rfl rfl (beq_eq hg1)) rfl rfl ?_)
    refine p_val rfl (ev_cmp rfl rfl rfl) (.on rfl rfl (beq_eq hg1)) rfl rfl (kPv (ev_pick_t rfl hg1 rfl) rfl ?_)
    exact p_seg rfl ⟨rfl, rfl, trivial⟩ (and_t hg1)
  · intro hg1
    refine p_skip rfl (.on rfl rfl (beq_ne hg1)) rfl (p_skip rfl (.on rfl rfl (beq_ne hg1)) rfl (p_skip rfl (.on rfl rfl (beq_ne hg1)) rfl (kPv (ev_pick_f rfl hg1 rfl) rfl ?_)))
    exact p_seg rfl ⟨rfl, rfl, trivial⟩ (and_f hg1)
  refine kPm rfl rfl ?_
  apply p_and (tp := 17) (t := 15) (σ1 := [(15, _), (0, _)]) 2 rfl ⟨rfl, rfl, trivial⟩
  · intro hg2
    refine p_call rfl (en_f Tryz.call36 rfl) (run_det true (row b1 [ptr pb] 78 :: PowA pb ⟨1, 1⟩ :: H) Tryz.call224 (fun A w hw => (aw2_ok B _ w hw).mono fun _ _ h => h.ret ⟨rfl, fun _ h => h⟩)) (.on rfl rfl (beq_eq hg2)) rfl rfl ?_ ?_
    rotate_left
    · rintro _ _ ⟨⟩
    rintro _ _ ⟨rfl, rfl⟩
    refine kPv (ev_pick_t rfl hg2 rfl) rfl ?_
    exact p_seg rfl ⟨rfl, rfl, trivial⟩ (and_t hg2)
  · intro hg2
    refine p_skip rfl (.on rfl rfl (beq_ne hg2)) rfl (kPv (ev_pick_f rfl hg2 rfl) rfl ?_)
    exact p_seg rfl ⟨rfl, rfl, trivial⟩ (and_f hg2)
  refine kPa rfl rfl (p_nil (g_ret ?_))
  exact ret_tmp Tryz.results220 rfl (fun w hw => ⟨rfl, hw.tail.tail⟩)
theorem new2_ok (B : World) (Fr : List HP) (sv : Value) (xs : List Int) (hx0 : 0 < xs.length) (hx1 : xs.length ≤ 100000) (hr : SlR B Fr sv (xs.map w64)) :
    ∀ w, Holds B Fr w → Calls Tryz.prog 109 [sv].toArray w (Ret B (fun rv H' => ∃ b pa, rv = ptr b ∧ H' = DevA b ⟨pa, ⟨-1, 0⟩, (xs.length + 7) / 8 * 8, fun i => xs.getD i 0, fun i => xs.getD i 0, fun _ => none⟩ :: Fr) (fun _ _ => False)) := by
  refine fn_enter Tryz.func109 rfl Tryz.ntmps109 rfl (g_seq (g_region (kPa rfl rfl (p_nil (g_seq (g_region ?_))))))
  refine p_call rfl (en_f Tryz.call35 rfl) (pnew_ok _ _ _) .free rfl rfl ?_ ?_
  rotate_left
  · rintro _ _ ⟨⟩
  rintro _ _ ⟨pb, rfl, rfl⟩
  refine kPm rfl rfl ?_
  refine p_call rfl (en_f Tryz.call66 rfl) (nnew_ok _ _ _ _ _ xs hx0 hx1 hr) .free rfl rfl ?_ ?_
  rotate_left
  · rintro _ _ ⟨⟩
  rintro _ _ ⟨b, rfl, rfl⟩
  refine kPa rfl rfl (p_nil (g_ret ?_))
  exact ret_tmp Tryz.results109 rfl (fun w hw => ⟨_, ⟨b, pb, rfl, rfl⟩, hw⟩)
theorem aw21_ok (B : World) (H : List HP) (i : Int) :
    ∀ w, Holds B H w → Calls Tryz.prog 221 [i64 i].toArray w (PureR B H (.int .u8 0)) := by
  refine fn_enter Tryz.func221 rfl Tryz.ntmps221 rfl (g_seq (g_region (kPa rfl rfl (p_nil (g_seq (g_region (kPa rfl rfl (p_nil (g_ret ?_)))))))))
  exact ret_tmp Tryz.results221 rfl (fun w hw => ⟨rfl, hw⟩)
theorem awake2_ok (B : World) (H : List HP) :
    ∀ w, Holds B H w → Calls Tryz.prog 219 [].toArray w (PureR B H (.bool true)) := by
  refine fn_enter Tryz.func219 rfl Tryz.ntmps219 rfl (g_seq (g_region (kPa rfl rfl (p_nil (g_seq (g_seq (g_region (p_callq rfl (en_f Tryz.call220 rfl) (awake1_ok _ _) .free rfl rfl ?_))))))))
  refine kPv (ev_not rfl) rfl (p_nil (g_iff rfl (rfl) (g_skip (g_seq (g_region (p_chg rfl (ch_bs1 Tryz.runUnderlying25 Tryz.sizeOf26 Tryz.zeroValue26 rfl rfl rfl) .free rfl rfl ?_))))))
  rintro _ _ ⟨b6, rfl, rfl⟩
  refine p_call rfl (en_f Tryz.call109 rfl) (new2_ok _ _ _ [1] (by decide) (by decide) (SlR.row rfl rfl)) .free rfl rfl ?_ ?_
  rotate_left
  · rintro _ _ ⟨⟩
  rintro _ _ ⟨bd, pa, rfl, rfl⟩
  refine kPa rfl rfl (p_nil (g_seq (g_seq (g_region (kPm rfl rfl (kPv (ev_eqp Tryz.runUnderlying28 rfl rfl rfl) rfl (p_nil (g_iff rfl (rfl) (g_skip (g_seq (g_region ?_)))))))))))
  refine kPm rfl rfl ?_
  refine p_call rfl (en_f Tryz.call120 rfl) (up_at (q := DevA) (fun Fr => nstore_ok _ Fr _ _ _ _)) .free rfl rfl ?_ ?_
  rotate_left
  · rintro _ _ ⟨s9, ⟨hm9, rfl⟩, rfl⟩
    exact (ok_off ((store_ne (s := (⟨pa, ⟨-1, 0⟩, 8, fun i => ([1] : List Int).getD i 0, fun i => ([1] : List Int).getD i 0, fun _ => none⟩ : Dev)) (i := 0) (v := 5) (show (-1 : Int) < 0 by decide) ⟨by decide, show (0 : Int) < 8 by decide⟩).symm.trans hm9)).elim
  rintro _ _ ⟨s1, ⟨e1, hm1, rfl⟩, rfl⟩
  obtain ⟨rfl, rfl⟩ := ok_inj ((store_ne (s := (⟨pa, ⟨-1, 0⟩, 8, fun i => ([1] : List Int).getD i 0, fun i => ([1] : List Int).getD i 0, fun _ => none⟩ : Dev)) (i := 0) (v := 5) (show (-1 : Int) < 0 by decide) ⟨by decide, show (0 : Int) < 8 by decide⟩).symm.trans hm1)
  refine kPa rfl rfl (p_nil (go_sb [2, 1, 0] rfl (g_seq (g_region (kPm rfl rfl (p_callq rfl (en_f Tryz.call71 rfl) (ro_at (q := DevA) (fun Fr => nload_ok _ Fr _ _ _)) .free rfl rfl ?_))))))
  refine kPa rfl rfl (p_nil (g_seq (g_region (kPm rfl rfl ?_))))
  refine p_call rfl (en_f Tryz.call16 rfl) (ncrash_ok _ _ _ ((⟨pa, ⟨-1, 0⟩, 8, fun i => ([1] : List Int).getD i 0, fun i => ([1] : List Int).getD i 0, fun _ => none⟩ : Dev).up.st 0 5) 221 [] (fun _ => 0) ⟨Tryz.call221, fun _ => by decide, fun H _ i _ => aw21_ok B H i⟩) .free rfl rfl ?_ ?_
  rotate_left
  · rintro _ _ ⟨⟩
  rintro _ _ rfl
  refine p_nil (g_seq (g_region (kPm rfl rfl (kPv (ev_cmp rfl rfl rfl) rfl (kPm rfl rfl ?_)))))
  apply p_and (tp := 21) (t := 18) (σ1 := [(18, _), (1, _), (0, _)]) 3 rfl (sub_r rfl)
  · intro hg1
    refine p_val rfl (ev_move rfl) (.on rfl rfl (beq_eq hg1)) rfl rfl (p_val rfl (ev_cmp rfl rfl rfl) (.on rfl rfl (beq_eq hg1)) rfl rfl (kPv (ev_pick_t rfl hg1 rfl) rfl ?_))
    exact p_seg rfl (sub_r rfl) (and_t hg1)
  · intro hg1
    refine p_skip rfl (.on rfl rfl (beq_ne hg1)) rfl (p_skip rfl (.on rfl rfl (beq_ne hg1)) rfl (kPv (ev_pick_f rfl hg1 rfl) rfl ?_))
    exact p_seg rfl (sub_r rfl) (and_f hg1)
  refine kPm rfl rfl ?_
  apply p_and (tp := 26) (t := 22) (σ1 := [(22, _), (1, _), (0, _)]) 4 rfl (sub_r rfl)
  · intro hg2
    refine p_val rfl (ev_move rfl) (.on rfl rfl (beq_eq hg2)) rfl rfl (p_callq rfl (en_f Tryz.call71 rfl) (ro_at (q := DevA) (fun Fr => nload_ok _ Fr _ _ _)) (.on rfl rfl (beq_eq hg2)) rfl rfl ?_)
    refine p_val rfl (ev_cmp rfl rfl rfl) (.on rfl rfl (beq_eq hg2)) rfl rfl (kPv (ev_pick_t rfl hg2 rfl) rfl ?_)
    exact p_seg rfl (sub_r rfl) (and_t hg2)
  · intro hg2
    refine p_skip rfl (.on rfl rfl (beq_ne hg2)) rfl (p_skip rfl (.on rfl rfl (beq_ne hg2)) rfl (p_skip rfl (.on rfl rfl (beq_ne hg2)) rfl (kPv (ev_pick_f rfl hg2 rfl) rfl ?_)))
    exact p_seg rfl (sub_r rfl) (and_f hg2)
  refine kPm rfl rfl ?_
  apply p_and (tp := 31) (t := 27) (σ1 := [(27, _), (0, _)]) 4 rfl ⟨rfl, rfl, trivial⟩
  · intro hg3
    refine p_val rfl (ev_move rfl) (.on rfl rfl (beq_eq hg3)) rfl rfl (p_callq rfl (en_f Tryz.call118 rfl) (ro_at (q := DevA) (fun Fr => nlen_ok _ Fr _ _)) (.on rfl rfl (beq_eq hg3)) rfl rfl ?_)
    refine p_val rfl (ev_cmp rfl rfl rfl) (.on rfl rfl (beq_eq hg3)) rfl rfl (kPv (ev_pick_t rfl hg3 rfl) rfl ?_)
    exact p_seg rfl ⟨rfl, rfl, trivial⟩ (and_t hg3)
  · intro hg3
    refine p_skip rfl (.on rfl rfl (beq_ne hg3)) rfl (p_skip rfl (.on rfl rfl (beq_ne hg3)) rfl (p_skip rfl (.on rfl rfl (beq_ne hg3)) rfl (kPv (ev_pick_f rfl hg3 rfl) rfl ?_)))
    exact p_seg rfl ⟨rfl, rfl, trivial⟩ (and_f hg3)
  refine kPa rfl rfl (p_nil (g_ret ?_))
  exact ret_tmp Tryz.results219 rfl (fun w hw => ⟨rfl, hw.tail.tail⟩)
theorem cfg1 : CfgW ⟨3, 1, 8⟩ := ⟨by decide, by decide, by decide, by decide, by decide, by decide⟩
def packI (w r : Int) : Int := bitI .or .u64 (bitI .or .u64 12754194144713244672 (IntKind.u64.wrap (IntKind.u64.wrap r * 2 ^ min (32 : Int).toNat IntKind.u64.bits))) (IntKind.u64.wrap w)
def chkH (w r : Int) : Int := if 0 ≤ w ∧ w ≤ 64 ∧ 0 ≤ r ∧ r ≤ w then 0 else 5
def unpW (w : Int) : Int := IntKind.i64.wrap (IntKind.u32.wrap w)
def unpR (w : Int) : Int := IntKind.i64.wrap (bitI .and .u64 (w.fdiv (2 ^ min (32 : Int).toNat IntKind.u64.bits)) 16777215)
def unp (w : Int) : Int × Int × Bool := if chkH (unpW w) (unpR w) = 0 ∧ packI (unpW w) (unpR w) = w then (unpW w, unpR w, true) else (0, 0, false)
theorem awake3_ok (B : World) (H : List HP) :
    ∀ w, Holds B H w → Calls Tryz.prog 218 [].toArray w (PureR B H (.bool true)) := by
  refine fn_enter Tryz.func218 rfl Tryz.ntmps218 rfl (g_seq (g_region (kPa rfl rfl (p_nil (g_seq (g_seq (g_region (p_callq rfl (en_f Tryz.call219 rfl) (awake2_ok _ _) .free rfl rfl ?_))))))))
  refine kPv (ev_not rfl) rfl (p_nil (g_iff rfl (rfl) (g_skip (g_seq (g_region (kPv (ev_build rfl (bld_40_0_1_2 _ _ _ rfl rfl rfl)) rfl (p_chg rfl (ch_allocA Tryz.zeroValue40 rfl) .free rfl rfl ?_)))))))
  rintro _ _ ⟨b1, rfl, rfl⟩
  refine p_chg0 rfl (ch_storeA (vs := _) Tryz.sizeOf40 rfl rfl rfl rfl rfl) .free rfl ?_
  rintro _ _ rfl
  refine p_nil (g_seq (g_region (kPv (ev_loadA Tryz.isAgg40 Tryz.sizeOf40 rfl rfl) rfl ?_)))
  refine p_callq rfl (en_f Tryz.call129 rfl) (check_ok _ _ ⟨3, 1, 8⟩) .free rfl rfl ?_
  refine kPv (ev_cmp rfl rfl rfl) rfl (kPm rfl rfl ?_)
  apply p_and (tp := 12) (t := 8) (σ1 := [(8, _), (1, _), (0, _)]) 4 rfl (sub_r rfl)
  · intro hg1
    refine p_val rfl (ev_loadA Tryz.isAgg40 Tryz.sizeOf40 rfl rfl) (.on rfl rfl (beq_eq hg1)) rfl rfl ?_
    refine p_callq rfl (en_f Tryz.call117 rfl) (active_ok _ _ ⟨3, 1, 8⟩ cfg1) (.on rfl rfl (beq_eq hg1)) rfl rfl ?_
    refine p_val rfl (ev_cmp rfl rfl rfl) (.on rfl rfl (beq_eq hg1)) rfl rfl (kPv (ev_pick_t rfl hg1 rfl) rfl ?_)
    exact p_seg rfl (sub_r rfl) (and_t hg1)
  · intro hg1
    refine p_skip rfl (.on rfl rfl (beq_ne hg1)) rfl (p_skip rfl (.on rfl rfl (beq_ne hg1)) rfl (p_skip rfl (.on rfl rfl (beq_ne hg1)) rfl (kPv (ev_pick_f rfl hg1 rfl) rfl ?_)))
    exact p_seg rfl (sub_r rfl) (and_f hg1)
  refine kPm rfl rfl ?_
  apply p_and (tp := 17) (t := 13) (σ1 := [(13, _), (1, _), (0, _)]) 4 rfl (sub_r rfl)
  · intro hg2
    refine p_val rfl (ev_loadA Tryz.isAgg40 Tryz.sizeOf40 rfl rfl) (.on rfl rfl (beq_eq hg2)) rfl rfl ?_
    refine p_callq rfl (en_f Tryz.call140 rfl) (from_ok _ _ ⟨3, 1, 8⟩ cfg1 _ (by omega) (by omega)) (.on rfl rfl (beq_eq hg2)) rfl rfl ?_
    refine p_val rfl (ev_cmp rfl rfl rfl) (.on rfl rfl (beq_eq hg2)) rfl rfl (kPv (ev_pick_t rfl hg2 rfl) rfl ?_)
    exact p_seg rfl (sub_r rfl) (and_t hg2)
  · intro hg2
    refine p_skip rfl (.on rfl rfl (beq_ne hg2)) rfl (p_skip rfl (.on rfl rfl (beq_ne hg2)) rfl (p_skip rfl (.on rfl rfl (beq_ne hg2)) rfl (kPv (ev_pick_f rfl hg2 rfl) rfl ?_)))
    exact p_seg rfl (sub_r rfl) (and_f hg2)
  refine kPm rfl rfl ?_
  apply p_and (tp := 22) (t := 18) (σ1 := [(18, _), (0, _)]) 4 rfl ⟨rfl, rfl, trivial⟩
  · intro hg3
    refine p_val rfl (ev_loadA Tryz.isAgg40 Tryz.sizeOf40 rfl rfl) (.on rfl rfl (beq_eq hg3)) rfl rfl ?_
    refine p_callq rfl (en_f Tryz.call108 rfl) (cwords_ok _ _ ⟨3, 1, 8⟩ cfg1) (.on rfl rfl (beq_eq hg3)) rfl rfl ?_
    refine p_val rfl (ev_cmp rfl rfl rfl) (.on rfl rfl (beq_eq hg3)) rfl rfl (kPv (ev_pick_t rfl hg3 rfl) rfl ?_)
    exact p_seg rfl ⟨rfl, rfl, trivial⟩ (and_t hg3)
  · intro hg3
    refine p_skip rfl (.on rfl rfl (beq_ne hg3)) rfl (p_skip rfl (.on rfl rfl (beq_ne hg3)) rfl (p_skip rfl (.on rfl rfl (beq_ne hg3)) rfl (kPv (ev_pick_f rfl hg3 rfl) rfl ?_)))
    exact p_seg rfl ⟨rfl, rfl, trivial⟩ (and_f hg3)
  refine kPa rfl rfl (p_nil (g_ret ?_))
  exact ret_tmp Tryz.results218 rfl (fun w hw => ⟨ret_b (by decide +kernel), hw.tail⟩)
theorem hcheck_ok (B : World) (H : List HP) (x r : Int) :
    ∀ w, Holds B H w → Calls Tryz.prog 113 [.agg #[i64 x, i64 r]].toArray w (PureR B H (i64 (chkH x r))) := by
  refine fn_enter Tryz.func113 rfl Tryz.ntmps113 rfl (g_seq (g_region (p_chg rfl (ch_boxA rfl) .free rfl rfl ?_)))
  rintro _ _ ⟨b1, rfl, rfl⟩
  refine kPa rfl rfl (p_nil (g_seq (g_seq (g_region (kPv (ev_fa (m := _) fa_38_0 rfl rfl) rfl (kPv (ev_load Tryz.isAgg3 rfl rfl) rfl (kPv (ev_cmp rfl rfl rfl) rfl (kPm rfl rfl ?_))))))))
  apply p_or (tp := 10) (t := 6) (σ1 := [(6, _), (2, _), (1, _)]) 4 rfl (sub_r rfl)
  · intro hg1
    refine p_val rfl (ev_fa (m := _) fa_38_0 rfl rfl) (.on rfl rfl (beq_eq hg1)) rfl rfl (p_val rfl (ev_load Tryz.isAgg3 rfl rfl) (.on rfl rfl (beq_eq hg1)) rfl rfl (p_val rfl (ev_cmp rfl rfl rfl) (.on rfl rfl (beq_eq hg1)) rfl rfl (kPv (ev_pick_f rfl hg1 rfl) rfl ?_)))
    exact p_seg rfl (sub_r rfl) (or_f hg1)
  · intro hg1
    refine p_skip rfl (.on rfl rfl (beq_ne hg1)) rfl (p_skip rfl (.on rfl rfl (beq_ne hg1)) rfl (p_skip rfl (.on rfl rfl (beq_ne hg1)) rfl (kPv (ev_pick_t rfl hg1 rfl) rfl ?_)))
    exact p_seg rfl (sub_r rfl) (or_t hg1)
  refine kPm rfl rfl ?_
  apply p_or (tp := 15) (t := 11) (σ1 := [(11, _), (2, _), (1, _)]) 4 rfl (sub_r rfl)
  · intro hg2
    refine p_val rfl (ev_fa (m := _) fa_38_1 rfl rfl) (.on rfl rfl (beq_eq hg2)) rfl rfl (p_val rfl (ev_load Tryz.isAgg3 rfl rfl) (.on rfl rfl (beq_eq hg2)) rfl rfl (p_val rfl (ev_cmp rfl rfl rfl) (.on rfl rfl (beq_eq hg2)) rfl rfl (kPv (ev_pick_f rfl hg2 rfl) rfl ?_)))
    exact p_seg rfl (sub_r rfl) (or_f hg2)
  · intro hg2
    refine p_skip rfl (.on rfl rfl (beq_ne hg2)) rfl (p_skip rfl (.on rfl rfl (beq_ne hg2)) rfl (p_skip rfl (.on rfl rfl (beq_ne hg2)) rfl (kPv (ev_pick_t rfl hg2 rfl) rfl ?_)))
    exact p_seg rfl (sub_r rfl) (or_t hg2)
  refine kPm rfl rfl ?_
  apply p_or (tp := 22) (t := 16) (σ1 := [(16, _), (2, _)]) 6 rfl ⟨rfl, rfl, trivial⟩
  · intro hg3
    refine p_val rfl (ev_fa (m := _) fa_38_1 rfl rfl) (.on rfl rfl (beq_eq hg3)) rfl rfl (p_val rfl (ev_load Tryz.isAgg3 rfl rfl) (.on rfl rfl (beq_eq hg3)) rfl rfl (p_val rfl (ev_fa (m := _) fa_38_0 rfl rfl) (.on rfl rfl (beq_eq hg3)) rfl rfl (p_val rfl (ev_load Tryz.isAgg3 rfl rfl) (.on rfl rfl (beq_eq hg3)) rfl rfl (p_val rfl (ev_cmp rfl rfl rfl) (.on rfl rfl (beq_eq hg3)) rfl rfl (kPv (ev_pick_f rfl hg3 rfl) rfl ?_)))))
    exact p_seg rfl ⟨rfl, rfl, trivial⟩ (or_f hg3)
  · intro hg3
    refine p_skip rfl (.on rfl rfl (beq_ne hg3)) rfl (p_skip rfl (.on rfl rfl (beq_ne hg3)) rfl (p_skip rfl (.on rfl rfl (beq_ne hg3)) rfl (p_skip rfl (.on rfl rfl (beq_ne hg3)) rfl (p_skip rfl (.on rfl rfl (beq_ne hg3)) rfl (kPv (ev_pick_t rfl hg3 rfl) rfl ?_)))))
    exact p_seg rfl ⟨rfl, rfl, trivial⟩ (or_t hg3)
  refine p_nil ?_
  refine g_if rfl (fun h22 => ?_) (fun h22 => ?_)
  · try simp only [decide_eq_true_eq, decide_eq_false_iff_not, Bool.not_eq_true', Bool.not_eq_false', Bool.or_eq_true, Bool.and_eq_true, Bool.and_eq_false_iff, Bool.or_eq_false_iff, beq_iff_eq, bne_iff_ne, beq_eq_false_iff_ne, bne_eq_false_iff_eq, ge_iff_le, gt_iff_lt, ne_eq] at h22
    refine g_seq (g_region (kPa rfl rfl (p_nil (g_ret ?_))))
    exact ret_tmp Tryz.results113 rfl (fun w hw => ⟨by unfold chkH; rw [if_neg (by omega)], hw.tail⟩)
  · try simp only [decide_eq_true_eq, decide_eq_false_iff_not, Bool.not_eq_true', Bool.not_eq_false', Bool.or_eq_true, Bool.and_eq_true, Bool.and_eq_false_iff, Bool.or_eq_false_iff, beq_iff_eq, bne_iff_ne, beq_eq_false_iff_ne, bne_eq_false_iff_eq, ge_iff_le, gt_iff_lt, ne_eq] at h22
    refine g_skip (g_seq (g_region (kPa rfl rfl (p_nil (g_ret ?_)))))
    exact ret_tmp Tryz.results113 rfl (fun w hw => ⟨by unfold chkH; rw [if_pos (by omega)], hw.tail⟩)
theorem hpack_ok (B : World) (H : List HP) (x r : Int) :
    ∀ w, Holds B H w → Calls Tryz.prog 116 [.agg #[i64 x, i64 r]].toArray w (PureR B H (w64 (packI x r))) := by
  refine fn_enter Tryz.func116 rfl Tryz.ntmps116 rfl (g_seq (g_region (p_chg rfl (ch_boxA rfl) .free rfl rfl ?_)))
  rintro _ _ ⟨b1, rfl, rfl⟩
  refine kPa rfl rfl (p_nil (g_seq (g_region (kPv (ev_fa (m := _) fa_38_1 rfl rfl) rfl (kPv (ev_load Tryz.isAgg3 rfl rfl) rfl ?_)))))
  first | refine p_val rfl (ev_conv Tryz.runUnderlying3 Tryz.runUnderlying26 rfl (wru64 (by omega))) .free rfl rfl ?_ | refine p_val rfl (ev_conv Tryz.runUnderlying3 Tryz.runUnderlying26 rfl rfl) .free rfl rfl ?_
  first | refine p_val rfl (ev_shl rfl rfl (by decide) rfl) .free rfl rfl ?_ | refine p_val rfl (ev_shl rfl rfl (by omega) rfl) .free rfl rfl ?_
  refine kPv (ev_or rfl rfl rfl) rfl (kPv (ev_fa (m := _) fa_38_0 rfl rfl) rfl (kPv (ev_load Tryz.isAgg3 rfl rfl) rfl ?_))
  first | refine p_val rfl (ev_conv Tryz.runUnderlying3 Tryz.runUnderlying26 rfl (wru64 (by omega))) .free rfl rfl ?_ | refine p_val rfl (ev_conv Tryz.runUnderlying3 Tryz.runUnderlying26 rfl rfl) .free rfl rfl ?_
  refine kPv (ev_or rfl rfl rfl) rfl (kPa rfl rfl (p_nil (go_sb [2] rfl (g_ret ?_))))
  exact ret_tmp Tryz.results116 rfl (fun w hw => ⟨rfl, hw.tail⟩)
theorem hsize_ok (B : World) (H : List HP) (x r : Int) (h : 0 ≤ x ∧ x ≤ 1000000) :
    ∀ w, Holds B H w → Calls Tryz.prog 114 [.agg #[i64 x, i64 r]].toArray w (PureR B H (i64 (x + 1))) := by
  refine fn_enter Tryz.func114 rfl Tryz.ntmps114 rfl (g_seq (g_region (p_chg rfl (ch_boxA rfl) .free rfl rfl ?_)))
  rintro _ _ ⟨b1, rfl, rfl⟩
  refine kPa rfl rfl (p_nil (g_seq (g_region (kPv (ev_fa (m := _) fa_38_0 rfl rfl) rfl (kPv (ev_load Tryz.isAgg3 rfl rfl) rfl ?_)))))
  first | refine p_val rfl (ev_add rfl rfl (wr64 (by omega))) .free rfl rfl ?_ | refine p_val rfl (ev_add rfl rfl rfl) .free rfl rfl ?_
  refine kPa rfl rfl (p_nil (g_ret ?_))
  exact ret_tmp Tryz.results114 rfl (fun w hw => ⟨rfl, hw.tail⟩)
theorem unpack_ok (B : World) (H : List HP) (v : Int) :
    ∀ w, Holds B H w → Calls Tryz.prog 158 [w64 v].toArray w (PureR B H (.tuple #[.agg #[i64 (unp v).1, i64 (unp v).2.1], .bool (unp v).2.2])) := by
  refine fn_enter Tryz.func158 rfl Tryz.ntmps158 rfl (g_seq (g_region (p_chg rfl (ch_allocA Tryz.zeroValue38 rfl) .free rfl rfl ?_)))
  rintro _ _ ⟨b2, rfl, rfl⟩
  refine kPa rfl rfl (p_nil (g_seq (g_region (kPm rfl rfl (kPv (ev_conv Tryz.runUnderlying26 Tryz.runUnderlying228 rfl rfl) rfl ?_)))))
  first | refine p_val rfl (ev_conv Tryz.runUnderlying228 Tryz.runUnderlying3 rfl (wr64 (by omega))) .free rfl rfl ?_ | refine p_val rfl (ev_conv Tryz.runUnderlying228 Tryz.runUnderlying3 rfl rfl) .free rfl rfl ?_
  refine kPm rfl rfl ?_
  first | refine p_val rfl (ev_shr rfl rfl (by decide) rfl) .free rfl rfl ?_ | refine p_val rfl (ev_shr rfl rfl (by omega) rfl) .free rfl rfl ?_
  refine kPv (ev_and rfl rfl rfl) rfl ?_
  first | refine p_val rfl (ev_conv Tryz.runUnderlying26 Tryz.runUnderlying3 rfl (wr64 (by omega))) .free rfl rfl ?_ | refine p_val rfl (ev_conv Tryz.runUnderlying26 Tryz.runUnderlying3 rfl rfl) .free rfl rfl ?_
  refine kPv (ev_build rfl (bld_38_0_1 _ _ rfl rfl)) rfl (p_chg rfl (ch_allocA Tryz.zeroValue38 rfl) .free rfl rfl ?_)
  rintro _ _ ⟨b4, rfl, rfl⟩
  refine p_chg0 rfl (ch_storeA (vs := _) Tryz.sizeOf38 rfl rfl rfl rfl rfl) .free rfl ?_
  rintro _ _ rfl
  refine p_nil (go_sb [4, 3, 2, 0] rfl (g_seq (g_seq (g_region (kPv (ev_loadA Tryz.isAgg38 Tryz.sizeOf38 rfl rfl) rfl ?_)))))
  refine p_callq rfl (en_f Tryz.call113 rfl) (hcheck_ok _ _ (unpW v) (unpR v)) .free rfl rfl ?_
  refine kPv (ev_cmp rfl rfl rfl) rfl (kPm rfl rfl ?_)
  apply p_or (tp := 21) (t := 16) (σ1 := [(16, _), (4, _), (3, _), (2, _)]) 5 rfl (sub_r rfl)
  · intro hg1
    refine p_val rfl (ev_loadA Tryz.isAgg38 Tryz.sizeOf38 rfl rfl) (.on rfl rfl (beq_eq hg1)) rfl rfl ?_
    refine p_callq rfl (en_f Tryz.call116 rfl) (hpack_ok _ _ (unpW v) (unpR v)) (.on rfl rfl (beq_eq hg1)) rfl rfl ?_
    refine p_val rfl (ev_move rfl) (.on rfl rfl (beq_eq hg1)) rfl rfl (p_val rfl (ev_cmp rfl rfl rfl) (.on rfl rfl (beq_eq hg1)) rfl rfl (kPv (ev_pick_f rfl hg1 rfl) rfl ?_))
    exact p_seg rfl (sub_r rfl) (or_f hg1)
  · intro hg1
    refine p_skip rfl (.on rfl rfl (beq_ne hg1)) rfl (p_skip rfl (.on rfl rfl (beq_ne hg1)) rfl (p_skip rfl (.on rfl rfl (beq_ne hg1)) rfl (p_skip rfl (.on rfl rfl (beq_ne hg1)) rfl (kPv (ev_pick_t rfl hg1 rfl) rfl ?_))))
    exact p_seg rfl (sub_r rfl) (or_t hg1)
  refine p_nil ?_
  refine g_if rfl (fun h21 => ?_) (fun h21 => ?_)
  · have hbad : ¬ (chkH (unpW v) (unpR v) = 0 ∧ packI (unpW v) (unpR v) = v) := by
      rintro ⟨q1, q2⟩
      rw [q1, q2] at h21; simp at h21
    refine g_seq (g_region (kPv (ev_build rfl (bld_38)) rfl (p_chg0 rfl (ch_storeA (vs := _) Tryz.sizeOf38 rfl rfl rfl rfl rfl) .free rfl ?_)))
    rintro _ _ rfl
    refine kPa rfl rfl (p_nil (g_ret ?_))
    exact ret_2 Tryz.results158 (.cellA rfl Tryz.isAgg38 Tryz.sizeOf38 rfl rfl) (.tmp rfl) (fun w hw => ⟨by unfold unp; rw [if_neg hbad]; rfl, hw.tail.tail⟩)
  · have hgd : chkH (unpW v) (unpR v) = 0 ∧ packI (unpW v) (unpR v) = v := by simpa using h21
    refine g_skip (g_seq (g_region (kPv (ev_loadA Tryz.isAgg38 Tryz.sizeOf38 rfl rfl) rfl ?_)))
    refine p_chg0 rfl (ch_storeA (vs := _) Tryz.sizeOf38 rfl rfl rfl rfl rfl) .free rfl ?_
    rintro _ _ rfl
    refine kPa rfl rfl (p_nil (g_ret ?_))
    exact ret_2 Tryz.results158 (.cellA rfl Tryz.isAgg38 Tryz.sizeOf38 rfl rfl) (.tmp rfl) (fun w hw => ⟨by unfold unp; rw [if_pos hgd]; rfl, hw.tail.tail⟩)
theorem awake4_ok (B : World) (H : List HP) :
    ∀ w, Holds B H w → Calls Tryz.prog 217 [].toArray w (PureR B H (.bool true)) := by
  refine fn_enter Tryz.func217 rfl Tryz.ntmps217 rfl (g_seq (g_region (kPa rfl rfl (p_nil (g_seq (g_seq (g_region (p_callq rfl (en_f Tryz.call218 rfl) (awake3_ok _ _) .free rfl rfl ?_))))))))
  refine kPv (ev_not rfl) rfl (p_nil (g_iff rfl (rfl) (g_skip (g_seq (g_region (p_callq rfl (en_f Tryz.call158 rfl) (unpack_ok _ _ _) .free rfl rfl ?_))))))
  refine kPm rfl rfl (kPv (ev_ext rfl rfl) rfl (kPv (ev_ext rfl rfl) rfl (p_chg rfl (ch_allocA Tryz.zeroValue38 rfl) .free rfl rfl ?_)))
  rintro _ _ ⟨b1, rfl, rfl⟩
  refine p_chg0 rfl (ch_storeA (vs := _) Tryz.sizeOf38 rfl rfl rfl rfl rfl) .free rfl ?_
  rintro _ _ rfl
  refine kPa rfl rfl (p_nil (g_seq (g_region (kPm rfl rfl (kPm rfl rfl ?_)))))
  apply p_and (tp := 14) (t := 10) (σ1 := [(10, _), (1, _), (0, _)]) 4 rfl (sub_r rfl)
  · intro hg1
    refine p_val rfl (ev_fa (m := _) fa_38_0 rfl rfl) (.on rfl rfl (beq_eq hg1)) rfl rfl (p_val rfl (ev_load Tryz.isAgg3 rfl rfl) (.on rfl rfl (beq_eq hg1)) rfl rfl (p_val rfl (ev_cmp rfl rfl rfl) (.on rfl rfl (beq_eq hg1)) rfl rfl (kPv (ev_pick_t rfl hg1 rfl) rfl ?_)))
    exact p_seg rfl (sub_r rfl) (and_t hg1)
  · intro hg1
    refine p_skip rfl (.on rfl rfl (beq_ne hg1)) rfl (p_skip rfl (.on rfl rfl (beq_ne hg1)) rfl (p_skip rfl (.on rfl rfl (beq_ne hg1)) rfl (kPv (ev_pick_f rfl hg1 rfl) rfl ?_)))
    exact p_seg rfl (sub_r rfl) (and_f hg1)
  refine kPm rfl rfl ?_
  apply p_and (tp := 19) (t := 15) (σ1 := [(15, _), (1, _), (0, _)]) 4 rfl (sub_r rfl)
  · intro hg2
    refine p_val rfl (ev_fa (m := _) fa_38_1 rfl rfl) (.on rfl rfl (beq_eq hg2)) rfl rfl (p_val rfl (ev_load Tryz.isAgg3 rfl rfl) (.on rfl rfl (beq_eq hg2)) rfl rfl (p_val rfl (ev_cmp rfl rfl rfl) (.on rfl rfl (beq_eq hg2)) rfl rfl (kPv (ev_pick_t rfl hg2 rfl) rfl ?_)))
    exact p_seg rfl (sub_r rfl) (and_t hg2)
  · intro hg2
    refine p_skip rfl (.on rfl rfl (beq_ne hg2)) rfl (p_skip rfl (.on rfl rfl (beq_ne hg2)) rfl (p_skip rfl (.on rfl rfl (beq_ne hg2)) rfl (kPv (ev_pick_f rfl hg2 rfl) rfl ?_)))
    exact p_seg rfl (sub_r rfl) (and_f hg2)
  refine kPm rfl rfl ?_
  apply p_and (tp := 24) (t := 20) (σ1 := [(20, _), (1, _), (0, _)]) 4 rfl (sub_r rfl)
  · intro hg3
    refine p_val rfl (ev_loadA Tryz.isAgg38 Tryz.sizeOf38 rfl rfl) (.on rfl rfl (beq_eq hg3)) rfl rfl ?_
    refine p_callq rfl (en_f Tryz.call114 rfl) (hsize_ok _ _ _ _ ⟨by decide, by decide⟩) (.on rfl rfl (beq_eq hg3)) rfl rfl ?_
    refine p_val rfl (ev_cmp rfl rfl rfl) (.on rfl rfl (beq_eq hg3)) rfl rfl (kPv (ev_pick_t rfl hg3 rfl) rfl ?_)
    exact p_seg rfl (sub_r rfl) (and_t hg3)
  · intro hg3
    refine p_skip rfl (.on rfl rfl (beq_ne hg3)) rfl (p_skip rfl (.on rfl rfl (beq_ne hg3)) rfl (p_skip rfl (.on rfl rfl (beq_ne hg3)) rfl (kPv (ev_pick_f rfl hg3 rfl) rfl ?_)))
    exact p_seg rfl (sub_r rfl) (and_f hg3)
  refine kPm rfl rfl ?_
  apply p_and (tp := 29) (t := 25) (σ1 := [(25, _), (0, _)]) 4 rfl ⟨rfl, rfl, trivial⟩
  · intro hg4
    refine p_val rfl (ev_loadA Tryz.isAgg38 Tryz.sizeOf38 rfl rfl) (.on rfl rfl (beq_eq hg4)) rfl rfl ?_
    refine p_callq rfl (en_f Tryz.call116 rfl) (hpack_ok _ _ _ _) (.on rfl rfl (beq_eq hg4)) rfl rfl ?_
    refine p_val rfl (ev_cmp rfl rfl rfl) (.on rfl rfl (beq_eq hg4)) rfl rfl (kPv (ev_pick_t rfl hg4 rfl) rfl ?_)
    exact p_seg rfl ⟨rfl, rfl, trivial⟩ (and_t hg4)
  · intro hg4
    refine p_skip rfl (.on rfl rfl (beq_ne hg4)) rfl (p_skip rfl (.on rfl rfl (beq_ne hg4)) rfl (p_skip rfl (.on rfl rfl (beq_ne hg4)) rfl (kPv (ev_pick_f rfl hg4 rfl) rfl ?_)))
    exact p_seg rfl ⟨rfl, rfl, trivial⟩ (and_f hg4)
  refine kPa rfl rfl (p_nil (g_ret ?_))
  exact ret_tmp Tryz.results217 rfl (fun w hw => ⟨ret_b (by decide +kernel), hw.tail⟩)
end Go.Proofs.YtlcibdhmgclfjaaGreat
namespace Go.Proofs.YtlcibdhmgclfjaaGreat
open Go
def readW (s : Dev) (j : Nat) : Int := IntKind.i64.wrap (s.load (1 + (j : Int)))
def Dev.readC (s : Dev) : Cfg × Int :=
  if s.load 0 ≠ magicI then (⟨0, 0, 0⟩, 7)
  else if 4096 < s.load 1 ∨ 4096 < s.load 2 ∨ 4096 < s.load 3 then (⟨0, 0, 0⟩, 1)
  else if ¬ CfgW ⟨readW s 0, readW s 1, readW s 2⟩ ∨ (s.n : Int) ≠ Cfg.words ⟨readW s 0, readW s 1, readW s 2⟩ then (⟨0, 0, 0⟩, 1)
  else (⟨readW s 0, readW s 1, readW s 2⟩, 0)
def rrow (s : Dev) (k : Nat) : List Value := tab 3 fun j => i64 (if j < k then readW s j else 0)
theorem rrow_set {s : Dev} {k : Nat} {x : Int} (h : x = readW s k) : (rrow s k).set k (i64 x) = rrow s (k + 1) := by
  subst h
  unfold rrow
  rw [tab_set]
  refine tab_congr fun j _ => ?_
  simp only [upd]
  by_cases e : j = k
  · subst e; simp
  · rw [if_neg e]
    by_cases e2 : j < k
    · rw [if_pos e2, if_pos (by omega)]
    · rw [if_neg e2, if_neg (by omega)]
theorem rrow_get {s : Dev} {k : Nat} (h : k < 3) : (rrow s 3)[k]? = some (i64 (readW s k)) := by
  unfold rrow; rw [tab_get h, if_pos h]
theorem read_ok (B : World) (Fr : List HP) (b : Nat) (s : Dev) :
    ∀ w, Holds B (DevA b s :: Fr) w → Calls Tryz.prog 63 [ptr b].toArray w (PureR B (DevA b s :: Fr) (.tuple #[cfgV s.readC.1, i64 s.readC.2])) := by
  refine fn_enter Tryz.func63 rfl Tryz.ntmps63 rfl ?_
  generalize hres : s.readC = res
  refine g_seq (g_region (p_chg rfl (ch_allocA Tryz.zeroValue40 rfl) .free rfl rfl ?_))
  rintro _ _ ⟨b2, rfl, rfl⟩
  refine kPa rfl rfl (p_nil (g_seq (g_seq (g_region (kPm rfl rfl (p_callq rfl (en_f Tryz.call71 rfl) (ro_at (q := DevA) (fun Fr => nload_ok _ Fr _ _ _)) .free rfl rfl ?_))))))
  refine kPv (ev_cmp rfl rfl rfl) rfl (p_nil ?_)
  refine g_if rfl (fun h10 => ?_) (fun h10 => ?_)
  · try simp only [decide_eq_true_eq, decide_eq_false_iff_not, Bool.not_eq_true', Bool.not_eq_false', Bool.or_eq_true, Bool.and_eq_true, Bool.and_eq_false_iff, Bool.or_eq_false_iff, beq_iff_eq, bne_iff_ne, beq_eq_false_iff_ne, bne_eq_false_iff_eq, ge_iff_le, gt_iff_lt, ne_eq] at h10
    refine g_seq (g_region (kPv (ev_build rfl (bld_40)) rfl (p_chg0 rfl (ch_storeA (vs := _) Tryz.sizeOf40 rfl rfl rfl rfl rfl) .free rfl ?_)))
    rintro _ _ rfl
    refine kPa rfl rfl (p_nil (g_ret ?_))
    exact ret_2 Tryz.results63 (.cellA rfl Tryz.isAgg40 Tryz.sizeOf40 rfl rfl) (.tmp rfl) (fun w hw => ⟨by rw [← hres]; unfold Dev.readC; rw [if_pos (by simpa [magicI] using h10)]; rfl, hw.tail⟩)
  · try simp only [decide_eq_true_eq, decide_eq_false_iff_not, Bool.not_eq_true', Bool.not_eq_false', Bool.or_eq_true, Bool.and_eq_true, Bool.and_eq_false_iff, Bool.or_eq_false_iff, beq_iff_eq, bne_iff_ne, beq_eq_false_iff_ne, bne_eq_false_iff_eq, ge_iff_le, gt_iff_lt, ne_eq] at h10
    refine g_skip (g_seq (g_region (p_chg rfl (ch_allocA Tryz.zeroValue169 rfl) .free rfl rfl ?_)))
    rintro _ _ ⟨b4, rfl, rfl⟩
    refine p_nil (g_seq (g_seq (g_region (kPm rfl rfl (p_nil (g_block (g_loop (ι := Nat) (fun k => k ≤ 3 ∧ ∀ j : Nat, j < k → s.load (1 + (j : Int)) ≤ 4096) (fun k => [(0, ptr b), (2, ptr b2), (3, i64 0), (4, ptr b4), (12, i64 k)]) (fun k => row b4 (rrow s k) 169 :: row b2 [i64 0, i64 0, i64 0] 40 :: DevA b s :: Fr) (fun k => 3 - k) 0 ⟨Nat.zero_le _, fun j h => absurd h (Nat.not_lt_zero _)⟩ (fun a w st => st.to ⟨rfl, rfl, rfl, rfl, rfl, trivial⟩ id) ?_)))))))
    rintro k ⟨hk1, hk2⟩
    refine g_seq (g_region (kPv (ev_cmp rfl rfl rfl) rfl (p_nil (g_seq ?_))))
    refine g_if rfl (fun h13 => ?_) (fun h13 => ?_)
    · have hk3 : k < 3 := by simp at h13; omega
      refine g_skip (g_seq (g_block (g_seq (g_region (kPm rfl rfl (kPa rfl rfl (p_nil (g_seq (g_region (kPm rfl rfl (kPm rfl rfl ?_)))))))))))
      first | refine p_val rfl (ev_add rfl rfl (wr64 (by omega))) .free rfl rfl ?_ | refine p_val rfl (ev_add rfl rfl rfl) .free rfl rfl ?_
      refine p_callq rfl (en_f Tryz.call71 rfl) (ro_at (q := DevA) (fun Fr => nload_ok _ Fr _ _ _)) .free rfl rfl ?_
      refine kPa rfl rfl (p_nil (go_sb [6, 5, 12, 4, 3, 2, 0] rfl (g_seq (g_seq (g_region (kPm rfl rfl (kPv (ev_cmp rfl rfl rfl) rfl (p_nil ?_))))))))
      refine g_if rfl (fun h20 => ?_) (fun h20 => ?_)
      · try simp only [decide_eq_true_eq, decide_eq_false_iff_not, Bool.not_eq_true', Bool.not_eq_false', Bool.or_eq_true, Bool.and_eq_true, Bool.and_eq_false_iff, Bool.or_eq_false_iff, beq_iff_eq, bne_iff_ne, beq_eq_false_iff_ne, bne_eq_false_iff_eq, ge_iff_le, gt_iff_lt, ne_eq] at h20
        refine g_seq (g_region (kPv (ev_build rfl (bld_40)) rfl (p_chg0 rfl (ch_storeA (vs := _) Tryz.sizeOf40 rfl rfl rfl rfl rfl) .free rfl ?_)))
        rintro _ _ rfl
        refine kPa rfl rfl (p_nil (g_ret ?_))
        exact ret_2 Tryz.results63 (.cellA rfl Tryz.isAgg40 Tryz.sizeOf40 rfl rfl) (.tmp rfl) (fun w hw => ⟨by
      rw [← hres]; unfold Dev.readC; rw [if_neg (by simpa [magicI] using h10), if_pos (by
        rcases (by omega : k = 0 ∨ k = 1 ∨ k = 2) with rfl | rfl | rfl
        · left; exact h20
        · right; left; exact h20
        · right; right; exact h20)]; rfl, hw.tail.tail⟩)
      · try simp only [decide_eq_true_eq, decide_eq_false_iff_not, Bool.not_eq_true', Bool.not_eq_false', Bool.or_eq_true, Bool.and_eq_true, Bool.and_eq_false_iff, Bool.or_eq_false_iff, beq_iff_eq, bne_iff_ne, beq_eq_false_iff_ne, bne_eq_false_iff_eq, ge_iff_le, gt_iff_lt, ne_eq] at h20
        refine g_skip (g_region (kPm rfl rfl (kPm rfl rfl ?_)))
        first | refine p_val rfl (ev_conv Tryz.runUnderlying26 Tryz.runUnderlying3 rfl (wr64 (by omega))) .free rfl rfl ?_ | refine p_val rfl (ev_conv Tryz.runUnderlying26 Tryz.runUnderlying3 rfl rfl) .free rfl rfl ?_
        refine kPv (ev_iaA (m := k) Tryz.runUnderlying169 Tryz.sizeOf3 rfl rfl (by omega) (by omega) (by omega)) rfl (p_chg0 rfl (ch_store Tryz.sizeOf3 rfl rfl rfl (by rw [Nat.blt_eq]; simp [rrow, tab_len]; omega)) .free rfl ?_)
        rintro _ _ rfl
        refine p_nil (go_sb [12, 4, 3, 2, 0] rfl (g_region ?_))
        first | refine p_val rfl (ev_add rfl rfl (wr64 (by omega))) .free rfl rfl ?_ | refine p_val rfl (ev_add rfl rfl rfl) .free rfl rfl ?_
        refine kPm rfl rfl (p_nil ?_)
        exact fun a w st => ⟨k + 1, ⟨by omega, fun j hj => by
          rcases Nat.lt_succ_iff_lt_or_eq.1 hj with h | h
          · exact hk2 j h
          · subst h; omega⟩, by omega, st.to ⟨rfl, rfl, rfl, rfl, rfl, trivial⟩ (fun hh => by rw [show (Value.int IntKind.i64 (IntKind.i64.wrap (s.load (1 + (k : Int))))) = i64 (readW s k) from rfl, rrow_set rfl] at hh; exact hh)⟩
    · have hk3 : ¬ k < 3 := by simp at h13; omega
      obtain rfl : k = 3 := by omega
      have hb0 : s.load 1 ≤ 4096 := hk2 0 (by decide)
      have hb1 : s.load 2 ≤ 4096 := hk2 1 (by decide)
      have hb2 : s.load 3 ≤ 4096 := hk2 2 (by decide)
      refine g_exit (g_seq (g_region (kPv (ev_iaA (m := 0) Tryz.runUnderlying169 Tryz.sizeOf3 rfl rfl (by decide) (by decide) (by decide)) rfl (kPv (ev_load (v := i64 (readW s 0)) Tryz.isAgg3 rfl (rrow_get (by decide))) rfl (kPv (ev_iaA (m := 1) Tryz.runUnderlying169 Tryz.sizeOf3 rfl rfl (by decide) (by decide) (by decide)) rfl (kPv (ev_load (v := i64 (readW s 1)) Tryz.isAgg3 rfl (rrow_get (by decide))) rfl (kPv (ev_iaA (m := 2) Tryz.runUnderlying169 Tryz.sizeOf3 rfl rfl (by decide) (by decide) (by decide)) rfl (kPv (ev_load (v := i64 (readW s 2)) Tryz.isAgg3 rfl (rrow_get (by decide))) rfl (kPv (ev_build rfl (bld_40_0_1_2 _ _ _ rfl rfl rfl)) rfl (p_chg rfl (ch_allocA Tryz.zeroValue40 rfl) .free rfl rfl ?_))))))))))
      rintro _ _ ⟨b7, rfl, rfl⟩
      refine p_chg0 rfl (ch_storeA (vs := _) Tryz.sizeOf40 rfl rfl rfl rfl rfl) .free rfl ?_
      rintro _ _ rfl
      refine p_nil (go_sb [7, 3, 2, 0] rfl (g_seq (g_seq (g_draw Tryz.mixed (by kernel_rfl) (by kernel_rfl) ?_))))
      refine kQv (ev_loadA Tryz.isAgg40 Tryz.sizeOf40 rfl rfl) rfl ?_
      refine q_call rfl (en_f Tryz.call129 rfl) (check_ok _ _ ⟨readW s 0, readW s 1, readW s 2⟩) .free rfl ?_
      refine kQv (ev_cmp rfl rfl rfl) rfl (kQm rfl rfl ?_)
      apply q_or (tp := 43) (t := 37) (σ1 := [(37, _), (7, _), (3, _), (2, _)]) 6 rfl (sub_r rfl)
      · intro hg1
        refine q_val rfl (ev_move rfl) (.on rfl rfl (beq_eq hg1)) rfl (q_call rfl (en_f Tryz.call118 rfl) (ro_at (q := DevA) (fun Fr => nlen_ok _ Fr _ _)) (.on rfl rfl (beq_eq hg1)) rfl ?_)
        refine q_val rfl (ev_loadA Tryz.isAgg40 Tryz.sizeOf40 rfl rfl) (.on rfl rfl (beq_eq hg1)) rfl ?_
        refine q_call rfl (en_f Tryz.call108 rfl) (cwords_ok _ _ ⟨readW s 0, readW s 1, readW s 2⟩ (chk_w hg1)) (.on rfl rfl (beq_eq hg1)) rfl ?_
        refine q_val rfl (ev_cmp rfl rfl rfl) (.on rfl rfl (beq_eq hg1)) rfl (kQv (ev_pick_f rfl hg1 rfl) rfl ?_)
        exact q_seg rfl (sub_r rfl) (or_f hg1)
      · intro hg1
        refine q_skip rfl (.on rfl rfl (beq_ne hg1)) rfl (q_skip rfl (.on rfl rfl (beq_ne hg1)) rfl (q_skip rfl (.on rfl rfl (beq_ne hg1)) rfl (q_skip rfl (.on rfl rfl (beq_ne hg1)) rfl (q_skip rfl (.on rfl rfl (beq_ne hg1)) rfl (kQv (ev_pick_t rfl hg1 rfl) rfl ?_)))))
        exact q_seg rfl (sub_r rfl) (or_t hg1)
      refine q_nil ?_
      refine g_if rfl (fun h43 => ?_) (fun h43 => ?_)
      · have hbad : ¬ CfgW ⟨readW s 0, readW s 1, readW s 2⟩ ∨ (s.n : Int) ≠ Cfg.words ⟨readW s 0, readW s 1, readW s 2⟩ := by
          by_cases q : CfgW ⟨readW s 0, readW s 1, readW s 2⟩
          · right; simpa [chk, q] using h43
          · exact .inl q
        refine g_seq (g_region (kPv (ev_build rfl (bld_40)) rfl (p_chg0 rfl (ch_storeA (vs := _) Tryz.sizeOf40 rfl rfl rfl rfl rfl) .free rfl ?_)))
        rintro _ _ rfl
        refine kPa rfl rfl (p_nil (g_ret ?_))
        exact ret_2 Tryz.results63 (.cellA rfl Tryz.isAgg40 Tryz.sizeOf40 rfl rfl) (.tmp rfl) (fun w hw => ⟨by rw [← hres]; unfold Dev.readC; rw [if_neg (by simpa [magicI] using h10), if_neg (by omega), if_pos hbad]; rfl, hw.tail.tail.tail⟩)
      · have hgd : ¬ (¬ CfgW ⟨readW s 0, readW s 1, readW s 2⟩ ∨ (s.n : Int) ≠ Cfg.words ⟨readW s 0, readW s 1, readW s 2⟩) := by
          by_cases q : CfgW ⟨readW s 0, readW s 1, readW s 2⟩
          · simp [chk, q] at h43; simp [q, h43]
          · simp [chk, q] at h43
        refine g_skip (g_seq (g_region (kPv (ev_loadA Tryz.isAgg40 Tryz.sizeOf40 rfl rfl) rfl ?_)))
        refine p_chg0 rfl (ch_storeA (vs := _) Tryz.sizeOf40 rfl rfl rfl rfl rfl) .free rfl ?_
        rintro _ _ rfl
        refine kPa rfl rfl (p_nil (g_ret ?_))
        exact ret_2 Tryz.results63 (.cellA rfl Tryz.isAgg40 Tryz.sizeOf40 rfl rfl) (.tmp rfl) (fun w hw => ⟨by rw [← hres]; unfold Dev.readC; rw [if_neg (by simpa [magicI] using h10), if_neg (by omega), if_neg hgd]; rfl, hw.tail.tail.tail⟩)
def okB {α : Type} (m : Out α) (p : α → Dev → Bool) : Bool := match m with
  | .ok a s => p a s
  | .off _ => false
theorem okB_ok {α : Type} {m : Out α} {p : α → Dev → Bool} {a : α} {s : Dev} (h : okB m p = true) (e : m = .ok a s) : p a s = true := by rw [e] at h; exact h
theorem okB_off {α : Type} {m : Out α} {p : α → Dev → Bool} {s : Dev} (h : okB m p = true) (e : m = .off s) : False := by rw [e] at h; cases h
def Good {α : Type} (m : Out α) (p : α → Prop) (n : Nat) : Prop := ∃ a s, m = .ok a s ∧ p a ∧ s.pow.lim < 0 ∧ s.n = n
theorem good_then {α β : Type} {m : Out α} {f : α → Dev → Out β} {p : α → Prop} {q : β → Prop} {n : Nat} (h : Good m p n) (g : ∀ a s, p a → s.pow.lim < 0 → s.n = n → Good (f a s) q n) : Good (m.then f) q n := by
  obtain ⟨a, s, rfl, h1, h2, h3⟩ := h
  exact g a s h1 h2 h3
theorem good_store {s : Dev} {i v : Int} (h : s.pow.lim < 0) : Good (s.store i v) (fun _ => True) s.n := by
  unfold Dev.store
  split
  · exact ⟨_, _, rfl, trivial, h, rfl⟩
  · rw [out_ne h]; exact ⟨_, _, rfl, trivial, h, rfl⟩
theorem good_flush {s : Dev} {i : Int} (h : s.pow.lim < 0) : Good (s.flush i) (fun _ => True) s.n := by
  unfold Dev.flush
  split
  · exact ⟨_, _, rfl, trivial, h, rfl⟩
  · rw [out_ne h]; exact ⟨_, _, rfl, trivial, h, rfl⟩
theorem good_fence {s : Dev} (h : s.pow.lim < 0) : Good s.fence (fun _ => True) s.n := ⟨(), _, fence_ne h, trivial, h, rfl⟩
theorem good_zero (f : Int → Int) : ∀ (k : Nat) (i : Int) (s : Dev), s.pow.lim < 0 → Good (zeroN f k i s) (fun _ => True) s.n
  | 0, _, s, h => ⟨(), s, rfl, trivial, h, rfl⟩
  | k + 1, i, s, h => good_then (good_store h) fun _ s1 _ h1 e1 => e1 ▸ good_then (good_flush h1) fun _ s2 _ h2 e2 => e2 ▸ good_zero f k (i + 1) s2 h2
theorem good_st3 (l : List Int) : ∀ (k i : Nat) (s : Dev), s.pow.lim < 0 → Good (st3 l k i s) (fun _ => True) s.n
  | 0, _, s, h => ⟨(), s, rfl, trivial, h, rfl⟩
  | k + 1, i, s, h => good_then (good_store h) fun _ s1 _ h1 e1 => e1 ▸ good_st3 l k (i + 1) s1 h1
theorem good_format {s : Dev} {c : Cfg} (h : s.pow.lim < 0) (hc : CfgW c) (hn : (s.n : Int) = c.words) : Good (s.format c) (fun a => a = 0) s.n := by
  unfold Dev.format
  rw [if_neg (format_ok hc hn)]
  refine good_then (good_store h) fun _ s1 _ h1 e1 => (e1 ▸ good_then (good_flush h1) fun _ s2 _ h2 e2 => (e2 ▸ good_then (good_fence h2) fun _ s3 _ h3 e3 => (e3 ▸ good_then (good_st3 _ _ _ _ h3) fun _ s4 _ h4 e4 => (e4 ▸ good_then (good_store h4) fun _ s5 _ h5 e5 => (e5 ▸ good_then (good_flush h5) fun _ s6 _ h6 e6 => (e6 ▸ good_then (good_zero _ _ _ _ h6) fun _ s7 _ h7 e7 => (e7 ▸ good_then (good_zero _ _ _ _ h7) fun _ s8 _ h8 e8 => (e8 ▸ good_then (good_flush h8) fun _ s9 _ h9 e9 => (e9 ▸ good_then (good_fence h9) fun _ s10 _ h10 e10 => (e10 ▸ good_then (good_store h10) fun _ s11 _ h11 e11 => (e11 ▸ good_then (good_flush h11) fun _ s12 _ h12 e12 => ?_)))))))))))
  refine e12 ▸ good_then (good_fence h12) fun _ s13 _ h13 e13 => ?_
  exact ⟨0, s13, rfl, rfl, h13, e13⟩
def oldW (xs : List Int) (j : Nat) : Int := if xs.length = 0 then 0 else xs.getD (j % xs.length) 0
def dev0 (pa : Nat) (xs : List Int) (n : Nat) : Dev := ⟨pa, ⟨-1, 0⟩, n, fun i => (tab n (oldW xs)).getD i 0, fun i => (tab n (oldW xs)).getD i 0, fun _ => none⟩
theorem words_b {c : Cfg} (h : CfgW c) : 40 ≤ c.words ∧ c.words ≤ 20000 ∧ c.words % 8 = 0 := by
  have h1 := h.act
  have := h.r1; have := h.r2; have := h.l1; have := h.l2; have := h.s1; have := h.s2
  have hl := lines_b (n := c.root c.roots) (by simp only [Cfg.root]; omega)
  have hs := lines_b (n := c.space) (by omega)
  simp only [Cfg.words, Cfg.frm, Cfg.root] at *
  omega
def frow (xs : List Int) (n k : Nat) : List Value := tab n fun j => w64 (if j < k then oldW xs j else 0)
theorem frow_set {xs : List Int} {n k : Nat} {x : Int} (h : x = oldW xs k) : (frow xs n k).set k (w64 x) = frow xs n (k + 1) := by
  subst h
  unfold frow
  rw [tab_set]
  refine tab_congr fun j _ => ?_
  simp only [upd]
  by_cases e : j = k
  · subst e; simp
  · rw [if_neg e]
    by_cases e2 : j < k
    · rw [if_pos e2, if_pos (by omega)]
    · rw [if_neg e2, if_neg (by omega)]
theorem frow_skip {xs : List Int} {n k : Nat} (h : xs.length = 0) : frow xs n (k + 1) = frow xs n k := by
  refine tab_congr fun j _ => ?_
  simp [oldW, h]
theorem frow_zero (xs : List Int) (n : Nat) : List.replicate n (.int .u64 0) = frow xs n 0 := by
  apply List.ext_getElem?
  intro j
  by_cases h : j < n
  · rw [frow, tab_get h]; simp [h]
  · rw [List.getElem?_eq_none (by simpa using h), List.getElem?_eq_none (by rw [frow, tab_len]; omega)]
theorem frow_all (xs : List Int) (n : Nat) : frow xs n n = (tab n (oldW xs)).map w64 := by
  rw [tab_map]; exact tab_congr fun j hj => by rw [if_pos hj]
theorem dev0_eq {pa N : Nat} {xs : List Int} (h : N % 8 = 0) : (⟨pa, ⟨-1, 0⟩, ((tab N (oldW xs)).length + 7) / 8 * 8, fun i => (tab N (oldW xs)).getD i 0, fun i => (tab N (oldW xs)).getD i 0, fun _ => none⟩ : Dev) = dev0 pa xs N := by
  rw [tab_len, show (N + 7) / 8 * 8 = N by omega]; rfl
theorem fmt_ok {pa N : Nat} {xs : List Int} {c : Cfg} {a : Int} {s : Dev} (hc : CfgW c) (hN : (N : Int) = c.words) (h : (dev0 pa xs N).format c = .ok a s) : a = 0 := by
  obtain ⟨b, t, e, hb, _⟩ := good_format (s := dev0 pa xs N) (show (-1 : Int) < 0 by decide) hc hN
  rw [e] at h; cases h; exact hb
theorem fmt_off {pa N : Nat} {xs : List Int} {c : Cfg} {s : Dev} (hc : CfgW c) (hN : (N : Int) = c.words) (h : (dev0 pa xs N).format c = .off s) : False := by
  obtain ⟨b, t, e, hb, _⟩ := good_format (s := dev0 pa xs N) (show (-1 : Int) < 0 by decide) hc hN
  rw [e] at h; cases h
theorem formatted_ok (B : World) (Fr : List HP) (c : Cfg) (hc : CfgW c) (q : Option Addr) (cap : Nat) (xs : List Int) (hx : xs.length ≤ 100000) (hq : ∀ i, i < xs.length → ∃ b off, q = some ⟨b, off, none⟩) (hr : SlR B Fr (.slice q xs.length cap) (xs.map w64)) :
    ∀ w, Holds B Fr w → Calls Tryz.prog 49 [cfgV c, .slice q xs.length cap].toArray w (Ret B (fun rv H' => ∃ (b pa N : Nat) (s' : Dev), (N : Int) = c.words ∧ (dev0 pa xs N).format c = .ok 0 s' ∧ rv = .tuple #[ptr b, .bool true] ∧ H' = DevA b s' :: Fr) (fun _ _ => False)) := by
  refine fn_enter Tryz.func49 rfl Tryz.ntmps49 rfl ?_
  have hwb := words_b hc
  obtain ⟨N, hN⟩ : ∃ N : Nat, (N : Int) = c.words := ⟨c.words.toNat, by omega⟩
  refine g_seq (g_region (p_chg rfl (ch_boxA rfl) .free rfl rfl ?_))
  rintro _ _ ⟨b2, rfl, rfl⟩
  refine kPa rfl rfl (kPa rfl rfl (p_nil (g_seq (g_region (kPv (ev_loadA Tryz.isAgg40 Tryz.sizeOf40 rfl rfl) rfl ?_)))))
  refine p_callq rfl (en_f Tryz.call108 rfl) (cwords_ok _ _ c hc) .free rfl rfl ?_
  rw [← hN]
  refine p_chg rfl (ch_make Tryz.runUnderlying25 tb_26 Tryz.sizeOf26 Tryz.zeroValue26 rfl rfl rfl (by omega)) .free rfl rfl ?_
  rintro _ _ ⟨bl, rfl, rfl⟩
  rw [frow_zero xs]
  refine kPa rfl rfl (p_nil (g_seq (g_seq (g_region (kPm rfl rfl (kPv (ev_len rfl Tryz.runUnderlying25 ⟨_, rfl⟩ rfl) rfl (kPm rfl rfl (p_nil (g_block (g_loop (ι := Nat) (fun k => k ≤ N) (fun k => [(1, .slice q xs.length cap), (2, ptr b2), (4, .pointer none), (5, .bool false), (6, .slice (some ⟨bl, 0, none⟩) N N), (13, i64 N), (14, i64 k)]) (fun k => row bl (frow xs N k) 26 :: row b2 [i64 c.log, i64 c.roots, i64 c.space] 40 :: Fr) (fun k => N - k) 0 (Nat.zero_le _) (fun a w st => st.to ⟨rfl, rfl, rfl, rfl, rfl, rfl, rfl, trivial⟩ id) ?_))))))))))
  intro k hk
  refine g_seq (g_region (kPv (ev_cmp rfl rfl rfl) rfl (p_nil (g_seq ?_))))
  refine g_if rfl (fun h15 => ?_) (fun h15 => ?_)
  · have hkN : k < N := by simp at h15; omega
    refine g_skip (g_seq (g_block (g_seq (g_region (kPm rfl rfl (kPa rfl rfl (p_nil (go_sb [7, 14, 13, 6, 5, 4, 2, 1] rfl (g_seq (g_region (kPm rfl rfl ?_)))))))))))
    refine kPv (ev_len rfl Tryz.runUnderlying25 ⟨_, rfl⟩ rfl) rfl (kPv (ev_cmp rfl rfl rfl) rfl (p_nil ?_))
    refine g_if rfl (fun h19 => ?_) (fun h19 => ?_)
    · have hpos : 0 < xs.length := by simp at h19; omega
      refine g_region (kPm rfl rfl (kPm rfl rfl (kPm rfl rfl (kPm rfl rfl (kPm rfl rfl (kPv (ev_len rfl Tryz.runUnderlying25 ⟨_, rfl⟩ rfl) rfl (kPv (ev_rem (c := ((k % xs.length : Nat) : Int)) rfl rfl (by omega) (by rw [Int.tmod_eq_emod_of_nonneg (by omega)]; omega)) rfl ?_)))))))
      obtain ⟨ob, oo, rfl⟩ := hq 0 hpos
      refine kPv (ev_iaS Tryz.runUnderlying25 Tryz.sizeOf26 rfl rfl (by omega) (by have := Nat.mod_lt k hpos; omega)) rfl (kPv (ev_loadS (v := w64 (oldW xs k)) Tryz.isAgg26 ((hr.cons _).cons _) rfl (by have := Nat.mod_lt k hpos; rw [Int.toNat_natCast]; simp [oldW, show ¬ xs.length = 0 by omega, this, List.getD])) rfl (kPv (ev_iaS Tryz.runUnderlying25 Tryz.sizeOf26 rfl rfl (by omega) (by omega)) rfl (p_chg0 rfl (ch_store Tryz.sizeOf26 rfl rfl rfl (by rw [Nat.blt_eq, frow, tab_len]; omega)) .free rfl ?_)))
      rintro _ _ rfl
      rw [show 0 + (k : Int).toNat = k by omega, frow_set rfl]
      refine p_nil (go_sb [14, 13, 6, 5, 4, 2, 1] rfl (g_region ?_))
      first | refine p_val rfl (ev_add rfl rfl (wr64 (by omega))) .free rfl rfl ?_ | refine p_val rfl (ev_add rfl rfl rfl) .free rfl rfl ?_
      refine kPm rfl rfl (p_nil ?_)
      first
        | exact fun a w st => ⟨k + 1, by omega, by omega, st.to ⟨rfl, rfl, rfl, rfl, rfl, rfl, rfl, trivial⟩ id⟩
        | exact fun a w st => ⟨k + 1, by omega, by omega, st.to ⟨rfl, rfl, rfl, rfl, rfl, rfl, rfl, trivial⟩ (fun hh => by rw [frow_skip hz]; exact hh)⟩
    · have hz : xs.length = 0 := by have := of_decide_eq_false h19; omega
      refine g_skip (g_region ?_)
      first | refine p_val rfl (ev_add rfl rfl (wr64 (by omega))) .free rfl rfl ?_ | refine p_val rfl (ev_add rfl rfl rfl) .free rfl rfl ?_
      refine kPm rfl rfl (p_nil ?_)
      first
        | exact fun a w st => ⟨k + 1, by omega, by omega, st.to ⟨rfl, rfl, rfl, rfl, rfl, rfl, rfl, trivial⟩ id⟩
        | exact fun a w st => ⟨k + 1, by omega, by omega, st.to ⟨rfl, rfl, rfl, rfl, rfl, rfl, rfl, trivial⟩ (fun hh => by rw [frow_skip hz]; exact hh)⟩
  · have hkN : ¬ k < N := by simp at h15; omega
    have hkN2 : k = N := by omega
    rw [hkN2]
    refine g_exit (g_seq (g_region (kPm rfl rfl ?_)))
    refine p_call rfl (en_f Tryz.call109 rfl) (new2_ok _ _ _ (tab N (oldW xs)) (by rw [tab_len]; omega) (by rw [tab_len]; omega) (SlR.row (by rw [List.drop_zero, frow_all, List.take_of_length_le (by rw [List.length_map, tab_len]; omega)]) (by rw [List.length_map, tab_len]))) .free rfl rfl ?_ ?_
    rotate_left
    · rintro _ _ ⟨⟩
    rintro _ _ ⟨bd, pa, rfl, rfl⟩
    refine kPa rfl rfl (p_nil (go_sb [8, 5, 4, 2] rfl (g_seq (g_seq (g_region ?_)))))
    rw [dev0_eq (by omega)]
    refine kPm rfl rfl (kPv (ev_eqp Tryz.runUnderlying28 rfl rfl rfl) rfl (kPm rfl rfl (p_val rfl (ev_move rfl) (.on rfl rfl (beq_eq rfl)) rfl rfl (p_val rfl (ev_loadA Tryz.isAgg40 Tryz.sizeOf40 rfl rfl) (.on rfl rfl (beq_eq rfl)) rfl rfl ?_))))
    refine p_call rfl (en_f Tryz.call110 rfl) (format_ok2 _ _ _ _ c) (.on rfl rfl (beq_eq rfl)) rfl rfl ?_ ?_
    rotate_left
    · rintro _ _ ⟨s9, hm9, rfl, rfl⟩
      exact (fmt_off hc hN hm9).elim
    rintro _ _ ⟨a, s1, hm1, rfl, rfl⟩
    refine p_val rfl (ev_cmp rfl rfl rfl) (.on rfl rfl (beq_eq rfl)) rfl rfl (kPv (ev_pick_f rfl rfl rfl) rfl (p_nil (go_sb [40, 8, 5, 4] rfl (g_iff rfl (by have := fmt_ok hc hN hm1; subst this; rfl) (g_skip (g_seq (g_region (kPm rfl rfl (kPa rfl rfl (kPa rfl rfl (p_nil ?_)))))))))))
    refine g_ret ?_
    exact ret_tmp2 Tryz.results49 rfl rfl (fun w hh => ⟨_, ⟨bd, pa, N, s1, rfl, by rw [← fmt_ok hc hN hm1]; exact hm1, rfl, rfl⟩, (((hh.front 1 rfl).tail).front 1 rfl).tail⟩)
def d5 (pa : Nat) : Dev := ⟨pa, ⟨-1, 0⟩, 56, fun i => (List.replicate 56 (0 : Int)).getD i 0, fun i => (List.replicate 56 (0 : Int)).getD i 0, fun _ => none⟩
set_option maxRecDepth 100000 in
theorem d5_eval (pa : Nat) : okB ((d5 pa).format ⟨3, 1, 8⟩) (fun a s => a == 0 && s.readC.1.log == 3 && s.readC.1.roots == 1 && s.readC.1.space == 8 && s.readC.2 == 0 && (d5 pa).readC.2 == 7) = true := by kernel_rfl
theorem awake5_ok (B : World) (H : List HP) :
    ∀ w, Holds B H w → Calls Tryz.prog 215 [].toArray w (PureR B H (.bool true)) := by
  refine fn_enter Tryz.func215 rfl Tryz.ntmps215 rfl (g_seq (g_region (kPa rfl rfl (p_nil (g_seq (g_seq (g_region (p_callq rfl (en_f Tryz.call217 rfl) (awake4_ok _ _) .free rfl rfl ?_))))))))
  refine kPv (ev_not rfl) rfl (p_nil (g_iff rfl (rfl) (g_skip (g_seq (g_region (p_chg rfl (ch_make (n := 56) Tryz.runUnderlying25 tb_26 Tryz.sizeOf26 Tryz.zeroValue26 rfl rfl rfl (by omega)) .free rfl rfl ?_))))))
  rintro _ _ ⟨bl, rfl, rfl⟩
  refine p_call rfl (en_f Tryz.call109 rfl) (new2_ok _ _ _ (List.replicate 56 0) (by decide) (by decide) (SlR.row (by simp [w64]) (by simp))) .free rfl rfl ?_ ?_
  rotate_left
  · rintro _ _ ⟨⟩
  rintro _ _ ⟨bd, pa, rfl, rfl⟩
  rw [show (⟨pa, ⟨-1, 0⟩, ((List.replicate 56 (0 : Int)).length + 7) / 8 * 8, fun i => (List.replicate 56 (0 : Int)).getD i 0, fun i => (List.replicate 56 (0 : Int)).getD i 0, fun _ => none⟩ : Dev) = d5 pa from rfl]
  refine kPa rfl rfl (p_nil (g_seq (g_seq (g_region (kPm rfl rfl (kPv (ev_eqp Tryz.runUnderlying28 rfl rfl rfl) rfl (p_nil (g_iff rfl (rfl) (g_skip (g_seq (g_region ?_)))))))))))
  refine kPm rfl rfl (p_callq rfl (en_f Tryz.call63 rfl) (ro_at (q := DevA) (fun Fr => read_ok _ Fr _ _)) .free rfl rfl ?_)
  refine kPm rfl rfl (kPv (ev_ext rfl rfl) rfl (kPv (ev_ext rfl rfl) rfl (p_chg rfl (ch_allocA Tryz.zeroValue40 rfl) .free rfl rfl ?_)))
  rintro _ _ ⟨b2, rfl, rfl⟩
  refine p_chg0 rfl (ch_storeA (vs := _) Tryz.sizeOf40 rfl rfl rfl rfl rfl) .free rfl ?_
  rintro _ _ rfl
  refine kPa rfl rfl (p_nil (go_sb [3, 1, 0] rfl (g_seq (g_region (go_front 1 rfl (kPm rfl rfl (kPv (ev_build rfl (bld_40_0_1_2 _ _ _ rfl rfl rfl)) rfl ?_)))))))
  refine p_call rfl (en_f Tryz.call110 rfl) (format_ok2 _ _ _ _ ⟨3, 1, 8⟩) .free rfl rfl ?_ ?_
  rotate_left
  · rintro _ _ ⟨s9, hm9, rfl, rfl⟩
    exact (okB_off (d5_eval pa) hm9).elim
  rintro _ _ ⟨a, s1, hm1, rfl, rfl⟩
  have hev := okB_ok (d5_eval pa) hm1
  simp only [Bool.and_eq_true, beq_iff_eq] at hev
  obtain ⟨⟨⟨⟨⟨v1, v2⟩, v3⟩, v4⟩, v5⟩, v6⟩ := hev
  have hw5 : CfgW s1.readC.1 := ⟨by omega, by omega, by omega, by omega, by omega, by omega⟩
  refine kPa rfl rfl (p_nil (g_seq (g_region (kPm rfl rfl (p_callq rfl (en_f Tryz.call63 rfl) (ro_at (q := DevA) (fun Fr => read_ok _ Fr _ _)) .free rfl rfl ?_)))))
  refine kPm rfl rfl (kPv (ev_ext rfl rfl) rfl (kPv (ev_ext rfl rfl) rfl (p_chg rfl (ch_allocA Tryz.zeroValue40 rfl) .free rfl rfl ?_)))
  rintro _ _ ⟨b5, rfl, rfl⟩
  refine p_chg0 rfl (ch_storeA (vs := _) Tryz.sizeOf40 rfl rfl rfl rfl rfl) .free rfl ?_
  rintro _ _ rfl
  refine kPa rfl rfl (p_nil (go_sb [6, 5, 4, 3, 0] rfl (g_seq (g_region (kPm rfl rfl (kPv (ev_cmp rfl rfl rfl) rfl (kPm rfl rfl ?_)))))))
  apply p_and (tp := 31) (t := 28) (σ1 := [(28, _), (6, _), (5, _), (0, _)]) 3 rfl (sub_r rfl)
  · intro hg1
    refine p_val rfl (ev_move rfl) (.on rfl rfl (beq_eq hg1)) rfl rfl (p_val rfl (ev_cmp rfl rfl rfl) (.on rfl rfl (beq_eq hg1)) rfl rfl (kPv (ev_pick_t rfl hg1 rfl) rfl ?_))
    exact p_seg rfl (sub_r rfl) (and_t hg1)
  · intro hg1
    refine p_skip rfl (.on rfl rfl (beq_ne hg1)) rfl (p_skip rfl (.on rfl rfl (beq_ne hg1)) rfl (kPv (ev_pick_f rfl hg1 rfl) rfl ?_))
    exact p_seg rfl (sub_r rfl) (and_f hg1)
  refine kPm rfl rfl ?_
  apply p_and (tp := 35) (t := 32) (σ1 := [(32, _), (5, _), (0, _)]) 3 rfl (sub_r rfl)
  · intro hg2
    refine p_val rfl (ev_move rfl) (.on rfl rfl (beq_eq hg2)) rfl rfl (p_val rfl (ev_cmp rfl rfl rfl) (.on rfl rfl (beq_eq hg2)) rfl rfl (kPv (ev_pick_t rfl hg2 rfl) rfl ?_))
    exact p_seg rfl (sub_r rfl) (and_t hg2)
  · intro hg2
    refine p_skip rfl (.on rfl rfl (beq_ne hg2)) rfl (p_skip rfl (.on rfl rfl (beq_ne hg2)) rfl (kPv (ev_pick_f rfl hg2 rfl) rfl ?_))
    exact p_seg rfl (sub_r rfl) (and_f hg2)
  refine kPm rfl rfl ?_
  apply p_and (tp := 40) (t := 36) (σ1 := [(36, _), (0, _)]) 4 rfl ⟨rfl, rfl, trivial⟩
  · intro hg3
    refine p_val rfl (ev_loadA Tryz.isAgg40 Tryz.sizeOf40 rfl rfl) (.on rfl rfl (beq_eq hg3)) rfl rfl ?_
    refine p_callq rfl (en_f Tryz.call108 rfl) (cwords_ok _ _ _ hw5) (.on rfl rfl (beq_eq hg3)) rfl rfl ?_
    refine p_val rfl (ev_cmp rfl rfl rfl) (.on rfl rfl (beq_eq hg3)) rfl rfl (kPv (ev_pick_t rfl hg3 rfl) rfl ?_)
    exact p_seg rfl ⟨rfl, rfl, trivial⟩ (and_t hg3)
  · intro hg3
    refine p_skip rfl (.on rfl rfl (beq_ne hg3)) rfl (p_skip rfl (.on rfl rfl (beq_ne hg3)) rfl (p_skip rfl (.on rfl rfl (beq_ne hg3)) rfl (kPv (ev_pick_f rfl hg3 rfl) rfl ?_)))
    exact p_seg rfl ⟨rfl, rfl, trivial⟩ (and_f hg3)
  refine kPa rfl rfl (p_nil (g_ret ?_))
  exact ret_tmp Tryz.results215 rfl (fun w hw => ⟨ret_b (by rw [v6, v1, v5]; simp [Cfg.words, Cfg.frm, Cfg.root, Cfg.active, Cfg.record, linesI, v2, v3, v4]), hw.tail.tail.tail.tail⟩)
def l6 (d : Nat) (s : Dev) : Out (Int × LogS) := ((openL d ⟨3, 1, 8⟩ s).append s 40)
set_option maxRecDepth 100000 in
theorem d6_eval (pa d : Nat) : okB ((dev0 pa [] 56).format ⟨3, 1, 8⟩) (fun _ s => okB (l6 d s) fun x s' => x.1 == 0 && (openL d ⟨3, 1, 8⟩ s').n == 1 && (openL d ⟨3, 1, 8⟩ s').epoch == 1) = true := by kernel_rfl
def s7 (d : Nat) (s : Dev) : SecS := ⟨openL d ⟨3, 1, 8⟩ s, 0, 0, [], []⟩
set_option maxRecDepth 100000 in
theorem d7_eval (pa d : Nat) : okB ((dev0 pa [] 56).format ⟨3, 1, 8⟩) (fun _ s => okB ((s7 d s).store s 40 5) fun x s' => x.1 == 0 && s'.load 40 == 5 && okB (x.2.abort s') fun _ s2 => s2.load 40 == 0) = true := by kernel_rfl
theorem awake6_ok (B : World) (H : List HP) :
    ∀ w, Holds B H w → Calls Tryz.prog 214 [].toArray w (PureR B H (.bool true)) := by
  refine fn_enter Tryz.func214 rfl Tryz.ntmps214 rfl (g_seq (g_region (kPa rfl rfl (p_nil (g_seq (g_seq (g_region (p_callq rfl (en_f Tryz.call215 rfl) (awake5_ok _ _) .free rfl rfl ?_))))))))
  refine kPv (ev_not rfl) rfl (p_nil (g_iff rfl (rfl) (g_skip (g_seq (g_region (kPv (ev_build rfl (bld_40_0_1_2 _ _ _ rfl rfl rfl)) rfl (p_chg rfl (ch_allocA Tryz.zeroValue40 rfl) .free rfl rfl ?_)))))))
  rintro _ _ ⟨b1, rfl, rfl⟩
  refine p_chg0 rfl (ch_storeA (vs := _) Tryz.sizeOf40 rfl rfl rfl rfl rfl) .free rfl ?_
  rintro _ _ rfl
  refine p_nil (g_seq (g_region (kPv (ev_loadA Tryz.isAgg40 Tryz.sizeOf40 rfl rfl) rfl ?_)))
  refine p_call rfl (en_f Tryz.call49 rfl) (formatted_ok _ _ ⟨3, 1, 8⟩ cfg1 none 0 [] (by decide) (fun _ h => absurd h (Nat.not_lt_zero _)) SlR.nil) .free rfl rfl ?_ ?_
  rotate_left
  · rintro _ _ ⟨⟩
  rintro _ _ ⟨bd, pa, N, s0, hN, hf, rfl, rfl⟩
  obtain rfl : N = 56 := by have : (N : Int) = 56 := hN.trans (by decide); omega
  refine kPm rfl rfl (kPv (ev_ext rfl rfl) rfl (kPv (ev_ext rfl rfl) rfl (kPa rfl rfl (kPa rfl rfl (p_nil (go_sb [3, 2, 1, 0] rfl (g_seq (g_seq (g_region (kPm rfl rfl (kPv (ev_not rfl) rfl ?_)))))))))))
  refine p_nil (g_iff rfl (rfl) (g_skip (g_seq (g_region (kPm rfl rfl (kPv (ev_loadA Tryz.isAgg40 Tryz.sizeOf40 rfl rfl) rfl ?_))))))
  refine p_call rfl (en_f Tryz.call64 rfl) (lopen_ok _ _ _ _ ⟨3, 1, 8⟩ cfg1) .free rfl rfl ?_ ?_
  rotate_left
  · rintro _ _ ⟨⟩
  rintro _ _ ⟨bl2, rfl, rfl⟩
  refine kPa rfl rfl (p_nil (g_seq (g_seq (g_region (kPm rfl rfl (kPv (ev_eqp Tryz.runUnderlying116 rfl rfl rfl) rfl (kPm rfl rfl (p_val rfl (ev_move rfl) (.on rfl rfl (beq_eq rfl)) rfl rfl ?_))))))))
  refine p_call rfl (en_f Tryz.call119 rfl) (lappend_ok _ _ _ (openL bd ⟨3, 1, 8⟩ s0) s0 (openL_w cfg1) 40) (.on rfl rfl (beq_eq rfl)) rfl rfl ?_ ?_
  rotate_left
  · rintro _ _ ⟨s9, hm9, rfl, rfl⟩
    exact (okB_off (okB_ok (d6_eval pa bd) hf) hm9).elim
  rintro _ _ ⟨a, L1, s1, hm1, rfl, rfl⟩
  have hev := okB_ok (okB_ok (d6_eval pa bd) hf) hm1
  simp only [Bool.and_eq_true, beq_iff_eq] at hev
  obtain ⟨⟨e1, e2⟩, e3⟩ := hev
  refine p_val rfl (ev_cmp rfl rfl rfl) (.on rfl rfl (beq_eq rfl)) rfl rfl (kPv (ev_pick_f rfl rfl rfl) rfl (kPm rfl rfl (p_val rfl (ev_move rfl) (.on rfl rfl (beq_eq (by rw [e1]; rfl))) rfl rfl ?_)))
  refine p_call rfl (en_f Tryz.call132 rfl) (lrecords_ok _ _ _) (.on rfl rfl (beq_eq (by rw [e1]; rfl))) rfl rfl ?_ ?_
  rotate_left
  · rintro _ _ ⟨⟩
  rintro _ _ ⟨bb, rfl, rfl⟩
  refine p_val rfl (ev_eqfn Tryz.runUnderlying174 ⟨_, _, _, rfl⟩ rfl rfl rfl) (.on rfl rfl (beq_eq (by rw [e1]; rfl))) rfl rfl (kPv (ev_pick_f rfl (by rw [e1]; rfl) rfl) rfl (p_nil (go_sb [30, 2, 1, 0] rfl (g_iff rfl (rfl) (g_skip (g_seq (g_region (go_front 2 rfl ?_))))))))
  simp only [List.eraseIdx_cons_succ, List.eraseIdx_cons_zero]
  refine kPm rfl rfl (kPv (ev_loadA Tryz.isAgg40 Tryz.sizeOf40 rfl rfl) rfl ?_)
  refine p_call rfl (en_f Tryz.call64 rfl) (lopen_ok _ _ _ _ ⟨3, 1, 8⟩ cfg1) .free rfl rfl ?_ ?_
  rotate_left
  · rintro _ _ ⟨⟩
  rintro _ _ ⟨bl5, rfl, rfl⟩
  refine kPa rfl rfl (p_nil (g_seq (g_region (kPm rfl rfl (kPv (ev_eqp Tryz.runUnderlying116 rfl rfl rfl) rfl (kPm rfl rfl ?_))))))
  apply p_and (tp := 40) (t := 36) (σ1 := [(36, _), (5, _), (0, _)]) 4 rfl (sub_r rfl)
  · intro hg1
    refine p_val rfl (ev_move rfl) (.on rfl rfl (beq_eq hg1)) rfl rfl (p_callq rfl (en_f Tryz.call76 rfl) (llen_ok _ _ _ _) (.on rfl rfl (beq_eq hg1)) rfl rfl ?_)
    refine p_val rfl (ev_cmp rfl rfl rfl) (.on rfl rfl (beq_eq hg1)) rfl rfl (kPv (ev_pick_t rfl hg1 rfl) rfl ?_)
    exact p_seg rfl (sub_r rfl) (and_t hg1)
  · intro hg1
    refine p_skip rfl (.on rfl rfl (beq_ne hg1)) rfl (p_skip rfl (.on rfl rfl (beq_ne hg1)) rfl (p_skip rfl (.on rfl rfl (beq_ne hg1)) rfl (kPv (ev_pick_f rfl hg1 rfl) rfl ?_)))
    exact p_seg rfl (sub_r rfl) (and_f hg1)
  refine kPm rfl rfl ?_
  apply p_and (tp := 45) (t := 41) (σ1 := [(41, _), (0, _)]) 4 rfl ⟨rfl, rfl, trivial⟩
  · intro hg2
    refine p_val rfl (ev_move rfl) (.on rfl rfl (beq_eq hg2)) rfl rfl (p_callq rfl (en_f Tryz.call216 rfl) (lepoch_ok _ _ _ _) (.on rfl rfl (beq_eq hg2)) rfl rfl ?_)
    refine p_val rfl (ev_cmp rfl rfl rfl) (.on rfl rfl (beq_eq hg2)) rfl rfl (kPv (ev_pick_t rfl hg2 rfl) rfl ?_)
    exact p_seg rfl ⟨rfl, rfl, trivial⟩ (and_t hg2)
  · intro hg2
    refine p_skip rfl (.on rfl rfl (beq_ne hg2)) rfl (p_skip rfl (.on rfl rfl (beq_ne hg2)) rfl (p_skip rfl (.on rfl rfl (beq_ne hg2)) rfl (kPv (ev_pick_f rfl hg2 rfl) rfl ?_)))
    exact p_seg rfl ⟨rfl, rfl, trivial⟩ (and_f hg2)
  refine kPa rfl rfl (p_nil (g_ret ?_))
  exact ret_tmp Tryz.results214 rfl (fun w hw => ⟨ret_b (by
      show (!(some (⟨bl5, 0, none⟩ : Addr)).isNone && (openL bd ⟨3, 1, 8⟩ s1).n == 1 && (openL bd ⟨3, 1, 8⟩ s1).epoch == 1) = true
      rw [e2, e3]; rfl), hw.tail.tail.tail.tail.tail⟩)
theorem secW0 {d : Nat} {c : Cfg} {s : Dev} {f t : Int} (h : CfgW c) : SecW ⟨openL d c s, f, t, [], []⟩ := ⟨openL_w h, by simp⟩
theorem store_w {S S' : SecS} {s s' : Dev} {i v a : Int} (h : SecW S) (hs : s.n ≤ 1000000) (ha : 0 ≤ S.L.c.active) (e : S.store s i v = .ok (a, S') s') (hw : LogW S'.L) : SecW S' := by
  refine ⟨hw, ?_⟩
  unfold SecS.store at e
  split at e
  · cases e; exact h.dirty
  · rename_i hb
    split at e
    · cases h1 : S.L.append s i with
      | off t => rw [h1] at e; cases e
      | ok x t =>
        rw [h1, then_ok] at e
        split at e
        · cases e; exact h.dirty
        · cases h2 : t.store i v with
          | off u => rw [h2] at e; cases e
          | ok y u =>
            rw [h2, then_ok] at e; cases e
            intro p hp
            rcases mset_mem hp with rfl | hp
            · simp only; omega
            · exact h.dirty p hp
    · cases h2 : s.store i v with
      | off u => rw [h2] at e; cases e
      | ok y u =>
        rw [h2, then_ok] at e; cases e
        intro p hp
        rcases mset_mem hp with rfl | hp
        · simp only; omega
        · exact h.dirty p hp
theorem append_w {L L' : LogS} {s s' : Dev} {i a : Int} (h : LogW L) (e : L.append s i = .ok (a, L') s') : LogW L' := by
  unfold LogS.append at e
  split at e
  · cases e; exact h
  · split at e
    · cases e; exact h
    · rename_i hn
      have h1 := h.n2
      have h2 := h.n1
      simp only [Out.then] at e
      repeat' split at e
      all_goals first | (cases e; exact ⟨h.c, h.e1, h.e2, by simp only; omega, by simp only; omega⟩) | cases e
theorem store_lw {S S' : SecS} {s s' : Dev} {i v a : Int} (h : LogW S.L) (e : S.store s i v = .ok (a, S') s') : LogW S'.L := by
  unfold SecS.store at e
  split at e
  · cases e; exact h
  · split at e
    · cases h1 : S.L.append s i with
      | off t => rw [h1] at e; cases e
      | ok x t =>
        obtain ⟨x1, x2⟩ := x
        have hx := append_w h h1
        rw [h1, then_ok] at e
        split at e
        · cases e; exact hx
        · cases h2 : t.store i v with
          | off u => rw [h2] at e; cases e
          | ok y u => rw [h2, then_ok] at e; cases e; exact hx
    · cases h2 : s.store i v with
      | off u => rw [h2] at e; cases e
      | ok y u => rw [h2, then_ok] at e; cases e; exact h
theorem store_dc {S S' : SecS} {s s' : Dev} {i v a : Int} (e : S.store s i v = .ok (a, S') s') : S'.L.d = S.L.d ∧ S'.L.c = S.L.c ∧ S'.ff = S.ff ∧ S'.ft = S.ft := by
  unfold SecS.store at e
  split at e
  · cases e; exact ⟨rfl, rfl, rfl, rfl⟩
  · split at e
    · cases h1 : S.L.append s i with
      | off t => rw [h1] at e; cases e
      | ok x t =>
        obtain ⟨x1, x2⟩ := x
        have hx := append_dc h1
        rw [h1, then_ok] at e
        split at e
        · cases e; exact ⟨hx.1, hx.2, rfl, rfl⟩
        · cases h2 : t.store i v with
          | off u => rw [h2] at e; cases e
          | ok y u => rw [h2, then_ok] at e; cases e; exact ⟨hx.1, hx.2, rfl, rfl⟩
    · cases h2 : s.store i v with
      | off u => rw [h2] at e; cases e
      | ok y u => rw [h2, then_ok] at e; cases e; exact ⟨rfl, rfl, rfl, rfl⟩
theorem awake7_ok (B : World) (H : List HP) :
    ∀ w, Holds B H w → Calls Tryz.prog 213 [].toArray w (PureR B H (.bool true)) := by
  refine fn_enter Tryz.func213 rfl Tryz.ntmps213 rfl (g_seq (g_region (kPa rfl rfl (p_nil (g_seq (g_seq (g_region (p_callq rfl (en_f Tryz.call214 rfl) (awake6_ok _ _) .free rfl rfl ?_))))))))
  refine kPv (ev_not rfl) rfl (p_nil (g_iff rfl (rfl) (g_skip (g_seq (g_region (kPv (ev_build rfl (bld_40_0_1_2 _ _ _ rfl rfl rfl)) rfl (p_chg rfl (ch_allocA Tryz.zeroValue40 rfl) .free rfl rfl ?_)))))))
  rintro _ _ ⟨b1, rfl, rfl⟩
  refine p_chg0 rfl (ch_storeA (vs := _) Tryz.sizeOf40 rfl rfl rfl rfl rfl) .free rfl ?_
  rintro _ _ rfl
  refine p_nil (g_seq (g_region (kPv (ev_loadA Tryz.isAgg40 Tryz.sizeOf40 rfl rfl) rfl ?_)))
  refine p_call rfl (en_f Tryz.call49 rfl) (formatted_ok _ _ ⟨3, 1, 8⟩ cfg1 none 0 [] (by decide) (fun _ h => absurd h (Nat.not_lt_zero _)) SlR.nil) .free rfl rfl ?_ ?_
  rotate_left
  · rintro _ _ ⟨⟩
  rintro _ _ ⟨bd, pa, N, s0, hN, hf, rfl, rfl⟩
  obtain rfl : N = 56 := by have : (N : Int) = 56 := hN.trans (by decide); omega
  refine kPm rfl rfl (kPv (ev_ext rfl rfl) rfl (kPv (ev_ext rfl rfl) rfl (kPa rfl rfl (kPa rfl rfl (p_nil (go_sb [3, 2, 1, 0] rfl (g_seq (g_seq (g_region (kPm rfl rfl (kPv (ev_not rfl) rfl ?_)))))))))))
  refine p_nil (g_iff rfl (rfl) (g_skip (g_seq (g_region (kPm rfl rfl (kPv (ev_loadA Tryz.isAgg40 Tryz.sizeOf40 rfl rfl) rfl ?_))))))
  refine p_call rfl (en_f Tryz.call69 rfl) (snew_ok _ _ _ _ ⟨3, 1, 8⟩ cfg1) .free rfl rfl ?_ ?_
  rotate_left
  · rintro _ _ ⟨⟩
  rintro _ _ ⟨bs, rfl, rfl⟩
  refine kPa rfl rfl (p_nil (go_sb [4, 2, 0] rfl (g_seq (g_seq (g_region (go_secC fun bl o1 o2 => (kPm rfl rfl (kPv (ev_eqp Tryz.runUnderlying89 rfl rfl rfl) rfl (kPm rfl rfl (p_val rfl (ev_move rfl) (.on rfl rfl (beq_eq rfl)) rfl rfl ?_))))))))))
  first | refine p_val rfl (ev_nil rfl) (.on rfl rfl (beq_eq rfl)) rfl rfl ?_ | refine p_val rfl (ev_nilf rfl) (.on rfl rfl (beq_eq rfl)) rfl rfl ?_
  refine p_val rfl (ev_fa (m := _) fa_129_0 rfl rfl) (.on rfl rfl (beq_eq rfl)) rfl rfl (p_val rfl (ev_load Tryz.isAgg116 rfl rfl) (.on rfl rfl (beq_eq rfl)) rfl rfl (p_val rfl (ev_eqp Tryz.runUnderlying116 rfl rfl rfl) (.on rfl rfl (beq_eq rfl)) rfl rfl (kPv (ev_pick_f rfl rfl rfl) rfl (p_nil (go_sb [30, 4, 2, 0] rfl (g_iff rfl (rfl) (g_skip (g_seq (g_region (go_conv (H' := SecC bs (⟨openL bd ⟨3, 1, 8⟩ s0, 0, 0, [], []⟩ : SecS) :: DevA bd s0 :: row b1 _ 40 :: H) (fun w hh => secC_holds (S := (⟨openL bd ⟨3, 1, 8⟩ s0, 0, 0, [], []⟩ : SecS)) hh) (go_dw bd fun hn1 hn2 hn3 => ?_)))))))))))
  refine kPm rfl rfl (kPv (ev_build rfl (bld_99)) rfl ?_)
  refine p_call rfl (en_f Tryz.call53 rfl) (sbeginC_ok _ _ _ _ _ _) .free rfl rfl ?_ ?_
  rotate_left
  · rintro _ _ ⟨⟩
  rintro _ _ ⟨rfl, rfl⟩
  refine kPm rfl rfl ?_
  refine p_call rfl (en_f Tryz.call56 rfl) (sstoreO_ok _ _ _ (⟨openL bd ⟨3, 1, 8⟩ s0, 0, 0, [], []⟩ : SecS) s0 (secW0 cfg1) _ _) .free rfl rfl ?_ ?_
  rotate_left
  · rintro _ _ ⟨s9, hm9, rfl, rfl⟩
    exact (okB_off (okB_ok (d7_eval pa bd) hf) hm9).elim
  rintro _ _ ⟨a, S1, s1, hm1, rfl, rfl⟩
  have hev := okB_ok (okB_ok (d7_eval pa bd) hf) hm1
  simp only [Bool.and_eq_true, beq_iff_eq] at hev
  obtain ⟨⟨e1, e2⟩, e3⟩ := hev
  have hd := (store_dc hm1).1
  have hW1 : SecW S1 := store_w (secW0 cfg1) hn3 (show (0 : Int) ≤ (Cfg.mk 3 1 8).active by decide) hm1 (store_lw (openL_w cfg1) hm1)
  refine go_conv (H' := SecO bs S1 :: DevA bd s1 :: row b1 _ 40 :: H) (fun w hh => hh) (kPa rfl rfl (kPa rfl rfl (p_nil (g_seq (g_region (kPm rfl rfl (p_callq rfl (en_f Tryz.call71 rfl) (ro_at (q := DevA) (fun Fr => nload_ok _ Fr _ _ _)) .free rfl rfl ?_)))))))
  refine kPa rfl rfl (p_nil (go_sb [7, 6, 5, 4, 2, 0] rfl (g_seq (g_region (go_conv (H' := SecO bs S1 :: DevA S1.L.d s1 :: row b1 _ 40 :: H) (fun w hh => by rw [hd]; exact hh) (kPm rfl rfl ?_))))))
  refine p_call rfl (en_f Tryz.call145 rfl) (sabortO_ok _ _ _ S1 s1 hW1) .free rfl rfl ?_ ?_
  rotate_left
  · rintro _ _ ⟨s9, hm9, rfl, rfl⟩
    exact (okB_off e3 hm9).elim
  rintro _ _ ⟨S2, s2, hm2, rfl, rfl⟩
  have e4 := okB_ok e3 hm2
  simp only [beq_iff_eq] at e4
  refine go_conv (H' := SecC bs S2 :: DevA bd s2 :: row b1 _ 40 :: H) (fun w hh => by rw [hd] at hh; exact hh) (kPa rfl rfl (p_nil (g_seq (g_region (kPm rfl rfl (kPv (ev_cmp rfl rfl rfl) rfl (kPm rfl rfl ?_)))))))
  apply p_and (tp := 45) (t := 42) (σ1 := [(42, _), (8, _), (7, _), (4, _), (2, _), (0, _)]) 3 rfl (sub_r rfl)
  · intro hg1
    refine p_val rfl (ev_move rfl) (.on rfl rfl (beq_eq hg1)) rfl rfl (p_val rfl (ev_cmp rfl rfl rfl) (.on rfl rfl (beq_eq hg1)) rfl rfl (kPv (ev_pick_t rfl hg1 rfl) rfl ?_))
    exact p_seg rfl (sub_r rfl) (and_t hg1)
  · intro hg1
    refine p_skip rfl (.on rfl rfl (beq_ne hg1)) rfl (p_skip rfl (.on rfl rfl (beq_ne hg1)) rfl (kPv (ev_pick_f rfl hg1 rfl) rfl ?_))
    exact p_seg rfl (sub_r rfl) (and_f hg1)
  refine kPm rfl rfl ?_
  apply p_and (tp := 49) (t := 46) (σ1 := [(46, _), (7, _), (4, _), (2, _), (0, _)]) 3 rfl (sub_r rfl)
  · intro hg2
    refine p_val rfl (ev_move rfl) (.on rfl rfl (beq_eq hg2)) rfl rfl (p_val rfl (ev_cmp rfl rfl rfl) (.on rfl rfl (beq_eq hg2)) rfl rfl (kPv (ev_pick_t rfl hg2 rfl) rfl ?_))
    exact p_seg rfl (sub_r rfl) (and_t hg2)
  · intro hg2
    refine p_skip rfl (.on rfl rfl (beq_ne hg2)) rfl (p_skip rfl (.on rfl rfl (beq_ne hg2)) rfl (kPv (ev_pick_f rfl hg2 rfl) rfl ?_))
    exact p_seg rfl (sub_r rfl) (and_f hg2)
  refine kPm rfl rfl ?_
  apply p_and (tp := 53) (t := 50) (σ1 := [(50, _), (4, _), (2, _), (0, _)]) 3 rfl (sub_r rfl)
  · intro hg3
    refine p_val rfl (ev_move rfl) (.on rfl rfl (beq_eq hg3)) rfl rfl (p_val rfl (ev_cmp rfl rfl rfl) (.on rfl rfl (beq_eq hg3)) rfl rfl (kPv (ev_pick_t rfl hg3 rfl) rfl ?_))
    exact p_seg rfl (sub_r rfl) (and_t hg3)
  · intro hg3
    refine p_skip rfl (.on rfl rfl (beq_ne hg3)) rfl (p_skip rfl (.on rfl rfl (beq_ne hg3)) rfl (kPv (ev_pick_f rfl hg3 rfl) rfl ?_))
    exact p_seg rfl (sub_r rfl) (and_f hg3)
  refine kPm rfl rfl ?_
  apply p_and (tp := 58) (t := 54) (σ1 := [(54, _), (4, _), (0, _)]) 4 rfl (sub_r rfl)
  · intro hg4
    refine p_val rfl (ev_move rfl) (.on rfl rfl (beq_eq hg4)) rfl rfl (p_callq rfl (en_f Tryz.call71 rfl) (ro_at (q := DevA) (fun Fr => nload_ok _ Fr _ _ _)) (.on rfl rfl (beq_eq hg4)) rfl rfl ?_)
    refine p_val rfl (ev_cmp rfl rfl rfl) (.on rfl rfl (beq_eq hg4)) rfl rfl (kPv (ev_pick_t rfl hg4 rfl) rfl ?_)
    exact p_seg rfl (sub_r rfl) (and_t hg4)
  · intro hg4
    refine p_skip rfl (.on rfl rfl (beq_ne hg4)) rfl (p_skip rfl (.on rfl rfl (beq_ne hg4)) rfl (p_skip rfl (.on rfl rfl (beq_ne hg4)) rfl (kPv (ev_pick_f rfl hg4 rfl) rfl ?_)))
    exact p_seg rfl (sub_r rfl) (and_f hg4)
  refine kPm rfl rfl ?_
  apply p_and (tp := 63) (t := 59) (σ1 := [(59, _), (0, _)]) 4 rfl ⟨rfl, rfl, trivial⟩
  · intro hg5
    refine p_val rfl (ev_move rfl) (.on rfl rfl (beq_eq hg5)) rfl rfl (p_callq rfl (en_f Tryz.call51 rfl) (sopenC_ok _ _ _ _) (.on rfl rfl (beq_eq hg5)) rfl rfl ?_)
    refine p_val rfl (ev_not rfl) (.on rfl rfl (beq_eq hg5)) rfl rfl (kPv (ev_pick_t rfl hg5 rfl) rfl ?_)
    exact p_seg rfl ⟨rfl, rfl, trivial⟩ (and_t hg5)
  · intro hg5
    refine p_skip rfl (.on rfl rfl (beq_ne hg5)) rfl (p_skip rfl (.on rfl rfl (beq_ne hg5)) rfl (p_skip rfl (.on rfl rfl (beq_ne hg5)) rfl (kPv (ev_pick_f rfl hg5 rfl) rfl ?_)))
    exact p_seg rfl ⟨rfl, rfl, trivial⟩ (and_f hg5)
  refine kPa rfl rfl (p_nil (g_ret ?_))
  exact ret_tmp Tryz.results213 rfl (fun w hw => ⟨ret_b (by rw [e1, e2, e4]; rfl), hw.tail.tail.tail⟩)
end Go.Proofs.YtlcibdhmgclfjaaGreat
namespace Go.Proofs.YtlcibdhmgclfjaaGreat
open Go
def Dev.pk (s : Dev) (x : Nat) : Int := fkept s.kept s.q x
def Run {α : Type} (m : Out α) (R : Dev → Prop) : Prop := ∃ a s, m = .ok a s ∧ R s
theorem run_then {α β : Type} {m : Out α} {f : α → Dev → Out β} {R Q : Dev → Prop} (h : Run m R) (g : ∀ a s, R s → Run (f a s) Q) : Run (m.then f) Q := by
  obtain ⟨a, s, rfl, h1⟩ := h
  exact g a s h1
structure FI (N : Nat) (D : Nat → Prop) (V : Nat → Int → Prop) (s : Dev) : Prop where
  lim : s.pow.lim < 0
  n : s.n = N
  p : ∀ x, ¬ D (x / 8) → s.pk x = s.now x
  v : ∀ x y, V x y → s.now x = y
theorem pk_flush (s : Dev) (i x : Nat) : (s.up.fl i).pk x = if x / 8 = i / 8 then s.now x else s.pk x := by
  simp only [Dev.pk, Dev.fl, Dev.up, fkept, upd]
  by_cases e : x / 8 = i / 8
  · rw [if_pos e, if_pos e]
    simp only
    congr 1; omega
  · rw [if_neg e, if_neg e]
theorem pk_fence (s : Dev) (x : Nat) : s.up.fe.pk x = s.pk x := rfl
theorem run_store {N : Nat} {D : Nat → Prop} {V V' : Nat → Int → Prop} {s : Dev} {i v : Int} (h : FI N D V s) (hi : 0 ≤ i ∧ i < N) (hv : ∀ x y, V' x y → (x = i.toNat ∧ y = v) ∨ (x ≠ i.toNat ∧ V x y)) :
    Run (s.store i v) (FI N (fun l => D l ∨ l = i.toNat / 8) V') := by
  refine ⟨0, _, store_ne h.lim ⟨hi.1, by rw [h.n]; exact hi.2⟩, ?_⟩
  refine ⟨h.lim, h.n, fun x hx => ?_, fun x y hp => ?_⟩
  · have hne : x ≠ i.toNat := fun e => hx (.inr (by rw [e]))
    show s.pk x = upd s.now i.toNat v x
    simp only [upd, if_neg hne]
    exact h.p x fun hd => hx (.inl hd)
  · show upd s.now i.toNat v x = y
    rcases hv x y hp with ⟨e1, e2⟩ | ⟨e1, e2⟩
    · simp only [upd, if_pos e1, e2]
    · simp only [upd, if_neg e1]; exact h.v x y e2
theorem run_flush {N : Nat} {D D' : Nat → Prop} {V : Nat → Int → Prop} {s : Dev} {i : Int} (h : FI N D V s) (hi : 0 ≤ i ∧ i < N) (hD : ∀ l, D l → D' l ∨ l = i.toNat / 8) :
    Run (s.flush i) (FI N D' V) := by
  refine ⟨0, _, flush_ne h.lim ⟨hi.1, by rw [h.n]; exact hi.2⟩, ?_⟩
  refine ⟨h.lim, h.n, fun x hx => ?_, h.v⟩
  rw [pk_flush]
  by_cases e : x / 8 = i.toNat / 8
  · rw [if_pos e]; rfl
  · rw [if_neg e]
    exact h.p x fun hd => (hD _ hd).elim hx e
theorem run_fence {N : Nat} {D : Nat → Prop} {V : Nat → Int → Prop} {s : Dev} (h : FI N D V s) : Run s.fence (fun s' => FI N D V s' ∧ s'.kept = s'.pk ∧ s'.q = fun _ => none) := by
  refine ⟨(), _, fence_ne h.lim, ⟨h.lim, h.n, fun x hx => ?_, h.v⟩, rfl, rfl⟩
  rw [pk_fence]; exact h.p x hx
def VZ (V : Nat → Int → Prop) (f : Int → Int) (i : Int) (k : Nat) (x : Nat) (y : Int) : Prop := (V x y ∧ ∀ j : Int, i ≤ j → j < i + k → x ≠ (f j).toNat) ∨ (y = 0 ∧ ∃ j : Int, i ≤ j ∧ j < i + k ∧ x = (f j).toNat)
theorem run_zero {N : Nat} {D : Nat → Prop} (f : Int → Int) : ∀ (k : Nat) (V : Nat → Int → Prop) (i : Int) (s : Dev), FI N D V s → (∀ j : Int, i ≤ j → j < i + k → 0 ≤ f j ∧ f j < N) → Run (zeroN f k i s) (FI N D (VZ V f i k))
  | 0, V, i, s, h, _ => ⟨(), s, rfl, h.lim, h.n, h.p, fun x y hv => by
    rcases hv with ⟨h1, _⟩ | ⟨_, j, h1, h2, _⟩
    · exact h.v x y h1
    · omega⟩
  | k + 1, V, i, s, h, hf => by
    have hfi := hf i (Int.le_refl _) (by omega)
    refine run_then (run_store (V' := fun x y => (V x y ∧ x ≠ (f i).toNat) ∨ (y = 0 ∧ x = (f i).toNat)) h hfi fun x y hp => ?_) fun _ s1 h1 => run_then (run_flush (D' := D) h1 hfi fun l hl => hl) fun _ s2 h2 => ?_
    · rcases hp with ⟨h1, h2⟩ | ⟨h1, h2⟩
      · exact .inr ⟨h2, h1⟩
      · exact .inl ⟨h2, h1⟩
    · obtain ⟨a, s3, e, h3⟩ := run_zero f k _ (i + 1) s2 h2 (fun j h3 h4 => hf j (by omega) (by omega))
      refine ⟨a, s3, e, h3.lim, h3.n, h3.p, fun x y hv => h3.v x y ?_⟩
      rcases hv with ⟨g1, g2⟩ | ⟨g1, j, g2, g3, g4⟩
      · exact .inl ⟨.inl ⟨g1, g2 i (by omega) (by omega)⟩, fun j h5 h6 => g2 j (by omega) (by omega)⟩
      · by_cases hx : ∃ j : Int, i + 1 ≤ j ∧ j < i + 1 + k ∧ x = (f j).toNat
        · exact .inr ⟨g1, hx⟩
        · refine .inl ⟨.inr ⟨g1, ?_⟩, fun j' h5 h6 h7 => hx ⟨j', h5, h6, h7⟩⟩
          by_cases hj : j = i
          · rw [g4, hj]
          · exact absurd ⟨j, by omega, by omega, g4⟩ hx
theorem run_st3 {N : Nat} (l : List Int) (hN : 40 ≤ N) : ∀ (k i : Nat) (V : Nat → Int → Prop) (s : Dev), i + k ≤ 3 → FI N (fun l => l = 0) V s → Run (st3 l k i s) (FI N (fun l => l = 0) (fun x y => (V x y ∧ (x < 1 + i ∨ 1 + i + k ≤ x)) ∨ (1 + i ≤ x ∧ x < 1 + i + k ∧ y = l.getD (x - 1) 0)))
  | 0, i, V, s, _, h => ⟨(), s, rfl, h.lim, h.n, h.p, fun x y hv => by
    rcases hv with ⟨h1, _⟩ | ⟨h1, h2, _⟩
    · exact h.v x y h1
    · omega⟩
  | k + 1, i, V, s, hk, h => by
    refine run_then (run_store (V' := fun x y => (V x y ∧ x ≠ 1 + i) ∨ (x = 1 + i ∧ y = l.getD i 0)) h ⟨by omega, by omega⟩ fun x y hp => ?_) fun _ s1 h1 => ?_
    · have e : (1 + (i : Int)).toNat = 1 + i := by omega
      rw [e]
      rcases hp with ⟨h1, h2⟩ | ⟨h1, h2⟩
      · exact .inr ⟨h2, h1⟩
      · exact .inl ⟨h1, h2⟩
    · obtain ⟨a, s3, e, h3⟩ := run_st3 l hN k (i + 1) _ s1 (by omega) ⟨h1.lim, h1.n, fun x hx => h1.p x fun hd => by
        rcases hd with h2 | h2
        · exact hx h2
        · exact hx (by rw [h2]; omega), h1.v⟩
      refine ⟨a, s3, e, h3.lim, h3.n, h3.p, fun x y hv => h3.v x y ?_⟩
      rcases hv with ⟨g1, g2⟩ | ⟨g1, g2, g3⟩
      · exact .inl ⟨.inl ⟨g1, by omega⟩, by omega⟩
      · by_cases hx : x = 1 + i
        · exact .inl ⟨.inr ⟨hx, by rw [g3, hx]; congr 1; omega⟩, by omega⟩
        · exact .inr ⟨by omega, by omega, g3⟩
theorem FI.weak {N : Nat} {D D' : Nat → Prop} {V V' : Nat → Int → Prop} {s : Dev} (h : FI N D V s) (hD : ∀ l, D l → D' l) (hv : ∀ x y, V' x y → V x y) : FI N D' V' s := ⟨h.lim, h.n, fun x hx => h.p x fun hd => hx (hD _ hd), fun x y hp => h.v x y (hv x y hp)⟩
structure Calm (s : Dev) : Prop where
  kept : s.kept = s.now
  q : s.q = fun _ => none
structure Stood (c : Cfg) (s : Dev) : Prop where
  ep : s.now 8 = 1
  recs : ∀ k : Nat, (k : Int) < c.log → s.now (16 + 4 * k) = 0
  block : ∀ x : Nat, c.active ≤ x → x < c.root c.roots → s.now x = 0
  magic : s.now 0 = magicI
  cfg : s.now 1 = c.log ∧ s.now 2 = c.roots ∧ s.now 3 = c.space
theorem format_run {s : Dev} {c : Cfg} {N : Nat} (hc : CfgW c) (hn : (s.n : Int) = c.words) (hN : s.n = N) (hl : s.pow.lim < 0) (hs : Calm s) : Run (s.format c) (fun s' => Calm s' ∧ s'.pow.lim < 0 ∧ s'.n = N ∧ Stood c s') := by
  have hw := words_b hc
  have hact := hc.act
  have := hc.r1; have := hc.r2; have := hc.l1; have := hc.l2; have := hc.s1; have := hc.s2
  have hroot : c.active ≤ c.root c.roots ∧ c.root c.roots ≤ c.words := by
    have h1 := lines_b (n := c.root c.roots) (by simp only [Cfg.root]; omega)
    have h2 := lines_b (n := c.space) (by omega)
    refine ⟨by simp only [Cfg.root]; omega, ?_⟩
    simp only [Cfg.words, Cfg.frm]
    omega
  have hN40 : 40 ≤ N := by omega
  have h0 : FI N (fun _ => False) (fun _ _ => False) s := ⟨hl, hN, fun x _ => by rw [Dev.pk, hs.q]; show s.kept x = _; rw [hs.kept], fun _ _ h => h.elim⟩
  unfold Dev.format
  rw [if_neg (format_ok hc hn)]
  refine run_then (run_store (V' := fun _ _ => False) h0 ⟨by omega, by omega⟩ fun _ _ h => h.elim) fun _ s1 h1 => ?_
  refine run_then (run_flush (D' := fun _ => False) h1 ⟨by omega, by omega⟩ fun l hl => hl) fun _ s2 h2 => ?_
  refine run_then (run_fence h2) fun _ s3 h3 => ?_
  refine run_then (run_st3 _ hN40 3 0 _ s3 (by omega) (h3.1.weak (V' := fun _ _ => False) (fun _ h => h.elim) fun _ _ h => h)) fun _ s4 h4 => ?_
  refine run_then (run_store (V' := fun x y => (x = 8 ∧ y = 1) ∨ (x = 1 ∧ y = c.log) ∨ (x = 2 ∧ y = c.roots) ∨ (x = 3 ∧ y = c.space)) h4 ⟨by omega, by omega⟩ fun x y hp => ?_) fun _ s5 h5 => ?_
  · rcases hp with ⟨e1, e2⟩ | ⟨e1, e2⟩ | ⟨e1, e2⟩ | ⟨e1, e2⟩
    · exact .inl ⟨e1, e2⟩
    · exact .inr ⟨by rw [e1]; decide, .inr ⟨by omega, by omega, by rw [e2, e1]; rfl⟩⟩
    · exact .inr ⟨by rw [e1]; decide, .inr ⟨by omega, by omega, by rw [e2, e1]; rfl⟩⟩
    · exact .inr ⟨by rw [e1]; decide, .inr ⟨by omega, by omega, by rw [e2, e1]; rfl⟩⟩
  refine run_then (run_flush (D' := fun l => l = 0) h5 ⟨by omega, by omega⟩ fun l hl => hl) fun _ s6 h6 => ?_
  refine run_then (run_zero c.record c.log.toNat _ 0 s6 h6 fun j h3 h4 => ⟨by simp only [Cfg.record]; omega, by simp only [Cfg.record]; omega⟩) fun _ s7 h7 => ?_
  refine run_then (run_zero id (c.root c.roots - c.active).toNat _ c.active s7 h7 fun j h3 h4 => ⟨by simp only [id]; omega, by simp only [id]; omega⟩) fun _ s8 h8 => ?_
  refine run_then (run_flush (D' := fun _ => False) h8 ⟨by omega, by omega⟩ fun l hl => .inr (by simpa using hl)) fun _ s9 h9 => ?_
  refine run_then (run_fence h9) fun _ s10 h10 => ?_
  have hold : ∀ x y, x ≠ 0 → VZ (VZ (fun x y => (x = 8 ∧ y = 1) ∨ (x = 1 ∧ y = c.log) ∨ (x = 2 ∧ y = c.roots) ∨ (x = 3 ∧ y = c.space)) c.record 0 c.log.toNat) id c.active (c.root c.roots - c.active).toNat x y → True := fun _ _ _ _ => trivial
  refine run_then (run_store (V' := fun x y => (x = 0 ∧ y = magicI) ∨ (x ≠ 0 ∧ VZ (VZ (fun x y => (x = 8 ∧ y = 1) ∨ (x = 1 ∧ y = c.log) ∨ (x = 2 ∧ y = c.roots) ∨ (x = 3 ∧ y = c.space)) c.record 0 c.log.toNat) id c.active (c.root c.roots - c.active).toNat x y)) h10.1 ⟨by omega, by omega⟩ fun x y hp => ?_) fun _ s11 h11 => ?_
  · rcases hp with ⟨e1, e2⟩ | ⟨e1, e2⟩
    · exact .inl ⟨e1, e2⟩
    · exact .inr ⟨e1, e2⟩
  refine run_then (run_flush (D' := fun _ => False) h11 ⟨by omega, by omega⟩ fun l hl => hl) fun _ s12 h12 => ?_
  refine run_then (run_fence h12) fun _ s13 h13 => ?_
  have hkeep : ∀ x y, x ≠ 0 → x < 16 → ((x = 8 ∧ y = 1) ∨ (x = 1 ∧ y = c.log) ∨ (x = 2 ∧ y = c.roots) ∨ (x = 3 ∧ y = c.space)) → s13.now x = y := fun x y h1 h2 h3 => h13.1.v x y (.inr ⟨h1, .inl ⟨.inl ⟨h3, fun j _ _ => by simp only [Cfg.record]; omega⟩, fun j _ _ => by simp only [id]; omega⟩⟩)
  refine ⟨0, s13, rfl, ⟨?_, h13.2.2⟩, h13.1.lim, h13.1.n, hkeep 8 1 (by decide) (by decide) (.inl ⟨rfl, rfl⟩), fun k hk => ?_, fun x hx1 hx2 => ?_, h13.1.v 0 _ (.inl ⟨rfl, rfl⟩), hkeep 1 _ (by decide) (by decide) (.inr (.inl ⟨rfl, rfl⟩)), hkeep 2 _ (by decide) (by decide) (.inr (.inr (.inl ⟨rfl, rfl⟩))), hkeep 3 _ (by decide) (by decide) (.inr (.inr (.inr ⟨rfl, rfl⟩)))⟩
  · rw [h13.2.1]; funext x; exact h13.1.p x (fun h => h)
  · exact h13.1.v _ _ (.inr ⟨by omega, .inl ⟨.inr ⟨rfl, k, by omega, by omega, by simp only [Cfg.record]; omega⟩, fun j h1 _ => by simp only [id]; omega⟩⟩)
  · exact h13.1.v _ _ (.inr ⟨by omega, .inr ⟨rfl, x, by omega, by omega, by simp⟩⟩)
structure Fmt (c : Cfg) (N : Nat) (s : Dev) : Prop where
  calm : Calm s
  lim : s.pow.lim < 0
  n : s.n = N
  log : ∀ d, openL d c s = ⟨d, c, 1, 0⟩
  ep : s.now 8 = 1 ∧ s.now 16 = 0
  st : Stood c s
theorem Fmt.recs {c : Cfg} {N : Nat} {s : Dev} (h : Fmt c N s) (k : Nat) (hk : (k : Int) < c.log) : s.now (16 + 4 * k) ≤ 1 * 4294967296 := by
  rw [h.st.recs k hk]; decide
theorem openN_zero {s : Dev} {c : Cfg} {e : Int} (h : s.load (c.record 0) ≠ stampI e 0) : ∀ f, openN s c e f 0 = 0
  | 0 => rfl
  | f + 1 => by simp only [openN]; rw [if_neg h]
theorem fmt_of {pa N : Nat} {xs : List Int} {c : Cfg} {s : Dev} (hc : CfgW c) (hN : (N : Int) = c.words) (h : (dev0 pa xs N).format c = .ok 0 s) : Fmt c N s := by
  have hw := words_b hc
  obtain ⟨a, t, e, h1, h2, h3, hst⟩ := format_run (s := dev0 pa xs N) hc hN rfl (show (-1 : Int) < 0 by decide) ⟨rfl, rfl⟩
  rw [h] at e; cases e
  have h3 : s.n = N := h3
  have h4 := hst.ep
  have h5 : s.now 16 = 0 := hst.recs 0 (by have := hc.l1; have := hc.r1; omega)
  refine ⟨h1, h2, h3, fun d => ?_, ⟨h4, h5⟩, hst⟩
  have e8 : s.load 8 = 1 := by
    have : s.has 8 = true := by simp [Dev.has, h3]; omega
    simp [Dev.load, this, h4]
  have e16 : s.load (c.record 0) = 0 := by
    have : s.has 16 = true := by simp [Dev.has, h3]; omega
    show s.load 16 = 0
    simp [Dev.load, this, h5]
  unfold openL
  rw [e8]
  have : openN s c (1 % 4294967296) c.log.toNat 0 = 0 := openN_zero (by rw [e16]; decide) _
  rw [this]; rfl
end Go.Proofs.YtlcibdhmgclfjaaGreat
namespace Go.Proofs.YtlcibdhmgclfjaaGreat
open Go
structure Blk where
  act : Int
  used : Int
  rts : List Int
def U64 (s : Dev) : Prop := ∀ x, 0 ≤ s.now x ∧ s.now x < 18446744073709551616
theorem U64.load {s : Dev} (h : U64 s) (i : Int) : 0 ≤ s.load i ∧ s.load i < 18446744073709551616 := by
  unfold Dev.load
  split
  · exact h _
  · omega
def Dev.block (s : Dev) (c : Cfg) : Blk × Int :=
  if 1 < s.load c.active ∨ c.space < s.load (c.active + 1) then (⟨0, 0, []⟩, 10)
  else (⟨s.load c.active, s.load (c.active + 1), tab c.roots.toNat fun i => s.load (c.root i)⟩, 0)
structure BlkW (c : Cfg) (b : Blk) : Prop where
  act : 0 ≤ b.act ∧ b.act ≤ 1
  used : 0 ≤ b.used ∧ b.used ≤ c.space
theorem block_w {s : Dev} {c : Cfg} (hc : CfgW c) (hu : U64 s) : BlkW c (s.block c).1 := by
  have h1 := hu.load c.active
  have h2 := hu.load (c.active + 1)
  have := hc.s1
  unfold Dev.block
  split
  · exact ⟨⟨by decide, by decide⟩, ⟨by decide, by show (0 : Int) ≤ c.space; omega⟩⟩
  · rename_i h
    exact ⟨⟨by simp only; omega, by simp only; omega⟩, ⟨by simp only; omega, by simp only; omega⟩⟩
def Blk.place (b : Blk) (c : Cfg) (i : Int) : Int := c.frm b.act + i
def Blk.has (b : Blk) (c : Cfg) (w : Int) : Bool := decide (c.frm b.act ≤ w) && decide (w - c.frm b.act < b.used)
abbrev Obj3 := Int × Int × Int
def Dev.objOf (s : Dev) (c : Cfg) (b : Blk) (at_ : Int) : Obj3 × Int :=
  if at_ < 0 ∨ b.has c at_ = false then ((0, 0, 0), 6)
  else if (unp (s.load at_)).2.2 = false ∨ b.place c b.used - at_ < (unp (s.load at_)).1 + 1 then ((0, 0, 0), 8)
  else (((unp (s.load at_)).1, (unp (s.load at_)).2.1, at_), 0)
def objField (o : Obj3) (i : Int) (ref : Bool) : Int × Int :=
  if i < 0 ∨ o.1 ≤ i then (0, 1) else if decide (i < o.2.1) ≠ ref then (0, 5) else (o.2.2 + 1 + i, 0)
def Dev.objRead (s : Dev) (o : Obj3) (i : Int) : Int × Int := if (objField o i false).2 ≠ 0 then (0, (objField o i false).2) else (s.load (objField o i false).1, 0)
def Dev.objRef (s : Dev) (o : Obj3) (i : Int) : Int × Int := if (objField o i true).2 ≠ 0 then (0, (objField o i true).2) else (IntKind.i64.wrap (s.load (objField o i true).1), 0)
def Dev.objNames (s : Dev) (o : Obj3) : Nat → Int → List (Int × Int)
  | 0, _ => []
  | f + 1, k => if IntKind.i64.wrap (s.load (o.2.2 + 1 + k)) ≠ 0 then (k, IntKind.i64.wrap (s.load (o.2.2 + 1 + k))) :: s.objNames o f (k + 1) else s.objNames o f (k + 1)
def Dev.objs (s : Dev) (c : Cfg) (b : Blk) : Nat → Int → List (Obj3 × Int)
  | 0, _ => []
  | f + 1, at_ => if b.place c b.used ≤ at_ then [] else
    if (s.objOf c b at_).2 ≠ 0 then [((0, 0, at_), (s.objOf c b at_).2)]
    else s.objOf c b at_ :: s.objs c b f (at_ + ((s.objOf c b at_).1.1 + 1))
theorem frm_b {c : Cfg} (hc : CfgW c) {k : Int} (hk : 0 ≤ k ∧ k ≤ 2) : 24 < c.frm k ∧ c.frm k + (2 - k) * c.space ≤ c.words ∧ c.words ≤ 20000 ∧ c.active + 2 + c.roots ≤ c.frm k ∧ c.frm k ≤ c.words := by
  have h1 := hc.act
  have h2 := words_b hc
  have := hc.r1; have := hc.r2; have := hc.l1; have := hc.l2; have := hc.s1; have := hc.s2
  have h3 := lines_b (n := c.root c.roots) (by simp only [Cfg.root]; omega)
  have h4 := lines_b (n := c.space) (by omega)
  simp only [Cfg.words, Cfg.frm, Cfg.root] at *
  rcases (by omega : k = 0 ∨ k = 1 ∨ k = 2) with rfl | rfl | rfl <;> omega
theorem bhas_b {c : Cfg} {b : Blk} (hc : CfgW c) (hb : BlkW c b) {w : Int} (h : b.has c w = true) : c.frm b.act ≤ w ∧ w < c.frm b.act + b.used ∧ w < 20000 ∧ 24 < w := by
  have h1 := hb.act
  have h2 := hb.used
  have h3 := frm_b hc (k := b.act) (by omega)
  have := hc.s1
  unfold Blk.has at h
  simp only [Bool.and_eq_true, decide_eq_true_eq] at h
  rcases (by omega : b.act = 0 ∨ b.act = 1) with e | e <;> (rw [e] at h h3 ⊢; omega)
end Go.Proofs.YtlcibdhmgclfjaaGreat
namespace Go.Proofs.YtlcibdhmgclfjaaGreat
open Go
def mkC (l r s : Int) : Cfg := ⟨1 + r % 6 + 2 + l % 12, 1 + r % 6, 8 + s % 90⟩
theorem mkC_w {l r s : Int} (hl : 0 ≤ l) (hr : 0 ≤ r) (hs : 0 ≤ s) : CfgW (mkC l r s) := ⟨by simp only [mkC]; omega, by simp only [mkC]; omega, by simp only [mkC]; omega, by simp only [mkC]; omega, by simp only [mkC]; omega, by simp only [mkC]; omega⟩
abbrev u16 (x : Int) : Value := .int .u16 x
theorem rem_e {a : Int} (k : Int) (h : 0 ≤ a) : a.tmod k = a % k := Int.tmod_eq_emod_of_nonneg h
theorem make_ok (B : World) (H : List HP) (l r s : Int) (hl : 0 ≤ l) (hr : 0 ≤ r) (hs : 0 ≤ s) :
    ∀ w, Holds B H w → Calls Tryz.prog 48 [.agg #[u16 l, u16 r, u16 s]].toArray w (PureR B H (cfgV (mkC l r s))) := by
  refine fn_enter Tryz.func48 rfl Tryz.ntmps48 rfl (g_seq (g_region (p_chg rfl (ch_boxA rfl) .free rfl rfl ?_)))
  rintro _ _ ⟨b1, rfl, rfl⟩
  refine p_chg rfl (ch_allocA Tryz.zeroValue40 rfl) .free rfl rfl ?_
  rintro _ _ ⟨b2, rfl, rfl⟩
  refine p_nil (g_seq (g_region (kPv (ev_fa (m := _) fa_24_1 rfl rfl) rfl (kPv (ev_load Tryz.isAgg22 rfl rfl) rfl (kPv (ev_rem (c := r % 6) rfl rfl (by decide) (rem_e 6 (by omega))) rfl ?_)))))
  first | refine p_val rfl (ev_conv Tryz.runUnderlying22 Tryz.runUnderlying3 rfl (wr64 (by omega))) .free rfl rfl ?_ | refine p_val rfl (ev_conv Tryz.runUnderlying22 Tryz.runUnderlying3 rfl rfl) .free rfl rfl ?_
  first | refine p_val rfl (ev_add rfl rfl (wr64 (by omega))) .free rfl rfl ?_ | refine p_val rfl (ev_add rfl rfl rfl) .free rfl rfl ?_
  refine kPa rfl rfl (p_nil (g_seq (g_region (kPm rfl rfl (kPm rfl rfl ?_)))))
  first | refine p_val rfl (ev_add rfl rfl (wr64 (by omega))) .free rfl rfl ?_ | refine p_val rfl (ev_add rfl rfl rfl) .free rfl rfl ?_
  refine kPv (ev_fa (m := _) fa_24_0 rfl rfl) rfl (kPv (ev_load Tryz.isAgg22 rfl rfl) rfl (kPv (ev_rem (c := l % 12) rfl rfl (by decide) (rem_e 12 (by omega))) rfl ?_))
  first | refine p_val rfl (ev_conv Tryz.runUnderlying22 Tryz.runUnderlying3 rfl (wr64 (by omega))) .free rfl rfl ?_ | refine p_val rfl (ev_conv Tryz.runUnderlying22 Tryz.runUnderlying3 rfl rfl) .free rfl rfl ?_
  first | refine p_val rfl (ev_add rfl rfl (wr64 (by omega))) .free rfl rfl ?_ | refine p_val rfl (ev_add rfl rfl rfl) .free rfl rfl ?_
  refine kPv (ev_fa (m := _) fa_24_2 rfl rfl) rfl (kPv (ev_load Tryz.isAgg22 rfl rfl) rfl (kPv (ev_rem (c := s % 90) rfl rfl (by decide) (rem_e 90 (by omega))) rfl ?_))
  first | refine p_val rfl (ev_conv Tryz.runUnderlying22 Tryz.runUnderlying3 rfl (wr64 (by omega))) .free rfl rfl ?_ | refine p_val rfl (ev_conv Tryz.runUnderlying22 Tryz.runUnderlying3 rfl rfl) .free rfl rfl ?_
  first | refine p_val rfl (ev_add rfl rfl (wr64 (by omega))) .free rfl rfl ?_ | refine p_val rfl (ev_add rfl rfl rfl) .free rfl rfl ?_
  refine kPv (ev_build rfl (bld_40_1_0_2 _ _ _ rfl rfl rfl)) rfl (p_chg0 rfl (ch_storeA (vs := _) Tryz.sizeOf40 rfl rfl rfl rfl rfl) .free rfl ?_)
  rintro _ _ rfl
  refine p_nil (go_sb [2] rfl (g_ret ?_))
  exact ret_1 Tryz.results48 (.cellA rfl Tryz.isAgg40 Tryz.sizeOf40 rfl rfl) (fun w hw => ⟨rfl, hw.tail.tail⟩)
theorem make_okc (B : World) (H : List HP) (l r s : Int) (c : Cfg) (hc : c = mkC l r s) (hl : 0 ≤ l) (hr : 0 ≤ r) (hs : 0 ≤ s) : ∀ w, Holds B H w → Calls Tryz.prog 48 [.agg #[u16 l, u16 r, u16 s]].toArray w (PureR B H (cfgV c)) := by subst hc; exact make_ok B H l r s hl hr hs
end Go.Proofs.YtlcibdhmgclfjaaGreat
namespace Go.Proofs.YtlcibdhmgclfjaaGreat
open Go
abbrev VecU (b : Nat) (x : Value × List Int) : HP := VecA 26 w64 b x
theorem all3 {a b : Int} {sv : Value} (h : cell1 sv = true) : ([i64 a, i64 b, sv] : List Value).all cell1 = true := by
  simp only [List.all_cons, List.all_nil, h]; rfl
theorem subw {v f : Int} (h : decide (v ≥ f) = true) (h1 : 0 ≤ f) (h2 : v < 18446744073709551616) : IntKind.u64.wrap (v - f) = v - f := by
  have h9 : f ≤ v := by simpa using h
  exact wru64 (by omega)
abbrev blkV (b : Blk) (sv : Value) : Value := .agg #[i64 b.act, i64 b.used, sv]
theorem place_ok (B : World) (H : List HP) (c : Cfg) (hc : CfgW c) (b : Blk) (sv : Value) (hb : BlkW c b) (hsv : cell1 sv = true) (i : Int) (hi : -1000000000000 ≤ i ∧ i ≤ 1000000000000) :
    ∀ w, Holds B H w → Calls Tryz.prog 112 [blkV b sv, cfgV c, i64 i].toArray w (PureR B H (i64 (b.place c i))) := by
  refine fn_enter Tryz.func112 rfl Tryz.ntmps112 rfl ?_
  have hb1 := hb.act
  have hb2 := hb.used
  have hfb := frm_b hc (k := b.act) (by omega)
  have hcs := hc.s2
  refine g_seq (g_region (p_chg rfl (ch_boxA rfl) .free rfl rfl ?_))
  rintro _ _ ⟨b3, rfl, rfl⟩
  refine p_chg rfl (ch_boxA rfl) .free rfl rfl ?_
  rintro _ _ ⟨b4, rfl, rfl⟩
  refine kPa rfl rfl (p_nil (g_seq (g_region (kPv (ev_loadA Tryz.isAgg40 Tryz.sizeOf40 rfl rfl) rfl ?_))))
  refine kPv (ev_fa (m := _) fa_95_0 rfl rfl) rfl (kPv (ev_load Tryz.isAgg3 rfl rfl) rfl (p_callq rfl (en_f Tryz.call140 rfl) (from_ok _ _ c hc b.act hb.act.1 (by have := hb.act.2; omega)) .free rfl rfl ?_))
  refine kPm rfl rfl ?_
  first | refine p_val rfl (ev_add rfl rfl (wr64 (by omega))) .free rfl rfl ?_ | refine p_val rfl (ev_add rfl rfl rfl) .free rfl rfl ?_
  refine kPa rfl rfl (p_nil (go_sb [6] rfl (g_ret ?_)))
  exact ret_tmp Tryz.results112 rfl (fun w hh => ⟨rfl, hh.tail.tail⟩)
theorem has_ok (B : World) (H : List HP) (c : Cfg) (hc : CfgW c) (b : Blk) (sv : Value) (hb : BlkW c b) (hsv : cell1 sv = true) (v : Int) (hv : 0 ≤ v ∧ v < 18446744073709551616) :
    ∀ w, Holds B H w → Calls Tryz.prog 135 [blkV b sv, cfgV c, w64 v].toArray w (PureR B H (.bool (b.has c v))) := by
  refine fn_enter Tryz.func135 rfl Tryz.ntmps135 rfl ?_
  have hb1 := hb.act
  have hb2 := hb.used
  have hfb := frm_b hc (k := b.act) (by omega)
  have hcs := hc.s2
  refine g_seq (g_region (p_chg rfl (ch_boxA rfl) .free rfl rfl ?_))
  rintro _ _ ⟨b3, rfl, rfl⟩
  refine p_chg rfl (ch_boxA rfl) .free rfl rfl ?_
  rintro _ _ ⟨b4, rfl, rfl⟩
  refine kPa rfl rfl (p_nil (g_seq (g_region (kPv (ev_loadA Tryz.isAgg40 Tryz.sizeOf40 rfl rfl) rfl ?_))))
  refine kPv (ev_fa (m := _) fa_95_0 rfl rfl) rfl (kPv (ev_load Tryz.isAgg3 rfl rfl) rfl (p_callq rfl (en_f Tryz.call140 rfl) (from_ok _ _ c hc b.act hb.act.1 (by have := hb.act.2; omega)) .free rfl rfl ?_))
  first | refine p_val rfl (ev_conv Tryz.runUnderlying3 Tryz.runUnderlying26 rfl (wru64 (by omega))) .free rfl rfl ?_ | refine p_val rfl (ev_conv Tryz.runUnderlying3 Tryz.runUnderlying26 rfl rfl) .free rfl rfl ?_
  refine kPa rfl rfl (p_nil (go_sb [7, 6, 3, 2] rfl (g_seq (g_region (kPm rfl rfl (kPm rfl rfl (kPv (ev_cmp rfl rfl rfl) rfl (kPm rfl rfl ?_))))))))
  apply p_and (tp := 24) (t := 16) (σ1 := [(16, _), (6, _)]) 8 rfl ⟨rfl, rfl, trivial⟩
  · intro hg1
    refine p_val rfl (ev_move rfl) (.on rfl rfl (beq_eq hg1)) rfl rfl (p_val rfl (ev_move rfl) (.on rfl rfl (beq_eq hg1)) rfl rfl (p_val rfl (ev_sub (c := v - c.frm b.act) rfl rfl (subw hg1 (by omega) (by omega))) (.on rfl rfl (beq_eq hg1)) rfl rfl (p_val rfl (ev_fa (m := _) fa_95_1 rfl rfl) (.on rfl rfl (beq_eq hg1)) rfl rfl (p_val rfl (ev_load Tryz.isAgg3 rfl rfl) (.on rfl rfl (beq_eq hg1)) rfl rfl ?_))))
    first | refine p_val rfl (ev_conv Tryz.runUnderlying3 Tryz.runUnderlying26 rfl (wru64 (by omega))) (.on rfl rfl (beq_eq hg1)) rfl rfl ?_ | refine p_val rfl (ev_conv Tryz.runUnderlying3 Tryz.runUnderlying26 rfl rfl) (.on rfl rfl (beq_eq hg1)) rfl rfl ?_
    refine p_val rfl (ev_cmp rfl rfl rfl) (.on rfl rfl (beq_eq hg1)) rfl rfl (kPv (ev_pick_t rfl hg1 rfl) rfl ?_)
    exact p_seg rfl ⟨rfl, rfl, trivial⟩ (and_t hg1)
  · intro hg1
    refine p_skip rfl (.on rfl rfl (beq_ne hg1)) rfl (p_skip rfl (.on rfl rfl (beq_ne hg1)) rfl (p_skip rfl (.on rfl rfl (beq_ne hg1)) rfl (p_skip rfl (.on rfl rfl (beq_ne hg1)) rfl (p_skip rfl (.on rfl rfl (beq_ne hg1)) rfl (p_skip rfl (.on rfl rfl (beq_ne hg1)) rfl (p_skip rfl (.on rfl rfl (beq_ne hg1)) rfl (kPv (ev_pick_f rfl hg1 rfl) rfl ?_)))))))
    exact p_seg rfl ⟨rfl, rfl, trivial⟩ (and_f hg1)
  refine kPa rfl rfl (p_nil (g_ret ?_))
  exact ret_tmp Tryz.results135 rfl (fun w hh => ⟨by rfl, hh.tail.tail⟩)
theorem tab_succ {α : Type} {n : Nat} {f : Nat → α} : tab (n + 1) f = tab n f ++ [f n] := by simp [tab, List.range_succ]
theorem act_b {c : Cfg} (hc : CfgW c) : 24 ≤ c.active ∧ c.active + 2 + c.roots ≤ c.words ∧ c.words ≤ 20000 := by
  have h1 := frm_b hc (k := 0) (by decide)
  have h2 := hc.act
  have := hc.r1
  have := hc.l1
  omega
theorem rread_ok (B : World) (Fr : List HP) (bd : Nat) (s : Dev) (c : Cfg) (hc : CfgW c) (hu : U64 s) :
    ∀ w, Holds B (DevA bd s :: Fr) w → Calls Tryz.prog 111 [ptr bd, cfgV c].toArray w (Ret B (fun rv H' => ∃ sv, cell1 sv = true ∧ rv = .tuple #[blkV (s.block c).1 sv, i64 (s.block c).2] ∧ H' = VecU 0 (sv, (s.block c).1.rts) :: DevA bd s :: Fr) (fun _ _ => False)) := by
  refine fn_enter Tryz.func111 rfl Tryz.ntmps111 rfl ?_
  obtain ⟨hA1, hA2, hA3⟩ := act_b hc
  have hl1 := hu.load c.active
  have hl2 := hu.load (c.active + 1)
  have hr1 := hc.r1
  have hr2 := hc.r2
  have hs2 := hc.s2
  have hs1 := hc.s1
  obtain ⟨nr, hnr⟩ : ∃ nr : Nat, (nr : Int) = c.roots := ⟨c.roots.toNat, by omega⟩
  have hnr2 : c.roots.toNat = nr := by omega
  refine g_seq (g_region (p_chg rfl (ch_boxA rfl) .free rfl rfl ?_))
  rintro _ _ ⟨b3, rfl, rfl⟩
  refine p_chg rfl (ch_allocA Tryz.zeroValue95 rfl) .free rfl rfl ?_
  rintro _ _ ⟨b4, rfl, rfl⟩
  refine kPa rfl rfl (p_nil (g_seq (g_draw Tryz.mixed (by kernel_rfl) (by kernel_rfl) ?_)))
  refine kQm rfl rfl (kQv (ev_loadA Tryz.isAgg40 Tryz.sizeOf40 rfl rfl) rfl ?_)
  refine q_call rfl (en_f Tryz.call117 rfl) (active_ok _ _ c hc) .free rfl ?_
  refine q_call rfl (en_f Tryz.call71 rfl) (ro_at (q := DevA) (fun Fr => nload_ok _ Fr _ _ _)) .free rfl ?_
  refine kQm rfl rfl (kQv (ev_loadA Tryz.isAgg40 Tryz.sizeOf40 rfl rfl) rfl ?_)
  refine q_call rfl (en_f Tryz.call115 rfl) (cused_ok _ _ c hc) .free rfl ?_
  refine q_call rfl (en_f Tryz.call71 rfl) (ro_at (q := DevA) (fun Fr => nload_ok _ Fr _ _ _)) .free rfl ?_
  refine kQa rfl rfl (kQa rfl rfl (q_nil (go_sb [7, 6, 5, 4, 3, 0] rfl (g_seq (g_seq (g_region (kPm rfl rfl (kPv (ev_cmp rfl rfl rfl) rfl (kPm rfl rfl ?_)))))))))
  apply p_or (tp := 26) (t := 20) (σ1 := [(20, _), (7, _), (6, _), (5, _), (4, _), (3, _), (0, _)]) 6 rfl (sub_r rfl)
  · intro hg1
    refine p_val rfl (ev_move rfl) (.on rfl rfl (beq_eq hg1)) rfl rfl (p_val rfl (ev_fa (m := _) fa_40_2 rfl rfl) (.on rfl rfl (beq_eq hg1)) rfl rfl (p_val rfl (ev_load Tryz.isAgg3 rfl rfl) (.on rfl rfl (beq_eq hg1)) rfl rfl ?_))
    first | refine p_val rfl (ev_conv Tryz.runUnderlying3 Tryz.runUnderlying26 rfl (wru64 (by omega))) (.on rfl rfl (beq_eq hg1)) rfl rfl ?_ | refine p_val rfl (ev_conv Tryz.runUnderlying3 Tryz.runUnderlying26 rfl rfl) (.on rfl rfl (beq_eq hg1)) rfl rfl ?_
    refine p_val rfl (ev_cmp rfl rfl rfl) (.on rfl rfl (beq_eq hg1)) rfl rfl (kPv (ev_pick_f rfl hg1 rfl) rfl ?_)
    exact p_seg rfl (sub_r rfl) (or_f hg1)
  · intro hg1
    refine p_skip rfl (.on rfl rfl (beq_ne hg1)) rfl (p_skip rfl (.on rfl rfl (beq_ne hg1)) rfl (p_skip rfl (.on rfl rfl (beq_ne hg1)) rfl (p_skip rfl (.on rfl rfl (beq_ne hg1)) rfl (p_skip rfl (.on rfl rfl (beq_ne hg1)) rfl (kPv (ev_pick_t rfl hg1 rfl) rfl ?_)))))
    exact p_seg rfl (sub_r rfl) (or_t hg1)
  refine p_nil ?_
  refine g_if rfl (fun h26 => ?_) (fun h26 => ?_)
  · have hbad : 1 < s.load c.active ∨ c.space < s.load (c.active + 1) := by simpa using h26
    have hblk : s.block c = (⟨0, 0, []⟩, 10) := by unfold Dev.block; rw [if_pos hbad]
    refine g_seq (g_region (kPv (ev_build rfl (bld_95)) rfl ?_))
    refine p_chg0 rfl (ch_storeA (vs := _) Tryz.sizeOf95 rfl rfl rfl (by first | rfl | exact all3 (by assumption)) rfl) .free rfl ?_
    rintro _ _ rfl
    refine kPa rfl rfl (p_nil (g_ret ?_))
    exact ret_2 Tryz.results111 (.cellA rfl Tryz.isAgg95 Tryz.sizeOf95 rfl rfl) (.tmp rfl) (fun w hh => ⟨_, ⟨.slice none 0 0, rfl, by rw [hblk]; rfl, rfl⟩, by rw [hblk]; exact vec_nil hh.tail.tail⟩)
  · have hgd : ¬(1 < s.load c.active ∨ c.space < s.load (c.active + 1)) := by simpa using h26
    have hblk : s.block c = (⟨s.load c.active, s.load (c.active + 1), tab nr fun i => s.load (c.root i)⟩, 0) := by unfold Dev.block; rw [if_neg hgd, hnr2]
    refine g_skip (g_seq (g_region (kPm rfl rfl ?_)))
    first | refine p_val rfl (ev_conv Tryz.runUnderlying26 Tryz.runUnderlying3 rfl (wr64 (by omega))) .free rfl rfl ?_ | refine p_val rfl (ev_conv Tryz.runUnderlying26 Tryz.runUnderlying3 rfl rfl) .free rfl rfl ?_
    refine kPm rfl rfl ?_
    first | refine p_val rfl (ev_conv Tryz.runUnderlying26 Tryz.runUnderlying3 rfl (wr64 (by omega))) .free rfl rfl ?_ | refine p_val rfl (ev_conv Tryz.runUnderlying26 Tryz.runUnderlying3 rfl rfl) .free rfl rfl ?_
    refine kPv (ev_build rfl (bld_95_0_1 _ _ rfl rfl)) rfl (p_chg rfl (ch_allocA Tryz.zeroValue95 rfl) .free rfl rfl ?_)
    rintro _ _ ⟨b8, rfl, rfl⟩
    refine p_chg0 rfl (ch_storeA (vs := _) Tryz.sizeOf95 rfl rfl rfl (by first | rfl | exact all3 (by assumption)) rfl) .free rfl ?_
    rintro _ _ rfl
    refine p_nil (go_sb [8, 5, 4, 3, 0] rfl (g_seq (g_seq (g_region (kPv (ev_fa (m := _) fa_40_1 rfl rfl) rfl (kPv (ev_load Tryz.isAgg3 rfl rfl) rfl (kPm rfl rfl (p_nil (g_block (g_loop (ι := Nat × Value) (fun i => i.1 ≤ nr ∧ cell1 i.2 = true) (fun i => [(0, ptr bd), (3, ptr b3), (4, ptr b4), (5, i64 0), (8, ptr b8), (34, i64 c.roots), (35, i64 i.1)]) (fun i => VecU 0 (i.2, tab i.1 fun j => s.load (c.root j)) :: row b8 [i64 (s.load c.active), i64 (s.load (c.active + 1)), i.2] 95 :: row b4 [i64 0, i64 0, .slice none 0 0] 95 :: row b3 [i64 c.log, i64 c.roots, i64 c.space] 40 :: DevA bd s :: Fr) (fun i => nr - i.1) (0, .slice none 0 0) ⟨Nat.zero_le _, rfl⟩ (fun a w st => st.to ⟨rfl, rfl, rfl, rfl, rfl, rfl, rfl, trivial⟩ (fun hh => vec_nil hh)) ?_))))))))))
    rintro ⟨k, sv⟩ ⟨hk0, hsv⟩
    simp only at hk0 hsv ⊢
    refine g_seq (g_region (kPv (ev_cmp rfl rfl rfl) rfl (p_nil (g_seq ?_))))
    refine g_if rfl (fun h36 => ?_) (fun h36 => ?_)
    · have hk : k < nr := by simp at h36; omega
      refine g_skip (g_seq (g_block (g_seq (g_region (kPm rfl rfl (kPa rfl rfl (p_nil (g_drawv [0, 1, 2, 3, 4, 5, 6, 7, 8, 9, 10] [5, 6, 7, 8, 10] [0, 1, 2] [5, 6, 7] [row b8 [i64 (s.load c.active), i64 (s.load (c.active + 1)), sv] 95] Tryz.mixed (by kernel_rfl) ?_))))))))
      refine v_hoist rfl rfl rfl (ev_fa (m := _) fa_95_2 rfl rfl) .free rfl (v_hoist rfl rfl rfl (ev_load Tryz.isAgg25 rfl rfl) .free rfl (v_hoist rfl rfl rfl (ev_move rfl) .free rfl (v_val rfl rfl rfl (ev_loadA Tryz.isAgg40 Tryz.sizeOf40 rfl rfl) .free rfl ?_)))
      refine v_val rfl rfl rfl (ev_move rfl) .free rfl (v_mark rfl rfl (p_callq rfl (en_f Tryz.call59 rfl) (root_ok _ _ c hc _ (by omega) (by omega)) .free rfl rfl ?_))
      refine p_nil (v_on (v_mark rfl rfl (p_callq rfl (en_f Tryz.call71 rfl) (ro_at (q := DevA) (fun Fr => nload_ok _ Fr _ _ _)) .free rfl rfl ?_)))
      refine p_nil (v_on (v_mark rfl rfl (p_chg rfl (ch_bs1 Tryz.runUnderlying25 Tryz.sizeOf26 Tryz.zeroValue26 rfl rfl rfl) .free rfl rfl ?_)))
      rintro _ _ ⟨b1, rfl, rfl⟩
      refine go_front 1 rfl ?_
      simp only [List.eraseIdx_cons_succ, List.eraseIdx_cons_zero]
      refine p_nil (v_on (v_mark rfl rfl (p_chg rfl (ch_append_vec rfl rfl Tryz.runUnderlying25 Tryz.runUnderlying25 ⟨_, rfl⟩ Tryz.sizeOf26 Tryz.zeroValue26 rfl (fun _ => rfl) tb_26 rfl rfl (by rw [tab_len]; omega)) .free rfl rfl ?_)))
      rintro sv2 _ ⟨hsv2, rfl⟩
      refine p_nil (v_off rfl (v_val rfl rfl rfl (ev_fa (m := _) fa_95_2 rfl rfl) .free rfl (v_mark rfl rfl (p_chg0 rfl (ch_store Tryz.sizeOf25 rfl rfl hsv2 rfl) .free rfl ?_))))
      rintro _ _ rfl
      refine p_nil (v_off rfl (v_nil (go_sb [35, 34, 8, 5, 4, 3, 0] rfl (g_region ?_))))
      first | refine p_val rfl (ev_add rfl rfl (wr64 (by omega))) .free rfl rfl ?_ | refine p_val rfl (ev_add rfl rfl rfl) .free rfl rfl ?_
      refine kPm rfl rfl (p_nil ?_)
      exact fun a w st => ⟨(k + 1, sv2), ⟨by simp only; omega, hsv2⟩, by simp only; omega, st.to ⟨rfl, rfl, rfl, rfl, rfl, rfl, rfl, trivial⟩ (fun hh => by rw [← tab_succ] at hh; exact hh)⟩
    · have hk : ¬ k < nr := by simp at h36; omega
      obtain rfl : k = nr := by omega
      refine g_exit (g_seq (g_region (kPv (ev_loadA Tryz.isAgg95 Tryz.sizeOf95 rfl rfl) rfl ?_)))
      refine p_chg0 rfl (ch_storeA (vs := [i64 (s.load c.active), i64 (s.load (c.active + 1)), sv]) Tryz.sizeOf95 rfl rfl rfl (all3 hsv) rfl) .free rfl ?_
      rintro _ _ rfl
      refine kPa rfl rfl (p_nil (go_sb [5, 4] rfl (g_ret ?_)))
      exact ret_2 Tryz.results111 (.cellA rfl Tryz.isAgg95 Tryz.sizeOf95 rfl rfl) (.tmp rfl) (fun w hh => ⟨_, ⟨sv, hsv, by rw [hblk]; rfl, rfl⟩, by rw [hblk]; exact (((hh.front 3 rfl).front 3 rfl).front 3 rfl).tail.tail.tail⟩)
end Go.Proofs.YtlcibdhmgclfjaaGreat
