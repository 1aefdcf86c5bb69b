/- The fixed facts of the layers 1 to 4. Conditions: none. -/
import Derived.Test.YtbfheafpecgphaaGreatSup
set_option linter.unusedSimpArgs false
set_option linter.unusedVariables false
set_option linter.unnecessarySimpa false
set_option linter.unusedSectionVars false
namespace Go.Proofs.YtbfheafpecgphaaGreat
set_option linter.unusedSimpArgs false
set_option linter.unusedVariables false
open Go
/-- Powers without an end never go. -/
theorem out_ne {p : Pow} (h : p.lim < 0) : p.out = false := by simp [Pow.out]; omega
theorem store_ne {s : Dev} {i v : Int} (h : s.pow.lim < 0) (hi : 0 ≤ i ∧ i < s.n) : s.store i v = .ok 0 (s.up.st i.toNat v) := by
  have : s.has i = true := by simp [Dev.has, hi]
  simp [Dev.store, this, out_ne h]
theorem flush_ne {s : Dev} {i : Int} (h : s.pow.lim < 0) (hi : 0 ≤ i ∧ i < s.n) : s.flush i = .ok 0 (s.up.fl i.toNat) := by
  have : s.has i = true := by simp [Dev.has, hi]
  simp [Dev.flush, this, out_ne h]
theorem fence_ne {s : Dev} (h : s.pow.lim < 0) : s.fence = .ok () s.up.fe := by simp [Dev.fence, out_ne h]
theorem ret_b {x : Bool} (h : x = true) : Ending.returned (.bool x) = Ending.returned (.bool true) := by rw [h]
theorem ok_inj {α : Type} {a b : α} {s t : Dev} (h : Out.ok a s = Out.ok b t) : a = b ∧ s = t := by cases h; exact ⟨rfl, rfl⟩
theorem ok_off {α : Type} {a : α} {s t : Dev} (h : Out.ok a s = Out.off t) : False := by cases h

theorem aw1_ok (B : World) (Fr : List HP) (bp pb : Nat) :
    ∀ w, Holds B (row bp [ptr pb] 77 :: PowA pb ⟨1, 0⟩ :: Fr) w → Calls Tryz.prog 163 [ptr bp].toArray w (Ret B (fun _ _ => False) (fun c H' => c = offc ∧ H' = row bp [ptr pb] 77 :: PowA pb ⟨1, 1⟩ :: Fr)) := by
  refine fn_enter Tryz.func163 rfl Tryz.ntmps163 rfl ?_; refine g_seq ?_; refine g_region ?_; refine kPv (ev_load Tryz.isAgg77 rfl rfl) rfl ?_
  refine p_call rfl (en_f Tryz.call85 rfl) (up_at (fun Fr => tick_ok _ Fr _ _)) .free rfl rfl ?_ ?_
  rotate_left
  · rintro _ _ ⟨_, ⟨ho, rfl, rfl⟩, rfl⟩
    first | (exfalso; revert ho; decide) | exact pan_fn fun w hw => ⟨_, ⟨rfl, rfl⟩, hw⟩
  rintro _ _ ⟨_, ⟨ho, rfl, rfl⟩, rfl⟩
  refine p_nil ?_; refine g_region ?_; refine kPv (ev_load Tryz.isAgg77 rfl rfl) rfl ?_
  refine p_call rfl (en_f Tryz.call85 rfl) (up_at (fun Fr => tick_ok _ Fr _ _)) .free rfl rfl ?_ ?_
  rotate_left
  · rintro _ _ ⟨_, ⟨ho, rfl, rfl⟩, rfl⟩
    first | (exfalso; revert ho; decide) | exact pan_fn fun w hw => ⟨_, ⟨rfl, rfl⟩, hw⟩
  rintro _ _ ⟨_, ⟨ho, rfl, rfl⟩, rfl⟩
  exfalso; revert ho; decide

theorem aw2_ok (B : World) (H : List HP) :
    ∀ w, Holds B H w → Calls Tryz.prog 165 [].toArray w (PureR B H (.tuple #[])) := by
  refine fn_enter Tryz.func165 rfl Tryz.ntmps165 rfl ?_; refine g_skip ?_
  exact end_none Tryz.results165 (fun w hw => ⟨rfl, hw⟩)

theorem awake1_ok (B : World) (H : List HP) :
    ∀ w, Holds B H w → Calls Tryz.prog 161 [].toArray w (PureR B H (.bool true)) := by
  refine fn_enter Tryz.func161 rfl Tryz.ntmps161 rfl ?_; refine g_seq ?_; refine g_region ?_; refine kPa rfl rfl ?_; refine p_nil ?_; refine g_seq ?_; refine g_region ?_
  refine p_call rfl (en_f Tryz.call37 rfl) (pnew_ok _ _ _) .free rfl rfl ?_ ?_
  rotate_left
  · rintro _ _ ⟨⟩
  rintro _ _ ⟨pb, rfl, rfl⟩
  refine p_chg rfl (ch_alloc1 Tryz.zeroValue77 rfl) .free rfl rfl ?_
  rintro _ _ ⟨b1, rfl, rfl⟩
  refine p_chg0 rfl (ch_store Tryz.sizeOf77 rfl rfl rfl rfl) .free rfl ?_
  rintro _ _ rfl
  refine p_nil ?_; refine g_seq ?_; refine g_seq ?_; refine g_region ?_; refine kPv (ev_load Tryz.isAgg77 rfl rfl) rfl ?_; refine kPv (ev_eqp Tryz.runUnderlying77 rfl rfl rfl) rfl ?_; refine p_nil ?_; refine g_iff rfl (rfl) ?_; refine g_skip ?_; refine g_seq ?_; refine g_region ?_; refine kPv (ev_mkf rfl rfl) rfl ?_
  refine p_call rfl (en_f Tryz.call38 rfl) (run_det false (row b1 [ptr pb] 77 :: PowA pb ⟨1, 1⟩ :: H) Tryz.call163 (fun A w hw => (aw1_ok B (A :: H) b1 pb w ((hw.front 2 rfl).front 2 rfl)).mono (Ret.mono (fun _ _ h => h.elim) (fun c H' h => ⟨rfl, h.1, fun w hw => h.2 ▸ hw |>.front 2 rfl⟩)))) .free rfl rfl ?_ ?_
  rotate_left
  · rintro _ _ ⟨⟩
  rintro _ _ ⟨rfl, rfl⟩
  refine kPa rfl rfl ?_; refine p_nil ?_; refine g_seq ?_; refine g_region ?_; refine kPm rfl rfl ?_; refine kPv (ev_not rfl) rfl ?_; refine kPm rfl rfl ?_
  apply p_and (tp := 14) (t := 10) (σ1 := [(10, _), (0, _)]) 4 rfl ⟨rfl, rfl, trivial⟩
  · intro hg1
    refine p_val rfl (ev_load Tryz.isAgg77 rfl rfl) (.on rfl rfl (beq_eq hg1)) rfl rfl ?_; refine p_callq rfl (en_f Tryz.call164 rfl) (ro_at (fun Fr => used_ok _ Fr _ _)) (.on rfl rfl (beq_eq hg1)) rfl rfl ?_; refine p_val rfl (ev_cmp rfl rfl rfl) (.on rfl rfl (beq_eq hg1)) rfl rfl ?_; refine kPv (ev_pick_t rfl hg1 rfl) rfl ?_
    exact p_seg rfl ⟨rfl, rfl, trivial⟩ (and_t hg1)
  · intro hg1
    refine p_skip rfl (.on rfl rfl (beq_ne hg1)) rfl ?_; refine p_skip rfl (.on rfl rfl (beq_ne hg1)) rfl ?_; refine p_skip rfl (.on rfl rfl (beq_ne hg1)) rfl ?_; refine kPv (ev_pick_f rfl hg1 rfl) rfl ?_
    exact p_seg rfl ⟨rfl, rfl, trivial⟩ (and_f hg1)
  refine kPm rfl rfl ?_
  apply p_and (tp := 17) (t := 15) (σ1 := [(15, _), (0, _)]) 2 rfl ⟨rfl, rfl, trivial⟩
  · intro hg2
    refine p_call rfl (en_f Tryz.call38 rfl) (run_det true (row b1 [ptr pb] 77 :: PowA pb ⟨1, 1⟩ :: H) Tryz.call165 (fun A w hw => (aw2_ok B _ w hw).mono fun _ _ h => h.ret ⟨rfl, fun _ h => h⟩)) (.on rfl rfl (beq_eq hg2)) rfl rfl ?_ ?_
    rotate_left
    · rintro _ _ ⟨⟩
    rintro _ _ ⟨rfl, rfl⟩
    refine kPv (ev_pick_t rfl hg2 rfl) rfl ?_
    exact p_seg rfl ⟨rfl, rfl, trivial⟩ (and_t hg2)
  · intro hg2
    refine p_skip rfl (.on rfl rfl (beq_ne hg2)) rfl ?_; refine kPv (ev_pick_f rfl hg2 rfl) rfl ?_
    exact p_seg rfl ⟨rfl, rfl, trivial⟩ (and_f hg2)
  refine kPa rfl rfl ?_; refine p_nil ?_; refine g_ret ?_
  exact ret_tmp Tryz.results161 rfl (fun w hw => ⟨rfl, hw.tail.tail⟩)

theorem new2_ok (B : World) (Fr : List HP) (sv : Value) (xs : List Int) (hx0 : 0 < xs.length) (hx1 : xs.length ≤ 100000) (hr : SlR B Fr sv (xs.map w64)) :
    ∀ w, Holds B Fr w → Calls Tryz.prog 21 [sv].toArray w (Ret B (fun rv H' => ∃ b pa, rv = ptr b ∧ H' = DevA b ⟨pa, ⟨-1, 0⟩, (xs.length + 7) / 8 * 8, fun i => xs.getD i 0, fun i => xs.getD i 0, fun _ => none⟩ :: Fr) (fun _ _ => False)) := by
  refine fn_enter Tryz.func21 rfl Tryz.ntmps21 rfl ?_; refine g_seq ?_; refine g_region ?_; refine kPa rfl rfl ?_; refine p_nil ?_; refine g_seq ?_; refine g_region ?_
  refine p_call rfl (en_f Tryz.call37 rfl) (pnew_ok _ _ _) .free rfl rfl ?_ ?_
  rotate_left
  · rintro _ _ ⟨⟩
  rintro _ _ ⟨pb, rfl, rfl⟩
  refine kPm rfl rfl ?_
  refine p_call rfl (en_f Tryz.call79 rfl) (nnew_ok _ _ _ _ _ xs hx0 hx1 hr) .free rfl rfl ?_ ?_
  rotate_left
  · rintro _ _ ⟨⟩
  rintro _ _ ⟨b, rfl, rfl⟩
  refine kPa rfl rfl ?_; refine p_nil ?_; refine g_ret ?_
  exact ret_tmp Tryz.results21 rfl (fun w hw => ⟨_, ⟨b, pb, rfl, rfl⟩, hw⟩)

theorem aw21_ok (B : World) (H : List HP) (i : Int) :
    ∀ w, Holds B H w → Calls Tryz.prog 162 [i64 i].toArray w (PureR B H (.int .u8 0)) := by
  refine fn_enter Tryz.func162 rfl Tryz.ntmps162 rfl ?_; refine g_seq ?_; refine g_region ?_; refine kPa rfl rfl ?_; refine p_nil ?_; refine g_seq ?_; refine g_region ?_; refine kPa rfl rfl ?_; refine p_nil ?_; refine g_ret ?_
  exact ret_tmp Tryz.results162 rfl (fun w hw => ⟨rfl, hw⟩)

theorem awake2_ok (B : World) (H : List HP) :
    ∀ w, Holds B H w → Calls Tryz.prog 160 [].toArray w (PureR B H (.bool true)) := by
  refine fn_enter Tryz.func160 rfl Tryz.ntmps160 rfl ?_; refine g_seq ?_; refine g_region ?_; refine kPa rfl rfl ?_; refine p_nil ?_; refine g_seq ?_; refine g_seq ?_; refine g_region ?_; refine p_callq rfl (en_f Tryz.call161 rfl) (awake1_ok _ _) .free rfl rfl ?_; refine kPv (ev_not rfl) rfl ?_; refine p_nil ?_; refine g_iff rfl (rfl) ?_; refine g_skip ?_; refine g_seq ?_; refine g_region ?_
  refine p_chg rfl (ch_bs1 Tryz.runUnderlying31 Tryz.sizeOf52 Tryz.zeroValue52 rfl rfl rfl) .free rfl rfl ?_
  rintro _ _ ⟨b6, rfl, rfl⟩
  refine p_call rfl (en_f Tryz.call21 rfl) (new2_ok _ _ _ [1] (by decide) (by decide) (SlR.row rfl rfl)) .free rfl rfl ?_ ?_
  rotate_left
  · rintro _ _ ⟨⟩
  rintro _ _ ⟨bd, pa, rfl, rfl⟩
  refine kPa rfl rfl ?_; refine p_nil ?_; refine g_seq ?_; refine g_seq ?_; refine g_region ?_; refine kPm rfl rfl ?_; refine kPv (ev_eqp Tryz.runUnderlying28 rfl rfl rfl) rfl ?_; refine p_nil ?_; refine g_iff rfl (rfl) ?_; refine g_skip ?_; refine g_seq ?_; refine g_region ?_; refine kPm rfl rfl ?_
  refine p_call rfl (en_f Tryz.call70 rfl) (up_at (q := DevA) (fun Fr => nstore_ok _ Fr _ _ _ _)) .free rfl rfl ?_ ?_
  rotate_left
  · rintro _ _ ⟨s9, ⟨hm9, rfl⟩, rfl⟩
    exact (ok_off ((store_ne (s := (⟨pa, ⟨-1, 0⟩, 8, fun i => ([1] : List Int).getD i 0, fun i => ([1] : List Int).getD i 0, fun _ => none⟩ : Dev)) (i := 0) (v := 5) (show (-1 : Int) < 0 by decide) ⟨by decide, show (0 : Int) < 8 by decide⟩).symm.trans hm9)).elim
  rintro _ _ ⟨s1, ⟨e1, hm1, rfl⟩, rfl⟩
  obtain ⟨rfl, rfl⟩ := ok_inj ((store_ne (s := (⟨pa, ⟨-1, 0⟩, 8, fun i => ([1] : List Int).getD i 0, fun i => ([1] : List Int).getD i 0, fun _ => none⟩ : Dev)) (i := 0) (v := 5) (show (-1 : Int) < 0 by decide) ⟨by decide, show (0 : Int) < 8 by decide⟩).symm.trans hm1)
  refine kPa rfl rfl ?_; refine p_nil ?_; refine go_sub (σ' := [(2, _), (1, _), (0, _)]) ⟨rfl, rfl, rfl, trivial⟩ ?_; refine g_seq ?_; refine g_region ?_; refine kPm rfl rfl ?_; refine p_callq rfl (en_f Tryz.call72 rfl) (ro_at (q := DevA) (fun Fr => nload_ok _ Fr _ _ _)) .free rfl rfl ?_; refine kPa rfl rfl ?_; refine p_nil ?_; refine g_seq ?_; refine g_region ?_; refine kPm rfl rfl ?_
  refine p_call rfl (en_f Tryz.call23 rfl) (ncrash_ok _ _ _ ((⟨pa, ⟨-1, 0⟩, 8, fun i => ([1] : List Int).getD i 0, fun i => ([1] : List Int).getD i 0, fun _ => none⟩ : Dev).up.st 0 5) 162 [] (fun _ => 0) ⟨Tryz.call162, fun _ => by decide, fun H _ i _ => aw21_ok B H i⟩) .free rfl rfl ?_ ?_
  rotate_left
  · rintro _ _ ⟨⟩
  rintro _ _ rfl
  refine p_nil ?_; refine g_seq ?_; refine g_region ?_; refine kPm rfl rfl ?_; refine kPv (ev_cmp rfl rfl rfl) rfl ?_; refine kPm rfl rfl ?_
  apply p_and (tp := 21) (t := 18) (σ1 := [(18, _), (1, _), (0, _)]) 3 rfl ⟨rfl, rfl, rfl, trivial⟩
  · intro hg1
    refine p_val rfl (ev_move rfl) (.on rfl rfl (beq_eq hg1)) rfl rfl ?_; refine p_val rfl (ev_cmp rfl rfl rfl) (.on rfl rfl (beq_eq hg1)) rfl rfl ?_; refine kPv (ev_pick_t rfl hg1 rfl) rfl ?_
    exact p_seg rfl ⟨rfl, rfl, rfl, trivial⟩ (and_t hg1)
  · intro hg1
    refine p_skip rfl (.on rfl rfl (beq_ne hg1)) rfl ?_; refine p_skip rfl (.on rfl rfl (beq_ne hg1)) rfl ?_; refine kPv (ev_pick_f rfl hg1 rfl) rfl ?_
    exact p_seg rfl ⟨rfl, rfl, rfl, trivial⟩ (and_f hg1)
  refine kPm rfl rfl ?_
  apply p_and (tp := 26) (t := 22) (σ1 := [(22, _), (1, _), (0, _)]) 4 rfl ⟨rfl, rfl, rfl, trivial⟩
  · intro hg2
    refine p_val rfl (ev_move rfl) (.on rfl rfl (beq_eq hg2)) rfl rfl ?_; refine p_callq rfl (en_f Tryz.call72 rfl) (ro_at (q := DevA) (fun Fr => nload_ok _ Fr _ _ _)) (.on rfl rfl (beq_eq hg2)) rfl rfl ?_; refine p_val rfl (ev_cmp rfl rfl rfl) (.on rfl rfl (beq_eq hg2)) rfl rfl ?_; refine kPv (ev_pick_t rfl hg2 rfl) rfl ?_
    exact p_seg rfl ⟨rfl, rfl, rfl, trivial⟩ (and_t hg2)
  · intro hg2
    refine p_skip rfl (.on rfl rfl (beq_ne hg2)) rfl ?_; refine p_skip rfl (.on rfl rfl (beq_ne hg2)) rfl ?_; refine p_skip rfl (.on rfl rfl (beq_ne hg2)) rfl ?_; refine kPv (ev_pick_f rfl hg2 rfl) rfl ?_
    exact p_seg rfl ⟨rfl, rfl, rfl, trivial⟩ (and_f hg2)
  refine kPm rfl rfl ?_
  apply p_and (tp := 31) (t := 27) (σ1 := [(27, _), (0, _)]) 4 rfl ⟨rfl, rfl, trivial⟩
  · intro hg3
    refine p_val rfl (ev_move rfl) (.on rfl rfl (beq_eq hg3)) rfl rfl ?_; refine p_callq rfl (en_f Tryz.call33 rfl) (ro_at (q := DevA) (fun Fr => nlen_ok _ Fr _ _)) (.on rfl rfl (beq_eq hg3)) rfl rfl ?_; refine p_val rfl (ev_cmp rfl rfl rfl) (.on rfl rfl (beq_eq hg3)) rfl rfl ?_; refine kPv (ev_pick_t rfl hg3 rfl) rfl ?_
    exact p_seg rfl ⟨rfl, rfl, trivial⟩ (and_t hg3)
  · intro hg3
    refine p_skip rfl (.on rfl rfl (beq_ne hg3)) rfl ?_; refine p_skip rfl (.on rfl rfl (beq_ne hg3)) rfl ?_; refine p_skip rfl (.on rfl rfl (beq_ne hg3)) rfl ?_; refine kPv (ev_pick_f rfl hg3 rfl) rfl ?_
    exact p_seg rfl ⟨rfl, rfl, trivial⟩ (and_f hg3)
  refine kPa rfl rfl ?_; refine p_nil ?_; refine g_ret ?_
  exact ret_tmp Tryz.results160 rfl (fun w hw => ⟨rfl, hw.tail.tail⟩)


theorem cfg1 : CfgW ⟨3, 1, 8⟩ := ⟨by decide, by decide, by decide, by decide, by decide, by decide⟩
def packI (w r : Int) : Int := bitI .or .u64 (bitI .or .u64 12754194144713244672 (IntKind.u64.wrap (IntKind.u64.wrap r * 2 ^ min (32 : Int).toNat IntKind.u64.bits))) (IntKind.u64.wrap w)
def chkH (w r : Int) : Int := if 0 ≤ w ∧ w ≤ 64 ∧ 0 ≤ r ∧ r ≤ w then 0 else 5
def unpW (w : Int) : Int := IntKind.i64.wrap (IntKind.u32.wrap w)
def unpR (w : Int) : Int := IntKind.i64.wrap (bitI .and .u64 (w.fdiv (2 ^ min (32 : Int).toNat IntKind.u64.bits)) 16777215)
def unp (w : Int) : Int × Int × Bool := if chkH (unpW w) (unpR w) = 0 ∧ packI (unpW w) (unpR w) = w then (unpW w, unpR w, true) else (0, 0, false)

theorem awake3_ok (B : World) (H : List HP) :
    ∀ w, Holds B H w → Calls Tryz.prog 159 [].toArray w (PureR B H (.bool true)) := by
  refine fn_enter Tryz.func159 rfl Tryz.ntmps159 rfl ?_; refine g_seq ?_; refine g_region ?_; refine kPa rfl rfl ?_; refine p_nil ?_; refine g_seq ?_; refine g_seq ?_; refine g_region ?_; refine p_callq rfl (en_f Tryz.call160 rfl) (awake2_ok _ _) .free rfl rfl ?_; refine kPv (ev_not rfl) rfl ?_; refine p_nil ?_; refine g_iff rfl (rfl) ?_; refine g_skip ?_; refine g_seq ?_; refine g_region ?_; refine kPv (ev_build rfl (bld_30_0_1_2 _ _ _ rfl rfl rfl)) rfl ?_
  refine p_chg rfl (ch_allocA Tryz.zeroValue30 rfl) .free rfl rfl ?_
  rintro _ _ ⟨b1, rfl, rfl⟩
  refine p_chg0 rfl (ch_storeA (vs := _) Tryz.sizeOf30 rfl rfl rfl rfl rfl) .free rfl ?_
  rintro _ _ rfl
  refine p_nil ?_; refine g_seq ?_; refine g_region ?_; refine kPv (ev_loadA Tryz.isAgg30 Tryz.sizeOf30 rfl rfl) rfl ?_; refine p_callq rfl (en_f Tryz.call130 rfl) (check_ok _ _ ⟨3, 1, 8⟩) .free rfl rfl ?_; refine kPv (ev_cmp rfl rfl rfl) rfl ?_; refine kPm rfl rfl ?_
  apply p_and (tp := 12) (t := 8) (σ1 := [(8, _), (1, _), (0, _)]) 4 rfl ⟨rfl, rfl, rfl, trivial⟩
  · intro hg1
    refine p_val rfl (ev_loadA Tryz.isAgg30 Tryz.sizeOf30 rfl rfl) (.on rfl rfl (beq_eq hg1)) rfl rfl ?_; refine p_callq rfl (en_f Tryz.call45 rfl) (active_ok _ _ ⟨3, 1, 8⟩ cfg1) (.on rfl rfl (beq_eq hg1)) rfl rfl ?_; refine p_val rfl (ev_cmp rfl rfl rfl) (.on rfl rfl (beq_eq hg1)) rfl rfl ?_; refine kPv (ev_pick_t rfl hg1 rfl) rfl ?_
    exact p_seg rfl ⟨rfl, rfl, rfl, trivial⟩ (and_t hg1)
  · intro hg1
    refine p_skip rfl (.on rfl rfl (beq_ne hg1)) rfl ?_; refine p_skip rfl (.on rfl rfl (beq_ne hg1)) rfl ?_; refine p_skip rfl (.on rfl rfl (beq_ne hg1)) rfl ?_; refine kPv (ev_pick_f rfl hg1 rfl) rfl ?_
    exact p_seg rfl ⟨rfl, rfl, rfl, trivial⟩ (and_f hg1)
  refine kPm rfl rfl ?_
  apply p_and (tp := 17) (t := 13) (σ1 := [(13, _), (1, _), (0, _)]) 4 rfl ⟨rfl, rfl, rfl, trivial⟩
  · intro hg2
    refine p_val rfl (ev_loadA Tryz.isAgg30 Tryz.sizeOf30 rfl rfl) (.on rfl rfl (beq_eq hg2)) rfl rfl ?_; refine p_callq rfl (en_f Tryz.call46 rfl) (from_ok _ _ ⟨3, 1, 8⟩ cfg1 _ (by omega) (by omega)) (.on rfl rfl (beq_eq hg2)) rfl rfl ?_; refine p_val rfl (ev_cmp rfl rfl rfl) (.on rfl rfl (beq_eq hg2)) rfl rfl ?_; refine kPv (ev_pick_t rfl hg2 rfl) rfl ?_
    exact p_seg rfl ⟨rfl, rfl, rfl, trivial⟩ (and_t hg2)
  · intro hg2
    refine p_skip rfl (.on rfl rfl (beq_ne hg2)) rfl ?_; refine p_skip rfl (.on rfl rfl (beq_ne hg2)) rfl ?_; refine p_skip rfl (.on rfl rfl (beq_ne hg2)) rfl ?_; refine kPv (ev_pick_f rfl hg2 rfl) rfl ?_
    exact p_seg rfl ⟨rfl, rfl, rfl, trivial⟩ (and_f hg2)
  refine kPm rfl rfl ?_
  apply p_and (tp := 22) (t := 18) (σ1 := [(18, _), (0, _)]) 4 rfl ⟨rfl, rfl, trivial⟩
  · intro hg3
    refine p_val rfl (ev_loadA Tryz.isAgg30 Tryz.sizeOf30 rfl rfl) (.on rfl rfl (beq_eq hg3)) rfl rfl ?_; refine p_callq rfl (en_f Tryz.call44 rfl) (cwords_ok _ _ ⟨3, 1, 8⟩ cfg1) (.on rfl rfl (beq_eq hg3)) rfl rfl ?_; refine p_val rfl (ev_cmp rfl rfl rfl) (.on rfl rfl (beq_eq hg3)) rfl rfl ?_; refine kPv (ev_pick_t rfl hg3 rfl) rfl ?_
    exact p_seg rfl ⟨rfl, rfl, trivial⟩ (and_t hg3)
  · intro hg3
    refine p_skip rfl (.on rfl rfl (beq_ne hg3)) rfl ?_; refine p_skip rfl (.on rfl rfl (beq_ne hg3)) rfl ?_; refine p_skip rfl (.on rfl rfl (beq_ne hg3)) rfl ?_; refine kPv (ev_pick_f rfl hg3 rfl) rfl ?_
    exact p_seg rfl ⟨rfl, rfl, trivial⟩ (and_f hg3)
  refine kPa rfl rfl ?_; refine p_nil ?_; refine g_ret ?_
  exact ret_tmp Tryz.results159 rfl (fun w hw => ⟨ret_b (by decide +kernel), hw.tail⟩)

theorem hcheck_ok (B : World) (H : List HP) (x r : Int) :
    ∀ w, Holds B H w → Calls Tryz.prog 111 [.agg #[i64 x, i64 r]].toArray w (PureR B H (i64 (chkH x r))) := by
  refine fn_enter Tryz.func111 rfl Tryz.ntmps111 rfl ?_; refine g_seq ?_; refine g_region ?_; refine p_chg rfl (ch_boxA rfl) .free rfl rfl ?_
  rintro _ _ ⟨b1, rfl, rfl⟩
  refine kPa rfl rfl ?_; refine p_nil ?_; refine g_seq ?_; refine g_seq ?_; refine g_region ?_; refine kPv (ev_fa (m := _) fa_87_0 rfl rfl) rfl ?_; refine kPv (ev_load Tryz.isAgg3 rfl rfl) rfl ?_; refine kPv (ev_cmp rfl rfl rfl) rfl ?_; refine kPm rfl rfl ?_
  apply p_or (tp := 10) (t := 6) (σ1 := [(6, _), (2, _), (1, _)]) 4 rfl ⟨rfl, rfl, rfl, trivial⟩
  · intro hg1
    refine p_val rfl (ev_fa (m := _) fa_87_0 rfl rfl) (.on rfl rfl (beq_eq hg1)) rfl rfl ?_; refine p_val rfl (ev_load Tryz.isAgg3 rfl rfl) (.on rfl rfl (beq_eq hg1)) rfl rfl ?_; refine p_val rfl (ev_cmp rfl rfl rfl) (.on rfl rfl (beq_eq hg1)) rfl rfl ?_; refine kPv (ev_pick_f rfl hg1 rfl) rfl ?_
    exact p_seg rfl ⟨rfl, rfl, rfl, trivial⟩ (or_f hg1)
  · intro hg1
    refine p_skip rfl (.on rfl rfl (beq_ne hg1)) rfl ?_; refine p_skip rfl (.on rfl rfl (beq_ne hg1)) rfl ?_; refine p_skip rfl (.on rfl rfl (beq_ne hg1)) rfl ?_; refine kPv (ev_pick_t rfl hg1 rfl) rfl ?_
    exact p_seg rfl ⟨rfl, rfl, rfl, trivial⟩ (or_t hg1)
  refine kPm rfl rfl ?_
  apply p_or (tp := 15) (t := 11) (σ1 := [(11, _), (2, _), (1, _)]) 4 rfl ⟨rfl, rfl, rfl, trivial⟩
  · intro hg2
    refine p_val rfl (ev_fa (m := _) fa_87_1 rfl rfl) (.on rfl rfl (beq_eq hg2)) rfl rfl ?_; refine p_val rfl (ev_load Tryz.isAgg3 rfl rfl) (.on rfl rfl (beq_eq hg2)) rfl rfl ?_; refine p_val rfl (ev_cmp rfl rfl rfl) (.on rfl rfl (beq_eq hg2)) rfl rfl ?_; refine kPv (ev_pick_f rfl hg2 rfl) rfl ?_
    exact p_seg rfl ⟨rfl, rfl, rfl, trivial⟩ (or_f hg2)
  · intro hg2
    refine p_skip rfl (.on rfl rfl (beq_ne hg2)) rfl ?_; refine p_skip rfl (.on rfl rfl (beq_ne hg2)) rfl ?_; refine p_skip rfl (.on rfl rfl (beq_ne hg2)) rfl ?_; refine kPv (ev_pick_t rfl hg2 rfl) rfl ?_
    exact p_seg rfl ⟨rfl, rfl, rfl, trivial⟩ (or_t hg2)
  refine kPm rfl rfl ?_
  apply p_or (tp := 22) (t := 16) (σ1 := [(16, _), (2, _)]) 6 rfl ⟨rfl, rfl, trivial⟩
  · intro hg3
    refine p_val rfl (ev_fa (m := _) fa_87_1 rfl rfl) (.on rfl rfl (beq_eq hg3)) rfl rfl ?_; refine p_val rfl (ev_load Tryz.isAgg3 rfl rfl) (.on rfl rfl (beq_eq hg3)) rfl rfl ?_; refine p_val rfl (ev_fa (m := _) fa_87_0 rfl rfl) (.on rfl rfl (beq_eq hg3)) rfl rfl ?_; refine p_val rfl (ev_load Tryz.isAgg3 rfl rfl) (.on rfl rfl (beq_eq hg3)) rfl rfl ?_; refine p_val rfl (ev_cmp rfl rfl rfl) (.on rfl rfl (beq_eq hg3)) rfl rfl ?_; refine kPv (ev_pick_f rfl hg3 rfl) rfl ?_
    exact p_seg rfl ⟨rfl, rfl, trivial⟩ (or_f hg3)
  · intro hg3
    refine p_skip rfl (.on rfl rfl (beq_ne hg3)) rfl ?_; refine p_skip rfl (.on rfl rfl (beq_ne hg3)) rfl ?_; refine p_skip rfl (.on rfl rfl (beq_ne hg3)) rfl ?_; refine p_skip rfl (.on rfl rfl (beq_ne hg3)) rfl ?_; refine p_skip rfl (.on rfl rfl (beq_ne hg3)) rfl ?_; refine kPv (ev_pick_t rfl hg3 rfl) rfl ?_
    exact p_seg rfl ⟨rfl, rfl, trivial⟩ (or_t hg3)
  refine p_nil ?_
  refine g_if rfl (fun h22 => ?_) (fun h22 => ?_)
  · try simp only [decide_eq_true_eq, decide_eq_false_iff_not, Bool.not_eq_true', Bool.not_eq_false', Bool.or_eq_true, Bool.and_eq_true, Bool.and_eq_false_iff, Bool.or_eq_false_iff, beq_iff_eq, bne_iff_ne, beq_eq_false_iff_ne, bne_eq_false_iff_eq, ge_iff_le, gt_iff_lt, ne_eq] at h22
    refine g_seq ?_; refine g_region ?_; refine kPa rfl rfl ?_; refine p_nil ?_; refine g_ret ?_
    exact ret_tmp Tryz.results111 rfl (fun w hw => ⟨by unfold chkH; rw [if_neg (by omega)], hw.tail⟩)
  · try simp only [decide_eq_true_eq, decide_eq_false_iff_not, Bool.not_eq_true', Bool.not_eq_false', Bool.or_eq_true, Bool.and_eq_true, Bool.and_eq_false_iff, Bool.or_eq_false_iff, beq_iff_eq, bne_iff_ne, beq_eq_false_iff_ne, bne_eq_false_iff_eq, ge_iff_le, gt_iff_lt, ne_eq] at h22
    refine g_skip ?_; refine g_seq ?_; refine g_region ?_; refine kPa rfl rfl ?_; refine p_nil ?_; refine g_ret ?_
    exact ret_tmp Tryz.results111 rfl (fun w hw => ⟨by unfold chkH; rw [if_pos (by omega)], hw.tail⟩)

theorem hpack_ok (B : World) (H : List HP) (x r : Int) :
    ∀ w, Holds B H w → Calls Tryz.prog 112 [.agg #[i64 x, i64 r]].toArray w (PureR B H (w64 (packI x r))) := by
  refine fn_enter Tryz.func112 rfl Tryz.ntmps112 rfl ?_; refine g_seq ?_; refine g_region ?_; refine p_chg rfl (ch_boxA rfl) .free rfl rfl ?_
  rintro _ _ ⟨b1, rfl, rfl⟩
  refine kPa rfl rfl ?_; refine p_nil ?_; refine g_seq ?_; refine g_region ?_; refine kPv (ev_fa (m := _) fa_87_1 rfl rfl) rfl ?_; refine kPv (ev_load Tryz.isAgg3 rfl rfl) rfl ?_
  first | refine p_val rfl (ev_conv Tryz.runUnderlying3 Tryz.runUnderlying52 rfl (wru64 (by omega))) .free rfl rfl ?_ | refine p_val rfl (ev_conv Tryz.runUnderlying3 Tryz.runUnderlying52 rfl rfl) .free rfl rfl ?_
  first | refine p_val rfl (ev_shl rfl rfl (by decide) rfl) .free rfl rfl ?_ | refine p_val rfl (ev_shl rfl rfl (by omega) rfl) .free rfl rfl ?_
  refine kPv (ev_or rfl rfl rfl) rfl ?_; refine kPv (ev_fa (m := _) fa_87_0 rfl rfl) rfl ?_; refine kPv (ev_load Tryz.isAgg3 rfl rfl) rfl ?_
  first | refine p_val rfl (ev_conv Tryz.runUnderlying3 Tryz.runUnderlying52 rfl (wru64 (by omega))) .free rfl rfl ?_ | refine p_val rfl (ev_conv Tryz.runUnderlying3 Tryz.runUnderlying52 rfl rfl) .free rfl rfl ?_
  refine kPv (ev_or rfl rfl rfl) rfl ?_; refine kPa rfl rfl ?_; refine p_nil ?_; refine go_sub (σ' := [(2, _)]) ⟨rfl, trivial⟩ ?_; refine g_ret ?_
  exact ret_tmp Tryz.results112 rfl (fun w hw => ⟨rfl, hw.tail⟩)

theorem hsize_ok (B : World) (H : List HP) (x r : Int) (h : 0 ≤ x ∧ x ≤ 1000000) :
    ∀ w, Holds B H w → Calls Tryz.prog 52 [.agg #[i64 x, i64 r]].toArray w (PureR B H (i64 (x + 1))) := by
  refine fn_enter Tryz.func52 rfl Tryz.ntmps52 rfl ?_; refine g_seq ?_; refine g_region ?_; refine p_chg rfl (ch_boxA rfl) .free rfl rfl ?_
  rintro _ _ ⟨b1, rfl, rfl⟩
  refine kPa rfl rfl ?_; refine p_nil ?_; refine g_seq ?_; refine g_region ?_; refine kPv (ev_fa (m := _) fa_87_0 rfl rfl) rfl ?_; refine kPv (ev_load Tryz.isAgg3 rfl rfl) rfl ?_
  first | refine p_val rfl (ev_add rfl rfl (wr64 (by omega))) .free rfl rfl ?_ | refine p_val rfl (ev_add rfl rfl rfl) .free rfl rfl ?_
  refine kPa rfl rfl ?_; refine p_nil ?_; refine g_ret ?_
  exact ret_tmp Tryz.results52 rfl (fun w hw => ⟨rfl, hw.tail⟩)

theorem unpack_ok (B : World) (H : List HP) (v : Int) :
    ∀ w, Holds B H w → Calls Tryz.prog 93 [w64 v].toArray w (PureR B H (.tuple #[.agg #[i64 (unp v).1, i64 (unp v).2.1], .bool (unp v).2.2])) := by
  refine fn_enter Tryz.func93 rfl Tryz.ntmps93 rfl ?_; refine g_seq ?_; refine g_region ?_; refine p_chg rfl (ch_allocA Tryz.zeroValue87 rfl) .free rfl rfl ?_
  rintro _ _ ⟨b2, rfl, rfl⟩
  refine kPa rfl rfl ?_; refine p_nil ?_; refine g_seq ?_; refine g_region ?_; refine kPm rfl rfl ?_; refine kPv (ev_conv Tryz.runUnderlying52 Tryz.runUnderlying174 rfl rfl) rfl ?_
  first | refine p_val rfl (ev_conv Tryz.runUnderlying174 Tryz.runUnderlying3 rfl (wr64 (by omega))) .free rfl rfl ?_ | refine p_val rfl (ev_conv Tryz.runUnderlying174 Tryz.runUnderlying3 rfl rfl) .free rfl rfl ?_
  refine kPm rfl rfl ?_
  first | refine p_val rfl (ev_shr rfl rfl (by decide) rfl) .free rfl rfl ?_ | refine p_val rfl (ev_shr rfl rfl (by omega) rfl) .free rfl rfl ?_
  refine kPv (ev_and rfl rfl rfl) rfl ?_
  first | refine p_val rfl (ev_conv Tryz.runUnderlying52 Tryz.runUnderlying3 rfl (wr64 (by omega))) .free rfl rfl ?_ | refine p_val rfl (ev_conv Tryz.runUnderlying52 Tryz.runUnderlying3 rfl rfl) .free rfl rfl ?_
  refine kPv (ev_build rfl (bld_87_0_1 _ _ rfl rfl)) rfl ?_; refine p_chg rfl (ch_allocA Tryz.zeroValue87 rfl) .free rfl rfl ?_
  rintro _ _ ⟨b4, rfl, rfl⟩
  refine p_chg0 rfl (ch_storeA (vs := _) Tryz.sizeOf87 rfl rfl rfl rfl rfl) .free rfl ?_
  rintro _ _ rfl
  refine p_nil ?_; refine go_sub (σ' := [(4, _), (3, _), (2, _), (0, _)]) ⟨rfl, rfl, rfl, rfl, trivial⟩ ?_; refine g_seq ?_; refine g_seq ?_; refine g_region ?_; refine kPv (ev_loadA Tryz.isAgg87 Tryz.sizeOf87 rfl rfl) rfl ?_; refine p_callq rfl (en_f Tryz.call111 rfl) (hcheck_ok _ _ (unpW v) (unpR v)) .free rfl rfl ?_; refine kPv (ev_cmp rfl rfl rfl) rfl ?_; refine kPm rfl rfl ?_
  apply p_or (tp := 21) (t := 16) (σ1 := [(16, _), (4, _), (3, _), (2, _)]) 5 rfl ⟨rfl, rfl, rfl, rfl, trivial⟩
  · intro hg1
    refine p_val rfl (ev_loadA Tryz.isAgg87 Tryz.sizeOf87 rfl rfl) (.on rfl rfl (beq_eq hg1)) rfl rfl ?_; refine p_callq rfl (en_f Tryz.call112 rfl) (hpack_ok _ _ (unpW v) (unpR v)) (.on rfl rfl (beq_eq hg1)) rfl rfl ?_; refine p_val rfl (ev_move rfl) (.on rfl rfl (beq_eq hg1)) rfl rfl ?_; refine p_val rfl (ev_cmp rfl rfl rfl) (.on rfl rfl (beq_eq hg1)) rfl rfl ?_; refine kPv (ev_pick_f rfl hg1 rfl) rfl ?_
    exact p_seg rfl ⟨rfl, rfl, rfl, rfl, trivial⟩ (or_f hg1)
  · intro hg1
    refine p_skip rfl (.on rfl rfl (beq_ne hg1)) rfl ?_; refine p_skip rfl (.on rfl rfl (beq_ne hg1)) rfl ?_; refine p_skip rfl (.on rfl rfl (beq_ne hg1)) rfl ?_; refine p_skip rfl (.on rfl rfl (beq_ne hg1)) rfl ?_; refine kPv (ev_pick_t rfl hg1 rfl) rfl ?_
    exact p_seg rfl ⟨rfl, rfl, rfl, rfl, trivial⟩ (or_t hg1)
  refine p_nil ?_
  refine g_if rfl (fun h21 => ?_) (fun h21 => ?_)
  · have hbad : ¬ (chkH (unpW v) (unpR v) = 0 ∧ packI (unpW v) (unpR v) = v) := by
      rintro ⟨q1, q2⟩
      rw [q1, q2] at h21; simp at h21
    refine g_seq ?_; refine g_region ?_; refine kPv (ev_build rfl (bld_87)) rfl ?_; refine p_chg0 rfl (ch_storeA (vs := _) Tryz.sizeOf87 rfl rfl rfl rfl rfl) .free rfl ?_
    rintro _ _ rfl
    refine kPa rfl rfl ?_; refine p_nil ?_; refine g_ret ?_
    exact ret_2 Tryz.results93 (.cellA rfl Tryz.isAgg87 Tryz.sizeOf87 rfl rfl) (.tmp rfl) (fun w hw => ⟨by unfold unp; rw [if_neg hbad]; rfl, hw.tail.tail⟩)
  · have hgd : chkH (unpW v) (unpR v) = 0 ∧ packI (unpW v) (unpR v) = v := by simpa using h21
    refine g_skip ?_; refine g_seq ?_; refine g_region ?_; refine kPv (ev_loadA Tryz.isAgg87 Tryz.sizeOf87 rfl rfl) rfl ?_; refine p_chg0 rfl (ch_storeA (vs := _) Tryz.sizeOf87 rfl rfl rfl rfl rfl) .free rfl ?_
    rintro _ _ rfl
    refine kPa rfl rfl ?_; refine p_nil ?_; refine g_ret ?_
    exact ret_2 Tryz.results93 (.cellA rfl Tryz.isAgg87 Tryz.sizeOf87 rfl rfl) (.tmp rfl) (fun w hw => ⟨by unfold unp; rw [if_pos hgd]; rfl, hw.tail.tail⟩)

theorem awake4_ok (B : World) (H : List HP) :
    ∀ w, Holds B H w → Calls Tryz.prog 157 [].toArray w (PureR B H (.bool true)) := by
  refine fn_enter Tryz.func157 rfl Tryz.ntmps157 rfl ?_; refine g_seq ?_; refine g_region ?_; refine kPa rfl rfl ?_; refine p_nil ?_; refine g_seq ?_; refine g_seq ?_; refine g_region ?_; refine p_callq rfl (en_f Tryz.call159 rfl) (awake3_ok _ _) .free rfl rfl ?_; refine kPv (ev_not rfl) rfl ?_; refine p_nil ?_; refine g_iff rfl (rfl) ?_; refine g_skip ?_; refine g_seq ?_; refine g_region ?_; refine p_callq rfl (en_f Tryz.call93 rfl) (unpack_ok _ _ _) .free rfl rfl ?_; refine kPm rfl rfl ?_
  refine kPv (ev_ext rfl rfl) rfl ?_; refine kPv (ev_ext rfl rfl) rfl ?_; refine p_chg rfl (ch_allocA Tryz.zeroValue87 rfl) .free rfl rfl ?_
  rintro _ _ ⟨b1, rfl, rfl⟩
  refine p_chg0 rfl (ch_storeA (vs := _) Tryz.sizeOf87 rfl rfl rfl rfl rfl) .free rfl ?_
  rintro _ _ rfl
  refine kPa rfl rfl ?_; refine p_nil ?_; refine g_seq ?_; refine g_region ?_; refine kPm rfl rfl ?_; refine kPm rfl rfl ?_
  apply p_and (tp := 14) (t := 10) (σ1 := [(10, _), (1, _), (0, _)]) 4 rfl ⟨rfl, rfl, rfl, trivial⟩
  · intro hg1
    refine p_val rfl (ev_fa (m := _) fa_87_0 rfl rfl) (.on rfl rfl (beq_eq hg1)) rfl rfl ?_; refine p_val rfl (ev_load Tryz.isAgg3 rfl rfl) (.on rfl rfl (beq_eq hg1)) rfl rfl ?_; refine p_val rfl (ev_cmp rfl rfl rfl) (.on rfl rfl (beq_eq hg1)) rfl rfl ?_; refine kPv (ev_pick_t rfl hg1 rfl) rfl ?_
    exact p_seg rfl ⟨rfl, rfl, rfl, trivial⟩ (and_t hg1)
  · intro hg1
    refine p_skip rfl (.on rfl rfl (beq_ne hg1)) rfl ?_; refine p_skip rfl (.on rfl rfl (beq_ne hg1)) rfl ?_; refine p_skip rfl (.on rfl rfl (beq_ne hg1)) rfl ?_; refine kPv (ev_pick_f rfl hg1 rfl) rfl ?_
    exact p_seg rfl ⟨rfl, rfl, rfl, trivial⟩ (and_f hg1)
  refine kPm rfl rfl ?_
  apply p_and (tp := 19) (t := 15) (σ1 := [(15, _), (1, _), (0, _)]) 4 rfl ⟨rfl, rfl, rfl, trivial⟩
  · intro hg2
    refine p_val rfl (ev_fa (m := _) fa_87_1 rfl rfl) (.on rfl rfl (beq_eq hg2)) rfl rfl ?_; refine p_val rfl (ev_load Tryz.isAgg3 rfl rfl) (.on rfl rfl (beq_eq hg2)) rfl rfl ?_; refine p_val rfl (ev_cmp rfl rfl rfl) (.on rfl rfl (beq_eq hg2)) rfl rfl ?_; refine kPv (ev_pick_t rfl hg2 rfl) rfl ?_
    exact p_seg rfl ⟨rfl, rfl, rfl, trivial⟩ (and_t hg2)
  · intro hg2
    refine p_skip rfl (.on rfl rfl (beq_ne hg2)) rfl ?_; refine p_skip rfl (.on rfl rfl (beq_ne hg2)) rfl ?_; refine p_skip rfl (.on rfl rfl (beq_ne hg2)) rfl ?_; refine kPv (ev_pick_f rfl hg2 rfl) rfl ?_
    exact p_seg rfl ⟨rfl, rfl, rfl, trivial⟩ (and_f hg2)
  refine kPm rfl rfl ?_
  apply p_and (tp := 24) (t := 20) (σ1 := [(20, _), (1, _), (0, _)]) 4 rfl ⟨rfl, rfl, rfl, trivial⟩
  · intro hg3
    refine p_val rfl (ev_loadA Tryz.isAgg87 Tryz.sizeOf87 rfl rfl) (.on rfl rfl (beq_eq hg3)) rfl rfl ?_; refine p_callq rfl (en_f Tryz.call52 rfl) (hsize_ok _ _ _ _ ⟨by decide, by decide⟩) (.on rfl rfl (beq_eq hg3)) rfl rfl ?_; refine p_val rfl (ev_cmp rfl rfl rfl) (.on rfl rfl (beq_eq hg3)) rfl rfl ?_; refine kPv (ev_pick_t rfl hg3 rfl) rfl ?_
    exact p_seg rfl ⟨rfl, rfl, rfl, trivial⟩ (and_t hg3)
  · intro hg3
    refine p_skip rfl (.on rfl rfl (beq_ne hg3)) rfl ?_; refine p_skip rfl (.on rfl rfl (beq_ne hg3)) rfl ?_; refine p_skip rfl (.on rfl rfl (beq_ne hg3)) rfl ?_; refine kPv (ev_pick_f rfl hg3 rfl) rfl ?_
    exact p_seg rfl ⟨rfl, rfl, rfl, trivial⟩ (and_f hg3)
  refine kPm rfl rfl ?_
  apply p_and (tp := 29) (t := 25) (σ1 := [(25, _), (0, _)]) 4 rfl ⟨rfl, rfl, trivial⟩
  · intro hg4
    refine p_val rfl (ev_loadA Tryz.isAgg87 Tryz.sizeOf87 rfl rfl) (.on rfl rfl (beq_eq hg4)) rfl rfl ?_; refine p_callq rfl (en_f Tryz.call112 rfl) (hpack_ok _ _ _ _) (.on rfl rfl (beq_eq hg4)) rfl rfl ?_; refine p_val rfl (ev_cmp rfl rfl rfl) (.on rfl rfl (beq_eq hg4)) rfl rfl ?_; refine kPv (ev_pick_t rfl hg4 rfl) rfl ?_
    exact p_seg rfl ⟨rfl, rfl, trivial⟩ (and_t hg4)
  · intro hg4
    refine p_skip rfl (.on rfl rfl (beq_ne hg4)) rfl ?_; refine p_skip rfl (.on rfl rfl (beq_ne hg4)) rfl ?_; refine p_skip rfl (.on rfl rfl (beq_ne hg4)) rfl ?_; refine kPv (ev_pick_f rfl hg4 rfl) rfl ?_
    exact p_seg rfl ⟨rfl, rfl, trivial⟩ (and_f hg4)
  refine kPa rfl rfl ?_; refine p_nil ?_; refine g_ret ?_
  exact ret_tmp Tryz.results157 rfl (fun w hw => ⟨ret_b (by decide +kernel), hw.tail⟩)

end Go.Proofs.YtbfheafpecgphaaGreat
