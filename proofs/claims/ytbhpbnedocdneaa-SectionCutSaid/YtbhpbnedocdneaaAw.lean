/- The fixed facts of the layers 1 to 4. Conditions: none. -/
import Derived.Test.YtbhpbnedocdneaaSup
set_option linter.unusedSimpArgs false
set_option linter.unusedVariables false
set_option linter.unnecessarySimpa false
set_option linter.unusedSectionVars false
namespace Go.Proofs.Ytbhpbnedocdneaa
set_option linter.unusedSimpArgs false
set_option linter.unusedVariables false
open Go
/-- Powers without an end never go. -/
theorem out_ne {p : Pow} (h : p.lim < 0) : p.out = false := by simp [Pow.out]; omega
theorem store_ne {s : Dev} {i v : Int} (h : s.pow.lim < 0) (hi : 0 ≤ i ∧ i < s.n) : s.store i v = .ok 0 (s.up.st i.toNat v) := by
  have : s.has i = true := by simp [Dev.has, hi]
  simp [Dev.store, this, out_ne h]
theorem flush_ne {s : Dev} {i : Int} (h : s.pow.lim < 0) (hi : 0 ≤ i ∧ i < s.n) : s.flush i = .ok 0 (s.up.fl i.toNat) := by
  have : s.has i = true := by simp [Dev.has, hi]
  simp [Dev.flush, this, out_ne h]
theorem fence_ne {s : Dev} (h : s.pow.lim < 0) : s.fence = .ok () s.up.fe := by simp [Dev.fence, out_ne h]
theorem ret_b {x : Bool} (h : x = true) : Ending.returned (.bool x) = Ending.returned (.bool true) := by rw [h]
theorem ok_inj {α : Type} {a b : α} {s t : Dev} (h : Out.ok a s = Out.ok b t) : a = b ∧ s = t := by cases h; exact ⟨rfl, rfl⟩
theorem ok_off {α : Type} {a : α} {s t : Dev} (h : Out.ok a s = Out.off t) : False := by cases h

theorem aw1_ok (B : World) (Fr : List HP) (bp pb : Nat) :
    ∀ w, Holds B (row bp [ptr pb] 73 :: PowA pb ⟨1, 0⟩ :: Fr) w → Calls Try.prog 104 [ptr bp].toArray w (Ret B (fun _ _ => False) (fun c H' => c = offc ∧ H' = row bp [ptr pb] 73 :: PowA pb ⟨1, 1⟩ :: Fr)) := by
  refine fn_enter Try.func104 rfl Try.ntmps104 rfl ?_
  refine g_seq ?_
  refine g_region ?_
  refine p_val rfl (ev_load Try.isAgg73 rfl rfl) .free rfl rfl ?_
  refine p_call rfl (en_f Try.call65 rfl) (up_at (fun Fr => tick_ok _ Fr _ _)) .free rfl rfl ?_ ?_
  rotate_left
  · rintro _ _ ⟨_, ⟨ho, rfl, rfl⟩, rfl⟩
    first | (exfalso; revert ho; decide) | exact pan_fn fun w hw => ⟨_, ⟨rfl, rfl⟩, hw⟩
  rintro _ _ ⟨_, ⟨ho, rfl, rfl⟩, rfl⟩
  refine p_nil ?_
  refine g_region ?_
  refine p_val rfl (ev_load Try.isAgg73 rfl rfl) .free rfl rfl ?_
  refine p_call rfl (en_f Try.call65 rfl) (up_at (fun Fr => tick_ok _ Fr _ _)) .free rfl rfl ?_ ?_
  rotate_left
  · rintro _ _ ⟨_, ⟨ho, rfl, rfl⟩, rfl⟩
    first | (exfalso; revert ho; decide) | exact pan_fn fun w hw => ⟨_, ⟨rfl, rfl⟩, hw⟩
  rintro _ _ ⟨_, ⟨ho, rfl, rfl⟩, rfl⟩
  exfalso; revert ho; decide

theorem aw2_ok (B : World) (H : List HP) :
    ∀ w, Holds B H w → Calls Try.prog 106 [].toArray w (PureR B H (.tuple #[])) := by
  refine fn_enter Try.func106 rfl Try.ntmps106 rfl ?_
  refine g_skip ?_
  exact end_none Try.results106 (fun w hw => ⟨rfl, hw⟩)

theorem awake1_ok (B : World) (H : List HP) :
    ∀ w, Holds B H w → Calls Try.prog 101 [].toArray w (PureR B H (.bool true)) := by
  refine fn_enter Try.func101 rfl Try.ntmps101 rfl ?_
  refine g_seq ?_
  refine g_region ?_
  refine p_val rfl (ev_assign rfl) .free rfl rfl ?_
  refine p_nil ?_
  refine g_seq ?_
  refine g_region ?_
  refine p_call rfl (en_f Try.call33 rfl) (pnew_ok _ _ _) .free rfl rfl ?_ ?_
  rotate_left
  · rintro _ _ ⟨⟩
  rintro _ _ ⟨pb, rfl, rfl⟩
  refine p_chg rfl (ch_alloc1 Try.zeroValue73 rfl) .free rfl rfl ?_
  rintro _ _ ⟨b1, rfl, rfl⟩
  refine p_chg0 rfl (ch_store Try.sizeOf73 rfl rfl rfl rfl) .free rfl ?_
  rintro _ _ rfl
  refine p_nil ?_
  refine g_seq ?_
  refine g_seq ?_
  refine g_region ?_
  refine p_val rfl (ev_load Try.isAgg73 rfl rfl) .free rfl rfl ?_
  refine p_val rfl (ev_eqp Try.runUnderlying73 rfl rfl rfl) .free rfl rfl ?_
  refine p_nil ?_
  refine g_iff rfl (rfl) ?_
  refine g_skip ?_
  refine g_seq ?_
  refine g_region ?_
  refine p_val rfl (ev_mkf rfl rfl) .free rfl rfl ?_
  refine p_call rfl (en_f Try.call35 rfl) (run_det false (row b1 [ptr pb] 73 :: PowA pb ⟨1, 1⟩ :: H) Try.call104 (fun A w hw => (aw1_ok B (A :: H) b1 pb w ((hw.front 2 rfl).front 2 rfl)).mono (Ret.mono (fun _ _ h => h.elim) (fun c H' h => ⟨rfl, h.1, fun w hw => h.2 ▸ hw |>.front 2 rfl⟩)))) .free rfl rfl ?_ ?_
  rotate_left
  · rintro _ _ ⟨⟩
  rintro _ _ ⟨rfl, rfl⟩
  refine p_val rfl (ev_assign rfl) .free rfl rfl ?_
  refine p_nil ?_
  refine g_seq ?_
  refine g_region ?_
  refine p_val rfl (ev_move rfl) .free rfl rfl ?_
  refine p_val rfl (ev_not rfl) .free rfl rfl ?_
  refine p_val rfl (ev_move rfl) .free rfl rfl ?_
  apply p_and (tp := 14) (t := 10) (σ1 := [(10, _), (0, _)]) 4 rfl ⟨rfl, rfl, trivial⟩
  · intro hg1
    refine p_val rfl (ev_load Try.isAgg73 rfl rfl) (.on rfl rfl (beq_eq hg1)) rfl rfl ?_
    refine p_callq rfl (en_f Try.call105 rfl) (ro_at (fun Fr => used_ok _ Fr _ _)) (.on rfl rfl (beq_eq hg1)) rfl rfl ?_
    refine p_val rfl (ev_cmp rfl rfl rfl) (.on rfl rfl (beq_eq hg1)) rfl rfl ?_
    refine p_val rfl (ev_pick_t rfl hg1 rfl) .free rfl rfl ?_
    exact p_seg rfl ⟨rfl, rfl, trivial⟩ (and_t hg1)
  · intro hg1
    refine p_skip rfl (.on rfl rfl (beq_ne hg1)) rfl ?_
    refine p_skip rfl (.on rfl rfl (beq_ne hg1)) rfl ?_
    refine p_skip rfl (.on rfl rfl (beq_ne hg1)) rfl ?_
    refine p_val rfl (ev_pick_f rfl hg1 rfl) .free rfl rfl ?_
    exact p_seg rfl ⟨rfl, rfl, trivial⟩ (and_f hg1)
  refine p_val rfl (ev_move rfl) .free rfl rfl ?_
  apply p_and (tp := 17) (t := 15) (σ1 := [(15, _), (0, _)]) 2 rfl ⟨rfl, rfl, trivial⟩
  · intro hg2
    refine p_call rfl (en_f Try.call35 rfl) (run_det true (row b1 [ptr pb] 73 :: PowA pb ⟨1, 1⟩ :: H) Try.call106 (fun A w hw => (aw2_ok B _ w hw).mono fun _ _ h => h.ret ⟨rfl, fun _ h => h⟩)) (.on rfl rfl (beq_eq hg2)) rfl rfl ?_ ?_
    rotate_left
    · rintro _ _ ⟨⟩
    rintro _ _ ⟨rfl, rfl⟩
    refine p_val rfl (ev_pick_t rfl hg2 rfl) .free rfl rfl ?_
    exact p_seg rfl ⟨rfl, rfl, trivial⟩ (and_t hg2)
  · intro hg2
    refine p_skip rfl (.on rfl rfl (beq_ne hg2)) rfl ?_
    refine p_val rfl (ev_pick_f rfl hg2 rfl) .free rfl rfl ?_
    exact p_seg rfl ⟨rfl, rfl, trivial⟩ (and_f hg2)
  refine p_val rfl (ev_assign rfl) .free rfl rfl ?_
  refine p_nil ?_
  refine g_ret ?_
  exact ret_tmp Try.results101 rfl (fun w hw => ⟨rfl, hw.tail.tail⟩)

theorem new2_ok (B : World) (Fr : List HP) (sv : Value) (xs : List Int) (hx0 : 0 < xs.length) (hx1 : xs.length ≤ 100000) (hr : SlR B Fr sv (xs.map w64)) :
    ∀ w, Holds B Fr w → Calls Try.prog 62 [sv].toArray w (Ret B (fun rv H' => ∃ b pa, rv = ptr b ∧ H' = DevA b ⟨pa, ⟨-1, 0⟩, (xs.length + 7) / 8 * 8, fun i => xs.getD i 0, fun i => xs.getD i 0, fun _ => none⟩ :: Fr) (fun _ _ => False)) := by
  refine fn_enter Try.func62 rfl Try.ntmps62 rfl ?_
  refine g_seq ?_
  refine g_region ?_
  refine p_val rfl (ev_assign rfl) .free rfl rfl ?_
  refine p_nil ?_
  refine g_seq ?_
  refine g_region ?_
  refine p_call rfl (en_f Try.call33 rfl) (pnew_ok _ _ _) .free rfl rfl ?_ ?_
  rotate_left
  · rintro _ _ ⟨⟩
  rintro _ _ ⟨pb, rfl, rfl⟩
  refine p_val rfl (ev_move rfl) .free rfl rfl ?_
  refine p_call rfl (en_f Try.call73 rfl) (nnew_ok _ _ _ _ _ xs hx0 hx1 hr) .free rfl rfl ?_ ?_
  rotate_left
  · rintro _ _ ⟨⟩
  rintro _ _ ⟨b, rfl, rfl⟩
  refine p_val rfl (ev_assign rfl) .free rfl rfl ?_
  refine p_nil ?_
  refine g_ret ?_
  exact ret_tmp Try.results62 rfl (fun w hw => ⟨_, ⟨b, pb, rfl, rfl⟩, hw⟩)

theorem aw21_ok (B : World) (H : List HP) (i : Int) :
    ∀ w, Holds B H w → Calls Try.prog 102 [i64 i].toArray w (PureR B H (.int .u8 0)) := by
  refine fn_enter Try.func102 rfl Try.ntmps102 rfl ?_
  refine g_seq ?_
  refine g_region ?_
  refine p_val rfl (ev_assign rfl) .free rfl rfl ?_
  refine p_nil ?_
  refine g_seq ?_
  refine g_region ?_
  refine p_val rfl (ev_assign rfl) .free rfl rfl ?_
  refine p_nil ?_
  refine g_ret ?_
  exact ret_tmp Try.results102 rfl (fun w hw => ⟨rfl, hw⟩)

theorem awake2_ok (B : World) (H : List HP) :
    ∀ w, Holds B H w → Calls Try.prog 93 [].toArray w (PureR B H (.bool true)) := by
  refine fn_enter Try.func93 rfl Try.ntmps93 rfl ?_
  refine g_seq ?_
  refine g_region ?_
  refine p_val rfl (ev_assign rfl) .free rfl rfl ?_
  refine p_nil ?_
  refine g_seq ?_
  refine g_seq ?_
  refine g_region ?_
  refine p_callq rfl (en_f Try.call101 rfl) (awake1_ok _ _) .free rfl rfl ?_
  refine p_val rfl (ev_not rfl) .free rfl rfl ?_
  refine p_nil ?_
  refine g_iff rfl (rfl) ?_
  refine g_skip ?_
  refine g_seq ?_
  refine g_region ?_
  refine p_chg rfl (ch_bs1 Try.runUnderlying39 Try.sizeOf46 Try.zeroValue46 rfl rfl rfl) .free rfl rfl ?_
  rintro _ _ ⟨b6, rfl, rfl⟩
  refine p_call rfl (en_f Try.call62 rfl) (new2_ok _ _ _ [1] (by decide) (by decide) (SlR.row rfl rfl)) .free rfl rfl ?_ ?_
  rotate_left
  · rintro _ _ ⟨⟩
  rintro _ _ ⟨bd, pa, rfl, rfl⟩
  refine p_val rfl (ev_assign rfl) .free rfl rfl ?_
  refine p_nil ?_
  refine g_seq ?_
  refine g_seq ?_
  refine g_region ?_
  refine p_val rfl (ev_move rfl) .free rfl rfl ?_
  refine p_val rfl (ev_eqp Try.runUnderlying27 rfl rfl rfl) .free rfl rfl ?_
  refine p_nil ?_
  refine g_iff rfl (rfl) ?_
  refine g_skip ?_
  refine g_seq ?_
  refine g_region ?_
  refine p_val rfl (ev_move rfl) .free rfl rfl ?_
  refine p_call rfl (en_f Try.call48 rfl) (up_at (q := DevA) (fun Fr => nstore_ok _ Fr _ _ _ _)) .free rfl rfl ?_ ?_
  rotate_left
  · rintro _ _ ⟨s9, ⟨hm9, rfl⟩, rfl⟩
    exact (ok_off ((store_ne (s := (⟨pa, ⟨-1, 0⟩, 8, fun i => ([1] : List Int).getD i 0, fun i => ([1] : List Int).getD i 0, fun _ => none⟩ : Dev)) (i := 0) (v := 5) (show (-1 : Int) < 0 by decide) ⟨by decide, show (0 : Int) < 8 by decide⟩).symm.trans hm9)).elim
  rintro _ _ ⟨s1, ⟨e1, hm1, rfl⟩, rfl⟩
  obtain ⟨rfl, rfl⟩ := ok_inj ((store_ne (s := (⟨pa, ⟨-1, 0⟩, 8, fun i => ([1] : List Int).getD i 0, fun i => ([1] : List Int).getD i 0, fun _ => none⟩ : Dev)) (i := 0) (v := 5) (show (-1 : Int) < 0 by decide) ⟨by decide, show (0 : Int) < 8 by decide⟩).symm.trans hm1)
  refine p_val rfl (ev_assign rfl) .free rfl rfl ?_
  refine p_nil ?_
  refine go_sub (σ' := [(2, _), (1, _), (0, _)]) ⟨rfl, rfl, rfl, trivial⟩ ?_
  refine g_seq ?_
  refine g_region ?_
  refine p_val rfl (ev_move rfl) .free rfl rfl ?_
  refine p_callq rfl (en_f Try.call15 rfl) (ro_at (q := DevA) (fun Fr => nload_ok _ Fr _ _ _)) .free rfl rfl ?_
  refine p_val rfl (ev_assign rfl) .free rfl rfl ?_
  refine p_nil ?_
  refine g_seq ?_
  refine g_region ?_
  refine p_val rfl (ev_move rfl) .free rfl rfl ?_
  refine p_call rfl (en_f Try.call23 rfl) (ncrash_ok _ _ _ ((⟨pa, ⟨-1, 0⟩, 8, fun i => ([1] : List Int).getD i 0, fun i => ([1] : List Int).getD i 0, fun _ => none⟩ : Dev).up.st 0 5) 102 [] (fun _ => 0) ⟨Try.call102, fun _ => by decide, fun H _ i _ => aw21_ok B H i⟩) .free rfl rfl ?_ ?_
  rotate_left
  · rintro _ _ ⟨⟩
  rintro _ _ rfl
  refine p_nil ?_
  refine g_seq ?_
  refine g_region ?_
  refine p_val rfl (ev_move rfl) .free rfl rfl ?_
  refine p_val rfl (ev_cmp rfl rfl rfl) .free rfl rfl ?_
  refine p_val rfl (ev_move rfl) .free rfl rfl ?_
  apply p_and (tp := 21) (t := 18) (σ1 := [(18, _), (1, _), (0, _)]) 3 rfl ⟨rfl, rfl, rfl, trivial⟩
  · intro hg1
    refine p_val rfl (ev_move rfl) (.on rfl rfl (beq_eq hg1)) rfl rfl ?_
    refine p_val rfl (ev_cmp rfl rfl rfl) (.on rfl rfl (beq_eq hg1)) rfl rfl ?_
    refine p_val rfl (ev_pick_t rfl hg1 rfl) .free rfl rfl ?_
    exact p_seg rfl ⟨rfl, rfl, rfl, trivial⟩ (and_t hg1)
  · intro hg1
    refine p_skip rfl (.on rfl rfl (beq_ne hg1)) rfl ?_
    refine p_skip rfl (.on rfl rfl (beq_ne hg1)) rfl ?_
    refine p_val rfl (ev_pick_f rfl hg1 rfl) .free rfl rfl ?_
    exact p_seg rfl ⟨rfl, rfl, rfl, trivial⟩ (and_f hg1)
  refine p_val rfl (ev_move rfl) .free rfl rfl ?_
  apply p_and (tp := 26) (t := 22) (σ1 := [(22, _), (1, _), (0, _)]) 4 rfl ⟨rfl, rfl, rfl, trivial⟩
  · intro hg2
    refine p_val rfl (ev_move rfl) (.on rfl rfl (beq_eq hg2)) rfl rfl ?_
    refine p_callq rfl (en_f Try.call15 rfl) (ro_at (q := DevA) (fun Fr => nload_ok _ Fr _ _ _)) (.on rfl rfl (beq_eq hg2)) rfl rfl ?_
    refine p_val rfl (ev_cmp rfl rfl rfl) (.on rfl rfl (beq_eq hg2)) rfl rfl ?_
    refine p_val rfl (ev_pick_t rfl hg2 rfl) .free rfl rfl ?_
    exact p_seg rfl ⟨rfl, rfl, rfl, trivial⟩ (and_t hg2)
  · intro hg2
    refine p_skip rfl (.on rfl rfl (beq_ne hg2)) rfl ?_
    refine p_skip rfl (.on rfl rfl (beq_ne hg2)) rfl ?_
    refine p_skip rfl (.on rfl rfl (beq_ne hg2)) rfl ?_
    refine p_val rfl (ev_pick_f rfl hg2 rfl) .free rfl rfl ?_
    exact p_seg rfl ⟨rfl, rfl, rfl, trivial⟩ (and_f hg2)
  refine p_val rfl (ev_move rfl) .free rfl rfl ?_
  apply p_and (tp := 31) (t := 27) (σ1 := [(27, _), (0, _)]) 4 rfl ⟨rfl, rfl, trivial⟩
  · intro hg3
    refine p_val rfl (ev_move rfl) (.on rfl rfl (beq_eq hg3)) rfl rfl ?_
    refine p_callq rfl (en_f Try.call28 rfl) (ro_at (q := DevA) (fun Fr => nlen_ok _ Fr _ _)) (.on rfl rfl (beq_eq hg3)) rfl rfl ?_
    refine p_val rfl (ev_cmp rfl rfl rfl) (.on rfl rfl (beq_eq hg3)) rfl rfl ?_
    refine p_val rfl (ev_pick_t rfl hg3 rfl) .free rfl rfl ?_
    exact p_seg rfl ⟨rfl, rfl, trivial⟩ (and_t hg3)
  · intro hg3
    refine p_skip rfl (.on rfl rfl (beq_ne hg3)) rfl ?_
    refine p_skip rfl (.on rfl rfl (beq_ne hg3)) rfl ?_
    refine p_skip rfl (.on rfl rfl (beq_ne hg3)) rfl ?_
    refine p_val rfl (ev_pick_f rfl hg3 rfl) .free rfl rfl ?_
    exact p_seg rfl ⟨rfl, rfl, trivial⟩ (and_f hg3)
  refine p_val rfl (ev_assign rfl) .free rfl rfl ?_
  refine p_nil ?_
  refine g_ret ?_
  exact ret_tmp Try.results93 rfl (fun w hw => ⟨rfl, hw.tail.tail⟩)


theorem cfg1 : CfgW ⟨3, 1, 8⟩ := ⟨by decide, by decide, by decide, by decide, by decide, by decide⟩
def packI (w r : Int) : Int := bitI .or .u64 (bitI .or .u64 12754194144713244672 (IntKind.u64.wrap (IntKind.u64.wrap r * 2 ^ min (32 : Int).toNat IntKind.u64.bits))) (IntKind.u64.wrap w)
def chkH (w r : Int) : Int := if 0 ≤ w ∧ w ≤ 64 ∧ 0 ≤ r ∧ r ≤ w then 0 else 5
def unpW (w : Int) : Int := IntKind.i64.wrap (IntKind.u32.wrap w)
def unpR (w : Int) : Int := IntKind.i64.wrap (bitI .and .u64 (w.fdiv (2 ^ min (32 : Int).toNat IntKind.u64.bits)) 16777215)
def unp (w : Int) : Int × Int × Bool := if chkH (unpW w) (unpR w) = 0 ∧ packI (unpW w) (unpR w) = w then (unpW w, unpR w, true) else (0, 0, false)

theorem awake3_ok (B : World) (H : List HP) :
    ∀ w, Holds B H w → Calls Try.prog 78 [].toArray w (PureR B H (.bool true)) := by
  refine fn_enter Try.func78 rfl Try.ntmps78 rfl ?_
  refine g_seq ?_
  refine g_region ?_
  refine p_val rfl (ev_assign rfl) .free rfl rfl ?_
  refine p_nil ?_
  refine g_seq ?_
  refine g_seq ?_
  refine g_region ?_
  refine p_callq rfl (en_f Try.call93 rfl) (awake2_ok _ _) .free rfl rfl ?_
  refine p_val rfl (ev_not rfl) .free rfl rfl ?_
  refine p_nil ?_
  refine g_iff rfl (rfl) ?_
  refine g_skip ?_
  refine g_seq ?_
  refine g_region ?_
  refine p_val rfl (ev_build rfl (bld_38_0_1_2 _ _ _ rfl rfl rfl)) .free rfl rfl ?_
  refine p_chg rfl (ch_allocA Try.zeroValue38 rfl) .free rfl rfl ?_
  rintro _ _ ⟨b1, rfl, rfl⟩
  refine p_chg0 rfl (ch_storeA (vs := _) Try.sizeOf38 rfl rfl rfl rfl rfl) .free rfl ?_
  rintro _ _ rfl
  refine p_nil ?_
  refine g_seq ?_
  refine g_region ?_
  refine p_val rfl (ev_loadA Try.isAgg38 Try.sizeOf38 rfl rfl) .free rfl rfl ?_
  refine p_callq rfl (en_f Try.call74 rfl) (check_ok _ _ ⟨3, 1, 8⟩) .free rfl rfl ?_
  refine p_val rfl (ev_cmp rfl rfl rfl) .free rfl rfl ?_
  refine p_val rfl (ev_move rfl) .free rfl rfl ?_
  apply p_and (tp := 12) (t := 8) (σ1 := [(8, _), (1, _), (0, _)]) 4 rfl ⟨rfl, rfl, rfl, trivial⟩
  · intro hg1
    refine p_val rfl (ev_loadA Try.isAgg38 Try.sizeOf38 rfl rfl) (.on rfl rfl (beq_eq hg1)) rfl rfl ?_
    refine p_callq rfl (en_f Try.call12 rfl) (active_ok _ _ ⟨3, 1, 8⟩ cfg1) (.on rfl rfl (beq_eq hg1)) rfl rfl ?_
    refine p_val rfl (ev_cmp rfl rfl rfl) (.on rfl rfl (beq_eq hg1)) rfl rfl ?_
    refine p_val rfl (ev_pick_t rfl hg1 rfl) .free rfl rfl ?_
    exact p_seg rfl ⟨rfl, rfl, rfl, trivial⟩ (and_t hg1)
  · intro hg1
    refine p_skip rfl (.on rfl rfl (beq_ne hg1)) rfl ?_
    refine p_skip rfl (.on rfl rfl (beq_ne hg1)) rfl ?_
    refine p_skip rfl (.on rfl rfl (beq_ne hg1)) rfl ?_
    refine p_val rfl (ev_pick_f rfl hg1 rfl) .free rfl rfl ?_
    exact p_seg rfl ⟨rfl, rfl, rfl, trivial⟩ (and_f hg1)
  refine p_val rfl (ev_move rfl) .free rfl rfl ?_
  apply p_and (tp := 17) (t := 13) (σ1 := [(13, _), (1, _), (0, _)]) 4 rfl ⟨rfl, rfl, rfl, trivial⟩
  · intro hg2
    refine p_val rfl (ev_loadA Try.isAgg38 Try.sizeOf38 rfl rfl) (.on rfl rfl (beq_eq hg2)) rfl rfl ?_
    refine p_callq rfl (en_f Try.call46 rfl) (from_ok _ _ ⟨3, 1, 8⟩ cfg1 _ (by omega) (by omega)) (.on rfl rfl (beq_eq hg2)) rfl rfl ?_
    refine p_val rfl (ev_cmp rfl rfl rfl) (.on rfl rfl (beq_eq hg2)) rfl rfl ?_
    refine p_val rfl (ev_pick_t rfl hg2 rfl) .free rfl rfl ?_
    exact p_seg rfl ⟨rfl, rfl, rfl, trivial⟩ (and_t hg2)
  · intro hg2
    refine p_skip rfl (.on rfl rfl (beq_ne hg2)) rfl ?_
    refine p_skip rfl (.on rfl rfl (beq_ne hg2)) rfl ?_
    refine p_skip rfl (.on rfl rfl (beq_ne hg2)) rfl ?_
    refine p_val rfl (ev_pick_f rfl hg2 rfl) .free rfl rfl ?_
    exact p_seg rfl ⟨rfl, rfl, rfl, trivial⟩ (and_f hg2)
  refine p_val rfl (ev_move rfl) .free rfl rfl ?_
  apply p_and (tp := 22) (t := 18) (σ1 := [(18, _), (0, _)]) 4 rfl ⟨rfl, rfl, trivial⟩
  · intro hg3
    refine p_val rfl (ev_loadA Try.isAgg38 Try.sizeOf38 rfl rfl) (.on rfl rfl (beq_eq hg3)) rfl rfl ?_
    refine p_callq rfl (en_f Try.call13 rfl) (cwords_ok _ _ ⟨3, 1, 8⟩ cfg1) (.on rfl rfl (beq_eq hg3)) rfl rfl ?_
    refine p_val rfl (ev_cmp rfl rfl rfl) (.on rfl rfl (beq_eq hg3)) rfl rfl ?_
    refine p_val rfl (ev_pick_t rfl hg3 rfl) .free rfl rfl ?_
    exact p_seg rfl ⟨rfl, rfl, trivial⟩ (and_t hg3)
  · intro hg3
    refine p_skip rfl (.on rfl rfl (beq_ne hg3)) rfl ?_
    refine p_skip rfl (.on rfl rfl (beq_ne hg3)) rfl ?_
    refine p_skip rfl (.on rfl rfl (beq_ne hg3)) rfl ?_
    refine p_val rfl (ev_pick_f rfl hg3 rfl) .free rfl rfl ?_
    exact p_seg rfl ⟨rfl, rfl, trivial⟩ (and_f hg3)
  refine p_val rfl (ev_assign rfl) .free rfl rfl ?_
  refine p_nil ?_
  refine g_ret ?_
  exact ret_tmp Try.results78 rfl (fun w hw => ⟨ret_b (by decide +kernel), hw.tail⟩)

theorem hcheck_ok (B : World) (H : List HP) (x r : Int) :
    ∀ w, Holds B H w → Calls Try.prog 94 [.agg #[i64 x, i64 r]].toArray w (PureR B H (i64 (chkH x r))) := by
  refine fn_enter Try.func94 rfl Try.ntmps94 rfl ?_
  refine g_seq ?_
  refine g_region ?_
  refine p_chg rfl (ch_boxA rfl) .free rfl rfl ?_
  rintro _ _ ⟨b1, rfl, rfl⟩
  refine p_val rfl (ev_assign rfl) .free rfl rfl ?_
  refine p_nil ?_
  refine g_seq ?_
  refine g_seq ?_
  refine g_region ?_
  refine p_val rfl (ev_fa (m := _) fa_122_0 rfl rfl) .free rfl rfl ?_
  refine p_val rfl (ev_load Try.isAgg3 rfl rfl) .free rfl rfl ?_
  refine p_val rfl (ev_cmp rfl rfl rfl) .free rfl rfl ?_
  refine p_val rfl (ev_move rfl) .free rfl rfl ?_
  apply p_or (tp := 10) (t := 6) (σ1 := [(6, _), (2, _), (1, _)]) 4 rfl ⟨rfl, rfl, rfl, trivial⟩
  · intro hg1
    refine p_val rfl (ev_fa (m := _) fa_122_0 rfl rfl) (.on rfl rfl (beq_eq hg1)) rfl rfl ?_
    refine p_val rfl (ev_load Try.isAgg3 rfl rfl) (.on rfl rfl (beq_eq hg1)) rfl rfl ?_
    refine p_val rfl (ev_cmp rfl rfl rfl) (.on rfl rfl (beq_eq hg1)) rfl rfl ?_
    refine p_val rfl (ev_pick_f rfl hg1 rfl) .free rfl rfl ?_
    exact p_seg rfl ⟨rfl, rfl, rfl, trivial⟩ (or_f hg1)
  · intro hg1
    refine p_skip rfl (.on rfl rfl (beq_ne hg1)) rfl ?_
    refine p_skip rfl (.on rfl rfl (beq_ne hg1)) rfl ?_
    refine p_skip rfl (.on rfl rfl (beq_ne hg1)) rfl ?_
    refine p_val rfl (ev_pick_t rfl hg1 rfl) .free rfl rfl ?_
    exact p_seg rfl ⟨rfl, rfl, rfl, trivial⟩ (or_t hg1)
  refine p_val rfl (ev_move rfl) .free rfl rfl ?_
  apply p_or (tp := 15) (t := 11) (σ1 := [(11, _), (2, _), (1, _)]) 4 rfl ⟨rfl, rfl, rfl, trivial⟩
  · intro hg2
    refine p_val rfl (ev_fa (m := _) fa_122_1 rfl rfl) (.on rfl rfl (beq_eq hg2)) rfl rfl ?_
    refine p_val rfl (ev_load Try.isAgg3 rfl rfl) (.on rfl rfl (beq_eq hg2)) rfl rfl ?_
    refine p_val rfl (ev_cmp rfl rfl rfl) (.on rfl rfl (beq_eq hg2)) rfl rfl ?_
    refine p_val rfl (ev_pick_f rfl hg2 rfl) .free rfl rfl ?_
    exact p_seg rfl ⟨rfl, rfl, rfl, trivial⟩ (or_f hg2)
  · intro hg2
    refine p_skip rfl (.on rfl rfl (beq_ne hg2)) rfl ?_
    refine p_skip rfl (.on rfl rfl (beq_ne hg2)) rfl ?_
    refine p_skip rfl (.on rfl rfl (beq_ne hg2)) rfl ?_
    refine p_val rfl (ev_pick_t rfl hg2 rfl) .free rfl rfl ?_
    exact p_seg rfl ⟨rfl, rfl, rfl, trivial⟩ (or_t hg2)
  refine p_val rfl (ev_move rfl) .free rfl rfl ?_
  apply p_or (tp := 22) (t := 16) (σ1 := [(16, _), (2, _)]) 6 rfl ⟨rfl, rfl, trivial⟩
  · intro hg3
    refine p_val rfl (ev_fa (m := _) fa_122_1 rfl rfl) (.on rfl rfl (beq_eq hg3)) rfl rfl ?_
    refine p_val rfl (ev_load Try.isAgg3 rfl rfl) (.on rfl rfl (beq_eq hg3)) rfl rfl ?_
    refine p_val rfl (ev_fa (m := _) fa_122_0 rfl rfl) (.on rfl rfl (beq_eq hg3)) rfl rfl ?_
    refine p_val rfl (ev_load Try.isAgg3 rfl rfl) (.on rfl rfl (beq_eq hg3)) rfl rfl ?_
    refine p_val rfl (ev_cmp rfl rfl rfl) (.on rfl rfl (beq_eq hg3)) rfl rfl ?_
    refine p_val rfl (ev_pick_f rfl hg3 rfl) .free rfl rfl ?_
    exact p_seg rfl ⟨rfl, rfl, trivial⟩ (or_f hg3)
  · intro hg3
    refine p_skip rfl (.on rfl rfl (beq_ne hg3)) rfl ?_
    refine p_skip rfl (.on rfl rfl (beq_ne hg3)) rfl ?_
    refine p_skip rfl (.on rfl rfl (beq_ne hg3)) rfl ?_
    refine p_skip rfl (.on rfl rfl (beq_ne hg3)) rfl ?_
    refine p_skip rfl (.on rfl rfl (beq_ne hg3)) rfl ?_
    refine p_val rfl (ev_pick_t rfl hg3 rfl) .free rfl rfl ?_
    exact p_seg rfl ⟨rfl, rfl, trivial⟩ (or_t hg3)
  refine p_nil ?_
  refine g_if rfl (fun h22 => ?_) (fun h22 => ?_)
  · try simp only [decide_eq_true_eq, decide_eq_false_iff_not, Bool.not_eq_true', Bool.not_eq_false', Bool.or_eq_true, Bool.and_eq_true, Bool.and_eq_false_iff, Bool.or_eq_false_iff, beq_iff_eq, bne_iff_ne, beq_eq_false_iff_ne, bne_eq_false_iff_eq, ge_iff_le, gt_iff_lt, ne_eq] at h22
    refine g_seq ?_
    refine g_region ?_
    refine p_val rfl (ev_assign rfl) .free rfl rfl ?_
    refine p_nil ?_
    refine g_ret ?_
    exact ret_tmp Try.results94 rfl (fun w hw => ⟨by unfold chkH; rw [if_neg (by omega)], hw.tail⟩)
  · try simp only [decide_eq_true_eq, decide_eq_false_iff_not, Bool.not_eq_true', Bool.not_eq_false', Bool.or_eq_true, Bool.and_eq_true, Bool.and_eq_false_iff, Bool.or_eq_false_iff, beq_iff_eq, bne_iff_ne, beq_eq_false_iff_ne, bne_eq_false_iff_eq, ge_iff_le, gt_iff_lt, ne_eq] at h22
    refine g_skip ?_
    refine g_seq ?_
    refine g_region ?_
    refine p_val rfl (ev_assign rfl) .free rfl rfl ?_
    refine p_nil ?_
    refine g_ret ?_
    exact ret_tmp Try.results94 rfl (fun w hw => ⟨by unfold chkH; rw [if_pos (by omega)], hw.tail⟩)

theorem hpack_ok (B : World) (H : List HP) (x r : Int) :
    ∀ w, Holds B H w → Calls Try.prog 81 [.agg #[i64 x, i64 r]].toArray w (PureR B H (w64 (packI x r))) := by
  refine fn_enter Try.func81 rfl Try.ntmps81 rfl ?_
  refine g_seq ?_
  refine g_region ?_
  refine p_chg rfl (ch_boxA rfl) .free rfl rfl ?_
  rintro _ _ ⟨b1, rfl, rfl⟩
  refine p_val rfl (ev_assign rfl) .free rfl rfl ?_
  refine p_nil ?_
  refine g_seq ?_
  refine g_region ?_
  refine p_val rfl (ev_fa (m := _) fa_122_1 rfl rfl) .free rfl rfl ?_
  refine p_val rfl (ev_load Try.isAgg3 rfl rfl) .free rfl rfl ?_
  first | refine p_val rfl (ev_conv Try.runUnderlying3 Try.runUnderlying46 rfl (wru64 (by omega))) .free rfl rfl ?_ | refine p_val rfl (ev_conv Try.runUnderlying3 Try.runUnderlying46 rfl rfl) .free rfl rfl ?_
  first | refine p_val rfl (ev_shl rfl rfl (by decide) rfl) .free rfl rfl ?_ | refine p_val rfl (ev_shl rfl rfl (by omega) rfl) .free rfl rfl ?_
  refine p_val rfl (ev_or rfl rfl rfl) .free rfl rfl ?_
  refine p_val rfl (ev_fa (m := _) fa_122_0 rfl rfl) .free rfl rfl ?_
  refine p_val rfl (ev_load Try.isAgg3 rfl rfl) .free rfl rfl ?_
  first | refine p_val rfl (ev_conv Try.runUnderlying3 Try.runUnderlying46 rfl (wru64 (by omega))) .free rfl rfl ?_ | refine p_val rfl (ev_conv Try.runUnderlying3 Try.runUnderlying46 rfl rfl) .free rfl rfl ?_
  refine p_val rfl (ev_or rfl rfl rfl) .free rfl rfl ?_
  refine p_val rfl (ev_assign rfl) .free rfl rfl ?_
  refine p_nil ?_
  refine go_sub (σ' := [(2, _)]) ⟨rfl, trivial⟩ ?_
  refine g_ret ?_
  exact ret_tmp Try.results81 rfl (fun w hw => ⟨rfl, hw.tail⟩)

theorem hsize_ok (B : World) (H : List HP) (x r : Int) (h : 0 ≤ x ∧ x ≤ 1000000) :
    ∀ w, Holds B H w → Calls Try.prog 80 [.agg #[i64 x, i64 r]].toArray w (PureR B H (i64 (x + 1))) := by
  refine fn_enter Try.func80 rfl Try.ntmps80 rfl ?_
  refine g_seq ?_
  refine g_region ?_
  refine p_chg rfl (ch_boxA rfl) .free rfl rfl ?_
  rintro _ _ ⟨b1, rfl, rfl⟩
  refine p_val rfl (ev_assign rfl) .free rfl rfl ?_
  refine p_nil ?_
  refine g_seq ?_
  refine g_region ?_
  refine p_val rfl (ev_fa (m := _) fa_122_0 rfl rfl) .free rfl rfl ?_
  refine p_val rfl (ev_load Try.isAgg3 rfl rfl) .free rfl rfl ?_
  first | refine p_val rfl (ev_add rfl rfl (wr64 (by omega))) .free rfl rfl ?_ | refine p_val rfl (ev_add rfl rfl rfl) .free rfl rfl ?_
  refine p_val rfl (ev_assign rfl) .free rfl rfl ?_
  refine p_nil ?_
  refine g_ret ?_
  exact ret_tmp Try.results80 rfl (fun w hw => ⟨rfl, hw.tail⟩)

theorem unpack_ok (B : World) (H : List HP) (v : Int) :
    ∀ w, Holds B H w → Calls Try.prog 79 [w64 v].toArray w (PureR B H (.tuple #[.agg #[i64 (unp v).1, i64 (unp v).2.1], .bool (unp v).2.2])) := by
  refine fn_enter Try.func79 rfl Try.ntmps79 rfl ?_
  refine g_seq ?_
  refine g_region ?_
  refine p_chg rfl (ch_allocA Try.zeroValue122 rfl) .free rfl rfl ?_
  rintro _ _ ⟨b2, rfl, rfl⟩
  refine p_val rfl (ev_assign rfl) .free rfl rfl ?_
  refine p_nil ?_
  refine g_seq ?_
  refine g_region ?_
  refine p_val rfl (ev_move rfl) .free rfl rfl ?_
  refine p_val rfl (ev_conv Try.runUnderlying46 Try.runUnderlying135 rfl rfl) .free rfl rfl ?_
  first | refine p_val rfl (ev_conv Try.runUnderlying135 Try.runUnderlying3 rfl (wr64 (by omega))) .free rfl rfl ?_ | refine p_val rfl (ev_conv Try.runUnderlying135 Try.runUnderlying3 rfl rfl) .free rfl rfl ?_
  refine p_val rfl (ev_move rfl) .free rfl rfl ?_
  first | refine p_val rfl (ev_shr rfl rfl (by decide) rfl) .free rfl rfl ?_ | refine p_val rfl (ev_shr rfl rfl (by omega) rfl) .free rfl rfl ?_
  refine p_val rfl (ev_and rfl rfl rfl) .free rfl rfl ?_
  first | refine p_val rfl (ev_conv Try.runUnderlying46 Try.runUnderlying3 rfl (wr64 (by omega))) .free rfl rfl ?_ | refine p_val rfl (ev_conv Try.runUnderlying46 Try.runUnderlying3 rfl rfl) .free rfl rfl ?_
  refine p_val rfl (ev_build rfl (bld_122_0_1 _ _ rfl rfl)) .free rfl rfl ?_
  refine p_chg rfl (ch_allocA Try.zeroValue122 rfl) .free rfl rfl ?_
  rintro _ _ ⟨b4, rfl, rfl⟩
  refine p_chg0 rfl (ch_storeA (vs := _) Try.sizeOf122 rfl rfl rfl rfl rfl) .free rfl ?_
  rintro _ _ rfl
  refine p_nil ?_
  refine go_sub (σ' := [(4, _), (3, _), (2, _), (0, _)]) ⟨rfl, rfl, rfl, rfl, trivial⟩ ?_
  refine g_seq ?_
  refine g_seq ?_
  refine g_region ?_
  refine p_val rfl (ev_loadA Try.isAgg122 Try.sizeOf122 rfl rfl) .free rfl rfl ?_
  refine p_callq rfl (en_f Try.call94 rfl) (hcheck_ok _ _ (unpW v) (unpR v)) .free rfl rfl ?_
  refine p_val rfl (ev_cmp rfl rfl rfl) .free rfl rfl ?_
  refine p_val rfl (ev_move rfl) .free rfl rfl ?_
  apply p_or (tp := 21) (t := 16) (σ1 := [(16, _), (4, _), (3, _), (2, _)]) 5 rfl ⟨rfl, rfl, rfl, rfl, trivial⟩
  · intro hg1
    refine p_val rfl (ev_loadA Try.isAgg122 Try.sizeOf122 rfl rfl) (.on rfl rfl (beq_eq hg1)) rfl rfl ?_
    refine p_callq rfl (en_f Try.call81 rfl) (hpack_ok _ _ (unpW v) (unpR v)) (.on rfl rfl (beq_eq hg1)) rfl rfl ?_
    refine p_val rfl (ev_move rfl) (.on rfl rfl (beq_eq hg1)) rfl rfl ?_
    refine p_val rfl (ev_cmp rfl rfl rfl) (.on rfl rfl (beq_eq hg1)) rfl rfl ?_
    refine p_val rfl (ev_pick_f rfl hg1 rfl) .free rfl rfl ?_
    exact p_seg rfl ⟨rfl, rfl, rfl, rfl, trivial⟩ (or_f hg1)
  · intro hg1
    refine p_skip rfl (.on rfl rfl (beq_ne hg1)) rfl ?_
    refine p_skip rfl (.on rfl rfl (beq_ne hg1)) rfl ?_
    refine p_skip rfl (.on rfl rfl (beq_ne hg1)) rfl ?_
    refine p_skip rfl (.on rfl rfl (beq_ne hg1)) rfl ?_
    refine p_val rfl (ev_pick_t rfl hg1 rfl) .free rfl rfl ?_
    exact p_seg rfl ⟨rfl, rfl, rfl, rfl, trivial⟩ (or_t hg1)
  refine p_nil ?_
  refine g_if rfl (fun h21 => ?_) (fun h21 => ?_)
  · have hbad : ¬ (chkH (unpW v) (unpR v) = 0 ∧ packI (unpW v) (unpR v) = v) := by
      rintro ⟨q1, q2⟩
      rw [q1, q2] at h21; simp at h21
    refine g_seq ?_
    refine g_region ?_
    refine p_val rfl (ev_build rfl (bld_122)) .free rfl rfl ?_
    refine p_chg0 rfl (ch_storeA (vs := _) Try.sizeOf122 rfl rfl rfl rfl rfl) .free rfl ?_
    rintro _ _ rfl
    refine p_val rfl (ev_assign rfl) .free rfl rfl ?_
    refine p_nil ?_
    refine g_ret ?_
    exact ret_2 Try.results79 (.cellA rfl Try.isAgg122 Try.sizeOf122 rfl rfl) (.tmp rfl) (fun w hw => ⟨by unfold unp; rw [if_neg hbad]; rfl, hw.tail.tail⟩)
  · have hgd : chkH (unpW v) (unpR v) = 0 ∧ packI (unpW v) (unpR v) = v := by simpa using h21
    refine g_skip ?_
    refine g_seq ?_
    refine g_region ?_
    refine p_val rfl (ev_loadA Try.isAgg122 Try.sizeOf122 rfl rfl) .free rfl rfl ?_
    refine p_chg0 rfl (ch_storeA (vs := _) Try.sizeOf122 rfl rfl rfl rfl rfl) .free rfl ?_
    rintro _ _ rfl
    refine p_val rfl (ev_assign rfl) .free rfl rfl ?_
    refine p_nil ?_
    refine g_ret ?_
    exact ret_2 Try.results79 (.cellA rfl Try.isAgg122 Try.sizeOf122 rfl rfl) (.tmp rfl) (fun w hw => ⟨by unfold unp; rw [if_pos hgd]; rfl, hw.tail.tail⟩)

theorem awake4_ok (B : World) (H : List HP) :
    ∀ w, Holds B H w → Calls Try.prog 71 [].toArray w (PureR B H (.bool true)) := by
  refine fn_enter Try.func71 rfl Try.ntmps71 rfl ?_
  refine g_seq ?_
  refine g_region ?_
  refine p_val rfl (ev_assign rfl) .free rfl rfl ?_
  refine p_nil ?_
  refine g_seq ?_
  refine g_seq ?_
  refine g_region ?_
  refine p_callq rfl (en_f Try.call78 rfl) (awake3_ok _ _) .free rfl rfl ?_
  refine p_val rfl (ev_not rfl) .free rfl rfl ?_
  refine p_nil ?_
  refine g_iff rfl (rfl) ?_
  refine g_skip ?_
  refine g_seq ?_
  refine g_region ?_
  refine p_callq rfl (en_f Try.call79 rfl) (unpack_ok _ _ _) .free rfl rfl ?_
  refine p_val rfl (ev_move rfl) .free rfl rfl ?_
  refine p_val rfl (ev_ext rfl rfl) .free rfl rfl ?_
  refine p_val rfl (ev_ext rfl rfl) .free rfl rfl ?_
  refine p_chg rfl (ch_allocA Try.zeroValue122 rfl) .free rfl rfl ?_
  rintro _ _ ⟨b1, rfl, rfl⟩
  refine p_chg0 rfl (ch_storeA (vs := _) Try.sizeOf122 rfl rfl rfl rfl rfl) .free rfl ?_
  rintro _ _ rfl
  refine p_val rfl (ev_assign rfl) .free rfl rfl ?_
  refine p_nil ?_
  refine g_seq ?_
  refine g_region ?_
  refine p_val rfl (ev_move rfl) .free rfl rfl ?_
  refine p_val rfl (ev_move rfl) .free rfl rfl ?_
  apply p_and (tp := 14) (t := 10) (σ1 := [(10, _), (1, _), (0, _)]) 4 rfl ⟨rfl, rfl, rfl, trivial⟩
  · intro hg1
    refine p_val rfl (ev_fa (m := _) fa_122_0 rfl rfl) (.on rfl rfl (beq_eq hg1)) rfl rfl ?_
    refine p_val rfl (ev_load Try.isAgg3 rfl rfl) (.on rfl rfl (beq_eq hg1)) rfl rfl ?_
    refine p_val rfl (ev_cmp rfl rfl rfl) (.on rfl rfl (beq_eq hg1)) rfl rfl ?_
    refine p_val rfl (ev_pick_t rfl hg1 rfl) .free rfl rfl ?_
    exact p_seg rfl ⟨rfl, rfl, rfl, trivial⟩ (and_t hg1)
  · intro hg1
    refine p_skip rfl (.on rfl rfl (beq_ne hg1)) rfl ?_
    refine p_skip rfl (.on rfl rfl (beq_ne hg1)) rfl ?_
    refine p_skip rfl (.on rfl rfl (beq_ne hg1)) rfl ?_
    refine p_val rfl (ev_pick_f rfl hg1 rfl) .free rfl rfl ?_
    exact p_seg rfl ⟨rfl, rfl, rfl, trivial⟩ (and_f hg1)
  refine p_val rfl (ev_move rfl) .free rfl rfl ?_
  apply p_and (tp := 19) (t := 15) (σ1 := [(15, _), (1, _), (0, _)]) 4 rfl ⟨rfl, rfl, rfl, trivial⟩
  · intro hg2
    refine p_val rfl (ev_fa (m := _) fa_122_1 rfl rfl) (.on rfl rfl (beq_eq hg2)) rfl rfl ?_
    refine p_val rfl (ev_load Try.isAgg3 rfl rfl) (.on rfl rfl (beq_eq hg2)) rfl rfl ?_
    refine p_val rfl (ev_cmp rfl rfl rfl) (.on rfl rfl (beq_eq hg2)) rfl rfl ?_
    refine p_val rfl (ev_pick_t rfl hg2 rfl) .free rfl rfl ?_
    exact p_seg rfl ⟨rfl, rfl, rfl, trivial⟩ (and_t hg2)
  · intro hg2
    refine p_skip rfl (.on rfl rfl (beq_ne hg2)) rfl ?_
    refine p_skip rfl (.on rfl rfl (beq_ne hg2)) rfl ?_
    refine p_skip rfl (.on rfl rfl (beq_ne hg2)) rfl ?_
    refine p_val rfl (ev_pick_f rfl hg2 rfl) .free rfl rfl ?_
    exact p_seg rfl ⟨rfl, rfl, rfl, trivial⟩ (and_f hg2)
  refine p_val rfl (ev_move rfl) .free rfl rfl ?_
  apply p_and (tp := 24) (t := 20) (σ1 := [(20, _), (1, _), (0, _)]) 4 rfl ⟨rfl, rfl, rfl, trivial⟩
  · intro hg3
    refine p_val rfl (ev_loadA Try.isAgg122 Try.sizeOf122 rfl rfl) (.on rfl rfl (beq_eq hg3)) rfl rfl ?_
    refine p_callq rfl (en_f Try.call80 rfl) (hsize_ok _ _ _ _ ⟨by decide, by decide⟩) (.on rfl rfl (beq_eq hg3)) rfl rfl ?_
    refine p_val rfl (ev_cmp rfl rfl rfl) (.on rfl rfl (beq_eq hg3)) rfl rfl ?_
    refine p_val rfl (ev_pick_t rfl hg3 rfl) .free rfl rfl ?_
    exact p_seg rfl ⟨rfl, rfl, rfl, trivial⟩ (and_t hg3)
  · intro hg3
    refine p_skip rfl (.on rfl rfl (beq_ne hg3)) rfl ?_
    refine p_skip rfl (.on rfl rfl (beq_ne hg3)) rfl ?_
    refine p_skip rfl (.on rfl rfl (beq_ne hg3)) rfl ?_
    refine p_val rfl (ev_pick_f rfl hg3 rfl) .free rfl rfl ?_
    exact p_seg rfl ⟨rfl, rfl, rfl, trivial⟩ (and_f hg3)
  refine p_val rfl (ev_move rfl) .free rfl rfl ?_
  apply p_and (tp := 29) (t := 25) (σ1 := [(25, _), (0, _)]) 4 rfl ⟨rfl, rfl, trivial⟩
  · intro hg4
    refine p_val rfl (ev_loadA Try.isAgg122 Try.sizeOf122 rfl rfl) (.on rfl rfl (beq_eq hg4)) rfl rfl ?_
    refine p_callq rfl (en_f Try.call81 rfl) (hpack_ok _ _ _ _) (.on rfl rfl (beq_eq hg4)) rfl rfl ?_
    refine p_val rfl (ev_cmp rfl rfl rfl) (.on rfl rfl (beq_eq hg4)) rfl rfl ?_
    refine p_val rfl (ev_pick_t rfl hg4 rfl) .free rfl rfl ?_
    exact p_seg rfl ⟨rfl, rfl, trivial⟩ (and_t hg4)
  · intro hg4
    refine p_skip rfl (.on rfl rfl (beq_ne hg4)) rfl ?_
    refine p_skip rfl (.on rfl rfl (beq_ne hg4)) rfl ?_
    refine p_skip rfl (.on rfl rfl (beq_ne hg4)) rfl ?_
    refine p_val rfl (ev_pick_f rfl hg4 rfl) .free rfl rfl ?_
    exact p_seg rfl ⟨rfl, rfl, trivial⟩ (and_f hg4)
  refine p_val rfl (ev_assign rfl) .free rfl rfl ?_
  refine p_nil ?_
  refine g_ret ?_
  exact ret_tmp Try.results71 rfl (fun w hw => ⟨ret_b (by decide +kernel), hw.tail⟩)

end Go.Proofs.Ytbhpbnedocdneaa
