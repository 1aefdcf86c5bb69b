/- Handle tables. Conditions: none. -/
import Derived.Test.YtbfheafpecgphaaGreatMpd
import Derived.Test.YtbfheafpecgphaaGreatSup
import Derived.Test.YtbfheafpecgphaaGreatKyi
import Derived.Test.YtbfheafpecgphaaGreatRch
set_option linter.unusedSimpArgs false
set_option linter.unusedVariables false
set_option linter.unnecessarySimpa false
set_option linter.unusedSectionVars false
namespace Go.Proofs.YtbfheafpecgphaaGreat
set_option linter.unusedSimpArgs false
set_option linter.unusedVariables false
open Go
/-- A table: places by number, numbers by place, the last number. -/
structure TabS where
  at_ : List (Int × Int)
  no : List (Int × Int)
  last : Int
def TabA (b : Nat) (T : TabS) : HP := hex fun (x : Nat × Nat) => grp [row b [.map (some x.1), .map (some x.2), i64 T.last] 139, mapA .i64 i64 x.1 T.at_, mapA .i64 i64 x.2 T.no]
theorem go_tab {B : World} {n : Nat} {D : List Deferred} {σ : Env} {b : Nat} {T : TabS} {Fr : List HP} {K : Act → World → Prop} (h : ∀ b1 b2, GO B n D σ (row b [.map (some b1), .map (some b2), i64 T.last] 139 :: mapA .i64 i64 b1 T.at_ :: mapA .i64 i64 b2 T.no :: Fr) K) : GO B n D σ (TabA b T :: Fr) K := fun a w st => by
  obtain ⟨x, hx⟩ := st.holds.hex
  exact h _ _ a w ⟨st.toStA, hx.grp⟩
theorem tab_holds {B : World} {b b1 b2 : Nat} {T : TabS} {Fr : List HP} {w : World} (h : Holds B (row b [.map (some b1), .map (some b2), i64 T.last] 139 :: mapA .i64 i64 b1 T.at_ :: mapA .i64 i64 b2 T.no :: Fr) w) : Holds B (TabA b T :: Fr) w :=
  Holds.unhex (b1, b2) (Holds.ungrp (l := [row b [.map (some b1), .map (some b2), i64 T.last] 139, mapA .i64 i64 b1 T.at_, mapA .i64 i64 b2 T.no]) h)

theorem hnew_ok (B : World) (H : List HP) :
    ∀ w, Holds B H w → Calls Tryz.prog 30 [].toArray w (Ret B (fun rv H' => ∃ b, rv = ptr b ∧ H' = TabA b ⟨[], [], 0⟩ :: H) (fun _ _ => False)) := by
  refine fn_enter Tryz.func30 rfl Tryz.ntmps30 rfl ?_; refine g_seq ?_; refine g_region ?_; refine kPa rfl rfl ?_; refine p_nil ?_; refine g_seq ?_; refine g_region ?_; refine p_chg rfl (ch_makeMap .i64 i64) .free rfl rfl ?_
  rintro _ _ ⟨b1, rfl, rfl⟩
  refine p_chg rfl (ch_makeMap .i64 i64) .free rfl rfl ?_
  rintro _ _ ⟨b2, rfl, rfl⟩
  refine p_val rfl (ev_build rfl (bld_139_0_1 _ _ (by first | rfl | assumption) (by first | rfl | assumption))) .free rfl rfl ?_; refine p_chg rfl (ch_boxA rfl) .free rfl rfl ?_
  rintro _ _ ⟨b4, rfl, rfl⟩
  refine kPa rfl rfl ?_; refine p_nil ?_; refine g_ret ?_
  exact ret_tmp Tryz.results30 rfl (fun w hh => ⟨_, ⟨_, rfl, rfl⟩, tab_holds (T := ⟨[], [], 0⟩) ((hh.front 2 rfl).back 1 (by simp))⟩)

theorem hplace_ok (B : World) (Fr : List HP) (b : Nat) (T : TabS) (n : Int) :
    ∀ w, Holds B (TabA b T :: Fr) w → Calls Tryz.prog 61 [ptr b, i64 n].toArray w (PureR B (TabA b T :: Fr) (.tuple #[i64 ((mget T.at_ n).getD 0), .bool (mget T.at_ n).isSome])) := by
  refine fn_enter Tryz.func61 rfl Tryz.ntmps61 rfl ?_; refine go_tab fun b1 b2 => ?_; refine g_seq ?_; refine g_region ?_; refine kPa rfl rfl ?_; refine kPa rfl rfl ?_; refine p_nil ?_; refine g_seq ?_; refine g_region ?_; refine kPm rfl rfl ?_
  first | refine kPv (ev_nil rfl) rfl ?_ | refine kPv (ev_nilf rfl) rfl ?_
  refine kPv (ev_fa (m := _) fa_139_0 rfl rfl) rfl ?_; refine kPv (ev_load Tryz.isAgg69 rfl rfl) rfl ?_; refine kPm rfl rfl ?_; refine kPv ((ev_lookup2 Tryz.runUnderlying69 Tryz.runUnderlying3 Tryz.zeroValue3 rfl rfl).eq (congrArg (fun v => Value.tuple #[v, .bool _]) (mval_i _))) rfl ?_; refine kPm rfl rfl ?_; refine kPv (ev_ext rfl rfl) rfl ?_; refine kPv (ev_ext rfl rfl) rfl ?_; refine kPa rfl rfl ?_; refine kPa rfl rfl ?_; refine p_nil ?_
  refine go_sub (σ' := [(7, _), (6, _), (5, _), (4, _)]) ⟨rfl, rfl, rfl, rfl, trivial⟩ ?_; refine g_seq ?_; refine g_region ?_; refine kPm rfl rfl ?_; refine kPm rfl rfl ?_; refine kPa rfl rfl ?_; refine kPa rfl rfl ?_; refine p_nil ?_; refine g_ret ?_
  exact ret_tmp2 Tryz.results61 rfl rfl (fun w hh => ⟨rfl, tab_holds hh⟩)

theorem hdrop_ok (B : World) (Fr : List HP) (b : Nat) (T : TabS) (n : Int) :
    ∀ w, Holds B (TabA b T :: Fr) w → Calls Tryz.prog 32 [ptr b, i64 n].toArray w (Ret B (fun rv H' => rv = .bool (mget T.at_ n).isSome ∧ H' = TabA b ⟨mdel T.at_ n, if (mget T.at_ n).isSome = true then mdel T.no ((mget T.at_ n).getD 0) else T.no, T.last⟩ :: Fr) (fun _ _ => False)) := by
  refine fn_enter Tryz.func32 rfl Tryz.ntmps32 rfl ?_; refine go_tab fun b1 b2 => ?_; refine g_seq ?_; refine g_region ?_; refine kPa rfl rfl ?_; refine p_nil ?_; refine g_seq ?_; refine g_region ?_; refine kPm rfl rfl ?_
  first | refine kPv (ev_nil rfl) rfl ?_ | refine kPv (ev_nilf rfl) rfl ?_
  refine kPv (ev_fa (m := _) fa_139_0 rfl rfl) rfl ?_; refine kPv (ev_load Tryz.isAgg69 rfl rfl) rfl ?_; refine kPm rfl rfl ?_; refine kPv ((ev_lookup2 Tryz.runUnderlying69 Tryz.runUnderlying3 Tryz.zeroValue3 rfl rfl).eq (congrArg (fun v => Value.tuple #[v, .bool _]) (mval_i _))) rfl ?_; refine kPm rfl rfl ?_; refine kPv (ev_ext rfl rfl) rfl ?_; refine kPv (ev_ext rfl rfl) rfl ?_; refine kPa rfl rfl ?_; refine kPa rfl rfl ?_; refine p_nil ?_
  refine go_sub (σ' := [(6, _), (5, _), (4, _), (0, _), (1, _)]) ⟨rfl, rfl, rfl, rfl, rfl, trivial⟩ ?_; refine g_seq ?_; refine g_region ?_; refine kPm rfl rfl ?_
  first | refine kPv (ev_nil rfl) rfl ?_ | refine kPv (ev_nilf rfl) rfl ?_
  refine kPv (ev_fa (m := _) fa_139_0 rfl rfl) rfl ?_; refine kPv (ev_load Tryz.isAgg69 rfl rfl) rfl ?_; refine kPm rfl rfl ?_; refine p_chg0 rfl (ch_delete rfl Tryz.runUnderlying69 Tryz.runUnderlying3 rfl rfl) .free rfl ?_
  rintro _ _ rfl
  refine p_nil ?_; refine g_seq ?_; refine g_seq ?_; refine g_region ?_; refine kPm rfl rfl ?_; refine p_nil ?_
  refine g_if rfl (fun h21 => ?_) (fun h21 => ?_)
  · try simp only [decide_eq_true_eq, decide_eq_false_iff_not, Bool.not_eq_true', Bool.not_eq_false', Bool.or_eq_true, Bool.and_eq_true, Bool.and_eq_false_iff, Bool.or_eq_false_iff, beq_iff_eq, bne_iff_ne, beq_eq_false_iff_ne, bne_eq_false_iff_eq, ge_iff_le, gt_iff_lt, ne_eq] at h21
    refine g_region ?_; refine kPm rfl rfl ?_
    first | refine kPv (ev_nil rfl) rfl ?_ | refine kPv (ev_nilf rfl) rfl ?_
    refine kPv (ev_fa (m := _) fa_139_1 rfl rfl) rfl ?_; refine kPv (ev_load Tryz.isAgg69 rfl rfl) rfl ?_; refine kPm rfl rfl ?_; refine p_chg0 rfl (ch_delete rfl Tryz.runUnderlying69 Tryz.runUnderlying3 rfl rfl) .free rfl ?_
    rintro _ _ rfl
    refine p_nil ?_; refine go_sub (σ' := [(6, _), (4, _)]) ⟨rfl, rfl, trivial⟩ ?_; refine g_seq ?_; refine g_region ?_; refine kPm rfl rfl ?_; refine kPa rfl rfl ?_; refine p_nil ?_; refine g_ret ?_
    exact ret_tmp Tryz.results32 rfl (fun w hh => ⟨_, ⟨rfl, rfl⟩, by rw [if_pos h21]; exact tab_holds hh⟩)
  · try simp only [decide_eq_true_eq, decide_eq_false_iff_not, Bool.not_eq_true', Bool.not_eq_false', Bool.or_eq_true, Bool.and_eq_true, Bool.and_eq_false_iff, Bool.or_eq_false_iff, beq_iff_eq, bne_iff_ne, beq_eq_false_iff_ne, bne_eq_false_iff_eq, ge_iff_le, gt_iff_lt, ne_eq] at h21
    refine g_skip ?_; refine g_seq ?_; refine g_region ?_; refine kPm rfl rfl ?_; refine kPa rfl rfl ?_; refine p_nil ?_; refine go_sub (σ' := [(4, _)]) ⟨rfl, trivial⟩ ?_; refine g_ret ?_
    exact ret_tmp Tryz.results32 rfl (fun w hh => ⟨_, ⟨rfl, rfl⟩, by rw [if_neg (by rw [h21]; decide)]; exact tab_holds hh⟩)


theorem mset_new {α : Type} {k : Int} {z u : α} : ∀ {l : List (Int × α)}, (∀ p ∈ l, p.1 ≠ k) → mset (l ++ [(k, z)]) k u = l ++ [(k, u)]
  | [], _ => by simp [mset]
  | p :: l, h => by
    simp only [List.cons_append, mset]
    rw [if_neg (h p (List.mem_cons_self ..)), mset_new fun q hq => h q (List.mem_cons_of_mem _ hq)]
theorem mset_entry {α : Type} {k : Int} {z u : α} {l : List (Int × α)} : mset (mentry l k z) k u = mset l k u := by
  unfold mentry
  cases hc : mfind l k 0 with
  | none => rw [mfind_none hc]; exact mset_new (mfind_notin hc)
  | some v => rfl
/-- A place's number: that which it has, or a new one. -/
def TabS.take (T : TabS) (p : Int) : Int × TabS :=
  if p = 0 then (0, T) else if (mget T.no p).isSome = true then ((mget T.no p).getD 0, T)
  else (T.last + 1, ⟨mset T.at_ (T.last + 1) p, mset T.no p (T.last + 1), T.last + 1⟩)

theorem htake_ok (B : World) (Fr : List HP) (b : Nat) (T : TabS) (p : Int) (hT : 0 ≤ T.last ∧ T.last ≤ 1000000000) :
    ∀ w, Holds B (TabA b T :: Fr) w → Calls Tryz.prog 31 [ptr b, i64 p].toArray w (Ret B (fun rv H' => rv = i64 (T.take p).1 ∧ H' = TabA b (T.take p).2 :: Fr) (fun _ _ => False)) := by
  refine fn_enter Tryz.func31 rfl Tryz.ntmps31 rfl ?_; refine go_tab fun b1 b2 => ?_; refine g_seq ?_; refine g_region ?_; refine kPa rfl rfl ?_; refine p_nil ?_; refine g_seq ?_; refine g_seq ?_; refine g_region ?_; refine kPm rfl rfl ?_; refine kPv (ev_cmp rfl rfl rfl) rfl ?_; refine p_nil ?_
  refine g_if rfl (fun h8 => ?_) (fun h8 => ?_)
  · have hk : p = 0 := by simpa using h8
    have hres : T.take p = (0, T) := by unfold TabS.take; rw [if_pos hk]
    refine g_seq ?_; refine g_region ?_; refine kPa rfl rfl ?_; refine p_nil ?_; refine g_ret ?_
    exact ret_tmp Tryz.results31 rfl (fun w hh => ⟨_, ⟨by rw [hres], rfl⟩, by rw [hres]; exact tab_holds hh⟩)
  · have hk : ¬ p = 0 := by simpa using h8
    refine g_skip ?_; refine g_seq ?_; refine g_seq ?_; refine g_region ?_; refine kPm rfl rfl ?_
    first | refine kPv (ev_nil rfl) rfl ?_ | refine kPv (ev_nilf rfl) rfl ?_
    refine kPv (ev_fa (m := _) fa_139_1 rfl rfl) rfl ?_; refine kPv (ev_load Tryz.isAgg69 rfl rfl) rfl ?_; refine kPm rfl rfl ?_; refine kPv ((ev_lookup2 Tryz.runUnderlying69 Tryz.runUnderlying3 Tryz.zeroValue3 rfl rfl).eq (congrArg (fun v => Value.tuple #[v, .bool _]) (mval_i _))) rfl ?_; refine kPm rfl rfl ?_; refine kPv (ev_ext rfl rfl) rfl ?_; refine kPv (ev_ext rfl rfl) rfl ?_; refine kPa rfl rfl ?_; refine kPa rfl rfl ?_; refine p_nil ?_
    refine go_sub (σ' := [(6, _), (5, _), (4, _), (0, _), (1, _)]) ⟨rfl, rfl, rfl, rfl, rfl, trivial⟩ ?_; refine g_seq ?_; refine g_region ?_; refine kPm rfl rfl ?_; refine p_nil ?_
    refine g_if rfl (fun h18 => ?_) (fun h18 => ?_)
    · have hres : T.take p = ((mget T.no p).getD 0, T) := by unfold TabS.take; rw [if_neg hk, if_pos h18]
      refine g_seq ?_; refine g_region ?_; refine kPm rfl rfl ?_; refine kPa rfl rfl ?_; refine p_nil ?_; refine g_ret ?_
      exact ret_tmp Tryz.results31 rfl (fun w hh => ⟨_, ⟨by rw [hres]; rfl, rfl⟩, by rw [hres]; exact tab_holds hh⟩)
    · have hres : T.take p = (T.last + 1, ⟨mset T.at_ (T.last + 1) p, mset T.no p (T.last + 1), T.last + 1⟩) := by unfold TabS.take; rw [if_neg hk, if_neg (by rw [h18]; decide)]
      refine g_skip ?_; refine g_seq ?_; refine g_region ?_; refine kPm rfl rfl ?_
      first | refine kPv (ev_nil rfl) rfl ?_ | refine kPv (ev_nilf rfl) rfl ?_
      refine kPv (ev_fa (m := _) fa_139_2 rfl rfl) rfl ?_; refine kPv (ev_load Tryz.isAgg3 rfl rfl) rfl ?_
      first | refine p_val rfl (ev_add rfl rfl (wr64 (by omega))) .free rfl rfl ?_ | refine p_val rfl (ev_add rfl rfl rfl) .free rfl rfl ?_
      first | refine kPv (ev_nil rfl) rfl ?_ | refine kPv (ev_nilf rfl) rfl ?_
      refine kPv (ev_fa (m := _) fa_139_2 rfl rfl) rfl ?_; refine p_chg0 rfl (ch_store Tryz.sizeOf3 rfl rfl rfl rfl) .free rfl ?_
      rintro _ _ rfl
      refine p_nil ?_; refine go_sub (σ' := [(4, _), (0, _), (1, _)]) ⟨rfl, rfl, rfl, trivial⟩ ?_; refine g_seq ?_; refine g_drawv [0, 1, 2, 3, 4, 5, 6, 7, 8, 9, 10, 11, 12, 13, 14, 15, 16, 17, 18, 19, 20, 21, 22, 23] [18, 20, 21, 23] [12, 13] [18, 20] [] Tryz.mixed (by kernel_rfl) ?_; refine v_val rfl rfl rfl (ev_move rfl) .free rfl ?_
      first | refine v_val rfl rfl rfl (ev_nil rfl) .free rfl ?_ | refine v_val rfl rfl rfl (ev_nilf rfl) .free rfl ?_
      refine v_val rfl rfl rfl (ev_fa (m := _) fa_139_0 rfl rfl) .free rfl ?_; refine v_val rfl rfl rfl (ev_load Tryz.isAgg69 rfl rfl) .free rfl ?_; refine v_val rfl rfl rfl (ev_move rfl) .free rfl ?_
      first | refine v_val rfl rfl rfl (ev_nil rfl) .free rfl ?_ | refine v_val rfl rfl rfl (ev_nilf rfl) .free rfl ?_
      refine v_val rfl rfl rfl (ev_fa (m := _) fa_139_2 rfl rfl) .free rfl ?_; refine v_val rfl rfl rfl (ev_load Tryz.isAgg3 rfl rfl) .free rfl ?_; refine v_val rfl rfl rfl (ev_move rfl) .free rfl ?_
      first | refine v_val rfl rfl rfl (ev_nil rfl) .free rfl ?_ | refine v_val rfl rfl rfl (ev_nilf rfl) .free rfl ?_
      refine v_val rfl rfl rfl (ev_fa (m := _) fa_139_1 rfl rfl) .free rfl ?_; refine v_val rfl rfl rfl (ev_load Tryz.isAgg69 rfl rfl) .free rfl ?_; refine v_hoist rfl rfl rfl (ev_move rfl) .free rfl ?_; refine v_hoist rfl rfl rfl (ev_move rfl) .free rfl ?_; refine v_val rfl rfl rfl (ev_move rfl) .free rfl ?_
      first | refine v_val rfl rfl rfl (ev_nil rfl) .free rfl ?_ | refine v_val rfl rfl rfl (ev_nilf rfl) .free rfl ?_
      refine v_val rfl rfl rfl (ev_fa (m := _) fa_139_2 rfl rfl) .free rfl ?_; refine v_val rfl rfl rfl (ev_load Tryz.isAgg3 rfl rfl) .free rfl ?_; refine v_mark rfl rfl ?_; refine go_front 1 rfl ?_
      simp only [List.eraseIdx_cons_succ, List.eraseIdx_cons_zero]
      refine p_chg rfl (ch_mapentry (u0 := (0 : Int)) Tryz.runUnderlying69 Tryz.runUnderlying3 Tryz.zeroValue3 rfl rfl) .free rfl rfl ?_
      rintro _ _ ⟨z1, st1, rfl, rfl⟩
      refine p_nil ?_; refine v_on ?_; refine v_val rfl rfl rfl (ev_ext rfl rfl) .free rfl ?_; refine v_mark rfl rfl ?_; refine p_chg0 rfl (ch_entrystore rfl rfl rfl rfl) .free rfl ?_
      rintro _ _ rfl
      refine p_nil ?_; refine v_on ?_; refine v_mark rfl rfl ?_; refine go_front 2 rfl ?_
      simp only [List.eraseIdx_cons_succ, List.eraseIdx_cons_zero]
      refine p_chg rfl (ch_mapentry (u0 := (0 : Int)) Tryz.runUnderlying69 Tryz.runUnderlying3 Tryz.zeroValue3 rfl rfl) .free rfl rfl ?_
      rintro _ _ ⟨z2, st2, rfl, rfl⟩
      refine p_nil ?_; refine v_off rfl ?_; refine v_val rfl rfl rfl (ev_ext rfl rfl) .free rfl ?_; refine v_mark rfl rfl ?_; refine p_chg0 rfl (ch_entrystore rfl rfl rfl rfl) .free rfl ?_
      rintro _ _ rfl
      refine p_nil ?_; refine v_off rfl ?_; refine v_nil ?_; refine go_sub (σ' := [(4, _), (0, _)]) ⟨rfl, rfl, trivial⟩ ?_; refine g_seq ?_; refine g_region ?_; refine kPm rfl rfl ?_
      first | refine kPv (ev_nil rfl) rfl ?_ | refine kPv (ev_nilf rfl) rfl ?_
      refine kPv (ev_fa (m := _) fa_139_2 rfl rfl) rfl ?_; refine kPv (ev_load Tryz.isAgg3 rfl rfl) rfl ?_; refine kPa rfl rfl ?_; refine p_nil ?_; refine g_ret ?_
      exact ret_tmp Tryz.results31 rfl (fun w hh => ⟨_, ⟨by rw [hres], rfl⟩, by rw [hres]; rw [mset_entry, mset_entry] at hh; exact tab_holds (T := ⟨_, _, _⟩) ((hh.front 1 rfl).front 2 rfl)⟩)

theorem hnumbers_ok (B : World) (Fr : List HP) (b : Nat) (T : TabS) (hTl : T.at_.length ≤ 1000000) :
    ∀ w, Holds B (TabA b T :: Fr) w → Calls Tryz.prog 56 [ptr b].toArray w (Ret B (fun rv H' => H' = AccV 0 (rv, sortI (T.at_.map Prod.fst)) :: TabA b T :: Fr) (fun _ _ => False)) := by
  refine fn_enter Tryz.func56 rfl Tryz.ntmps56 rfl ?_; refine go_tab fun b1 b2 => ?_; refine g_seq ?_; refine g_region ?_; refine kPa rfl rfl ?_; refine p_nil ?_; refine g_seq ?_; refine g_region ?_; refine kPm rfl rfl ?_
  first | refine kPv (ev_nil rfl) rfl ?_ | refine kPv (ev_nilf rfl) rfl ?_
  refine kPv (ev_fa (m := _) fa_139_0 rfl rfl) rfl ?_; refine kPv (ev_load Tryz.isAgg69 rfl rfl) rfl ?_
  refine p_call rfl (en_f Tryz.call96 rfl) (mkeysi_ok _ _ _) .free rfl rfl ?_ ?_
  rotate_left
  · rintro _ _ ⟨⟩
  rintro _ _ ⟨bb, rfl, rfl⟩
  refine go_conv (H' := row bb [.map (some b1)] 69 :: mapA .i64 i64 b1 T.at_ :: row b [.map (some b1), .map (some b2), i64 T.last] 139 :: mapA .i64 i64 b2 T.no :: Fr) (fun w hh => (hh.front 2 rfl).back 1 (by simp)) ?_
  refine p_call rfl (en_f Tryz.call95 rfl) (sortedi_ok _ _ b1 bb T.at_ hTl) .free rfl rfl ?_ ?_
  rotate_left
  · rintro _ _ ⟨⟩
  rintro v8 _ rfl
  refine kPa rfl rfl ?_; refine p_nil ?_; refine go_sub (σ' := [(2, _)]) ⟨rfl, trivial⟩ ?_; refine g_ret ?_
  exact ret_tmp Tryz.results56 rfl (fun w hh => ⟨_, rfl, Holds.front (A := AccV 0 (v8, sortI (T.at_.map Prod.fst))) (tab_holds (T := T) (((hh.front 3 rfl).front 2 rfl).front 3 rfl)) 1 rfl⟩)

end Go.Proofs.YtbfheafpecgphaaGreat
