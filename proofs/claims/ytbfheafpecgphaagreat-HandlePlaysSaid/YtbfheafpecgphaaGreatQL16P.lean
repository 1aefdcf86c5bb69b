/- The law HandlePlays. Conditions: none. -/
import Derived.Test.YtbfheafpecgphaaGreatQL16Pm
set_option linter.unusedSimpArgs false
set_option linter.unusedVariables false
set_option linter.unnecessarySimpa false
set_option linter.unusedSectionVars false
namespace Go.Proofs.YtbfheafpecgphaaGreat
set_option linter.unusedSimpArgs false
set_option linter.unusedVariables false
open Go

theorem mvp_ok (B : World) (Fr : List HP) (b17 b16 b15 mr : Nat) (e : List (Int × Int)) (g b p : Int) (hb : 0 ≤ b ∧ b ≤ 4) (hp : 0 ≤ p ∧ p ≤ 100000) :
    ∀ w, Holds B (mapA .i64 i64 mr e :: row b17 [.map (some mr)] 69 :: row b16 [i64 g] 3 :: row b15 [i64 b] 3 :: Fr) w → Calls Tryz.prog 64 [i64 p, ptr b17, ptr b16, ptr b15].toArray w (Ret B (fun rv H' => rv = i64 (mvt b g p) ∧ H' = mapA .i64 i64 mr (askS p e) :: row b17 [.map (some mr)] 69 :: row b16 [i64 g] 3 :: row b15 [i64 b] 3 :: Fr) (fun _ _ => False)) := by
  refine fn_enter Tryz.func64 rfl Tryz.ntmps64 rfl ?_; refine g_seq ?_; refine g_region ?_; refine kPa rfl rfl ?_; refine p_nil ?_; refine g_seq ?_; refine g_seq ?_; refine g_region ?_; refine kPv (ev_load Tryz.isAgg69 rfl rfl) rfl ?_; refine kPm rfl rfl ?_; refine kPv ((ev_lookup1 Tryz.runUnderlying69 Tryz.runUnderlying3 Tryz.zeroValue3 rfl rfl).eq (mval_i _)) rfl ?_; refine kPv (ev_add rfl rfl rfl) rfl ?_
  refine p_chg0 rfl (ch_mapset (enc := i64) Tryz.runUnderlying69 Tryz.runUnderlying3 rfl rfl rfl rfl) .free rfl ?_
  rintro _ _ rfl
  refine p_nil ?_; refine g_seq ?_; refine g_region ?_; refine kPm rfl rfl ?_; refine kPv (ev_load Tryz.isAgg3 rfl rfl) rfl ?_; refine kPv (ev_cmp rfl rfl rfl) rfl ?_; refine p_nil ?_; refine go_sub (σ' := [(12, _), (5, _), (0, _), (3, _)]) ⟨rfl, rfl, rfl, rfl, trivial⟩ ?_
  refine g_if rfl (fun h12 => ?_) (fun h12 => ?_)
  · have h12' : p = g := by simpa using h12
    refine g_seq ?_; refine g_region ?_; refine kPa rfl rfl ?_; refine p_nil ?_; refine g_ret ?_
    exact ret_tmp Tryz.results64 rfl (fun w hh => ⟨_, ⟨by unfold mvt; rw [if_pos h12'], rfl⟩, hh⟩)
  · have h12' : ¬ p = g := by simpa using h12
    refine g_skip ?_; refine g_seq ?_; refine g_region ?_; refine kPm rfl rfl ?_; refine kPv (ev_load Tryz.isAgg3 rfl rfl) rfl ?_
    first | refine p_val rfl (ev_add rfl rfl (wr64 (by omega))) .free rfl rfl ?_ | refine p_val rfl (ev_add rfl rfl rfl) .free rfl rfl ?_
    refine kPa rfl rfl ?_; refine p_nil ?_; refine g_ret ?_
    exact ret_tmp Tryz.results64 rfl (fun w hh => ⟨_, ⟨by unfold mvt; rw [if_neg h12'], rfl⟩, hh⟩)

theorem mvpF (B : World) (b17 b16 b15 mr : Nat) (g b : Int) (hb : 0 ≤ b ∧ b ≤ 4) : MoveF B 64 [] [ptr b17, ptr b16, ptr b15] (List (Int × Int)) (fun e => [mapA .i64 i64 mr e, row b17 [.map (some mr)] 69, row b16 [i64 g] 3, row b15 [i64 b] 3]) (fun p => 0 ≤ p ∧ p ≤ 100000) (mvt b g) askS where
  enter := Tryz.call64
  says := fun Fr p e hp w hh => mvp_ok B Fr b17 b16 b15 mr e g b p hb hp w hh
theorem hmovedP (B : World) (Fr : List HP) (tb : Nat) (T : TabS) (b17 b16 b15 mr : Nat) (g b : Int) (hb : 0 ≤ b ∧ b ≤ 4) (hok : ∀ p ∈ T.at_, 0 ≤ p.2 ∧ p.2 ≤ 100000) :
    ∀ w, Holds B (TabA tb T :: mapA .i64 i64 mr [] :: row b17 [.map (some mr)] 69 :: row b16 [i64 g] 3 :: row b15 [i64 b] 3 :: Fr) w → Calls Tryz.prog 58 [ptr tb, .func (.func 64) #[] [ptr b17, ptr b16, ptr b15].toArray].toArray w (Ret B (fun _ H' => ∃ ord : List (Int × Int), ord.Perm T.at_ ∧ H' = TabA tb (TabS.moved (mvt b g) T.last ord) :: mapA .i64 i64 mr (ord.foldl (fun e (p : Int × Int) => askS p.2 e) []) :: row b17 [.map (some mr)] 69 :: row b16 [i64 g] 3 :: row b15 [i64 b] 3 :: Fr) (fun _ _ => False)) :=
  fun w hh => hmoved_ok B Fr tb T _ [] _ _ _ _ _ _ (mvpF B b17 b16 b15 mr g b hb) hok [] w hh

theorem handlePlays_ok (B : World) (Fr : List HP) [HasOld Fr B] (q : Option Addr) (n cap : Nat) (A : Nat → Int × Int × Int) (hn : n ≤ 9223372036854775807) (hA : ∀ i, i < n → 0 ≤ (A i).1 ∧ (A i).1 ≤ 255 ∧ 0 ≤ (A i).2.1 ∧ (A i).2.1 ≤ 255 ∧ 0 ≤ (A i).2.2 ∧ (A i).2.2 ≤ 255) (ha : ArgRow B q n 3 (fun i => [.int .u8 (A i).1, .int .u8 (A i).2.1, .int .u8 (A i).2.2])) :
    ∀ w, Holds B Fr w → Calls Tryz.prog 10 [.slice q n cap].toArray w (PureR B Fr (.bool true)) := by
  refine fn_enter Tryz.func10 rfl Tryz.ntmps10 rfl ?_; refine g_seq ?_; refine g_region ?_; refine kPa rfl rfl ?_; refine p_nil ?_; refine g_seq ?_; refine g_seq ?_; refine g_region ?_; refine p_callq rfl (en_f Tryz.call29 rfl) (awake16_ok _ _) .free rfl rfl ?_; refine kPv (ev_not rfl) rfl ?_; refine p_nil ?_; refine g_iff rfl (rfl) ?_; refine g_skip ?_; refine g_seq ?_; refine g_seq ?_; refine g_region ?_; refine kPm rfl rfl ?_; refine kPv (ev_len rfl Tryz.runUnderlying101 ⟨_, rfl⟩ rfl) rfl ?_
  refine kPv (ev_cmp rfl rfl rfl) rfl ?_; refine p_nil ?_
  refine g_if rfl (fun h28 => ?_) (fun h28 => ?_)
  · try simp only [decide_eq_true_eq, decide_eq_false_iff_not, Bool.not_eq_true', Bool.not_eq_false', Bool.or_eq_true, Bool.and_eq_true, Bool.and_eq_false_iff, Bool.or_eq_false_iff, beq_iff_eq, bne_iff_ne, beq_eq_false_iff_ne, bne_eq_false_iff_eq, ge_iff_le, gt_iff_lt, ne_eq] at h28
    refine g_seq ?_; refine g_region ?_; refine kPa rfl rfl ?_; refine p_nil ?_; refine g_ret ?_
    exact ret_tmp Tryz.results10 rfl (fun w hh => ⟨rfl, hh⟩)
  · have hn80 : n ≤ 80 := by simp at h28; omega
    refine g_skip ?_; refine g_seq ?_; refine g_region ?_
    refine p_call rfl (en_f Tryz.call30 rfl) (hnew_ok _ _) .free rfl rfl ?_ ?_
    rotate_left
    · rintro _ _ ⟨⟩
    rintro _ _ ⟨tb, rfl, rfl⟩
    refine kPa rfl rfl ?_; refine p_nil ?_; refine g_seq ?_; refine g_region ?_; refine kPa rfl rfl ?_; refine p_nil ?_; refine g_seq ?_; refine g_region ?_; refine kPa rfl rfl ?_; refine p_nil ?_; refine g_seq ?_; refine g_seq ?_; refine go_conv (fun w hh => vec_nil (T := 3) (enc := i64) hh) ?_; refine g_region ?_; refine kPm rfl rfl ?_; refine kPv (ev_len rfl Tryz.runUnderlying101 ⟨_, rfl⟩ rfl) rfl ?_; refine kPm rfl rfl ?_; refine p_nil ?_
    refine go_sub (σ' := [(32, _), (31, _), (30, _), (5, _), (4, _), (3, _), (2, _)]) ⟨rfl, rfl, rfl, rfl, rfl, rfl, rfl, trivial⟩ ?_; refine g_block ?_
    refine g_loopk (ι := Nat × Int × Value × List Int × TabS) [31, 30, 3, 2] (fun (k, ln, sv, P, T) => (k ≤ n) ∧ (ln = P.length) ∧ (P.length ≤ k) ∧ (PlI T P k) ∧ (cell1 sv = true)) (fun (k, ln, sv, P, T) => [(32, i64 k), (4, i64 ln), (5, sv)]) (fun (k, ln, sv, P, T) => TabA tb T :: VecA 3 i64 0 (sv, P) :: Fr) (fun (k, ln, sv, P, T) => n - k) (0, 0, .slice none 0 0, [], ⟨[], [], 0⟩) (⟨Nat.zero_le _, rfl, Nat.zero_le _, pl_nil, rfl⟩) (fun a w st => st.to ⟨rfl, rfl, rfl, trivial⟩ (fun hh => (hh.pk [1]))) ?_
    rintro ⟨k, ln, sv, P, T⟩ ⟨hk0, hln, hPl, hR, hsv⟩
    try simp only at hk0 hln hPl hR hsv ⊢
    refine go_sub (σ' := [(32, i64 k), (4, i64 ln), (5, sv), (31, _), (30, _), (3, _), (2, _)]) ⟨rfl, rfl, rfl, rfl, rfl, rfl, rfl, trivial⟩ ?_; refine g_seq ?_; refine g_region ?_; refine kPv (ev_cmp rfl rfl rfl) rfl ?_; refine p_nil ?_; refine g_seq ?_
    refine g_if rfl (fun h33 => ?_) (fun h33 => ?_)
    · have hk : k < n := by simp at h33; omega
      have hAk := hA k hk
      refine go_pk [1] ?_; refine go_vecq fun qp cp hqp hqi => ?_
      subst hqp
      obtain ⟨bq, oq, hqb⟩ : ∃ b o, 0 < P.length → qp = some ⟨b, o, none⟩ := by
        by_cases h : 0 < P.length
        · obtain ⟨b, o, e⟩ := hqi 0 h; exact ⟨b, o, fun _ => e⟩
        · exact ⟨0, 0, fun h' => absurd h' h⟩
      refine go_pk [1, 0] ?_
      subst hln
      have hmd := Int.emod_nonneg (A k).2.1 (b := (P.length : Int) + 3) (by omega)
      have hmd2 := Int.emod_lt_of_pos (A k).2.1 (b := (P.length : Int) + 3) (by omega)
      refine g_skip ?_; refine g_seq ?_; refine g_block ?_; refine g_seq ?_; refine g_region ?_
      obtain ⟨bA, oA, rfl, hz, hqa⟩ := ha.cell k hk
      refine kPv (ev_ia Tryz.runUnderlying101 Tryz.sizeOf103 rfl rfl (by omega) (by omega) rfl) rfl ?_; refine kPv (ev_loadOA (cs := [.int .u8 (A k).1, .int .u8 (A k).2.1, .int .u8 (A k).2.2]) Tryz.isAgg103 Tryz.sizeOf103 rfl rfl (fun j hj => by rw [Int.toNat_natCast, Nat.add_assoc]; exact hqa j hj)) rfl ?_
      refine p_chg rfl (ch_allocA Tryz.zeroValue103 rfl) .free rfl rfl ?_
      rintro _ _ ⟨b7, rfl, rfl⟩
      refine p_chg0 rfl (ch_storeA (vs := [.int .u8 (A k).1, .int .u8 (A k).2.1, .int .u8 (A k).2.2]) Tryz.sizeOf103 rfl rfl rfl rfl rfl) .free rfl ?_
      rintro _ _ rfl
      refine go_conv (H' := row b7 [.int .u8 (A k).1, .int .u8 (A k).2.1, .int .u8 (A k).2.2] 103 :: _) (fun w hh => hh) ?_; refine p_nil ?_; refine g_seq ?_; refine g_region ?_; refine kPv (ev_fa (m := _) fa_103_1 rfl rfl) rfl ?_; refine kPv (ev_load Tryz.isAgg5 rfl rfl) rfl ?_; refine kPv (ev_rem (c := (A k).2.1 % 12) rfl rfl (by decide) (rem_e (12) (by omega))) rfl ?_
      first | refine p_val rfl (ev_conv Tryz.runUnderlying5 Tryz.runUnderlying3 rfl (wr64 (by omega))) .free rfl rfl ?_ | refine p_val rfl (ev_conv Tryz.runUnderlying5 Tryz.runUnderlying3 rfl rfl) .free rfl rfl ?_
      refine kPa rfl rfl ?_; refine p_nil ?_; refine go_sub (σ' := [(8, _), (7, _), (32, _), (4, _), (5, _), (31, _), (30, _), (3, _), (2, _)]) ⟨rfl, rfl, rfl, rfl, rfl, rfl, rfl, rfl, rfl, trivial⟩ ?_; refine g_seq ?_; refine g_seq ?_; refine g_region ?_; refine kPv (ev_fa (m := _) fa_103_0 rfl rfl) rfl ?_; refine kPv (ev_load Tryz.isAgg5 rfl rfl) rfl ?_; refine kPv (ev_rem (c := (A k).1 % 6) rfl rfl (by decide) (rem_e (6) (by omega))) rfl ?_; refine p_nil ?_
      refine g_join (ι := Int × Value × List Int × TabS) [32, 31, 30, 3, 2] (fun (ln2, sv2, P2, T2) => (ln2 = P2.length) ∧ (P2.length ≤ k + 1) ∧ (PlI T2 P2 (k + 1)) ∧ (cell1 sv2 = true)) (fun (ln2, sv2, P2, T2) => [(4, i64 ln2), (5, sv2)]) (fun (ln2, sv2, P2, T2) => VecA 3 i64 0 (sv2, P2) :: TabA tb T2 :: Fr) ?_ ?_
      · skip
        refine g_seq ?_; refine g_region ?_; refine kPv (ev_cmp rfl rfl rfl) rfl ?_; refine kPa rfl rfl ?_; refine p_nil ?_
        refine g_if rfl (fun h63 => ?_) (fun h63 => ?_)
        · skip
          refine g_seq ?_; refine g_region ?_; refine kPv (ev_fa (m := _) fa_103_1 rfl rfl) rfl ?_; refine kPv (ev_load Tryz.isAgg5 rfl rfl) rfl ?_
          first | refine p_val rfl (ev_conv Tryz.runUnderlying5 Tryz.runUnderlying3 rfl (wr64 (by omega))) .free rfl rfl ?_ | refine p_val rfl (ev_conv Tryz.runUnderlying5 Tryz.runUnderlying3 rfl rfl) .free rfl rfl ?_
          refine kPm rfl rfl ?_
          first | refine p_val rfl (ev_add rfl rfl (wr64 (by omega))) .free rfl rfl ?_ | refine p_val rfl (ev_add rfl rfl rfl) .free rfl rfl ?_
          refine kPv (ev_rem (c := (A k).2.1 % ((P.length : Int) + 3)) rfl rfl (by omega) (rem_e (((P.length : Int) + 3)) (by omega))) rfl ?_
          first | refine p_val rfl (ev_sub rfl rfl (wr64 (by omega))) .free rfl rfl ?_ | refine p_val rfl (ev_sub rfl rfl rfl) .free rfl rfl ?_
          refine kPa rfl rfl ?_; refine p_nil ?_; refine go_sub (σ' := [(9, _), (32, _), (4, _), (5, _), (31, _), (30, _), (3, _), (2, _)]) ⟨rfl, rfl, rfl, rfl, rfl, rfl, rfl, rfl, trivial⟩ ?_; refine g_seq ?_; refine g_region ?_; refine kPm rfl rfl ?_; refine kPv (ev_cmp rfl rfl rfl) rfl ?_; refine kPm rfl rfl ?_
          apply p_and (tp := 78) (t := 74) (σ1 := [(74, _), (9, _), (32, _), (4, _), (5, _), (31, _), (30, _), (3, _), (2, _)]) 4 rfl ⟨rfl, rfl, rfl, rfl, rfl, rfl, rfl, rfl, rfl, trivial⟩
          · intro hg1
            refine p_val rfl (ev_move rfl) (.on rfl rfl (beq_eq hg1)) rfl rfl ?_; refine p_val rfl (ev_move rfl) (.on rfl rfl (beq_eq hg1)) rfl rfl ?_; refine p_val rfl (ev_cmp rfl rfl rfl) (.on rfl rfl (beq_eq hg1)) rfl rfl ?_; refine kPv (ev_pick_t rfl hg1 rfl) rfl ?_
            exact p_seg rfl ⟨rfl, rfl, rfl, rfl, rfl, rfl, rfl, rfl, rfl, trivial⟩ (and_t hg1)
          · intro hg1
            refine p_skip rfl (.on rfl rfl (beq_ne hg1)) rfl ?_; refine p_skip rfl (.on rfl rfl (beq_ne hg1)) rfl ?_; refine p_skip rfl (.on rfl rfl (beq_ne hg1)) rfl ?_; refine kPv (ev_pick_f rfl hg1 rfl) rfl ?_
            exact p_seg rfl ⟨rfl, rfl, rfl, rfl, rfl, rfl, rfl, rfl, rfl, trivial⟩ (and_f hg1)
          refine kPm rfl rfl ?_
          apply p_and (tp := 86) (t := 79) (σ1 := [(79, _), (9, _), (32, _), (4, _), (5, _), (31, _), (30, _), (3, _), (2, _)]) 7 rfl ⟨rfl, rfl, rfl, rfl, rfl, rfl, rfl, rfl, rfl, trivial⟩
          · intro hg2
            refine p_val rfl (ev_move rfl) (.on rfl rfl (beq_eq hg2)) rfl rfl ?_; refine p_val rfl (ev_move rfl) (.on rfl rfl (beq_eq hg2)) rfl rfl ?_
            first | refine p_val rfl (ev_sub rfl rfl (wr64 (by omega))) (.on rfl rfl (beq_eq hg2)) rfl rfl ?_ | refine p_val rfl (ev_sub rfl rfl rfl) (.on rfl rfl (beq_eq hg2)) rfl rfl ?_
            have hb9 : 1 ≤ ((A k).2.1 % ((P.length : Int) + 3) - 1) ∧ ((A k).2.1 % ((P.length : Int) + 3) - 1) ≤ P.length := by simpa using hg2
            refine p_val rfl (ev_iaS Tryz.runUnderlying34 Tryz.sizeOf3 (congrArg (fun z => some (Value.slice z P.length cp)) (hqb (by omega))) rfl (by omega) (by omega)) (.on rfl rfl (beq_eq hg2)) rfl rfl ?_
            refine p_val rfl (ev_loadS (v := i64 (P.getD (((A k).2.1 % ((P.length : Int) + 3) - 1) - 1).toNat 0)) Tryz.isAgg3 ((vec_slr 2 rfl).at (hqb (by omega))) rfl (by rw [List.getElem?_map, List.getD_eq_getElem?_getD, List.getElem?_eq_getElem (show (((A k).2.1 % ((P.length : Int) + 3) - 1) - 1).toNat < P.length by omega)]; rfl)) (.on rfl rfl (beq_eq hg2)) rfl rfl ?_
            refine p_val rfl (ev_cmp rfl rfl rfl) (.on rfl rfl (beq_eq hg2)) rfl rfl ?_; refine kPv (ev_pick_t rfl hg2 rfl) rfl ?_
            exact p_seg rfl ⟨rfl, rfl, rfl, rfl, rfl, rfl, rfl, rfl, rfl, trivial⟩ (and_t hg2)
          · intro hg2
            refine p_skip rfl (.on rfl rfl (beq_ne hg2)) rfl ?_; refine p_skip rfl (.on rfl rfl (beq_ne hg2)) rfl ?_; refine p_skip rfl (.on rfl rfl (beq_ne hg2)) rfl ?_; refine p_skip rfl (.on rfl rfl (beq_ne hg2)) rfl ?_; refine p_skip rfl (.on rfl rfl (beq_ne hg2)) rfl ?_; refine p_skip rfl (.on rfl rfl (beq_ne hg2)) rfl ?_; refine kPv (ev_pick_f rfl hg2 rfl) rfl ?_
            exact p_seg rfl ⟨rfl, rfl, rfl, rfl, rfl, rfl, rfl, rfl, rfl, trivial⟩ (and_f hg2)
          refine kPa rfl rfl ?_; refine p_nil ?_; refine g_seq ?_; refine g_seq ?_; refine g_region ?_; refine kPm rfl rfl ?_; refine kPm rfl rfl ?_; refine go_pk [1] ?_
          refine p_call rfl (en_f Tryz.call32 rfl) (hdrop_ok B _ tb T _) .free rfl rfl ?_ ?_
          rotate_left
          · rintro _ _ ⟨⟩
          rintro _ _ ⟨rfl, rfl⟩
          refine kPm rfl rfl ?_; refine kPv (ev_eqb Tryz.runUnderlying4 rfl rfl rfl) rfl ?_; refine p_nil ?_; refine g_iff rfl ((by rw [hR.is]; exact bne_self_eq_false _)) ?_
          refine g_skip ?_; refine g_seq ?_; refine g_region ?_; refine kPm rfl rfl ?_; refine p_nil ?_; refine go_sub (σ' := [(92, _), (9, _), (32, _), (4, _), (5, _), (31, _), (30, _), (3, _), (2, _)]) ⟨rfl, rfl, rfl, rfl, rfl, rfl, rfl, rfl, rfl, trivial⟩ ?_
          refine g_if rfl (fun h92 => ?_) (fun h92 => ?_)
          · have hip : isP P ((A k).2.1 % ((P.length : Int) + 3) - 1) = true := h92
            have hb9 := isP_iff.1 hip
            refine g_region ?_; refine kPm rfl rfl ?_; refine kPm rfl rfl ?_
            first | refine p_val rfl (ev_sub rfl rfl (wr64 (by omega))) .free rfl rfl ?_ | refine p_val rfl (ev_sub rfl rfl rfl) .free rfl rfl ?_
            refine kPv (ev_iaS Tryz.runUnderlying34 Tryz.sizeOf3 (congrArg (fun z => some (Value.slice z P.length cp)) (hqb (by omega))) rfl (by omega) (by omega)) rfl ?_; refine go_pk [2] ?_; refine p_chg0 rfl (ch_storeVec (i := (((A k).2.1 % ((P.length : Int) + 3) - 1) - 1).toNat) (v := 0) Tryz.sizeOf3 (hqb (by omega)) rfl rfl rfl (by omega)) .free rfl ?_
            rintro _ _ rfl
            refine p_nil ?_
            exact fun a w st_ => ⟨(P.length, .slice qp P.length cp, P.set (((A k).2.1 % ((P.length : Int) + 3) - 1) - 1).toNat 0, T.drop ((A k).2.1 % ((P.length : Int) + 3) - 1)), ⟨by simp, by simp; omega, (hR.drop hip).mono, rfl⟩, st_.to ⟨rfl, rfl, rfl, rfl, rfl, rfl, rfl, trivial⟩ (fun hh => (hh.dp [2]))⟩
          · have hip : isP P ((A k).2.1 % ((P.length : Int) + 3) - 1) = false := h92
            refine g_skip ?_
            exact fun a w st_ => ⟨(P.length, .slice qp P.length cp, P, T.drop ((A k).2.1 % ((P.length : Int) + 3) - 1)), ⟨rfl, by first | omega | (simp only; omega), (hR.drop_not hip).mono, rfl⟩, st_.to ⟨rfl, rfl, rfl, rfl, rfl, rfl, rfl, trivial⟩ (fun hh => ((hh.dp [1]).pk [1]))⟩
        · skip
          refine g_seq ?_; refine g_region ?_; refine kPv (ev_cmp rfl rfl rfl) rfl ?_; refine kPa rfl rfl ?_; refine p_nil ?_
          refine g_if rfl (fun h97 => ?_) (fun h97 => ?_)
          · skip
            refine g_seq ?_; refine g_region ?_; refine kPv (ev_fa (m := _) fa_103_1 rfl rfl) rfl ?_; refine kPv (ev_load Tryz.isAgg5 rfl rfl) rfl ?_
            first | refine p_val rfl (ev_conv Tryz.runUnderlying5 Tryz.runUnderlying3 rfl (wr64 (by omega))) .free rfl rfl ?_ | refine p_val rfl (ev_conv Tryz.runUnderlying5 Tryz.runUnderlying3 rfl rfl) .free rfl rfl ?_
            refine kPm rfl rfl ?_
            first | refine p_val rfl (ev_add rfl rfl (wr64 (by omega))) .free rfl rfl ?_ | refine p_val rfl (ev_add rfl rfl rfl) .free rfl rfl ?_
            refine kPv (ev_rem (c := (A k).2.1 % ((P.length : Int) + 3)) rfl rfl (by omega) (rem_e (((P.length : Int) + 3)) (by omega))) rfl ?_
            first | refine p_val rfl (ev_sub rfl rfl (wr64 (by omega))) .free rfl rfl ?_ | refine p_val rfl (ev_sub rfl rfl rfl) .free rfl rfl ?_
            refine kPa rfl rfl ?_; refine p_nil ?_; refine go_sub (σ' := [(11, _), (32, _), (4, _), (5, _), (31, _), (30, _), (3, _), (2, _)]) ⟨rfl, rfl, rfl, rfl, rfl, rfl, rfl, rfl, trivial⟩ ?_; refine g_seq ?_; refine go_pk [1] ?_; refine g_region ?_; refine kPm rfl rfl ?_; refine kPm rfl rfl ?_; refine p_callq rfl (en_f Tryz.call61 rfl) (hplace_ok B _ tb T _) .free rfl rfl ?_; refine kPm rfl rfl ?_; refine kPv (ev_ext rfl rfl) rfl ?_; refine kPv (ev_ext rfl rfl) rfl ?_; refine kPa rfl rfl ?_
            refine kPa rfl rfl ?_; refine p_nil ?_; refine g_seq ?_; refine g_region ?_; refine kPm rfl rfl ?_; refine kPv (ev_cmp rfl rfl rfl) rfl ?_; refine kPm rfl rfl ?_
            apply p_and (tp := 118) (t := 114) (σ1 := [(114, _), (13, _), (12, _), (11, _), (32, _), (4, _), (5, _), (31, _), (30, _), (3, _), (2, _)]) 4 rfl ⟨rfl, rfl, rfl, rfl, rfl, rfl, rfl, rfl, rfl, rfl, rfl, trivial⟩
            · intro hg3
              refine p_val rfl (ev_move rfl) (.on rfl rfl (beq_eq hg3)) rfl rfl ?_; refine p_val rfl (ev_move rfl) (.on rfl rfl (beq_eq hg3)) rfl rfl ?_; refine p_val rfl (ev_cmp rfl rfl rfl) (.on rfl rfl (beq_eq hg3)) rfl rfl ?_; refine kPv (ev_pick_t rfl hg3 rfl) rfl ?_
              exact p_seg rfl ⟨rfl, rfl, rfl, rfl, rfl, rfl, rfl, rfl, rfl, rfl, rfl, trivial⟩ (and_t hg3)
            · intro hg3
              refine p_skip rfl (.on rfl rfl (beq_ne hg3)) rfl ?_; refine p_skip rfl (.on rfl rfl (beq_ne hg3)) rfl ?_; refine p_skip rfl (.on rfl rfl (beq_ne hg3)) rfl ?_; refine kPv (ev_pick_f rfl hg3 rfl) rfl ?_
              exact p_seg rfl ⟨rfl, rfl, rfl, rfl, rfl, rfl, rfl, rfl, rfl, rfl, rfl, trivial⟩ (and_f hg3)
            refine kPm rfl rfl ?_
            apply p_and (tp := 126) (t := 119) (σ1 := [(119, _), (13, _), (12, _), (11, _), (32, _), (4, _), (5, _), (31, _), (30, _), (3, _), (2, _)]) 7 rfl ⟨rfl, rfl, rfl, rfl, rfl, rfl, rfl, rfl, rfl, rfl, rfl, trivial⟩
            · intro hg4
              refine p_val rfl (ev_move rfl) (.on rfl rfl (beq_eq hg4)) rfl rfl ?_; refine p_val rfl (ev_move rfl) (.on rfl rfl (beq_eq hg4)) rfl rfl ?_
              first | refine p_val rfl (ev_sub rfl rfl (wr64 (by omega))) (.on rfl rfl (beq_eq hg4)) rfl rfl ?_ | refine p_val rfl (ev_sub rfl rfl rfl) (.on rfl rfl (beq_eq hg4)) rfl rfl ?_
              have hb9 : 1 ≤ ((A k).2.1 % ((P.length : Int) + 3) - 1) ∧ ((A k).2.1 % ((P.length : Int) + 3) - 1) ≤ P.length := by simpa using hg4
              refine p_val rfl (ev_iaS Tryz.runUnderlying34 Tryz.sizeOf3 (congrArg (fun z => some (Value.slice z P.length cp)) (hqb (by omega))) rfl (by omega) (by omega)) (.on rfl rfl (beq_eq hg4)) rfl rfl ?_
              refine p_val rfl (ev_loadS (v := i64 (P.getD (((A k).2.1 % ((P.length : Int) + 3) - 1) - 1).toNat 0)) Tryz.isAgg3 ((vec_slr 2 rfl).at (hqb (by omega))) rfl (by rw [List.getElem?_map, List.getD_eq_getElem?_getD, List.getElem?_eq_getElem (show (((A k).2.1 % ((P.length : Int) + 3) - 1) - 1).toNat < P.length by omega)]; rfl)) (.on rfl rfl (beq_eq hg4)) rfl rfl ?_
              refine p_val rfl (ev_cmp rfl rfl rfl) (.on rfl rfl (beq_eq hg4)) rfl rfl ?_; refine kPv (ev_pick_t rfl hg4 rfl) rfl ?_
              exact p_seg rfl ⟨rfl, rfl, rfl, rfl, rfl, rfl, rfl, rfl, rfl, rfl, rfl, trivial⟩ (and_t hg4)
            · intro hg4
              refine p_skip rfl (.on rfl rfl (beq_ne hg4)) rfl ?_; refine p_skip rfl (.on rfl rfl (beq_ne hg4)) rfl ?_; refine p_skip rfl (.on rfl rfl (beq_ne hg4)) rfl ?_; refine p_skip rfl (.on rfl rfl (beq_ne hg4)) rfl ?_; refine p_skip rfl (.on rfl rfl (beq_ne hg4)) rfl ?_; refine p_skip rfl (.on rfl rfl (beq_ne hg4)) rfl ?_; refine kPv (ev_pick_f rfl hg4 rfl) rfl ?_
              exact p_seg rfl ⟨rfl, rfl, rfl, rfl, rfl, rfl, rfl, rfl, rfl, rfl, rfl, trivial⟩ (and_f hg4)
            refine kPa rfl rfl ?_; refine p_nil ?_; refine g_seq ?_; refine g_region ?_; refine kPm rfl rfl ?_; refine kPm rfl rfl ?_; refine kPv (ev_eqb Tryz.runUnderlying4 rfl rfl rfl) rfl ?_; refine kPm rfl rfl ?_; refine p_val rfl (ev_move rfl) (.on rfl rfl (beq_eq (by rw [hR.is]; exact bne_self_eq_false _))) rfl rfl ?_
            refine p_val rfl (ev_move rfl) (.on rfl rfl (beq_eq (by rw [hR.is]; exact bne_self_eq_false _))) rfl rfl ?_
            apply p_and (tp := 140) (t := 132) (σ1 := [(132, _), (130, _), (14, _), (12, _), (32, _), (4, _), (5, _), (31, _), (30, _), (3, _), (2, _)]) 8 rfl ⟨rfl, rfl, rfl, rfl, rfl, rfl, rfl, rfl, rfl, rfl, rfl, trivial⟩
            · intro hg5
              refine p_val rfl (ev_move rfl) (.on rfl rfl (beq_eq hg5)) rfl rfl ?_; refine p_val rfl (ev_move rfl) (.on rfl rfl (beq_eq hg5)) rfl rfl ?_; refine p_val rfl (ev_move rfl) (.on rfl rfl (beq_eq hg5)) rfl rfl ?_
              first | refine p_val rfl (ev_sub rfl rfl (wr64 (by omega))) (.on rfl rfl (beq_eq hg5)) rfl rfl ?_ | refine p_val rfl (ev_sub rfl rfl rfl) (.on rfl rfl (beq_eq hg5)) rfl rfl ?_
              have hb9 := (isP_iff.1 hg5).1
              refine p_val rfl (ev_iaS Tryz.runUnderlying34 Tryz.sizeOf3 (congrArg (fun z => some (Value.slice z P.length cp)) (hqb (by omega))) rfl (by omega) (by omega)) (.on rfl rfl (beq_eq hg5)) rfl rfl ?_
              refine p_val rfl (ev_loadS (v := i64 (P.getD (((A k).2.1 % ((P.length : Int) + 3) - 1) - 1).toNat 0)) Tryz.isAgg3 ((vec_slr 2 rfl).at (hqb (by omega))) rfl (by rw [List.getElem?_map, List.getD_eq_getElem?_getD, List.getElem?_eq_getElem (show (((A k).2.1 % ((P.length : Int) + 3) - 1) - 1).toNat < P.length by omega)]; rfl)) (.on rfl rfl (beq_eq hg5)) rfl rfl ?_
              refine p_val rfl (ev_cmp rfl rfl rfl) (.on rfl rfl (beq_eq hg5)) rfl rfl ?_; refine p_val rfl (ev_pick_t rfl hg5 rfl) (.on rfl rfl (beq_eq (by rw [hR.is]; exact bne_self_eq_false _))) rfl rfl ?_
              exact p_seg rfl ⟨rfl, rfl, rfl, rfl, rfl, rfl, rfl, rfl, rfl, rfl, rfl, trivial⟩ (and_t hg5)
            · intro hg5
              refine p_skip rfl (.on rfl rfl (beq_ne hg5)) rfl ?_; refine p_skip rfl (.on rfl rfl (beq_ne hg5)) rfl ?_; refine p_skip rfl (.on rfl rfl (beq_ne hg5)) rfl ?_; refine p_skip rfl (.on rfl rfl (beq_ne hg5)) rfl ?_; refine p_skip rfl (.on rfl rfl (beq_ne hg5)) rfl ?_; refine p_skip rfl (.on rfl rfl (beq_ne hg5)) rfl ?_; refine p_skip rfl (.on rfl rfl (beq_ne hg5)) rfl ?_
              refine p_val rfl (ev_pick_f rfl hg5 rfl) (.on rfl rfl (beq_eq (by rw [hR.is]; exact bne_self_eq_false _))) rfl rfl ?_
              exact p_seg rfl ⟨rfl, rfl, rfl, rfl, rfl, rfl, rfl, rfl, rfl, rfl, rfl, trivial⟩ (and_f hg5)
            refine kPv (ev_pick_f rfl (by rw [hR.is]; exact bne_self_eq_false _) rfl) rfl ?_
            refine kPm rfl rfl ?_
            apply p_or (tp := 149) (t := 142) (σ1 := [(142, _), (32, _), (4, _), (5, _), (31, _), (30, _), (3, _), (2, _)]) 7 rfl ⟨rfl, rfl, rfl, rfl, rfl, rfl, rfl, rfl, trivial⟩
            · intro hg6
              refine p_val rfl (ev_move rfl) (.on rfl rfl (beq_eq hg6)) rfl rfl ?_; refine p_val rfl (ev_not rfl) (.on rfl rfl (beq_eq hg6)) rfl rfl ?_; refine p_val rfl (ev_move rfl) (.on rfl rfl (beq_eq hg6)) rfl rfl ?_
              apply p_and (tp := 148) (t := 145) (σ1 := [(145, _), (142, _), (32, _), (4, _), (5, _), (31, _), (30, _), (3, _), (2, _)]) 3 rfl ⟨rfl, rfl, rfl, rfl, rfl, rfl, rfl, rfl, rfl, trivial⟩
              · intro hg7
                refine p_val rfl (ev_move rfl) (.on rfl rfl (beq_eq hg7)) rfl rfl ?_; refine p_val rfl (ev_cmp rfl rfl rfl) (.on rfl rfl (beq_eq hg7)) rfl rfl ?_; refine p_val rfl (ev_pick_t rfl hg7 rfl) (.on rfl rfl (beq_eq hg6)) rfl rfl ?_
                exact p_seg rfl ⟨rfl, rfl, rfl, rfl, rfl, rfl, rfl, rfl, rfl, trivial⟩ (and_t hg7)
              · intro hg7
                refine p_skip rfl (.on rfl rfl (beq_ne hg7)) rfl ?_; refine p_skip rfl (.on rfl rfl (beq_ne hg7)) rfl ?_; refine p_val rfl (ev_pick_f rfl hg7 rfl) (.on rfl rfl (beq_eq hg6)) rfl rfl ?_
                exact p_seg rfl ⟨rfl, rfl, rfl, rfl, rfl, rfl, rfl, rfl, rfl, trivial⟩ (and_f hg7)
              refine kPv (ev_pick_f rfl hg6 rfl) rfl ?_
              exact p_seg rfl ⟨rfl, rfl, rfl, rfl, rfl, rfl, rfl, rfl, trivial⟩ (or_f hg6)
            · intro hg6
              refine p_skip rfl (.on rfl rfl (beq_ne hg6)) rfl ?_; refine p_skip rfl (.on rfl rfl (beq_ne hg6)) rfl ?_; refine p_skip rfl (.on rfl rfl (beq_ne hg6)) rfl ?_; refine p_skip rfl (.und rfl rfl) rfl ?_; refine p_skip rfl (.und rfl rfl) rfl ?_; refine p_skip rfl (.on rfl rfl (beq_ne hg6)) rfl ?_; refine kPv (ev_pick_t rfl hg6 rfl) rfl ?_
              exact p_seg rfl ⟨rfl, rfl, rfl, rfl, rfl, rfl, rfl, rfl, trivial⟩ (or_t hg6)
            refine p_nil ?_; refine g_iff rfl ((hR.place _)) ?_; refine g_skip ?_
            exact fun a w st_ => ⟨(P.length, .slice qp P.length cp, P, T), ⟨rfl, by first | omega | (simp only; omega), hR.mono, rfl⟩, st_.to ⟨rfl, rfl, rfl, rfl, rfl, rfl, rfl, trivial⟩ (fun hh => ((hh.dp [1]).pk [1]))⟩
          · skip
            refine g_seq ?_; refine g_region ?_; refine kPv (ev_cmp rfl rfl rfl) rfl ?_; refine kPa rfl rfl ?_; refine p_nil ?_; refine go_sub (σ' := [(150, _), (8, _), (7, _), (32, _), (4, _), (5, _), (31, _), (30, _), (3, _), (2, _)]) ⟨rfl, rfl, rfl, rfl, rfl, rfl, rfl, rfl, rfl, rfl, trivial⟩ ?_
            refine g_if rfl (fun h150 => ?_) (fun h150 => ?_)
            · skip
              refine g_seq ?_
              refine g_drawT (.br [0, 1, 2, 3, 4, 5, 6, 7] 8 (.fin [9, 10, 11]) 9 (.fin [8, 10, 11])) [8, 9, 10, 11] [0, 1, 2, 3, 4, 5, 6, 7] [8, 9, 10] [row b7 [.int .u8 (A k).1, .int .u8 (A k).2.1, .int .u8 (A k).2.2] 103] [32, 4, 5, 31, 30, 3, 2] (G := Nat × Nat) (fun (b15, b16) => [(15, ptr b15), (16, ptr b16)]) (fun (b15, b16) => row b16 [i64 ((A k).2.2 % 12)] 3 :: row b15 [i64 ((A k).2.1 % 5)] 3 :: row b7 [.int .u8 (A k).1, .int .u8 (A k).2.1, .int .u8 (A k).2.2] 103 :: TabA tb T :: VecA 3 i64 0 (.slice qp P.length cp, P) :: Fr) Tryz.mixed (by kernel_rfl) ?_ ?_
              · skip
                refine t_br ?_; refine v_hoist rfl rfl rfl (ev_fa (m := _) fa_103_1 rfl rfl) .free rfl ?_; refine v_hoist rfl rfl rfl (ev_load Tryz.isAgg5 rfl rfl) .free rfl ?_; refine v_hoist rfl rfl rfl (ev_rem (c := (A k).2.1 % 5) rfl rfl (by decide) (rem_e (5) (by omega))) .free rfl ?_
                first | refine v_hoist rfl rfl rfl (ev_conv Tryz.runUnderlying5 Tryz.runUnderlying3 rfl (wr64 (by omega))) .free rfl ?_ | refine v_hoist rfl rfl rfl (ev_conv Tryz.runUnderlying5 Tryz.runUnderlying3 rfl rfl) .free rfl ?_
                refine v_hoist rfl rfl rfl (ev_fa (m := _) fa_103_2 rfl rfl) .free rfl ?_; refine v_hoist rfl rfl rfl (ev_load Tryz.isAgg5 rfl rfl) .free rfl ?_; refine v_hoist rfl rfl rfl (ev_rem (c := (A k).2.2 % 12) rfl rfl (by decide) (rem_e (12) (by omega))) .free rfl ?_
                first | refine v_hoist rfl rfl rfl (ev_conv Tryz.runUnderlying5 Tryz.runUnderlying3 rfl (wr64 (by omega))) .free rfl ?_ | refine v_hoist rfl rfl rfl (ev_conv Tryz.runUnderlying5 Tryz.runUnderlying3 rfl rfl) .free rfl ?_
                refine v_nil ?_
                refine t_two rfl rfl ?_ ?_
                · skip
                  refine p_chg rfl (ch_alloc1 Tryz.zeroValue3 rfl) .free rfl rfl ?_
                  rintro _ _ ⟨b15, rfl, rfl⟩
                  refine p_nil ?_; refine t_on ?_; refine t_fin ?_; refine v_mark rfl rfl ?_; refine p_chg rfl (ch_alloc1 Tryz.zeroValue3 rfl) .free rfl rfl ?_
                  rintro _ _ ⟨b16, rfl, rfl⟩
                  refine p_nil ?_; refine v_on ?_; refine v_mark rfl rfl ?_; refine p_chg0 rfl (ch_store Tryz.sizeOf3 rfl rfl rfl rfl) .free rfl ?_
                  rintro _ _ rfl
                  refine p_nil ?_; refine v_on ?_; refine v_mark rfl rfl ?_; refine p_chg0 rfl (ch_store Tryz.sizeOf3 rfl rfl rfl rfl) .free rfl ?_
                  rintro _ _ rfl
                  refine p_nil ?_; refine v_off rfl ?_; refine v_nil ?_
                  exact fun a w st_ => ⟨(b15, b16), st_.to ⟨rfl, rfl, rfl, rfl, rfl, rfl, rfl, rfl, rfl, trivial⟩ (fun hh => hh)⟩
                · skip
                  refine p_chg rfl (ch_alloc1 Tryz.zeroValue3 rfl) .free rfl rfl ?_
                  rintro _ _ ⟨b16, rfl, rfl⟩
                  refine p_nil ?_; refine t_on ?_; refine t_fin ?_; refine v_mark rfl rfl ?_; refine p_chg rfl (ch_alloc1 Tryz.zeroValue3 rfl) .free rfl rfl ?_
                  rintro _ _ ⟨b15, rfl, rfl⟩
                  refine p_nil ?_; refine v_on ?_; refine v_mark rfl rfl ?_; refine p_chg0 rfl (ch_store Tryz.sizeOf3 rfl rfl rfl rfl) .free rfl ?_
                  rintro _ _ rfl
                  refine p_nil ?_; refine v_on ?_; refine v_mark rfl rfl ?_; refine p_chg0 rfl (ch_store Tryz.sizeOf3 rfl rfl rfl rfl) .free rfl ?_
                  rintro _ _ rfl
                  refine p_nil ?_; refine v_off rfl ?_; refine v_nil ?_
                  exact fun a w st_ => ⟨(b15, b16), st_.to ⟨rfl, rfl, rfl, rfl, rfl, rfl, rfl, rfl, rfl, trivial⟩ (fun hh => (hh.pk [1]))⟩
              rintro ⟨b15, b16⟩
              refine go_sub (σ' := [(15, ptr b15), (16, ptr b16), (32, _), (4, _), (5, _), (31, _), (30, _), (3, _), (2, _)]) ⟨rfl, rfl, rfl, rfl, rfl, rfl, rfl, rfl, rfl, trivial⟩ ?_; refine g_seq ?_; refine g_region ?_; refine p_chg rfl (ch_makeMap .i64 i64) .free rfl rfl ?_
              rintro _ _ ⟨mr, rfl, rfl⟩
              refine p_chg rfl (ch_alloc1 Tryz.zeroValue69 rfl) .free rfl rfl ?_
              rintro _ _ ⟨b17, rfl, rfl⟩
              refine p_chg0 rfl (ch_store Tryz.sizeOf69 rfl rfl (by first | rfl | assumption) rfl) .free rfl ?_
              rintro _ _ rfl
              refine p_nil ?_; refine g_seq ?_; refine g_region ?_; refine kPm rfl rfl ?_; refine kPv (ev_mkf rfl rfl) rfl ?_; refine go_pk [5, 1, 0, 0, 0] ?_
              refine p_call rfl (en_f Tryz.call58 rfl) (hmovedP B _ tb T b17 b16 b15 mr ((A k).2.2 % 12) ((A k).2.1 % 5) (by omega) (fun p hp => by have := hR.ok p hp; omega)) .free rfl rfl ?_ ?_
              rotate_left
              · rintro _ _ ⟨⟩
              rintro _ _ ⟨o1, ho1, rfl⟩
              have hask := fun {j : Nat} (hj : j < P.length) (h0 : P[j] ≠ 0) => hR.asked ho1 hj h0
              generalize o1.foldl (fun e (p : Int × Int) => askS p.2 e) [] = E at *
              refine p_nil ?_; refine g_seq ?_; refine g_region ?_; refine kPm rfl rfl ?_; refine kPv (ev_len rfl Tryz.runUnderlying34 ⟨_, rfl⟩ rfl) rfl ?_; refine kPm rfl rfl ?_; refine p_nil ?_; refine g_block ?_
              refine g_loopk (ι := Nat) [165, 164, 17, 15, 16, 32, 4, 5, 31, 30, 3, 2] (fun j => (j ≤ P.length)) (fun j => [(166, i64 j)]) (fun j => VecA 3 i64 0 (.slice qp P.length cp, mvP ((A k).2.1 % 5) ((A k).2.2 % 12) j P) :: TabA tb (TabS.moved (mvt ((A k).2.1 % 5) ((A k).2.2 % 12)) T.last o1) :: mapA .i64 i64 mr E :: row b17 [.map (some mr)] 69 :: row b16 [i64 ((A k).2.2 % 12)] 3 :: row b15 [i64 ((A k).2.1 % 5)] 3 :: row b7 [.int .u8 (A k).1, .int .u8 (A k).2.1, .int .u8 (A k).2.2] 103 :: Fr) (fun j => P.length - j) (0) (Nat.zero_le _) (fun a w st => st.to ⟨rfl, trivial⟩ (fun hh => (hh.pk [6]))) ?_
              rintro j hj0
              try simp only at hj0 ⊢
              refine go_sub (σ' := [(166, i64 j), (165, _), (164, _), (17, _), (15, _), (16, _), (32, _), (4, _), (5, _), (31, _), (30, _), (3, _), (2, _)]) ⟨rfl, rfl, rfl, rfl, rfl, rfl, rfl, rfl, rfl, rfl, rfl, rfl, rfl, trivial⟩ ?_; refine g_seq ?_; refine g_region ?_; refine kPv (ev_cmp rfl rfl rfl) rfl ?_; refine p_nil ?_; refine g_seq ?_
              refine g_if rfl (fun h167 => ?_) (fun h167 => ?_)
              · have hj : j < P.length := by simpa using h167
                have hPj := hR.bd _ (List.getElem_mem hj)
                refine g_skip ?_; refine g_seq ?_; refine g_block ?_; refine g_seq ?_; refine g_region ?_; refine kPm rfl rfl ?_; refine kPv (ev_iaS Tryz.runUnderlying34 Tryz.sizeOf3 (congrArg (fun z => some (Value.slice z P.length cp)) (hqb (by omega))) rfl (by omega) (by omega)) rfl ?_
                refine kPv (ev_loadS (i := j) (v := i64 P[j]) Tryz.isAgg3 ((vec_slrm mvP_len.symm 0 rfl).at (hqb (by omega))) rfl (by rw [List.getElem?_map, mvP_get hj]; rfl)) rfl ?_; refine kPa rfl rfl ?_; refine kPa rfl rfl ?_; refine p_nil ?_; refine g_seq ?_; refine g_region ?_; refine kPm rfl rfl ?_; refine kPv (ev_cmp rfl rfl rfl) rfl ?_; refine p_nil ?_
                refine g_if rfl (fun h172 => ?_) (fun h172 => ?_)
                · have h0 : P[j] ≠ 0 := by simpa using h172
                  refine g_seq ?_; refine g_seq ?_; refine g_region ?_; refine kPv (ev_load Tryz.isAgg69 rfl rfl) rfl ?_; refine kPm rfl rfl ?_; refine kPv ((ev_lookup1 Tryz.runUnderlying69 Tryz.runUnderlying3 Tryz.zeroValue3 rfl rfl).eq (mval_i _)) rfl ?_; refine kPv (ev_cmp rfl rfl rfl) rfl ?_; refine p_nil ?_
                  refine go_sub (σ' := [(176, _), (19, _), (18, _), (166, _), (165, _), (164, _), (17, _), (15, _), (16, _), (32, _), (4, _), (5, _), (31, _), (30, _), (3, _), (2, _)]) ⟨rfl, rfl, rfl, rfl, rfl, rfl, rfl, rfl, rfl, rfl, rfl, rfl, rfl, rfl, rfl, rfl, trivial⟩ ?_; refine g_iff rfl ((by rw [hask hj h0]; rfl)) ?_
                  refine g_skip ?_; refine g_seq ?_; refine g_region ?_; refine kPm rfl rfl ?_; refine kPm rfl rfl ?_; refine kPm rfl rfl ?_; refine kPv (ev_load Tryz.isAgg3 rfl rfl) rfl ?_
                  first | refine p_val rfl (ev_add rfl rfl (wr64 (by omega))) .free rfl rfl ?_ | refine p_val rfl (ev_add rfl rfl rfl) .free rfl rfl ?_
                  refine kPv (ev_iaS Tryz.runUnderlying34 Tryz.sizeOf3 (congrArg (fun z => some (Value.slice z P.length cp)) (hqb (by omega))) rfl (by omega) (by omega)) rfl ?_; refine p_chg0 rfl (ch_storeVec (i := j) (v := P[j] + (A k).2.1 % 5) Tryz.sizeOf3 (hqb (by omega)) rfl rfl rfl (by rw [mvP_len]; exact hj)) .free rfl ?_
                  rintro _ _ rfl
                  refine p_nil ?_; refine go_sub (σ' := [(19, _), (18, _), (166, _), (165, _), (164, _), (17, _), (15, _), (16, _), (32, _), (4, _), (5, _), (31, _), (30, _), (3, _), (2, _)]) ⟨rfl, rfl, rfl, rfl, rfl, rfl, rfl, rfl, rfl, rfl, rfl, rfl, rfl, rfl, rfl, trivial⟩ ?_; refine g_seq ?_; refine g_region ?_; refine kPm rfl rfl ?_; refine kPv (ev_load Tryz.isAgg3 rfl rfl) rfl ?_; refine kPv (ev_cmp rfl rfl rfl) rfl ?_; refine p_nil ?_
                  refine g_if rfl (fun h185 => ?_) (fun h185 => ?_)
                  · have hg : P[j] = (A k).2.2 % 12 := by simpa using h185
                    refine g_region ?_; refine kPm rfl rfl ?_; refine kPm rfl rfl ?_; refine kPv (ev_iaS Tryz.runUnderlying34 Tryz.sizeOf3 (congrArg (fun z => some (Value.slice z P.length cp)) (hqb (by omega))) rfl (by omega) (by omega)) rfl ?_; refine p_chg0 rfl (ch_storeVec (i := j) (v := 0) Tryz.sizeOf3 (hqb (by omega)) rfl rfl rfl (by rw [List.length_set, mvP_len]; exact hj)) .free rfl ?_
                    rintro _ _ rfl
                    refine p_nil ?_; refine go_sub (σ' := [(166, _), (165, _), (164, _), (17, _), (15, _), (16, _), (32, _), (4, _), (5, _), (31, _), (30, _), (3, _), (2, _)]) ⟨rfl, rfl, rfl, rfl, rfl, rfl, rfl, rfl, rfl, rfl, rfl, rfl, rfl, trivial⟩ ?_; refine g_region ?_
                    first | refine p_val rfl (ev_add rfl rfl (wr64 (by omega))) .free rfl rfl ?_ | refine p_val rfl (ev_add rfl rfl rfl) .free rfl rfl ?_
                    refine kPm rfl rfl ?_; refine p_nil ?_
                    rw [List.set_set, mvP_succ hj (by unfold mvf; rw [if_neg h0, if_pos hg])]
                    exact fun a w st_ => ⟨j + 1, by omega, by omega, st_.to ⟨rfl, rfl, rfl, rfl, rfl, rfl, rfl, rfl, rfl, rfl, rfl, rfl, rfl, trivial⟩ (fun hh => hh)⟩
                  · have hg : ¬ P[j] = (A k).2.2 % 12 := by simpa using h185
                    refine g_skip ?_; refine g_region ?_
                    first | refine p_val rfl (ev_add rfl rfl (wr64 (by omega))) .free rfl rfl ?_ | refine p_val rfl (ev_add rfl rfl rfl) .free rfl rfl ?_
                    refine kPm rfl rfl ?_; refine p_nil ?_
                    rw [mvP_succ hj (by unfold mvf; rw [if_neg h0, if_neg hg])]
                    exact fun a w st_ => ⟨j + 1, by omega, by omega, st_.to ⟨rfl, rfl, rfl, rfl, rfl, rfl, rfl, rfl, rfl, rfl, rfl, rfl, rfl, trivial⟩ (fun hh => hh)⟩
                · have h0 : P[j] = 0 := by simpa using h172
                  refine g_skip ?_; refine g_region ?_
                  first | refine p_val rfl (ev_add rfl rfl (wr64 (by omega))) .free rfl rfl ?_ | refine p_val rfl (ev_add rfl rfl rfl) .free rfl rfl ?_
                  refine kPm rfl rfl ?_; refine p_nil ?_; refine go_sub (σ' := [(166, _), (165, _), (164, _), (17, _), (15, _), (16, _), (32, _), (4, _), (5, _), (31, _), (30, _), (3, _), (2, _)]) ⟨rfl, rfl, rfl, rfl, rfl, rfl, rfl, rfl, rfl, rfl, rfl, rfl, rfl, trivial⟩ ?_
                  rw [mvP_zero hj h0]
                  exact fun a w st_ => ⟨j + 1, by omega, by omega, st_.to ⟨rfl, rfl, rfl, rfl, rfl, rfl, rfl, rfl, rfl, rfl, rfl, rfl, rfl, trivial⟩ (fun hh => hh)⟩
              · have hj : ¬ j < P.length := by simpa using h167
                refine g_exit ?_
                rw [mvP_all hj]
                exact fun a w st_ => ⟨(P.length, .slice qp P.length cp, P.map (mvf ((A k).2.1 % 5) ((A k).2.2 % 12)), TabS.moved (mvt ((A k).2.1 % 5) ((A k).2.2 % 12)) T.last o1), ⟨by simp, by simp; omega, hR.moved (by omega) ho1, rfl⟩, st_.to ⟨rfl, rfl, rfl, rfl, rfl, rfl, rfl, trivial⟩ (fun hh => (hh.dp [2, 2, 2, 2, 2]))⟩
            · have hix := idx_le ((A k).2.1 % 12) P
              refine g_seq ?_; refine g_region ?_; refine kPm rfl rfl ?_; refine kPm rfl rfl ?_; refine p_callq rfl (en_f Tryz.call65 rfl) (indexi_ok _ _ qp cp P ((A k).2.1 % 12) (by omega) hqi (vec_slr 2 rfl)) .free rfl rfl ?_
              first | refine p_val rfl (ev_add rfl rfl (wr64 (by omega))) .free rfl rfl ?_ | refine p_val rfl (ev_add rfl rfl rfl) .free rfl rfl ?_
              refine kPa rfl rfl ?_; refine p_nil ?_; refine g_seq ?_; refine g_seq ?_; refine g_region ?_; refine kPm rfl rfl ?_; refine kPv (ev_cmp rfl rfl rfl) rfl ?_; refine p_nil ?_; refine go_sub (σ' := [(48, _), (20, _), (8, _), (32, _), (4, _), (5, _), (31, _), (30, _), (3, _), (2, _)]) ⟨rfl, rfl, rfl, rfl, rfl, rfl, rfl, rfl, rfl, rfl, trivial⟩ ?_
              refine g_if rfl (fun h48 => ?_) (fun h48 => ?_)
              · have hp0 : (A k).2.1 % 12 = 0 := by simpa using h48
                have htk : T.take ((A k).2.1 % 12) = (0, T) := by rw [hp0]; exact PlI.zero
                refine g_region ?_; refine kPa rfl rfl ?_; refine p_nil ?_; refine g_seq ?_; refine g_region ?_; refine kPm rfl rfl ?_; refine kPm rfl rfl ?_; refine go_pk [1] ?_
                refine p_call rfl (en_f Tryz.call31 rfl) (htake_ok B _ tb T ((A k).2.1 % 12) (by have := hR.last; omega)) .free rfl rfl ?_ ?_
                rotate_left
                · rintro _ _ ⟨⟩
                rintro _ _ ⟨rfl, rfl⟩
                refine kPm rfl rfl ?_; refine kPv (ev_cmp rfl rfl rfl) rfl ?_; refine p_nil ?_; refine go_sub (σ' := [(62, _), (32, _), (4, _), (5, _), (31, _), (30, _), (3, _), (2, _)]) ⟨rfl, rfl, rfl, rfl, rfl, rfl, rfl, rfl, trivial⟩ ?_; refine g_iff rfl ((by first | (rw [htk]; simp) | (rw [hnw.1]; simp))) ?_
                refine g_skip ?_
                rw [htk]
                exact fun a w st_ => ⟨(P.length, .slice qp P.length cp, P, T), ⟨rfl, by first | omega | (simp only; omega), hR.mono, rfl⟩, st_.to ⟨rfl, rfl, rfl, rfl, rfl, rfl, rfl, trivial⟩ (fun hh => ((hh.dp [1]).pk [1]))⟩
              · have hp0 : ¬ (A k).2.1 % 12 = 0 := by simpa using h48
                refine g_seq ?_; refine g_region ?_; refine kPm rfl rfl ?_; refine kPv (ev_cmp rfl rfl rfl) rfl ?_; refine p_nil ?_
                refine g_if rfl (fun h50 => ?_) (fun h50 => ?_)
                · have hi : idxI ((A k).2.1 % 12) P 0 + 1 = 0 := by simpa using h50
                  have hnw := hR.new (p := (A k).2.1 % 12) (by omega) hi
                  refine g_seq ?_; refine g_region ?_; refine kPm rfl rfl ?_
                  first | refine p_val rfl (ev_add rfl rfl (wr64 (by omega))) .free rfl rfl ?_ | refine p_val rfl (ev_add rfl rfl rfl) .free rfl rfl ?_
                  refine kPa rfl rfl ?_; refine p_nil ?_; refine g_region ?_; refine kPm rfl rfl ?_; refine kPm rfl rfl ?_; refine kPm rfl rfl ?_; refine p_chg rfl (ch_bs1 Tryz.runUnderlying34 Tryz.sizeOf3 Tryz.zeroValue3 rfl rfl rfl) .free rfl rfl ?_
                  rintro _ _ ⟨b56, rfl, rfl⟩
                  refine go_pk [3, 0] ?_; refine p_chg rfl (ch_append_vec rfl rfl Tryz.runUnderlying34 Tryz.runUnderlying34 ⟨_, rfl⟩ Tryz.sizeOf3 Tryz.zeroValue3 rfl (fun _ => rfl) tb_3 rfl rfl (by omega)) .free rfl rfl ?_
                  rintro sv9 _ ⟨hsv9, rfl⟩
                  refine kPa rfl rfl ?_; refine kPa rfl rfl ?_; refine p_nil ?_; refine go_sub (σ' := [(5, _), (20, _), (4, _), (8, _), (32, _), (31, _), (30, _), (3, _), (2, _)]) ⟨rfl, rfl, rfl, rfl, rfl, rfl, rfl, rfl, rfl, trivial⟩ ?_; refine g_seq ?_; refine g_region ?_; refine kPm rfl rfl ?_; refine kPm rfl rfl ?_; refine go_pk [2] ?_
                  refine p_call rfl (en_f Tryz.call31 rfl) (htake_ok B _ tb T ((A k).2.1 % 12) (by have := hR.last; omega)) .free rfl rfl ?_ ?_
                  rotate_left
                  · rintro _ _ ⟨⟩
                  rintro _ _ ⟨rfl, rfl⟩
                  refine kPm rfl rfl ?_; refine kPv (ev_cmp rfl rfl rfl) rfl ?_; refine p_nil ?_; refine g_iff rfl ((by first | (rw [htk]; simp) | (rw [hnw.1]; simp))) ?_
                  refine g_skip ?_
                  exact fun a w st_ => ⟨((P.length : Int) + 1, sv9, P ++ [(A k).2.1 % 12], (T.take ((A k).2.1 % 12)).2), ⟨by simp, by simp; omega, hnw.2.mono, hsv9⟩, st_.to ⟨rfl, rfl, rfl, rfl, rfl, rfl, rfl, trivial⟩ (fun hh => ((hh.dp [2]).pk [1]))⟩
                · have hi : ¬ idxI ((A k).2.1 % 12) P 0 + 1 = 0 := by simpa using h50
                  have htk := hR.old hp0 hi
                  refine g_skip ?_; refine g_seq ?_; refine g_region ?_; refine kPm rfl rfl ?_; refine kPm rfl rfl ?_; refine go_pk [1] ?_
                  refine p_call rfl (en_f Tryz.call31 rfl) (htake_ok B _ tb T ((A k).2.1 % 12) (by have := hR.last; omega)) .free rfl rfl ?_ ?_
                  rotate_left
                  · rintro _ _ ⟨⟩
                  rintro _ _ ⟨rfl, rfl⟩
                  refine kPm rfl rfl ?_; refine kPv (ev_cmp rfl rfl rfl) rfl ?_; refine p_nil ?_; refine go_sub (σ' := [(62, _), (32, _), (4, _), (5, _), (31, _), (30, _), (3, _), (2, _)]) ⟨rfl, rfl, rfl, rfl, rfl, rfl, rfl, rfl, trivial⟩ ?_; refine g_iff rfl ((by first | (rw [htk]; simp) | (rw [hnw.1]; simp))) ?_
                  refine g_skip ?_
                  rw [htk]
                  exact fun a w st_ => ⟨(P.length, .slice qp P.length cp, P, T), ⟨rfl, by first | omega | (simp only; omega), hR.mono, rfl⟩, st_.to ⟨rfl, rfl, rfl, rfl, rfl, rfl, rfl, trivial⟩ (fun hh => ((hh.dp [1]).pk [1]))⟩
      rintro ⟨ln2, sv2, P2, T2⟩ ⟨hln2, hl2, hR2, hs2⟩
      try simp only at hln2 hl2 hR2 hs2 ⊢
      refine go_sub (σ' := [(4, i64 ln2), (5, sv2), (32, _), (31, _), (30, _), (3, _), (2, _)]) ⟨rfl, rfl, rfl, rfl, rfl, rfl, rfl, trivial⟩ ?_; refine g_seq ?_; refine go_vecq fun q2 c2 hq2 hqi2 => ?_
      subst hq2
      refine go_conv (fun w hh => vec_nil (T := 3) (enc := i64) hh) ?_; refine g_region ?_; refine kPa rfl rfl ?_; refine p_nil ?_; refine g_seq ?_; refine g_seq ?_; refine g_region ?_; refine kPm rfl rfl ?_; refine kPv (ev_len rfl Tryz.runUnderlying34 ⟨_, rfl⟩ rfl) rfl ?_; refine kPm rfl rfl ?_; refine p_nil ?_; refine g_block ?_
      refine g_loopk (ι := Nat × Value) [191, 190, 4, 5, 32, 31, 30, 3, 2] (fun (j2, sv3) => (j2 ≤ P2.length) ∧ (cell1 sv3 = true)) (fun (j2, sv3) => [(192, i64 j2), (21, sv3)]) (fun (j2, sv3) => VecA 3 i64 0 (sv3, allP P2 j2) :: VecA 3 i64 0 (.slice q2 P2.length c2, P2) :: TabA tb T2 :: Fr) (fun (j2, sv3) => P2.length - j2) (0, .slice none 0 0) (⟨Nat.zero_le _, rfl⟩) (fun a w st => st.to ⟨rfl, rfl, trivial⟩ (fun hh => hh)) ?_
      rintro ⟨j2, sv3⟩ ⟨hj20, hs3⟩
      try simp only at hj20 hs3 ⊢
      refine go_sub (σ' := [(192, i64 j2), (21, sv3), (191, _), (190, _), (4, _), (5, _), (32, _), (31, _), (30, _), (3, _), (2, _)]) ⟨rfl, rfl, rfl, rfl, rfl, rfl, rfl, rfl, rfl, rfl, rfl, trivial⟩ ?_; refine g_seq ?_; refine g_region ?_; refine kPv (ev_cmp rfl rfl rfl) rfl ?_; refine p_nil ?_; refine g_seq ?_
      refine g_if rfl (fun h193 => ?_) (fun h193 => ?_)
      · have hj2 : j2 < P2.length := by simpa using h193
        have hl9 := allP_len (P := P2) (j := j2)
        refine g_skip ?_; refine g_seq ?_; refine g_block ?_; refine g_seq ?_
        obtain ⟨bq, oq, rfl⟩ := hqi2 j2 hj2
        refine g_region ?_; refine kPm rfl rfl ?_; refine kPv (ev_iaS Tryz.runUnderlying34 Tryz.sizeOf3 rfl rfl (by omega) (by omega)) rfl ?_
        refine kPv (ev_loadS (i := j2) (v := i64 P2[j2]) Tryz.isAgg3 (vec_slr 1 rfl) rfl (by rw [List.getElem?_map, List.getElem?_eq_getElem hj2]; rfl)) rfl ?_
        refine kPa rfl rfl ?_; refine kPa rfl rfl ?_; refine p_nil ?_; refine g_seq ?_; refine g_region ?_; refine kPm rfl rfl ?_; refine kPv (ev_cmp rfl rfl rfl) rfl ?_; refine p_nil ?_
        refine g_if rfl (fun h198 => ?_) (fun h198 => ?_)
        · have h0 : P2[j2] ≠ 0 := by simpa using h198
          refine g_region ?_; refine kPm rfl rfl ?_; refine kPm rfl rfl ?_
          first | refine p_val rfl (ev_add rfl rfl (wr64 (by omega))) .free rfl rfl ?_ | refine p_val rfl (ev_add rfl rfl rfl) .free rfl rfl ?_
          refine p_chg rfl (ch_bs1 Tryz.runUnderlying34 Tryz.sizeOf3 Tryz.zeroValue3 rfl rfl rfl) .free rfl rfl ?_
          rintro _ _ ⟨b56, rfl, rfl⟩
          refine go_pk [1, 0] ?_; refine p_chg rfl (ch_append_vec rfl rfl Tryz.runUnderlying34 Tryz.runUnderlying34 ⟨_, rfl⟩ Tryz.sizeOf3 Tryz.zeroValue3 rfl (fun _ => rfl) tb_3 rfl rfl (by omega)) .free rfl rfl ?_
          rintro sv9 _ ⟨hsv9, rfl⟩
          refine kPa rfl rfl ?_; refine p_nil ?_; refine go_sub (σ' := [(21, _), (192, _), (191, _), (190, _), (4, _), (5, _), (32, _), (31, _), (30, _), (3, _), (2, _)]) ⟨rfl, rfl, rfl, rfl, rfl, rfl, rfl, rfl, rfl, rfl, rfl, trivial⟩ ?_; refine g_region ?_
          first | refine p_val rfl (ev_add rfl rfl (wr64 (by omega))) .free rfl rfl ?_ | refine p_val rfl (ev_add rfl rfl rfl) .free rfl rfl ?_
          refine kPm rfl rfl ?_; refine p_nil ?_
          rw [show allP P2 j2 ++ [(j2 : Int) + 1] = allP P2 (j2 + 1) by rw [allP_succ hj2, if_neg h0]]
          exact fun a w st_ => ⟨(j2 + 1, sv9), ⟨by first | omega | (simp only; omega), hsv9⟩, by first | omega | (simp only; omega), st_.to ⟨rfl, rfl, rfl, rfl, rfl, rfl, rfl, rfl, rfl, rfl, rfl, trivial⟩ (fun hh => hh)⟩
        · have h0 : P2[j2] = 0 := by simpa using h198
          refine g_skip ?_; refine g_region ?_
          first | refine p_val rfl (ev_add rfl rfl (wr64 (by omega))) .free rfl rfl ?_ | refine p_val rfl (ev_add rfl rfl rfl) .free rfl rfl ?_
          refine kPm rfl rfl ?_; refine p_nil ?_; refine go_sub (σ' := [(192, _), (21, _), (191, _), (190, _), (4, _), (5, _), (32, _), (31, _), (30, _), (3, _), (2, _)]) ⟨rfl, rfl, rfl, rfl, rfl, rfl, rfl, rfl, rfl, rfl, rfl, trivial⟩ ?_
          rw [show allP P2 j2 = allP P2 (j2 + 1) by rw [allP_succ hj2, if_pos h0]]
          exact fun a w st_ => ⟨(j2 + 1, sv3), ⟨by first | omega | (simp only; omega), hs3⟩, by first | omega | (simp only; omega), st_.to ⟨rfl, rfl, rfl, rfl, rfl, rfl, rfl, rfl, rfl, rfl, rfl, trivial⟩ (fun hh => hh)⟩
      · have h9 : ¬ j2 < P2.length := by simpa using h193
        have hj2 : j2 = P2.length := by omega
        refine g_exit ?_; refine g_seq ?_; refine g_region ?_; refine kPm rfl rfl ?_; refine go_pk [2] ?_
        refine p_call rfl (en_f Tryz.call56 rfl) (hnumbers_ok B _ tb T2 (by have := hR2.w.len; have := hR2.last; omega)) .free rfl rfl ?_ ?_
        rotate_left
        · rintro _ _ ⟨⟩
        rintro rv _ rfl
        rw [hR2.all]
        refine go_conv (fun w hh => accv_vec hh) ?_; refine go_vecq fun q3 c3 hq3 hqi3 => ?_
        subst hq3
        refine go_pk [2] ?_; refine go_vecq fun q4 c4 hq4 hqi4 => ?_
        subst hq4
        refine kPm rfl rfl ?_; refine p_callq rfl (en_f Tryz.call62 rfl) (equali_ok _ _ q3 q4 c3 c4 _ _ (by have := allP_len (P := P2) (j := P2.length); omega) (by have := allP_len (P := P2) (j := j2); omega) hqi3 hqi4 (vec_slr 1 rfl) (vec_slr 0 rfl)) .free rfl rfl ?_
        refine kPv (ev_not rfl) rfl ?_; refine p_nil ?_; refine go_sub (σ' := [(209, _), (4, _), (5, _), (32, _), (31, _), (30, _), (3, _), (2, _)]) ⟨rfl, rfl, rfl, rfl, rfl, rfl, rfl, rfl, trivial⟩ ?_; refine g_iff rfl ((by rw [hj2]; simp)) ?_
        refine g_skip ?_; refine g_region ?_
        first | refine p_val rfl (ev_add rfl rfl (wr64 (by omega))) .free rfl rfl ?_ | refine p_val rfl (ev_add rfl rfl rfl) .free rfl rfl ?_
        refine kPm rfl rfl ?_; refine p_nil ?_
        exact fun a w st_ => ⟨(k + 1, ln2, .slice q2 P2.length c2, P2, T2), ⟨by omega, hln2, hl2, hR2, rfl⟩, by first | omega | (simp only; omega), st_.to ⟨rfl, rfl, rfl, rfl, rfl, rfl, rfl, trivial⟩ (fun hh => (hh.dp [0, 0]))⟩
    · have hk : ¬ k < n := by simp at h33; omega
      refine g_exit ?_; refine g_seq ?_; refine g_region ?_; refine kPa rfl rfl ?_; refine p_nil ?_; refine go_sub (σ' := [(2, _)]) ⟨rfl, trivial⟩ ?_; refine g_ret ?_
      exact ret_tmp Tryz.results10 rfl (fun w hh => ⟨rfl, (hh.dp [0, 0])⟩)


theorem handlePlays_walk (W : World) {l : Option Addr} {len cap : Nat} {f : Nat → Int × Int × Int} (w0 : len ≤ 9223372036854775807 ∧ (∀ i, i < len → 0 ≤ (f i).1 ∧ (f i).1 ≤ 255 ∧ 0 ≤ (f i).2.1 ∧ (f i).2.1 ≤ 255 ∧ 0 ≤ (f i).2.2 ∧ (f i).2.2 ≤ 255) ∧ ArgRow W l len 3 (fun i => [.int .u8 (f i).1, .int .u8 (f i).2.1, .int .u8 (f i).2.2])) :
    Calls Tryz.prog 10 #[.slice l len cap] W fun e w' => e = .returned (.bool true) ∧ RowKit.Below W.heap.size W w' := by
  obtain ⟨w2, w3, w4⟩ := w0
  exact law_of (handlePlays_ok W [old W] l len cap f w2 w3 w4)

namespace handlePlays
open Go.ChangeShapes Go.WideShapes Go.ChangeAt Go.RowKit
set_option maxRecDepth 100000 in
theorem lifted (os : Os) (started : os.Started) (H : Type) (enc : TypeId × Value → H) :
    ReturnsInHanded {} Tryz.checked os 10 .any (Rows.handlePlaysSpec.pre6 enc Tryz.prog Tryz.f10 Rows.handlePlaysRow.domain false) (Rows.handlePlaysSpec.post enc Tryz.prog Tryz.f10 false true false false) := by
  refine returnsInHanded_of_change (C := Tryz.checked) Tryz.ownKnobs started (by kernel_rfl) Tryz.func10
    (ChangeSpec.witness6 (enc := enc) (C := Tryz.checked) false ⟨#[], #[.slice none 0 0], []⟩ 8 (by kernel_rfl) (by kernel_rfl) (by kernel_rfl) (by kernel_rfl)) ?_
  intro W base args ds gs before hval0 hW hcnd _
  have hval : ∀ (j : Nat) t v, Tryz.f10.params[j]? = some t → args[j]? = some v → Value.okWide Tryz.prog W .any base t v := hval0
  have hW' := hW
  obtain ⟨p, q, hA0, hV, rfl, hfz, hnd⟩ := hW
  have hA : DataW.TrodAll enc Tryz.prog W 0 (fun _ => true) true Tryz.f10.params.toList args.toList ds p := hA0
  rw [Tryz.params10] at hA hval
  obtain ⟨v0, vs0, d0, ds0, p0, q0, hargs, rfl, rfl, h0, r0⟩ := trodAll_cons hA
  obtain ⟨rfl, rfl, rfl⟩ := trodAll_nil r0
  obtain rfl : args = #[v0] := by cases args; simp_all
  obtain ⟨rfl, rfl⟩ := trodVars_none hV
  obtain ⟨a0, len0, cap0, rfl⟩ := okWide_slice Tryz.underlying101 (hval 0 101 v0 rfl rfl)
  have k0 := h0
  have lt0 : ∀ x ∈ p0, x.block < W.heap.size := by obtain ⟨m, hm⟩ := k0; exact DataW.trod_lt m _ _ _ hm
  obtain ⟨z0, w0⟩ := arg_sl_st_u8_u8_u8 h0
  clear hA0 hval0
  refine (handlePlays_walk W w0).mono fun e W' ⟨he, bel⟩ => ?_
  subst he
  exact ⟨_, rfl, _, _, _, [], _, [], hW', trodAll_mk1 (shut_bool Tryz.underlying4 _), (trodAll_cons_mk (Below.trod Tryz.laidOut (by kernel_rfl) (of_decide_eq_true (by kernel_rfl)) k0 bel lt0) trodAll_mk0), rfl, bel.frame _, fun h => by cases h⟩
theorem over : Rows.handlePlaysRow.holds Tryz.pinned (OpenSpec.ofChange Rows.handlePlaysSpec) :=
  OpenClaim.holds_of_wide 10 Tryz.f10 rfl rfl rfl rfl rfl rfl rfl ⟨rfl, rfl, rfl, rfl, rfl⟩ rfl rfl rfl rfl rfl (by kernel_rfl) Tryz.func10 (by kernel_rfl)
    (of_decide_eq_true (by kernel_rfl)) (by unfold Func.isWrapper; first | (rw [if_pos (by decide +kernel)]; kernel_rfl) | (rw [if_neg (by decide +kernel)]; exact ⟨rfl, rfl⟩))
    (fun os started H enc _ => lifted os started H enc)
/-- The statement. -/
theorem proved : Rows.HandlePlaysSaid := over
end handlePlays

end Go.Proofs.YtbfheafpecgphaaGreat
