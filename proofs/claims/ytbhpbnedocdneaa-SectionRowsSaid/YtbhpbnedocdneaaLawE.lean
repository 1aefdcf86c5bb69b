/- The law SectionEmpty: the walk. Conditions: none. -/
import Derived.Test.YtbhpbnedocdneaaArg
set_option linter.unusedSimpArgs false
set_option linter.unusedVariables false
set_option linter.unnecessarySimpa false
set_option linter.unusedSectionVars false
namespace Go.Proofs.Ytbhpbnedocdneaa
set_option linter.unusedSimpArgs false
set_option linter.unusedVariables false
open Go
/-- slices.Equal of two copies of one table -/
theorem equal_tab (B : World) (H : List HP) (n b1 b2 c1 c2 : Nat) (f g : Nat → Int) (hn : n ≤ 1000000) (h : ∀ i, i < n → f i = g i) (r1 : SlR B H (.slice (some ⟨b1, 0, none⟩) n c1) (tab n (fun i => w64 (f i)))) (r2 : SlR B H (.slice (some ⟨b2, 0, none⟩) n c2) (tab n (fun i => w64 (g i)))) :
    ∀ w, Holds B H w → Calls Try.prog 26 [.slice (some ⟨b1, 0, none⟩) n c1, .slice (some ⟨b2, 0, none⟩) n c2].toArray w (PureR B H (.bool true)) := by
  have h0 := equal_ok B H (some ⟨b1, 0, none⟩) (some ⟨b2, 0, none⟩) c1 c2 (tab n f) (tab n g) (by rw [tab_len]; exact hn) (by rw [tab_len]; exact hn) (fun _ _ => ⟨_, _, rfl⟩) (fun _ _ => ⟨_, _, rfl⟩)
  rw [tab_len, tab_len, tab_map, tab_map] at h0
  have h1 := h0 r1 r2
  rwa [decide_eq_true (tab_congr h)] at h1
theorem SlR.tab {B : World} {H : List HP} {n b cap : Nat} {f : Nat → Value} {rest : List Value} {T : TypeId} {U : List Value → List HP} [RowU H b (tab n f ++ rest) T U] : SlR B H (.slice (some ⟨b, 0, none⟩) n cap) (tab n f) :=
  SlR.row (cs := Proofs.Ytbhpbnedocdneaa.tab n f ++ rest) (T := T) (U := U) (by rw [List.drop_zero, List.take_append_of_le_length (by rw [tab_len]; omega), List.take_of_length_le (by rw [tab_len]; omega)]) (by rw [tab_len])
theorem undo_zero {L : LogS} {s : Dev} (h : L.n = 0) : L.undo s = .ok L s := by
  unfold LogS.undo
  rw [show L.n.toNat = 0 by omega]
  simp [recN, LogS.truncate, h, Out.then]
theorem abort_zero {S : SecS} {s : Dev} (h : S.L.n = 0) : S.abort s = .ok S s := by
  unfold SecS.abort
  rw [undo_zero h]; rfl
theorem commit_zero {S : SecS} {s : Dev} (h : S.L.n = 0) (hd : S.dirty = []) : S.commit s = .ok S s := by
  obtain ⟨L, ff, ft, seen, dirty⟩ := S
  subst hd
  unfold SecS.commit
  simp [ sortI, flushAll, LogS.truncate, show L.n = 0 from h, Out.then]

theorem sectionEmpty_ok (B : World) (Fr : List HP) (l r s : Int) (hl : 0 ≤ l) (hr : 0 ≤ r) (hs : 0 ≤ s) (q : Option Addr) (cap : Nat) (xs : List Int) (hx' : xs.length ≤ 9223372036854775807) (hq : ∀ i, i < xs.length → ∃ b off, q = some ⟨b, off, none⟩) (hsl : SlR B Fr (.slice q xs.length cap) (xs.map w64)) (cm : Bool) (i v : Int) (hi : -9223372036854775808 ≤ i ∧ i ≤ 9223372036854775807) :
    ∀ w, Holds B Fr w → Calls Try.prog 6 [.agg #[u16 l, u16 r, u16 s], .slice q xs.length cap, .bool cm, i64 i, w64 v].toArray w (PureR B Fr (.bool true)) := by
  refine fn_enter Try.func6 rfl Try.ntmps6 rfl ?_
  obtain ⟨c, hcm⟩ : ∃ c, c = mkC l r s := ⟨_, rfl⟩
  have hc : CfgW c := by rw [hcm]; exact mkC_w hl hr hs
  refine g_seq ?_
  refine g_region ?_
  refine p_chg rfl (ch_boxA rfl) .free rfl rfl ?_
  rintro _ _ ⟨b5, rfl, rfl⟩
  refine p_val rfl (ev_assign rfl) .free rfl rfl ?_
  refine p_nil ?_
  refine g_seq ?_
  refine g_seq ?_
  refine g_region ?_
  refine p_callq rfl (en_f Try.call9 rfl) (awake7_ok _ _) .free rfl rfl ?_
  refine p_val rfl (ev_not rfl) .free rfl rfl ?_
  refine p_nil ?_
  refine g_iff rfl (rfl) ?_
  refine g_skip ?_
  refine g_seq ?_
  refine g_seq ?_
  refine g_region ?_
  refine p_val rfl (ev_move rfl) .free rfl rfl ?_
  refine p_val rfl (ev_len rfl Try.runUnderlying39 ⟨_, rfl⟩ rfl) .free rfl rfl ?_
  refine p_val rfl (ev_cmp rfl rfl rfl) .free rfl rfl ?_
  refine p_nil ?_
  refine g_if rfl (fun h23 => ?_) (fun h23 => ?_)
  · try simp only [decide_eq_true_eq, decide_eq_false_iff_not, Bool.not_eq_true', Bool.not_eq_false', Bool.or_eq_true, Bool.and_eq_true, Bool.and_eq_false_iff, Bool.or_eq_false_iff, beq_iff_eq, bne_iff_ne, beq_eq_false_iff_ne, bne_eq_false_iff_eq, ge_iff_le, gt_iff_lt, ne_eq] at h23
    refine g_seq ?_
    refine g_region ?_
    refine p_val rfl (ev_assign rfl) .free rfl rfl ?_
    refine p_nil ?_
    refine g_ret ?_
    exact ret_tmp Try.results6 rfl (fun w hh => ⟨rfl, hh.tail⟩)
  · have hx : xs.length ≤ 100000 := by simp at h23; omega
    refine g_skip ?_
    refine g_seq ?_
    refine g_region ?_
    refine p_val rfl (ev_loadA Try.isAgg24 Try.sizeOf24 rfl rfl) .free rfl rfl ?_
    refine p_val rfl (ev_move rfl) .free rfl rfl ?_
    refine p_call rfl (en_f Try.call10 rfl) (start_ok _ _ l r s hl hr hs c hcm q cap xs hx hq (hsl.cons _)) .free rfl rfl ?_ ?_
    rotate_left
    · rintro _ _ ⟨⟩
    rintro _ _ ⟨bd, bs, bm, bc, s0, rest, hf, hn, rfl, rfl⟩
    refine p_val rfl (ev_move rfl) .free rfl rfl ?_
    refine p_val rfl (ev_ext rfl rfl) .free rfl rfl ?_
    refine p_val rfl (ev_ext rfl rfl) .free rfl rfl ?_
    refine p_val rfl (ev_ext rfl rfl) .free rfl rfl ?_
    refine p_val rfl (ev_assign rfl) .free rfl rfl ?_
    refine p_val rfl (ev_assign rfl) .free rfl rfl ?_
    refine p_val rfl (ev_assign rfl) .free rfl rfl ?_
    refine p_nil ?_
    refine go_sub (σ' := [(13, _), (12, _), (11, _), (10, _), (2, _), (3, _), (4, _)]) ⟨rfl, rfl, rfl, rfl, rfl, rfl, rfl, trivial⟩ ?_
    refine g_seq ?_
    refine g_seq ?_
    refine g_region ?_
    refine p_val rfl (ev_move rfl) .free rfl rfl ?_
    refine p_val rfl (ev_eqp Try.runUnderlying27 rfl rfl rfl) .free rfl rfl ?_
    refine p_nil ?_
    refine g_iff rfl (rfl) ?_
    refine g_skip ?_
    refine g_seq ?_
    refine g_region ?_
    have hw0 := words_b hc
    have hSw : SecW ⟨⟨bd, c, 1, 0⟩, 0, 0, [], []⟩ := ⟨⟨hc, show (0 : Int) ≤ 1 by decide, show (1 : Int) < 4294967296 by decide, show (0 : Int) ≤ 0 by decide, by have := hc.l1; have := hc.r1; show (0 : Int) ≤ c.log; omega⟩, fun p hp => by cases hp⟩
    simp only [hf.log]
    refine go_front 3 rfl ?_
    simp only [List.eraseIdx_cons_succ, List.eraseIdx_cons_zero]
    refine p_val rfl (ev_move rfl) .free rfl rfl ?_
    refine p_call rfl (en_f Try.call27 rfl) (nwords_ok _ _ _ _) .free rfl rfl ?_ ?_
    rotate_left
    · rintro _ _ ⟨⟩
    rintro _ _ ⟨bw2, rest2, rfl, rfl⟩
    refine p_val rfl (ev_assign rfl) .free rfl rfl ?_
    refine p_nil ?_
    refine g_seq ?_
    refine g_region ?_
    refine p_val rfl (ev_move rfl) .free rfl rfl ?_
    refine p_val rfl (ev_move rfl) .free rfl rfl ?_
    first | refine p_val rfl (ev_nil rfl) .free rfl rfl ?_ | refine p_val rfl (ev_nilf rfl) .free rfl rfl ?_
    refine p_val rfl (ev_fa (m := _) fa_42_0 rfl rfl) .free rfl rfl ?_
    refine p_val rfl (ev_loadA Try.isAgg38 Try.sizeOf38 rfl rfl) .free rfl rfl ?_
    refine p_callq rfl (en_f Try.call12 rfl) (active_ok _ _ c hc) .free rfl rfl ?_
    refine p_val rfl (ev_move rfl) .free rfl rfl ?_
    refine p_callq rfl (en_f Try.call14 rfl) (ro_at (q := SecC) (fun Fr => sstoreC_ok _ Fr _ _ _ _)) .free rfl rfl ?_
    refine p_val rfl (ev_move rfl) .free rfl rfl ?_
    refine p_callq rfl (en_f Try.call17 rfl) (ro_at (q := SecC) (fun Fr => scommitC_ok _ Fr _ _)) .free rfl rfl ?_
    refine p_val rfl (ev_move rfl) .free rfl rfl ?_
    refine p_callq rfl (en_f Try.call22 rfl) (ro_at (q := SecC) (fun Fr => sabortC_ok _ Fr _ _)) .free rfl rfl ?_
    refine p_val rfl (ev_assign rfl) .free rfl rfl ?_
    refine p_val rfl (ev_assign rfl) .free rfl rfl ?_
    refine p_val rfl (ev_assign rfl) .free rfl rfl ?_
    refine p_nil ?_
    refine go_sub (σ' := [(17, _), (16, _), (15, _), (14, _), (13, _), (12, _), (11, _), (10, _), (2, _), (3, _), (4, _)]) ⟨rfl, rfl, rfl, rfl, rfl, rfl, rfl, rfl, rfl, rfl, rfl, trivial⟩ ?_
    refine g_seq ?_
    refine g_seq ?_
    refine g_region ?_
    refine go_front 4 rfl ?_
    simp only [List.eraseIdx_cons_succ, List.eraseIdx_cons_zero]
    refine p_val rfl (ev_move rfl) .free rfl rfl ?_
    refine p_val rfl (ev_cmp rfl rfl rfl) .free rfl rfl ?_
    refine p_val rfl (ev_move rfl) .free rfl rfl ?_
    refine p_val rfl (ev_move rfl) (.on rfl rfl (beq_eq rfl)) rfl rfl ?_
    refine p_val rfl (ev_cmp rfl rfl rfl) (.on rfl rfl (beq_eq rfl)) rfl rfl ?_
    refine p_val rfl (ev_pick_f rfl rfl rfl) .free rfl rfl ?_
    refine p_val rfl (ev_move rfl) .free rfl rfl ?_
    refine p_val rfl (ev_move rfl) (.on rfl rfl (beq_eq rfl)) rfl rfl ?_
    refine p_val rfl (ev_cmp rfl rfl rfl) (.on rfl rfl (beq_eq rfl)) rfl rfl ?_
    refine p_val rfl (ev_pick_f rfl rfl rfl) .free rfl rfl ?_
    refine p_val rfl (ev_move rfl) .free rfl rfl ?_
    refine p_val rfl (ev_move rfl) (.on rfl rfl (beq_eq rfl)) rfl rfl ?_
    refine p_val rfl (ev_build rfl (bld_35)) (.on rfl rfl (beq_eq rfl)) rfl rfl ?_
    refine p_call rfl (en_f Try.call11 rfl) (sbeginC_ok _ _ _ _ _ _) (.on rfl rfl (beq_eq rfl)) rfl rfl ?_ ?_
    rotate_left
    · rintro _ _ ⟨⟩
    rintro _ _ ⟨rfl, rfl⟩
    refine p_val rfl (ev_cmp rfl rfl rfl) (.on rfl rfl (beq_eq rfl)) rfl rfl ?_
    refine p_val rfl (ev_pick_f rfl rfl rfl) .free rfl rfl ?_
    refine p_val rfl (ev_move rfl) .free rfl rfl ?_
    refine p_val rfl (ev_move rfl) (.on rfl rfl (beq_eq rfl)) rfl rfl ?_
    refine p_val rfl (ev_build rfl (bld_35)) (.on rfl rfl (beq_eq rfl)) rfl rfl ?_
    refine p_callq rfl (en_f Try.call11 rfl) (sbeginO_ok _ _ _ _ _ _) (.on rfl rfl (beq_eq rfl)) rfl rfl ?_
    refine p_val rfl (ev_cmp rfl rfl rfl) (.on rfl rfl (beq_eq rfl)) rfl rfl ?_
    refine p_val rfl (ev_pick_f rfl rfl rfl) .free rfl rfl ?_
    refine p_nil ?_
    refine go_sub (σ' := [(68, _), (14, _), (13, _), (12, _), (11, _), (10, _), (2, _), (3, _), (4, _)]) ⟨rfl, rfl, rfl, rfl, rfl, rfl, rfl, rfl, rfl, trivial⟩ ?_
    refine g_iff rfl (rfl) ?_
    refine g_skip ?_
    refine g_seq ?_
    refine g_seq ?_
    refine g_region ?_
    refine go_front 2 rfl ?_
    simp only [List.eraseIdx_cons_succ, List.eraseIdx_cons_zero]
    refine go_front 1 rfl ?_
    simp only [List.eraseIdx_cons_succ, List.eraseIdx_cons_zero]
    refine p_val rfl (ev_move rfl) .free rfl rfl ?_
    refine p_val rfl (ev_move rfl) .free rfl rfl ?_
    first | refine p_val rfl (ev_nil rfl) .free rfl rfl ?_ | refine p_val rfl (ev_nilf rfl) .free rfl rfl ?_
    refine p_val rfl (ev_fa (m := _) fa_42_0 rfl rfl) .free rfl rfl ?_
    refine p_val rfl (ev_loadA Try.isAgg38 Try.sizeOf38 rfl rfl) .free rfl rfl ?_
    refine p_callq rfl (en_f Try.call12 rfl) (active_ok _ _ c hc) .free rfl rfl ?_
    refine p_val rfl (ev_cmp rfl rfl rfl) .free rfl rfl ?_
    refine p_val rfl (ev_move rfl) .free rfl rfl ?_
    apply p_or (tp := 81) (t := 76) (σ1 := [(76, _), (14, _), (12, _), (11, _), (10, _), (2, _), (3, _), (4, _)]) 5 rfl ⟨rfl, rfl, rfl, rfl, rfl, rfl, rfl, rfl, trivial⟩
    · intro hg1
      refine p_val rfl (ev_move rfl) (.on rfl rfl (beq_eq hg1)) rfl rfl ?_
      refine p_val rfl (ev_move rfl) (.on rfl rfl (beq_eq hg1)) rfl rfl ?_
      refine p_callq rfl (en_f Try.call28 rfl) (ro_at (q := DevA) (fun Fr => nlen_ok _ Fr _ _)) (.on rfl rfl (beq_eq hg1)) rfl rfl ?_
      refine p_val rfl (ev_cmp rfl rfl rfl) (.on rfl rfl (beq_eq hg1)) rfl rfl ?_
      refine p_val rfl (ev_pick_f rfl hg1 rfl) .free rfl rfl ?_
      exact p_seg rfl ⟨rfl, rfl, rfl, rfl, rfl, rfl, rfl, rfl, trivial⟩ (or_f hg1)
    · intro hg1
      refine p_skip rfl (.on rfl rfl (beq_ne hg1)) rfl ?_
      refine p_skip rfl (.on rfl rfl (beq_ne hg1)) rfl ?_
      refine p_skip rfl (.on rfl rfl (beq_ne hg1)) rfl ?_
      refine p_skip rfl (.on rfl rfl (beq_ne hg1)) rfl ?_
      refine p_val rfl (ev_pick_t rfl hg1 rfl) .free rfl rfl ?_
      exact p_seg rfl ⟨rfl, rfl, rfl, rfl, rfl, rfl, rfl, rfl, trivial⟩ (or_t hg1)
    refine p_nil ?_
    refine g_if rfl (fun h81 => ?_) (fun h81 => ?_)
    · have hbad : SecS.store ⟨⟨bd, c, 1, 0⟩, 0, 0, [], []⟩ s0 i v = .ok (1, ⟨⟨bd, c, 1, 0⟩, 0, 0, [], []⟩) s0 := by
        unfold SecS.store
        rw [if_pos]
        simp at h81
        exact h81
      refine g_seq ?_
      refine g_region ?_
      refine p_val rfl (ev_move rfl) .free rfl rfl ?_
      refine p_val rfl (ev_move rfl) .free rfl rfl ?_
      refine p_val rfl (ev_move rfl) .free rfl rfl ?_
      refine p_call rfl (en_f Try.call14 rfl) (sstoreO_ok _ _ _ _ _ hSw _ _) .free rfl rfl ?_ ?_
      rotate_left
      · rintro _ _ ⟨s', hm, -, -⟩
        rw [hbad] at hm; cases hm
      rintro _ _ ⟨a, S', s', hm, rfl, rfl⟩
      rw [hbad] at hm; cases hm
      refine p_val rfl (ev_cmp rfl rfl rfl) .free rfl rfl ?_
      refine p_nil ?_
      refine go_sub (σ' := [(86, _), (14, _), (12, _), (11, _), (10, _), (2, _)]) ⟨rfl, rfl, rfl, rfl, rfl, rfl, trivial⟩ ?_
      refine g_iff rfl (rfl) ?_
      refine g_skip ?_
      refine g_seq ?_
      refine g_region ?_
      refine p_val rfl (ev_assign rfl) .free rfl rfl ?_
      refine p_nil ?_
      refine g_seq ?_
      refine g_seq ?_
      refine g_region ?_
      refine p_val rfl (ev_move rfl) .free rfl rfl ?_
      refine p_nil ?_
      refine g_if rfl (fun h87 => ?_) (fun h87 => ?_)
      · try simp only [decide_eq_true_eq, decide_eq_false_iff_not, Bool.not_eq_true', Bool.not_eq_false', Bool.or_eq_true, Bool.and_eq_true, Bool.and_eq_false_iff, Bool.or_eq_false_iff, beq_iff_eq, bne_iff_ne, beq_eq_false_iff_ne, bne_eq_false_iff_eq, ge_iff_le, gt_iff_lt, ne_eq] at h87
        refine g_region ?_
        refine p_val rfl (ev_move rfl) .free rfl rfl ?_
        refine p_call rfl (en_f Try.call22 rfl) (sabortO_ok _ _ _ _ _ hSw) .free rfl rfl ?_ ?_
        rotate_left
        · rintro _ _ ⟨s', hm, -, -⟩
          rw [abort_zero rfl] at hm; cases hm
        rintro _ _ ⟨S', s', hm, rfl, rfl⟩
        rw [abort_zero rfl] at hm; cases hm
        refine p_val rfl (ev_assign rfl) .free rfl rfl ?_
        refine p_nil ?_
        refine g_seq ?_
        refine g_region ?_
        refine go_front 1 rfl ?_
        simp only [List.eraseIdx_cons_succ, List.eraseIdx_cons_zero]
        refine p_val rfl (ev_move rfl) .free rfl rfl ?_
        refine p_val rfl (ev_cmp rfl rfl rfl) .free rfl rfl ?_
        refine p_val rfl (ev_move rfl) .free rfl rfl ?_
        refine p_val rfl (ev_move rfl) (.on rfl rfl (beq_eq rfl)) rfl rfl ?_
        refine p_call rfl (en_f Try.call27 rfl) (nwords_ok _ _ _ _) (.on rfl rfl (beq_eq rfl)) rfl rfl ?_ ?_
        rotate_left
        · rintro _ _ ⟨⟩
        rintro _ _ ⟨bw6, rest6, rfl, rfl⟩
        refine p_val rfl (ev_move rfl) (.on rfl rfl (beq_eq rfl)) rfl rfl ?_
        refine p_callq rfl (en_f Try.call26 rfl) (equal_tab _ _ _ _ _ _ _ _ _ (by omega) (fun _ _ => rfl) SlR.tab SlR.tab) (.on rfl rfl (beq_eq rfl)) rfl rfl ?_
        refine p_val rfl (ev_pick_t rfl rfl rfl) .free rfl rfl ?_
        refine p_val rfl (ev_move rfl) .free rfl rfl ?_
        refine go_front 1 rfl ?_
        simp only [List.eraseIdx_cons_succ, List.eraseIdx_cons_zero]
        refine p_val rfl (ev_move rfl) (.on rfl rfl (beq_eq rfl)) rfl rfl ?_
        refine p_call rfl (en_f Try.call29 rfl) (nkept_ok _ _ _ _) (.on rfl rfl (beq_eq rfl)) rfl rfl ?_ ?_
        rotate_left
        · rintro _ _ ⟨⟩
        rintro _ _ ⟨bw7, rest7, rfl, rfl⟩
        refine p_val rfl (ev_move rfl) (.on rfl rfl (beq_eq rfl)) rfl rfl ?_
        refine p_callq rfl (en_f Try.call26 rfl) (equal_tab _ _ _ _ _ _ _ _ _ (by omega) (fun _ _ => by rw [hf.calm.kept]) SlR.tab SlR.tab) (.on rfl rfl (beq_eq rfl)) rfl rfl ?_
        refine p_val rfl (ev_pick_t rfl rfl rfl) .free rfl rfl ?_
        refine p_val rfl (ev_assign rfl) .free rfl rfl ?_
        refine p_nil ?_
        refine go_sub (σ' := [(10, _)]) ⟨rfl, trivial⟩ ?_
        refine g_ret ?_
        exact ret_tmp Try.results6 rfl (fun w hh => ⟨rfl, hh.tail.tail.tail.tail.tail.tail.tail.tail⟩)
      · try simp only [decide_eq_true_eq, decide_eq_false_iff_not, Bool.not_eq_true', Bool.not_eq_false', Bool.or_eq_true, Bool.and_eq_true, Bool.and_eq_false_iff, Bool.or_eq_false_iff, beq_iff_eq, bne_iff_ne, beq_eq_false_iff_ne, bne_eq_false_iff_eq, ge_iff_le, gt_iff_lt, ne_eq] at h87
        refine g_region ?_
        refine p_val rfl (ev_move rfl) .free rfl rfl ?_
        refine p_call rfl (en_f Try.call17 rfl) (scommitO_ok _ _ _ _ _ hSw (Nat.zero_le _)) .free rfl rfl ?_ ?_
        rotate_left
        · rintro _ _ ⟨s', hm, -, -⟩
          rw [commit_zero rfl rfl] at hm; cases hm
        rintro _ _ ⟨S', s', hm, rfl, rfl⟩
        rw [commit_zero rfl rfl] at hm; cases hm
        refine p_val rfl (ev_assign rfl) .free rfl rfl ?_
        refine p_nil ?_
        refine g_seq ?_
        refine g_region ?_
        refine go_front 1 rfl ?_
        simp only [List.eraseIdx_cons_succ, List.eraseIdx_cons_zero]
        refine p_val rfl (ev_move rfl) .free rfl rfl ?_
        refine p_val rfl (ev_cmp rfl rfl rfl) .free rfl rfl ?_
        refine p_val rfl (ev_move rfl) .free rfl rfl ?_
        refine p_val rfl (ev_move rfl) (.on rfl rfl (beq_eq rfl)) rfl rfl ?_
        refine p_call rfl (en_f Try.call27 rfl) (nwords_ok _ _ _ _) (.on rfl rfl (beq_eq rfl)) rfl rfl ?_ ?_
        rotate_left
        · rintro _ _ ⟨⟩
        rintro _ _ ⟨bw9, rest9, rfl, rfl⟩
        refine p_val rfl (ev_move rfl) (.on rfl rfl (beq_eq rfl)) rfl rfl ?_
        refine p_callq rfl (en_f Try.call26 rfl) (equal_tab _ _ _ _ _ _ _ _ _ (by omega) (fun _ _ => rfl) SlR.tab SlR.tab) (.on rfl rfl (beq_eq rfl)) rfl rfl ?_
        refine p_val rfl (ev_pick_t rfl rfl rfl) .free rfl rfl ?_
        refine p_val rfl (ev_move rfl) .free rfl rfl ?_
        refine go_front 1 rfl ?_
        simp only [List.eraseIdx_cons_succ, List.eraseIdx_cons_zero]
        refine p_val rfl (ev_move rfl) (.on rfl rfl (beq_eq rfl)) rfl rfl ?_
        refine p_call rfl (en_f Try.call29 rfl) (nkept_ok _ _ _ _) (.on rfl rfl (beq_eq rfl)) rfl rfl ?_ ?_
        rotate_left
        · rintro _ _ ⟨⟩
        rintro _ _ ⟨bw10, rest10, rfl, rfl⟩
        refine p_val rfl (ev_move rfl) (.on rfl rfl (beq_eq rfl)) rfl rfl ?_
        refine p_callq rfl (en_f Try.call26 rfl) (equal_tab _ _ _ _ _ _ _ _ _ (by omega) (fun _ _ => by rw [hf.calm.kept]) SlR.tab SlR.tab) (.on rfl rfl (beq_eq rfl)) rfl rfl ?_
        refine p_val rfl (ev_pick_t rfl rfl rfl) .free rfl rfl ?_
        refine p_val rfl (ev_assign rfl) .free rfl rfl ?_
        refine p_nil ?_
        refine go_sub (σ' := [(10, _)]) ⟨rfl, trivial⟩ ?_
        refine g_ret ?_
        exact ret_tmp Try.results6 rfl (fun w hh => ⟨rfl, hh.tail.tail.tail.tail.tail.tail.tail.tail⟩)
    · try simp only [decide_eq_true_eq, decide_eq_false_iff_not, Bool.not_eq_true', Bool.not_eq_false', Bool.or_eq_true, Bool.and_eq_true, Bool.and_eq_false_iff, Bool.or_eq_false_iff, beq_iff_eq, bne_iff_ne, beq_eq_false_iff_ne, bne_eq_false_iff_eq, ge_iff_le, gt_iff_lt, ne_eq] at h81
      refine g_skip ?_
      refine g_seq ?_
      refine g_region ?_
      refine p_val rfl (ev_assign rfl) .free rfl rfl ?_
      refine p_nil ?_
      refine g_seq ?_
      refine g_seq ?_
      refine g_region ?_
      refine p_val rfl (ev_move rfl) .free rfl rfl ?_
      refine p_nil ?_
      refine g_if rfl (fun h87 => ?_) (fun h87 => ?_)
      · try simp only [decide_eq_true_eq, decide_eq_false_iff_not, Bool.not_eq_true', Bool.not_eq_false', Bool.or_eq_true, Bool.and_eq_true, Bool.and_eq_false_iff, Bool.or_eq_false_iff, beq_iff_eq, bne_iff_ne, beq_eq_false_iff_ne, bne_eq_false_iff_eq, ge_iff_le, gt_iff_lt, ne_eq] at h87
        refine g_region ?_
        refine p_val rfl (ev_move rfl) .free rfl rfl ?_
        refine p_call rfl (en_f Try.call22 rfl) (sabortO_ok _ _ _ _ _ hSw) .free rfl rfl ?_ ?_
        rotate_left
        · rintro _ _ ⟨s', hm, -, -⟩
          rw [abort_zero rfl] at hm; cases hm
        rintro _ _ ⟨S', s', hm, rfl, rfl⟩
        rw [abort_zero rfl] at hm; cases hm
        refine p_val rfl (ev_assign rfl) .free rfl rfl ?_
        refine p_nil ?_
        refine go_sub (σ' := [(18, _), (14, _), (11, _), (10, _)]) ⟨rfl, rfl, rfl, rfl, trivial⟩ ?_
        refine g_seq ?_
        refine g_region ?_
        refine go_front 1 rfl ?_
        simp only [List.eraseIdx_cons_succ, List.eraseIdx_cons_zero]
        refine p_val rfl (ev_move rfl) .free rfl rfl ?_
        refine p_val rfl (ev_cmp rfl rfl rfl) .free rfl rfl ?_
        refine p_val rfl (ev_move rfl) .free rfl rfl ?_
        refine p_val rfl (ev_move rfl) (.on rfl rfl (beq_eq rfl)) rfl rfl ?_
        refine p_call rfl (en_f Try.call27 rfl) (nwords_ok _ _ _ _) (.on rfl rfl (beq_eq rfl)) rfl rfl ?_ ?_
        rotate_left
        · rintro _ _ ⟨⟩
        rintro _ _ ⟨bw12, rest12, rfl, rfl⟩
        refine p_val rfl (ev_move rfl) (.on rfl rfl (beq_eq rfl)) rfl rfl ?_
        refine p_callq rfl (en_f Try.call26 rfl) (equal_tab _ _ _ _ _ _ _ _ _ (by omega) (fun _ _ => rfl) SlR.tab SlR.tab) (.on rfl rfl (beq_eq rfl)) rfl rfl ?_
        refine p_val rfl (ev_pick_t rfl rfl rfl) .free rfl rfl ?_
        refine p_val rfl (ev_move rfl) .free rfl rfl ?_
        refine go_front 1 rfl ?_
        simp only [List.eraseIdx_cons_succ, List.eraseIdx_cons_zero]
        refine p_val rfl (ev_move rfl) (.on rfl rfl (beq_eq rfl)) rfl rfl ?_
        refine p_call rfl (en_f Try.call29 rfl) (nkept_ok _ _ _ _) (.on rfl rfl (beq_eq rfl)) rfl rfl ?_ ?_
        rotate_left
        · rintro _ _ ⟨⟩
        rintro _ _ ⟨bw13, rest13, rfl, rfl⟩
        refine p_val rfl (ev_move rfl) (.on rfl rfl (beq_eq rfl)) rfl rfl ?_
        refine p_callq rfl (en_f Try.call26 rfl) (equal_tab _ _ _ _ _ _ _ _ _ (by omega) (fun _ _ => by rw [hf.calm.kept]) SlR.tab SlR.tab) (.on rfl rfl (beq_eq rfl)) rfl rfl ?_
        refine p_val rfl (ev_pick_t rfl rfl rfl) .free rfl rfl ?_
        refine p_val rfl (ev_assign rfl) .free rfl rfl ?_
        refine p_nil ?_
        refine go_sub (σ' := [(10, _)]) ⟨rfl, trivial⟩ ?_
        refine g_ret ?_
        exact ret_tmp Try.results6 rfl (fun w hh => ⟨rfl, hh.tail.tail.tail.tail.tail.tail.tail.tail⟩)
      · try simp only [decide_eq_true_eq, decide_eq_false_iff_not, Bool.not_eq_true', Bool.not_eq_false', Bool.or_eq_true, Bool.and_eq_true, Bool.and_eq_false_iff, Bool.or_eq_false_iff, beq_iff_eq, bne_iff_ne, beq_eq_false_iff_ne, bne_eq_false_iff_eq, ge_iff_le, gt_iff_lt, ne_eq] at h87
        refine g_region ?_
        refine p_val rfl (ev_move rfl) .free rfl rfl ?_
        refine p_call rfl (en_f Try.call17 rfl) (scommitO_ok _ _ _ _ _ hSw (Nat.zero_le _)) .free rfl rfl ?_ ?_
        rotate_left
        · rintro _ _ ⟨s', hm, -, -⟩
          rw [commit_zero rfl rfl] at hm; cases hm
        rintro _ _ ⟨S', s', hm, rfl, rfl⟩
        rw [commit_zero rfl rfl] at hm; cases hm
        refine p_val rfl (ev_assign rfl) .free rfl rfl ?_
        refine p_nil ?_
        refine go_sub (σ' := [(18, _), (14, _), (11, _), (10, _)]) ⟨rfl, rfl, rfl, rfl, trivial⟩ ?_
        refine g_seq ?_
        refine g_region ?_
        refine go_front 1 rfl ?_
        simp only [List.eraseIdx_cons_succ, List.eraseIdx_cons_zero]
        refine p_val rfl (ev_move rfl) .free rfl rfl ?_
        refine p_val rfl (ev_cmp rfl rfl rfl) .free rfl rfl ?_
        refine p_val rfl (ev_move rfl) .free rfl rfl ?_
        refine p_val rfl (ev_move rfl) (.on rfl rfl (beq_eq rfl)) rfl rfl ?_
        refine p_call rfl (en_f Try.call27 rfl) (nwords_ok _ _ _ _) (.on rfl rfl (beq_eq rfl)) rfl rfl ?_ ?_
        rotate_left
        · rintro _ _ ⟨⟩
        rintro _ _ ⟨bw15, rest15, rfl, rfl⟩
        refine p_val rfl (ev_move rfl) (.on rfl rfl (beq_eq rfl)) rfl rfl ?_
        refine p_callq rfl (en_f Try.call26 rfl) (equal_tab _ _ _ _ _ _ _ _ _ (by omega) (fun _ _ => rfl) SlR.tab SlR.tab) (.on rfl rfl (beq_eq rfl)) rfl rfl ?_
        refine p_val rfl (ev_pick_t rfl rfl rfl) .free rfl rfl ?_
        refine p_val rfl (ev_move rfl) .free rfl rfl ?_
        refine go_front 1 rfl ?_
        simp only [List.eraseIdx_cons_succ, List.eraseIdx_cons_zero]
        refine p_val rfl (ev_move rfl) (.on rfl rfl (beq_eq rfl)) rfl rfl ?_
        refine p_call rfl (en_f Try.call29 rfl) (nkept_ok _ _ _ _) (.on rfl rfl (beq_eq rfl)) rfl rfl ?_ ?_
        rotate_left
        · rintro _ _ ⟨⟩
        rintro _ _ ⟨bw16, rest16, rfl, rfl⟩
        refine p_val rfl (ev_move rfl) (.on rfl rfl (beq_eq rfl)) rfl rfl ?_
        refine p_callq rfl (en_f Try.call26 rfl) (equal_tab _ _ _ _ _ _ _ _ _ (by omega) (fun _ _ => by rw [hf.calm.kept]) SlR.tab SlR.tab) (.on rfl rfl (beq_eq rfl)) rfl rfl ?_
        refine p_val rfl (ev_pick_t rfl rfl rfl) .free rfl rfl ?_
        refine p_val rfl (ev_assign rfl) .free rfl rfl ?_
        refine p_nil ?_
        refine go_sub (σ' := [(10, _)]) ⟨rfl, trivial⟩ ?_
        refine g_ret ?_
        exact ret_tmp Try.results6 rfl (fun w hh => ⟨rfl, hh.tail.tail.tail.tail.tail.tail.tail.tail⟩)


theorem sectionEmpty_walk (W : World) (z : Int × Int × Int) (w0 : (Lit.int .u16 z.1).wf = true ∧ (Lit.int .u16 z.2.1).wf = true ∧ (Lit.int .u16 z.2.2).wf = true) {l : Option Addr} {len cap : Nat} {xs : List Int} (w1 : len = xs.length ∧ len ≤ 9223372036854775807 ∧ ArgRow W l len 1 (fun i => [w64 (xs.getD i 0)])) (cm : Bool) (i : Int) (wi : (Lit.int .i64 i).wf = true) (v : Int) (wv : (Lit.int .u64 v).wf = true) :
    Calls Try.prog 6 #[.agg #[u16 z.1, u16 z.2.1, u16 z.2.2], .slice l len cap, .bool cm, .int .i64 i, .int .u64 v] W fun e w' => e = .returned (.bool true) ∧ RowKit.Below W.heap.size W w' := by
  have b0 := bounds_u16 w0.1
  have b1 := bounds_u16 w0.2.1
  have b2 := bounds_u16 w0.2.2
  have b3 := bounds_i64 wi
  obtain ⟨rfl, w2, w3⟩ := w1
  exact law_of (sectionEmpty_ok W [old W] z.1 z.2.1 z.2.2 (by omega) (by omega) (by omega) l cap xs w2 (some_u64 w3) (slr_u64 w3) cm i v (by omega))

namespace sectionEmpty
open Go.ChangeShapes Go.WideShapes Go.ChangeAt Go.RowKit
set_option maxRecDepth 100000 in
theorem lifted (os : Os) (started : os.Started) (H : Type) (enc : TypeId × Value → H) :
    ReturnsInHanded {} Try.checked os 6 .any (Rows.sectionEmptySpec.pre6 enc Try.prog Try.f6 Rows.sectionEmptyRow.domain false) (Rows.sectionEmptySpec.post enc Try.prog Try.f6 false true false false) := by
  refine returnsInHanded_of_change (C := Try.checked) Try.ownKnobs started (by kernel_rfl) Try.func6
    (ChangeSpec.witness6 (enc := enc) (C := Try.checked) false ⟨#[], #[.agg #[.int .u16 0, .int .u16 0, .int .u16 0], .slice none 0 0, .bool false, .int .i64 0, .int .u64 0], []⟩ 8 (by kernel_rfl) (by kernel_rfl) (by kernel_rfl) (by kernel_rfl)) ?_
  intro W base args ds gs before hval0 hW hcnd _
  have hval : ∀ (j : Nat) t v, Try.f6.params[j]? = some t → args[j]? = some v → Value.okWide Try.prog W .any base t v := hval0
  have hW' := hW
  obtain ⟨p, q, hA0, hV, rfl, hfz, hnd⟩ := hW
  have hA : DataW.TrodAll enc Try.prog W 0 (fun _ => true) true Try.f6.params.toList args.toList ds p := hA0
  rw [Try.params6] at hA hval
  obtain ⟨v0, vs0, d0, ds0, p0, q0, hargs, rfl, rfl, h0, r0⟩ := trodAll_cons hA
  obtain ⟨v1, vs1, d1, ds1, p1, q1, rfl, rfl, rfl, h1, r1⟩ := trodAll_cons r0
  obtain ⟨v2, vs2, d2, ds2, p2, q2, rfl, rfl, rfl, h2, r2⟩ := trodAll_cons r1
  obtain ⟨v3, vs3, d3, ds3, p3, q3, rfl, rfl, rfl, h3, r3⟩ := trodAll_cons r2
  obtain ⟨v4, vs4, d4, ds4, p4, q4, rfl, rfl, rfl, h4, r4⟩ := trodAll_cons r3
  obtain ⟨rfl, rfl, rfl⟩ := trodAll_nil r4
  obtain rfl : args = #[v0, v1, v2, v3, v4] := by cases args; simp_all
  obtain ⟨rfl, rfl⟩ := trodVars_none hV
  have k0 := h0
  have lt0 : ∀ x ∈ p0, x.block < W.heap.size := by obtain ⟨m, hm⟩ := k0; exact DataW.trod_lt m _ _ _ hm
  obtain ⟨z0, rfl, w0⟩ := arg_st_u16_u16_u16 (hval 0 24 v0 rfl rfl) h0
  obtain ⟨a1, len1, cap1, rfl⟩ := okWide_slice Try.underlying39 (hval 1 39 v1 rfl rfl)
  have k1 := h1
  have lt1 : ∀ x ∈ p1, x.block < W.heap.size := by obtain ⟨m, hm⟩ := k1; exact DataW.trod_lt m _ _ _ hm
  obtain ⟨z1, w1⟩ := arg_sl_u64 h1
  have k2 := h2
  have lt2 : ∀ x ∈ p2, x.block < W.heap.size := by obtain ⟨m, hm⟩ := k2; exact DataW.trod_lt m _ _ _ hm
  obtain ⟨a2, rfl⟩ : ∃ a, v2 = .bool a := by
    obtain ⟨a, e, _, _⟩ := open_bool Try.underlying4 (hval 2 4 v2 rfl rfl) h2
    exact ⟨a, e⟩
  have k3 := h3
  have lt3 : ∀ x ∈ p3, x.block < W.heap.size := by obtain ⟨m, hm⟩ := k3; exact DataW.trod_lt m _ _ _ hm
  obtain ⟨a3, rfl, w3⟩ : ∃ a, v3 = .int .i64 a ∧ (Lit.int .i64 a).wf = true := by
    obtain ⟨a, e, _, _, wa⟩ := open_int Try.underlying3 (hval 3 3 v3 rfl rfl) h3
    exact ⟨a, e, wa⟩
  have k4 := h4
  have lt4 : ∀ x ∈ p4, x.block < W.heap.size := by obtain ⟨m, hm⟩ := k4; exact DataW.trod_lt m _ _ _ hm
  obtain ⟨a4, rfl, w4⟩ : ∃ a, v4 = .int .u64 a ∧ (Lit.int .u64 a).wf = true := by
    obtain ⟨a, e, _, _, wa⟩ := open_int Try.underlying46 (hval 4 46 v4 rfl rfl) h4
    exact ⟨a, e, wa⟩
  clear hA0 hval0
  refine (sectionEmpty_walk W z0 w0 w1 a2 a3 w3 a4 w4).mono fun e W' ⟨he, bel⟩ => ?_
  subst he
  exact ⟨_, rfl, _, _, _, [], _, [], hW', trodAll_mk1 (shut_bool Try.underlying4 _), (trodAll_cons_mk (Below.trod Try.laidOut (by kernel_rfl) (of_decide_eq_true (by kernel_rfl)) k0 bel lt0) (trodAll_cons_mk (Below.trod Try.laidOut (by kernel_rfl) (of_decide_eq_true (by kernel_rfl)) k1 bel lt1) (trodAll_cons_mk (Below.trod Try.laidOut (by kernel_rfl) (of_decide_eq_true (by kernel_rfl)) k2 bel lt2) (trodAll_cons_mk (Below.trod Try.laidOut (by kernel_rfl) (of_decide_eq_true (by kernel_rfl)) k3 bel lt3) (trodAll_cons_mk (Below.trod Try.laidOut (by kernel_rfl) (of_decide_eq_true (by kernel_rfl)) k4 bel lt4) trodAll_mk0))))), rfl, bel.frame _, fun h => by cases h⟩
theorem over : Rows.sectionEmptyRow.holds Try.pinned (OpenSpec.ofChange Rows.sectionEmptySpec) :=
  OpenClaim.holds_of_wide 6 Try.f6 rfl rfl rfl rfl rfl rfl rfl ⟨rfl, rfl, rfl, rfl, rfl⟩ rfl rfl rfl rfl rfl (by kernel_rfl) Try.func6 (by kernel_rfl)
    (of_decide_eq_true (by kernel_rfl)) (by unfold Func.isWrapper; first | (rw [if_pos (by decide +kernel)]; kernel_rfl) | (rw [if_neg (by decide +kernel)]; exact ⟨rfl, rfl⟩))
    (fun os started H enc _ => lifted os started H enc)
/-- The statement. -/
theorem proved : Rows.SectionEmptySaid := over
end sectionEmpty

end Go.Proofs.Ytbhpbnedocdneaa
