/- The law SectionPlays: the walk. Conditions: none. -/
import Derived.Test.YtbhpbnedocdneaaSpl
import Derived.Test.YtbhpbnedocdneaaArg
set_option linter.unusedSimpArgs false
set_option linter.unusedVariables false
set_option linter.unnecessarySimpa false
set_option linter.unusedSectionVars false
namespace Go.Proofs.Ytbhpbnedocdneaa
set_option linter.unusedSimpArgs false
set_option linter.unusedVariables false
open Go
structure PlayI where
  k : Nat
  s : Dev
  S : SecS
  M : MS

theorem sectionPlays_ok (B : World) (Fr : List HP) [HasOld Fr B] (l r s : Int) (hl : 0 ≤ l) (hr : 0 ≤ r) (hs : 0 ≤ s) (q : Option Addr) (cap : Nat) (xs : List Int) (hx' : xs.length ≤ 9223372036854775807) (hq : ∀ i, i < xs.length → ∃ b off, q = some ⟨b, off, none⟩) (hsl : SlR B Fr (.slice q xs.length cap) (xs.map w64)) (qa : Option Addr) (len capa : Nat) (A : Nat → Int × Int × Int) (hlen0 : len ≤ 9223372036854775807) (hA : ∀ i, i < len → 0 ≤ (A i).1 ∧ (A i).1 ≤ 255 ∧ 0 ≤ (A i).2.1 ∧ (A i).2.1 ≤ 65535) (ha : ArgRow B qa len 3 (fun i => [.int .u8 (A i).1, u16 (A i).2.1, w64 (A i).2.2])) (fh : Int) (hfr : 0 ≤ fh) :
    ∀ w, Holds B Fr w → Calls Try.prog 4 [.agg #[u16 l, u16 r, u16 s], .slice q xs.length cap, .slice qa len capa, u8 fh].toArray w (PureR B Fr (.bool true)) := by
  refine fn_enter Try.func4 rfl Try.ntmps4 rfl ?_
  obtain ⟨c, hcm⟩ : ∃ c, c = mkC l r s := ⟨_, rfl⟩
  have hc : CfgW c := by rw [hcm]; exact mkC_w hl hr hs
  obtain ⟨hA1, hA2, hA3⟩ := act_w hc
  refine g_seq ?_
  refine g_region ?_
  refine p_chg rfl (ch_boxA rfl) .free rfl rfl ?_
  rintro _ _ ⟨b4, rfl, rfl⟩
  refine p_val rfl (ev_assign rfl) .free rfl rfl ?_
  refine p_nil ?_
  refine g_seq ?_
  refine g_seq ?_
  refine g_region ?_
  refine p_callq rfl (en_f Try.call9 rfl) (awake7_ok _ _) .free rfl rfl ?_
  refine p_val rfl (ev_not rfl) .free rfl rfl ?_
  refine p_nil ?_
  refine g_iff rfl (rfl) ?_
  refine g_skip ?_
  refine g_seq ?_
  refine g_seq ?_
  refine g_region ?_
  refine p_val rfl (ev_move rfl) .free rfl rfl ?_
  refine p_val rfl (ev_len rfl Try.runUnderlying39 ⟨_, rfl⟩ rfl) .free rfl rfl ?_
  refine p_val rfl (ev_cmp rfl rfl rfl) .free rfl rfl ?_
  refine p_val rfl (ev_move rfl) .free rfl rfl ?_
  apply p_or (tp := 23) (t := 19) (σ1 := [(19, _), (8, _), (4, _), (1, _), (2, _), (3, _)]) 4 rfl ⟨rfl, rfl, rfl, rfl, rfl, rfl, trivial⟩
  · intro hg1
    refine p_val rfl (ev_move rfl) (.on rfl rfl (beq_eq hg1)) rfl rfl ?_
    refine p_val rfl (ev_len rfl Try.runUnderlying54 ⟨_, rfl⟩ rfl) (.on rfl rfl (beq_eq hg1)) rfl rfl ?_
    refine p_val rfl (ev_cmp rfl rfl rfl) (.on rfl rfl (beq_eq hg1)) rfl rfl ?_
    refine p_val rfl (ev_pick_f rfl hg1 rfl) .free rfl rfl ?_
    exact p_seg rfl ⟨rfl, rfl, rfl, rfl, rfl, rfl, trivial⟩ (or_f hg1)
  · intro hg1
    refine p_skip rfl (.on rfl rfl (beq_ne hg1)) rfl ?_
    refine p_skip rfl (.on rfl rfl (beq_ne hg1)) rfl ?_
    refine p_skip rfl (.on rfl rfl (beq_ne hg1)) rfl ?_
    refine p_val rfl (ev_pick_t rfl hg1 rfl) .free rfl rfl ?_
    exact p_seg rfl ⟨rfl, rfl, rfl, rfl, rfl, rfl, trivial⟩ (or_t hg1)
  refine p_nil ?_
  refine g_if rfl (fun h23 => ?_) (fun h23 => ?_)
  · try simp only [decide_eq_true_eq, decide_eq_false_iff_not, Bool.not_eq_true', Bool.not_eq_false', Bool.or_eq_true, Bool.and_eq_true, Bool.and_eq_false_iff, Bool.or_eq_false_iff, beq_iff_eq, bne_iff_ne, beq_eq_false_iff_ne, bne_eq_false_iff_eq, ge_iff_le, gt_iff_lt, ne_eq] at h23
    refine g_seq ?_
    refine g_region ?_
    refine p_val rfl (ev_assign rfl) .free rfl rfl ?_
    refine p_nil ?_
    refine g_ret ?_
    exact ret_tmp Try.results4 rfl (fun w hh => ⟨rfl, hh.tail⟩)
  · have hx : xs.length ≤ 100000 ∧ len ≤ 60 := by simp at h23; omega
    obtain ⟨hx, hlen6⟩ := hx
    refine g_skip ?_
    refine g_seq ?_
    refine g_region ?_
    refine p_val rfl (ev_loadA Try.isAgg24 Try.sizeOf24 rfl rfl) .free rfl rfl ?_
    refine p_val rfl (ev_move rfl) .free rfl rfl ?_
    refine p_call rfl (en_f Try.call10 rfl) (start_ok _ _ l r s hl hr hs c hcm q cap xs hx hq (hsl.cons _)) .free rfl rfl ?_ ?_
    rotate_left
    · rintro _ _ ⟨⟩
    rintro _ _ ⟨bd, bs, bm, bc, s0, rest, hf, hn, rfl, rfl⟩
    refine p_val rfl (ev_move rfl) .free rfl rfl ?_
    refine p_val rfl (ev_ext rfl rfl) .free rfl rfl ?_
    refine p_val rfl (ev_ext rfl rfl) .free rfl rfl ?_
    refine p_val rfl (ev_ext rfl rfl) .free rfl rfl ?_
    refine p_val rfl (ev_assign rfl) .free rfl rfl ?_
    refine p_val rfl (ev_assign rfl) .free rfl rfl ?_
    refine p_val rfl (ev_assign rfl) .free rfl rfl ?_
    refine p_nil ?_
    refine go_sub (σ' := [(11, _), (10, _), (9, _), (8, _), (2, _), (3, _)]) ⟨rfl, rfl, rfl, rfl, rfl, rfl, trivial⟩ ?_
    refine g_seq ?_
    refine g_seq ?_
    refine g_region ?_
    refine p_val rfl (ev_move rfl) .free rfl rfl ?_
    refine p_val rfl (ev_eqp Try.runUnderlying27 rfl rfl rfl) .free rfl rfl ?_
    refine p_nil ?_
    refine g_iff rfl (rfl) ?_
    refine g_skip ?_
    refine g_seq ?_
    refine g_seq ?_
    refine g_region ?_
    simp only [hf.log]
    refine p_val rfl (ev_move rfl) .free rfl rfl ?_
    refine p_val rfl (ev_len rfl Try.runUnderlying54 ⟨_, rfl⟩ rfl) .free rfl rfl ?_
    refine p_val rfl (ev_move rfl) .free rfl rfl ?_
    refine p_nil ?_
    refine g_block ?_
    refine g_loop (ι := PlayI) (fun i => i.k ≤ len ∧ PI False c s0.n bd i.M i.S i.s) (fun i => [(3, u8 fh), (9, ptr bd), (10, ptr bs), (11, ptr bm), (8, .bool false), (33, .slice qa len capa), (34, i64 len), (35, i64 i.k)]) (fun i => MA bm i.M :: SecX i.M.o bs i.S :: DevA bd i.s :: row b4 [u16 l, u16 r, u16 s] 24 :: Fr) (fun i => len - i.k) ⟨0, s0, ⟨⟨bd, c, 1, 0⟩, 0, 0, [], []⟩, ⟨c, s0.n - c.active.toNat, fun i => s0.now (c.active.toNat + i), none, [], false, 0, 0⟩⟩ ⟨Nat.zero_le _, ⟨rfl, rfl, rfl, hn, fun _ _ => rfl, rfl, fun _ => ⟨⟨hf.lim, hf.calm.q⟩, fun h => h.elim, rfl, ⟨hc, show (0 : Int) ≤ 1 by decide, show (1 : Int) < 4294967296 by decide, show (0 : Int) ≤ 0 by decide, by have := hc.l1; have := hc.r1; show (0 : Int) ≤ c.log; omega⟩, rfl, hf.ep.1, by rw [hf.ep.2]; show (0 : Int) ≠ stampI 1 0; decide⟩, fun h => by cases h⟩⟩ (fun a w st => st.to ⟨rfl, rfl, rfl, rfl, rfl, rfl, rfl, rfl, trivial⟩ (fun hh => ma_holds (M := ⟨c, s0.n - c.active.toNat, fun i => s0.now (c.active.toNat + i), none, [], false, 0, 0⟩) ((((((accv_nil (Holds.unpr rfl hh)).front 0 rfl).front 1 rfl).front 3 rfl).front 3 rfl)))) ?_
    rintro ⟨k, s, S, M⟩ ⟨hk0, hP⟩
    simp only at hk0 hP ⊢
    refine g_seq ?_
    refine g_region ?_
    refine p_val rfl (ev_cmp rfl rfl rfl) .free rfl rfl ?_
    refine p_nil ?_
    refine g_seq ?_
    refine g_if rfl (fun h36 => ?_) (fun h36 => ?_)
    · have hk : k < len := by simpa using h36
      refine g_skip ?_
      refine g_seq ?_
      refine g_block ?_
      refine g_seq ?_
      refine g_region ?_
      obtain ⟨bq, oq, rfl, hz, hqa⟩ := ha.cell k hk
      refine p_val rfl (ev_ia Try.runUnderlying54 Try.sizeOf56 rfl rfl (by omega) (by omega) rfl) .free rfl rfl ?_
      refine p_val rfl (ev_loadOA (cs := [.int .u8 (A k).1, u16 (A k).2.1, w64 (A k).2.2]) Try.isAgg56 Try.sizeOf56 rfl rfl (fun j hj => by rw [Int.toNat_natCast, Nat.add_assoc]; exact hqa j hj)) .free rfl rfl ?_
      refine p_chg rfl (ch_allocA Try.zeroValue56 rfl) .free rfl rfl ?_
      rintro _ _ ⟨b13, rfl, rfl⟩
      refine p_chg0 rfl (ch_storeA (vs := _) Try.sizeOf56 rfl rfl rfl rfl rfl) .free rfl ?_
      rintro _ _ rfl
      refine p_nil ?_
      refine g_seq ?_
      refine g_drawm [4] Try.mixed (by kernel_rfl) (by kernel_rfl) ?_
      refine seg_q ?_
      refine q_val rfl (ev_move rfl) .free rfl ?_
      refine q_val rfl (ev_move rfl) .free rfl ?_
      refine q_val rfl (ev_loadA Try.isAgg56 Try.sizeOf56 rfl rfl) .free rfl ?_
      refine q_val rfl (ev_move rfl) .free rfl ?_
      refine q_nil ?_
      refine go_pull DevA bd ?_
      refine go_pull (SecX M.o) bs ?_
      refine go_pull MA bm ?_
      refine p_call rfl (en_f Try.call18 rfl) (mdo_pi _ _ _ _ _ _ False c M S s hc hP _ _ _ _ (hA k hk).1 ⟨(hA k hk).2.2.1, (hA k hk).2.2.2⟩ hfr (fun _ h => h)) .free rfl rfl ?_ ?_
      rotate_left
      · rintro _ _ ⟨⟩
      rintro rv _ ⟨M', S', s', rfl, hP', -, rfl⟩
      have hlen := hP'.len
      refine go_ma fun bc1 rest1 wv sv => ?_
      refine go_front 3 rfl ?_
      simp only [List.eraseIdx_cons_succ, List.eraseIdx_cons_zero]
      refine go_accsl fun q1 cap1 hq1 => ?_
      subst hq1
      refine go_pull (SecX M'.o) bs ?_
      refine go_secX fun bl m1 m2 => ?_
      have hl1 : (M'.o && (S'.L.n != (M'.js.length : Int))) = false := by
        cases ho : M'.o with
        | false => rfl
        | true => simp [hlen.1 ho]
      have hl2 : (!M'.o && (S'.L.n != 0)) = false := by
        cases ho : M'.o with
        | true => rfl
        | false => simp [hlen.2 ho]
      refine p_nil ?_
      refine seg_e ?_
      refine q_val rfl (ev_not rfl) .free rfl ?_
      refine q_val rfl (ev_move rfl) .free rfl ?_
      refine q_val rfl (ev_move rfl) (.on rfl rfl (beq_eq rfl)) rfl ?_
      refine q_val rfl (ev_move rfl) (.on rfl rfl (beq_eq rfl)) rfl ?_
      refine q_call rfl (en_f Try.call19 rfl) (pure_conv (fun w hh => (((((hh.front 7 rfl).front 4 rfl).front 7 rfl).front 7 rfl).front 7 rfl)) (fun w hh => ((((((((hh.front 4 rfl).front 3 rfl).front 3 rfl).front 3 rfl).front 4 rfl).front 7 rfl).front 7 rfl).front 7 rfl)) (msame_ok _ _ _ _ _ _ _ _ M' s' (by rw [hP'.mc]; exact hc) (by rw [hP'.n, hP'.mc]; exact hP'.hN) (by rw [hP'.nw, hP'.n, hP'.mc]) hP'.same)) (.on rfl rfl (beq_eq rfl)) rfl ?_
      refine q_val rfl (ev_not rfl) (.on rfl rfl (beq_eq rfl)) rfl ?_
      refine q_val rfl (ev_pick_f rfl rfl rfl) .free rfl ?_
      refine q_val rfl (ev_move rfl) .free rfl ?_
      refine q_val rfl (ev_move rfl) (.on rfl rfl (beq_eq rfl)) rfl ?_
      refine q_call rfl (en_f Try.call20 rfl) (sopenR_ok _ _ _ _ _ _ _ _) (.on rfl rfl (beq_eq rfl)) rfl ?_
      refine q_val rfl (ev_move rfl) (.on rfl rfl (beq_eq rfl)) rfl ?_
      first | refine q_val rfl (ev_nil rfl) (.on rfl rfl (beq_eq rfl)) rfl ?_ | refine q_val rfl (ev_nilf rfl) (.on rfl rfl (beq_eq rfl)) rfl ?_
      refine q_val rfl (ev_fa (m := _) fa_42_4 rfl rfl) (.on rfl rfl (beq_eq rfl)) rfl ?_
      refine q_val rfl (ev_load Try.isAgg4 rfl rfl) (.on rfl rfl (beq_eq rfl)) rfl ?_
      refine q_val rfl (ev_eqb Try.runUnderlying4 rfl rfl rfl) (.on rfl rfl (beq_eq rfl)) rfl ?_
      refine q_val rfl (ev_pick_f rfl rfl rfl) .free rfl ?_
      refine q_val rfl (ev_move rfl) .free rfl ?_
      refine q_val rfl (ev_move rfl) (.on rfl rfl (beq_eq (by simp))) rfl ?_
      first | refine q_val rfl (ev_nil rfl) (.on rfl rfl (beq_eq (by simp))) rfl ?_ | refine q_val rfl (ev_nilf rfl) (.on rfl rfl (beq_eq (by simp))) rfl ?_
      refine q_val rfl (ev_fa (m := _) fa_42_4 rfl rfl) (.on rfl rfl (beq_eq (by simp))) rfl ?_
      refine q_val rfl (ev_load Try.isAgg4 rfl rfl) (.on rfl rfl (beq_eq (by simp))) rfl ?_
      refine q_val rfl (ev_move rfl) (.on rfl rfl (beq_eq (by simp))) rfl ?_
      apply q_and (tp := 77) (t := 65) (σ1 := [(65, _), (60, _), (35, _), (34, _), (33, _), (11, _), (10, _), (9, _), (8, _), (3, _)]) 12 rfl ⟨rfl, rfl, rfl, rfl, rfl, rfl, rfl, rfl, rfl, rfl, trivial⟩
      · intro hg2
        refine q_val rfl (ev_move rfl) (.on rfl rfl (beq_eq hg2)) rfl ?_
        first | refine q_val rfl (ev_nil rfl) (.on rfl rfl (beq_eq hg2)) rfl ?_ | refine q_val rfl (ev_nilf rfl) (.on rfl rfl (beq_eq hg2)) rfl ?_
        refine q_val rfl (ev_fa (m := _) fa_51_0 rfl rfl) (.on rfl rfl (beq_eq hg2)) rfl ?_
        refine q_val rfl (ev_load Try.isAgg48 rfl rfl) (.on rfl rfl (beq_eq hg2)) rfl ?_
        refine q_call rfl (en_f Try.call16 rfl) (pure_front 1 rfl (llen_ok _ _ _ _)) (.on rfl rfl (beq_eq hg2)) rfl ?_
        refine q_val rfl (ev_move rfl) (.on rfl rfl (beq_eq hg2)) rfl ?_
        first | refine q_val rfl (ev_nil rfl) (.on rfl rfl (beq_eq hg2)) rfl ?_ | refine q_val rfl (ev_nilf rfl) (.on rfl rfl (beq_eq hg2)) rfl ?_
        refine q_val rfl (ev_fa (m := _) fa_42_3 rfl rfl) (.on rfl rfl (beq_eq hg2)) rfl ?_
        refine q_val rfl (ev_load Try.isAgg40 rfl rfl) (.on rfl rfl (beq_eq hg2)) rfl ?_
        refine q_val rfl (ev_len rfl Try.runUnderlying40 ⟨_, rfl⟩ rfl) (.on rfl rfl (beq_eq hg2)) rfl ?_
        refine q_val rfl (ev_cmp rfl rfl rfl) (.on rfl rfl (beq_eq hg2)) rfl ?_
        refine q_val rfl (ev_pick_t rfl hg2 rfl) (.on rfl rfl (beq_eq (by simp))) rfl ?_
        exact q_seg rfl ⟨rfl, rfl, rfl, rfl, rfl, rfl, rfl, rfl, rfl, rfl, trivial⟩ (and_t hg2)
      · intro hg2
        refine q_skip rfl (.on rfl rfl (beq_ne hg2)) rfl ?_
        refine q_skip rfl (.on rfl rfl (beq_ne hg2)) rfl ?_
        refine q_skip rfl (.on rfl rfl (beq_ne hg2)) rfl ?_
        refine q_skip rfl (.on rfl rfl (beq_ne hg2)) rfl ?_
        refine q_skip rfl (.on rfl rfl (beq_ne hg2)) rfl ?_
        refine q_skip rfl (.on rfl rfl (beq_ne hg2)) rfl ?_
        refine q_skip rfl (.on rfl rfl (beq_ne hg2)) rfl ?_
        refine q_skip rfl (.on rfl rfl (beq_ne hg2)) rfl ?_
        refine q_skip rfl (.on rfl rfl (beq_ne hg2)) rfl ?_
        refine q_skip rfl (.on rfl rfl (beq_ne hg2)) rfl ?_
        refine q_skip rfl (.on rfl rfl (beq_ne hg2)) rfl ?_
        refine q_val rfl (ev_pick_f rfl hg2 rfl) (.on rfl rfl (beq_eq (by simp))) rfl ?_
        exact q_seg rfl ⟨rfl, rfl, rfl, rfl, rfl, rfl, rfl, rfl, rfl, rfl, trivial⟩ (and_f hg2)
      refine q_val rfl (ev_pick_f rfl (by simp) rfl) .free rfl ?_
      refine q_val rfl (ev_move rfl) .free rfl ?_
      refine q_val rfl (ev_move rfl) (.on rfl rfl (beq_eq hl1)) rfl ?_
      first | refine q_val rfl (ev_nil rfl) (.on rfl rfl (beq_eq hl1)) rfl ?_ | refine q_val rfl (ev_nilf rfl) (.on rfl rfl (beq_eq hl1)) rfl ?_
      refine q_val rfl (ev_fa (m := _) fa_42_4 rfl rfl) (.on rfl rfl (beq_eq hl1)) rfl ?_
      refine q_val rfl (ev_load Try.isAgg4 rfl rfl) (.on rfl rfl (beq_eq hl1)) rfl ?_
      refine q_val rfl (ev_not rfl) (.on rfl rfl (beq_eq hl1)) rfl ?_
      refine q_val rfl (ev_move rfl) (.on rfl rfl (beq_eq hl1)) rfl ?_
      apply q_and (tp := 92) (t := 85) (σ1 := [(85, _), (79, _), (35, _), (34, _), (33, _), (11, _), (10, _), (9, _), (8, _), (3, _)]) 7 rfl ⟨rfl, rfl, rfl, rfl, rfl, rfl, rfl, rfl, rfl, rfl, trivial⟩
      · intro hg3
        refine q_val rfl (ev_move rfl) (.on rfl rfl (beq_eq hg3)) rfl ?_
        first | refine q_val rfl (ev_nil rfl) (.on rfl rfl (beq_eq hg3)) rfl ?_ | refine q_val rfl (ev_nilf rfl) (.on rfl rfl (beq_eq hg3)) rfl ?_
        refine q_val rfl (ev_fa (m := _) fa_51_0 rfl rfl) (.on rfl rfl (beq_eq hg3)) rfl ?_
        refine q_val rfl (ev_load Try.isAgg48 rfl rfl) (.on rfl rfl (beq_eq hg3)) rfl ?_
        refine q_call rfl (en_f Try.call16 rfl) (pure_front 1 rfl (llen_ok _ _ _ _)) (.on rfl rfl (beq_eq hg3)) rfl ?_
        refine q_val rfl (ev_cmp rfl rfl rfl) (.on rfl rfl (beq_eq hg3)) rfl ?_
        refine q_val rfl (ev_pick_t rfl hg3 rfl) (.on rfl rfl (beq_eq hl1)) rfl ?_
        exact q_seg rfl ⟨rfl, rfl, rfl, rfl, rfl, rfl, rfl, rfl, rfl, rfl, trivial⟩ (and_t hg3)
      · intro hg3
        refine q_skip rfl (.on rfl rfl (beq_ne hg3)) rfl ?_
        refine q_skip rfl (.on rfl rfl (beq_ne hg3)) rfl ?_
        refine q_skip rfl (.on rfl rfl (beq_ne hg3)) rfl ?_
        refine q_skip rfl (.on rfl rfl (beq_ne hg3)) rfl ?_
        refine q_skip rfl (.on rfl rfl (beq_ne hg3)) rfl ?_
        refine q_skip rfl (.on rfl rfl (beq_ne hg3)) rfl ?_
        refine q_val rfl (ev_pick_f rfl hg3 rfl) (.on rfl rfl (beq_eq hl1)) rfl ?_
        exact q_seg rfl ⟨rfl, rfl, rfl, rfl, rfl, rfl, rfl, rfl, rfl, rfl, trivial⟩ (and_f hg3)
      refine q_val rfl (ev_pick_f rfl hl1 rfl) .free rfl ?_
      refine q_nil ?_
      refine g_iff rfl (hl2) ?_
      refine g_skip ?_
      refine g_region ?_
      first | refine p_val rfl (ev_add rfl rfl (wr64 (by omega))) .free rfl rfl ?_ | refine p_val rfl (ev_add rfl rfl rfl) .free rfl rfl ?_
      refine p_val rfl (ev_move rfl) .free rfl rfl ?_
      refine p_nil ?_
      exact fun a w st => ⟨⟨k + 1, s', S', M'⟩, ⟨by simp only; omega, hP'⟩, by simp only; omega, st.to ⟨rfl, rfl, rfl, rfl, rfl, rfl, rfl, rfl, trivial⟩ (fun hh => ma_holds (((((((secX_holds ((((hh.front 8 rfl).tail.front 2 rfl).front 2 rfl).front 2 rfl)).front 5 rfl).front 1 rfl).front 2 rfl).front 5 rfl).front 5 rfl).front 5 rfl))⟩
    · have hk : ¬ k < len := by simpa using h36
      refine g_exit ?_
      refine g_seq ?_
      refine g_region ?_
      refine p_val rfl (ev_assign rfl) .free rfl rfl ?_
      refine p_nil ?_
      refine go_sub (σ' := [(8, _)]) ⟨rfl, trivial⟩ ?_
      refine g_ret ?_
      exact ret_tmp Try.results4 rfl (fun w hh => ⟨rfl, hh.tail.tail.tail.tail⟩)


theorem sectionPlays_walk (W : World) (z : Int × Int × Int) (w0 : (Lit.int .u16 z.1).wf = true ∧ (Lit.int .u16 z.2.1).wf = true ∧ (Lit.int .u16 z.2.2).wf = true) {l : Option Addr} {len cap : Nat} {xs : List Int} (w1 : len = xs.length ∧ len ≤ 9223372036854775807 ∧ ArgRow W l len 1 (fun i => [w64 (xs.getD i 0)])) {la : Option Addr} {lena capa : Nat} {f : Nat → Int × Int × Int} (w2 : lena ≤ 9223372036854775807 ∧ (∀ i, i < lena → 0 ≤ (f i).1 ∧ (f i).1 ≤ 255 ∧ 0 ≤ (f i).2.1 ∧ (f i).2.1 ≤ 65535) ∧ ArgRow W la lena 3 (fun i => [.int .u8 (f i).1, u16 (f i).2.1, w64 (f i).2.2])) (fh : Int) (wf : (Lit.int .u8 fh).wf = true) :
    Calls Try.prog 4 #[.agg #[u16 z.1, u16 z.2.1, u16 z.2.2], .slice l len cap, .slice la lena capa, .int .u8 fh] W fun e w' => e = .returned (.bool true) ∧ RowKit.Below W.heap.size W w' := by
  have b0 := bounds_u16 w0.1
  have b1 := bounds_u16 w0.2.1
  have b2 := bounds_u16 w0.2.2
  have b3 := bounds_u8 wf
  obtain ⟨rfl, w3, w4⟩ := w1
  exact law_of (sectionPlays_ok W [old W] z.1 z.2.1 z.2.2 (by omega) (by omega) (by omega) l cap xs w3 (some_u64 w4) (slr_u64 w4) la lena capa f w2.1 w2.2.1 w2.2.2 fh (by omega))

namespace sectionPlays
open Go.ChangeShapes Go.WideShapes Go.ChangeAt Go.RowKit
set_option maxRecDepth 100000 in
theorem lifted (os : Os) (started : os.Started) (H : Type) (enc : TypeId × Value → H) :
    ReturnsInHanded {} Try.checked os 4 .any (Rows.sectionPlaysSpec.pre6 enc Try.prog Try.f4 Rows.sectionPlaysRow.domain false) (Rows.sectionPlaysSpec.post enc Try.prog Try.f4 false true false false) := by
  refine returnsInHanded_of_change (C := Try.checked) Try.ownKnobs started (by kernel_rfl) Try.func4
    (ChangeSpec.witness6 (enc := enc) (C := Try.checked) false ⟨#[], #[.agg #[.int .u16 0, .int .u16 0, .int .u16 0], .slice none 0 0, .slice none 0 0, .int .u8 0], []⟩ 8 (by kernel_rfl) (by kernel_rfl) (by kernel_rfl) (by kernel_rfl)) ?_
  intro W base args ds gs before hval0 hW hcnd _
  have hval : ∀ (j : Nat) t v, Try.f4.params[j]? = some t → args[j]? = some v → Value.okWide Try.prog W .any base t v := hval0
  have hW' := hW
  obtain ⟨p, q, hA0, hV, rfl, hfz, hnd⟩ := hW
  have hA : DataW.TrodAll enc Try.prog W 0 (fun _ => true) true Try.f4.params.toList args.toList ds p := hA0
  rw [Try.params4] at hA hval
  obtain ⟨v0, vs0, d0, ds0, p0, q0, hargs, rfl, rfl, h0, r0⟩ := trodAll_cons hA
  obtain ⟨v1, vs1, d1, ds1, p1, q1, rfl, rfl, rfl, h1, r1⟩ := trodAll_cons r0
  obtain ⟨v2, vs2, d2, ds2, p2, q2, rfl, rfl, rfl, h2, r2⟩ := trodAll_cons r1
  obtain ⟨v3, vs3, d3, ds3, p3, q3, rfl, rfl, rfl, h3, r3⟩ := trodAll_cons r2
  obtain ⟨rfl, rfl, rfl⟩ := trodAll_nil r3
  obtain rfl : args = #[v0, v1, v2, v3] := by cases args; simp_all
  obtain ⟨rfl, rfl⟩ := trodVars_none hV
  have k0 := h0
  have lt0 : ∀ x ∈ p0, x.block < W.heap.size := by obtain ⟨m, hm⟩ := k0; exact DataW.trod_lt m _ _ _ hm
  obtain ⟨z0, rfl, w0⟩ := arg_st_u16_u16_u16 (hval 0 24 v0 rfl rfl) h0
  obtain ⟨a1, len1, cap1, rfl⟩ := okWide_slice Try.underlying39 (hval 1 39 v1 rfl rfl)
  have k1 := h1
  have lt1 : ∀ x ∈ p1, x.block < W.heap.size := by obtain ⟨m, hm⟩ := k1; exact DataW.trod_lt m _ _ _ hm
  obtain ⟨z1, w1⟩ := arg_sl_u64 h1
  obtain ⟨a2, len2, cap2, rfl⟩ := okWide_slice Try.underlying54 (hval 2 54 v2 rfl rfl)
  have k2 := h2
  have lt2 : ∀ x ∈ p2, x.block < W.heap.size := by obtain ⟨m, hm⟩ := k2; exact DataW.trod_lt m _ _ _ hm
  obtain ⟨z2, w2⟩ := arg_sl_st_u8_u16_u64 h2
  have k3 := h3
  have lt3 : ∀ x ∈ p3, x.block < W.heap.size := by obtain ⟨m, hm⟩ := k3; exact DataW.trod_lt m _ _ _ hm
  obtain ⟨a3, rfl, w3⟩ : ∃ a, v3 = .int .u8 a ∧ (Lit.int .u8 a).wf = true := by
    obtain ⟨a, e, _, _, wa⟩ := open_int Try.underlying5 (hval 3 5 v3 rfl rfl) h3
    exact ⟨a, e, wa⟩
  clear hA0 hval0
  refine (sectionPlays_walk W z0 w0 w1 w2 a3 w3).mono fun e W' ⟨he, bel⟩ => ?_
  subst he
  exact ⟨_, rfl, _, _, _, [], _, [], hW', trodAll_mk1 (shut_bool Try.underlying4 _), (trodAll_cons_mk (Below.trod Try.laidOut (by kernel_rfl) (of_decide_eq_true (by kernel_rfl)) k0 bel lt0) (trodAll_cons_mk (Below.trod Try.laidOut (by kernel_rfl) (of_decide_eq_true (by kernel_rfl)) k1 bel lt1) (trodAll_cons_mk (Below.trod Try.laidOut (by kernel_rfl) (of_decide_eq_true (by kernel_rfl)) k2 bel lt2) (trodAll_cons_mk (Below.trod Try.laidOut (by kernel_rfl) (of_decide_eq_true (by kernel_rfl)) k3 bel lt3) trodAll_mk0)))), rfl, bel.frame _, fun h => by cases h⟩
theorem over : Rows.sectionPlaysRow.holds Try.pinned (OpenSpec.ofChange Rows.sectionPlaysSpec) :=
  OpenClaim.holds_of_wide 4 Try.f4 rfl rfl rfl rfl rfl rfl rfl ⟨rfl, rfl, rfl, rfl, rfl⟩ rfl rfl rfl rfl rfl (by kernel_rfl) Try.func4 (by kernel_rfl)
    (of_decide_eq_true (by kernel_rfl)) (by unfold Func.isWrapper; first | (rw [if_pos (by decide +kernel)]; kernel_rfl) | (rw [if_neg (by decide +kernel)]; exact ⟨rfl, rfl⟩))
    (fun os started H enc _ => lifted os started H enc)
/-- The statement. -/
theorem proved : Rows.SectionPlaysSaid := over
end sectionPlays

end Go.Proofs.Ytbhpbnedocdneaa
