/- Part of the texts beneath a law: what its proof names. Conditions: none. -/
import Derived.Test.YtlcibdhmgclfjaaGreatQL17Nf
set_option linter.unusedSimpArgs false
set_option linter.unusedVariables false
set_option linter.unnecessarySimpa false
set_option linter.unusedSectionVars false
namespace Go.Proofs.YtlcibdhmgclfjaaGreat
open Go
structure SecS where
  L : LogS
  ff : Int
  ft : Int
  seen : List (Int × Unit)
  dirty : List (Int × Unit)
abbrev secRow (b bl : Nat) (S : SecS) (o : Bool) (m1 m2 : Option Nat) : HP := row b [ptr bl, ptr S.L.d, i64 S.L.c.log, i64 S.L.c.roots, i64 S.L.c.space, .bool o, i64 S.ff, i64 S.ft, .map m1, .map m2] 129
def SecC (b : Nat) (S : SecS) : HP := hex fun (x : Nat × Option Nat × Option Nat) => grp [secRow b x.1 S false x.2.1 x.2.2, LogA x.1 S.L]
def SecO (b : Nat) (S : SecS) : HP := hex fun (x : Nat × Nat × Nat) => grp [secRow b x.1 S true (some x.2.1) (some x.2.2), LogA x.1 S.L, mapA .i64 unitE x.2.1 S.seen, mapA .i64 unitE x.2.2 S.dirty]
theorem go_secC {B : World} {n : Nat} {D : List Deferred} {σ : Env} {b : Nat} {S : SecS} {Fr : List HP} {K : Act → World → Prop} (h : ∀ bl o1 o2, GO B n D σ (secRow b bl S false o1 o2 :: LogA bl S.L :: Fr) K) : GO B n D σ (SecC b S :: Fr) K := fun a w st => by
  obtain ⟨x, hx⟩ := st.holds.hex
  exact h _ _ _ a w ⟨st.toStA, hx.grp⟩
theorem go_secO {B : World} {n : Nat} {D : List Deferred} {σ : Env} {b : Nat} {S : SecS} {Fr : List HP} {K : Act → World → Prop} (h : ∀ bl o1 o2, GO B n D σ (secRow b bl S true (some o1) (some o2) :: LogA bl S.L :: mapA .i64 unitE o1 S.seen :: mapA .i64 unitE o2 S.dirty :: Fr) K) : GO B n D σ (SecO b S :: Fr) K := fun a w st => by
  obtain ⟨x, hx⟩ := st.holds.hex
  exact h _ _ _ a w ⟨st.toStA, hx.grp⟩
theorem secC_holds {B : World} {b bl : Nat} {o1 o2 : Option Nat} {S : SecS} {Fr : List HP} {w : World} (h : Holds B (secRow b bl S false o1 o2 :: LogA bl S.L :: Fr) w) : Holds B (SecC b S :: Fr) w :=
  Holds.unhex (bl, o1, o2) (Holds.ungrp (l := [secRow b bl S false o1 o2, LogA bl S.L]) h)
theorem secO_holds {B : World} {b bl o1 o2 : Nat} {S : SecS} {Fr : List HP} {w : World} (h : Holds B (secRow b bl S true (some o1) (some o2) :: LogA bl S.L :: mapA .i64 unitE o1 S.seen :: mapA .i64 unitE o2 S.dirty :: Fr) w) : Holds B (SecO b S :: Fr) w :=
  Holds.unhex (bl, o1, o2) (Holds.ungrp (l := [secRow b bl S true (some o1) (some o2), LogA bl S.L, mapA .i64 unitE o1 S.seen, mapA .i64 unitE o2 S.dirty]) h)
structure SecW (S : SecS) : Prop where
  L : LogW S.L
  dirty : ∀ p ∈ S.dirty, 0 ≤ p.1 ∧ p.1 ≤ 1000000
theorem lk_unit (o : Option Unit) : (Value.tuple #[mval unitE (.agg #[]) o, .bool o.isSome]) = .tuple #[.agg #[], .bool o.isSome] := by cases o <;> rfl
def SecS.store (S : SecS) (s : Dev) (i v : Int) : Out (Int × SecS) :=
  if i < S.L.c.active ∨ (s.n : Int) ≤ i then .ok (1, S) s
  else if (mget S.seen i).isSome = false ∧ (i < S.ff ∨ S.ft ≤ i) then
    (S.L.append s i).then fun x s => if x.1 ≠ 0 then .ok (x.1, { S with L := x.2 }) s else
      (s.store i v).then fun _ s => .ok (0, { S with L := x.2, seen := mset S.seen i (), dirty := mset S.dirty (i / 8) () }) s
  else (s.store i v).then fun _ s => .ok (0, { S with dirty := mset S.dirty (i / 8) () }) s
def flushAll : List Int → Dev → Out Unit
  | [], s => .ok () s
  | k :: ks, s => (s.flush (k * 8)).then fun _ s => flushAll ks s
def SecS.commit (S : SecS) (s : Dev) : Out SecS :=
  (flushAll (sortI (S.dirty.map Prod.fst)) s).then fun _ s => (if 0 < S.dirty.length then s.fence else .ok () s).then fun _ s => (S.L.truncate s).then fun L s => .ok { S with L := L } s
def SecS.abort (S : SecS) (s : Dev) : Out SecS := (S.L.undo s).then fun L s => .ok { S with L := L } s
theorem store_skip {S : SecS} {s : Dev} {i v : Int} (h : ¬i < S.L.c.active ∧ ¬(s.n : Int) ≤ i) (hno : ¬((mget S.seen i).isSome = false ∧ (i < S.ff ∨ S.ft ≤ i))) : S.store s i v = (s.store i v).then fun _ s => .ok (0, { S with dirty := mset S.dirty (i / 8) () }) s := by
  unfold SecS.store
  rw [if_neg (by omega), if_neg hno]
theorem append_dc {L L' : LogS} {s s' : Dev} {i a : Int} (h : L.append s i = .ok (a, L') s') : L'.d = L.d ∧ L'.c = L.c := by
  unfold LogS.append at h
  split at h
  · cases h; exact ⟨rfl, rfl⟩
  · split at h
    · cases h; exact ⟨rfl, rfl⟩
    · simp only [Out.then] at h
      repeat' split at h
      all_goals first | (cases h; exact ⟨rfl, rfl⟩) | cases h
theorem trunc_d {L L' : LogS} {s s' : Dev} (h : L.truncate s = .ok L' s') : L'.d = L.d ∧ L'.c = L.c := by
  unfold LogS.truncate at h
  split at h
  · cases h; exact ⟨rfl, rfl⟩
  · simp only [Out.then] at h
    repeat' split at h
    all_goals first | (cases h; exact ⟨rfl, rfl⟩) | cases h
theorem sopenC_ok (B : World) (Fr : List HP) (b : Nat) (S : SecS) :
    ∀ w, Holds B (SecC b S :: Fr) w → Calls Tryz.prog 51 [ptr b].toArray w (PureR B (SecC b S :: Fr) (.bool false)) := by
  refine fn_enter Tryz.func51 rfl Tryz.ntmps51 rfl (go_secC fun bl o1 o2 => (g_seq (g_region (kPa rfl rfl (p_nil (g_seq (g_region (kPm rfl rfl ?_))))))))
  first | refine kPv (ev_nil rfl) rfl ?_ | refine kPv (ev_nilf rfl) rfl ?_
  refine kPv (ev_fa (m := _) fa_129_3 rfl rfl) rfl (kPv (ev_load Tryz.isAgg4 rfl rfl) rfl (kPa rfl rfl (p_nil (g_ret ?_))))
  exact ret_tmp Tryz.results51 rfl (fun w hh => ⟨rfl, secC_holds hh⟩)
theorem sopenO_ok (B : World) (Fr : List HP) (b : Nat) (S : SecS) :
    ∀ w, Holds B (SecO b S :: Fr) w → Calls Tryz.prog 51 [ptr b].toArray w (PureR B (SecO b S :: Fr) (.bool true)) := by
  refine fn_enter Tryz.func51 rfl Tryz.ntmps51 rfl (go_secO fun bl o1 o2 => (g_seq (g_region (kPa rfl rfl (p_nil (g_seq (g_region (kPm rfl rfl ?_))))))))
  first | refine kPv (ev_nil rfl) rfl ?_ | refine kPv (ev_nilf rfl) rfl ?_
  refine kPv (ev_fa (m := _) fa_129_3 rfl rfl) rfl (kPv (ev_load Tryz.isAgg4 rfl rfl) rfl (kPa rfl rfl (p_nil (g_ret ?_))))
  exact ret_tmp Tryz.results51 rfl (fun w hh => ⟨rfl, secO_holds hh⟩)
theorem scommitC_ok (B : World) (Fr : List HP) (b : Nat) (S : SecS) :
    ∀ w, Holds B (SecC b S :: Fr) w → Calls Tryz.prog 62 [ptr b].toArray w (PureR B (SecC b S :: Fr) (i64 2)) := by
  refine fn_enter Tryz.func62 rfl Tryz.ntmps62 rfl (go_secC fun bl o1 o2 => (g_seq (g_region (kPa rfl rfl (p_nil (g_seq (g_seq (g_region (kPm rfl rfl ?_)))))))))
  first | refine kPv (ev_nil rfl) rfl ?_ | refine kPv (ev_nilf rfl) rfl ?_
  refine kPv (ev_fa (m := _) fa_129_3 rfl rfl) rfl (kPv (ev_load Tryz.isAgg4 rfl rfl) rfl (kPv (ev_not rfl) rfl (p_nil (g_ift rfl (rfl) (g_seq (g_region (kPa rfl rfl (p_nil (g_ret ?_)))))))))
  exact ret_tmp Tryz.results62 rfl (fun w hh => ⟨rfl, secC_holds hh⟩)
theorem sstoreO_ok (B : World) (Fr : List HP) (b : Nat) (S : SecS) (s : Dev) (hL : SecW S) (i v : Int) :
    ∀ w, Holds B (SecO b S :: DevA S.L.d s :: Fr) w → Calls Tryz.prog 56 [ptr b, i64 i, w64 v].toArray w (Ret B (fun rv H' => ∃ a S' s', S.store s i v = .ok (a, S') s' ∧ rv = i64 a ∧ H' = SecO b S' :: DevA S.L.d s' :: Fr) (fun c H' => ∃ s', S.store s i v = .off s' ∧ c = offc ∧ H' = DevA S.L.d s' :: Fr)) := by
  refine fn_enter Tryz.func56 rfl Tryz.ntmps56 rfl ?_
  have hl := hL.L
  have hc := hl.c
  have hc1 := hc.r1
  have hc2 := hc.r2
  have hc3 := hc.l1
  have hc4 := hc.l2
  have hact := hc.act
  refine go_dw S.L.d fun hn1 hn2 hn3 => (go_secO fun bl o1 o2 => (g_seq (g_region (kPa rfl rfl (p_nil (g_seq (g_block (g_seq (g_region (kPm rfl rfl ?_))))))))))
  first | refine kPv (ev_nil rfl) rfl ?_ | refine kPv (ev_nilf rfl) rfl ?_
  refine kPv (ev_fa (m := _) fa_129_3 rfl rfl) rfl (kPv (ev_load Tryz.isAgg4 rfl rfl) rfl (kPv (ev_not rfl) rfl (kPa rfl rfl (p_nil (g_iff rfl (rfl) (g_seq (g_region (kPm rfl rfl (kPm rfl rfl ?_)))))))))
  first | refine kPv (ev_nil rfl) rfl ?_ | refine kPv (ev_nilf rfl) rfl ?_
  refine kPv (ev_fa (m := _) fa_129_2 rfl rfl) rfl (kPv (ev_loadA Tryz.isAgg40 Tryz.sizeOf40 rfl rfl) rfl ?_)
  refine p_callq rfl (en_f Tryz.call117 rfl) (active_ok _ _ S.L.c hL.L.c) .free rfl rfl ?_
  refine kPv (ev_cmp rfl rfl rfl) rfl (kPm rfl rfl ?_)
  apply p_or (tp := 32) (t := 24) (σ1 := [(24, _), (6, _), (0, _), (1, _), (2, _)]) 8 rfl (sub_r rfl)
  · intro hg1
    refine p_val rfl (ev_move rfl) (.on rfl rfl (beq_eq hg1)) rfl rfl (p_val rfl (ev_move rfl) (.on rfl rfl (beq_eq hg1)) rfl rfl ?_)
    first | refine p_val rfl (ev_nil rfl) (.on rfl rfl (beq_eq hg1)) rfl rfl ?_ | refine p_val rfl (ev_nilf rfl) (.on rfl rfl (beq_eq hg1)) rfl rfl ?_
    refine p_val rfl (ev_fa (m := _) fa_129_1 rfl rfl) (.on rfl rfl (beq_eq hg1)) rfl rfl (p_val rfl (ev_load Tryz.isAgg28 rfl rfl) (.on rfl rfl (beq_eq hg1)) rfl rfl (p_callq rfl (en_f Tryz.call118 rfl) (ro_at (q := DevA) (fun Fr => nlen_ok _ Fr _ _)) (.on rfl rfl (beq_eq hg1)) rfl rfl ?_))
    refine p_val rfl (ev_cmp rfl rfl rfl) (.on rfl rfl (beq_eq hg1)) rfl rfl (kPv (ev_pick_f rfl hg1 rfl) rfl ?_)
    exact p_seg rfl (sub_r rfl) (or_f hg1)
  · intro hg1
    refine p_skip rfl (.on rfl rfl (beq_ne hg1)) rfl (p_skip rfl (.on rfl rfl (beq_ne hg1)) rfl (p_skip rfl (.on rfl rfl (beq_ne hg1)) rfl (p_skip rfl (.on rfl rfl (beq_ne hg1)) rfl (p_skip rfl (.on rfl rfl (beq_ne hg1)) rfl (p_skip rfl (.on rfl rfl (beq_ne hg1)) rfl (p_skip rfl (.on rfl rfl (beq_ne hg1)) rfl (kPv (ev_pick_t rfl hg1 rfl) rfl ?_)))))))
    exact p_seg rfl (sub_r rfl) (or_t hg1)
  refine kPa rfl rfl (p_nil ?_)
  refine g_if rfl (fun h16 => ?_) (fun h16 => ?_)
  · try simp only [decide_eq_true_eq, decide_eq_false_iff_not, Bool.not_eq_true', Bool.not_eq_false', Bool.or_eq_true, Bool.and_eq_true, Bool.and_eq_false_iff, Bool.or_eq_false_iff, beq_iff_eq, bne_iff_ne, beq_eq_false_iff_ne, bne_eq_false_iff_eq, ge_iff_le, gt_iff_lt, ne_eq] at h16
    refine g_seq (g_region (kPa rfl rfl (p_nil (g_ret ?_))))
    exact ret_tmp Tryz.results56 rfl (fun w hh => ⟨_, ⟨1, S, s, by simp [SecS.store, *], rfl, rfl⟩, secO_holds hh⟩)
  · try simp only [decide_eq_true_eq, decide_eq_false_iff_not, Bool.not_eq_true', Bool.not_eq_false', Bool.or_eq_true, Bool.and_eq_true, Bool.and_eq_false_iff, Bool.or_eq_false_iff, beq_iff_eq, bne_iff_ne, beq_eq_false_iff_ne, bne_eq_false_iff_eq, ge_iff_le, gt_iff_lt, ne_eq] at h16
    refine g_skip (g_seq (g_seq (g_region (kPm rfl rfl ?_))))
    first | refine kPv (ev_nil rfl) rfl ?_ | refine kPv (ev_nilf rfl) rfl ?_
    refine kPv (ev_fa (m := _) fa_129_5 rfl rfl) rfl (kPv (ev_load Tryz.isAgg127 rfl rfl) rfl (kPm rfl rfl (kPv ((ev_lookup2 Tryz.runUnderlying127 Tryz.runUnderlying3 Tryz.zeroValue149 rfl rfl).eq (lk_unit _)) rfl (kPm rfl rfl (kPv (ev_ext rfl rfl) rfl (kPv (ev_ext rfl rfl) rfl (p_chg rfl (ch_allocA Tryz.zeroValue149 rfl) .free rfl rfl ?_)))))))
    rintro _ _ ⟨b7, rfl, rfl⟩
    refine p_chg0 rfl (ch_storeA (vs := []) Tryz.sizeOf149 rfl rfl rfl rfl rfl) .free rfl ?_
    rintro _ _ rfl
    refine kPa rfl rfl (p_nil (go_sb [8, 6, 0, 1, 2] rfl (g_seq (g_region (kPm rfl rfl (kPv (ev_not rfl) rfl (kPm rfl rfl ?_)))))))
    apply p_and (tp := 61) (t := 44) (σ1 := [(44, _), (6, _), (0, _), (1, _), (2, _)]) 17 rfl (sub_r rfl)
    · intro hg2
      refine p_val rfl (ev_move rfl) (.on rfl rfl (beq_eq hg2)) rfl rfl (p_val rfl (ev_move rfl) (.on rfl rfl (beq_eq hg2)) rfl rfl ?_)
      first | refine p_val rfl (ev_nil rfl) (.on rfl rfl (beq_eq hg2)) rfl rfl ?_ | refine p_val rfl (ev_nilf rfl) (.on rfl rfl (beq_eq hg2)) rfl rfl ?_
      refine p_val rfl (ev_fa (m := _) fa_129_4 rfl rfl) (.on rfl rfl (beq_eq hg2)) rfl rfl (p_val rfl (ev_fa (m := _) fa_99_0 rfl rfl) (.on rfl rfl (beq_eq hg2)) rfl rfl (p_val rfl (ev_load Tryz.isAgg3 rfl rfl) (.on rfl rfl (beq_eq hg2)) rfl rfl (p_val rfl (ev_cmp rfl rfl rfl) (.on rfl rfl (beq_eq hg2)) rfl rfl (p_val rfl (ev_move rfl) (.on rfl rfl (beq_eq hg2)) rfl rfl ?_))))
      apply p_or (tp := 60) (t := 52) (σ1 := [(52, _), (44, _), (6, _), (0, _), (1, _), (2, _)]) 8 rfl (sub_r rfl)
      · intro hg3
        refine p_val rfl (ev_move rfl) (.on rfl rfl (beq_eq hg3)) rfl rfl (p_val rfl (ev_move rfl) (.on rfl rfl (beq_eq hg3)) rfl rfl ?_)
        first | refine p_val rfl (ev_nil rfl) (.on rfl rfl (beq_eq hg3)) rfl rfl ?_ | refine p_val rfl (ev_nilf rfl) (.on rfl rfl (beq_eq hg3)) rfl rfl ?_
        refine p_val rfl (ev_fa (m := _) fa_129_4 rfl rfl) (.on rfl rfl (beq_eq hg3)) rfl rfl (p_val rfl (ev_fa (m := _) fa_99_1 rfl rfl) (.on rfl rfl (beq_eq hg3)) rfl rfl (p_val rfl (ev_load Tryz.isAgg3 rfl rfl) (.on rfl rfl (beq_eq hg3)) rfl rfl (p_val rfl (ev_cmp rfl rfl rfl) (.on rfl rfl (beq_eq hg3)) rfl rfl (p_val rfl (ev_pick_f rfl hg3 rfl) (.on rfl rfl (beq_eq hg2)) rfl rfl ?_))))
        exact p_seg rfl (sub_r rfl) (or_f hg3)
      · intro hg3
        refine p_skip rfl (.on rfl rfl (beq_ne hg3)) rfl (p_skip rfl (.on rfl rfl (beq_ne hg3)) rfl (p_skip rfl (.on rfl rfl (beq_ne hg3)) rfl (p_skip rfl (.on rfl rfl (beq_ne hg3)) rfl (p_skip rfl (.on rfl rfl (beq_ne hg3)) rfl (p_skip rfl (.on rfl rfl (beq_ne hg3)) rfl (p_skip rfl (.on rfl rfl (beq_ne hg3)) rfl (p_val rfl (ev_pick_t rfl hg3 rfl) (.on rfl rfl (beq_eq hg2)) rfl rfl ?_)))))))
        exact p_seg rfl (sub_r rfl) (or_t hg3)
      refine kPv (ev_pick_t rfl hg2 rfl) rfl ?_
      exact p_seg rfl (sub_r rfl) (and_t hg2)
    · intro hg2
      refine p_skip rfl (.on rfl rfl (beq_ne hg2)) rfl (p_skip rfl (.on rfl rfl (beq_ne hg2)) rfl (p_skip rfl (.on rfl rfl (beq_ne hg2)) rfl (p_skip rfl (.on rfl rfl (beq_ne hg2)) rfl (p_skip rfl (.on rfl rfl (beq_ne hg2)) rfl (p_skip rfl (.on rfl rfl (beq_ne hg2)) rfl (p_skip rfl (.on rfl rfl (beq_ne hg2)) rfl (p_skip rfl (.on rfl rfl (beq_ne hg2)) rfl (p_skip rfl (.und rfl rfl) rfl (p_skip rfl (.und rfl rfl) rfl (p_skip rfl (.und rfl rfl) rfl (p_skip rfl (.und rfl rfl) rfl ?_)))))))))))
      refine p_skip rfl (.und rfl rfl) rfl (p_skip rfl (.und rfl rfl) rfl (p_skip rfl (.und rfl rfl) rfl (p_skip rfl (.on rfl rfl (beq_ne hg2)) rfl (kPv (ev_pick_f rfl hg2 rfl) rfl ?_))))
      exact p_seg rfl (sub_r rfl) (and_f hg2)
    refine p_nil ?_
    refine g_if rfl (fun h61 => ?_) (fun h61 => ?_)
    · try simp only [decide_eq_true_eq, decide_eq_false_iff_not, Bool.not_eq_true', Bool.not_eq_false', Bool.or_eq_true, Bool.and_eq_true, Bool.and_eq_false_iff, Bool.or_eq_false_iff, beq_iff_eq, bne_iff_ne, beq_eq_false_iff_ne, bne_eq_false_iff_eq, ge_iff_le, gt_iff_lt, ne_eq] at h61
      refine g_seq (g_seq (g_region (go_conv (H' := LogA bl S.L :: DevA S.L.d s :: row b7 [] 149 :: secRow b bl S true (some o1) (some o2) :: mapA .i64 unitE o1 S.seen :: mapA .i64 unitE o2 S.dirty :: Fr) (fun w hh => ((hh.front 5 rfl).front 3 rfl)) (kPm rfl rfl ?_))))
      first | refine kPv (ev_nil rfl) rfl ?_ | refine kPv (ev_nilf rfl) rfl ?_
      refine kPv (ev_fa (m := _) fa_129_0 rfl rfl) rfl (kPv (ev_load Tryz.isAgg116 rfl rfl) rfl (kPm rfl rfl ?_))
      refine p_call rfl (en_f Tryz.call119 rfl) (lappend_ok _ _ bl S.L _ hL.L i) .free rfl rfl ?_ ?_
      rotate_left
      · rintro _ _ ⟨s9, hm9, rfl, rfl⟩
        exact pan_fn fun w hh => ⟨_, ⟨s9, by simp [SecS.store, *], rfl, rfl⟩, (((((hh.front 5 rfl).front 5 rfl).front 5 rfl).front 5 rfl).front 4 rfl).tail.tail.tail.tail.tail⟩
      rintro _ _ ⟨a1, L1, s1, hm1, rfl, rfl⟩
      refine kPa rfl rfl (p_nil (go_sb [9, 6, 0, 1, 2] rfl (g_seq (g_region (kPm rfl rfl (kPv (ev_cmp rfl rfl rfl) rfl (p_nil ?_)))))))
      refine g_if rfl (fun h69 => ?_) (fun h69 => ?_)
      · try simp only [decide_eq_true_eq, decide_eq_false_iff_not, Bool.not_eq_true', Bool.not_eq_false', Bool.or_eq_true, Bool.and_eq_true, Bool.and_eq_false_iff, Bool.or_eq_false_iff, beq_iff_eq, bne_iff_ne, beq_eq_false_iff_ne, bne_eq_false_iff_eq, ge_iff_le, gt_iff_lt, ne_eq] at h69
        refine g_seq (g_region (kPm rfl rfl (kPa rfl rfl (p_nil (g_ret ?_)))))
        exact ret_tmp Tryz.results56 rfl (fun w hh => by
      have hd1 := append_dc hm1
      obtain ⟨d1, c1, e1, n1⟩ := L1
      obtain ⟨hd2, hd3⟩ := hd1
      simp only at hd2 hd3
      subst hd2; subst hd3
      exact ⟨_, ⟨a1, { S with L := ⟨_, _, e1, n1⟩ }, _, by simp [SecS.store, *], rfl, rfl⟩, secO_holds ((((((hh.front 2 rfl).tail.front 1 rfl).front 4 rfl).front 4 rfl).front 3 rfl).front 4 rfl)⟩)
      · try simp only [decide_eq_true_eq, decide_eq_false_iff_not, Bool.not_eq_true', Bool.not_eq_false', Bool.or_eq_true, Bool.and_eq_true, Bool.and_eq_false_iff, Bool.or_eq_false_iff, beq_iff_eq, bne_iff_ne, beq_eq_false_iff_ne, bne_eq_false_iff_eq, ge_iff_le, gt_iff_lt, ne_eq] at h69
        refine g_skip (g_region (kPm rfl rfl ?_))
        first | refine kPv (ev_nil rfl) rfl ?_ | refine kPv (ev_nilf rfl) rfl ?_
        refine kPv (ev_fa (m := _) fa_129_5 rfl rfl) rfl (kPv (ev_load Tryz.isAgg127 rfl rfl) rfl (kPm rfl rfl (kPv (ev_build rfl (bld_149)) rfl (p_chg0 rfl (ch_mapset (u := ()) Tryz.runUnderlying127 Tryz.runUnderlying3 rfl rfl rfl rfl) .free rfl ?_))))
        rintro _ _ rfl
        refine p_nil (go_sb [6, 0, 1, 2] rfl (g_seq (g_region (kPm rfl rfl ?_))))
        first | refine kPv (ev_nil rfl) rfl ?_ | refine kPv (ev_nilf rfl) rfl ?_
        refine kPv (ev_fa (m := _) fa_129_1 rfl rfl) rfl (kPv (ev_load Tryz.isAgg28 rfl rfl) rfl (kPm rfl rfl (kPm rfl rfl ?_)))
        refine p_call rfl (en_f Tryz.call120 rfl) (up_at (q := DevA) (fun Fr => nstore_ok _ Fr _ _ _ _)) .free rfl rfl ?_ ?_
        rotate_left
        · first
            | (rintro _ _ ⟨s9, ⟨hm9, rfl⟩, rfl⟩; exact pan_fn fun w hh => ⟨_, ⟨s9, by simp [SecS.store, *], rfl, rfl⟩, (((((hh.front 5 rfl).front 5 rfl).front 5 rfl).front 5 rfl).front 4 rfl).tail.tail.tail.tail.tail⟩)
            | (rintro _ _ ⟨s9, ⟨hm9, rfl⟩, rfl⟩; exact pan_fn fun w hh => ⟨_, ⟨s9, by simp [store_skip h16 hno, hm9], rfl, rfl⟩, (((((hh.front 4 rfl).front 4 rfl).front 4 rfl).front 4 rfl).front 4 rfl).tail.tail.tail.tail.tail⟩)
        rintro _ _ ⟨s2, ⟨e2, hm2, rfl⟩, rfl⟩
        refine p_nil (go_sb [6, 0, 1] rfl (g_seq (g_region (kPm rfl rfl ?_))))
        first | refine kPv (ev_nil rfl) rfl ?_ | refine kPv (ev_nilf rfl) rfl ?_
        refine kPv (ev_fa (m := _) fa_129_6 rfl rfl) rfl (kPv (ev_load Tryz.isAgg127 rfl rfl) rfl (kPm rfl rfl (kPv (ev_quo rfl rfl (by decide) (quoI (by omega) (by omega))) rfl (kPv (ev_build rfl (bld_149)) rfl (p_chg0 rfl (ch_mapset (u := ()) Tryz.runUnderlying127 Tryz.runUnderlying3 rfl rfl rfl rfl) .free rfl ?_)))))
        rintro _ _ rfl
        refine p_nil (go_sb [6] rfl (g_seq (g_region (kPa rfl rfl (p_nil (g_ret ?_))))))
        exact ret_tmp Tryz.results56 rfl (fun w hh => by
      have hd1 := append_dc hm1
      obtain ⟨d1, c1, e1, n1⟩ := L1
      obtain ⟨hd2, hd3⟩ := hd1
      simp only at hd2 hd3
      subst hd2; subst hd3
      exact ⟨_, ⟨0, { S with L := ⟨_, _, e1, n1⟩, seen := mset S.seen i (), dirty := mset S.dirty (i / 8) () }, _, by simp [SecS.store, *], rfl, rfl⟩, secO_holds ((((((hh.front 2 rfl).tail.front 1 rfl).front 4 rfl).front 4 rfl).front 3 rfl).front 4 rfl)⟩)
    · have hno : ¬((mget S.seen i).isSome = false ∧ (i < S.ff ∨ S.ft ≤ i)) := by
        rintro ⟨q1, q2⟩
        rw [q1] at h61
        simp at h61; omega
      refine g_skip (g_seq (g_region (kPm rfl rfl ?_)))
      first | refine kPv (ev_nil rfl) rfl ?_ | refine kPv (ev_nilf rfl) rfl ?_
      refine kPv (ev_fa (m := _) fa_129_1 rfl rfl) rfl (kPv (ev_load Tryz.isAgg28 rfl rfl) rfl (kPm rfl rfl (kPm rfl rfl ?_)))
      refine p_call rfl (en_f Tryz.call120 rfl) (up_at (q := DevA) (fun Fr => nstore_ok _ Fr _ _ _ _)) .free rfl rfl ?_ ?_
      rotate_left
      · first
          | (rintro _ _ ⟨s9, ⟨hm9, rfl⟩, rfl⟩; exact pan_fn fun w hh => ⟨_, ⟨s9, by simp [SecS.store, *], rfl, rfl⟩, (((((hh.front 5 rfl).front 5 rfl).front 5 rfl).front 5 rfl).front 4 rfl).tail.tail.tail.tail.tail⟩)
          | (rintro _ _ ⟨s9, ⟨hm9, rfl⟩, rfl⟩; exact pan_fn fun w hh => ⟨_, ⟨s9, by simp [store_skip h16 hno, hm9], rfl, rfl⟩, (((((hh.front 4 rfl).front 4 rfl).front 4 rfl).front 4 rfl).front 4 rfl).tail.tail.tail.tail.tail⟩)
      rintro _ _ ⟨s3, ⟨e3, hm3, rfl⟩, rfl⟩
      refine p_nil (go_sb [6, 0, 1] rfl (g_seq (g_region (kPm rfl rfl ?_))))
      first | refine kPv (ev_nil rfl) rfl ?_ | refine kPv (ev_nilf rfl) rfl ?_
      refine kPv (ev_fa (m := _) fa_129_6 rfl rfl) rfl (kPv (ev_load Tryz.isAgg127 rfl rfl) rfl (kPm rfl rfl (kPv (ev_quo rfl rfl (by decide) (quoI (by omega) (by omega))) rfl (kPv (ev_build rfl (bld_149)) rfl (p_chg0 rfl (ch_mapset (u := ()) Tryz.runUnderlying127 Tryz.runUnderlying3 rfl rfl rfl rfl) .free rfl ?_)))))
      rintro _ _ rfl
      refine p_nil (go_sb [6] rfl (g_seq (g_region (kPa rfl rfl (p_nil (g_ret ?_))))))
      exact ret_tmp Tryz.results56 rfl (fun w hh => ⟨_, ⟨0, { S with dirty := mset S.dirty (i / 8) () }, _, by simp [store_skip h16 hno, hm3], rfl, rfl⟩, secO_holds (((((hh.tail.front 4 rfl).front 4 rfl).front 4 rfl).front 4 rfl).front 4 rfl)⟩)
theorem go_accsl {B : World} {n : Nat} {D : List Deferred} {σ : Env} {sv : Value} {xs : List Int} {Fr : List HP} {K : Act → World → Prop} (h : ∀ q cap, sv = .slice q xs.length cap → GO B n D σ (AccV 0 (sv, xs) :: Fr) K) : GO B n D σ (AccV 0 (sv, xs) :: Fr) K := fun a w st => by
  rcases holds_accv st.holds with ⟨e1, e2, _⟩ | ⟨bd, rest, e, _⟩
  · exact h none 0 (by rw [e2, e1]; rfl) a w st
  · exact h _ _ e a w st
theorem go_accr {B : World} {n : Nat} {D : List Deferred} {σ : Env} {q : Option Addr} {m cap k : Nat} {xs : List Int} {Fr : List HP} {K : Act → World → Prop} (hk : k < xs.length) (h : ∀ bd rest, q = some ⟨bd, 0, none⟩ → m = xs.length → cap = m + rest.length → GO B n D σ (row bd (xs.map i64 ++ rest) 3 :: Fr) K) : GO B n D σ (AccV 0 (.slice q m cap, xs) :: Fr) K := fun a w st => by
  rcases holds_accv st.holds with ⟨e1, e2, _⟩ | ⟨bd, rest, e, hh⟩
  · subst e1; simp at hk
  · injection e with e1 e2 e3
    exact h bd rest e1 e2 (by omega) a w ⟨st.toStA, hh⟩
theorem scommitO_ok (B : World) (Fr : List HP) (b : Nat) (S : SecS) (s : Dev) (hL : SecW S) (hdl : S.dirty.length ≤ 1000000) :
    ∀ w, Holds B (SecO b S :: DevA S.L.d s :: Fr) w → Calls Tryz.prog 62 [ptr b].toArray w (Ret B (fun rv H' => ∃ S' s', S.commit s = .ok S' s' ∧ rv = i64 0 ∧ H' = SecC b S' :: DevA S.L.d s' :: Fr) (fun c H' => ∃ s', S.commit s = .off s' ∧ c = offc ∧ H' = DevA S.L.d s' :: Fr)) := by
  refine fn_enter Tryz.func62 rfl Tryz.ntmps62 rfl ?_
  have hl := hL.L
  have hc := hl.c
  have hc1 := hc.r1
  have hc2 := hc.r2
  have hc3 := hc.l1
  have hc4 := hc.l2
  have hact := hc.act
  refine go_dw S.L.d fun hn1 hn2 hn3 => (go_secO fun bl o1 o2 => ?_)
  have hks : ∀ x ∈ sortI (S.dirty.map Prod.fst), 0 ≤ x ∧ x ≤ 1000000 := fun x hx => by
    obtain ⟨p, hp, rfl⟩ := List.mem_map.1 (List.mem_mergeSort.1 hx)
    exact hL.dirty p hp
  have hkl : (sortI (S.dirty.map Prod.fst)).length ≤ 1000000 := by rw [sortI, List.length_mergeSort, List.length_map]; exact hdl
  refine g_seq (g_region (kPa rfl rfl (p_nil (g_seq (g_seq (g_region (kPm rfl rfl ?_)))))))
  first | refine kPv (ev_nil rfl) rfl ?_ | refine kPv (ev_nilf rfl) rfl ?_
  refine kPv (ev_fa (m := _) fa_129_3 rfl rfl) rfl (kPv (ev_load Tryz.isAgg4 rfl rfl) rfl (kPv (ev_not rfl) rfl (p_nil (g_iff rfl (rfl) (g_skip (g_seq (g_seq (g_region (kPm rfl rfl ?_)))))))))
  first | refine kPv (ev_nil rfl) rfl ?_ | refine kPv (ev_nilf rfl) rfl ?_
  refine kPv (ev_fa (m := _) fa_129_6 rfl rfl) rfl (kPv (ev_load Tryz.isAgg127 rfl rfl) rfl ?_)
  refine p_call rfl (en_f Tryz.call125 rfl) (mkeys_ok _ _ _) .free rfl rfl ?_ ?_
  rotate_left
  · rintro _ _ ⟨⟩
  rintro _ _ ⟨bb, rfl, rfl⟩
  refine go_conv (H' := row bb [.map (some o2)] 127 :: mapA .i64 unitE o2 S.dirty :: secRow b bl S true (some o1) (some o2) :: LogA bl S.L :: mapA .i64 unitE o1 S.seen :: DevA S.L.d s :: Fr) (fun w hh => ((hh.front 4 rfl).front 1 rfl)) ?_
  refine p_call rfl (en_f Tryz.call124 rfl) (sorted_ok _ _ _ _ _ hdl) .free rfl rfl ?_ ?_
  rotate_left
  · rintro _ _ ⟨⟩
  rintro sv _ rfl
  refine go_accsl fun q cap hq => ?_
  subst hq
  refine kPv (ev_len rfl Tryz.runUnderlying125 ⟨_, rfl⟩ rfl) rfl (kPm rfl rfl (p_nil (go_sb [17, 16, 15, 2, 0] rfl (g_block (g_loop (ι := Nat × Dev) (fun i => i.1 ≤ (sortI (S.dirty.map Prod.fst)).length ∧ flushAll (sortI (S.dirty.map Prod.fst)) s = flushAll ((sortI (S.dirty.map Prod.fst)).drop i.1) i.2) (fun i => [(0, ptr b), (2, i64 0), (15, .slice q (sortI (S.dirty.map Prod.fst)).length cap), (16, i64 (sortI (S.dirty.map Prod.fst)).length), (17, i64 i.1)]) (fun i => AccV 0 (.slice q (sortI (S.dirty.map Prod.fst)).length cap, sortI (S.dirty.map Prod.fst)) :: mapA .i64 unitE o2 S.dirty :: secRow b bl S true (some o1) (some o2) :: LogA bl S.L :: mapA .i64 unitE o1 S.seen :: DevA S.L.d i.2 :: Fr) (fun i => (sortI (S.dirty.map Prod.fst)).length - i.1) (0, s) ⟨Nat.zero_le _, by simp⟩ (fun a w st => st.to ⟨rfl, rfl, rfl, rfl, rfl, trivial⟩ id) ?_)))))
  rintro ⟨k, s1⟩ ⟨hk1, hk2⟩
  simp only at hk1 hk2 ⊢
  refine g_seq (g_region (kPv (ev_cmp rfl rfl rfl) rfl (p_nil (g_seq ?_))))
  refine g_if rfl (fun h18 => ?_) (fun h18 => ?_)
  · have hkn : k < (sortI (S.dirty.map Prod.fst)).length := by simpa using h18
    have hkb := hks _ (List.getElem_mem hkn)
    refine g_skip (g_seq (g_block (g_seq (g_region (go_accr (k := k) hkn fun bd rest hq hm hcap => ?_)))))
    subst hq
    refine kPv (ev_iaS Tryz.runUnderlying125 Tryz.sizeOf3 rfl rfl (by omega) (by omega)) rfl ?_
    refine kPv (ev_load (v := i64 (sortI (S.dirty.map Prod.fst))[k]) Tryz.isAgg3 rfl (by rw [Nat.zero_add, Int.toNat_natCast, List.getElem?_append_left (by rw [List.length_map]; exact hkn), List.getElem?_map, List.getElem?_eq_getElem hkn]; rfl)) rfl ?_
    refine kPa rfl rfl (p_nil (g_region (kPm rfl rfl ?_)))
    first | refine kPv (ev_nil rfl) rfl ?_ | refine kPv (ev_nilf rfl) rfl ?_
    refine kPv (ev_fa (m := _) fa_129_1 rfl rfl) rfl (kPv (ev_load Tryz.isAgg28 rfl rfl) rfl (kPm rfl rfl ?_))
    first | refine p_val rfl (ev_mul rfl rfl (wr64 (by omega))) .free rfl rfl ?_ | refine p_val rfl (ev_mul rfl rfl rfl) .free rfl rfl ?_
    refine p_call rfl (en_f Tryz.call126 rfl) (up_at (q := DevA) (fun Fr => nflush_ok _ Fr _ _ _)) .free rfl rfl ?_ ?_
    rotate_left
    · rintro _ _ ⟨s9, ⟨hm9, rfl⟩, rfl⟩
      exact pan_fn fun w hh => ⟨_, ⟨s9, by unfold SecS.commit; rw [hk2, List.drop_eq_getElem_cons hkn]; simp only [flushAll]; rw [hm9]; rfl, rfl, rfl⟩, (((((hh.front 4 rfl).front 4 rfl).front 4 rfl).front 4 rfl).front 4 rfl).tail.tail.tail.tail.tail⟩
    rintro _ _ ⟨s1', ⟨e1, hm1, rfl⟩, rfl⟩
    refine p_nil (go_sb [17, 16, 15, 2, 0] rfl (g_region ?_))
    first | refine p_val rfl (ev_add rfl rfl (wr64 (by omega))) .free rfl rfl ?_ | refine p_val rfl (ev_add rfl rfl rfl) .free rfl rfl ?_
    refine kPm rfl rfl (p_nil ?_)
    exact fun a w st => ⟨(k + 1, s1'), ⟨by simp only; omega, by simp only; rw [hk2, List.drop_eq_getElem_cons hkn]; simp only [flushAll]; rw [hm1]; rfl⟩, by simp only; omega, st.to ⟨rfl, rfl, rfl, rfl, rfl, trivial⟩ (fun hh => accv_row hm hcap hh)⟩
  · have hkn : ¬k < (sortI (S.dirty.map Prod.fst)).length := by simpa using h18
    have hfl : flushAll (sortI (S.dirty.map Prod.fst)) s = .ok () s1 := by
      rw [hk2, List.drop_eq_nil_of_le (by omega)]; rfl
    refine g_exit (g_seq (g_seq (g_region (kPm rfl rfl ?_))))
    first | refine kPv (ev_nil rfl) rfl ?_ | refine kPv (ev_nilf rfl) rfl ?_
    refine kPv (ev_fa (m := _) fa_129_6 rfl rfl) rfl (kPv (ev_load Tryz.isAgg127 rfl rfl) rfl (kPv (ev_lenM rfl Tryz.runUnderlying127 rfl) rfl (kPv (ev_cmp rfl rfl rfl) rfl (p_nil (go_sb [34, 2, 0] rfl ?_)))))
    refine g_if rfl (fun h34 => ?_) (fun h34 => ?_)
    · try simp only [decide_eq_true_eq, decide_eq_false_iff_not, Bool.not_eq_true', Bool.not_eq_false', Bool.or_eq_true, Bool.and_eq_true, Bool.and_eq_false_iff, Bool.or_eq_false_iff, beq_iff_eq, bne_iff_ne, beq_eq_false_iff_ne, bne_eq_false_iff_eq, ge_iff_le, gt_iff_lt, ne_eq] at h34
      refine g_region (kPm rfl rfl ?_)
      first | refine kPv (ev_nil rfl) rfl ?_ | refine kPv (ev_nilf rfl) rfl ?_
      refine kPv (ev_fa (m := _) fa_129_1 rfl rfl) rfl (kPv (ev_load Tryz.isAgg28 rfl rfl) rfl ?_)
      refine p_call rfl (en_f Tryz.call127 rfl) (up_at (q := DevA) (fun Fr => nfence_ok _ Fr _ _)) .free rfl rfl ?_ ?_
      rotate_left
      · rintro _ _ ⟨s9, ⟨hm9, rfl⟩, rfl⟩
        exact pan_fn fun w hh => ⟨_, ⟨s9, by unfold SecS.commit; rw [hfl, then_ok, if_pos (by omega), hm9]; rfl, rfl, rfl⟩, (((((hh.front 4 rfl).front 4 rfl).front 4 rfl).front 4 rfl).front 4 rfl).tail.tail.tail.tail.tail⟩
      rintro _ _ ⟨s4, ⟨e4, hm4, rfl⟩, rfl⟩
      refine p_nil (g_seq (g_region (go_conv (H' := LogA bl S.L :: DevA S.L.d _ :: AccV 0 (.slice q (sortI (S.dirty.map Prod.fst)).length cap, sortI (S.dirty.map Prod.fst)) :: mapA .i64 unitE o2 S.dirty :: secRow b bl S true (some o1) (some o2) :: mapA .i64 unitE o1 S.seen :: Fr) (fun w hh => ((hh.front 5 rfl).front 4 rfl)) (kPm rfl rfl ?_))))
      first | refine kPv (ev_nil rfl) rfl ?_ | refine kPv (ev_nilf rfl) rfl ?_
      refine kPv (ev_fa (m := _) fa_129_0 rfl rfl) rfl (kPv (ev_load Tryz.isAgg116 rfl rfl) rfl ?_)
      refine p_call rfl (en_f Tryz.call128 rfl) (ltrunc_ok _ _ bl S.L _ hL.L) .free rfl rfl ?_ ?_
      rotate_left
      · rintro _ _ ⟨s9, hm9, rfl, rfl⟩
        exact pan_fn fun w hh => ⟨_, ⟨s9, by unfold SecS.commit; rw [hfl]; first | (rw [then_ok, if_pos (by omega), hm4, then_ok, hm9]; rfl) | (rw [then_ok, if_neg (by omega), then_ok, hm9]; rfl), rfl, rfl⟩, (((((hh.front 5 rfl).front 5 rfl).front 5 rfl).front 5 rfl).front 4 rfl).tail.tail.tail.tail.tail⟩
      rintro _ _ ⟨L5, s5, hm5, rfl, rfl⟩
      refine p_nil (go_sb [2, 0] rfl (g_seq (g_region (kPm rfl rfl ?_))))
      first | refine kPv (ev_nil rfl) rfl ?_ | refine kPv (ev_nilf rfl) rfl ?_
      refine kPv (ev_fa (m := _) fa_129_3 rfl rfl) rfl (p_chg0 rfl (ch_store Tryz.sizeOf4 rfl rfl rfl rfl) .free rfl ?_)
      rintro _ _ rfl
      refine p_nil (g_seq (g_region (kPa rfl rfl (p_nil (g_ret ?_)))))
      exact ret_tmp Tryz.results62 rfl (fun w hh => by
      have hd1 := trunc_d hm5
      obtain ⟨d1, c1, e1, n1⟩ := L5
      obtain ⟨hd2, hd3⟩ := hd1
      simp only at hd2 hd3
      subst hd2; subst hd3
      exact ⟨_, ⟨{ S with L := ⟨_, _, e1, n1⟩ }, _, by unfold SecS.commit; rw [hfl, then_ok, if_pos (by omega), hm4, then_ok, hm5]; rfl, rfl, rfl⟩, secC_holds ((((((hh.front 5 rfl).front 4 rfl).front 4 rfl).tail.tail.tail.front 1 rfl).front 1 rfl).front 2 rfl)⟩)
    · try simp only [decide_eq_true_eq, decide_eq_false_iff_not, Bool.not_eq_true', Bool.not_eq_false', Bool.or_eq_true, Bool.and_eq_true, Bool.and_eq_false_iff, Bool.or_eq_false_iff, beq_iff_eq, bne_iff_ne, beq_eq_false_iff_ne, bne_eq_false_iff_eq, ge_iff_le, gt_iff_lt, ne_eq] at h34
      refine g_skip (g_seq (g_region (go_conv (H' := LogA bl S.L :: DevA S.L.d _ :: AccV 0 (.slice q (sortI (S.dirty.map Prod.fst)).length cap, sortI (S.dirty.map Prod.fst)) :: mapA .i64 unitE o2 S.dirty :: secRow b bl S true (some o1) (some o2) :: mapA .i64 unitE o1 S.seen :: Fr) (fun w hh => ((hh.front 5 rfl).front 4 rfl)) (kPm rfl rfl ?_))))
      first | refine kPv (ev_nil rfl) rfl ?_ | refine kPv (ev_nilf rfl) rfl ?_
      refine kPv (ev_fa (m := _) fa_129_0 rfl rfl) rfl (kPv (ev_load Tryz.isAgg116 rfl rfl) rfl ?_)
      refine p_call rfl (en_f Tryz.call128 rfl) (ltrunc_ok _ _ bl S.L _ hL.L) .free rfl rfl ?_ ?_
      rotate_left
      · rintro _ _ ⟨s9, hm9, rfl, rfl⟩
        exact pan_fn fun w hh => ⟨_, ⟨s9, by unfold SecS.commit; rw [hfl]; first | (rw [then_ok, if_pos (by omega), hm4, then_ok, hm9]; rfl) | (rw [then_ok, if_neg (by omega), then_ok, hm9]; rfl), rfl, rfl⟩, (((((hh.front 5 rfl).front 5 rfl).front 5 rfl).front 5 rfl).front 4 rfl).tail.tail.tail.tail.tail⟩
      rintro _ _ ⟨L5, s5, hm5, rfl, rfl⟩
      refine p_nil (g_seq (g_region (kPm rfl rfl ?_)))
      first | refine kPv (ev_nil rfl) rfl ?_ | refine kPv (ev_nilf rfl) rfl ?_
      refine kPv (ev_fa (m := _) fa_129_3 rfl rfl) rfl (p_chg0 rfl (ch_store Tryz.sizeOf4 rfl rfl rfl rfl) .free rfl ?_)
      rintro _ _ rfl
      refine p_nil (go_sb [2] rfl (g_seq (g_region (kPa rfl rfl (p_nil (g_ret ?_))))))
      exact ret_tmp Tryz.results62 rfl (fun w hh => by
      have hd1 := trunc_d hm5
      obtain ⟨d1, c1, e1, n1⟩ := L5
      obtain ⟨hd2, hd3⟩ := hd1
      simp only at hd2 hd3
      subst hd2; subst hd3
      exact ⟨_, ⟨{ S with L := ⟨_, _, e1, n1⟩ }, _, by unfold SecS.commit; rw [hfl, then_ok, if_neg (by omega), then_ok, hm5]; rfl, rfl, rfl⟩, secC_holds ((((((hh.front 5 rfl).front 4 rfl).front 4 rfl).tail.tail.tail.front 1 rfl).front 1 rfl).front 2 rfl)⟩)
theorem sbeginC_ok (B : World) (Fr : List HP) (b : Nat) (S : SecS) (f t : Int) :
    ∀ w, Holds B (SecC b S :: Fr) w → Calls Tryz.prog 53 [ptr b, .agg #[i64 f, i64 t]].toArray w (Ret B (fun rv H' => rv = i64 0 ∧ H' = SecO b { S with ff := f, ft := t, seen := [], dirty := [] } :: Fr) (fun _ _ => False)) := by
  refine fn_enter Tryz.func53 rfl Tryz.ntmps53 rfl (go_secC fun bl o1 o2 => (g_seq (g_region (p_chg rfl (ch_boxA rfl) .free rfl rfl ?_))))
  rintro _ _ ⟨b3, rfl, rfl⟩
  refine kPa rfl rfl (p_nil (g_seq (g_seq (g_region (kPm rfl rfl ?_)))))
  first | refine kPv (ev_nil rfl) rfl ?_ | refine kPv (ev_nilf rfl) rfl ?_
  refine kPv (ev_fa (m := _) fa_129_3 rfl rfl) rfl (kPv (ev_load Tryz.isAgg4 rfl rfl) rfl (p_nil (g_iff rfl (rfl) (g_skip (g_seq (go_conv (H' := row b3 [i64 f, i64 t] 99 :: secRow b bl S false o1 o2 :: LogA bl S.L :: pr True :: pr True :: Fr) (fun w hh => (((hh.unpr trivial).unpr trivial).front 4 rfl |>.front 4 rfl |>.front 4 rfl)) (go_sub (σ' := [(0, ptr b), (3, ptr b3)]) ⟨rfl, rfl, trivial⟩ ?_)))))))
  refine g_anyg (G := Nat × Nat) [0, 3] (fun g i => match i with | 0 => ptr b | 1 => ptr b | 2 => ptr b | 3 => ptr b | 4 => .agg #[i64 f, i64 t] | 5 => .map (some g.1) | 6 => .map (some g.2) | 7 => .pointer (some ⟨b, 0, none⟩) | 8 => .pointer (some ⟨b, 5, none⟩) | 10 => .pointer (some ⟨b, 0, none⟩) | 11 => .pointer (some ⟨b, 6, none⟩) | 13 => .pointer (some ⟨b, 0, none⟩) | 14 => .pointer (some ⟨b, 8, none⟩) | 16 => .pointer (some ⟨b, 0, none⟩) | 17 => .pointer (some ⟨b, 9, none⟩) | _ => undef) (fun L g => row b3 [i64 f, i64 t] 99 :: row b [ptr bl, ptr S.L.d, i64 S.L.c.log, i64 S.L.c.roots, i64 S.L.c.space, .bool (L.getD 9 false), i64 (if (L.getD 12 false) = true then f else S.ff), i64 (if (L.getD 12 false) = true then t else S.ft), .map (if (L.getD 15 false) = true then some g.1 else o1), .map (if (L.getD 18 false) = true then some g.2 else o2)] 129 :: LogA bl S.L :: (if (L.getD 5 false) = true then mapA .i64 unitE g.1 [] else pr True) :: (if (L.getD 6 false) = true then mapA .i64 unitE g.2 [] else pr True) :: Fr) (0, 0) (fun g => [(0, ptr b)]) (fun g => row b3 [i64 f, i64 t] 99 :: secRow b bl { S with ff := f, ft := t } true (some g.1) (some g.2) :: LogA bl S.L :: mapA .i64 unitE g.1 [] :: mapA .i64 unitE g.2 [] :: Fr) Tryz.mixed (by kernel_rfl) (fun t v h => look_mem h) rfl ?_ ?_ ?_
  · intro i o ho L g hsz hun hcl hdep a hk hd w hw
    have hi : i < 19 := (Array.getElem?_eq_some_iff.1 ho).1
    have hL : L.size = 19 := hsz
    obtain rfl | rfl | rfl | rfl | rfl | rfl | rfl | rfl | rfl | rfl | rfl | rfl | rfl | rfl | rfl | rfl | rfl | rfl | rfl : i = 0 ∨ i = 1 ∨ i = 2 ∨ i = 3 ∨ i = 4 ∨ i = 5 ∨ i = 6 ∨ i = 7 ∨ i = 8 ∨ i = 9 ∨ i = 10 ∨ i = 11 ∨ i = 12 ∨ i = 13 ∨ i = 14 ∨ i = 15 ∨ i = 16 ∨ i = 17 ∨ i = 18 := by omega
    · obtain rfl := Option.some.inj (show some _ = some o from ho)
      have hk' := hk
      have hun' : L.getD 0 false = false := getD_both hun
      refine doz_val (v := ptr b) ?_ hk' hw ⟨g, fun _ => rfl, fun _ _ _ => rfl, by simpa only [getD_set_ne false (show (0 : Nat) ≠ 5 by decide), getD_set_ne false (show (0 : Nat) ≠ 6 by decide), getD_set_ne false (show (0 : Nat) ≠ 9 by decide), getD_set_ne false (show (0 : Nat) ≠ 12 by decide), getD_set_ne false (show (0 : Nat) ≠ 15 by decide), getD_set_ne false (show (0 : Nat) ≠ 18 by decide)] using hw⟩
      first | exact ev_move rfl | exact Evs.eq (ev_move rfl) rfl
    · obtain rfl := Option.some.inj (show some _ = some o from ho)
      have hk' := hk
      have hun' : L.getD 1 false = false := getD_both hun
      refine doz_val (v := ptr b) ?_ hk' hw ⟨g, fun _ => rfl, fun _ _ _ => rfl, by simpa only [getD_set_ne false (show (1 : Nat) ≠ 5 by decide), getD_set_ne false (show (1 : Nat) ≠ 6 by decide), getD_set_ne false (show (1 : Nat) ≠ 9 by decide), getD_set_ne false (show (1 : Nat) ≠ 12 by decide), getD_set_ne false (show (1 : Nat) ≠ 15 by decide), getD_set_ne false (show (1 : Nat) ≠ 18 by decide)] using hw⟩
      first | exact ev_move rfl | exact Evs.eq (ev_move rfl) rfl
    · obtain rfl := Option.some.inj (show some _ = some o from ho)
      have hk' := hk
      have hun' : L.getD 2 false = false := getD_both hun
      refine doz_val (v := ptr b) ?_ hk' hw ⟨g, fun _ => rfl, fun _ _ _ => rfl, by simpa only [getD_set_ne false (show (2 : Nat) ≠ 5 by decide), getD_set_ne false (show (2 : Nat) ≠ 6 by decide), getD_set_ne false (show (2 : Nat) ≠ 9 by decide), getD_set_ne false (show (2 : Nat) ≠ 12 by decide), getD_set_ne false (show (2 : Nat) ≠ 15 by decide), getD_set_ne false (show (2 : Nat) ≠ 18 by decide)] using hw⟩
      first | exact ev_move rfl | exact Evs.eq (ev_move rfl) rfl
    · obtain rfl := Option.some.inj (show some _ = some o from ho)
      have hk' := hk
      have hun' : L.getD 3 false = false := getD_both hun
      refine doz_val (v := ptr b) ?_ hk' hw ⟨g, fun _ => rfl, fun _ _ _ => rfl, by simpa only [getD_set_ne false (show (3 : Nat) ≠ 5 by decide), getD_set_ne false (show (3 : Nat) ≠ 6 by decide), getD_set_ne false (show (3 : Nat) ≠ 9 by decide), getD_set_ne false (show (3 : Nat) ≠ 12 by decide), getD_set_ne false (show (3 : Nat) ≠ 15 by decide), getD_set_ne false (show (3 : Nat) ≠ 18 by decide)] using hw⟩
      first | exact ev_move rfl | exact Evs.eq (ev_move rfl) rfl
    · obtain rfl := Option.some.inj (show some _ = some o from ho)
      have hk' := hk
      have hun' : L.getD 4 false = false := getD_both hun
      refine doz_val (v := .agg #[i64 f, i64 t]) ?_ hk' hw ⟨g, fun _ => rfl, fun _ _ _ => rfl, by simpa only [getD_set_ne false (show (4 : Nat) ≠ 5 by decide), getD_set_ne false (show (4 : Nat) ≠ 6 by decide), getD_set_ne false (show (4 : Nat) ≠ 9 by decide), getD_set_ne false (show (4 : Nat) ≠ 12 by decide), getD_set_ne false (show (4 : Nat) ≠ 15 by decide), getD_set_ne false (show (4 : Nat) ≠ 18 by decide)] using hw⟩
      first | exact ev_loadA Tryz.isAgg99 Tryz.sizeOf99 rfl rfl | exact Evs.eq (ev_loadA Tryz.isAgg99 Tryz.sizeOf99 rfl rfl) rfl
    · obtain rfl := Option.some.inj (show some _ = some o from ho)
      have hk' := hk
      have hun' : L.getD 5 false = false := getD_both hun
      have n15 : L.getD 15 false = false := by
        cases h : L.getD 15 false with
        | false => rfl
        | true => have h2 := hcl 15 _ rfl h ⟨5, .data⟩ (by simp) rfl; rw [hun'] at h2; cases h2
      refine doz_chg (ch_makeMap .i64 unitE) hk' hw ?_
      rintro v H' ⟨bn, rfl, rfl⟩ w' hw'
      refine ⟨(bn, g.2), fun _ => rfl, fun j hj hl => ?_, ?_⟩
      · match j with
        | 5 => exact absurd rfl hj
        | 0 | 1 | 2 | 3 | 4 | 6 | 7 | 8 | 10 | 11 | 13 | 14 | 16 | 17 => rfl
        | 9 | 12 | 15 | 18 | _ + 19 => rfl
      · simp only [getD_set_ne false (show (5 : Nat) ≠ 6 by decide), getD_set_ne false (show (5 : Nat) ≠ 9 by decide), getD_set_ne false (show (5 : Nat) ≠ 12 by decide), getD_set_ne false (show (5 : Nat) ≠ 15 by decide), getD_set_ne false (show (5 : Nat) ≠ 18 by decide), getD_set_eq (show 5 < L.size by omega)]
        simp only [hun', n15] at hw' ⊢
        exact (((hw'.front 4 rfl).tail).front 3 rfl |>.front 3 rfl |>.front 3 rfl)
    · obtain rfl := Option.some.inj (show some _ = some o from ho)
      have hk' := hk
      have hun' : L.getD 6 false = false := getD_both hun
      have n18 : L.getD 18 false = false := by
        cases h : L.getD 18 false with
        | false => rfl
        | true => have h2 := hcl 18 _ rfl h ⟨6, .data⟩ (by simp) rfl; rw [hun'] at h2; cases h2
      refine doz_chg (ch_makeMap .i64 unitE) hk' hw ?_
      rintro v H' ⟨bn, rfl, rfl⟩ w' hw'
      refine ⟨(g.1, bn), fun _ => rfl, fun j hj hl => ?_, ?_⟩
      · match j with
        | 6 => exact absurd rfl hj
        | 0 | 1 | 2 | 3 | 4 | 5 | 7 | 8 | 10 | 11 | 13 | 14 | 16 | 17 => rfl
        | 9 | 12 | 15 | 18 | _ + 19 => rfl
      · simp only [getD_set_ne false (show (6 : Nat) ≠ 5 by decide), getD_set_ne false (show (6 : Nat) ≠ 9 by decide), getD_set_ne false (show (6 : Nat) ≠ 12 by decide), getD_set_ne false (show (6 : Nat) ≠ 15 by decide), getD_set_ne false (show (6 : Nat) ≠ 18 by decide), getD_set_eq (show 6 < L.size by omega)]
        simp only [hun', n18] at hw' ⊢
        exact (((hw'.front 5 rfl).tail).front 4 rfl |>.front 4 rfl |>.front 4 rfl |>.front 4 rfl)
    · obtain rfl := Option.some.inj (show some _ = some o from ho)
      have d0_data : L.getD 0 false = true := hdep ⟨0, .data⟩ (by simp) rfl
      have d0 := d0_data
      have d0_phase : L.getD 0 false = true := hdep ⟨0, .phase⟩ (by simp) rfl
      have d0 := d0_phase
      have v0 : a.tmps[9]? = some (ptr b) := hd 0 _ 9 rfl rfl d0
      have hk' := (knows_cons v0 hk)
      have hun' : L.getD 7 false = false := getD_both hun
      refine doz_val (v := .pointer (some ⟨b, 0, none⟩)) ?_ hk' hw ⟨g, fun _ => rfl, fun _ _ _ => rfl, by simpa only [getD_set_ne false (show (7 : Nat) ≠ 5 by decide), getD_set_ne false (show (7 : Nat) ≠ 6 by decide), getD_set_ne false (show (7 : Nat) ≠ 9 by decide), getD_set_ne false (show (7 : Nat) ≠ 12 by decide), getD_set_ne false (show (7 : Nat) ≠ 15 by decide), getD_set_ne false (show (7 : Nat) ≠ 18 by decide)] using hw⟩
      first | exact ev_nil rfl | exact ev_nilf rfl | exact Evs.eq (ev_nil rfl) rfl | exact Evs.eq (ev_nilf rfl) rfl
    · obtain rfl := Option.some.inj (show some _ = some o from ho)
      have d7_data : L.getD 7 false = true := hdep ⟨7, .data⟩ (by simp) rfl
      have d7 := d7_data
      have v7 : a.tmps[16]? = some (.pointer (some ⟨b, 0, none⟩)) := hd 7 _ 16 rfl rfl d7
      have hk' := (knows_cons v7 hk)
      have hun' : L.getD 8 false = false := getD_both hun
      refine doz_val (v := .pointer (some ⟨b, 5, none⟩)) ?_ hk' hw ⟨g, fun _ => rfl, fun _ _ _ => rfl, by simpa only [getD_set_ne false (show (8 : Nat) ≠ 5 by decide), getD_set_ne false (show (8 : Nat) ≠ 6 by decide), getD_set_ne false (show (8 : Nat) ≠ 9 by decide), getD_set_ne false (show (8 : Nat) ≠ 12 by decide), getD_set_ne false (show (8 : Nat) ≠ 15 by decide), getD_set_ne false (show (8 : Nat) ≠ 18 by decide)] using hw⟩
      first | exact ev_fa (m := _) fa_129_3 rfl rfl | exact Evs.eq (ev_fa (m := _) fa_129_3 rfl rfl) rfl
    · obtain rfl := Option.some.inj (show some _ = some o from ho)
      have d8_data : L.getD 8 false = true := hdep ⟨8, .data⟩ (by simp) rfl
      have d8 := d8_data
      have v8 : a.tmps[17]? = some (.pointer (some ⟨b, 5, none⟩)) := hd 8 _ 17 rfl rfl d8
      have hk' := (knows_cons v8 hk)
      have hun' : L.getD 9 false = false := getD_both hun
      refine doz_chg (ch_store Tryz.sizeOf4 rfl rfl rfl rfl) hk' hw ?_
      rintro v H' rfl w' hw'
      refine ⟨g, fun h => absurd rfl h, fun _ _ _ => rfl, ?_⟩
      simp only [getD_set_ne false (show (9 : Nat) ≠ 5 by decide), getD_set_ne false (show (9 : Nat) ≠ 6 by decide), getD_set_ne false (show (9 : Nat) ≠ 12 by decide), getD_set_ne false (show (9 : Nat) ≠ 15 by decide), getD_set_ne false (show (9 : Nat) ≠ 18 by decide), getD_set_eq (show 9 < L.size by omega)]
      simp only [hun', if_true] at hw' ⊢
      exact hw'
    · obtain rfl := Option.some.inj (show some _ = some o from ho)
      have d1_data : L.getD 1 false = true := hdep ⟨1, .data⟩ (by simp) rfl
      have d1 := d1_data
      have d1_phase : L.getD 1 false = true := hdep ⟨1, .phase⟩ (by simp) rfl
      have d1 := d1_phase
      have d9_phase : L.getD 9 false = true := hdep ⟨9, .phase⟩ (by simp) rfl
      have d9 := d9_phase
      have v1 : a.tmps[10]? = some (ptr b) := hd 1 _ 10 rfl rfl d1
      have hk' := (knows_cons v1 hk)
      have hun' : L.getD 10 false = false := getD_both hun
      refine doz_val (v := .pointer (some ⟨b, 0, none⟩)) ?_ hk' hw ⟨g, fun _ => rfl, fun _ _ _ => rfl, by simpa only [getD_set_ne false (show (10 : Nat) ≠ 5 by decide), getD_set_ne false (show (10 : Nat) ≠ 6 by decide), getD_set_ne false (show (10 : Nat) ≠ 9 by decide), getD_set_ne false (show (10 : Nat) ≠ 12 by decide), getD_set_ne false (show (10 : Nat) ≠ 15 by decide), getD_set_ne false (show (10 : Nat) ≠ 18 by decide)] using hw⟩
      first | exact ev_nil rfl | exact ev_nilf rfl | exact Evs.eq (ev_nil rfl) rfl | exact Evs.eq (ev_nilf rfl) rfl
    · obtain rfl := Option.some.inj (show some _ = some o from ho)
      have d10_data : L.getD 10 false = true := hdep ⟨10, .data⟩ (by simp) rfl
      have d10 := d10_data
      have d9_phase : L.getD 9 false = true := hdep ⟨9, .phase⟩ (by simp) rfl
      have d9 := d9_phase
      have v10 : a.tmps[18]? = some (.pointer (some ⟨b, 0, none⟩)) := hd 10 _ 18 rfl rfl d10
      have hk' := (knows_cons v10 hk)
      have hun' : L.getD 11 false = false := getD_both hun
      refine doz_val (v := .pointer (some ⟨b, 6, none⟩)) ?_ hk' hw ⟨g, fun _ => rfl, fun _ _ _ => rfl, by simpa only [getD_set_ne false (show (11 : Nat) ≠ 5 by decide), getD_set_ne false (show (11 : Nat) ≠ 6 by decide), getD_set_ne false (show (11 : Nat) ≠ 9 by decide), getD_set_ne false (show (11 : Nat) ≠ 12 by decide), getD_set_ne false (show (11 : Nat) ≠ 15 by decide), getD_set_ne false (show (11 : Nat) ≠ 18 by decide)] using hw⟩
      first | exact ev_fa (m := _) fa_129_4 rfl rfl | exact Evs.eq (ev_fa (m := _) fa_129_4 rfl rfl) rfl
    · obtain rfl := Option.some.inj (show some _ = some o from ho)
      have d11_data : L.getD 11 false = true := hdep ⟨11, .data⟩ (by simp) rfl
      have d11 := d11_data
      have d4_data : L.getD 4 false = true := hdep ⟨4, .data⟩ (by simp) rfl
      have d4 := d4_data
      have d9_chain : L.getD 9 false = true := hdep ⟨9, .chain⟩ (by simp) rfl
      have d9 := d9_chain
      have d4_phase : L.getD 4 false = true := hdep ⟨4, .phase⟩ (by simp) rfl
      have d4 := d4_phase
      have d9_phase : L.getD 9 false = true := hdep ⟨9, .phase⟩ (by simp) rfl
      have d9 := d9_phase
      have v4 : a.tmps[13]? = some (.agg #[i64 f, i64 t]) := hd 4 _ 13 rfl rfl d4
      have v11 : a.tmps[19]? = some (.pointer (some ⟨b, 6, none⟩)) := hd 11 _ 19 rfl rfl d11
      have hk' := (knows_cons v11 (knows_cons v4 hk))
      have hun' : L.getD 12 false = false := getD_both hun
      refine doz_chg (ch_storeA (vs := [i64 f, i64 t]) Tryz.sizeOf99 rfl rfl rfl rfl rfl) hk' hw ?_
      rintro v H' rfl w' hw'
      refine ⟨g, fun h => absurd rfl h, fun _ _ _ => rfl, ?_⟩
      simp only [getD_set_ne false (show (12 : Nat) ≠ 5 by decide), getD_set_ne false (show (12 : Nat) ≠ 6 by decide), getD_set_ne false (show (12 : Nat) ≠ 9 by decide), getD_set_ne false (show (12 : Nat) ≠ 15 by decide), getD_set_ne false (show (12 : Nat) ≠ 18 by decide), getD_set_eq (show 12 < L.size by omega)]
      simp only [hun', if_true] at hw' ⊢
      exact hw'
    · obtain rfl := Option.some.inj (show some _ = some o from ho)
      have d2_data : L.getD 2 false = true := hdep ⟨2, .data⟩ (by simp) rfl
      have d2 := d2_data
      have d2_phase : L.getD 2 false = true := hdep ⟨2, .phase⟩ (by simp) rfl
      have d2 := d2_phase
      have d5_phase : L.getD 5 false = true := hdep ⟨5, .phase⟩ (by simp) rfl
      have d5 := d5_phase
      have d9_phase : L.getD 9 false = true := hdep ⟨9, .phase⟩ (by simp) rfl
      have d9 := d9_phase
      have d12_phase : L.getD 12 false = true := hdep ⟨12, .phase⟩ (by simp) rfl
      have d12 := d12_phase
      have v2 : a.tmps[11]? = some (ptr b) := hd 2 _ 11 rfl rfl d2
      have hk' := (knows_cons v2 hk)
      have hun' : L.getD 13 false = false := getD_both hun
      refine doz_val (v := .pointer (some ⟨b, 0, none⟩)) ?_ hk' hw ⟨g, fun _ => rfl, fun _ _ _ => rfl, by simpa only [getD_set_ne false (show (13 : Nat) ≠ 5 by decide), getD_set_ne false (show (13 : Nat) ≠ 6 by decide), getD_set_ne false (show (13 : Nat) ≠ 9 by decide), getD_set_ne false (show (13 : Nat) ≠ 12 by decide), getD_set_ne false (show (13 : Nat) ≠ 15 by decide), getD_set_ne false (show (13 : Nat) ≠ 18 by decide)] using hw⟩
      first | exact ev_nil rfl | exact ev_nilf rfl | exact Evs.eq (ev_nil rfl) rfl | exact Evs.eq (ev_nilf rfl) rfl
    · obtain rfl := Option.some.inj (show some _ = some o from ho)
      have d13_data : L.getD 13 false = true := hdep ⟨13, .data⟩ (by simp) rfl
      have d13 := d13_data
      have d5_phase : L.getD 5 false = true := hdep ⟨5, .phase⟩ (by simp) rfl
      have d5 := d5_phase
      have d9_phase : L.getD 9 false = true := hdep ⟨9, .phase⟩ (by simp) rfl
      have d9 := d9_phase
      have d12_phase : L.getD 12 false = true := hdep ⟨12, .phase⟩ (by simp) rfl
      have d12 := d12_phase
      have v13 : a.tmps[20]? = some (.pointer (some ⟨b, 0, none⟩)) := hd 13 _ 20 rfl rfl d13
      have hk' := (knows_cons v13 hk)
      have hun' : L.getD 14 false = false := getD_both hun
      refine doz_val (v := .pointer (some ⟨b, 8, none⟩)) ?_ hk' hw ⟨g, fun _ => rfl, fun _ _ _ => rfl, by simpa only [getD_set_ne false (show (14 : Nat) ≠ 5 by decide), getD_set_ne false (show (14 : Nat) ≠ 6 by decide), getD_set_ne false (show (14 : Nat) ≠ 9 by decide), getD_set_ne false (show (14 : Nat) ≠ 12 by decide), getD_set_ne false (show (14 : Nat) ≠ 15 by decide), getD_set_ne false (show (14 : Nat) ≠ 18 by decide)] using hw⟩
      first | exact ev_fa (m := _) fa_129_5 rfl rfl | exact Evs.eq (ev_fa (m := _) fa_129_5 rfl rfl) rfl
    · obtain rfl := Option.some.inj (show some _ = some o from ho)
      have d14_data : L.getD 14 false = true := hdep ⟨14, .data⟩ (by simp) rfl
      have d14 := d14_data
      have d5_data : L.getD 5 false = true := hdep ⟨5, .data⟩ (by simp) rfl
      have d5 := d5_data
      have d12_chain : L.getD 12 false = true := hdep ⟨12, .chain⟩ (by simp) rfl
      have d12 := d12_chain
      have d5_phase : L.getD 5 false = true := hdep ⟨5, .phase⟩ (by simp) rfl
      have d5 := d5_phase
      have d9_phase : L.getD 9 false = true := hdep ⟨9, .phase⟩ (by simp) rfl
      have d9 := d9_phase
      have d12_phase : L.getD 12 false = true := hdep ⟨12, .phase⟩ (by simp) rfl
      have d12 := d12_phase
      have v5 : a.tmps[14]? = some (.map (some g.1)) := hd 5 _ 14 rfl rfl d5
      have v14 : a.tmps[21]? = some (.pointer (some ⟨b, 8, none⟩)) := hd 14 _ 21 rfl rfl d14
      have hk' := (knows_cons v14 (knows_cons v5 hk))
      have hun' : L.getD 15 false = false := getD_both hun
      refine doz_chg (ch_store Tryz.sizeOf127 rfl rfl rfl rfl) hk' hw ?_
      rintro v H' rfl w' hw'
      refine ⟨g, fun h => absurd rfl h, fun _ _ _ => rfl, ?_⟩
      simp only [getD_set_ne false (show (15 : Nat) ≠ 5 by decide), getD_set_ne false (show (15 : Nat) ≠ 6 by decide), getD_set_ne false (show (15 : Nat) ≠ 9 by decide), getD_set_ne false (show (15 : Nat) ≠ 12 by decide), getD_set_ne false (show (15 : Nat) ≠ 18 by decide), getD_set_eq (show 15 < L.size by omega)]
      simp only [hun', if_true] at hw' ⊢
      exact hw'
    · obtain rfl := Option.some.inj (show some _ = some o from ho)
      have d3_data : L.getD 3 false = true := hdep ⟨3, .data⟩ (by simp) rfl
      have d3 := d3_data
      have d3_phase : L.getD 3 false = true := hdep ⟨3, .phase⟩ (by simp) rfl
      have d3 := d3_phase
      have d5_phase : L.getD 5 false = true := hdep ⟨5, .phase⟩ (by simp) rfl
      have d5 := d5_phase
      have d6_phase : L.getD 6 false = true := hdep ⟨6, .phase⟩ (by simp) rfl
      have d6 := d6_phase
      have d9_phase : L.getD 9 false = true := hdep ⟨9, .phase⟩ (by simp) rfl
      have d9 := d9_phase
      have d12_phase : L.getD 12 false = true := hdep ⟨12, .phase⟩ (by simp) rfl
      have d12 := d12_phase
      have d15_phase : L.getD 15 false = true := hdep ⟨15, .phase⟩ (by simp) rfl
      have d15 := d15_phase
      have v3 : a.tmps[12]? = some (ptr b) := hd 3 _ 12 rfl rfl d3
      have hk' := (knows_cons v3 hk)
      have hun' : L.getD 16 false = false := getD_both hun
      refine doz_val (v := .pointer (some ⟨b, 0, none⟩)) ?_ hk' hw ⟨g, fun _ => rfl, fun _ _ _ => rfl, by simpa only [getD_set_ne false (show (16 : Nat) ≠ 5 by decide), getD_set_ne false (show (16 : Nat) ≠ 6 by decide), getD_set_ne false (show (16 : Nat) ≠ 9 by decide), getD_set_ne false (show (16 : Nat) ≠ 12 by decide), getD_set_ne false (show (16 : Nat) ≠ 15 by decide), getD_set_ne false (show (16 : Nat) ≠ 18 by decide)] using hw⟩
      first | exact ev_nil rfl | exact ev_nilf rfl | exact Evs.eq (ev_nil rfl) rfl | exact Evs.eq (ev_nilf rfl) rfl
    · obtain rfl := Option.some.inj (show some _ = some o from ho)
      have d16_data : L.getD 16 false = true := hdep ⟨16, .data⟩ (by simp) rfl
      have d16 := d16_data
      have d5_phase : L.getD 5 false = true := hdep ⟨5, .phase⟩ (by simp) rfl
      have d5 := d5_phase
      have d6_phase : L.getD 6 false = true := hdep ⟨6, .phase⟩ (by simp) rfl
      have d6 := d6_phase
      have d9_phase : L.getD 9 false = true := hdep ⟨9, .phase⟩ (by simp) rfl
      have d9 := d9_phase
      have d12_phase : L.getD 12 false = true := hdep ⟨12, .phase⟩ (by simp) rfl
      have d12 := d12_phase
      have d15_phase : L.getD 15 false = true := hdep ⟨15, .phase⟩ (by simp) rfl
      have d15 := d15_phase
      have v16 : a.tmps[22]? = some (.pointer (some ⟨b, 0, none⟩)) := hd 16 _ 22 rfl rfl d16
      have hk' := (knows_cons v16 hk)
      have hun' : L.getD 17 false = false := getD_both hun
      refine doz_val (v := .pointer (some ⟨b, 9, none⟩)) ?_ hk' hw ⟨g, fun _ => rfl, fun _ _ _ => rfl, by simpa only [getD_set_ne false (show (17 : Nat) ≠ 5 by decide), getD_set_ne false (show (17 : Nat) ≠ 6 by decide), getD_set_ne false (show (17 : Nat) ≠ 9 by decide), getD_set_ne false (show (17 : Nat) ≠ 12 by decide), getD_set_ne false (show (17 : Nat) ≠ 15 by decide), getD_set_ne false (show (17 : Nat) ≠ 18 by decide)] using hw⟩
      first | exact ev_fa (m := _) fa_129_6 rfl rfl | exact Evs.eq (ev_fa (m := _) fa_129_6 rfl rfl) rfl
    · obtain rfl := Option.some.inj (show some _ = some o from ho)
      have d17_data : L.getD 17 false = true := hdep ⟨17, .data⟩ (by simp) rfl
      have d17 := d17_data
      have d6_data : L.getD 6 false = true := hdep ⟨6, .data⟩ (by simp) rfl
      have d6 := d6_data
      have d15_chain : L.getD 15 false = true := hdep ⟨15, .chain⟩ (by simp) rfl
      have d15 := d15_chain
      have d5_phase : L.getD 5 false = true := hdep ⟨5, .phase⟩ (by simp) rfl
      have d5 := d5_phase
      have d6_phase : L.getD 6 false = true := hdep ⟨6, .phase⟩ (by simp) rfl
      have d6 := d6_phase
      have d9_phase : L.getD 9 false = true := hdep ⟨9, .phase⟩ (by simp) rfl
      have d9 := d9_phase
      have d12_phase : L.getD 12 false = true := hdep ⟨12, .phase⟩ (by simp) rfl
      have d12 := d12_phase
      have d15_phase : L.getD 15 false = true := hdep ⟨15, .phase⟩ (by simp) rfl
      have d15 := d15_phase
      have v6 : a.tmps[15]? = some (.map (some g.2)) := hd 6 _ 15 rfl rfl d6
      have v17 : a.tmps[23]? = some (.pointer (some ⟨b, 9, none⟩)) := hd 17 _ 23 rfl rfl d17
      have hk' := (knows_cons v17 (knows_cons v6 hk))
      have hun' : L.getD 18 false = false := getD_both hun
      refine doz_chg (ch_store Tryz.sizeOf127 rfl rfl rfl rfl) hk' hw ?_
      rintro v H' rfl w' hw'
      refine ⟨g, fun h => absurd rfl h, fun _ _ _ => rfl, ?_⟩
      simp only [getD_set_ne false (show (18 : Nat) ≠ 5 by decide), getD_set_ne false (show (18 : Nat) ≠ 6 by decide), getD_set_ne false (show (18 : Nat) ≠ 9 by decide), getD_set_ne false (show (18 : Nat) ≠ 12 by decide), getD_set_ne false (show (18 : Nat) ≠ 15 by decide), getD_set_eq (show 18 < L.size by omega)]
      simp only [hun', if_true] at hw' ⊢
      exact hw'
  · intro L g hall a w hk hd hw
    have h5 := hall 5 (by decide)
    have h6 := hall 6 (by decide)
    have h9 := hall 9 (by decide)
    have h12 := hall 12 (by decide)
    have h15 := hall 15 (by decide)
    have h18 := hall 18 (by decide)
    simp only [h5, h6, h9, h12, h15, h18, if_true] at hw
    exact ⟨fun u x e => hk u x (by simp only [look] at e ⊢; cases hb : Nat.beq 0 u <;> simp_all), hw⟩
  intro g
  refine g_seq (g_region (kPa rfl rfl (p_nil (go_sb [4] rfl (g_ret ?_)))))
  exact ret_tmp Tryz.results53 rfl (fun w hh => ⟨_, ⟨rfl, rfl⟩, secO_holds (S := { S with ff := f, ft := t, seen := [], dirty := [] }) hh.tail⟩)
theorem undo_dc {L L' : LogS} {s s' : Dev} (h : L.undo s = .ok L' s') : L'.d = L.d ∧ L'.c = L.c := by
  unfold LogS.undo at h
  cases h1 : recN undoS L.c L.n.toNat s with
  | off s1 => rw [h1] at h; cases h
  | ok u s1 =>
    rw [h1, then_ok] at h
    cases h2 : (if 0 < L.n then s1.fence else Out.ok () s1) with
    | off s2 => rw [h2] at h; cases h
    | ok u s2 => rw [h2, then_ok] at h; exact trunc_d h
theorem sabortO_ok (B : World) (Fr : List HP) (b : Nat) (S : SecS) (s : Dev) (hL : SecW S) :
    ∀ w, Holds B (SecO b S :: DevA S.L.d s :: Fr) w → Calls Tryz.prog 145 [ptr b].toArray w (Ret B (fun rv H' => ∃ S' s', S.abort s = .ok S' s' ∧ rv = i64 0 ∧ H' = SecC b S' :: DevA S.L.d s' :: Fr) (fun c H' => ∃ s', S.abort s = .off s' ∧ c = offc ∧ H' = DevA S.L.d s' :: Fr)) := by
  refine fn_enter Tryz.func145 rfl Tryz.ntmps145 rfl ?_
  have hl := hL.L
  have hc := hl.c
  have hc1 := hc.r1
  have hc2 := hc.r2
  have hc3 := hc.l1
  have hc4 := hc.l2
  have hact := hc.act
  refine go_dw S.L.d fun hn1 hn2 hn3 => (go_secO fun bl o1 o2 => (g_seq (g_region (kPa rfl rfl (p_nil (g_seq (g_seq (g_region (kPm rfl rfl ?_)))))))))
  first | refine kPv (ev_nil rfl) rfl ?_ | refine kPv (ev_nilf rfl) rfl ?_
  refine kPv (ev_fa (m := _) fa_129_3 rfl rfl) rfl (kPv (ev_load Tryz.isAgg4 rfl rfl) rfl (kPv (ev_not rfl) rfl (p_nil (g_iff rfl (rfl) (g_skip (g_seq (g_region (go_conv (H' := LogA bl S.L :: DevA S.L.d s :: secRow b bl S true (some o1) (some o2) :: mapA .i64 unitE o1 S.seen :: mapA .i64 unitE o2 S.dirty :: Fr) (fun w hh => ((hh.front 4 rfl).front 2 rfl)) (kPm rfl rfl ?_)))))))))
  first | refine kPv (ev_nil rfl) rfl ?_ | refine kPv (ev_nilf rfl) rfl ?_
  refine kPv (ev_fa (m := _) fa_129_0 rfl rfl) rfl (kPv (ev_load Tryz.isAgg116 rfl rfl) rfl ?_)
  refine p_call rfl (en_f Tryz.call67 rfl) (lundo_ok _ _ bl S.L _ hL.L) .free rfl rfl ?_ ?_
  rotate_left
  · rintro _ _ ⟨s9, hm9, rfl, rfl⟩
    exact pan_fn fun w hh => ⟨_, ⟨s9, by simp [SecS.abort, hm9], rfl, rfl⟩, ((((hh.front 4 rfl).front 4 rfl).front 4 rfl).front 3 rfl).tail.tail.tail.tail⟩
  rintro _ _ ⟨L5, s5, hm5, rfl, rfl⟩
  refine p_nil (go_sb [2, 0] rfl (g_seq (g_region (kPm rfl rfl ?_))))
  first | refine kPv (ev_nil rfl) rfl ?_ | refine kPv (ev_nilf rfl) rfl ?_
  refine kPv (ev_fa (m := _) fa_129_3 rfl rfl) rfl (p_chg0 rfl (ch_store Tryz.sizeOf4 rfl rfl rfl rfl) .free rfl ?_)
  rintro _ _ rfl
  refine p_nil (g_seq (g_region (kPa rfl rfl (p_nil (g_ret ?_)))))
  exact ret_tmp Tryz.results145 rfl (fun w hh => by
      have hd1 := undo_dc hm5
      obtain ⟨d1, c1, e1, n1⟩ := L5
      obtain ⟨hd2, hd3⟩ := hd1
      simp only at hd2 hd3
      subst hd2; subst hd3
      exact ⟨_, ⟨{ S with L := ⟨_, _, e1, n1⟩ }, _, by simp [SecS.abort, hm5], rfl, rfl⟩, secC_holds (((((hh.front 4 rfl).front 4 rfl).tail.tail.front 1 rfl).front 1 rfl).front 2 rfl)⟩)
theorem snew_ok (B : World) (Fr : List HP) (bd : Nat) (s : Dev) (c : Cfg) (hc : CfgW c) :
    ∀ w, Holds B (DevA bd s :: Fr) w → Calls Tryz.prog 69 [ptr bd, cfgV c].toArray w (Ret B (fun rv H' => ∃ b, rv = ptr b ∧ H' = SecC b ⟨openL bd c s, 0, 0, [], []⟩ :: DevA bd s :: Fr) (fun _ _ => False)) := by
  refine fn_enter Tryz.func69 rfl Tryz.ntmps69 rfl (g_seq (g_region (p_chg rfl (ch_boxA rfl) .free rfl rfl ?_)))
  rintro _ _ ⟨b3, rfl, rfl⟩
  refine kPa rfl rfl (p_nil (g_seq (go_conv (H' := pr True :: DevA bd s :: row b3 [i64 c.log, i64 c.roots, i64 c.space] 40 :: pr True :: Fr) (fun w hh => ((((hh.unpr trivial).front 1 rfl).front 2 rfl).unpr trivial)) (go_sub (σ' := [(0, ptr bd), (3, ptr b3)]) ⟨rfl, rfl, trivial⟩ ?_))))
  refine g_anyg (G := Nat × Nat) [0, 3] (fun g i => match i with | 0 => ptr bd | 1 => cfgV c | 2 => ptr g.1 | 3 => ptr bd | 4 => cfgV c | 5 => .agg #[ptr g.1, ptr bd, i64 c.log, i64 c.roots, i64 c.space, .bool false, i64 0, i64 0, .map none, .map none] | 6 => ptr g.2 | 7 => ptr g.2 | _ => undef) (fun L g => (if (L.getD 2 false) = true then LogA g.1 (openL bd c s) else pr True) :: DevA bd s :: row b3 [i64 c.log, i64 c.roots, i64 c.space] 40 :: (if (L.getD 6 false) = true then secRow g.2 g.1 ⟨openL bd c s, 0, 0, [], []⟩ false none none else pr True) :: Fr) (0, 0) (fun g => [(4, ptr g.2)]) (fun g => LogA g.1 (openL bd c s) :: DevA bd s :: row b3 [i64 c.log, i64 c.roots, i64 c.space] 40 :: secRow g.2 g.1 ⟨openL bd c s, 0, 0, [], []⟩ false none none :: Fr) Tryz.mixed (by kernel_rfl) (fun t v h => look_mem h) rfl ?_ ?_ ?_
  · intro i o ho L g hsz hun hcl hdep a hk hd w hw
    have hi : i < 8 := (Array.getElem?_eq_some_iff.1 ho).1
    have hL : L.size = 8 := hsz
    obtain rfl | rfl | rfl | rfl | rfl | rfl | rfl | rfl : i = 0 ∨ i = 1 ∨ i = 2 ∨ i = 3 ∨ i = 4 ∨ i = 5 ∨ i = 6 ∨ i = 7 := by omega
    · obtain rfl := Option.some.inj (show some _ = some o from ho)
      have hk' := hk
      have hun' : L.getD 0 false = false := getD_both hun
      refine doz_val (v := ptr bd) ?_ hk' hw ⟨g, fun _ => rfl, fun _ _ _ => rfl, by simpa only [getD_set_ne false (show (0 : Nat) ≠ 2 by decide), getD_set_ne false (show (0 : Nat) ≠ 6 by decide)] using hw⟩
      first | exact ev_move rfl | exact Evs.eq (ev_move rfl) rfl
    · obtain rfl := Option.some.inj (show some _ = some o from ho)
      have hk' := hk
      have hun' : L.getD 1 false = false := getD_both hun
      refine doz_val (v := cfgV c) ?_ hk' hw ⟨g, fun _ => rfl, fun _ _ _ => rfl, by simpa only [getD_set_ne false (show (1 : Nat) ≠ 2 by decide), getD_set_ne false (show (1 : Nat) ≠ 6 by decide)] using hw⟩
      first | exact ev_loadA Tryz.isAgg40 Tryz.sizeOf40 rfl rfl | exact Evs.eq (ev_loadA Tryz.isAgg40 Tryz.sizeOf40 rfl rfl) rfl
    · obtain rfl := Option.some.inj (show some _ = some o from ho)
      have d0_data : L.getD 0 false = true := hdep ⟨0, .data⟩ (by simp) rfl
      have d0 := d0_data
      have d1_data : L.getD 1 false = true := hdep ⟨1, .data⟩ (by simp) rfl
      have d1 := d1_data
      have v0 : a.tmps[5]? = some (ptr bd) := hd 0 _ 5 rfl rfl d0
      have v1 : a.tmps[6]? = some (cfgV c) := hd 1 _ 6 rfl rfl d1
      have hk' := (knows_cons v1 (knows_cons v0 hk))
      have hun' : L.getD 2 false = false := getD_both hun
      have n6 : L.getD 6 false = false := by
        cases h : L.getD 6 false with
        | false => rfl
        | true => have h2 := hcl 6 _ rfl h ⟨5, .data⟩ (by simp) rfl; have h3 := hcl 5 _ rfl h2 ⟨2, .data⟩ (by simp) rfl; rw [hun'] at h3; cases h3
      simp only [hun', n6] at hw
      refine doz_call (en_f Tryz.call64 rfl) (lopen_ok B _ bd s c hc) hk' (hw.tail) ?_
      rintro v H' ⟨bl, rfl, rfl⟩ w' hw'
      refine ⟨(bl, g.2), fun _ => rfl, fun j hj hl => ?_, ?_⟩
      · match j with
        | 2 => exact absurd rfl hj
        | 5 => have h3 := hcl 5 _ rfl hl ⟨2, .data⟩ (by simp) rfl; rw [hun'] at h3; cases h3
        | 0 | 1 | 3 | 4 | 6 | 7 => rfl
        | _ + 8 => rfl
      · simp only [getD_set_ne false (show (2 : Nat) ≠ 6 by decide), getD_set_eq (show 2 < L.size by omega)]
        simp only [n6, if_true] at hw' ⊢
        exact hw'
    · obtain rfl := Option.some.inj (show some _ = some o from ho)
      have hk' := hk
      have hun' : L.getD 3 false = false := getD_both hun
      refine doz_val (v := ptr bd) ?_ hk' hw ⟨g, fun _ => rfl, fun _ _ _ => rfl, by simpa only [getD_set_ne false (show (3 : Nat) ≠ 2 by decide), getD_set_ne false (show (3 : Nat) ≠ 6 by decide)] using hw⟩
      first | exact ev_move rfl | exact Evs.eq (ev_move rfl) rfl
    · obtain rfl := Option.some.inj (show some _ = some o from ho)
      have hk' := hk
      have hun' : L.getD 4 false = false := getD_both hun
      refine doz_val (v := cfgV c) ?_ hk' hw ⟨g, fun _ => rfl, fun _ _ _ => rfl, by simpa only [getD_set_ne false (show (4 : Nat) ≠ 2 by decide), getD_set_ne false (show (4 : Nat) ≠ 6 by decide)] using hw⟩
      first | exact ev_loadA Tryz.isAgg40 Tryz.sizeOf40 rfl rfl | exact Evs.eq (ev_loadA Tryz.isAgg40 Tryz.sizeOf40 rfl rfl) rfl
    · obtain rfl := Option.some.inj (show some _ = some o from ho)
      have d2_data : L.getD 2 false = true := hdep ⟨2, .data⟩ (by simp) rfl
      have d2 := d2_data
      have d3_data : L.getD 3 false = true := hdep ⟨3, .data⟩ (by simp) rfl
      have d3 := d3_data
      have d4_data : L.getD 4 false = true := hdep ⟨4, .data⟩ (by simp) rfl
      have d4 := d4_data
      have v2 : a.tmps[7]? = some (ptr g.1) := hd 2 _ 7 rfl rfl d2
      have v3 : a.tmps[8]? = some (ptr bd) := hd 3 _ 8 rfl rfl d3
      have v4 : a.tmps[9]? = some (cfgV c) := hd 4 _ 9 rfl rfl d4
      have hk' := (knows_cons v4 (knows_cons v3 (knows_cons v2 hk)))
      have hun' : L.getD 5 false = false := getD_both hun
      refine doz_val (v := .agg #[ptr g.1, ptr bd, i64 c.log, i64 c.roots, i64 c.space, .bool false, i64 0, i64 0, .map none, .map none]) ?_ hk' hw ⟨g, fun _ => rfl, fun _ _ _ => rfl, by simpa only [getD_set_ne false (show (5 : Nat) ≠ 2 by decide), getD_set_ne false (show (5 : Nat) ≠ 6 by decide)] using hw⟩
      first | exact ev_build rfl (bld_129_0_1_2 _ _ _ _ _ (by first | rfl | assumption) (by first | rfl | assumption)) | exact Evs.eq (ev_build rfl (bld_129_0_1_2 _ _ _ _ _ (by first | rfl | assumption) (by first | rfl | assumption))) rfl
    · obtain rfl := Option.some.inj (show some _ = some o from ho)
      have d5_data : L.getD 5 false = true := hdep ⟨5, .data⟩ (by simp) rfl
      have d5 := d5_data
      have v5 : a.tmps[10]? = some (.agg #[ptr g.1, ptr bd, i64 c.log, i64 c.roots, i64 c.space, .bool false, i64 0, i64 0, .map none, .map none]) := hd 5 _ 10 rfl rfl d5
      have hk' := (knows_cons v5 hk)
      have hun' : L.getD 6 false = false := getD_both hun
      have d2 : L.getD 2 false = true := hcl 5 _ rfl d5 ⟨2, .data⟩ (by simp) rfl
      refine doz_chg (ch_boxA rfl) hk' hw ?_
      rintro v H' ⟨b, rfl, rfl⟩ w' hw'
      refine ⟨(g.1, b), fun _ => rfl, fun j hj hl => ?_, ?_⟩
      · match j with
        | 6 => exact absurd rfl hj
        | 7 => have h3 := hcl 7 _ rfl hl ⟨6, .data⟩ (by simp) rfl; rw [hun'] at h3; cases h3
        | 0 | 1 | 2 | 3 | 4 | 5 => rfl
        | _ + 8 => rfl
      · simp only [getD_set_ne false (show (6 : Nat) ≠ 2 by decide), getD_set_eq (show 6 < L.size by omega)]
        simp only [hun', if_true] at hw' ⊢
        exact (((hw'.front 4 rfl).tail).front 3 rfl |>.front 3 rfl |>.front 3 rfl)
    · obtain rfl := Option.some.inj (show some _ = some o from ho)
      have d6_data : L.getD 6 false = true := hdep ⟨6, .data⟩ (by simp) rfl
      have d6 := d6_data
      have d2_chain : L.getD 2 false = true := hdep ⟨2, .chain⟩ (by simp) rfl
      have d2 := d2_chain
      have d2_phase : L.getD 2 false = true := hdep ⟨2, .phase⟩ (by simp) rfl
      have d2 := d2_phase
      have d6_phase : L.getD 6 false = true := hdep ⟨6, .phase⟩ (by simp) rfl
      have d6 := d6_phase
      have v6 : a.tmps[11]? = some (ptr g.2) := hd 6 _ 11 rfl rfl d6
      have hk' := (knows_cons v6 hk)
      have hun' : L.getD 7 false = false := getD_both hun
      refine doz_val (v := ptr g.2) ?_ hk' hw ⟨g, fun _ => rfl, fun _ _ _ => rfl, by simpa only [getD_set_ne false (show (7 : Nat) ≠ 2 by decide), getD_set_ne false (show (7 : Nat) ≠ 6 by decide)] using hw⟩
      first | exact ev_assign rfl | exact Evs.eq (ev_assign rfl) rfl
  · intro L g hall a w hk hd hw
    have h2 := hall 2 (by decide)
    have h6 := hall 6 (by decide)
    have h7 := hall 7 (by decide)
    simp only [h2, h6, if_true] at hw
    exact ⟨KnA.knows ⟨hd 7 _ 4 rfl rfl h7, trivial⟩, hw⟩
  intro g
  refine g_ret ?_
  exact ret_tmp Tryz.results69 rfl (fun w hh => ⟨_, ⟨_, rfl, rfl⟩, secC_holds (S := ⟨openL bd c s, 0, 0, [], []⟩) ((((hh.front 2 rfl).tail).front 2 rfl).front 1 rfl |>.front 1 rfl)⟩)
end Go.Proofs.YtlcibdhmgclfjaaGreat
namespace Go.Proofs.YtlcibdhmgclfjaaGreat
open Go
theorem cfgW_iff (c : Cfg) : CfgW c ↔ 1 ≤ c.roots ∧ c.roots ≤ 16 ∧ c.roots + 2 ≤ c.log ∧ c.log ≤ 200 ∧ 8 ≤ c.space ∧ c.space ≤ 4096 := ⟨fun h => ⟨h.r1, h.r2, h.l1, h.l2, h.s1, h.s2⟩, fun ⟨a, b, c, d, e, f⟩ => ⟨a, b, c, d, e, f⟩⟩
def chk (c : Cfg) : Int := if CfgW c then 0 else 1
theorem chk_w {c : Cfg} (h : (chk c != 0) = false) : CfgW c := by
  unfold chk at h; split at h
  · assumption
  · simp at h
def zeroN (f : Int → Int) : Nat → Int → Dev → Out Unit
  | 0, _, s => .ok () s
  | k + 1, i, s => (s.store (f i) 0).then fun _ s => (s.flush (f i)).then fun _ s => zeroN f k (i + 1) s
def magicI : Int := 6076848300954571569
def st3 (l : List Int) : Nat → Nat → Dev → Out Unit
  | 0, _, s => .ok () s
  | k + 1, i, s => (s.store (1 + (i : Int)) (l.getD i 0)).then fun _ s => st3 l k (i + 1) s
theorem l3_get {a b c : Int} {k : Nat} (h : k < 3) : ([i64 a, i64 b, i64 c] : List Value)[k]? = some (i64 ([a, b, c].getD k 0)) := by
  rcases (by omega : k = 0 ∨ k = 1 ∨ k = 2) with rfl | rfl | rfl <;> rfl
theorem l3_b {a b c : Int} {k : Nat} (h : k < 3) (ha : 0 ≤ a ∧ a ≤ 100000) (hb : 0 ≤ b ∧ b ≤ 100000) (hc : 0 ≤ c ∧ c ≤ 100000) : 0 ≤ [a, b, c].getD k 0 ∧ [a, b, c].getD k 0 ≤ 100000 := by
  rcases (by omega : k = 0 ∨ k = 1 ∨ k = 2) with rfl | rfl | rfl <;> simpa
def Dev.format (s : Dev) (c : Cfg) : Out Int :=
  if ¬ CfgW c ∨ (s.n : Int) ≠ c.words then .ok 1 s else
    (s.store 0 0).then fun _ s => (s.flush 0).then fun _ s => s.fence.then fun _ s =>
    (st3 [c.log, c.roots, c.space] 3 0 s).then fun _ s =>
    (s.store 8 1).then fun _ s => (s.flush 8).then fun _ s => (zeroN c.record c.log.toNat 0 s).then fun _ s =>
    (zeroN id (c.root c.roots - c.active).toNat c.active s).then fun _ s => (s.flush 0).then fun _ s => s.fence.then fun _ s =>
    (s.store 0 magicI).then fun _ s => (s.flush 0).then fun _ s => s.fence.then fun _ s => .ok 0 s
theorem check_ok (B : World) (H : List HP) (c : Cfg) :
    ∀ w, Holds B H w → Calls Tryz.prog 129 [cfgV c].toArray w (PureR B H (i64 (chk c))) := by
  refine fn_enter Tryz.func129 rfl Tryz.ntmps129 rfl (g_seq (g_region (p_chg rfl (ch_boxA rfl) .free rfl rfl ?_)))
  rintro _ _ ⟨b1, rfl, rfl⟩
  refine kPa rfl rfl (p_nil (g_seq (g_seq (g_region (kPv (ev_fa (m := _) fa_40_1 rfl rfl) rfl (kPv (ev_load Tryz.isAgg3 rfl rfl) rfl (kPv (ev_cmp rfl rfl rfl) rfl (kPm rfl rfl ?_))))))))
  apply p_or (tp := 10) (t := 6) (σ1 := [(6, _), (2, _), (1, _)]) 4 rfl (sub_r rfl)
  · intro hg1
    refine p_val rfl (ev_fa (m := _) fa_40_1 rfl rfl) (.on rfl rfl (beq_eq hg1)) rfl rfl (p_val rfl (ev_load Tryz.isAgg3 rfl rfl) (.on rfl rfl (beq_eq hg1)) rfl rfl (p_val rfl (ev_cmp rfl rfl rfl) (.on rfl rfl (beq_eq hg1)) rfl rfl (kPv (ev_pick_f rfl hg1 rfl) rfl ?_)))
    exact p_seg rfl (sub_r rfl) (or_f hg1)
  · intro hg1
    refine p_skip rfl (.on rfl rfl (beq_ne hg1)) rfl (p_skip rfl (.on rfl rfl (beq_ne hg1)) rfl (p_skip rfl (.on rfl rfl (beq_ne hg1)) rfl (kPv (ev_pick_t rfl hg1 rfl) rfl ?_)))
    exact p_seg rfl (sub_r rfl) (or_t hg1)
  refine kPm rfl rfl ?_
  apply p_or (tp := 18) (t := 11) (σ1 := [(11, _), (2, _), (1, _)]) 7 rfl (sub_r rfl)
  · intro hg2
    refine p_val rfl (ev_fa (m := _) fa_40_0 rfl rfl) (.on rfl rfl (beq_eq hg2)) rfl rfl (p_val rfl (ev_load Tryz.isAgg3 rfl rfl) (.on rfl rfl (beq_eq hg2)) rfl rfl (p_val rfl (ev_fa (m := _) fa_40_1 rfl rfl) (.on rfl rfl (beq_eq hg2)) rfl rfl (p_val rfl (ev_load Tryz.isAgg3 rfl rfl) (.on rfl rfl (beq_eq hg2)) rfl rfl (p_val rfl (ev_add (c := c.roots + 2) rfl rfl (by simp only [Bool.or_eq_false_iff, decide_eq_false_iff_not] at *; rw [wr64 (by omega)])) (.on rfl rfl (beq_eq hg2)) rfl rfl (p_val rfl (ev_cmp rfl rfl rfl) (.on rfl rfl (beq_eq hg2)) rfl rfl (kPv (ev_pick_f rfl hg2 rfl) rfl ?_))))))
    exact p_seg rfl (sub_r rfl) (or_f hg2)
  · intro hg2
    refine p_skip rfl (.on rfl rfl (beq_ne hg2)) rfl (p_skip rfl (.on rfl rfl (beq_ne hg2)) rfl (p_skip rfl (.on rfl rfl (beq_ne hg2)) rfl (p_skip rfl (.on rfl rfl (beq_ne hg2)) rfl (p_skip rfl (.on rfl rfl (beq_ne hg2)) rfl (p_skip rfl (.on rfl rfl (beq_ne hg2)) rfl (kPv (ev_pick_t rfl hg2 rfl) rfl ?_))))))
    exact p_seg rfl (sub_r rfl) (or_t hg2)
  refine kPm rfl rfl ?_
  apply p_or (tp := 23) (t := 19) (σ1 := [(19, _), (2, _), (1, _)]) 4 rfl (sub_r rfl)
  · intro hg3
    refine p_val rfl (ev_fa (m := _) fa_40_0 rfl rfl) (.on rfl rfl (beq_eq hg3)) rfl rfl (p_val rfl (ev_load Tryz.isAgg3 rfl rfl) (.on rfl rfl (beq_eq hg3)) rfl rfl (p_val rfl (ev_cmp rfl rfl rfl) (.on rfl rfl (beq_eq hg3)) rfl rfl (kPv (ev_pick_f rfl hg3 rfl) rfl ?_)))
    exact p_seg rfl (sub_r rfl) (or_f hg3)
  · intro hg3
    refine p_skip rfl (.on rfl rfl (beq_ne hg3)) rfl (p_skip rfl (.on rfl rfl (beq_ne hg3)) rfl (p_skip rfl (.on rfl rfl (beq_ne hg3)) rfl (kPv (ev_pick_t rfl hg3 rfl) rfl ?_)))
    exact p_seg rfl (sub_r rfl) (or_t hg3)
  refine kPm rfl rfl ?_
  apply p_or (tp := 28) (t := 24) (σ1 := [(24, _), (2, _), (1, _)]) 4 rfl (sub_r rfl)
  · intro hg4
    refine p_val rfl (ev_fa (m := _) fa_40_2 rfl rfl) (.on rfl rfl (beq_eq hg4)) rfl rfl (p_val rfl (ev_load Tryz.isAgg3 rfl rfl) (.on rfl rfl (beq_eq hg4)) rfl rfl (p_val rfl (ev_cmp rfl rfl rfl) (.on rfl rfl (beq_eq hg4)) rfl rfl (kPv (ev_pick_f rfl hg4 rfl) rfl ?_)))
    exact p_seg rfl (sub_r rfl) (or_f hg4)
  · intro hg4
    refine p_skip rfl (.on rfl rfl (beq_ne hg4)) rfl (p_skip rfl (.on rfl rfl (beq_ne hg4)) rfl (p_skip rfl (.on rfl rfl (beq_ne hg4)) rfl (kPv (ev_pick_t rfl hg4 rfl) rfl ?_)))
    exact p_seg rfl (sub_r rfl) (or_t hg4)
  refine kPm rfl rfl ?_
  apply p_or (tp := 33) (t := 29) (σ1 := [(29, _), (2, _)]) 4 rfl ⟨rfl, rfl, trivial⟩
  · intro hg5
    refine p_val rfl (ev_fa (m := _) fa_40_2 rfl rfl) (.on rfl rfl (beq_eq hg5)) rfl rfl (p_val rfl (ev_load Tryz.isAgg3 rfl rfl) (.on rfl rfl (beq_eq hg5)) rfl rfl (p_val rfl (ev_cmp rfl rfl rfl) (.on rfl rfl (beq_eq hg5)) rfl rfl (kPv (ev_pick_f rfl hg5 rfl) rfl ?_)))
    exact p_seg rfl ⟨rfl, rfl, trivial⟩ (or_f hg5)
  · intro hg5
    refine p_skip rfl (.on rfl rfl (beq_ne hg5)) rfl (p_skip rfl (.on rfl rfl (beq_ne hg5)) rfl (p_skip rfl (.on rfl rfl (beq_ne hg5)) rfl (kPv (ev_pick_t rfl hg5 rfl) rfl ?_)))
    exact p_seg rfl ⟨rfl, rfl, trivial⟩ (or_t hg5)
  refine p_nil ?_
  refine g_if rfl (fun h33 => ?_) (fun h33 => ?_)
  · try simp only [decide_eq_true_eq, decide_eq_false_iff_not, Bool.not_eq_true', Bool.not_eq_false', Bool.or_eq_true, Bool.and_eq_true, Bool.and_eq_false_iff, Bool.or_eq_false_iff, beq_iff_eq, bne_iff_ne, beq_eq_false_iff_ne, bne_eq_false_iff_eq, ge_iff_le, gt_iff_lt, ne_eq] at h33
    refine g_seq (g_region (kPa rfl rfl (p_nil (g_ret ?_))))
    exact ret_tmp Tryz.results129 rfl (fun w hw => ⟨by unfold chk; rw [if_neg (by rw [cfgW_iff]; omega)], hw.tail⟩)
  · try simp only [decide_eq_true_eq, decide_eq_false_iff_not, Bool.not_eq_true', Bool.not_eq_false', Bool.or_eq_true, Bool.and_eq_true, Bool.and_eq_false_iff, Bool.or_eq_false_iff, beq_iff_eq, bne_iff_ne, beq_eq_false_iff_ne, bne_eq_false_iff_eq, ge_iff_le, gt_iff_lt, ne_eq] at h33
    refine g_skip (g_seq (g_region (kPa rfl rfl (p_nil (g_ret ?_)))))
    exact ret_tmp Tryz.results129 rfl (fun w hw => ⟨by unfold chk; rw [if_pos (by rw [cfgW_iff]; omega)], hw.tail⟩)
theorem format_ok {s : Dev} {c : Cfg} (h : CfgW c) (hn : (s.n : Int) = c.words) : ¬ (¬ CfgW c ∨ (s.n : Int) ≠ c.words) := by simp [h, hn]
theorem zeroN_add (f : Int → Int) : ∀ (k : Nat) (i : Int) (s : Dev), zeroN f (k + 1) i s = (s.store (f i) 0).then fun _ s => (s.flush (f i)).then fun _ s => zeroN f k (i + 1) s := fun _ _ _ => rfl
theorem format_ok2 (B : World) (Fr : List HP) (b : Nat) (s : Dev) (c : Cfg) :
    ∀ w, Holds B (DevA b s :: Fr) w → Calls Tryz.prog 110 [ptr b, cfgV c].toArray w (Ret B (fun rv H' => ∃ a s', s.format c = .ok a s' ∧ rv = i64 a ∧ H' = DevA b s' :: Fr) (fun k H' => ∃ s', s.format c = .off s' ∧ k = offc ∧ H' = DevA b s' :: Fr)) := by
  refine fn_enter Tryz.func110 rfl Tryz.ntmps110 rfl (g_seq (g_region (p_chg rfl (ch_boxA rfl) .free rfl rfl ?_)))
  rintro _ _ ⟨b3, rfl, rfl⟩
  refine kPa rfl rfl (p_nil (g_seq (g_seq (g_draw Tryz.mixed (by kernel_rfl) (by kernel_rfl) ?_))))
  refine kQv (ev_loadA Tryz.isAgg40 Tryz.sizeOf40 rfl rfl) rfl ?_
  refine q_call rfl (en_f Tryz.call129 rfl) (check_ok _ _ c) .free rfl ?_
  refine kQv (ev_cmp rfl rfl rfl) rfl (kQm rfl rfl ?_)
  apply q_or (tp := 18) (t := 12) (σ1 := [(12, _), (4, _), (3, _), (0, _)]) 6 rfl (sub_r rfl)
  · intro hg1
    refine q_val rfl (ev_move rfl) (.on rfl rfl (beq_eq hg1)) rfl (q_call rfl (en_f Tryz.call118 rfl) (ro_at (q := DevA) (fun Fr => nlen_ok _ Fr _ _)) (.on rfl rfl (beq_eq hg1)) rfl ?_)
    refine q_val rfl (ev_loadA Tryz.isAgg40 Tryz.sizeOf40 rfl rfl) (.on rfl rfl (beq_eq hg1)) rfl ?_
    refine q_call rfl (en_f Tryz.call108 rfl) (cwords_ok _ _ c (chk_w hg1)) (.on rfl rfl (beq_eq hg1)) rfl ?_
    refine q_val rfl (ev_cmp rfl rfl rfl) (.on rfl rfl (beq_eq hg1)) rfl (kQv (ev_pick_f rfl hg1 rfl) rfl ?_)
    exact q_seg rfl (sub_r rfl) (or_f hg1)
  · intro hg1
    refine q_skip rfl (.on rfl rfl (beq_ne hg1)) rfl (q_skip rfl (.on rfl rfl (beq_ne hg1)) rfl (q_skip rfl (.on rfl rfl (beq_ne hg1)) rfl (q_skip rfl (.on rfl rfl (beq_ne hg1)) rfl (q_skip rfl (.on rfl rfl (beq_ne hg1)) rfl (kQv (ev_pick_t rfl hg1 rfl) rfl ?_)))))
    exact q_seg rfl (sub_r rfl) (or_t hg1)
  refine q_nil ?_
  refine g_if rfl (fun h18 => ?_) (fun h18 => ?_)
  · have hbad : ¬ CfgW c ∨ (s.n : Int) ≠ c.words := by
      by_cases q : CfgW c
      · right; simpa [chk, q] using h18
      · exact .inl q
    refine g_seq (g_region (kPa rfl rfl (p_nil (g_ret ?_))))
    exact ret_tmp Tryz.results110 rfl (fun w hh => ⟨_, ⟨1, s, by unfold Dev.format; rw [if_pos hbad], rfl, rfl⟩, hh.tail⟩)
  · have hgd : CfgW c ∧ (s.n : Int) = c.words := by
      by_cases q : CfgW c
      · exact ⟨q, by simpa [chk, q] using h18⟩
      · simp [chk, q] at h18
    obtain ⟨hc, hn⟩ := hgd
    have hc1 := hc.r1
    have hc2 := hc.r2
    have hc3 := hc.l1
    have hc4 := hc.l2
    have hc5 := hc.s1
    have hc6 := hc.s2
    have hact := hc.act
    refine g_skip (g_seq (g_region (kPm rfl rfl ?_)))
    refine p_call rfl (en_f Tryz.call120 rfl) (up_at (q := DevA) (fun Fr => nstore_ok _ Fr _ _ _ _)) .free rfl rfl ?_ ?_
    rotate_left
    · rintro _ _ ⟨sx, ⟨hx, rfl⟩, rfl⟩
      have hfo : s.format c = .off sx := by
        simp [Dev.format, format_ok hc hn, hx]
      exact pan_fn fun w hh => ⟨_, ⟨sx, hfo, rfl, rfl⟩, hh.tail⟩
    rintro _ _ ⟨s1, ⟨e1, hm1, rfl⟩, rfl⟩
    refine p_nil (g_seq (g_region (kPm rfl rfl ?_)))
    refine p_call rfl (en_f Tryz.call126 rfl) (up_at (q := DevA) (fun Fr => nflush_ok _ Fr _ _ _)) .free rfl rfl ?_ ?_
    rotate_left
    · rintro _ _ ⟨sx, ⟨hx, rfl⟩, rfl⟩
      have hfo : s.format c = .off sx := by
        simp [Dev.format, format_ok hc hn, hm1, hx]
      exact pan_fn fun w hh => ⟨_, ⟨sx, hfo, rfl, rfl⟩, hh.tail⟩
    rintro _ _ ⟨s2, ⟨e2, hm2, rfl⟩, rfl⟩
    refine p_nil (g_seq (g_region (kPm rfl rfl ?_)))
    refine p_call rfl (en_f Tryz.call127 rfl) (up_at (q := DevA) (fun Fr => nfence_ok _ Fr _ _)) .free rfl rfl ?_ ?_
    rotate_left
    · rintro _ _ ⟨sx, ⟨hx, rfl⟩, rfl⟩
      have hfo : s.format c = .off sx := by
        simp [Dev.format, format_ok hc hn, hm1, hm2, hx]
      exact pan_fn fun w hh => ⟨_, ⟨sx, hfo, rfl, rfl⟩, hh.tail⟩
    rintro _ _ ⟨s3, ⟨e3, hm3, rfl⟩, rfl⟩
    refine p_nil (go_sb [4, 3, 0] rfl (g_seq (g_seq (g_region (kPv (ev_fa (m := _) fa_40_0 rfl rfl) rfl (kPv (ev_load Tryz.isAgg3 rfl rfl) rfl (kPv (ev_fa (m := _) fa_40_1 rfl rfl) rfl (kPv (ev_load Tryz.isAgg3 rfl rfl) rfl (kPv (ev_fa (m := _) fa_40_2 rfl rfl) rfl (kPv (ev_load Tryz.isAgg3 rfl rfl) rfl (p_chg rfl (ch_bs3 Tryz.runUnderlying125 Tryz.sizeOf3 Tryz.zeroValue3 rfl rfl rfl rfl rfl rfl rfl) .free rfl rfl ?_)))))))))))
    rintro _ _ ⟨b31, rfl, rfl⟩
    refine kPv (ev_len rfl Tryz.runUnderlying125 ⟨_, rfl⟩ rfl) rfl (kPm rfl rfl (p_nil (g_block (g_loop (ι := Nat × Dev) (fun i => i.1 ≤ 3 ∧ st3 [c.log, c.roots, c.space] 3 0 s3 = st3 [c.log, c.roots, c.space] (3 - i.1) i.1 i.2) (fun i => [(0, ptr b), (3, ptr b3), (4, i64 0), (31, .slice (some ⟨b31, 0, none⟩) 3 3), (32, i64 3), (33, i64 i.1)]) (fun i => row b31 [i64 c.log, i64 c.roots, i64 c.space] 3 :: row b3 [i64 c.log, i64 c.roots, i64 c.space] 40 :: DevA b i.2 :: Fr) (fun i => 3 - i.1) (0, s3) ⟨Nat.zero_le _, rfl⟩ (fun a w st => st.to ⟨rfl, rfl, rfl, rfl, rfl, rfl, trivial⟩ id) ?_))))
    rintro ⟨k, sa⟩ ⟨hk1, hk2⟩
    simp only at hk1 hk2 ⊢
    refine g_seq (g_region (kPv (ev_cmp rfl rfl rfl) rfl (p_nil (g_seq ?_))))
    refine g_if rfl (fun h34 => ?_) (fun h34 => ?_)
    · have hk3 : k < 3 := by simp at h34; omega
      refine g_skip (g_seq (g_block (g_seq (g_region ?_))))
      have hlb := l3_b (k := k) hk3 (a := c.log) (b := c.roots) (c := c.space) (by omega) (by omega) (by omega)
      refine kPm rfl rfl (kPv (ev_iaS Tryz.runUnderlying125 Tryz.sizeOf3 rfl rfl (by omega) (by omega)) rfl (kPv (ev_load (v := i64 ([c.log, c.roots, c.space].getD k 0)) Tryz.isAgg3 rfl (by rw [Nat.zero_add, Int.toNat_natCast]; exact l3_get hk3)) rfl (kPa rfl rfl (kPa rfl rfl (p_nil (go_sb [6, 5, 33, 32, 31, 4, 3, 0] rfl (g_region (kPm rfl rfl (kPm rfl rfl ?_)))))))))
      first | refine p_val rfl (ev_add rfl rfl (wr64 (by omega))) .free rfl rfl ?_ | refine p_val rfl (ev_add rfl rfl rfl) .free rfl rfl ?_
      refine kPm rfl rfl ?_
      first | refine p_val rfl (ev_conv Tryz.runUnderlying3 Tryz.runUnderlying26 rfl (wru64 (by omega))) .free rfl rfl ?_ | refine p_val rfl (ev_conv Tryz.runUnderlying3 Tryz.runUnderlying26 rfl rfl) .free rfl rfl ?_
      refine p_call rfl (en_f Tryz.call120 rfl) (up_at (q := DevA) (fun Fr => nstore_ok _ Fr _ _ _ _)) .free rfl rfl ?_ ?_
      rotate_left
      · rintro _ _ ⟨sx, ⟨hx, rfl⟩, rfl⟩
        have hfo : s.format c = .off sx := by
          have hz : st3 [c.log, c.roots, c.space] 3 0 s3 = .off sx := by rw [hk2, show 3 - k = (3 - (k + 1)) + 1 by omega]; simp only [st3]; rw [hx]; rfl
          simp [Dev.format, format_ok hc hn, hm1, hm2, hm3, hz]
        exact pan_fn fun w hh => ⟨_, ⟨sx, hfo, rfl, rfl⟩, hh.tail.tail⟩
      rintro _ _ ⟨s4, ⟨e4, hm4, rfl⟩, rfl⟩
      refine p_nil (go_sb [33, 32, 31, 4, 3, 0] rfl (g_region ?_))
      first | refine p_val rfl (ev_add rfl rfl (wr64 (by omega))) .free rfl rfl ?_ | refine p_val rfl (ev_add rfl rfl rfl) .free rfl rfl ?_
      refine kPm rfl rfl (p_nil ?_)
      exact fun a w st => ⟨(k + 1, s4), ⟨by simp only; omega, by simp only; rw [hk2, show 3 - k = (3 - (k + 1)) + 1 by omega]; simp only [st3]; rw [hm4]; rfl⟩, by simp only; omega, st.to ⟨rfl, rfl, rfl, rfl, rfl, rfl, trivial⟩ id⟩
    · have hk3 : ¬ k < 3 := by simp at h34; omega
      have hA : st3 [c.log, c.roots, c.space] 3 0 s3 = .ok () sa := by
        rw [hk2, show 3 - k = 0 by omega]; rfl
      refine g_exit (g_seq (g_region (kPm rfl rfl ?_)))
      refine p_call rfl (en_f Tryz.call120 rfl) (up_at (q := DevA) (fun Fr => nstore_ok _ Fr _ _ _ _)) .free rfl rfl ?_ ?_
      rotate_left
      · rintro _ _ ⟨sx, ⟨hx, rfl⟩, rfl⟩
        have hfo : s.format c = .off sx := by
          simp [Dev.format, format_ok hc hn, hm1, hm2, hm3, hA, hx]
        exact pan_fn fun w hh => ⟨_, ⟨sx, hfo, rfl, rfl⟩, hh.tail.tail⟩
      rintro _ _ ⟨s5, ⟨e5, hm5, rfl⟩, rfl⟩
      refine p_nil (go_sb [4, 3, 0] rfl (g_seq (g_region (kPm rfl rfl ?_))))
      refine p_call rfl (en_f Tryz.call126 rfl) (up_at (q := DevA) (fun Fr => nflush_ok _ Fr _ _ _)) .free rfl rfl ?_ ?_
      rotate_left
      · rintro _ _ ⟨sx, ⟨hx, rfl⟩, rfl⟩
        have hfo : s.format c = .off sx := by
          simp [Dev.format, format_ok hc hn, hm1, hm2, hm3, hA, hm5, hx]
        exact pan_fn fun w hh => ⟨_, ⟨sx, hfo, rfl, rfl⟩, hh.tail.tail⟩
      rintro _ _ ⟨s6, ⟨e6, hm6, rfl⟩, rfl⟩
      refine p_nil (g_seq (g_seq (g_region (kPa rfl rfl (p_nil (g_block (g_loop (ι := Int × Dev) (fun i => (0 ≤ i.1 ∧ i.1 ≤ c.log) ∧ zeroN c.record c.log.toNat 0 s6 = zeroN c.record (c.log - i.1).toNat i.1 i.2) (fun i => [(0, ptr b), (3, ptr b3), (4, i64 0), (7, i64 i.1)]) (fun i => row b31 [i64 c.log, i64 c.roots, i64 c.space] 3 :: row b3 [i64 c.log, i64 c.roots, i64 c.space] 40 :: DevA b i.2 :: Fr) (fun i => (c.log - i.1).toNat) (0, s6) ⟨⟨by simp only; omega, by simp only; omega⟩, by simp only; rw [Int.sub_zero]⟩ (fun a w st => st.to ⟨rfl, rfl, rfl, rfl, trivial⟩ id) ?_)))))))
      rintro ⟨i, sb⟩ ⟨⟨hi1, hi2⟩, hi3⟩
      simp only at hi1 hi2 hi3 ⊢
      have hri : 16 ≤ c.record i ∧ c.record i ≤ 10000 := by simp only [Cfg.record]; omega
      refine g_seq (g_seq (g_region (kPm rfl rfl (kPv (ev_fa (m := _) fa_40_0 rfl rfl) rfl (kPv (ev_load Tryz.isAgg3 rfl rfl) rfl (kPv (ev_cmp rfl rfl rfl) rfl (p_nil ?_)))))))
      refine g_if rfl (fun h52 => ?_) (fun h52 => ?_)
      · have hlt : i < c.log := by simpa using h52
        refine g_skip (g_seq (g_block (g_seq (g_region (kPm rfl rfl (kPv (ev_loadA Tryz.isAgg40 Tryz.sizeOf40 rfl rfl) rfl ?_))))))
        refine kPm rfl rfl (p_callq rfl (en_f Tryz.call130 rfl) (record_ok _ _ c _ (by omega) (by omega)) .free rfl rfl ?_)
        refine p_call rfl (en_f Tryz.call120 rfl) (up_at (q := DevA) (fun Fr => nstore_ok _ Fr _ _ _ _)) .free rfl rfl ?_ ?_
        rotate_left
        · rintro _ _ ⟨sx, ⟨hx, rfl⟩, rfl⟩
          have hfo : s.format c = .off sx := by
            have hz : zeroN c.record c.log.toNat 0 s6 = .off sx := by rw [hi3, show (c.log - i).toNat = (c.log - (i + 1)).toNat + 1 by omega]; simp only [zeroN]; rw [hx]; rfl
            simp [Dev.format, format_ok hc hn, hm1, hm2, hm3, hA, hm5, hm6, hz]
          exact pan_fn fun w hh => ⟨_, ⟨sx, hfo, rfl, rfl⟩, hh.tail.tail⟩
        rintro _ _ ⟨s7, ⟨e7, hm7, rfl⟩, rfl⟩
        refine p_nil (go_sb [7, 4, 3, 0] rfl (g_region (kPm rfl rfl (kPv (ev_loadA Tryz.isAgg40 Tryz.sizeOf40 rfl rfl) rfl ?_))))
        refine kPm rfl rfl (p_callq rfl (en_f Tryz.call130 rfl) (record_ok _ _ c _ (by omega) (by omega)) .free rfl rfl ?_)
        refine p_call rfl (en_f Tryz.call126 rfl) (up_at (q := DevA) (fun Fr => nflush_ok _ Fr _ _ _)) .free rfl rfl ?_ ?_
        rotate_left
        · rintro _ _ ⟨sx, ⟨hx, rfl⟩, rfl⟩
          have hfo : s.format c = .off sx := by
            have hz : zeroN c.record c.log.toNat 0 s6 = .off sx := by rw [hi3, show (c.log - i).toNat = (c.log - (i + 1)).toNat + 1 by omega]; simp only [zeroN]; rw [hm7, then_ok, hx]; rfl
            simp [Dev.format, format_ok hc hn, hm1, hm2, hm3, hA, hm5, hm6, hz]
          exact pan_fn fun w hh => ⟨_, ⟨sx, hfo, rfl, rfl⟩, hh.tail.tail⟩
        rintro _ _ ⟨s8, ⟨e8, hm8, rfl⟩, rfl⟩
        refine p_nil (g_region (kPm rfl rfl ?_))
        first | refine p_val rfl (ev_add rfl rfl (wr64 (by omega))) .free rfl rfl ?_ | refine p_val rfl (ev_add rfl rfl rfl) .free rfl rfl ?_
        refine kPa rfl rfl (p_nil (go_sb [7, 4, 3, 0] rfl ?_))
        exact fun a w st => ⟨(i + 1, s8), ⟨⟨by simp only; omega, by simp only; omega⟩, by simp only; rw [hi3, show (c.log - i).toNat = (c.log - (i + 1)).toNat + 1 by omega]; simp only [zeroN]; rw [hm7, then_ok, hm8]; rfl⟩, by simp only; omega, st.to ⟨rfl, rfl, rfl, rfl, trivial⟩ id⟩
      · have hlt : ¬ i < c.log := by simpa using h52
        have hB : zeroN c.record c.log.toNat 0 s6 = .ok () sb := by
          rw [hi3, show (c.log - i).toNat = 0 by omega]; rfl
        refine g_exit (g_seq (g_seq (g_region (kPv (ev_loadA Tryz.isAgg40 Tryz.sizeOf40 rfl rfl) rfl ?_))))
        refine p_callq rfl (en_f Tryz.call117 rfl) (active_ok _ _ c hc) .free rfl rfl ?_
        refine kPa rfl rfl (p_nil (go_sb [8, 4, 3, 0] rfl (g_block ?_)))
        have hroot : c.active ≤ c.root c.roots ∧ c.root c.roots ≤ 2000 := by simp only [Cfg.root]; omega
        refine g_loop (ι := Int × Dev) (fun i => (c.active ≤ i.1 ∧ i.1 ≤ c.root c.roots) ∧ zeroN id (c.root c.roots - c.active).toNat c.active sb = zeroN id (c.root c.roots - i.1).toNat i.1 i.2) (fun i => [(0, ptr b), (3, ptr b3), (4, i64 0), (8, i64 i.1)]) (fun i => row b31 [i64 c.log, i64 c.roots, i64 c.space] 3 :: row b3 [i64 c.log, i64 c.roots, i64 c.space] 40 :: DevA b i.2 :: Fr) (fun i => (c.root c.roots - i.1).toNat) (c.active, sb) ⟨⟨by simp only; omega, by simp only; omega⟩, rfl⟩ (fun a w st => st.to ⟨rfl, rfl, rfl, rfl, trivial⟩ id) ?_
        rintro ⟨j, sc⟩ ⟨⟨hj1, hj2⟩, hj3⟩
        simp only at hj1 hj2 hj3 ⊢
        refine g_seq (g_seq (g_region (kPm rfl rfl (kPv (ev_loadA Tryz.isAgg40 Tryz.sizeOf40 rfl rfl) rfl ?_))))
        refine kPv (ev_fa (m := _) fa_40_1 rfl rfl) rfl (kPv (ev_load Tryz.isAgg3 rfl rfl) rfl (p_callq rfl (en_f Tryz.call59 rfl) (root_ok _ _ c hc _ (by omega) (by omega)) .free rfl rfl ?_))
        refine kPv (ev_cmp rfl rfl rfl) rfl (p_nil ?_)
        refine g_if rfl (fun h72 => ?_) (fun h72 => ?_)
        · have hlt2 : j < c.root c.roots := by simpa using h72
          refine g_skip (g_seq (g_block (g_seq (g_region (kPm rfl rfl (kPm rfl rfl ?_))))))
          refine p_call rfl (en_f Tryz.call120 rfl) (up_at (q := DevA) (fun Fr => nstore_ok _ Fr _ _ _ _)) .free rfl rfl ?_ ?_
          rotate_left
          · rintro _ _ ⟨sx, ⟨hx, rfl⟩, rfl⟩
            have hfo : s.format c = .off sx := by
              have hz : zeroN id (c.root c.roots - c.active).toNat c.active sb = .off sx := by rw [hj3, show (c.root c.roots - j).toNat = (c.root c.roots - (j + 1)).toNat + 1 by omega]; simp only [zeroN, id]; rw [hx]; rfl
              simp [Dev.format, format_ok hc hn, hm1, hm2, hm3, hA, hm5, hm6, hB, hz]
            exact pan_fn fun w hh => ⟨_, ⟨sx, hfo, rfl, rfl⟩, hh.tail.tail⟩
          rintro _ _ ⟨s9, ⟨e9, hm9, rfl⟩, rfl⟩
          refine p_nil (go_sb [8, 4, 3, 0] rfl (g_region (kPm rfl rfl (kPm rfl rfl ?_))))
          refine p_call rfl (en_f Tryz.call126 rfl) (up_at (q := DevA) (fun Fr => nflush_ok _ Fr _ _ _)) .free rfl rfl ?_ ?_
          rotate_left
          · rintro _ _ ⟨sx, ⟨hx, rfl⟩, rfl⟩
            have hfo : s.format c = .off sx := by
              have hz : zeroN id (c.root c.roots - c.active).toNat c.active sb = .off sx := by rw [hj3, show (c.root c.roots - j).toNat = (c.root c.roots - (j + 1)).toNat + 1 by omega]; simp only [zeroN, id]; rw [hm9, then_ok, hx]; rfl
              simp [Dev.format, format_ok hc hn, hm1, hm2, hm3, hA, hm5, hm6, hB, hz]
            exact pan_fn fun w hh => ⟨_, ⟨sx, hfo, rfl, rfl⟩, hh.tail.tail⟩
          rintro _ _ ⟨s10, ⟨e10, hm10, rfl⟩, rfl⟩
          refine p_nil (g_region (kPm rfl rfl ?_))
          first | refine p_val rfl (ev_add rfl rfl (wr64 (by omega))) .free rfl rfl ?_ | refine p_val rfl (ev_add rfl rfl rfl) .free rfl rfl ?_
          refine kPa rfl rfl (p_nil ?_)
          exact fun a w st => ⟨(j + 1, s10), ⟨⟨by simp only; omega, by simp only; omega⟩, by simp only; rw [hj3, show (c.root c.roots - j).toNat = (c.root c.roots - (j + 1)).toNat + 1 by omega]; simp only [zeroN, id]; rw [hm9, then_ok, hm10]; rfl⟩, by simp only; omega, st.to ⟨rfl, rfl, rfl, rfl, trivial⟩ id⟩
        · have hlt2 : ¬ j < c.root c.roots := by simpa using h72
          have hC : zeroN id (c.root c.roots - c.active).toNat c.active sb = .ok () sc := by
            rw [hj3, show (c.root c.roots - j).toNat = 0 by omega]; rfl
          refine g_exit (g_seq (g_region (kPm rfl rfl ?_)))
          refine p_call rfl (en_f Tryz.call126 rfl) (up_at (q := DevA) (fun Fr => nflush_ok _ Fr _ _ _)) .free rfl rfl ?_ ?_
          rotate_left
          · rintro _ _ ⟨sx, ⟨hx, rfl⟩, rfl⟩
            have hfo : s.format c = .off sx := by
              simp [Dev.format, format_ok hc hn, hm1, hm2, hm3, hA, hm5, hm6, hB, hC, hx]
            exact pan_fn fun w hh => ⟨_, ⟨sx, hfo, rfl, rfl⟩, hh.tail.tail⟩
          rintro _ _ ⟨s11, ⟨e11, hm11, rfl⟩, rfl⟩
          refine p_nil (go_sb [4, 0] rfl (g_seq (g_region (kPm rfl rfl ?_))))
          refine p_call rfl (en_f Tryz.call127 rfl) (up_at (q := DevA) (fun Fr => nfence_ok _ Fr _ _)) .free rfl rfl ?_ ?_
          rotate_left
          · rintro _ _ ⟨sx, ⟨hx, rfl⟩, rfl⟩
            have hfo : s.format c = .off sx := by
              simp [Dev.format, format_ok hc hn, hm1, hm2, hm3, hA, hm5, hm6, hB, hC, hm11, hx]
            exact pan_fn fun w hh => ⟨_, ⟨sx, hfo, rfl, rfl⟩, hh.tail.tail⟩
          rintro _ _ ⟨s12, ⟨e12, hm12, rfl⟩, rfl⟩
          refine p_nil (g_seq (g_region (kPm rfl rfl ?_)))
          refine p_call rfl (en_f Tryz.call120 rfl) (up_at (q := DevA) (fun Fr => nstore_ok _ Fr _ _ _ _)) .free rfl rfl ?_ ?_
          rotate_left
          · rintro _ _ ⟨sx, ⟨hx, rfl⟩, rfl⟩
            have hfo : s.format c = .off sx := by
              simp [Dev.format, format_ok hc hn, hm1, hm2, hm3, hA, hm5, hm6, hB, hC, hm11, hm12, magicI, hx]
            exact pan_fn fun w hh => ⟨_, ⟨sx, hfo, rfl, rfl⟩, hh.tail.tail⟩
          rintro _ _ ⟨s13, ⟨e13, hm13, rfl⟩, rfl⟩
          refine p_nil (g_seq (g_region (kPm rfl rfl ?_)))
          refine p_call rfl (en_f Tryz.call126 rfl) (up_at (q := DevA) (fun Fr => nflush_ok _ Fr _ _ _)) .free rfl rfl ?_ ?_
          rotate_left
          · rintro _ _ ⟨sx, ⟨hx, rfl⟩, rfl⟩
            have hfo : s.format c = .off sx := by
              simp [Dev.format, format_ok hc hn, hm1, hm2, hm3, hA, hm5, hm6, hB, hC, hm11, hm12, magicI, hm13, hx]
            exact pan_fn fun w hh => ⟨_, ⟨sx, hfo, rfl, rfl⟩, hh.tail.tail⟩
          rintro _ _ ⟨s14, ⟨e14, hm14, rfl⟩, rfl⟩
          refine p_nil (g_seq (g_region (kPm rfl rfl ?_)))
          refine p_call rfl (en_f Tryz.call127 rfl) (up_at (q := DevA) (fun Fr => nfence_ok _ Fr _ _)) .free rfl rfl ?_ ?_
          rotate_left
          · rintro _ _ ⟨sx, ⟨hx, rfl⟩, rfl⟩
            have hfo : s.format c = .off sx := by
              simp [Dev.format, format_ok hc hn, hm1, hm2, hm3, hA, hm5, hm6, hB, hC, hm11, hm12, magicI, hm13, hm14, hx]
            exact pan_fn fun w hh => ⟨_, ⟨sx, hfo, rfl, rfl⟩, hh.tail.tail⟩
          rintro _ _ ⟨s15, ⟨e15, hm15, rfl⟩, rfl⟩
          refine p_nil (go_sb [4] rfl (g_seq (g_region (kPa rfl rfl (p_nil (g_ret ?_))))))
          exact ret_tmp Tryz.results110 rfl (fun w hh => ⟨_, ⟨0, s15, by simp [Dev.format, format_ok hc hn, hm1, hm2, hm3, hA, hm5, hm6, hB, hC, hm11, hm12, magicI, hm13, hm14, hm15], rfl, rfl⟩, hh.tail.tail⟩)
end Go.Proofs.YtlcibdhmgclfjaaGreat
