/- Objects, copied: what Step, Run, Went, Block and New do. Conditions: none. -/
import Derived.Test.YtbfheafpecgphaaGreatChn
set_option linter.unusedSimpArgs false
set_option linter.unusedVariables false
set_option linter.unnecessarySimpa false
set_option linter.unusedSectionVars false
namespace Go.Proofs.YtbfheafpecgphaaGreat
set_option linter.unusedSimpArgs false
set_option linter.unusedVariables false
open Go
theorem refsN_w : ∀ (k : Nat) (i : Int) (S S' : ColS) (s s' : Dev), ColW S → U64 s → S.todo = [] → refsN k i S s = .ok S' s' → ColW S' ∧ U64 s' ∧ S'.scan = S.scan ∧ S'.todo = [] ∧ S'.done = S.done ∧ S'.b = S.b ∧ S'.bd = S.bd ∧ S'.c = S.c ∧ S'.to_ = S.to_ ∧ S.free ≤ S'.free ∧ S'.free - S.free + 66 * (S.b.used.toNat - S'.went.length : Nat) ≤ 66 * (S.b.used.toNat - S.went.length : Nat)
  | 0, _, S, S', s, s', h, hu, ht, e => by cases e; exact ⟨h, hu, rfl, ht, rfl, rfl, rfl, rfl, rfl, Int.le_refl _, by omega⟩
  | k + 1, i, S, S', s, s', h, hu, ht, e => by
    unfold refsN at e
    split at e
    · exact refsN_w k _ S S' s s' h hu ht e
    · obtain ⟨r, s1, e1, e⟩ := then_inv e
      obtain ⟨_, s2, e2, e⟩ := then_inv e
      obtain ⟨h1, hv, h2, h3, h4, h5, h6, h7, h8, h9, h10⟩ := copied_w h e1
      have u1 := copied_u64 hu e1
      have u2 := store_u64 u1.1 (by omega) e2
      obtain ⟨g1, gu, g2, g3, g4, g5, g6, g7, g8, g9, g10⟩ := refsN_w k _ r.2 S' s2 s' h1 u2.1 (h3.trans ht) e
      rw [h5] at g10
      exact ⟨g1, gu, g2.trans h2, g3, g4.trans h4, g5.trans h5, g6.trans h6, g7.trans h7, g8.trans h8, Int.le_trans h9 g9, by omega⟩
theorem keepN_u64 : ∀ (f : Nat) (i e : Int) (s s' : Dev) (a : Unit), U64 s → keepN f i e s = .ok a s' → U64 s'
  | 0, _, _, s, s', a, h, e => by cases e; exact h
  | f + 1, i, e', s, s', a, h, e => by
    unfold keepN at e
    split at e
    · obtain ⟨_, s1, e1, e⟩ := then_inv e
      exact keepN_u64 f _ _ s1 s' a (flush_u64 h e1).1 e
    · cases e; exact h
theorem keep_u64 {S : ColS} {s s' : Dev} {a : Unit} (h : U64 s) (e : S.keep s = .ok a s') : U64 s' := by
  unfold ColS.keep at e
  obtain ⟨_, s1, e1, e⟩ := then_inv e
  have h1 := keepN_u64 _ _ _ _ _ _ h e1
  split at e
  · exact (fence_u64 h1 e).1
  · cases e; exact h1
theorem step_w {S : ColS} (h : ColW S) {s s' : Dev} (hu : U64 s) {r : Bool × ColS} (e : S.step s = .ok r s') : ColW r.2 ∧ U64 s' ∧ r.2.b = S.b ∧ r.2.bd = S.bd ∧ r.2.c = S.c ∧ r.2.to_ = S.to_ ∧ r.1 = r.2.done ∧ (r.1 = false → r.2.meas < S.meas) := by
  have hwl := h.wl; have hfb := h.fb
  unfold ColS.step at e
  split at e
  · rename_i hd; cases e; exact ⟨h, hu, rfl, rfl, rfl, rfl, hd.symm, fun hh => by cases hh⟩
  rename_i hd
  have hd0 : S.done = false := by simpa using hd
  split at e
  · rename_i w t ht
    obtain ⟨r1, s1, e1, e⟩ := then_inv e
    cases e
    obtain ⟨h1, _, h2, h3, h4, h5, h6, h7, h8, h9, h10⟩ := copied_w h e1
    refine ⟨⟨h1.c, h1.b, h1.rl, h1.to_, h1.scan, h1.free, h1.nd, h1.rng, h1.val, fun v hv => h.todo v (by rw [ht]; exact List.mem_cons_of_mem _ hv), h1.rts⟩, (copied_u64 hu e1).1, h5, h6, h7, h8, by simp only [h4, hd0], fun _ => ?_⟩
    unfold ColS.meas
    simp only [ht, h2, h4, h5, List.length_cons]
    split <;> omega
  · rename_i ht
    have hub := unp_b (s.load S.scan)
    split at e
    · rename_i hlt
      obtain ⟨S1, s1, e1, e⟩ := then_inv e
      cases e
      obtain ⟨h1, gu, h2, h3, h4, h5, h6, h7, h8, h9, h10⟩ := refsN_w _ _ _ _ _ _ h hu ht e1
      have hsc := h.scan
      refine ⟨⟨h1.c, h1.b, h1.rl, h1.to_, ⟨by have := h1.scan; simp only; omega, by simp only; omega⟩, h1.free, h1.nd, h1.rng, h1.val, h1.todo, h1.rts⟩, gu, h5, h6, h7, h8, by simp only [h4, hd0], fun _ => ?_⟩
      unfold ColS.meas
      simp only [ht, h2, h3, h4, h5]
      split <;> omega
    · obtain ⟨_, s1, e1, e⟩ := then_inv e
      cases e
      exact ⟨⟨h.c, h.b, h.rl, h.to_, h.scan, h.free, h.nd, h.rng, h.val, h.todo, h.rts⟩, keep_u64 hu e1, rfl, rfl, rfl, rfl, rfl, fun hh => by cases hh⟩
/-- A collector's device, and where it looks. -/
def ColF (x bd : Nat) (sc : Int) : HP := hex fun (y : Nat → Value) => row x [ptr bd, y 1, y 2, y 3, y 4, y 5, y 6, y 7, i64 sc, y 9, y 10, y 11, y 12] 115
theorem col_f {B : World} {x : Nat} {S : ColS} {Fr : List HP} {w : World} (h : Holds B (ColA x S :: Fr) w) : Holds B [ColF x S.bd S.scan] w := by
  obtain ⟨p, hx⟩ := h.hex
  refine Holds.unhex (fun i => (colRow S p.1 p.2.1 p.2.2).getD i .nilIface) ?_
  have h2 := hx.grp
  exact h2.map fun k a => by
    obtain ⟨h1, h2, d, s1, s2, ha, hl⟩ := a
    exact ⟨h1, h2, d, s1, s2, ha, trivial⟩
instance SubH.colf {H Fr : List HP} {x : Nat} {S : ColS} [r : PullH H (ColA x S) Fr] : SubH H [ColF x S.bd S.scan] := ⟨fun h hh => by
  obtain ⟨i, h1, h2⟩ := r.get
  obtain ⟨k1, k2, d, s1, s2, ⟨p, hp⟩, hl⟩ := sat_front i h1 hh
  obtain ⟨g1, g2, d', t1, t2, ha, hg⟩ := hp
  exact ⟨g1, fun _ => none, fun _ => .inr rfl, t1.trans s1, (fun _ _ e => nomatch e), ⟨fun i => (colRow S p.1 p.2.1 p.2.2).getD i .nilIface, ha⟩, trivial⟩⟩
theorem ev_hex {B : World} {σ : Env} {P : Program} {α : Type} {A : α → HP} {o : Oper} {v : Value} (h : ∀ y, Evs P B σ [A y] o v) : Evs P B σ [hex A] o v := fun a w kn hh => by
  obtain ⟨y, hy⟩ := hh.hex
  exact h y a w kn hy
theorem go_colf {B : World} {n : Nat} {D : List Deferred} {σ : Env} {H H0 : List HP} {P : Program} {ro : Cx} {K : Act → World → Prop} {X : Ext} {ops : Array Oper} {ms hs cs : List Nat} {ord : List Nat} {c : Bool} (f : ∀ w, Holds B H w → Holds B H0 w) (h : GO B n D σ H (wpV P ro ops ms hs cs (Holds B H0) X K ord)) : GO B n D σ H (fun a w => (c = true → Holds B H0 w) ∧ wpV P ro ops ms hs cs (Holds B H0) X K ord a w) := fun a w s => ⟨fun _ => f w s.holds, h a w s⟩
theorem keepN_succ (f : Nat) (i e : Int) (s : Dev) : keepN (f + 1) i e s = if i < e then (s.flush i).then fun _ s' => keepN f (i + 8) e s' else .ok () s := rfl
theorem refsN_succ (k : Nat) (i : Int) (S : ColS) (s : Dev) : refsN (k + 1) i S s = if s.load (S.scan + 1 + i) = 0 then refsN k (i + 1) S s else (S.copied s (s.load (S.scan + 1 + i))).then fun r s1 => (s1.store (S.scan + 1 + i) r.1).then fun _ s2 => refsN k (i + 1) r.2 s2 := rfl
theorem runN_succ (f : Nat) (S : ColS) (s : Dev) : runN (f + 1) S s = (S.step s).then fun r s' => if r.1 = true then .ok r.2 s' else runN f r.2 s' := rfl

theorem ckeep_ok (B : World) (Fr : List HP) (x : Nat) (S : ColS) (hS : ColW S) (s : Dev) (hu : U64 s) :
    ∀ w, Holds B (ColA x S :: DevA S.bd s :: Fr) w → Calls Tryz.prog 106 [ptr x].toArray w (Ret B (fun rv H' => ∃ r s', S.keep s = .ok r s' ∧ rv = unitV r ∧ H' = ColA x { S with done := true } :: DevA S.bd s' :: Fr) (fun c H' => ∃ s', S.keep s = .off s' ∧ c = offc ∧ H' = DevA S.bd s' :: Fr)) := by
  refine fn_enter Tryz.func106 rfl Tryz.ntmps106 rfl ?_; refine go_col fun rsv tsv mw hrsv htsv => ?_
  have hfb := hS.fb
  have hfr := hS.free
  have hto := hS.to_
  refine g_seq ?_; refine g_seq ?_; refine g_region ?_; refine kPm rfl rfl ?_
  first | refine kPv (ev_nil rfl) rfl ?_ | refine kPv (ev_nilf rfl) rfl ?_
  refine kPv (ev_fa (m := _) fa_115_3 rfl rfl) rfl ?_; refine kPv (ev_load Tryz.isAgg3 rfl rfl) rfl ?_; refine kPa rfl rfl ?_; refine p_nil ?_; refine g_block ?_
  refine g_loopk (ι := Int × Nat × Dev) [0] (fun (i, n, sI) => (S.to_ ≤ i ∧ i ≤ 400000) ∧ (S.free - i ≤ n) ∧ (keepN ((S.free - S.to_).toNat + 1) S.to_ S.free s = keepN (n + 1) i S.free sI)) (fun (i, n, sI) => [(2, i64 i)]) (fun (i, n, sI) => row x (colRow S rsv tsv mw) 115 :: VecU 0 (rsv, S.b.rts) :: VecU 0 (tsv, S.todo) :: mapA .u64 i64 mw S.went :: DevA S.bd sI :: Fr) (fun (i, n, sI) => n) (S.to_, (S.free - S.to_).toNat, s) (⟨⟨by first | omega | (simp only; omega), by first | omega | (simp only; omega)⟩, by first | omega | (simp only; omega), rfl⟩) (fun a w st => st.to ⟨rfl, trivial⟩ (fun hh => hh)) ?_
  rintro ⟨i, n, sI⟩ ⟨hi0, hn, hinv⟩
  try simp only at hi0 hn hinv ⊢
  refine go_sub (σ' := [(2, i64 i), (0, _)]) ⟨rfl, rfl, trivial⟩ ?_; refine g_seq ?_; refine g_seq ?_; refine g_region ?_; refine kPm rfl rfl ?_; refine kPm rfl rfl ?_
  first | refine kPv (ev_nil rfl) rfl ?_ | refine kPv (ev_nilf rfl) rfl ?_
  refine kPv (ev_fa (m := _) fa_115_5 rfl rfl) rfl ?_; refine kPv (ev_load Tryz.isAgg3 rfl rfl) rfl ?_; refine kPv (ev_cmp rfl rfl rfl) rfl ?_; refine p_nil ?_
  refine g_if rfl (fun h12 => ?_) (fun h12 => ?_)
  · have hlt : i < S.free := by simpa using h12
    refine g_skip ?_; refine g_seq ?_; refine g_block ?_; refine g_region ?_; refine kPm rfl rfl ?_
    first | refine kPv (ev_nil rfl) rfl ?_ | refine kPv (ev_nilf rfl) rfl ?_
    refine kPv (ev_fa (m := _) fa_115_0 rfl rfl) rfl ?_; refine kPv (ev_load Tryz.isAgg28 rfl rfl) rfl ?_; refine kPm rfl rfl ?_
    refine p_call rfl (en_f Tryz.call34 rfl) (up_at (fun Fr => nflush_ok _ Fr _ _ _)) .free rfl rfl ?_ ?_
    rotate_left
    · rintro _ _ ⟨s9, ⟨hm9, rfl⟩, rfl⟩
      exact pan_fn fun w hh => ⟨_, ⟨s9, by unfold ColS.keep; rw [hinv, keepN_succ, if_pos hlt, hm9]; rfl, rfl, rfl⟩, (hh.dp [0, 0, 0, 0])⟩
    rintro _ _ ⟨s1, ⟨e1, hm1, rfl⟩, rfl⟩
    refine p_nil ?_; refine go_sub (σ' := [(2, _), (0, _)]) ⟨rfl, rfl, trivial⟩ ?_; refine g_region ?_; refine kPm rfl rfl ?_
    first | refine p_val rfl (ev_add rfl rfl (wr64 (by omega))) .free rfl rfl ?_ | refine p_val rfl (ev_add rfl rfl rfl) .free rfl rfl ?_
    refine kPa rfl rfl ?_; refine p_nil ?_
    exact fun a w st_ => ⟨(i + 8, n - 1, s1), ⟨by first | omega | (simp only; omega), by first | omega | (simp only; omega), by rw [hinv, keepN_succ, if_pos hlt, hm1, show n = n - 1 + 1 by omega]; rfl⟩, by first | omega | (simp only; omega), st_.to ⟨rfl, rfl, trivial⟩ (fun hh => hh)⟩
  · have hlt : ¬ i < S.free := by simpa using h12
    refine g_exit ?_; refine g_seq ?_; refine g_seq ?_; refine g_draw Tryz.mixed (by kernel_rfl) (by kernel_rfl) ?_; refine kQm rfl rfl ?_
    first | refine kQv (ev_nil rfl) rfl ?_ | refine kQv (ev_nilf rfl) rfl ?_
    refine kQv (ev_fa (m := _) fa_115_5 rfl rfl) rfl ?_; refine kQv (ev_load Tryz.isAgg3 rfl rfl) rfl ?_; refine kQm rfl rfl ?_
    first | refine kQv (ev_nil rfl) rfl ?_ | refine kQv (ev_nilf rfl) rfl ?_
    refine kQv (ev_fa (m := _) fa_115_3 rfl rfl) rfl ?_; refine kQv (ev_load Tryz.isAgg3 rfl rfl) rfl ?_; refine kQv (ev_cmp rfl rfl rfl) rfl ?_; refine q_nil ?_; refine go_sub (σ' := [(29, _), (0, _)]) ⟨rfl, rfl, trivial⟩ ?_
    refine g_if rfl (fun h29 => ?_) (fun h29 => ?_)
    · have hgt : S.to_ < S.free := by simpa using h29
      refine g_region ?_; refine kPm rfl rfl ?_
      first | refine kPv (ev_nil rfl) rfl ?_ | refine kPv (ev_nilf rfl) rfl ?_
      refine kPv (ev_fa (m := _) fa_115_0 rfl rfl) rfl ?_; refine kPv (ev_load Tryz.isAgg28 rfl rfl) rfl ?_
      refine p_call rfl (en_f Tryz.call35 rfl) (up_at (fun Fr => nfence_ok _ Fr _ _)) .free rfl rfl ?_ ?_
      rotate_left
      · rintro _ _ ⟨s9, ⟨hm9, rfl⟩, rfl⟩
        exact pan_fn fun w hh => ⟨_, ⟨s9, by unfold ColS.keep; rw [hinv, keepN_succ, if_neg hlt]; simp only [then_ok]; rw [if_pos hgt]; exact hm9, rfl, rfl⟩, (hh.dp [0, 0, 0, 0])⟩
      rintro _ _ ⟨s2, ⟨e2, hm2, rfl⟩, rfl⟩
      refine p_nil ?_; refine g_region ?_; refine kPm rfl rfl ?_
      first | refine kPv (ev_nil rfl) rfl ?_ | refine kPv (ev_nilf rfl) rfl ?_
      refine kPv (ev_fa (m := _) fa_115_8 rfl rfl) rfl ?_; refine p_chg0 rfl (ch_store Tryz.sizeOf4 rfl rfl rfl rfl) .free rfl ?_
      rintro _ _ rfl
      refine p_nil ?_; refine go_sub (σ' := []) trivial ?_
      exact end_none Tryz.results106 (fun w hh => ⟨_, ⟨(), _, by unfold ColS.keep; rw [hinv, keepN_succ, if_neg hlt]; simp only [then_ok]; rw [if_pos hgt]; exact hm2, rfl, rfl⟩, col_holds (S := { S with done := true }) hrsv htsv hh⟩)
    · have hgt : ¬ S.to_ < S.free := by simpa using h29
      refine g_skip ?_; refine g_region ?_; refine kPm rfl rfl ?_
      first | refine kPv (ev_nil rfl) rfl ?_ | refine kPv (ev_nilf rfl) rfl ?_
      refine kPv (ev_fa (m := _) fa_115_8 rfl rfl) rfl ?_; refine p_chg0 rfl (ch_store Tryz.sizeOf4 rfl rfl rfl rfl) .free rfl ?_
      rintro _ _ rfl
      refine p_nil ?_
      exact end_none Tryz.results106 (fun w hh => ⟨_, ⟨(), _, by unfold ColS.keep; rw [hinv, keepN_succ, if_neg hlt]; simp only [then_ok]; rw [if_neg hgt], rfl, rfl⟩, col_holds (S := { S with done := true }) hrsv htsv hh⟩)

theorem cwent_ok (B : World) (Fr : List HP) (x : Nat) (S : ColS) (v : Int) :
    ∀ w, Holds B (ColA x S :: Fr) w → Calls Tryz.prog 55 [ptr x, w64 v].toArray w (PureR B (ColA x S :: Fr) (i64 ((mget S.went v).getD 0))) := by
  refine fn_enter Tryz.func55 rfl Tryz.ntmps55 rfl ?_; refine go_col fun rsv tsv mw hrsv htsv => ?_; refine g_seq ?_; refine g_region ?_; refine kPa rfl rfl ?_; refine p_nil ?_; refine g_seq ?_; refine g_region ?_; refine kPm rfl rfl ?_
  first | refine kPv (ev_nil rfl) rfl ?_ | refine kPv (ev_nilf rfl) rfl ?_
  refine kPv (ev_fa (m := _) fa_115_7 rfl rfl) rfl ?_; refine kPv (ev_load Tryz.isAgg113 rfl rfl) rfl ?_; refine kPm rfl rfl ?_; refine kPv ((ev_lookup1 Tryz.runUnderlying113 Tryz.runUnderlying52 Tryz.zeroValue3 rfl rfl).eq (mval_i _)) rfl ?_; refine kPa rfl rfl ?_; refine p_nil ?_; refine go_sub (σ' := [(4, _)]) ⟨rfl, trivial⟩ ?_; refine g_ret ?_
  exact ret_tmp Tryz.results55 rfl (fun w hh => ⟨rfl, col_holds hrsv htsv hh⟩)

theorem cstep_ok (B : World) (Fr : List HP) (x : Nat) (S : ColS) (hS : ColW S) (s : Dev) (hu : U64 s) :
    ∀ w, Holds B (ColA x S :: DevA S.bd s :: Fr) w → Calls Tryz.prog 74 [ptr x].toArray w (Ret B (fun rv H' => ∃ r s', S.step s = .ok r s' ∧ rv = .bool r.1 ∧ H' = ColA x r.2 :: DevA S.bd s' :: Fr) (fun c H' => ∃ s', S.step s = .off s' ∧ c = offc ∧ H' = DevA S.bd s' :: Fr)) := by
  refine fn_enter Tryz.func74 rfl Tryz.ntmps74 rfl ?_; refine go_col fun rsv tsv mw hrsv htsv => ?_
  have hfb := hS.fb
  have hfr := hS.free
  have hto := hS.to_
  have hscan := hS.scan
  have hub := unp_b (s.load S.scan)
  refine g_seq ?_; refine g_region ?_; refine kPa rfl rfl ?_; refine p_nil ?_; refine g_seq ?_; refine g_block ?_; refine g_seq ?_; refine g_region ?_; refine kPm rfl rfl ?_
  first | refine kPv (ev_nil rfl) rfl ?_ | refine kPv (ev_nilf rfl) rfl ?_
  refine kPv (ev_fa (m := _) fa_115_8 rfl rfl) rfl ?_; refine kPv (ev_load Tryz.isAgg4 rfl rfl) rfl ?_; refine kPa rfl rfl ?_; refine p_nil ?_
  refine g_if rfl (fun h9 => ?_) (fun h9 => ?_)
  · have hdone : S.done = true := h9
    have hres : S.step s = .ok (true, S) s := by unfold ColS.step; rw [if_pos hdone]
    refine g_skip ?_; refine g_seq ?_; refine g_region ?_; refine kPm rfl rfl ?_
    first | refine kPv (ev_nil rfl) rfl ?_ | refine kPv (ev_nilf rfl) rfl ?_
    refine kPv (ev_fa (m := _) fa_115_8 rfl rfl) rfl ?_; refine kPv (ev_load Tryz.isAgg4 rfl rfl) rfl ?_; refine kPa rfl rfl ?_; refine p_nil ?_; refine go_sub (σ' := [(2, _)]) ⟨rfl, trivial⟩ ?_; refine g_ret ?_
    exact ret_tmp Tryz.results74 rfl (fun w hh => ⟨_, ⟨_, _, hres, by rw [hdone], rfl⟩, col_holds hrsv htsv hh⟩)
  · have hdone : S.done = false := h9
    refine go_pk [2] ?_; refine go_vecq fun qt ct hqt hqi => ?_
    subst hqt
    refine go_pk [1, 1, 0, 0] ?_; refine g_seq ?_; refine g_region ?_; refine kPm rfl rfl ?_
    first | refine kPv (ev_nil rfl) rfl ?_ | refine kPv (ev_nilf rfl) rfl ?_
    refine kPv (ev_fa (m := _) fa_115_6 rfl rfl) rfl ?_; refine kPv (ev_load Tryz.isAgg31 rfl rfl) rfl ?_; refine kPv (ev_len rfl Tryz.runUnderlying31 ⟨_, rfl⟩ rfl) rfl ?_; refine kPv (ev_cmp rfl rfl rfl) rfl ?_; refine kPa rfl rfl ?_; refine p_nil ?_; refine go_sub (σ' := [(14, _), (2, _), (0, _)]) ⟨rfl, rfl, rfl, trivial⟩ ?_
    refine g_if rfl (fun h14 => ?_) (fun h14 => ?_)
    · obtain ⟨v, t, htd⟩ : ∃ v t, S.todo = v :: t := by
        cases ht : S.todo with
        | nil => rw [ht] at h14; simp at h14
        | cons v t => exact ⟨v, t, rfl⟩
      obtain ⟨bq, oq, rfl⟩ := hqi 0 (by rw [htd]; exact Nat.succ_pos _)
      refine g_seq ?_; refine g_region ?_; refine kPm rfl rfl ?_; refine kPm rfl rfl ?_
      first | refine kPv (ev_nil rfl) rfl ?_ | refine kPv (ev_nilf rfl) rfl ?_
      refine kPv (ev_fa (m := _) fa_115_6 rfl rfl) rfl ?_; refine kPv (ev_load Tryz.isAgg31 rfl rfl) rfl ?_; refine kPv (ev_iaS Tryz.runUnderlying31 Tryz.sizeOf52 rfl rfl (by decide) (by rw [htd]; simp only [List.length_cons]; omega)) rfl ?_
      refine kPv (ev_loadS (v := w64 v) Tryz.isAgg52 (vec_slr 2 rfl) rfl (by rw [htd]; rfl)) rfl ?_
      refine go_conv (fun w hh => col_holds hrsv htsv hh) ?_
      refine p_call rfl (en_f Tryz.call105 rfl) (ccopied_ok B _ x S hS s hu v (hS.todo _ (by rw [htd]; exact List.mem_cons_self ..))) .free rfl rfl ?_ ?_
      rotate_left
      · rintro _ _ ⟨s9, hm9, rfl, rfl⟩
        exact pan_fn fun w hh => ⟨_, ⟨s9, by unfold ColS.step; rw [if_neg (by rw [hdone]; decide)]; simp only [htd]; rw [hm9]; rfl, rfl, rfl⟩, hh⟩
      rintro _ _ ⟨r1, s1, hm1, rfl, rfl⟩
      obtain ⟨hS1, hrv1, hsc1, htd1, hdn1, hb1, hbd1, hc1, hto1, hfr1, hms1⟩ := copied_w hS hm1
      have hu1 := (copied_u64 hu hm1).1
      refine p_nil ?_; refine go_sub (σ' := [(2, _), (0, _)]) ⟨rfl, rfl, trivial⟩ ?_; refine g_region ?_; refine go_col fun rsv2 tsv2 mw2 hrsv2 htsv2 => ?_; refine kPm rfl rfl ?_; refine kPm rfl rfl ?_
      first | refine kPv (ev_nil rfl) rfl ?_ | refine kPv (ev_nilf rfl) rfl ?_
      refine kPv (ev_fa (m := _) fa_115_6 rfl rfl) rfl ?_; refine go_pk [2] ?_; refine go_conv (H' := VecU 0 (tsv2, v :: t) :: _) (fun w hh => by rw [htd1, htd] at hh; exact hh) ?_
      refine kPv (ev_load Tryz.isAgg31 rfl rfl) rfl ?_; refine p_chg rfl (ch_tail_vec (v := v) (xs := t) Tryz.runUnderlying31 Tryz.sizeOf52 rfl rfl) .free rfl rfl ?_
      rintro tv3 _ ⟨htv3, rfl⟩
      refine go_pk [1, 1] ?_
      first | refine kPv (ev_nil rfl) rfl ?_ | refine kPv (ev_nilf rfl) rfl ?_
      refine kPv (ev_fa (m := _) fa_115_6 rfl rfl) rfl ?_; refine p_chg0 rfl (ch_store Tryz.sizeOf31 rfl rfl (by first | rfl | assumption) rfl) .free rfl ?_
      rintro _ _ rfl
      refine p_nil ?_; refine go_sub (σ' := [(2, _), (0, _)]) ⟨rfl, rfl, trivial⟩ ?_; refine g_seq ?_; refine g_region ?_; refine kPm rfl rfl ?_
      first | refine kPv (ev_nil rfl) rfl ?_ | refine kPv (ev_nilf rfl) rfl ?_
      refine kPv (ev_fa (m := _) fa_115_8 rfl rfl) rfl ?_; refine kPv (ev_load Tryz.isAgg4 rfl rfl) rfl ?_; refine kPa rfl rfl ?_; refine p_nil ?_; refine g_ret ?_
      exact ret_tmp Tryz.results74 rfl (fun w hh => ⟨_, ⟨_, _, by unfold ColS.step; rw [if_neg (by rw [hdone]; decide)]; simp only [htd]; rw [hm1]; rfl, by rw [hdn1, hdone], rfl⟩, col_holds (S := { r1.2 with todo := t }) hrsv2 htv3 hh⟩)
    · have htd : S.todo = [] := by
        cases ht : S.todo with
        | nil => rfl
        | cons v t => rw [ht] at h14; simp at h14 <;> omega
      refine g_seq ?_; refine g_draw Tryz.mixed (by kernel_rfl) (by kernel_rfl) ?_; refine kQm rfl rfl ?_
      first | refine kQv (ev_nil rfl) rfl ?_ | refine kQv (ev_nilf rfl) rfl ?_
      refine kQv (ev_fa (m := _) fa_115_4 rfl rfl) rfl ?_; refine kQv (ev_load Tryz.isAgg3 rfl rfl) rfl ?_; refine kQm rfl rfl ?_
      first | refine kQv (ev_nil rfl) rfl ?_ | refine kQv (ev_nilf rfl) rfl ?_
      refine kQv (ev_fa (m := _) fa_115_5 rfl rfl) rfl ?_; refine kQv (ev_load Tryz.isAgg3 rfl rfl) rfl ?_; refine kQv (ev_cmp rfl rfl rfl) rfl ?_; refine kQa rfl rfl ?_; refine q_nil ?_; refine go_sub (σ' := [(37, _), (2, _), (0, _)]) ⟨rfl, rfl, rfl, trivial⟩ ?_
      refine g_if rfl (fun h37 => ?_) (fun h37 => ?_)
      · have hlt : S.scan < S.free := by simpa using h37
        have hstep : S.step s = (refsN (unp (s.load S.scan)).2.1.toNat 0 S s).then fun S' s' => .ok (false, { S' with scan := S'.scan + ((unp (s.load S.scan)).1 + 1) }) s' := by unfold ColS.step; rw [if_neg (by rw [hdone]; decide)]; simp only [htd]; rw [if_pos hlt]
        refine g_seq ?_
        refine g_drawT (.br [0, 1, 2, 3, 4, 5, 6, 7] 8 (.br [] 9 (.fin [10, 11, 12, 13, 14, 15]) 13 (.fin [9, 10, 11, 12, 14, 15])) 13 (.fin [8, 9, 10, 11, 12, 14, 15])) [8, 9, 13, 14] [0, 1, 2, 3, 4, 5, 6, 7, 10, 11, 12] [13, 14] [row x (colRow S rsv (.slice qt S.todo.length ct) mw) 115] [2, 0] (G := Nat) (fun b3 => [(3, ptr b3), (4, .bool (unp (s.load S.scan)).2.2)]) (fun b3 => row b3 [i64 (unp (s.load S.scan)).1, i64 (unp (s.load S.scan)).2.1] 87 :: row x (colRow S rsv (.slice qt S.todo.length ct) mw) 115 :: VecU 0 (rsv, S.b.rts) :: VecU 0 (.slice qt S.todo.length ct, S.todo) :: mapA .u64 i64 mw S.went :: DevA S.bd s :: Fr) Tryz.mixed (by kernel_rfl) ?_ ?_
        · skip
          refine t_br ?_; refine v_hoist rfl rfl rfl (ev_move rfl) .free rfl ?_
          first | refine v_hoist rfl rfl rfl (ev_nil rfl) .free rfl ?_ | refine v_hoist rfl rfl rfl (ev_nilf rfl) .free rfl ?_
          refine v_hoist rfl rfl rfl (ev_fa (m := _) fa_115_0 rfl rfl) .free rfl ?_; refine v_hoist rfl rfl rfl (ev_load Tryz.isAgg28 rfl rfl) .free rfl ?_; refine v_hoist rfl rfl rfl (ev_move rfl) .free rfl ?_
          first | refine v_hoist rfl rfl rfl (ev_nil rfl) .free rfl ?_ | refine v_hoist rfl rfl rfl (ev_nilf rfl) .free rfl ?_
          refine v_hoist rfl rfl rfl (ev_fa (m := _) fa_115_4 rfl rfl) .free rfl ?_; refine v_hoist rfl rfl rfl (ev_load Tryz.isAgg3 rfl rfl) .free rfl ?_; refine v_nil ?_
          refine t_two rfl rfl ?_ ?_
          · skip
            refine p_callq rfl (en_f Tryz.call72 rfl) (ro_at (q := DevA) (fun Fr => nload_ok _ Fr _ _ _)) .free rfl rfl ?_; refine p_nil ?_; refine t_off rfl ?_; refine t_br ?_; refine v_nil ?_
            refine t_two rfl rfl ?_ ?_
            · skip
              refine p_callq rfl (en_f Tryz.call93 rfl) (unpack_ok _ _ _) .free rfl rfl ?_; refine p_nil ?_; refine t_off rfl ?_; refine t_fin ?_; refine v_hoist rfl rfl rfl (ev_move rfl) .free rfl ?_; refine v_hoist rfl rfl rfl (ev_ext rfl rfl) .free rfl ?_; refine v_hoist rfl rfl rfl (ev_ext rfl rfl) .free rfl ?_; refine v_mark rfl rfl ?_; refine p_chg rfl (ch_allocA Tryz.zeroValue87 rfl) .free rfl rfl ?_
              rintro _ _ ⟨b3, rfl, rfl⟩
              refine p_nil ?_; refine v_on ?_; refine v_mark rfl rfl ?_; refine p_chg0 rfl (ch_storeA (vs := _) Tryz.sizeOf87 rfl rfl rfl rfl rfl) .free rfl ?_
              rintro _ _ rfl
              refine p_nil ?_; refine v_on ?_; refine v_val rfl rfl rfl (ev_assign rfl) .free rfl ?_; refine v_nil ?_
              exact fun a w st_ => ⟨b3, st_.to ⟨rfl, rfl, rfl, rfl, trivial⟩ (fun hh => hh)⟩
            · skip
              refine p_chg rfl (ch_allocA Tryz.zeroValue87 rfl) .free rfl rfl ?_
              rintro _ _ ⟨b3, rfl, rfl⟩
              refine p_nil ?_; refine t_on ?_; refine t_fin ?_; refine v_mark rfl rfl ?_; refine p_callq rfl (en_f Tryz.call93 rfl) (unpack_ok _ _ _) .free rfl rfl ?_; refine p_nil ?_; refine v_off rfl ?_; refine v_hoist rfl rfl rfl (ev_move rfl) .free rfl ?_; refine v_hoist rfl rfl rfl (ev_ext rfl rfl) .free rfl ?_; refine v_hoist rfl rfl rfl (ev_ext rfl rfl) .free rfl ?_; refine v_mark rfl rfl ?_; refine p_chg0 rfl (ch_storeA (vs := _) Tryz.sizeOf87 rfl rfl rfl rfl rfl) .free rfl ?_
              rintro _ _ rfl
              refine p_nil ?_; refine v_on ?_; refine v_val rfl rfl rfl (ev_assign rfl) .free rfl ?_; refine v_nil ?_
              exact fun a w st_ => ⟨b3, st_.to ⟨rfl, rfl, rfl, rfl, trivial⟩ (fun hh => hh)⟩
          · skip
            refine p_chg rfl (ch_allocA Tryz.zeroValue87 rfl) .free rfl rfl ?_
            rintro _ _ ⟨b3, rfl, rfl⟩
            refine p_nil ?_; refine t_on ?_; refine t_fin ?_; refine v_mark rfl rfl ?_; refine p_callq rfl (en_f Tryz.call72 rfl) (ro_at (q := DevA) (fun Fr => nload_ok _ Fr _ _ _)) .free rfl rfl ?_; refine p_nil ?_; refine v_off rfl ?_; refine v_mark rfl rfl ?_; refine p_callq rfl (en_f Tryz.call93 rfl) (unpack_ok _ _ _) .free rfl rfl ?_; refine p_nil ?_; refine v_off rfl ?_; refine v_hoist rfl rfl rfl (ev_move rfl) .free rfl ?_; refine v_hoist rfl rfl rfl (ev_ext rfl rfl) .free rfl ?_
            refine v_hoist rfl rfl rfl (ev_ext rfl rfl) .free rfl ?_; refine v_mark rfl rfl ?_; refine p_chg0 rfl (ch_storeA (vs := _) Tryz.sizeOf87 rfl rfl rfl rfl rfl) .free rfl ?_
            rintro _ _ rfl
            refine p_nil ?_; refine v_on ?_; refine v_val rfl rfl rfl (ev_assign rfl) .free rfl ?_; refine v_nil ?_
            exact fun a w st_ => ⟨b3, st_.to ⟨rfl, rfl, rfl, rfl, trivial⟩ (fun hh => hh)⟩
        intro b3
        refine go_sub (σ' := [(3, ptr b3), (4, .bool (unp (s.load S.scan)).2.2), (2, _), (0, _)]) ⟨rfl, rfl, rfl, rfl, trivial⟩ ?_; refine g_seq ?_; refine g_seq ?_; refine go_pk [1, 1, 1, 1] ?_; refine go_conv (fun w hh => col_holds hrsv htsv hh) ?_; refine g_region ?_; refine kPv (ev_fa (m := _) fa_87_1 rfl rfl) rfl ?_; refine kPv (ev_load Tryz.isAgg3 rfl rfl) rfl ?_; refine kPm rfl rfl ?_; refine p_nil ?_; refine g_block ?_
        refine g_loopk (ι := Nat × ColS × Dev) [61, 3, 2, 0] (fun (i, SI, sI) => ((i : Int) ≤ (unp (s.load S.scan)).2.1) ∧ (ColW SI) ∧ (U64 sI) ∧ (SI.todo = []) ∧ (SI.done = S.done) ∧ (SI.bd = S.bd) ∧ (SI.scan = S.scan) ∧ (refsN (unp (s.load S.scan)).2.1.toNat 0 S s = refsN ((unp (s.load S.scan)).2.1.toNat - i) i SI sI)) (fun (i, SI, sI) => [(62, i64 i)]) (fun (i, SI, sI) => row b3 [i64 (unp (s.load S.scan)).1, i64 (unp (s.load S.scan)).2.1] 87 :: ColA x SI :: DevA SI.bd sI :: Fr) (fun (i, SI, sI) => (unp (s.load S.scan)).2.1.toNat - i) (0, S, s) (⟨by first | omega | (simp only; omega), hS, hu, htd, rfl, rfl, rfl, rfl⟩) (fun a w st => st.to ⟨rfl, trivial⟩ (fun hh => (hh.pk [1]))) ?_
        rintro ⟨i, SI, sI⟩ ⟨hi0, hSI, huI, htdI, hdI, hbdI, hscI0, hinv⟩
        try simp only at hi0 hSI huI htdI hdI hbdI hscI0 hinv ⊢
        refine go_sub (σ' := [(62, i64 i), (61, _), (3, _), (2, _), (0, _)]) ⟨rfl, rfl, rfl, rfl, rfl, trivial⟩ ?_; refine g_seq ?_; refine g_region ?_; refine kPv (ev_cmp rfl rfl rfl) rfl ?_; refine p_nil ?_; refine g_seq ?_
        refine g_if rfl (fun h63 => ?_) (fun h63 => ?_)
        · have hi : (i : Int) < (unp (s.load S.scan)).2.1 := by simpa using h63
          have hscI := hSI.scan
          refine g_skip ?_; refine g_seq ?_; refine g_block ?_; refine g_seq ?_; refine g_region ?_; refine kPm rfl rfl ?_; refine kPa rfl rfl ?_; refine p_nil ?_; refine g_seq ?_; refine go_pk [1] ?_; refine go_col fun rsv2 tsv2 mw2 hrsv2 htsv2 => ?_; refine g_draw Tryz.mixed (by kernel_rfl) (by kernel_rfl) ?_; refine kQm rfl rfl ?_
          first | refine kQv (ev_nil rfl) rfl ?_ | refine kQv (ev_nilf rfl) rfl ?_
          refine kQv (ev_fa (m := _) fa_115_0 rfl rfl) rfl ?_; refine kQv (ev_load Tryz.isAgg28 rfl rfl) rfl ?_; refine kQm rfl rfl ?_
          first | refine kQv (ev_nil rfl) rfl ?_ | refine kQv (ev_nilf rfl) rfl ?_
          refine kQv (ev_fa (m := _) fa_115_4 rfl rfl) rfl ?_; refine kQv (ev_load Tryz.isAgg3 rfl rfl) rfl ?_
          first | refine q_val rfl (ev_add rfl rfl (wr64 (by omega))) .free rfl ?_ | refine q_val rfl (ev_add rfl rfl rfl) .free rfl ?_
          refine kQm rfl rfl ?_
          first | refine q_val rfl (ev_add rfl rfl (wr64 (by omega))) .free rfl ?_ | refine q_val rfl (ev_add rfl rfl rfl) .free rfl ?_
          refine q_call rfl (en_f Tryz.call72 rfl) (ro_at (q := DevA) (fun Fr => nload_ok _ Fr _ _ _)) .free rfl ?_; refine kQa rfl rfl ?_; refine q_nil ?_; refine go_sub (σ' := [(6, _), (5, _), (62, _), (61, _), (3, _), (2, _), (0, _)]) ⟨rfl, rfl, rfl, rfl, rfl, rfl, rfl, trivial⟩ ?_; refine g_seq ?_; refine go_conv (fun w hh => col_holds hrsv2 htsv2 hh) ?_; refine g_region ?_; refine kPm rfl rfl ?_; refine kPv (ev_cmp rfl rfl rfl) rfl ?_; refine p_nil ?_
          refine g_if rfl (fun h78 => ?_) (fun h78 => ?_)
          · have hne : ¬ sI.load (SI.scan + 1 + i) = 0 := by simpa using h78
            refine go_pk [0, 1] ?_; refine go_conv (fun w hh => hh) ?_; refine g_drawv [0, 1, 2, 3, 4, 5, 6, 7, 8, 9, 10, 11, 12, 13, 14, 15] [13, 15] [0, 1, 2, 3, 4, 5, 6, 7, 8, 9, 10] [13] [ColF x SI.bd SI.scan] Tryz.mixed (by kernel_rfl) ?_; refine v_hoist rfl rfl rfl (ev_move rfl) .free rfl ?_
            first | refine v_hoist rfl rfl rfl (ev_nil rfl) .free rfl ?_ | refine v_hoist rfl rfl rfl (ev_nilf rfl) .free rfl ?_
            refine v_hoist rfl rfl rfl (ev_fa (m := _) fa_115_0 rfl rfl) .free rfl ?_; refine v_hoist rfl rfl rfl (ev_hex fun y => ev_load Tryz.isAgg28 rfl rfl) .free rfl ?_; refine v_hoist rfl rfl rfl (ev_move rfl) .free rfl ?_
            first | refine v_hoist rfl rfl rfl (ev_nil rfl) .free rfl ?_ | refine v_hoist rfl rfl rfl (ev_nilf rfl) .free rfl ?_
            refine v_hoist rfl rfl rfl (ev_fa (m := _) fa_115_4 rfl rfl) .free rfl ?_; refine v_hoist rfl rfl rfl (ev_hex fun y => ev_load Tryz.isAgg3 rfl rfl) .free rfl ?_
            first | refine v_hoist rfl rfl rfl (ev_add rfl rfl (wr64 (by omega))) .free rfl ?_ | refine v_hoist rfl rfl rfl (ev_add rfl rfl rfl) .free rfl ?_
            refine v_hoist rfl rfl rfl (ev_move rfl) .free rfl ?_
            first | refine v_hoist rfl rfl rfl (ev_add rfl rfl (wr64 (by omega))) .free rfl ?_ | refine v_hoist rfl rfl rfl (ev_add rfl rfl rfl) .free rfl ?_
            refine v_val rfl rfl rfl (ev_move rfl) .free rfl ?_; refine v_val rfl rfl rfl (ev_move rfl) .free rfl ?_; refine v_mark rfl rfl ?_
            refine p_call rfl (en_f Tryz.call105 rfl) (ccopied_ok B _ x SI hSI sI huI (sI.load (SI.scan + 1 + i)) (huI.load _)) .free rfl rfl ?_ ?_
            rotate_left
            · rintro _ _ ⟨s9, hm9, rfl, rfl⟩
              exact pan_fn fun w hh => ⟨_, ⟨s9, by rw [hstep, hinv, show (unp (s.load S.scan)).2.1.toNat - i = ((unp (s.load S.scan)).2.1.toNat - (i + 1)) + 1 by omega, refsN_succ, if_neg hne, hm9]; rfl, rfl, rfl⟩, by rw [← hbdI]; exact hh.dp [1]⟩
            rintro _ _ ⟨r2, s2, hm2, rfl, rfl⟩
            obtain ⟨hS2, hrv2, hsc2, htd2, hdn2, hb2, hbd2, hc2, hto2, hfr2, hms2⟩ := copied_w hSI hm2
            have hu2 := (copied_u64 huI hm2).1
            refine p_nil ?_; refine go_colf (fun w hh => by have h5 := col_f hh; rw [hbd2, hsc2] at h5; exact h5) ?_
            refine v_val rfl rfl rfl (ev_conv Tryz.runUnderlying3 Tryz.runUnderlying52 rfl (wru64 (by omega))) .free rfl ?_; refine v_mark rfl rfl ?_
            refine p_call rfl (en_f Tryz.call70 rfl) (up_at (fun Fr => nstore_ok _ Fr _ _ _ _)) .free rfl rfl ?_ ?_
            rotate_left
            · rintro _ _ ⟨s9, ⟨hm9, rfl⟩, rfl⟩
              exact pan_fn fun w hh => ⟨_, ⟨s9, by rw [hstep, hinv, show (unp (s.load S.scan)).2.1.toNat - i = ((unp (s.load S.scan)).2.1.toNat - (i + 1)) + 1 by omega, refsN_succ, if_neg hne, hm2]; simp only [then_ok]; rw [hm9]; rfl, rfl, rfl⟩, by rw [← hbdI]; exact (hh.dp [0, 1])⟩
            rintro _ _ ⟨s3, ⟨e3, hm3, rfl⟩, rfl⟩
            refine p_nil ?_; refine v_off rfl ?_; refine v_nil ?_; refine go_sub (σ' := [(62, _), (61, _), (3, _), (2, _), (0, _)]) ⟨rfl, rfl, rfl, rfl, rfl, trivial⟩ ?_; refine g_region ?_
            first | refine p_val rfl (ev_add rfl rfl (wr64 (by omega))) .free rfl rfl ?_ | refine p_val rfl (ev_add rfl rfl rfl) .free rfl rfl ?_
            refine kPm rfl rfl ?_; refine p_nil ?_
            exact fun a w st_ => ⟨(i + 1, r2.2, s3), ⟨by first | omega | (simp only; omega), hS2, (store_u64 hu2 (by omega) hm3).1, htd2.trans htdI, hdn2.trans hdI, hbd2.trans hbdI, hsc2.trans hscI0, by rw [hinv, show (unp (s.load S.scan)).2.1.toNat - i = ((unp (s.load S.scan)).2.1.toNat - (i + 1)) + 1 by omega, refsN_succ, if_neg hne, hm2]; simp only [then_ok]; rw [hm3]; rfl⟩, by first | omega | (simp only; omega), st_.to ⟨rfl, rfl, rfl, rfl, rfl, trivial⟩ (fun hh => (by first | exact (hh.pk [2]) | (simp only [hbd2]; exact (hh.pk [2]))))⟩
          · have hne : sI.load (SI.scan + 1 + i) = 0 := by simpa using h78
            refine g_skip ?_; refine g_region ?_
            first | refine p_val rfl (ev_add rfl rfl (wr64 (by omega))) .free rfl rfl ?_ | refine p_val rfl (ev_add rfl rfl rfl) .free rfl rfl ?_
            refine kPm rfl rfl ?_; refine p_nil ?_
            exact fun a w st_ => ⟨(i + 1, SI, sI), ⟨by first | omega | (simp only; omega), hSI, huI, htdI, hdI, hbdI, hscI0, by rw [hinv, show (unp (s.load S.scan)).2.1.toNat - i = ((unp (s.load S.scan)).2.1.toNat - (i + 1)) + 1 by omega, refsN_succ, if_pos hne]; rfl⟩, by first | omega | (simp only; omega), st_.to ⟨rfl, rfl, rfl, rfl, rfl, trivial⟩ (fun hh => (by first | exact (hh.pk [1]) | (simp only [hbd2]; exact (hh.pk [1]))))⟩
        · have hi : ¬ (i : Int) < (unp (s.load S.scan)).2.1 := by simpa using h63
          have hscI := hSI.scan
          refine g_exit ?_; refine go_pk [1] ?_; refine go_col fun rsv3 tsv3 mw3 hrsv3 htsv3 => ?_; refine g_drawt 9 Tryz.mixed (by kernel_rfl) (by kernel_rfl) ?_; refine kQm rfl rfl ?_
          first | refine kQv (ev_nil rfl) rfl ?_ | refine kQv (ev_nilf rfl) rfl ?_
          refine kQv (ev_fa (m := _) fa_115_4 rfl rfl) rfl ?_; refine kQv (ev_load Tryz.isAgg3 rfl rfl) rfl ?_; refine kQv (ev_loadA Tryz.isAgg87 Tryz.sizeOf87 rfl rfl) rfl ?_; refine q_call rfl (en_f Tryz.call52 rfl) (hsize_ok _ _ _ _ (by omega)) .free rfl ?_
          first | refine q_val rfl (ev_add rfl rfl (wr64 (by omega))) .free rfl ?_ | refine q_val rfl (ev_add rfl rfl rfl) .free rfl ?_
          first | refine kQv (ev_nil rfl) rfl ?_ | refine kQv (ev_nilf rfl) rfl ?_
          refine kQv (ev_fa (m := _) fa_115_4 rfl rfl) rfl ?_; refine q_nil ?_; refine p_chg0 rfl (ch_store Tryz.sizeOf3 rfl rfl rfl rfl) .free rfl ?_
          rintro _ _ rfl
          refine p_nil ?_; refine go_sub (σ' := [(2, _), (0, _)]) ⟨rfl, rfl, trivial⟩ ?_; refine g_seq ?_; refine g_region ?_; refine kPm rfl rfl ?_
          first | refine kPv (ev_nil rfl) rfl ?_ | refine kPv (ev_nilf rfl) rfl ?_
          refine kPv (ev_fa (m := _) fa_115_8 rfl rfl) rfl ?_; refine kPv (ev_load Tryz.isAgg4 rfl rfl) rfl ?_; refine kPa rfl rfl ?_; refine p_nil ?_; refine g_ret ?_
          exact ret_tmp Tryz.results74 rfl (fun w hh => ⟨_, ⟨_, _, by rw [hstep, hinv, show (unp (s.load S.scan)).2.1.toNat - i = 0 by omega]; rfl, by rw [hdI, hdone], rfl⟩, by rw [← hbdI]; exact col_holds (S := { SI with scan := SI.scan + ((unp (s.load S.scan)).1 + 1) }) hrsv3 htsv3 (hh.dp [4])⟩)
      · have hlt : ¬ S.scan < S.free := by simpa using h37
        refine go_conv (fun w hh => col_holds hrsv htsv hh) ?_; refine g_region ?_; refine kPm rfl rfl ?_
        refine p_call rfl (en_f Tryz.call106 rfl) (ckeep_ok B _ x S hS s hu) .free rfl rfl ?_ ?_
        rotate_left
        · rintro _ _ ⟨s9, hm9, rfl, rfl⟩
          exact pan_fn fun w hh => ⟨_, ⟨s9, by unfold ColS.step; rw [if_neg (by rw [hdone]; decide)]; simp only [htd]; rw [if_neg hlt, hm9]; rfl, rfl, rfl⟩, hh⟩
        rintro _ _ ⟨r1, s1, hm1, rfl, rfl⟩
        refine go_col fun rsv4 tsv4 mw4 hrsv4 htsv4 => ?_; refine p_nil ?_; refine g_seq ?_; refine g_region ?_; refine kPm rfl rfl ?_
        first | refine kPv (ev_nil rfl) rfl ?_ | refine kPv (ev_nilf rfl) rfl ?_
        refine kPv (ev_fa (m := _) fa_115_8 rfl rfl) rfl ?_; refine kPv (ev_load Tryz.isAgg4 rfl rfl) rfl ?_; refine kPa rfl rfl ?_; refine p_nil ?_; refine go_sub (σ' := [(2, _)]) ⟨rfl, trivial⟩ ?_; refine g_ret ?_
        exact ret_tmp Tryz.results74 rfl (fun w hh => ⟨_, ⟨(true, { S with done := true }), s1, by unfold ColS.step; rw [if_neg (by rw [hdone]; decide)]; simp only [htd]; rw [if_neg hlt, hm1]; rfl, rfl, rfl⟩, col_holds (S := { S with done := true }) hrsv4 htsv4 hh⟩)

end Go.Proofs.YtbfheafpecgphaaGreat
