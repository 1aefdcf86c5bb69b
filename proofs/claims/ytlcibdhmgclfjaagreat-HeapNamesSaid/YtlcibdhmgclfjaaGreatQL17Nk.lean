/- Part of the texts beneath a law: what its proof names. Conditions: none. -/
import Derived.Test.YtlcibdhmgclfjaaGreatQL17Nj
set_option linter.unusedSimpArgs false
set_option linter.unusedVariables false
set_option linter.unnecessarySimpa false
set_option linter.unusedSectionVars false
namespace Go.Proofs.YtlcibdhmgclfjaaGreat
open Go
theorem refsN_w : ∀ (k : Nat) (i : Int) (S S' : ColS) (s s' : Dev), ColW S → U64 s → S.todo = [] → refsN k i S s = .ok S' s' → ColW S' ∧ U64 s' ∧ S'.scan = S.scan ∧ S'.todo = [] ∧ S'.done = S.done ∧ S'.b = S.b ∧ S'.bd = S.bd ∧ S'.c = S.c ∧ S'.to_ = S.to_ ∧ S.free ≤ S'.free ∧ S'.free - S.free + 66 * (S.b.used.toNat - S'.went.length : Nat) ≤ 66 * (S.b.used.toNat - S.went.length : Nat)
  | 0, _, S, S', s, s', h, hu, ht, e => by cases e; exact ⟨h, hu, rfl, ht, rfl, rfl, rfl, rfl, rfl, Int.le_refl _, by omega⟩
  | k + 1, i, S, S', s, s', h, hu, ht, e => by
    unfold refsN at e
    split at e
    · exact refsN_w k _ S S' s s' h hu ht e
    · obtain ⟨r, s1, e1, e⟩ := then_inv e
      obtain ⟨_, s2, e2, e⟩ := then_inv e
      obtain ⟨h1, hv, h2, h3, h4, h5, h6, h7, h8, h9, h10⟩ := copied_w h e1
      have u1 := copied_u64 hu e1
      have u2 := store_u64 u1.1 (by omega) e2
      obtain ⟨g1, gu, g2, g3, g4, g5, g6, g7, g8, g9, g10⟩ := refsN_w k _ r.2 S' s2 s' h1 u2.1 (h3.trans ht) e
      rw [h5] at g10
      exact ⟨g1, gu, g2.trans h2, g3, g4.trans h4, g5.trans h5, g6.trans h6, g7.trans h7, g8.trans h8, Int.le_trans h9 g9, by omega⟩
theorem keepN_u64 : ∀ (f : Nat) (i e : Int) (s s' : Dev) (a : Unit), U64 s → keepN f i e s = .ok a s' → U64 s'
  | 0, _, _, s, s', a, h, e => by cases e; exact h
  | f + 1, i, e', s, s', a, h, e => by
    unfold keepN at e
    split at e
    · obtain ⟨_, s1, e1, e⟩ := then_inv e
      exact keepN_u64 f _ _ s1 s' a (flush_u64 h e1).1 e
    · cases e; exact h
theorem keep_u64 {S : ColS} {s s' : Dev} {a : Unit} (h : U64 s) (e : S.keep s = .ok a s') : U64 s' := by
  unfold ColS.keep at e
  obtain ⟨_, s1, e1, e⟩ := then_inv e
  have h1 := keepN_u64 _ _ _ _ _ _ h e1
  split at e
  · exact (fence_u64 h1 e).1
  · cases e; exact h1
theorem step_w {S : ColS} (h : ColW S) {s s' : Dev} (hu : U64 s) {r : Bool × ColS} (e : S.step s = .ok r s') : ColW r.2 ∧ U64 s' ∧ r.2.b = S.b ∧ r.2.bd = S.bd ∧ r.2.c = S.c ∧ r.2.to_ = S.to_ ∧ r.1 = r.2.done ∧ (r.1 = false → r.2.meas < S.meas) := by
  have hwl := h.wl; have hfb := h.fb
  unfold ColS.step at e
  split at e
  · rename_i hd; cases e; exact ⟨h, hu, rfl, rfl, rfl, rfl, hd.symm, fun hh => by cases hh⟩
  rename_i hd
  have hd0 : S.done = false := by simpa using hd
  split at e
  · rename_i w t ht
    obtain ⟨r1, s1, e1, e⟩ := then_inv e
    cases e
    obtain ⟨h1, _, h2, h3, h4, h5, h6, h7, h8, h9, h10⟩ := copied_w h e1
    refine ⟨⟨h1.c, h1.b, h1.rl, h1.to_, h1.scan, h1.free, h1.nd, h1.rng, h1.val, fun v hv => h.todo v (by rw [ht]; exact List.mem_cons_of_mem _ hv), h1.rts⟩, (copied_u64 hu e1).1, h5, h6, h7, h8, by simp only [h4, hd0], fun _ => ?_⟩
    unfold ColS.meas
    simp only [ht, h2, h4, h5, List.length_cons]
    split <;> omega
  · rename_i ht
    have hub := unp_b (s.load S.scan)
    split at e
    · rename_i hlt
      obtain ⟨S1, s1, e1, e⟩ := then_inv e
      cases e
      obtain ⟨h1, gu, h2, h3, h4, h5, h6, h7, h8, h9, h10⟩ := refsN_w _ _ _ _ _ _ h hu ht e1
      have hsc := h.scan
      refine ⟨⟨h1.c, h1.b, h1.rl, h1.to_, ⟨by have := h1.scan; simp only; omega, by simp only; omega⟩, h1.free, h1.nd, h1.rng, h1.val, h1.todo, h1.rts⟩, gu, h5, h6, h7, h8, by simp only [h4, hd0], fun _ => ?_⟩
      unfold ColS.meas
      simp only [ht, h2, h3, h4, h5]
      split <;> omega
    · obtain ⟨_, s1, e1, e⟩ := then_inv e
      cases e
      exact ⟨⟨h.c, h.b, h.rl, h.to_, h.scan, h.free, h.nd, h.rng, h.val, h.todo, h.rts⟩, keep_u64 hu e1, rfl, rfl, rfl, rfl, rfl, fun hh => by cases hh⟩
def ColF (x bd : Nat) (sc : Int) : HP := hex fun (y : Nat → Value) => row x [ptr bd, y 1, y 2, y 3, y 4, y 5, y 6, y 7, i64 sc, y 9, y 10, y 11, y 12] 191
theorem col_f {B : World} {x : Nat} {S : ColS} {Fr : List HP} {w : World} (h : Holds B (ColA x S :: Fr) w) : Holds B [ColF x S.bd S.scan] w := by
  obtain ⟨p, hx⟩ := h.hex
  refine Holds.unhex (fun i => (colRow S p.1 p.2.1 p.2.2).getD i .nilIface) ?_
  have h2 := hx.grp
  exact h2.map fun k a => by
    obtain ⟨h1, h2, d, s1, s2, ha, hl⟩ := a
    exact ⟨h1, h2, d, s1, s2, ha, trivial⟩
instance SubH.colf {H Fr : List HP} {x : Nat} {S : ColS} [r : PullH H (ColA x S) Fr] : SubH H [ColF x S.bd S.scan] := ⟨fun h hh => by
  obtain ⟨i, h1, h2⟩ := r.get
  obtain ⟨k1, k2, d, s1, s2, ⟨p, hp⟩, hl⟩ := sat_front i h1 hh
  obtain ⟨g1, g2, d', t1, t2, ha, hg⟩ := hp
  exact ⟨g1, fun _ => none, fun _ => .inr rfl, t1.trans s1, (fun _ _ e => nomatch e), ⟨fun i => (colRow S p.1 p.2.1 p.2.2).getD i .nilIface, ha⟩, trivial⟩⟩
theorem ev_hex {B : World} {σ : Env} {P : Program} {α : Type} {A : α → HP} {o : Oper} {v : Value} (h : ∀ y, Evs P B σ [A y] o v) : Evs P B σ [hex A] o v := fun a w kn hh => by
  obtain ⟨y, hy⟩ := hh.hex
  exact h y a w kn hy
theorem go_colf {B : World} {n : Nat} {D : List Deferred} {σ : Env} {H H0 : List HP} {P : Program} {ro : Cx} {K : Act → World → Prop} {X : Ext} {ops : Array Oper} {ms hs cs : List Nat} {ord : List Nat} {c : Bool} (f : ∀ w, Holds B H w → Holds B H0 w) (h : GO B n D σ H (wpV P ro ops ms hs cs (Holds B H0) X K ord)) : GO B n D σ H (fun a w => (c = true → Holds B H0 w) ∧ wpV P ro ops ms hs cs (Holds B H0) X K ord a w) := fun a w s => ⟨fun _ => f w s.holds, h a w s⟩
theorem keepN_succ (f : Nat) (i e : Int) (s : Dev) : keepN (f + 1) i e s = if i < e then (s.flush i).then fun _ s' => keepN f (i + 8) e s' else .ok () s := rfl
theorem refsN_succ (k : Nat) (i : Int) (S : ColS) (s : Dev) : refsN (k + 1) i S s = if s.load (S.scan + 1 + i) = 0 then refsN k (i + 1) S s else (S.copied s (s.load (S.scan + 1 + i))).then fun r s1 => (s1.store (S.scan + 1 + i) r.1).then fun _ s2 => refsN k (i + 1) r.2 s2 := rfl
theorem runN_succ (f : Nat) (S : ColS) (s : Dev) : runN (f + 1) S s = (S.step s).then fun r s' => if r.1 = true then .ok r.2 s' else runN f r.2 s' := rfl
theorem ckeep_ok (B : World) (Fr : List HP) (x : Nat) (S : ColS) (hS : ColW S) (s : Dev) (hu : U64 s) :
    ∀ w, Holds B (ColA x S :: DevA S.bd s :: Fr) w → Calls Tryz.prog 159 [ptr x].toArray w (Ret B (fun rv H' => ∃ r s', S.keep s = .ok r s' ∧ rv = unitV r ∧ H' = ColA x { S with done := true } :: DevA S.bd s' :: Fr) (fun c H' => ∃ s', S.keep s = .off s' ∧ c = offc ∧ H' = DevA S.bd s' :: Fr)) := by
  refine fn_enter Tryz.func159 rfl Tryz.ntmps159 rfl (go_col fun rsv tsv mw hrsv htsv => ?_)
  have hfb := hS.fb
  have hfr := hS.free
  have hto := hS.to_
  refine g_seq (g_seq (g_region (kPm rfl rfl ?_)))
  first | refine kPv (ev_nil rfl) rfl ?_ | refine kPv (ev_nilf rfl) rfl ?_
  refine kPv (ev_fa (m := _) fa_191_3 rfl rfl) rfl (kPv (ev_load Tryz.isAgg3 rfl rfl) rfl (kPa rfl rfl (p_nil (g_block ?_))))
  refine g_loopk (ι := Int × Nat × Dev) [0] (fun (i, n, sI) => (S.to_ ≤ i ∧ i ≤ 400000) ∧ (S.free - i ≤ n) ∧ (keepN ((S.free - S.to_).toNat + 1) S.to_ S.free s = keepN (n + 1) i S.free sI)) (fun (i, n, sI) => [(2, i64 i)]) (fun (i, n, sI) => row x (colRow S rsv tsv mw) 191 :: VecU 0 (rsv, S.b.rts) :: VecU 0 (tsv, S.todo) :: mapA .u64 i64 mw S.went :: DevA S.bd sI :: Fr) (fun (i, n, sI) => n) (S.to_, (S.free - S.to_).toNat, s) (⟨⟨by first | omega | (simp only; omega), by first | omega | (simp only; omega)⟩, by first | omega | (simp only; omega), rfl⟩) (fun a w st => st.to ⟨rfl, trivial⟩ (fun hh => hh)) ?_
  rintro ⟨i, n, sI⟩ ⟨hi0, hn, hinv⟩
  try simp only at hi0 hn hinv ⊢
  refine go_sub (σ' := [(2, i64 i), (0, _)]) ⟨rfl, rfl, trivial⟩ (g_seq (g_seq (g_region (kPm rfl rfl (kPm rfl rfl ?_)))))
  first | refine kPv (ev_nil rfl) rfl ?_ | refine kPv (ev_nilf rfl) rfl ?_
  refine kPv (ev_fa (m := _) fa_191_5 rfl rfl) rfl (kPv (ev_load Tryz.isAgg3 rfl rfl) rfl (kPv (ev_cmp rfl rfl rfl) rfl (p_nil ?_)))
  refine g_if rfl (fun h12 => ?_) (fun h12 => ?_)
  · have hlt : i < S.free := by simpa using h12
    refine g_skip (g_seq (g_block (g_region (kPm rfl rfl ?_))))
    first | refine kPv (ev_nil rfl) rfl ?_ | refine kPv (ev_nilf rfl) rfl ?_
    refine kPv (ev_fa (m := _) fa_191_0 rfl rfl) rfl (kPv (ev_load Tryz.isAgg28 rfl rfl) rfl (kPm rfl rfl ?_))
    refine p_call rfl (en_f Tryz.call126 rfl) (up_at (fun Fr => nflush_ok _ Fr _ _ _)) .free rfl rfl ?_ ?_
    rotate_left
    · rintro _ _ ⟨s9, ⟨hm9, rfl⟩, rfl⟩
      exact pan_fn fun w hh => ⟨_, ⟨s9, by unfold ColS.keep; rw [hinv, keepN_succ, if_pos hlt, hm9]; rfl, rfl, rfl⟩, (hh.dp [0, 0, 0, 0])⟩
    rintro _ _ ⟨s1, ⟨e1, hm1, rfl⟩, rfl⟩
    refine p_nil (go_sb [2, 0] rfl (g_region (kPm rfl rfl ?_)))
    first | refine p_val rfl (ev_add rfl rfl (wr64 (by omega))) .free rfl rfl ?_ | refine p_val rfl (ev_add rfl rfl rfl) .free rfl rfl ?_
    refine kPa rfl rfl (p_nil ?_)
    exact fun a w st_ => ⟨(i + 8, n - 1, s1), ⟨by first | omega | (simp only; omega), by first | omega | (simp only; omega), by rw [hinv, keepN_succ, if_pos hlt, hm1, show n = n - 1 + 1 by omega]; rfl⟩, by first | omega | (simp only; omega), st_.to ⟨rfl, rfl, trivial⟩ (fun hh => hh)⟩
  · have hlt : ¬ i < S.free := by simpa using h12
    refine g_exit (g_seq (g_seq (g_draw Tryz.mixed (by kernel_rfl) (by kernel_rfl) ?_)))
    refine kQm rfl rfl ?_
    first | refine kQv (ev_nil rfl) rfl ?_ | refine kQv (ev_nilf rfl) rfl ?_
    refine kQv (ev_fa (m := _) fa_191_5 rfl rfl) rfl (kQv (ev_load Tryz.isAgg3 rfl rfl) rfl (kQm rfl rfl ?_))
    first | refine kQv (ev_nil rfl) rfl ?_ | refine kQv (ev_nilf rfl) rfl ?_
    refine kQv (ev_fa (m := _) fa_191_3 rfl rfl) rfl (kQv (ev_load Tryz.isAgg3 rfl rfl) rfl (kQv (ev_cmp rfl rfl rfl) rfl (q_nil (go_sb [29, 0] rfl ?_))))
    refine g_if rfl (fun h29 => ?_) (fun h29 => ?_)
    · have hgt : S.to_ < S.free := by simpa using h29
      refine g_region (kPm rfl rfl ?_)
      first | refine kPv (ev_nil rfl) rfl ?_ | refine kPv (ev_nilf rfl) rfl ?_
      refine kPv (ev_fa (m := _) fa_191_0 rfl rfl) rfl (kPv (ev_load Tryz.isAgg28 rfl rfl) rfl ?_)
      refine p_call rfl (en_f Tryz.call127 rfl) (up_at (fun Fr => nfence_ok _ Fr _ _)) .free rfl rfl ?_ ?_
      rotate_left
      · rintro _ _ ⟨s9, ⟨hm9, rfl⟩, rfl⟩
        exact pan_fn fun w hh => ⟨_, ⟨s9, by unfold ColS.keep; rw [hinv, keepN_succ, if_neg hlt]; simp only [then_ok]; rw [if_pos hgt]; exact hm9, rfl, rfl⟩, (hh.dp [0, 0, 0, 0])⟩
      rintro _ _ ⟨s2, ⟨e2, hm2, rfl⟩, rfl⟩
      refine p_nil (g_region (kPm rfl rfl ?_))
      first | refine kPv (ev_nil rfl) rfl ?_ | refine kPv (ev_nilf rfl) rfl ?_
      refine kPv (ev_fa (m := _) fa_191_8 rfl rfl) rfl (p_chg0 rfl (ch_store Tryz.sizeOf4 rfl rfl rfl rfl) .free rfl ?_)
      rintro _ _ rfl
      refine p_nil (go_sb [] rfl ?_)
      exact end_none Tryz.results159 (fun w hh => ⟨_, ⟨(), _, by unfold ColS.keep; rw [hinv, keepN_succ, if_neg hlt]; simp only [then_ok]; rw [if_pos hgt]; exact hm2, rfl, rfl⟩, col_holds (S := { S with done := true }) hrsv htsv hh⟩)
    · have hgt : ¬ S.to_ < S.free := by simpa using h29
      refine g_skip (g_region (kPm rfl rfl ?_))
      first | refine kPv (ev_nil rfl) rfl ?_ | refine kPv (ev_nilf rfl) rfl ?_
      refine kPv (ev_fa (m := _) fa_191_8 rfl rfl) rfl (p_chg0 rfl (ch_store Tryz.sizeOf4 rfl rfl rfl rfl) .free rfl ?_)
      rintro _ _ rfl
      refine p_nil ?_
      exact end_none Tryz.results159 (fun w hh => ⟨_, ⟨(), _, by unfold ColS.keep; rw [hinv, keepN_succ, if_neg hlt]; simp only [then_ok]; rw [if_neg hgt], rfl, rfl⟩, col_holds (S := { S with done := true }) hrsv htsv hh⟩)
theorem cwent_ok (B : World) (Fr : List HP) (x : Nat) (S : ColS) (v : Int) :
    ∀ w, Holds B (ColA x S :: Fr) w → Calls Tryz.prog 144 [ptr x, w64 v].toArray w (PureR B (ColA x S :: Fr) (i64 ((mget S.went v).getD 0))) := by
  refine fn_enter Tryz.func144 rfl Tryz.ntmps144 rfl (go_col fun rsv tsv mw hrsv htsv => (g_seq (g_region (kPa rfl rfl (p_nil (g_seq (g_region (kPm rfl rfl ?_))))))))
  first | refine kPv (ev_nil rfl) rfl ?_ | refine kPv (ev_nilf rfl) rfl ?_
  refine kPv (ev_fa (m := _) fa_191_7 rfl rfl) rfl (kPv (ev_load Tryz.isAgg189 rfl rfl) rfl (kPm rfl rfl (kPv ((ev_lookup1 Tryz.runUnderlying189 Tryz.runUnderlying26 Tryz.zeroValue3 rfl rfl).eq (mval_i _)) rfl (kPa rfl rfl (p_nil (go_sb [4] rfl (g_ret ?_)))))))
  exact ret_tmp Tryz.results144 rfl (fun w hh => ⟨rfl, col_holds hrsv htsv hh⟩)
theorem cstep_ok (B : World) (Fr : List HP) (x : Nat) (S : ColS) (hS : ColW S) (s : Dev) (hu : U64 s) :
    ∀ w, Holds B (ColA x S :: DevA S.bd s :: Fr) w → Calls Tryz.prog 99 [ptr x].toArray w (Ret B (fun rv H' => ∃ r s', S.step s = .ok r s' ∧ rv = .bool r.1 ∧ H' = ColA x r.2 :: DevA S.bd s' :: Fr) (fun c H' => ∃ s', S.step s = .off s' ∧ c = offc ∧ H' = DevA S.bd s' :: Fr)) := by
  refine fn_enter Tryz.func99 rfl Tryz.ntmps99 rfl (go_col fun rsv tsv mw hrsv htsv => ?_)
  have hfb := hS.fb
  have hfr := hS.free
  have hto := hS.to_
  have hscan := hS.scan
  have hub := unp_b (s.load S.scan)
  refine g_seq (g_region (kPa rfl rfl (p_nil (g_seq (g_block (g_seq (g_region (kPm rfl rfl ?_))))))))
  first | refine kPv (ev_nil rfl) rfl ?_ | refine kPv (ev_nilf rfl) rfl ?_
  refine kPv (ev_fa (m := _) fa_191_8 rfl rfl) rfl (kPv (ev_load Tryz.isAgg4 rfl rfl) rfl (kPa rfl rfl (p_nil ?_)))
  refine g_if rfl (fun h9 => ?_) (fun h9 => ?_)
  · have hdone : S.done = true := h9
    have hres : S.step s = .ok (true, S) s := by unfold ColS.step; rw [if_pos hdone]
    refine g_skip (g_seq (g_region (kPm rfl rfl ?_)))
    first | refine kPv (ev_nil rfl) rfl ?_ | refine kPv (ev_nilf rfl) rfl ?_
    refine kPv (ev_fa (m := _) fa_191_8 rfl rfl) rfl (kPv (ev_load Tryz.isAgg4 rfl rfl) rfl (kPa rfl rfl (p_nil (go_sb [2] rfl (g_ret ?_)))))
    exact ret_tmp Tryz.results99 rfl (fun w hh => ⟨_, ⟨_, _, hres, by rw [hdone], rfl⟩, col_holds hrsv htsv hh⟩)
  · have hdone : S.done = false := h9
    refine go_pk [2] (go_vecq fun qt ct hqt hqi => ?_)
    subst hqt
    refine go_pk [1, 1, 0, 0] (g_seq (g_region (kPm rfl rfl ?_)))
    first | refine kPv (ev_nil rfl) rfl ?_ | refine kPv (ev_nilf rfl) rfl ?_
    refine kPv (ev_fa (m := _) fa_191_6 rfl rfl) rfl (kPv (ev_load Tryz.isAgg25 rfl rfl) rfl (kPv (ev_len rfl Tryz.runUnderlying25 ⟨_, rfl⟩ rfl) rfl (kPv (ev_cmp rfl rfl rfl) rfl (kPa rfl rfl (p_nil (go_sb [14, 2, 0] rfl ?_))))))
    refine g_if rfl (fun h14 => ?_) (fun h14 => ?_)
    · obtain ⟨v, t, htd⟩ : ∃ v t, S.todo = v :: t := by
        cases ht : S.todo with
        | nil => rw [ht] at h14; simp at h14
        | cons v t => exact ⟨v, t, rfl⟩
      obtain ⟨bq, oq, rfl⟩ := hqi 0 (by rw [htd]; exact Nat.succ_pos _)
      refine g_seq (g_region (kPm rfl rfl (kPm rfl rfl ?_)))
      first | refine kPv (ev_nil rfl) rfl ?_ | refine kPv (ev_nilf rfl) rfl ?_
      refine kPv (ev_fa (m := _) fa_191_6 rfl rfl) rfl (kPv (ev_load Tryz.isAgg25 rfl rfl) rfl (kPv (ev_iaS Tryz.runUnderlying25 Tryz.sizeOf26 rfl rfl (by decide) (by rw [htd]; simp only [List.length_cons]; omega)) rfl (kPv (ev_loadS (v := w64 v) Tryz.isAgg26 (vec_slr 2 rfl) rfl (by rw [htd]; rfl)) rfl (go_conv (fun w hh => col_holds hrsv htsv hh) ?_))))
      refine p_call rfl (en_f Tryz.call157 rfl) (ccopied_ok B _ x S hS s hu v (hS.todo _ (by rw [htd]; exact List.mem_cons_self ..))) .free rfl rfl ?_ ?_
      rotate_left
      · rintro _ _ ⟨s9, hm9, rfl, rfl⟩
        exact pan_fn fun w hh => ⟨_, ⟨s9, by unfold ColS.step; rw [if_neg (by rw [hdone]; decide)]; simp only [htd]; rw [hm9]; rfl, rfl, rfl⟩, hh⟩
      rintro _ _ ⟨r1, s1, hm1, rfl, rfl⟩
      obtain ⟨hS1, hrv1, hsc1, htd1, hdn1, hb1, hbd1, hc1, hto1, hfr1, hms1⟩ := copied_w hS hm1
      have hu1 := (copied_u64 hu hm1).1
      refine p_nil (go_sb [2, 0] rfl (g_region (go_col fun rsv2 tsv2 mw2 hrsv2 htsv2 => (kPm rfl rfl (kPm rfl rfl ?_)))))
      first | refine kPv (ev_nil rfl) rfl ?_ | refine kPv (ev_nilf rfl) rfl ?_
      refine kPv (ev_fa (m := _) fa_191_6 rfl rfl) rfl (go_pk [2] (go_conv (H' := VecU 0 (tsv2, v :: t) :: _) (fun w hh => by rw [htd1, htd] at hh; exact hh) (kPv (ev_load Tryz.isAgg25 rfl rfl) rfl (p_chg rfl (ch_tail_vec (v := v) (xs := t) Tryz.runUnderlying25 Tryz.sizeOf26 rfl rfl) .free rfl rfl ?_))))
      rintro tv3 _ ⟨htv3, rfl⟩
      refine go_pk [1, 1] ?_
      first | refine kPv (ev_nil rfl) rfl ?_ | refine kPv (ev_nilf rfl) rfl ?_
      refine kPv (ev_fa (m := _) fa_191_6 rfl rfl) rfl ?_
      refine p_chg0 rfl (ch_store Tryz.sizeOf25 rfl rfl (by first | rfl | assumption) rfl) .free rfl ?_
      rintro _ _ rfl
      refine p_nil (go_sb [2, 0] rfl (g_seq (g_region (kPm rfl rfl ?_))))
      first | refine kPv (ev_nil rfl) rfl ?_ | refine kPv (ev_nilf rfl) rfl ?_
      refine kPv (ev_fa (m := _) fa_191_8 rfl rfl) rfl (kPv (ev_load Tryz.isAgg4 rfl rfl) rfl (kPa rfl rfl (p_nil (g_ret ?_))))
      exact ret_tmp Tryz.results99 rfl (fun w hh => ⟨_, ⟨_, _, by unfold ColS.step; rw [if_neg (by rw [hdone]; decide)]; simp only [htd]; rw [hm1]; rfl, by rw [hdn1, hdone], rfl⟩, col_holds (S := { r1.2 with todo := t }) hrsv2 htv3 hh⟩)
    · have htd : S.todo = [] := by
        cases ht : S.todo with
        | nil => rfl
        | cons v t => rw [ht] at h14; simp at h14 <;> omega
      refine g_seq (g_draw Tryz.mixed (by kernel_rfl) (by kernel_rfl) ?_)
      refine kQm rfl rfl ?_
      first | refine kQv (ev_nil rfl) rfl ?_ | refine kQv (ev_nilf rfl) rfl ?_
      refine kQv (ev_fa (m := _) fa_191_4 rfl rfl) rfl (kQv (ev_load Tryz.isAgg3 rfl rfl) rfl (kQm rfl rfl ?_))
      first | refine kQv (ev_nil rfl) rfl ?_ | refine kQv (ev_nilf rfl) rfl ?_
      refine kQv (ev_fa (m := _) fa_191_5 rfl rfl) rfl (kQv (ev_load Tryz.isAgg3 rfl rfl) rfl (kQv (ev_cmp rfl rfl rfl) rfl (kQa rfl rfl (q_nil (go_sb [37, 2, 0] rfl ?_)))))
      refine g_if rfl (fun h37 => ?_) (fun h37 => ?_)
      · have hlt : S.scan < S.free := by simpa using h37
        have hstep : S.step s = (refsN (unp (s.load S.scan)).2.1.toNat 0 S s).then fun S' s' => .ok (false, { S' with scan := S'.scan + ((unp (s.load S.scan)).1 + 1) }) s' := by unfold ColS.step; rw [if_neg (by rw [hdone]; decide)]; simp only [htd]; rw [if_pos hlt]
        refine g_seq ?_
        refine g_drawT (.br [0, 1, 2, 3, 4, 5, 6, 7] 8 (.br [] 9 (.fin [10, 11, 12, 13, 14, 15]) 13 (.fin [9, 10, 11, 12, 14, 15])) 13 (.fin [8, 9, 10, 11, 12, 14, 15])) [8, 9, 13, 14] [0, 1, 2, 3, 4, 5, 6, 7, 10, 11, 12] [13, 14] [row x (colRow S rsv (.slice qt S.todo.length ct) mw) 191] [2, 0] (G := Nat) (fun b3 => [(3, ptr b3), (4, .bool (unp (s.load S.scan)).2.2)]) (fun b3 => row b3 [i64 (unp (s.load S.scan)).1, i64 (unp (s.load S.scan)).2.1] 38 :: row x (colRow S rsv (.slice qt S.todo.length ct) mw) 191 :: VecU 0 (rsv, S.b.rts) :: VecU 0 (.slice qt S.todo.length ct, S.todo) :: mapA .u64 i64 mw S.went :: DevA S.bd s :: Fr) Tryz.mixed (by kernel_rfl) ?_ ?_
        · skip
          refine t_br (v_hoist rfl rfl rfl (ev_move rfl) .free rfl ?_)
          first | refine v_hoist rfl rfl rfl (ev_nil rfl) .free rfl ?_ | refine v_hoist rfl rfl rfl (ev_nilf rfl) .free rfl ?_
          refine v_hoist rfl rfl rfl (ev_fa (m := _) fa_191_0 rfl rfl) .free rfl (v_hoist rfl rfl rfl (ev_load Tryz.isAgg28 rfl rfl) .free rfl (v_hoist rfl rfl rfl (ev_move rfl) .free rfl ?_))
          first | refine v_hoist rfl rfl rfl (ev_nil rfl) .free rfl ?_ | refine v_hoist rfl rfl rfl (ev_nilf rfl) .free rfl ?_
          refine v_hoist rfl rfl rfl (ev_fa (m := _) fa_191_4 rfl rfl) .free rfl (v_hoist rfl rfl rfl (ev_load Tryz.isAgg3 rfl rfl) .free rfl (v_nil ?_))
          refine t_two rfl rfl ?_ ?_
          · skip
            refine p_callq rfl (en_f Tryz.call71 rfl) (ro_at (q := DevA) (fun Fr => nload_ok _ Fr _ _ _)) .free rfl rfl ?_
            refine p_nil (t_off rfl (t_br (v_nil ?_)))
            refine t_two rfl rfl ?_ ?_
            · skip
              refine p_callq rfl (en_f Tryz.call158 rfl) (unpack_ok _ _ _) .free rfl rfl ?_
              refine p_nil (t_off rfl (t_fin (v_hoist rfl rfl rfl (ev_move rfl) .free rfl (v_hoist rfl rfl rfl (ev_ext rfl rfl) .free rfl (v_hoist rfl rfl rfl (ev_ext rfl rfl) .free rfl (v_mark rfl rfl (p_chg rfl (ch_allocA Tryz.zeroValue38 rfl) .free rfl rfl ?_)))))))
              rintro _ _ ⟨b3, rfl, rfl⟩
              refine p_nil (v_on (v_mark rfl rfl (p_chg0 rfl (ch_storeA (vs := _) Tryz.sizeOf38 rfl rfl rfl rfl rfl) .free rfl ?_)))
              rintro _ _ rfl
              refine p_nil (v_on (v_val rfl rfl rfl (ev_assign rfl) .free rfl (v_nil ?_)))
              exact fun a w st_ => ⟨b3, st_.to (sub_r rfl) (fun hh => hh)⟩
            · skip
              refine p_chg rfl (ch_allocA Tryz.zeroValue38 rfl) .free rfl rfl ?_
              rintro _ _ ⟨b3, rfl, rfl⟩
              refine p_nil (t_on (t_fin (v_mark rfl rfl (p_callq rfl (en_f Tryz.call158 rfl) (unpack_ok _ _ _) .free rfl rfl ?_))))
              refine p_nil (v_off rfl (v_hoist rfl rfl rfl (ev_move rfl) .free rfl (v_hoist rfl rfl rfl (ev_ext rfl rfl) .free rfl (v_hoist rfl rfl rfl (ev_ext rfl rfl) .free rfl (v_mark rfl rfl (p_chg0 rfl (ch_storeA (vs := _) Tryz.sizeOf38 rfl rfl rfl rfl rfl) .free rfl ?_))))))
              rintro _ _ rfl
              refine p_nil (v_on (v_val rfl rfl rfl (ev_assign rfl) .free rfl (v_nil ?_)))
              exact fun a w st_ => ⟨b3, st_.to (sub_r rfl) (fun hh => hh)⟩
          · skip
            refine p_chg rfl (ch_allocA Tryz.zeroValue38 rfl) .free rfl rfl ?_
            rintro _ _ ⟨b3, rfl, rfl⟩
            refine p_nil (t_on (t_fin (v_mark rfl rfl (p_callq rfl (en_f Tryz.call71 rfl) (ro_at (q := DevA) (fun Fr => nload_ok _ Fr _ _ _)) .free rfl rfl ?_))))
            refine p_nil (v_off rfl (v_mark rfl rfl (p_callq rfl (en_f Tryz.call158 rfl) (unpack_ok _ _ _) .free rfl rfl ?_)))
            refine p_nil (v_off rfl (v_hoist rfl rfl rfl (ev_move rfl) .free rfl (v_hoist rfl rfl rfl (ev_ext rfl rfl) .free rfl (v_hoist rfl rfl rfl (ev_ext rfl rfl) .free rfl (v_mark rfl rfl (p_chg0 rfl (ch_storeA (vs := _) Tryz.sizeOf38 rfl rfl rfl rfl rfl) .free rfl ?_))))))
            rintro _ _ rfl
            refine p_nil (v_on (v_val rfl rfl rfl (ev_assign rfl) .free rfl (v_nil ?_)))
            exact fun a w st_ => ⟨b3, st_.to (sub_r rfl) (fun hh => hh)⟩
        intro b3
        refine go_sub (σ' := [(3, ptr b3), (4, .bool (unp (s.load S.scan)).2.2), (2, _), (0, _)]) (sub_r rfl) (g_seq (g_seq (go_pk [1, 1, 1, 1] (go_conv (fun w hh => col_holds hrsv htsv hh) (g_region (kPv (ev_fa (m := _) fa_38_1 rfl rfl) rfl (kPv (ev_load Tryz.isAgg3 rfl rfl) rfl (kPm rfl rfl (p_nil (g_block ?_))))))))))
        refine g_loopk (ι := Nat × ColS × Dev) [61, 3, 2, 0] (fun (i, SI, sI) => ((i : Int) ≤ (unp (s.load S.scan)).2.1) ∧ (ColW SI) ∧ (U64 sI) ∧ (SI.todo = []) ∧ (SI.done = S.done) ∧ (SI.bd = S.bd) ∧ (SI.scan = S.scan) ∧ (refsN (unp (s.load S.scan)).2.1.toNat 0 S s = refsN ((unp (s.load S.scan)).2.1.toNat - i) i SI sI)) (fun (i, SI, sI) => [(62, i64 i)]) (fun (i, SI, sI) => row b3 [i64 (unp (s.load S.scan)).1, i64 (unp (s.load S.scan)).2.1] 38 :: ColA x SI :: DevA SI.bd sI :: Fr) (fun (i, SI, sI) => (unp (s.load S.scan)).2.1.toNat - i) (0, S, s) (⟨by first | omega | (simp only; omega), hS, hu, htd, rfl, rfl, rfl, rfl⟩) (fun a w st => st.to ⟨rfl, trivial⟩ (fun hh => (hh.pk [1]))) ?_
        rintro ⟨i, SI, sI⟩ ⟨hi0, hSI, huI, htdI, hdI, hbdI, hscI0, hinv⟩
        try simp only at hi0 hSI huI htdI hdI hbdI hscI0 hinv ⊢
        refine go_sub (σ' := [(62, i64 i), (61, _), (3, _), (2, _), (0, _)]) (sub_r rfl) (g_seq (g_region (kPv (ev_cmp rfl rfl rfl) rfl (p_nil (g_seq ?_)))))
        refine g_if rfl (fun h63 => ?_) (fun h63 => ?_)
        · have hi : (i : Int) < (unp (s.load S.scan)).2.1 := by simpa using h63
          have hscI := hSI.scan
          refine g_skip (g_seq (g_block (g_seq (g_region (kPm rfl rfl (kPa rfl rfl (p_nil (g_seq (go_pk [1] (go_col fun rsv2 tsv2 mw2 hrsv2 htsv2 => (g_draw Tryz.mixed (by kernel_rfl) (by kernel_rfl) ?_)))))))))))
          refine kQm rfl rfl ?_
          first | refine kQv (ev_nil rfl) rfl ?_ | refine kQv (ev_nilf rfl) rfl ?_
          refine kQv (ev_fa (m := _) fa_191_0 rfl rfl) rfl (kQv (ev_load Tryz.isAgg28 rfl rfl) rfl (kQm rfl rfl ?_))
          first | refine kQv (ev_nil rfl) rfl ?_ | refine kQv (ev_nilf rfl) rfl ?_
          refine kQv (ev_fa (m := _) fa_191_4 rfl rfl) rfl (kQv (ev_load Tryz.isAgg3 rfl rfl) rfl ?_)
          first | refine q_val rfl (ev_add rfl rfl (wr64 (by omega))) .free rfl ?_ | refine q_val rfl (ev_add rfl rfl rfl) .free rfl ?_
          refine kQm rfl rfl ?_
          first | refine q_val rfl (ev_add rfl rfl (wr64 (by omega))) .free rfl ?_ | refine q_val rfl (ev_add rfl rfl rfl) .free rfl ?_
          refine q_call rfl (en_f Tryz.call71 rfl) (ro_at (q := DevA) (fun Fr => nload_ok _ Fr _ _ _)) .free rfl ?_
          refine kQa rfl rfl (q_nil (go_sb [6, 5, 62, 61, 3, 2, 0] rfl (g_seq (go_conv (fun w hh => col_holds hrsv2 htsv2 hh) (g_region (kPm rfl rfl (kPv (ev_cmp rfl rfl rfl) rfl (p_nil ?_))))))))
          refine g_if rfl (fun h78 => ?_) (fun h78 => ?_)
          · have hne : ¬ sI.load (SI.scan + 1 + i) = 0 := by simpa using h78
            refine go_pk [0, 1] (go_conv (fun w hh => hh) (g_drawv [0, 1, 2, 3, 4, 5, 6, 7, 8, 9, 10, 11, 12, 13, 14, 15] [13, 15] [0, 1, 2, 3, 4, 5, 6, 7, 8, 9, 10] [13] [ColF x SI.bd SI.scan] Tryz.mixed (by kernel_rfl) ?_))
            refine v_hoist rfl rfl rfl (ev_move rfl) .free rfl ?_
            first | refine v_hoist rfl rfl rfl (ev_nil rfl) .free rfl ?_ | refine v_hoist rfl rfl rfl (ev_nilf rfl) .free rfl ?_
            refine v_hoist rfl rfl rfl (ev_fa (m := _) fa_191_0 rfl rfl) .free rfl (v_hoist rfl rfl rfl (ev_hex fun y => ev_load Tryz.isAgg28 rfl rfl) .free rfl (v_hoist rfl rfl rfl (ev_move rfl) .free rfl ?_))
            first | refine v_hoist rfl rfl rfl (ev_nil rfl) .free rfl ?_ | refine v_hoist rfl rfl rfl (ev_nilf rfl) .free rfl ?_
            refine v_hoist rfl rfl rfl (ev_fa (m := _) fa_191_4 rfl rfl) .free rfl (v_hoist rfl rfl rfl (ev_hex fun y => ev_load Tryz.isAgg3 rfl rfl) .free rfl ?_)
            first | refine v_hoist rfl rfl rfl (ev_add rfl rfl (wr64 (by omega))) .free rfl ?_ | refine v_hoist rfl rfl rfl (ev_add rfl rfl rfl) .free rfl ?_
            refine v_hoist rfl rfl rfl (ev_move rfl) .free rfl ?_
            first | refine v_hoist rfl rfl rfl (ev_add rfl rfl (wr64 (by omega))) .free rfl ?_ | refine v_hoist rfl rfl rfl (ev_add rfl rfl rfl) .free rfl ?_
            refine v_val rfl rfl rfl (ev_move rfl) .free rfl (v_val rfl rfl rfl (ev_move rfl) .free rfl (v_mark rfl rfl ?_))
            refine p_call rfl (en_f Tryz.call157 rfl) (ccopied_ok B _ x SI hSI sI huI (sI.load (SI.scan + 1 + i)) (huI.load _)) .free rfl rfl ?_ ?_
            rotate_left
            · rintro _ _ ⟨s9, hm9, rfl, rfl⟩
              exact pan_fn fun w hh => ⟨_, ⟨s9, by rw [hstep, hinv, show (unp (s.load S.scan)).2.1.toNat - i = ((unp (s.load S.scan)).2.1.toNat - (i + 1)) + 1 by omega, refsN_succ, if_neg hne, hm9]; rfl, rfl, rfl⟩, by rw [← hbdI]; exact hh.dp [1]⟩
            rintro _ _ ⟨r2, s2, hm2, rfl, rfl⟩
            obtain ⟨hS2, hrv2, hsc2, htd2, hdn2, hb2, hbd2, hc2, hto2, hfr2, hms2⟩ := copied_w hSI hm2
            have hu2 := (copied_u64 huI hm2).1
            refine p_nil (go_colf (fun w hh => by have h5 := col_f hh; rw [hbd2, hsc2] at h5; exact h5) (v_val rfl rfl rfl (ev_conv Tryz.runUnderlying3 Tryz.runUnderlying26 rfl (wru64 (by omega))) .free rfl (v_mark rfl rfl ?_)))
            refine p_call rfl (en_f Tryz.call120 rfl) (up_at (fun Fr => nstore_ok _ Fr _ _ _ _)) .free rfl rfl ?_ ?_
            rotate_left
            · rintro _ _ ⟨s9, ⟨hm9, rfl⟩, rfl⟩
              exact pan_fn fun w hh => ⟨_, ⟨s9, by rw [hstep, hinv, show (unp (s.load S.scan)).2.1.toNat - i = ((unp (s.load S.scan)).2.1.toNat - (i + 1)) + 1 by omega, refsN_succ, if_neg hne, hm2]; simp only [then_ok]; rw [hm9]; rfl, rfl, rfl⟩, by rw [← hbdI]; exact (hh.dp [0, 1])⟩
            rintro _ _ ⟨s3, ⟨e3, hm3, rfl⟩, rfl⟩
            refine p_nil (v_off rfl (v_nil (go_sb [62, 61, 3, 2, 0] rfl (g_region ?_))))
            first | refine p_val rfl (ev_add rfl rfl (wr64 (by omega))) .free rfl rfl ?_ | refine p_val rfl (ev_add rfl rfl rfl) .free rfl rfl ?_
            refine kPm rfl rfl (p_nil ?_)
            exact fun a w st_ => ⟨(i + 1, r2.2, s3), ⟨by first | omega | (simp only; omega), hS2, (store_u64 hu2 (by omega) hm3).1, htd2.trans htdI, hdn2.trans hdI, hbd2.trans hbdI, hsc2.trans hscI0, by rw [hinv, show (unp (s.load S.scan)).2.1.toNat - i = ((unp (s.load S.scan)).2.1.toNat - (i + 1)) + 1 by omega, refsN_succ, if_neg hne, hm2]; simp only [then_ok]; rw [hm3]; rfl⟩, by first | omega | (simp only; omega), st_.to (sub_r rfl) (fun hh => (by first | exact (hh.pk [2]) | (simp only [hbd2]; exact (hh.pk [2]))))⟩
          · have hne : sI.load (SI.scan + 1 + i) = 0 := by simpa using h78
            refine g_skip (g_region ?_)
            first | refine p_val rfl (ev_add rfl rfl (wr64 (by omega))) .free rfl rfl ?_ | refine p_val rfl (ev_add rfl rfl rfl) .free rfl rfl ?_
            refine kPm rfl rfl (p_nil ?_)
            exact fun a w st_ => ⟨(i + 1, SI, sI), ⟨by first | omega | (simp only; omega), hSI, huI, htdI, hdI, hbdI, hscI0, by rw [hinv, show (unp (s.load S.scan)).2.1.toNat - i = ((unp (s.load S.scan)).2.1.toNat - (i + 1)) + 1 by omega, refsN_succ, if_pos hne]; rfl⟩, by first | omega | (simp only; omega), st_.to (sub_r rfl) (fun hh => (by first | exact (hh.pk [1]) | (simp only [hbd2]; exact (hh.pk [1]))))⟩
        · have hi : ¬ (i : Int) < (unp (s.load S.scan)).2.1 := by simpa using h63
          have hscI := hSI.scan
          refine g_exit (go_pk [1] (go_col fun rsv3 tsv3 mw3 hrsv3 htsv3 => (g_drawt 9 Tryz.mixed (by kernel_rfl) (by kernel_rfl) ?_)))
          refine kQm rfl rfl ?_
          first | refine kQv (ev_nil rfl) rfl ?_ | refine kQv (ev_nilf rfl) rfl ?_
          refine kQv (ev_fa (m := _) fa_191_4 rfl rfl) rfl (kQv (ev_load Tryz.isAgg3 rfl rfl) rfl (kQv (ev_loadA Tryz.isAgg38 Tryz.sizeOf38 rfl rfl) rfl ?_))
          refine q_call rfl (en_f Tryz.call114 rfl) (hsize_ok _ _ _ _ (by omega)) .free rfl ?_
          first | refine q_val rfl (ev_add rfl rfl (wr64 (by omega))) .free rfl ?_ | refine q_val rfl (ev_add rfl rfl rfl) .free rfl ?_
          first | refine kQv (ev_nil rfl) rfl ?_ | refine kQv (ev_nilf rfl) rfl ?_
          refine kQv (ev_fa (m := _) fa_191_4 rfl rfl) rfl (q_nil (p_chg0 rfl (ch_store Tryz.sizeOf3 rfl rfl rfl rfl) .free rfl ?_))
          rintro _ _ rfl
          refine p_nil (go_sb [2, 0] rfl (g_seq (g_region (kPm rfl rfl ?_))))
          first | refine kPv (ev_nil rfl) rfl ?_ | refine kPv (ev_nilf rfl) rfl ?_
          refine kPv (ev_fa (m := _) fa_191_8 rfl rfl) rfl (kPv (ev_load Tryz.isAgg4 rfl rfl) rfl (kPa rfl rfl (p_nil (g_ret ?_))))
          exact ret_tmp Tryz.results99 rfl (fun w hh => ⟨_, ⟨_, _, by rw [hstep, hinv, show (unp (s.load S.scan)).2.1.toNat - i = 0 by omega]; rfl, by rw [hdI, hdone], rfl⟩, by rw [← hbdI]; exact col_holds (S := { SI with scan := SI.scan + ((unp (s.load S.scan)).1 + 1) }) hrsv3 htsv3 (hh.dp [4])⟩)
      · have hlt : ¬ S.scan < S.free := by simpa using h37
        refine go_conv (fun w hh => col_holds hrsv htsv hh) (g_region (kPm rfl rfl ?_))
        refine p_call rfl (en_f Tryz.call159 rfl) (ckeep_ok B _ x S hS s hu) .free rfl rfl ?_ ?_
        rotate_left
        · rintro _ _ ⟨s9, hm9, rfl, rfl⟩
          exact pan_fn fun w hh => ⟨_, ⟨s9, by unfold ColS.step; rw [if_neg (by rw [hdone]; decide)]; simp only [htd]; rw [if_neg hlt, hm9]; rfl, rfl, rfl⟩, hh⟩
        rintro _ _ ⟨r1, s1, hm1, rfl, rfl⟩
        refine go_col fun rsv4 tsv4 mw4 hrsv4 htsv4 => (p_nil (g_seq (g_region (kPm rfl rfl ?_))))
        first | refine kPv (ev_nil rfl) rfl ?_ | refine kPv (ev_nilf rfl) rfl ?_
        refine kPv (ev_fa (m := _) fa_191_8 rfl rfl) rfl (kPv (ev_load Tryz.isAgg4 rfl rfl) rfl (kPa rfl rfl (p_nil (go_sb [2] rfl (g_ret ?_)))))
        exact ret_tmp Tryz.results99 rfl (fun w hh => ⟨_, ⟨(true, { S with done := true }), s1, by unfold ColS.step; rw [if_neg (by rw [hdone]; decide)]; simp only [htd]; rw [if_neg hlt, hm1]; rfl, rfl, rfl⟩, col_holds (S := { S with done := true }) hrsv4 htsv4 hh⟩)
end Go.Proofs.YtlcibdhmgclfjaaGreat
namespace Go.Proofs.YtlcibdhmgclfjaaGreat
open Go
theorem runN_w : ∀ (f : Nat) (S S' : ColS) (s s' : Dev), ColW S → U64 s → runN f S s = .ok S' s' → ColW S' ∧ U64 s' ∧ S'.b = S.b ∧ S'.bd = S.bd ∧ S'.c = S.c ∧ S'.to_ = S.to_
  | 0, S, S', s, s', h, hu, e => by cases e; exact ⟨h, hu, rfl, rfl, rfl, rfl⟩
  | f + 1, S, S', s, s', h, hu, e => by
    rw [runN_succ] at e
    obtain ⟨r, s1, e1, e⟩ := then_inv e
    obtain ⟨h1, u1, g1, g2, g3, g4, _⟩ := step_w h hu e1
    split at e
    · cases e; exact ⟨h1, u1, g1, g2, g3, g4⟩
    · obtain ⟨k1, k2, k3, k4, k5, k6⟩ := runN_w f _ _ _ _ h1 u1 e
      exact ⟨k1, k2, k3.trans g1, k4.trans g2, k5.trans g3, k6.trans g4⟩
theorem map_take_succ {α β : Type} {f : α → β} {l : List α} {k : Nat} (hk : k < l.length) : (l.take (k + 1)).map f = (l.take k).map f ++ [f l[k]] := by
  rw [List.take_succ_eq_append_getElem hk, List.map_append]; rfl
theorem newCol_w {bd : Nat} {c : Cfg} {b : Blk} {ws : List Int} (hc : CfgW c) (hb : BlkW c b) (hl : b.rts.length ≤ 16) (hr : ∀ v ∈ b.rts, 0 ≤ v ∧ v < 18446744073709551616) (hw : ∀ v ∈ ws, 0 ≤ v ∧ v < 18446744073709551616) : ColW (newCol bd c b ws) := by
  have h1 := hb.act
  have h2 := frm_b hc (k := 1 - b.act) (by omega)
  have h3 := hc.s1
  have h4 : 0 ≤ c.frm (1 - b.act) ∧ c.frm (1 - b.act) ≤ 20000 := by omega
  exact ⟨hc, hb, hl, h4, ⟨Int.le_refl _, by unfold newCol; simp only; omega⟩, ⟨Int.le_refl _, by simp [newCol]⟩, List.nodup_nil, fun _ h => (by cases h), fun _ h => (by cases h), hw, hr⟩
theorem crun_ok (B : World) (Fr : List HP) (x : Nat) (S : ColS) (hS : ColW S) (s : Dev) (hu : U64 s) :
    ∀ w, Holds B (ColA x S :: DevA S.bd s :: Fr) w → Calls Tryz.prog 80 [ptr x].toArray w (Ret B (fun rv H' => ∃ r s', S.run s = .ok r s' ∧ rv = .tuple #[] ∧ H' = ColA x r :: DevA S.bd s' :: Fr) (fun c H' => ∃ s', S.run s = .off s' ∧ c = offc ∧ H' = DevA S.bd s' :: Fr)) := by
  refine fn_enter Tryz.func80 rfl Tryz.ntmps80 rfl (g_block (g_loopk (ι := Nat × ColS × Dev) [0] (fun (n, SI, sI) => (SI.meas < n) ∧ (ColW SI) ∧ (U64 sI) ∧ (SI.bd = S.bd) ∧ (runN (S.meas + 1) S s = runN n SI sI)) (fun (n, SI, sI) => []) (fun (n, SI, sI) => ColA x SI :: DevA SI.bd sI :: Fr) (fun (n, SI, sI) => n) (S.meas + 1, S, s) (⟨Nat.lt_succ_self _, hS, hu, rfl, rfl⟩) (fun a w st => st.to trivial (fun hh => hh)) ?_))
  rintro ⟨n, SI, sI⟩ ⟨hn, hSI, huI, hbdI, hinv⟩
  try simp only at hn hSI huI hbdI hinv ⊢
  refine go_sub (σ' := [(0, _)]) ⟨rfl, trivial⟩ (g_seq (g_seq (g_region (kPm rfl rfl ?_))))
  refine p_call rfl (en_f Tryz.call99 rfl) (cstep_ok B _ x SI hSI sI huI) .free rfl rfl ?_ ?_
  rotate_left
  · rintro _ _ ⟨s9, hm9, rfl, rfl⟩
    exact pan_fn fun w hh => ⟨_, ⟨s9, by unfold ColS.run; rw [hinv, show n = n - 1 + 1 by omega, runN_succ, hm9]; rfl, rfl, rfl⟩, by rw [← hbdI]; exact hh⟩
  rintro _ _ ⟨r1, s1, hm1, rfl, rfl⟩
  obtain ⟨hS1, hu1, hb1, hbd1, hc1, hto1, hr1, hms1⟩ := step_w hSI huI hm1
  refine kPv (ev_not rfl) rfl (p_nil ?_)
  refine g_if rfl (fun h4 => ?_) (fun h4 => ?_)
  · have hg : r1.1 = false := by simpa using h4
    refine g_skip (g_block (g_skip ?_))
    exact fun a w st_ => ⟨(n - 1, r1.2, s1), ⟨by have := hms1 hg; first | omega | (simp only; omega), hS1, hu1, hbd1.trans hbdI, by rw [hinv, show n = n - 1 + 1 by omega, runN_succ, hm1]; simp only [then_ok]; rw [if_neg (by rw [hg]; decide)]; rfl⟩, by first | omega | (simp only; omega), st_.to ⟨rfl, trivial⟩ (fun hh => (by simp only [hbd1]; exact hh))⟩
  · have hg : r1.1 = true := by simpa using h4
    refine g_exit ?_
    exact end_none Tryz.results80 (fun w hh => ⟨_, ⟨_, _, by unfold ColS.run; rw [hinv, show n = n - 1 + 1 by omega, runN_succ, hm1]; simp only [then_ok]; rw [if_pos hg], rfl, rfl⟩, by rw [← hbdI]; exact hh⟩)
theorem cblock_ok (B : World) (Fr : List HP) (x : Nat) (S : ColS) (hS : ColW S) :
    ∀ w, Holds B (ColA x S :: Fr) w → Calls Tryz.prog 176 [ptr x].toArray w (Ret B (fun rv H' => ∃ sv, cell1 sv = true ∧ rv = blkV S.block sv ∧ H' = VecU 0 (sv, S.block.rts) :: ColA x S :: Fr) (fun _ _ => False)) := by
  refine fn_enter Tryz.func176 rfl Tryz.ntmps176 rfl ?_
  have hfb := hS.fb
  have hfr := hS.free
  have hto := hS.to_
  have hba := hS.b.act
  have hrl := hS.rl
  refine g_seq (g_region (p_chg rfl (ch_allocA Tryz.zeroValue95 rfl) .free rfl rfl ?_))
  rintro _ _ ⟨b2, rfl, rfl⟩
  refine p_nil (g_seq (go_pk [1] (go_col fun rsv tsv mw hrsv htsv => ?_)))
  refine g_drawT (.fin [0, 1, 2, 3, 4, 5, 6, 7, 8, 9, 10, 11, 12, 13, 14, 15, 16, 17]) [16, 17] [0, 1, 2, 3, 4, 5, 6, 7, 8, 9, 10, 11, 12, 13, 14, 15] [16] [row x (colRow S rsv tsv mw) 191] [2, 0] (G := Nat) (fun b3 => [(3, ptr b3)]) (fun b3 => row b3 [i64 (1 - S.b.act), i64 (S.free - S.to_), .slice none 0 0] 95 :: row x (colRow S rsv tsv mw) 191 :: VecU 0 (rsv, S.b.rts) :: VecU 0 (tsv, S.todo) :: mapA .u64 i64 mw S.went :: row b2 [i64 0, i64 0, .slice none 0 0] 95 :: Fr) Tryz.mixed (by kernel_rfl) ?_ ?_
  · skip
    refine t_fin (v_hoist rfl rfl rfl (ev_move rfl) .free rfl ?_)
    first | refine v_hoist rfl rfl rfl (ev_nil rfl) .free rfl ?_ | refine v_hoist rfl rfl rfl (ev_nilf rfl) .free rfl ?_
    refine v_hoist rfl rfl rfl (ev_fa (m := _) fa_191_2 rfl rfl) .free rfl (v_hoist rfl rfl rfl (ev_fa (m := _) fa_95_0 rfl rfl) .free rfl (v_hoist rfl rfl rfl (ev_load Tryz.isAgg3 rfl rfl) .free rfl ?_))
    first | refine v_hoist rfl rfl rfl (ev_sub rfl rfl (wr64 (by omega))) .free rfl ?_ | refine v_hoist rfl rfl rfl (ev_sub rfl rfl rfl) .free rfl ?_
    refine v_hoist rfl rfl rfl (ev_move rfl) .free rfl ?_
    first | refine v_hoist rfl rfl rfl (ev_nil rfl) .free rfl ?_ | refine v_hoist rfl rfl rfl (ev_nilf rfl) .free rfl ?_
    refine v_hoist rfl rfl rfl (ev_fa (m := _) fa_191_5 rfl rfl) .free rfl (v_hoist rfl rfl rfl (ev_load Tryz.isAgg3 rfl rfl) .free rfl (v_hoist rfl rfl rfl (ev_move rfl) .free rfl ?_))
    first | refine v_hoist rfl rfl rfl (ev_nil rfl) .free rfl ?_ | refine v_hoist rfl rfl rfl (ev_nilf rfl) .free rfl ?_
    refine v_hoist rfl rfl rfl (ev_fa (m := _) fa_191_3 rfl rfl) .free rfl (v_hoist rfl rfl rfl (ev_load Tryz.isAgg3 rfl rfl) .free rfl ?_)
    first | refine v_hoist rfl rfl rfl (ev_sub rfl rfl (wr64 (by omega))) .free rfl ?_ | refine v_hoist rfl rfl rfl (ev_sub rfl rfl rfl) .free rfl ?_
    refine v_hoist rfl rfl rfl (ev_build rfl (bld_95_0_1 _ _ rfl rfl)) .free rfl (v_mark rfl rfl (p_chg rfl (ch_allocA Tryz.zeroValue95 rfl) .free rfl rfl ?_))
    rintro _ _ ⟨b3, rfl, rfl⟩
    refine p_nil (v_on (v_mark rfl rfl ?_))
    refine p_chg0 rfl (ch_storeA (vs := _) Tryz.sizeOf95 rfl rfl rfl (by first | rfl | exact all3 (by assumption)) rfl) .free rfl ?_
    rintro _ _ rfl
    refine p_nil (v_off rfl (v_nil ?_))
    exact fun a w st_ => ⟨b3, st_.to (sub_r rfl) (fun hh => hh)⟩
  intro b3
  refine go_sub (σ' := [(3, ptr b3), (2, _), (0, _)]) (sub_r rfl) (g_seq (g_seq (go_pk [2] (go_vecq fun qr cr hqr hqi => ?_))))
  subst hqr
  refine go_pk [1, 1, 0, 0, 0, 0] (go_conv (fun w hh => vec_nil (T := 26) (enc := w64) hh) (g_region (kPm rfl rfl ?_)))
  first | refine kPv (ev_nil rfl) rfl ?_ | refine kPv (ev_nilf rfl) rfl ?_
  refine kPv (ev_fa (m := _) fa_191_2 rfl rfl) rfl (kPv (ev_fa (m := _) fa_95_2 rfl rfl) rfl (kPv (ev_load Tryz.isAgg25 rfl rfl) rfl (kPv (ev_len rfl Tryz.runUnderlying25 ⟨_, rfl⟩ rfl) rfl (kPm rfl rfl (p_nil (g_block (g_loopk (ι := Nat × Value) [27, 26, 3, 2, 0] (fun (k, bv) => (k ≤ S.b.rts.length) ∧ (cell1 bv = true)) (fun (k, bv) => [(28, i64 k)]) (fun (k, bv) => VecU 0 (bv, (S.b.rts.take k).map (fun w => (mget S.went w).getD 0)) :: row b3 [i64 (1 - S.b.act), i64 (S.free - S.to_), bv] 95 :: row x (colRow S (.slice qr S.b.rts.length cr) tsv mw) 191 :: VecU 0 (.slice qr S.b.rts.length cr, S.b.rts) :: VecU 0 (tsv, S.todo) :: mapA .u64 i64 mw S.went :: row b2 [i64 0, i64 0, .slice none 0 0] 95 :: Fr) (fun (k, bv) => S.b.rts.length - k) (0, .slice none 0 0) (⟨Nat.zero_le _, rfl⟩) (fun a w st => st.to ⟨rfl, trivial⟩ (fun hh => hh)) ?_)))))))
  rintro ⟨k, bv⟩ ⟨hk0, hbv⟩
  try simp only at hk0 hbv ⊢
  refine go_sub (σ' := [(28, i64 k), (27, _), (26, _), (3, _), (2, _), (0, _)]) (sub_r rfl) (g_seq (g_region (kPv (ev_cmp rfl rfl rfl) rfl (p_nil (g_seq ?_)))))
  refine g_if rfl (fun h29 => ?_) (fun h29 => ?_)
  · have hk : k < S.b.rts.length := by simp at h29; omega
    obtain ⟨bq, oq, rfl⟩ := hqi k hk
    have hvb := hS.vb S.b.rts[k]
    refine g_skip (g_seq (g_block (g_seq (g_region (kPv (ev_iaS Tryz.runUnderlying25 Tryz.sizeOf26 rfl rfl (by omega) (by omega)) rfl ?_)))))
    refine kPv (ev_loadS (v := w64 S.b.rts[k]) Tryz.isAgg26 (vec_slr 3 rfl) rfl (by rw [Int.toNat_natCast, List.getElem?_map, List.getElem?_eq_getElem hk]; rfl)) rfl ?_
    refine kPa rfl rfl (p_nil (g_drawv [0, 1, 2, 3, 4, 5, 6, 7, 8, 9, 10, 11, 12] [9, 10, 12] [0, 1] [9] [row b3 [i64 (1 - S.b.act), i64 (S.free - S.to_), bv] 95, row x (colRow S (.slice (some ⟨bq, oq, none⟩) S.b.rts.length cr) tsv mw) 191, mapA .u64 i64 mw S.went] Tryz.mixed (by kernel_rfl) ?_))
    refine v_hoist rfl rfl rfl (ev_fa (m := _) fa_95_2 rfl rfl) .free rfl (v_hoist rfl rfl rfl (ev_load Tryz.isAgg25 rfl rfl) .free rfl (v_val rfl rfl rfl (ev_move rfl) .free rfl ?_))
    first | refine v_val rfl rfl rfl (ev_nil rfl) .free rfl ?_ | refine v_val rfl rfl rfl (ev_nilf rfl) .free rfl ?_
    refine v_val rfl rfl rfl (ev_fa (m := _) fa_191_7 rfl rfl) .free rfl (v_val rfl rfl rfl (ev_load Tryz.isAgg189 rfl rfl) .free rfl (v_val rfl rfl rfl (ev_move rfl) .free rfl (v_val rfl rfl rfl ((ev_lookup1 Tryz.runUnderlying189 Tryz.runUnderlying26 Tryz.zeroValue3 rfl rfl).eq (mval_i _)) .free rfl (v_val rfl rfl rfl (ev_conv Tryz.runUnderlying3 Tryz.runUnderlying26 rfl (wru64 (by omega))) .free rfl (v_mark rfl rfl (p_chg rfl (ch_bs1 Tryz.runUnderlying25 Tryz.sizeOf26 Tryz.zeroValue26 rfl rfl rfl) .free rfl rfl ?_))))))
    rintro _ _ ⟨b41, rfl, rfl⟩
    refine go_pk [1, 0] (p_nil (v_on (v_mark rfl rfl (p_chg rfl (ch_append_vec rfl rfl Tryz.runUnderlying25 Tryz.runUnderlying25 ⟨_, rfl⟩ Tryz.sizeOf26 Tryz.zeroValue26 rfl (fun _ => rfl) tb_26 rfl rfl (by simp; omega)) .free rfl rfl ?_))))
    rintro bv2 _ ⟨hbv2, rfl⟩
    refine p_nil (v_off rfl (v_val rfl rfl rfl (ev_fa (m := _) fa_95_2 rfl rfl) .free rfl (v_mark rfl rfl ?_)))
    refine p_chg0 rfl (ch_store Tryz.sizeOf25 rfl rfl (by first | rfl | assumption) rfl) .free rfl ?_
    rintro _ _ rfl
    refine p_nil (v_off rfl (v_nil (go_sb [28, 27, 26, 3, 2, 0] rfl (g_region ?_))))
    first | refine p_val rfl (ev_add rfl rfl (wr64 (by omega))) .free rfl rfl ?_ | refine p_val rfl (ev_add rfl rfl rfl) .free rfl rfl ?_
    refine kPm rfl rfl (p_nil ?_)
    exact fun a w st_ => ⟨(k + 1, bv2), ⟨by first | omega | (simp only; omega), hbv2⟩, by first | omega | (simp only; omega), st_.to (sub_r rfl) (fun hh => (by simp only [map_take_succ hk]; exact hh))⟩
  · have hk : ¬ k < S.b.rts.length := by simp at h29; omega
    obtain rfl : k = S.b.rts.length := by omega
    rw [List.take_length]
    refine g_exit (g_seq (g_region (kPv (ev_loadA Tryz.isAgg95 Tryz.sizeOf95 rfl rfl) rfl ?_)))
    refine p_chg0 rfl (ch_storeA (vs := _) Tryz.sizeOf95 rfl rfl rfl (by first | rfl | exact all3 (by assumption)) rfl) .free rfl ?_
    rintro _ _ rfl
    refine p_nil (go_sb [2] rfl (g_ret ?_))
    exact ret_1 Tryz.results176 (.cellA rfl Tryz.isAgg95 Tryz.sizeOf95 rfl rfl) (fun w hh => ⟨_, ⟨bv, hbv, rfl, rfl⟩, (col_holds (S := S) hrsv htsv ((hh.dp [1, 5]).pk [1, 1, 1, 1])).pk [1]⟩)
theorem clone64n_ok (B : World) (Fr : List HP) (cap : Nat) :
    ∀ w, Holds B Fr w → Calls Tryz.prog 104 [.slice none 0 cap].toArray w (PureR B Fr (.slice none 0 0)) := by
  refine fn_enter Tryz.func104 rfl Tryz.ntmps104 rfl (g_seq (g_region (kPa rfl rfl (p_nil (g_seq (g_seq (g_region (kPm rfl rfl (kPv (ev_eqsl Tryz.runUnderlying25 rfl rfl rfl) rfl (p_nil (g_ift rfl (rfl) ?_)))))))))))
  refine g_seq (g_region (kPa rfl rfl (p_nil (g_ret ?_))))
  exact ret_tmp Tryz.results104 rfl (fun w hh => ⟨rfl, hh⟩)
theorem clone64v_ok (B : World) (Fr : List HP) (q : Option Addr) (cap : Nat) (xs : List Int) (hn : xs.length ≤ 1000000) (hq : q = none → xs = []) (hr : SlR B Fr (.slice q xs.length cap) (xs.map w64)) : ∀ w, Holds B Fr w → Calls Tryz.prog 104 [.slice q xs.length cap].toArray w (Ret B (fun rv H' => cell1 rv = true ∧ H' = VecU 0 (rv, xs) :: Fr) (fun _ _ => False)) := by
  intro w hw
  cases q with
  | none =>
    have := hq rfl
    subst this
    exact (clone64n_ok B Fr cap w hw).mono fun e w' h => by obtain ⟨rfl, h⟩ := h; exact ⟨_, ⟨rfl, rfl⟩, vec_nil h⟩
  | some a =>
    refine (clone64_ok B Fr (some a) xs.length cap (xs.map w64) (by simp) (by simpa using hn) (by rw [List.all_eq_true]; intro v hv; obtain ⟨x, _, rfl⟩ := List.mem_map.1 hv; rfl) hr w hw).mono fun e w' h => ?_
    cases e with
    | returned v =>
      obtain ⟨H', ⟨bn, rest, rfl, rfl⟩, h⟩ := h
      exact ⟨_, ⟨rfl, rfl⟩, vec_row rfl rfl h⟩
    | panicked c => obtain ⟨_, h, _⟩ := h; exact h.elim
    | outgrown => exact h.elim
theorem cnew_ok (B : World) (Fr : List HP) (bd : Nat) (c : Cfg) (hc : CfgW c) (b : Blk) (hb : BlkW c b) (sv : Value) (hsv : cell1 sv = true) (q : Option Addr) (cap : Nat) (ws : List Int) (hwn : ws.length ≤ 1000000) (hwq : q = none → ws = []) (hwl : SlR B (VecU 0 (sv, b.rts) :: Fr) (.slice q ws.length cap) (ws.map w64)) :
    ∀ w, Holds B (VecU 0 (sv, b.rts) :: Fr) w → Calls Tryz.prog 78 [ptr bd, cfgV c, blkV b sv, .slice q ws.length cap].toArray w (Ret B (fun rv H' => ∃ x, rv = ptr x ∧ H' = ColA x (newCol bd c b ws) :: Fr) (fun _ _ => False)) := by
  refine fn_enter Tryz.func78 rfl Tryz.ntmps78 rfl ?_
  have hba := hb.act
  refine g_seq (g_region (p_chg rfl (ch_boxA rfl) .free rfl rfl ?_))
  rintro _ _ ⟨b5, rfl, rfl⟩
  refine p_chg rfl (ch_boxA rfl) .free rfl rfl ?_
  rintro _ _ ⟨b6, rfl, rfl⟩
  refine kPa rfl rfl (p_nil (g_seq (g_region (kPv (ev_loadA Tryz.isAgg40 Tryz.sizeOf40 rfl rfl) rfl ?_))))
  refine kPv (ev_fa (m := _) fa_95_0 rfl rfl) rfl (kPv (ev_load Tryz.isAgg3 rfl rfl) rfl ?_)
  first | refine p_val rfl (ev_sub rfl rfl (wr64 (by omega))) .free rfl rfl ?_ | refine p_val rfl (ev_sub rfl rfl rfl) .free rfl rfl ?_
  refine p_callq rfl (en_f Tryz.call140 rfl) (from_ok _ _ c hc _ (by have := hb.act; omega) (by have := hb.act; omega)) .free rfl rfl ?_
  refine kPa rfl rfl (p_nil (go_sb [9, 8, 6, 5, 0, 3] rfl (g_seq (go_pk [1] ?_))))
  refine g_drawT (.br [0, 1, 2, 3, 4, 5, 6] 7 (.fin [8, 9, 10, 11]) 8 (.fin [7, 9, 10, 11])) [7, 8, 10] [0, 1, 2, 3, 4, 5, 6] [7, 8] [row b5 [i64 c.log, i64 c.roots, i64 c.space] 40, row b6 [i64 b.act, i64 b.used, sv] 95] [] (G := Nat) (fun x => [(8, ptr x)]) (fun x => ColA x (newCol bd c b ws) :: Fr) Tryz.mixed (by kernel_rfl) ?_ ?_
  · skip
    refine t_br (v_hoist rfl rfl rfl (ev_move rfl) .free rfl (v_hoist rfl rfl rfl (ev_loadA Tryz.isAgg40 Tryz.sizeOf40 rfl rfl) .free rfl ?_))
    refine v_hoist rfl rfl rfl (ev_loadA Tryz.isAgg95 Tryz.sizeOf95 rfl rfl) .free rfl ?_
    refine v_hoist rfl rfl rfl (ev_move rfl) .free rfl (v_hoist rfl rfl rfl (ev_move rfl) .free rfl (v_hoist rfl rfl rfl (ev_move rfl) .free rfl (v_hoist rfl rfl rfl (ev_move rfl) .free rfl (v_nil ?_))))
    refine t_two rfl rfl ?_ ?_
    · skip
      refine p_call rfl (en_f Tryz.call104 rfl) (clone64v_ok _ _ q cap ws hwn hwq hwl.up) .free rfl rfl ?_ ?_
      rotate_left
      · rintro _ _ ⟨⟩
      rintro tsv _ ⟨htsv, rfl⟩
      refine p_nil (t_on (t_fin (v_mark rfl rfl (p_chg rfl (ch_makeMap .u64 i64) .free rfl rfl ?_))))
      rintro _ _ ⟨mw, rfl, rfl⟩
      refine p_nil (v_on ?_)
      refine v_val rfl rfl rfl (ev_build rfl (bld_191_0_1_2_3_4_5_6_7 _ _ _ _ _ _ _ _ _ _ _ _ (by first | rfl | assumption) rfl rfl rfl (by first | rfl | assumption) (by first | rfl | assumption))) .free rfl ?_; refine v_mark rfl rfl ?_; refine p_chg rfl (ch_boxA rfl) .free rfl rfl ?_
      rintro _ _ ⟨b25, rfl, rfl⟩
      refine p_nil (v_off rfl (v_val rfl rfl rfl (ev_assign rfl) .free rfl (v_nil ?_)))
      exact fun a w st_ => ⟨b25, st_.to ⟨rfl, trivial⟩ (fun hh => (col_holds (S := newCol bd c b ws) hsv htsv ((hh.dp [3, 3]).pk [0, 2, 1])))⟩
    · skip
      refine p_chg rfl (ch_makeMap .u64 i64) .free rfl rfl ?_
      rintro _ _ ⟨mw, rfl, rfl⟩
      refine p_nil (t_on (t_fin (v_mark rfl rfl ?_)))
      refine p_call rfl (en_f Tryz.call104 rfl) (clone64v_ok _ _ q cap ws hwn hwq hwl.up) .free rfl rfl ?_ ?_
      rotate_left
      · rintro _ _ ⟨⟩
      rintro tsv _ ⟨htsv, rfl⟩
      refine p_nil (v_on ?_)
      refine v_val rfl rfl rfl (ev_build rfl (bld_191_0_1_2_3_4_5_6_7 _ _ _ _ _ _ _ _ _ _ _ _ (by first | rfl | assumption) rfl rfl rfl (by first | rfl | assumption) (by first | rfl | assumption))) .free rfl ?_; refine v_mark rfl rfl ?_; refine p_chg rfl (ch_boxA rfl) .free rfl rfl ?_
      rintro _ _ ⟨b25, rfl, rfl⟩
      refine p_nil (v_off rfl (v_val rfl rfl rfl (ev_assign rfl) .free rfl (v_nil ?_)))
      exact fun a w st_ => ⟨b25, st_.to ⟨rfl, trivial⟩ (fun hh => (col_holds (S := newCol bd c b ws) hsv htsv ((hh.dp [3, 3]).pk [0, 2])))⟩
  intro x
  refine go_sub (σ' := [(8, ptr x)]) ⟨rfl, trivial⟩ (g_ret ?_)
  exact ret_tmp Tryz.results78 rfl (fun w hh => ⟨_, ⟨_, rfl, rfl⟩, hh⟩)
end Go.Proofs.YtlcibdhmgclfjaaGreat
namespace Go.Proofs.YtlcibdhmgclfjaaGreat
open Go
abbrev secOp (i v : Int) (s : Dev) (S : SecS) : Out (Int × SecS) := S.store s i v
def SecS.fresh (S : SecS) (f t : Int) : SecS := { S with ff := f, ft := t, seen := [], dirty := [] }
def flipM (c : Cfg) (b : Blk) (S : SecS) (s : Dev) : Out (Int × SecS) :=
  (writeM secOp c b s (S.fresh 0 0)).then fun x s1 => if x.1 ≠ 0 then (x.2.abort s1).then fun S2 s2 => .ok (x.1, S2) s2
    else (x.2.commit s1).then fun S2 s2 => .ok (0, S2) s2
def collectM (bd : Nat) (c : Cfg) (S : SecS) (s : Dev) (ws : List Int) : Out (Option ColS × Int × SecS) :=
  if (s.block c).2 ≠ 0 then .ok (none, (s.block c).2, S) s
  else ((newCol bd c (s.block c).1 ((s.block c).1.rts ++ ws)).run s).then fun X s1 => (flipM c X.block S s1).then fun x s2 =>
    if x.1 ≠ 0 then .ok (none, x.1, x.2) s2 else .ok (some X, 0, x.2) s2
theorem block_rl0 {s : Dev} {c : Cfg} (hc : CfgW c) (h : (s.block c).2 = 0) : 0 < (s.block c).1.rts.length := by
  have := hc.r1
  unfold Dev.block at h ⊢
  split at h
  · cases h
  · rename_i h1; rw [if_neg h1]; simp only [tab_len]; omega
theorem mset_len {α : Type} (l : List (Int × α)) (k : Int) (a : α) : (mset l k a).length ≤ l.length + 1 := by
  induction l with
  | nil => simp [mset]
  | cons p t ih => unfold mset; split <;> simp <;> omega
theorem sstore_dirty {S S' : SecS} {s s' : Dev} {i v a : Int} (e : S.store s i v = .ok (a, S') s') : S'.dirty.length ≤ S.dirty.length + 1 := by
  have h1 := mset_len S.dirty (i / 8) ()
  unfold SecS.store at e
  split at e
  · cases e; omega
  · split at e
    · obtain ⟨x, t, e1, e⟩ := then_inv e
      split at e
      · cases e; simp only; omega
      · obtain ⟨y, u, e2, e⟩ := then_inv e
        cases e; exact h1
    · obtain ⟨y, u, e2, e⟩ := then_inv e
      cases e; exact h1
theorem writeN_dirty : ∀ (l : List Int) (i : Int) (S S' : SecS) (s s' : Dev) (a : Int), writeN secOp l i s S = .ok (a, S') s' → S'.dirty.length ≤ S.dirty.length + l.length
  | [], i, S, S', s, s', a, e => by cases e; simp
  | v :: vs, i, S, S', s, s', a, e => by
    unfold writeN at e
    split at e
    · have := writeN_dirty vs _ _ _ _ _ _ e; simp only [List.length_cons]; omega
    · obtain ⟨⟨x, S1⟩, s1, e1, e⟩ := then_inv e
      have h1 := sstore_dirty e1
      split at e
      · cases e; simp only [List.length_cons]; omega
      · have := writeN_dirty vs _ _ _ _ _ _ e; simp only [List.length_cons] at this ⊢; omega
structure SecK (S : SecS) (bd : Nat) (c : Cfg) (s : Dev) : Prop where
  w : LogW S.L
  n : s.n ≤ 1000000
  d : S.L.d = bd
  c : S.L.c = c
theorem flip_ok (B : World) (Fr : List HP) (bs x bd : Nat) (S : SecS) (X : ColS) (hX : ColW X) (hrl0 : 0 < X.b.rts.length) (c : Cfg) (s : Dev) (hu : U64 s) (hK : SecK S bd c s) :
    ∀ w, Holds B (SecC bs S :: ColA x X :: DevA bd s :: Fr) w → Calls Tryz.prog 141 [ptr bd, cfgV c, ptr bs, ptr x].toArray w (Ret B (fun rv H' => ∃ a S' s', flipM c X.block S s = .ok (a, S') s' ∧ rv = i64 a ∧ H' = SecC bs S' :: ColA x X :: DevA bd s' :: Fr) (fun ch H' => ∃ s', flipM c X.block S s = .off s' ∧ ch = offc ∧ H' = DevA bd s' :: Fr)) := by
  refine fn_enter Tryz.func141 rfl Tryz.ntmps141 rfl ?_
  have hrl := hX.rl
  have hbb := hX.b.act
  have hbf := hX.free
  have hbw : ∀ v ∈ X.block.rts, 0 ≤ v ∧ v < 18446744073709551616 := fun v hv => by
    obtain ⟨u, _, rfl⟩ := List.mem_map.1 hv
    have := hX.vb u
    omega
  have hfb := hX.fb
  have hto := hX.to_
  refine g_seq (g_region (p_chg rfl (ch_boxA rfl) .free rfl rfl ?_))
  rintro _ _ ⟨b5, rfl, rfl⟩
  refine kPa rfl rfl (p_nil (g_seq (g_seq (g_region (kPm rfl rfl (kPv (ev_build rfl (bld_99)) rfl (go_pk [1] ?_)))))))
  refine p_call rfl (en_f Tryz.call53 rfl) (sbeginC_ok B _ bs S 0 0) .free rfl rfl ?_ ?_
  rotate_left
  · rintro _ _ ⟨⟩
  rintro _ _ ⟨rfl, rfl⟩
  refine kPa rfl rfl (p_nil (g_seq (g_region (kPm rfl rfl (kPv (ev_cmp rfl rfl rfl) rfl (p_nil (g_iff rfl (rfl) (g_skip (g_seq (g_seq (g_drawv [0, 1, 2, 4, 5, 3, 6, 7] [3, 6] [0, 1, 4, 5] [3] [row b5 [i64 c.log, i64 c.roots, i64 c.space] 40] Tryz.mixed (by kernel_rfl) ?_)))))))))))
  refine v_hoist rfl rfl rfl (ev_move rfl) .free rfl (v_hoist rfl rfl rfl (ev_loadA Tryz.isAgg40 Tryz.sizeOf40 rfl rfl) .free rfl ?_)
  refine v_val rfl rfl rfl (ev_move rfl) .free rfl (v_hoist rfl rfl rfl (ev_move rfl) .free rfl (v_hoist rfl rfl rfl (ev_mkf rfl rfl) .free rfl (v_mark rfl rfl (go_pk [2] ?_))))
  refine p_call rfl (en_f Tryz.call176 rfl) (cblock_ok B _ x X hX) .free rfl rfl ?_ ?_
  rotate_left
  · rintro _ _ ⟨⟩
  rintro _ _ ⟨bsv, hbsv, rfl, rfl⟩
  refine go_vecq fun qb cb hqb hqi => ?_
  subst hqb
  refine p_nil (v_on (v_mark rfl rfl (go_pk [4, 2] ?_)))
  refine p_call rfl (en_f Tryz.call175 rfl) (rwrite_ok B _ _ _ bd bs SecS (fun b S => SecO b S) _ _ (storeS B bd bs c) c (hK.c ▸ hK.w.c) X.block (by simp only [ColS.block]; omega) hbw (by simp only [ColS.block, List.length_map]; omega) (by simp only [ColS.block, List.length_map]; omega) (.slice qb X.block.rts.length cb) rfl (vec_slr 0 rfl) s (S.fresh 0 0) ⟨hu, hK.n, ⟨hK.w, fun _ h => (by cases h)⟩, hK.d, hK.c⟩) .free rfl rfl ?_ ?_
  rotate_left
  · rintro _ _ ⟨s9, hm9, rfl, rfl⟩
    exact pan_fn fun w hh => ⟨_, ⟨s9, by unfold flipM writeM; rw [show writeN secOp (X.block.act :: X.block.used :: X.block.rts) c.active s (S.fresh 0 0) = .off s9 from hm9]; rfl, rfl, rfl⟩, hh.dp [1, 1, 1]⟩
  rintro _ _ ⟨a2, S2, s2, hm2, rfl, hok2, rfl⟩
  obtain ⟨hu2, hn2, hw2, hd2, hc2⟩ := hok2
  obtain rfl := hd2
  refine p_nil (v_off rfl (v_val rfl rfl rfl (ev_assign rfl) .free rfl (v_nil (go_sb [10, 8, 2] rfl (g_seq (g_region (kPm rfl rfl (kPv (ev_cmp rfl rfl rfl) rfl (p_nil ?_)))))))))
  refine g_if rfl (fun h25 => ?_) (fun h25 => ?_)
  · have he : a2 ≠ 0 := by simpa using h25
    refine g_seq (g_region (kPm rfl rfl (go_pk [1, 0] ?_)))
    refine p_call rfl (en_f Tryz.call145 rfl) (sabortO_ok B _ bs S2 s2 hw2) .free rfl rfl ?_ ?_
    rotate_left
    · rintro _ _ ⟨s9, hm9, rfl, rfl⟩
      exact pan_fn fun w hh => ⟨_, ⟨s9, by unfold flipM; rw [hm2]; simp only [then_ok]; rw [if_pos he, hm9]; rfl, rfl, rfl⟩, hh.dp [1, 1, 1]⟩
    rintro _ _ ⟨S3, s3, hm3, rfl, rfl⟩
    refine p_nil (g_seq (g_region (kPm rfl rfl (kPa rfl rfl (p_nil (g_ret ?_))))))
    exact ret_tmp Tryz.results141 rfl (fun w hh => ⟨_, ⟨a2, S3, s3, by unfold flipM; rw [hm2]; simp only [then_ok]; rw [if_pos he, hm3]; rfl, rfl, rfl⟩, ((hh.dp [2, 3]).pk [0, 1])⟩)
  · have he : ¬ a2 ≠ 0 := by simpa using h25
    refine g_skip (g_seq (g_region (kPm rfl rfl (go_pk [1, 0] ?_))))
    refine p_call rfl (en_f Tryz.call62 rfl) (scommitO_ok B _ bs S2 s2 hw2 (by have := writeN_dirty _ _ _ _ _ _ _ hm2; simp only [SecS.fresh, ColS.block, List.length_cons, List.length_map, List.length_nil] at this; omega)) .free rfl rfl ?_ ?_
    rotate_left
    · rintro _ _ ⟨s9, hm9, rfl, rfl⟩
      exact pan_fn fun w hh => ⟨_, ⟨s9, by unfold flipM; rw [hm2]; simp only [then_ok]; rw [if_neg he, hm9]; rfl, rfl, rfl⟩, hh.dp [1, 1, 1]⟩
    rintro _ _ ⟨S3, s3, hm3, rfl, rfl⟩
    refine kPa rfl rfl (p_nil (g_ret ?_))
    exact ret_tmp Tryz.results141 rfl (fun w hh => ⟨_, ⟨0, S3, s3, by unfold flipM; rw [hm2]; simp only [then_ok]; rw [if_neg he, hm3]; rfl, rfl, rfl⟩, ((hh.dp [2, 3]).pk [0, 1])⟩)
theorem ch_append_vecs0 {B : World} {σ : Env} {Fr : List HP} {P : Program} {T : TypeId} {enc : Int → Value} {sv : Value} {xs : List Int} {d : Option Tmp} {ty : TypeId} {p : String} {af : Array Edge} {g : Option (Nat × Bool)} {t : TypeId} {x y : Operand} {at_ : Array TypeId} {u : TypeId} {ud : TypeDesc} {ys : List Int} {z yv : Value}
    (ha : at_[0]? = some t) (ha' : at_[1]? = some u) (ht : ∀ w, (underlying t).run P w = .ok (.slice T) w) (hu : ∀ w, (underlying u).run P w = .ok ud w) (hud : ∃ q, ud = .slice q) (hs : ∀ w, (sizeOf T).run P w = .ok 1 w) (hz : ∀ w, (zeroValue T).run P w = .ok z w) (hz1 : cell1 z = true) (he1 : ∀ v, cell1 (enc v) = true) (hfb : fewBytes P T)
    (hx : evO σ x = some sv) (hy : evO σ y = some yv) (hr : SlR B Fr yv (ys.map enc)) (hn : xs.length + ys.length ≤ 1000000000) :
    Chg P B σ (VecA T enc 0 (sv, xs) :: Fr) ⟨d, .call ⟨.builtin .append, #[x, y], at_⟩, ty, p, af, g⟩ (fun v' H' => cell1 v' = true ∧ H' = VecA T enc 0 (v', xs ++ ys) :: Fr) := by
  by_cases h0 : 0 < ys.length
  · exact ch_append_vecs ha ha' ht hu hud hs hz hz1 he1 hfb hx hy hr h0 hn
  obtain rfl : ys = [] := List.length_eq_zero_iff.1 (by omega)
  intro a w kn hh
  obtain ⟨q, rfl⟩ := hud
  obtain ⟨sq, scap, e0, _⟩ := hr.ex
  subst e0
  have hf : (Builtin.firstCells 1 0 (.slice sq 0 scap)).run P w = .ok #[] w := by
    have := hr.first (P := P) (w := w) hh.tail 0 (Nat.zero_le _)
    simpa using this
  have hsl : ∃ q n c, sv = .slice q n c ∧ n ≤ c := by
    rcases holds_vec hh with ⟨_, h2, _⟩ | ⟨bd, pre, rest, k, _, h1, _⟩
    · exact ⟨_, _, _, h2, Nat.le_refl _⟩
    · exact ⟨_, _, _, h1, Nat.le_add_right _ _⟩
  obtain ⟨q2, n2, c2, rfl, hc2⟩ := hsl
  refine ⟨.value (.slice q2 n2 c2), w, ?_, _, .inl rfl, _, ⟨rfl, rfl⟩, by simpa using hh⟩
  simp only [execOp, resolve, Sem.run_bind, Sem.run_pure, Result.andThen_ok]
  simp only [List.map_nil, List.length_nil] at hy
  cases q2 <;> simp [invoke, builtin, Builtin.append_, ha, ha', hu, kn.eval hx, kn.eval hy, ht, hs, Builtin.lenOf, hc2, hf, storeCells]
theorem store_n {s s' : Dev} {i v a : Int} (e : s.store i v = .ok a s') : s'.n = s.n := by
  unfold Dev.store at e
  split at e
  · cases e; rfl
  split at e
  · cases e
  · cases e; rfl
theorem flush_n {s s' : Dev} {i a : Int} (e : s.flush i = .ok a s') : s'.n = s.n := by
  unfold Dev.flush at e
  split at e
  · cases e; rfl
  split at e
  · cases e
  · cases e; rfl
theorem fence_n {s s' : Dev} {a : Unit} (e : s.fence = .ok a s') : s'.n = s.n := by
  unfold Dev.fence at e
  split at e
  · cases e
  · cases e; rfl
theorem cpyN_n : ∀ (k : Nat) (i a f : Int) (s s' : Dev), cpyN k i a f s = .ok () s' → s'.n = s.n
  | 0, _, _, _, s, s', e => by cases e; rfl
  | k + 1, i, a, f, s, s', e => by
    rw [cpyN_succ] at e
    obtain ⟨_, s1, e1, e⟩ := then_inv e
    exact (cpyN_n k _ _ _ _ _ e).trans (store_n e1)
theorem copied_n {S : ColS} {s s' : Dev} {w : Int} {r : Int × ColS} (e : S.copied s w = .ok r s') : s'.n = s.n := by
  unfold ColS.copied at e
  split at e
  · cases e; rfl
  split at e
  · cases e; rfl
  split at e
  · cases e; rfl
  obtain ⟨_, s1, e1, e⟩ := then_inv e
  cases e
  exact cpyN_n _ _ _ _ _ _ e1
theorem refsN_n : ∀ (k : Nat) (i : Int) (S S' : ColS) (s s' : Dev), refsN k i S s = .ok S' s' → s'.n = s.n
  | 0, _, S, S', s, s', e => by cases e; rfl
  | k + 1, i, S, S', s, s', e => by
    rw [refsN_succ] at e
    split at e
    · exact refsN_n k _ _ _ _ _ e
    · obtain ⟨r, s1, e1, e⟩ := then_inv e
      obtain ⟨_, s2, e2, e⟩ := then_inv e
      exact ((refsN_n k _ _ _ _ _ e).trans (store_n e2)).trans (copied_n e1)
theorem keepN_n : ∀ (f : Nat) (i e : Int) (s s' : Dev) (a : Unit), keepN f i e s = .ok a s' → s'.n = s.n
  | 0, _, _, s, s', a, e => by cases e; rfl
  | f + 1, i, e', s, s', a, e => by
    rw [keepN_succ] at e
    split at e
    · obtain ⟨_, s1, e1, e⟩ := then_inv e
      exact (keepN_n f _ _ _ _ _ e).trans (flush_n e1)
    · cases e; rfl
theorem step_n {S : ColS} {s s' : Dev} {r : Bool × ColS} (e : S.step s = .ok r s') : s'.n = s.n := by
  unfold ColS.step at e
  split at e
  · cases e; rfl
  split at e
  · obtain ⟨_, s1, e1, e⟩ := then_inv e
    cases e; exact copied_n e1
  · split at e
    · obtain ⟨_, s1, e1, e⟩ := then_inv e
      cases e; exact refsN_n _ _ _ _ _ _ e1
    · obtain ⟨_, s1, e1, e⟩ := then_inv e
      cases e
      unfold ColS.keep at e1
      obtain ⟨_, s2, e2, e1⟩ := then_inv e1
      have h2 := keepN_n _ _ _ _ _ _ e2
      split at e1
      · exact (fence_n e1).trans h2
      · cases e1; exact h2
theorem run_n {S S' : ColS} {s s' : Dev} (e : S.run s = .ok S' s') : s'.n = s.n := by
  unfold ColS.run at e
  revert e
  generalize S.meas + 1 = f
  intro e
  induction f generalizing S s with
  | zero => cases e; rfl
  | succ f ih =>
    rw [runN_succ] at e
    obtain ⟨r, s1, e1, e⟩ := then_inv e
    split at e
    · cases e; exact step_n e1
    · exact (ih e).trans (step_n e1)
theorem fcollect_ok (B : World) (Fr : List HP) (bs bd : Nat) (S : SecS) (c : Cfg) (hc : CfgW c) (s : Dev) (hu : U64 s) (hK : SecK S bd c s) (q : Option Addr) (cap : Nat) (ws : List Int) (hwn : ws.length ≤ 900000) (hws : ∀ v ∈ ws, 0 ≤ v ∧ v < 18446744073709551616) (hwl : SlR B Fr (.slice q ws.length cap) (ws.map w64)) :
    ∀ w, Holds B (SecC bs S :: DevA bd s :: Fr) w → Calls Tryz.prog 163 [ptr bd, cfgV c, ptr bs, .slice q ws.length cap].toArray w (Ret B (fun rv H' => ∃ r s', collectM bd c S s ws = .ok r s' ∧ ((r.1 = none ∧ rv = .tuple #[.pointer none, i64 r.2.1] ∧ H' = SecC bs r.2.2 :: DevA bd s' :: Fr) ∨ (∃ x X, r.1 = some X ∧ r.2.1 = 0 ∧ rv = .tuple #[ptr x, i64 0] ∧ H' = ColA x X :: SecC bs r.2.2 :: DevA bd s' :: Fr))) (fun ch H' => ∃ s', collectM bd c S s ws = .off s' ∧ ch = offc ∧ H' = DevA bd s' :: Fr)) := by
  refine fn_enter Tryz.func163 rfl Tryz.ntmps163 rfl (g_seq (g_region (p_chg rfl (ch_boxA rfl) .free rfl rfl ?_)))
  rintro _ _ ⟨b5, rfl, rfl⟩
  refine kPa rfl rfl (kPa rfl rfl (p_nil (g_seq (g_seq (g_region (kPm rfl rfl (p_callq rfl (en_f Tryz.call51 rfl) (ro_at (q := SecC) (fun Fr => sopenC_ok B Fr bs S)) .free rfl rfl ?_)))))))
  refine p_nil (g_iff rfl (rfl) (g_skip (g_seq (g_region (kPm rfl rfl (kPv (ev_loadA Tryz.isAgg40 Tryz.sizeOf40 rfl rfl) rfl ?_))))))
  refine go_pk [2] ?_
  refine p_call rfl (en_f Tryz.call111 rfl) (rread_ok _ _ _ _ c hc hu) .free rfl rfl ?_ ?_
  rotate_left
  · rintro _ _ ⟨⟩
  rintro _ _ ⟨sv, hsv, rfl, rfl⟩
  have hbk := block_w (s := s) hc hu
  have hrl := block_len (s := s) hc
  refine kPm rfl rfl (kPv (ev_ext rfl rfl) rfl (kPv (ev_ext rfl rfl) rfl (p_chg rfl (ch_allocA Tryz.zeroValue95 rfl) .free rfl rfl ?_)))
  rintro _ _ ⟨b10, rfl, rfl⟩
  refine p_chg0 rfl (ch_storeA (vs := _) Tryz.sizeOf95 rfl rfl rfl (by first | rfl | exact all3 (by assumption)) rfl) .free rfl ?_
  rintro _ _ rfl
  refine kPa rfl rfl (p_nil (go_sb [11, 10, 9, 8, 5, 0, 2, 3] rfl (g_seq (g_seq (g_region (kPm rfl rfl (kPv (ev_cmp rfl rfl rfl) rfl (p_nil ?_))))))))
  refine g_if rfl (fun h23 => ?_) (fun h23 => ?_)
  · have he : (s.block c).2 ≠ 0 := by simpa using h23
    have hres : collectM bd c S s ws = .ok (none, (s.block c).2, S) s := by unfold collectM; rw [if_pos he]
    refine g_seq (g_region (kPm rfl rfl (kPa rfl rfl (kPa rfl rfl (p_nil (g_ret ?_))))))
    exact ret_tmp2 Tryz.results163 rfl rfl (fun w hh => ⟨_, ⟨_, _, hres, .inl ⟨rfl, rfl, rfl⟩⟩, ((hh.dp [0, 0, 1]).pk [1])⟩)
  · have he : (s.block c).2 = 0 := by simpa using h23
    have hrl0 : 0 < (s.block c).1.rts.length := block_rl0 hc he
    refine go_pk [1] (go_vecq fun qo co hqo hqoi => ?_)
    subst hqo
    refine go_conv (H' := VecU 0 (.slice qo (s.block c).1.rts.length co, (s.block c).1.rts) :: row b10 [i64 (s.block c).1.act, i64 (s.block c).1.used, .slice qo (s.block c).1.rts.length co] 95 :: DevA bd s :: row b5 [i64 c.log, i64 c.roots, i64 c.space] 40 :: SecC bs S :: Fr) (fun w hh => by have h := hh; exact h) (g_skip (g_seq (g_drawv [0, 1, 2, 4, 5, 7, 3, 6, 8, 9, 10] [3, 6, 8, 9] [0, 1, 2, 4, 5, 7] [3, 6, 8] [row b5 [i64 c.log, i64 c.roots, i64 c.space] 40, row b10 [i64 (s.block c).1.act, i64 (s.block c).1.used, .slice qo (s.block c).1.rts.length co] 95] Tryz.mixed (by kernel_rfl) ?_)))
    refine v_hoist rfl rfl rfl (ev_move rfl) .free rfl (v_hoist rfl rfl rfl (ev_loadA Tryz.isAgg40 Tryz.sizeOf40 rfl rfl) .free rfl ?_)
    refine v_hoist rfl rfl rfl (ev_loadA Tryz.isAgg95 Tryz.sizeOf95 rfl rfl) .free rfl ?_
    refine v_hoist rfl rfl rfl (ev_fa (m := _) fa_95_2 rfl rfl) .free rfl (v_hoist rfl rfl rfl (ev_load Tryz.isAgg25 rfl rfl) .free rfl (v_hoist rfl rfl rfl (ev_move rfl) .free rfl (v_mark rfl rfl (p_chg rfl (ev_bs0 Tryz.runUnderlying25 Tryz.sizeOf26) .free rfl rfl ?_))))
    rintro _ _ ⟨b28, rfl, rfl⟩
    refine go_conv (H' := VecU 0 (.slice (some ⟨b28, 0, none⟩) 0 0, []) :: _) (fun w hh => vec_row (xs := []) rfl rfl hh) (p_nil (v_on (v_mark rfl rfl (p_chg rfl (ch_append_vecs0 (yv := .slice qo (s.block c).1.rts.length co) (ys := (s.block c).1.rts) rfl rfl Tryz.runUnderlying25 Tryz.runUnderlying25 ⟨_, rfl⟩ Tryz.sizeOf26 Tryz.zeroValue26 rfl (fun _ => rfl) tb_26 rfl rfl (vec_slr 0 rfl) (by simp; omega)) .free rfl rfl ?_))))
    rintro nv2 _ ⟨hnv2, rfl⟩
    refine p_nil (v_on (v_mark rfl rfl (p_chg rfl (ch_append_vecs0 (yv := .slice q ws.length cap) (ys := ws) rfl rfl Tryz.runUnderlying25 Tryz.runUnderlying25 ⟨_, rfl⟩ Tryz.sizeOf26 Tryz.zeroValue26 rfl (fun _ => rfl) tb_26 rfl rfl hwl.up (by simp; omega)) .free rfl rfl ?_)))
    rintro nv3 _ ⟨hnv3, rfl⟩
    refine go_vecq fun qn cn hqn0 hqni => ?_
    subst hqn0
    have hqn : qn = none → (s.block c).1.rts ++ ws = [] := fun e => by
      cases hl : (s.block c).1.rts ++ ws with
      | nil => rfl
      | cons a t =>
        obtain ⟨b, o, h⟩ := hqni 0 (by show 0 < ((s.block c).1.rts ++ ws).length; rw [hl]; exact Nat.succ_pos _)
        rw [e] at h; cases h
    refine p_nil (v_on (v_mark rfl rfl (go_pk [1] ?_)))
    refine p_call rfl (en_f Tryz.call78 rfl) (cnew_ok B _ bd c hc (s.block c).1 hbk (.slice qo (s.block c).1.rts.length co) rfl qn cn ((s.block c).1.rts ++ ws) (by rw [List.length_append]; omega) hqn (vec_slr 1 rfl)) .free rfl rfl ?_ ?_
    rotate_left
    · rintro _ _ ⟨⟩
    rintro _ _ ⟨x, rfl, rfl⟩
    have hX0 : ColW (newCol bd c (s.block c).1 ((s.block c).1.rts ++ ws)) := newCol_w hc hbk hrl (block_rts hu) (fun v hv => by
      rcases List.mem_append.1 hv with hv | hv
      · exact block_rts hu v hv
      · exact hws v hv)
    refine p_nil (v_off rfl (v_val rfl rfl rfl (ev_assign rfl) .free rfl (v_nil (go_sb [12, 9, 8, 5, 0, 2] rfl (g_seq (g_region (kPm rfl rfl (go_pk [0, 2] ?_))))))))
    refine p_call rfl (en_f Tryz.call80 rfl) (crun_ok B _ x (newCol bd c (s.block c).1 ((s.block c).1.rts ++ ws)) hX0 s hu) .free rfl rfl ?_ ?_
    rotate_left
    · rintro _ _ ⟨s9, hm9, rfl, rfl⟩
      exact pan_fn fun w hh => ⟨_, ⟨s9, by unfold collectM; rw [if_neg (by omega)]; rw [hm9]; rfl, rfl, rfl⟩, hh.dp [1, 1, 1, 1]⟩
    rintro _ _ ⟨X, s1, hm1, rfl, rfl⟩
    obtain ⟨hX, hu1, hXb, hXbd, hXc, hXto⟩ := runN_w _ _ _ _ _ hX0 hu hm1
    have hn1 := run_n hm1
    refine p_nil (g_seq (g_seq (g_region (kPm rfl rfl (kPv (ev_loadA Tryz.isAgg40 Tryz.sizeOf40 rfl rfl) rfl ?_)))))
    refine kPm rfl rfl (kPm rfl rfl (go_pk [5, 0, 0] ?_))
    refine p_call rfl (en_f Tryz.call141 rfl) (flip_ok B _ bs x bd S X hX (by rw [hXb]; exact hrl0) c s1 hu1 ⟨hK.w, by rw [hn1]; exact hK.n, hK.d, hK.c⟩) .free rfl rfl ?_ ?_
    rotate_left
    · rintro _ _ ⟨s9, hm9, rfl, rfl⟩
      exact pan_fn fun w hh => ⟨_, ⟨s9, by unfold collectM; rw [if_neg (by omega)]; rw [hm1]; simp only [then_ok]; rw [hm9]; rfl, rfl, rfl⟩, hh.dp [1, 1, 1]⟩
    rintro _ _ ⟨a2, S2, s2, hm2, rfl, rfl⟩
    refine kPa rfl rfl (p_nil (go_sb [13, 12, 9, 8] rfl (g_seq (g_region (kPm rfl rfl (kPv (ev_cmp rfl rfl rfl) rfl (p_nil ?_)))))))
    refine g_if rfl (fun h43 => ?_) (fun h43 => ?_)
    · have ha2 : a2 ≠ 0 := by simpa using h43
      refine g_seq (g_region (kPm rfl rfl (kPa rfl rfl (kPa rfl rfl (p_nil (g_ret ?_))))))
      exact ret_tmp2 Tryz.results163 rfl rfl (fun w hh => ⟨_, ⟨(none, a2, S2), s2, by unfold collectM; rw [if_neg (by omega), hm1]; simp only [then_ok]; rw [hm2]; simp only [then_ok]; rw [if_pos ha2], .inl ⟨rfl, rfl, rfl⟩⟩, (hh.dp [1, 2, 2, 2])⟩)
    · have ha2 : ¬ a2 ≠ 0 := by simpa using h43
      refine g_skip (g_seq (g_region (kPm rfl rfl (kPa rfl rfl (kPa rfl rfl (p_nil (g_ret ?_)))))))
      exact ret_tmp2 Tryz.results163 rfl rfl (fun w hh => ⟨_, ⟨(some X, 0, S2), s2, by unfold collectM; rw [if_neg (by omega), hm1]; simp only [then_ok]; rw [hm2]; simp only [then_ok]; rw [if_neg ha2], .inr ⟨x, X, rfl, rfl, rfl, rfl⟩⟩, ((hh.dp [3, 3, 3]).pk [1])⟩)
end Go.Proofs.YtlcibdhmgclfjaaGreat
namespace Go.Proofs.YtlcibdhmgclfjaaGreat
open Go
theorem truncate_k {L L' : LogS} {s s' : Dev} (hL : LogW L) (e : L.truncate s = .ok L' s') : (U64 s → U64 s') ∧ s'.n = s.n ∧ LogW L' ∧ L'.d = L.d ∧ L'.c = L.c ∧ L'.n = 0 := by
  unfold LogS.truncate at e
  split at e
  · rename_i h; cases e; exact ⟨id, rfl, hL, rfl, rfl, h⟩
  obtain ⟨_, s1, e1, e⟩ := then_inv e
  obtain ⟨_, s2, e2, e⟩ := then_inv e
  obtain ⟨_, s3, e3, e⟩ := then_inv e
  cases e
  have h1 := hL.c.l1; have h2 := hL.c.r1
  refine ⟨fun hu => ?_, ((fence_n e3).trans (flush_n e2)).trans (store_n e1), ⟨hL.c, by simp only; omega, by simp only; omega, Int.le_refl 0, by simp only; omega⟩, rfl, rfl, rfl⟩
  exact (fence_u64 (flush_u64 (store_u64 hu (by omega) e1).1 e2).1 e3).1
theorem recN_k {c : Cfg} : ∀ (k : Nat) (s s' : Dev), recN undoS c k s = .ok () s' → (U64 s → U64 s') ∧ s'.n = s.n
  | 0, s, s', e => by cases e; exact ⟨id, rfl⟩
  | k + 1, s, s', e => by
    unfold recN at e
    obtain ⟨_, s1, e1, e⟩ := then_inv e
    unfold undoS at e1
    obtain ⟨_, s2, e2, e1⟩ := then_inv e1
    obtain ⟨_, s3, e3, e1⟩ := then_inv e1
    cases e1
    obtain ⟨g1, g2⟩ := recN_k k s1 s' e
    exact ⟨fun hu => g1 (flush_u64 (store_u64 hu (hu.load _) e2).1 e3).1, g2.trans ((flush_n e3).trans (store_n e2))⟩
theorem undo_k {L L' : LogS} {s s' : Dev} (hL : LogW L) (e : L.undo s = .ok L' s') : (U64 s → U64 s') ∧ s'.n = s.n ∧ LogW L' ∧ L'.d = L.d ∧ L'.c = L.c ∧ L'.n = 0 := by
  unfold LogS.undo at e
  obtain ⟨_, s1, e1, e⟩ := then_inv e
  obtain ⟨_, s2, e2, e⟩ := then_inv e
  obtain ⟨g1, g2⟩ := recN_k _ _ _ e1
  obtain ⟨h1, h2, h3, h4, h5, h6⟩ := truncate_k hL e
  have k : (U64 s1 → U64 s2) ∧ s2.n = s1.n := by
    split at e2
    · exact ⟨fun hu => (fence_u64 hu e2).1, fence_n e2⟩
    · cases e2; exact ⟨id, rfl⟩
  exact ⟨fun hu => h1 (k.1 (g1 hu)), (h2.trans k.2).trans g2, h3, h4, h5, h6⟩
theorem flushAll_k : ∀ (l : List Int) (s s' : Dev), flushAll l s = .ok () s' → (U64 s → U64 s') ∧ s'.n = s.n
  | [], s, s', e => by cases e; exact ⟨id, rfl⟩
  | k :: ks, s, s', e => by
    unfold flushAll at e
    obtain ⟨_, s1, e1, e⟩ := then_inv e
    obtain ⟨g1, g2⟩ := flushAll_k ks s1 s' e
    exact ⟨fun hu => g1 (flush_u64 hu e1).1, g2.trans (flush_n e1)⟩
theorem commit_k {S S' : SecS} {s s' : Dev} (hL : LogW S.L) (e : S.commit s = .ok S' s') : (U64 s → U64 s') ∧ s'.n = s.n ∧ LogW S'.L ∧ S'.L.d = S.L.d ∧ S'.L.c = S.L.c ∧ S'.L.n = 0 := by
  unfold SecS.commit at e
  obtain ⟨_, s1, e1, e⟩ := then_inv e
  obtain ⟨_, s2, e2, e⟩ := then_inv e
  obtain ⟨_, s3, e3, e⟩ := then_inv e
  cases e
  obtain ⟨g1, g2⟩ := flushAll_k _ _ _ e1
  obtain ⟨h1, h2, h3, h4, h5, h6⟩ := truncate_k hL e3
  have k : (U64 s1 → U64 s2) ∧ s2.n = s1.n := by
    split at e2
    · exact ⟨fun hu => (fence_u64 hu e2).1, fence_n e2⟩
    · cases e2; exact ⟨id, rfl⟩
  exact ⟨fun hu => h1 (k.1 (g1 hu)), (h2.trans k.2).trans g2, h3, h4, h5, h6⟩
theorem abort_k {S S' : SecS} {s s' : Dev} (hL : LogW S.L) (e : S.abort s = .ok S' s') : (U64 s → U64 s') ∧ s'.n = s.n ∧ LogW S'.L ∧ S'.L.d = S.L.d ∧ S'.L.c = S.L.c ∧ S'.L.n = 0 := by
  unfold SecS.abort at e
  obtain ⟨_, s1, e1, e⟩ := then_inv e
  cases e
  exact undo_k hL e1
theorem writeN_k : ∀ (l : List Int) (i : Int) (S S' : SecS) (s s' : Dev) (a : Int), (∀ v ∈ l, 0 ≤ v ∧ v < 18446744073709551616) → SecW S → U64 s → s.n ≤ 1000000 → writeN secOp l i s S = .ok (a, S') s' → U64 s' ∧ s'.n = s.n ∧ LogW S'.L ∧ S'.L.d = S.L.d ∧ S'.L.c = S.L.c
  | [], i, S, S', s, s', a, _, hS, hu, _, e => by cases e; exact ⟨hu, rfl, hS.L, rfl, rfl⟩
  | v :: vs, i, S, S', s, s', a, hv, hS, hu, hn, e => by
    unfold writeN at e
    split at e
    · exact writeN_k vs _ _ _ _ _ _ (fun v hv' => hv v (List.mem_cons_of_mem _ hv')) hS hu hn e
    · obtain ⟨⟨x, S1⟩, s1, e1, e⟩ := then_inv e
      have h1 := sstore_u64 hS hu hn (hv v (List.mem_cons_self ..)) e1
      have h2 := store_lw hS.L e1
      have h3 := store_dc e1
      have h4 : SecW S1 := store_w hS hn (by have := (act_b hS.L.c).1; omega) e1 h2
      split at e
      · cases e; exact ⟨h1.1, h1.2, h2, h3.1, h3.2.1⟩
      · obtain ⟨g1, g2, g3, g4, g5⟩ := writeN_k vs _ _ _ _ _ _ (fun v hv' => hv v (List.mem_cons_of_mem _ hv')) h4 h1.1 (by rw [h1.2]; exact hn) e
        exact ⟨g1, g2.trans h1.2, g3, g4.trans h3.1, g5.trans h3.2.1⟩
theorem fresh_w {S : SecS} (h : LogW S.L) (f t : Int) : SecW (S.fresh f t) := ⟨h, fun p hp => (List.not_mem_nil (show p ∈ ([] : List (Int × Unit)) from hp)).elim⟩
theorem flip_k {c : Cfg} {b : Blk} {S S' : SecS} {s s' : Dev} {a : Int} (hb : ∀ v ∈ b.act :: b.used :: b.rts, 0 ≤ v ∧ v < 18446744073709551616) (hL : LogW S.L) (hu : U64 s) (hn : s.n ≤ 1000000) (e : flipM c b S s = .ok (a, S') s') : U64 s' ∧ s'.n = s.n ∧ LogW S'.L ∧ S'.L.d = S.L.d ∧ S'.L.c = S.L.c ∧ S'.L.n = 0 := by
  unfold flipM writeM at e
  obtain ⟨⟨x, S1⟩, s1, e1, e⟩ := then_inv e
  obtain ⟨g1, g2, g3, g4, g5⟩ := writeN_k _ _ _ _ _ _ _ hb (fresh_w hL 0 0) hu hn e1
  split at e
  · obtain ⟨S2, s2, e2, e⟩ := then_inv e
    cases e
    obtain ⟨h1, h2, h3, h4, h5, h6⟩ := abort_k g3 e2
    exact ⟨h1 g1, h2.trans g2, h3, h4.trans g4, h5.trans g5, h6⟩
  · obtain ⟨S2, s2, e2, e⟩ := then_inv e
    cases e
    obtain ⟨h1, h2, h3, h4, h5, h6⟩ := commit_k g3 e2
    exact ⟨h1 g1, h2.trans g2, h3, h4.trans g4, h5.trans g5, h6⟩
theorem colblk_w {X : ColS} (h : ColW X) : ∀ v ∈ X.block.act :: X.block.used :: X.block.rts, 0 ≤ v ∧ v < 18446744073709551616 := fun v hv => by
  have h1 := h.b.act; have h2 := h.free; have h3 := h.fb; have h4 := h.to_
  simp only [List.mem_cons] at hv
  rcases hv with rfl | rfl | hv
  · simp only [ColS.block]; omega
  · simp only [ColS.block]; omega
  · obtain ⟨u, _, rfl⟩ := List.mem_map.1 hv
    have := h.vb u
    omega
theorem collect_k {bd : Nat} {c : Cfg} {S : SecS} {s s' : Dev} {ws : List Int} {r : Option ColS × Int × SecS} (hc : CfgW c) (hw : ∀ v ∈ ws, 0 ≤ v ∧ v < 18446744073709551616) (hL : LogW S.L) (hu : U64 s) (hn : s.n ≤ 1000000) (hL0 : S.L.n = 0) (e : collectM bd c S s ws = .ok r s') : U64 s' ∧ s'.n = s.n ∧ LogW r.2.2.L ∧ r.2.2.L.d = S.L.d ∧ r.2.2.L.c = S.L.c ∧ r.2.2.L.n = 0 ∧ (∀ X, r.1 = some X → ColW X) := by
  unfold collectM at e
  split at e
  · cases e; exact ⟨hu, rfl, hL, rfl, rfl, hL0, fun _ h => by cases h⟩
  obtain ⟨X, s1, e1, e⟩ := then_inv e
  have hX0 : ColW (newCol bd c (s.block c).1 ((s.block c).1.rts ++ ws)) := newCol_w hc (block_w hc hu) (block_len hc) (block_rts hu) fun v hv => by
    rcases List.mem_append.1 hv with hv | hv
    · exact block_rts hu v hv
    · exact hw v hv
  obtain ⟨hX, u1, _⟩ := runN_w _ _ _ _ _ hX0 hu e1
  have n1 := run_n e1
  obtain ⟨⟨a, S2⟩, s2, e2, e⟩ := then_inv e
  obtain ⟨g1, g2, g3, g4, g5, g6⟩ := flip_k (colblk_w hX) hL u1 (by rw [n1]; exact hn) e2
  split at e
  · cases e; exact ⟨g1, g2.trans n1, g3, g4, g5, g6, fun _ h => by cases h⟩
  · cases e; exact ⟨g1, g2.trans n1, g3, g4, g5, g6, fun X' h => by cases h; exact hX⟩
end Go.Proofs.YtlcibdhmgclfjaaGreat
namespace Go.Proofs.YtlcibdhmgclfjaaGreat
open Go
theorem mkeysi_ok (B : World) (H : List HP) (r : Nat) :
    ∀ w, Holds B H w → Calls Tryz.prog 139 [.map (some r)].toArray w (Ret B (fun v H' => ∃ bb, v = .func (.func 174) [].toArray [ptr bb].toArray ∧ H' = row bb [.map (some r)] 159 :: H) (fun _ _ => False)) := by
  refine fn_enter Tryz.func139 rfl Tryz.ntmps139 rfl (g_seq (g_region (p_chg rfl (ch_box1 rfl rfl) .free rfl rfl ?_)))
  rintro _ _ ⟨b1, rfl, rfl⟩
  refine kPa rfl rfl (p_nil (g_seq (g_region (kPv (ev_mkf rfl rfl) rfl (kPa rfl rfl (p_nil (g_ret ?_)))))))
  exact ret_tmp Tryz.results139 rfl (fun w hw => ⟨_, ⟨_, rfl, rfl⟩, hw⟩)
theorem mkeysi1_ok (B : World) (Fr : List HP) (l f mr bb b2 : Nat) (ml : List (Int × Int)) (r : Loop) (hrf : r.fn = f) (hrp : r.params.size = 1) (hround : ∀ (A1 A2 : HP) (v : Int) (xs : List Int), xs.length < ml.length → ∀ w, Holds B (blk l (.loop r) :: A1 :: A2 :: AccA b2 xs :: Fr) w → RoundIn (Wd (cxF f)) 0 Tryz.prog l f ((r.params.zip [i64 v].toArray).foldl (fun tmps (t, a) => tmps.setIfInBounds t a) r.tmps) r.assign r.body w (Ret B (fun rv H' => rv = .bool true ∧ H' = blk l (.loop r) :: A1 :: A2 :: AccA b2 (xs ++ [v]) :: Fr) (fun _ _ => False))) :
    ∀ w, Holds B (blk l (.loop r) :: row bb [.map (some mr)] 159 :: mapA .i64 i64 mr ml :: AccA b2 [] :: Fr) w → Calls Tryz.prog 174 [.func (.yield l) #[] #[], ptr bb].toArray w (Ret B (fun rv H' => ∃ ks : List Int, ks.Perm (ml.map Prod.fst) ∧ H' = blk l (.loop r) :: row bb [.map (some mr)] 159 :: mapA .i64 i64 mr ml :: AccA b2 ks :: Fr) (fun _ _ => False)) := by
  refine fn_enter Tryz.func174 rfl Tryz.ntmps174 rfl (g_seq (g_region (kPv (ev_load Tryz.isAgg159 rfl rfl) rfl (p_chg rfl (ch_range Tryz.runUnderlying159 rfl) .free rfl rfl ?_))))
  rintro _ _ ⟨it, rfl, rfl⟩
  refine p_nil (g_block (g_loop (ι := List (Int × Int)) (fun d => d.length ≤ ml.length) (fun d => [(0, .func (.yield l) #[] #[]), (1, ptr bb), (5, .pointer (some ⟨it, 0, none⟩))]) (fun done => blk l (.loop r) :: row bb [.map (some mr)] 159 :: iterA .i64 i64 mr it ml done :: AccA b2 (done.map Prod.fst) :: Fr) (fun d => ml.length - d.length) [] (Nat.zero_le _) (fun a w st => st.to ⟨rfl, rfl, rfl, trivial⟩ id) ?_))
  intro done hdone
  refine g_seq (g_region (p_chg rfl (ch_next rfl) .free rfl rfl ?_))
  rintro _ _ ⟨bb0, vs, done', rfl, hvs, rfl, hno, hyes⟩
  refine kPv (ev_ext rfl hvs) rfl (p_nil (g_seq ?_))
  refine g_if rfl (fun h7 => ?_) (fun h7 => ?_)
  · obtain ⟨pp, hpl, hpn, rfl⟩ := hyes h7
    refine go_iter it fun hl hd hsub => (g_skip (g_block (g_seq (g_region (kPv (ev_entry (p0 := pp) (dn := done) rfl) rfl (kPv (ev_ext rfl rfl) rfl (kPa rfl rfl (p_nil (g_seq (g_region (kPm rfl rfl ?_)))))))))))
    refine kPm rfl rfl ?_
    refine p_yield (f := f) rfl rfl (fun w hw => hw) (by rw [hrp]; rfl) hrf (hround _ _ _ _ (by have := iter_le hd hsub; simp; omega)) .free rfl ?_ ?_
    rotate_left
    · rintro _ _ ⟨⟩
    rintro _ _ ⟨rfl, rfl⟩
    refine kPv (ev_not rfl) rfl (p_nil (go_sb [13, 5, 0, 1] rfl (g_iff rfl (rfl) (g_skip ?_))))
    have hle := iter_le hd hsub
    exact fun a w st => ⟨done ++ [pp], by simp; omega, by simp; omega, st.to ⟨rfl, rfl, rfl, trivial⟩ (fun hh => by rw [List.map_append]; exact hh)⟩
  · obtain ⟨rfl, hall⟩ := hno h7
    refine go_iter it fun hl hd hsub => (go_conv (fun w hh => hh.iter_end it) (g_exit ?_))
    exact end_none Tryz.results174 (fun w hh => ⟨_, ⟨_, (List.perm_ext_iff_of_nodup hd hl).2 fun x => ⟨fun hx => by obtain ⟨p, hp, rfl⟩ := List.mem_map.1 hx; exact List.mem_map_of_mem (hsub p hp), fun hx => by obtain ⟨p, hp, rfl⟩ := List.mem_map.1 hx; exact List.mem_map_of_mem (hall p hp)⟩, rfl⟩, hh⟩)
theorem appseqi_ok (B : World) (Fr : List HP) (mr bb : Nat) (ml : List (Int × Int)) (hml : ml.length ≤ 1000000) :
    ∀ w, Holds B (row bb [.map (some mr)] 159 :: mapA .i64 i64 mr ml :: Fr) w → Calls Tryz.prog 183 [.slice none 0 0, .func (.func 174) [].toArray [ptr bb].toArray].toArray w (Ret B (fun rv H' => ∃ ks : List Int, ks.Perm (ml.map Prod.fst) ∧ H' = AccV 0 (rv, ks) :: mapA .i64 i64 mr ml :: Fr) (fun _ _ => False)) := by
  refine fn_enter_m Tryz.func183 rfl Tryz.ntmps183 rfl (g_seq (g_region (p_chg rfl (ch_box1 rfl rfl) .free rfl rfl ?_)))
  rintro _ _ ⟨b2, rfl, rfl⟩
  refine kPa rfl rfl (p_nil (g_seq (g_seq (g_region (kPm rfl rfl (p_nil (g_block ?_)))))))
  refine g_range0 (ι := List Int) (fun ks => row bb [.map (some mr)] 159 :: mapA .i64 i64 mr ml :: AccA b2 ks :: Fr) (fun ks => ks.Perm (ml.map Prod.fst)) (fun _ => False) [] rfl Tryz.call174 ?_ ?_ ?_
  · intro l m tmps hts hkn w hh
    have hk2 := hkn 2 _ rfl
    refine (mkeysi1_ok B (blk m (.deferred (some [])) :: Fr) l 183 mr bb b2 ml _ rfl rfl ?_ w (((((acc_nil ((((hh.front 4 rfl).front 4 rfl).front 2 rfl).front 4 rfl)).front 0 rfl).front 3 rfl).front 3 rfl).front 3 rfl)).mono (Ret.mono ?_ ?_)
    rotate_left
    · rintro v H' ⟨ks, hks, rfl⟩
      exact ⟨ks, hks, fun w hh => ((hh.front 4 rfl).front 1 rfl)⟩
    · rintro c H' ⟨⟩
    intro A1 A2 v xs hxs
    have hxs : xs.length ≤ 1000000 := by omega
    refine round_go (n := 13) (σ := [(7, i64 v), (2, ptr b2)]) Tryz.func183 (by simp [lrec, hts]) (KnA.knows (by simp [KnA, lrec, hts]; exact (Array.getElem?_eq_some_iff.1 hk2).2)) rfl ?_; refine g_region ?_; refine kPa rfl rfl ?_; refine p_nil ?_; refine go_mid ?_; refine go_front 3 rfl ?_
    refine go_acc (fun hxe => ?_) (fun bd rest => ?_)
    · subst hxe
      refine g_block (g_region (kPv (ev_load Tryz.isAgg125 rfl rfl) rfl (kPm rfl rfl (p_chg rfl (ch_bs1 Tryz.runUnderlying125 Tryz.sizeOf3 Tryz.zeroValue3 rfl rfl rfl) .free rfl rfl ?_))))
      rintro _ _ ⟨b1, rfl, rfl⟩
      refine p_chg rfl (ch_append_nil rfl rfl Tryz.runUnderlying125 Tryz.runUnderlying125 ⟨_, rfl⟩ Tryz.sizeOf3 Tryz.zeroValue3 rfl tb_3 rfl rfl (SlR.row (xs := [i64 v]) rfl rfl) (by simp) (by simp)) .free rfl rfl ?_
      rintro _ _ ⟨bn, cn, rest', hcn, hrest, rfl, rfl⟩
      refine p_chg0 rfl (ch_store Tryz.sizeOf125 rfl rfl rfl rfl) .free rfl ?_
      rintro _ _ rfl
      refine p_nil (go_sb [] rfl (go_front 3 rfl ?_))
      exact go_rK fun w hh => ⟨_, ⟨rfl, rfl⟩, ((((((acc_row (xs := [] ++ [v]) (by simp) (by first | omega | (simp at *; omega)) ((hh.front 1 rfl).front 3 rfl)).front 2 rfl).tail.front 0 rfl).front 3 rfl).front 3 rfl).front 3 rfl)⟩
    · skip
      refine g_block (g_region (kPv (ev_load Tryz.isAgg125 rfl rfl) rfl (kPm rfl rfl (p_chg rfl (ch_bs1 Tryz.runUnderlying125 Tryz.sizeOf3 Tryz.zeroValue3 rfl rfl rfl) .free rfl rfl ?_))))
      rintro _ _ ⟨b1, rfl, rfl⟩
      refine p_chg rfl (ch_append rfl rfl Tryz.runUnderlying125 Tryz.runUnderlying125 ⟨_, rfl⟩ Tryz.sizeOf3 Tryz.zeroValue3 rfl tb_3 rfl rfl (SlR.row (xs := [i64 v]) rfl rfl) (by simp) (by omega) (by simp; omega) rfl) .free rfl rfl (fun v2 H2 hY => ?_)
      revert hY
      generalize hob : Obj.loop _ = ob
      intro hY
      have hY2 : ∃ bn c' rest', c' = xs.length + 1 + rest'.length ∧ v2 = .slice (some ⟨bn, 0, none⟩) (xs.length + 1) c' ∧ ∀ w, Holds B H2 w → Holds B (row b2 [.slice (some ⟨bd, 0, none⟩) xs.length (xs.length + rest.length)] 125 :: row bn ((xs ++ [v]).map i64 ++ rest') 3 :: blk l ob :: A1 :: A2 :: blk m (.deferred (some [])) :: Fr) w := by
        rcases hY with ⟨h1, rfl, rfl⟩ | ⟨h1, bn, cn, rest', h2, _, rfl, rfl⟩
        · refine ⟨bd, _, rest.drop 1, by simp at h1 ⊢; omega, rfl, fun w hh => ?_⟩
          have h3 := hh.tail
          rw [acc_put (by simp at h1; omega)] at h3
          exact h3
        · refine ⟨bn, _, rest', by simpa using h2.symm, rfl, fun w hh => ?_⟩
          have h3 := ((((hh.front 1 rfl).tail).front 2 rfl).tail).front 1 rfl
          have e : (xs ++ [v]).map i64 ++ rest' = ((xs.map i64 ++ rest).drop 0).take xs.length ++ [i64 v] ++ rest' := by simp
          rw [e]
          exact h3
      obtain ⟨bn, c', rest', hc', rfl, hY3⟩ := hY2
      refine go_conv hY3 (p_chg0 rfl (ch_store Tryz.sizeOf125 rfl rfl rfl rfl) .free rfl ?_)
      rintro _ _ rfl
      refine p_nil (go_sb [] rfl ?_)
      subst hob
      refine go_front 2 rfl ?_
      exact go_rK fun w hh => ⟨_, ⟨rfl, rfl⟩, (((((acc_row (xs := xs ++ [v]) (by simp) (by first | omega | (simp at *; omega)) ((hh.front 2 rfl).front 2 rfl)).front 0 rfl).front 3 rfl).front 3 rfl).front 3 rfl)⟩
  rotate_left
  · rintro m x ⟨⟩
  intro m ks hks
  refine go_front 3 rfl (go_acco fun sv => (g_seq (g_region (kPv (ev_load Tryz.isAgg125 rfl rfl) rfl (kPa rfl rfl (p_nil (g_ret ?_)))))))
  exact ret_tmp_m Tryz.results183 rfl (.cons (i := 2) rfl .nil) (fun w hh => ⟨_, ⟨ks, hks, rfl⟩, (((hh.front 3 rfl).front 3 rfl).front 2 rfl).tail.tail.tail⟩)
theorem collecti_ok (B : World) (Fr : List HP) (mr bb : Nat) (ml : List (Int × Int)) (hml : ml.length ≤ 1000000) :
    ∀ w, Holds B (row bb [.map (some mr)] 159 :: mapA .i64 i64 mr ml :: Fr) w → Calls Tryz.prog 166 [.func (.func 174) [].toArray [ptr bb].toArray].toArray w (Ret B (fun rv H' => ∃ ks : List Int, ks.Perm (ml.map Prod.fst) ∧ H' = AccV 0 (rv, ks) :: mapA .i64 i64 mr ml :: Fr) (fun _ _ => False)) := by
  refine fn_enter Tryz.func166 rfl Tryz.ntmps166 rfl (g_seq (g_region (kPa rfl rfl (p_nil (g_seq (g_region (kPm rfl rfl ?_)))))))
  refine p_call rfl (en_f Tryz.call183 rfl) (appseqi_ok _ _ mr bb ml hml) .free rfl rfl ?_ ?_
  rotate_left
  · rintro _ _ ⟨⟩
  rintro _ _ ⟨ks, hks, rfl⟩
  refine kPa rfl rfl (p_nil (g_ret ?_))
  exact ret_tmp Tryz.results166 rfl (fun w hw => ⟨_, ⟨ks, hks, rfl⟩, hw⟩)
theorem sortedi_ok (B : World) (Fr : List HP) (mr bb : Nat) (ml : List (Int × Int)) (hml : ml.length ≤ 1000000) :
    ∀ w, Holds B (row bb [.map (some mr)] 159 :: mapA .i64 i64 mr ml :: Fr) w → Calls Tryz.prog 124 [.func (.func 174) [].toArray [ptr bb].toArray].toArray w (Ret B (fun rv H' => H' = AccV 0 (rv, sortI (ml.map Prod.fst)) :: mapA .i64 i64 mr ml :: Fr) (fun _ _ => False)) := by
  refine fn_enter Tryz.func124 rfl Tryz.ntmps124 rfl (g_seq (g_region (kPa rfl rfl (p_nil (g_seq (g_region (kPm rfl rfl ?_)))))))
  refine p_call rfl (en_f Tryz.call166 rfl) (collecti_ok _ _ mr bb ml hml) .free rfl rfl ?_ ?_
  rotate_left
  · rintro _ _ ⟨⟩
  rintro v5 _ ⟨ks, hks, rfl⟩
  have hkl : ks.length ≤ 1000000 := by rw [hks.length_eq, List.length_map]; exact hml
  refine kPa rfl rfl (p_nil (g_seq (g_region (kPm rfl rfl ?_))))
  refine p_call rfl (en_f Tryz.call167 rfl) (ssort_ok _ _ _ ks hkl) .free rfl rfl ?_ ?_
  rotate_left
  · rintro _ _ ⟨⟩
  rintro _ _ rfl
  refine p_nil (g_seq (g_region (kPm rfl rfl (kPa rfl rfl (p_nil (go_sb [2] rfl (g_ret ?_)))))))
  exact ret_tmp Tryz.results124 rfl (fun w hw => ⟨_, rfl, by rw [← sortI_perm hks]; exact hw⟩)
end Go.Proofs.YtlcibdhmgclfjaaGreat
namespace Go.Proofs.YtlcibdhmgclfjaaGreat
open Go
structure TabS where
  at_ : List (Int × Int)
  no : List (Int × Int)
  last : Int
def TabA (b : Nat) (T : TabS) : HP := hex fun (x : Nat × Nat) => grp [row b [.map (some x.1), .map (some x.2), i64 T.last] 161, mapA .i64 i64 x.1 T.at_, mapA .i64 i64 x.2 T.no]
theorem go_tab {B : World} {n : Nat} {D : List Deferred} {σ : Env} {b : Nat} {T : TabS} {Fr : List HP} {K : Act → World → Prop} (h : ∀ b1 b2, GO B n D σ (row b [.map (some b1), .map (some b2), i64 T.last] 161 :: mapA .i64 i64 b1 T.at_ :: mapA .i64 i64 b2 T.no :: Fr) K) : GO B n D σ (TabA b T :: Fr) K := fun a w st => by
  obtain ⟨x, hx⟩ := st.holds.hex
  exact h _ _ a w ⟨st.toStA, hx.grp⟩
theorem tab_holds {B : World} {b b1 b2 : Nat} {T : TabS} {Fr : List HP} {w : World} (h : Holds B (row b [.map (some b1), .map (some b2), i64 T.last] 161 :: mapA .i64 i64 b1 T.at_ :: mapA .i64 i64 b2 T.no :: Fr) w) : Holds B (TabA b T :: Fr) w :=
  Holds.unhex (b1, b2) (Holds.ungrp (l := [row b [.map (some b1), .map (some b2), i64 T.last] 161, mapA .i64 i64 b1 T.at_, mapA .i64 i64 b2 T.no]) h)
theorem hnew_ok (B : World) (H : List HP) :
    ∀ w, Holds B H w → Calls Tryz.prog 70 [].toArray w (Ret B (fun rv H' => ∃ b, rv = ptr b ∧ H' = TabA b ⟨[], [], 0⟩ :: H) (fun _ _ => False)) := by
  refine fn_enter Tryz.func70 rfl Tryz.ntmps70 rfl (g_seq (g_region (kPa rfl rfl (p_nil (g_seq (g_region (p_chg rfl (ch_makeMap .i64 i64) .free rfl rfl ?_)))))))
  rintro _ _ ⟨b1, rfl, rfl⟩
  refine p_chg rfl (ch_makeMap .i64 i64) .free rfl rfl ?_
  rintro _ _ ⟨b2, rfl, rfl⟩
  refine p_val rfl (ev_build rfl (bld_161_0_1 _ _ (by first | rfl | assumption) (by first | rfl | assumption))) .free rfl rfl ?_; refine p_chg rfl (ch_boxA rfl) .free rfl rfl ?_
  rintro _ _ ⟨b4, rfl, rfl⟩
  refine kPa rfl rfl (p_nil (g_ret ?_))
  exact ret_tmp Tryz.results70 rfl (fun w hh => ⟨_, ⟨_, rfl, rfl⟩, tab_holds (T := ⟨[], [], 0⟩) ((hh.front 2 rfl).back 1 (by simp))⟩)
theorem hplace_ok (B : World) (Fr : List HP) (b : Nat) (T : TabS) (n : Int) :
    ∀ w, Holds B (TabA b T :: Fr) w → Calls Tryz.prog 121 [ptr b, i64 n].toArray w (PureR B (TabA b T :: Fr) (.tuple #[i64 ((mget T.at_ n).getD 0), .bool (mget T.at_ n).isSome])) := by
  refine fn_enter Tryz.func121 rfl Tryz.ntmps121 rfl (go_tab fun b1 b2 => (g_seq (g_region (kPa rfl rfl (kPa rfl rfl (p_nil (g_seq (g_region (kPm rfl rfl ?_)))))))))
  first | refine kPv (ev_nil rfl) rfl ?_ | refine kPv (ev_nilf rfl) rfl ?_
  refine kPv (ev_fa (m := _) fa_161_0 rfl rfl) rfl (kPv (ev_load Tryz.isAgg159 rfl rfl) rfl (kPm rfl rfl (kPv ((ev_lookup2 Tryz.runUnderlying159 Tryz.runUnderlying3 Tryz.zeroValue3 rfl rfl).eq (congrArg (fun v => Value.tuple #[v, .bool _]) (mval_i _))) rfl (kPm rfl rfl (kPv (ev_ext rfl rfl) rfl (kPv (ev_ext rfl rfl) rfl (kPa rfl rfl (kPa rfl rfl (p_nil (go_sb [7, 6, 5, 4] rfl (g_seq ?_)))))))))))
  refine g_region (kPm rfl rfl (kPm rfl rfl (kPa rfl rfl (kPa rfl rfl (p_nil (g_ret ?_))))))
  exact ret_tmp2 Tryz.results121 rfl rfl (fun w hh => ⟨rfl, tab_holds hh⟩)
theorem hdrop_ok (B : World) (Fr : List HP) (b : Nat) (T : TabS) (n : Int) :
    ∀ w, Holds B (TabA b T :: Fr) w → Calls Tryz.prog 83 [ptr b, i64 n].toArray w (Ret B (fun rv H' => rv = .bool (mget T.at_ n).isSome ∧ H' = TabA b ⟨mdel T.at_ n, if (mget T.at_ n).isSome = true then mdel T.no ((mget T.at_ n).getD 0) else T.no, T.last⟩ :: Fr) (fun _ _ => False)) := by
  refine fn_enter Tryz.func83 rfl Tryz.ntmps83 rfl (go_tab fun b1 b2 => (g_seq (g_region (kPa rfl rfl (p_nil (g_seq (g_region (kPm rfl rfl ?_))))))))
  first | refine kPv (ev_nil rfl) rfl ?_ | refine kPv (ev_nilf rfl) rfl ?_
  refine kPv (ev_fa (m := _) fa_161_0 rfl rfl) rfl (kPv (ev_load Tryz.isAgg159 rfl rfl) rfl (kPm rfl rfl (kPv ((ev_lookup2 Tryz.runUnderlying159 Tryz.runUnderlying3 Tryz.zeroValue3 rfl rfl).eq (congrArg (fun v => Value.tuple #[v, .bool _]) (mval_i _))) rfl (kPm rfl rfl (kPv (ev_ext rfl rfl) rfl (kPv (ev_ext rfl rfl) rfl (kPa rfl rfl (kPa rfl rfl (p_nil (go_sb [6, 5, 4, 0, 1] rfl (g_seq ?_)))))))))))
  refine g_region (kPm rfl rfl ?_)
  first | refine kPv (ev_nil rfl) rfl ?_ | refine kPv (ev_nilf rfl) rfl ?_
  refine kPv (ev_fa (m := _) fa_161_0 rfl rfl) rfl (kPv (ev_load Tryz.isAgg159 rfl rfl) rfl (kPm rfl rfl (p_chg0 rfl (ch_delete rfl Tryz.runUnderlying159 Tryz.runUnderlying3 rfl rfl) .free rfl ?_)))
  rintro _ _ rfl
  refine p_nil (g_seq (g_seq (g_region (kPm rfl rfl (p_nil ?_)))))
  refine g_if rfl (fun h21 => ?_) (fun h21 => ?_)
  · try simp only [decide_eq_true_eq, decide_eq_false_iff_not, Bool.not_eq_true', Bool.not_eq_false', Bool.or_eq_true, Bool.and_eq_true, Bool.and_eq_false_iff, Bool.or_eq_false_iff, beq_iff_eq, bne_iff_ne, beq_eq_false_iff_ne, bne_eq_false_iff_eq, ge_iff_le, gt_iff_lt, ne_eq] at h21
    refine g_region (kPm rfl rfl ?_)
    first | refine kPv (ev_nil rfl) rfl ?_ | refine kPv (ev_nilf rfl) rfl ?_
    refine kPv (ev_fa (m := _) fa_161_1 rfl rfl) rfl (kPv (ev_load Tryz.isAgg159 rfl rfl) rfl (kPm rfl rfl (p_chg0 rfl (ch_delete rfl Tryz.runUnderlying159 Tryz.runUnderlying3 rfl rfl) .free rfl ?_)))
    rintro _ _ rfl
    refine p_nil (go_sb [6, 4] rfl (g_seq (g_region (kPm rfl rfl (kPa rfl rfl (p_nil (g_ret ?_)))))))
    exact ret_tmp Tryz.results83 rfl (fun w hh => ⟨_, ⟨rfl, rfl⟩, by rw [if_pos h21]; exact tab_holds hh⟩)
  · try simp only [decide_eq_true_eq, decide_eq_false_iff_not, Bool.not_eq_true', Bool.not_eq_false', Bool.or_eq_true, Bool.and_eq_true, Bool.and_eq_false_iff, Bool.or_eq_false_iff, beq_iff_eq, bne_iff_ne, beq_eq_false_iff_ne, bne_eq_false_iff_eq, ge_iff_le, gt_iff_lt, ne_eq] at h21
    refine g_skip (g_seq (g_region (kPm rfl rfl (kPa rfl rfl (p_nil (go_sb [4] rfl (g_ret ?_)))))))
    exact ret_tmp Tryz.results83 rfl (fun w hh => ⟨_, ⟨rfl, rfl⟩, by rw [if_neg (by rw [h21]; decide)]; exact tab_holds hh⟩)
theorem mset_new {α : Type} {k : Int} {z u : α} : ∀ {l : List (Int × α)}, (∀ p ∈ l, p.1 ≠ k) → mset (l ++ [(k, z)]) k u = l ++ [(k, u)]
  | [], _ => by simp [mset]
  | p :: l, h => by
    simp only [List.cons_append, mset]
    rw [if_neg (h p (List.mem_cons_self ..)), mset_new fun q hq => h q (List.mem_cons_of_mem _ hq)]
theorem mset_entry {α : Type} {k : Int} {z u : α} {l : List (Int × α)} : mset (mentry l k z) k u = mset l k u := by
  unfold mentry
  cases hc : mfind l k 0 with
  | none => rw [mfind_none hc]; exact mset_new (mfind_notin hc)
  | some v => rfl
def TabS.take (T : TabS) (p : Int) : Int × TabS :=
  if p = 0 then (0, T) else if (mget T.no p).isSome = true then ((mget T.no p).getD 0, T)
  else (T.last + 1, ⟨mset T.at_ (T.last + 1) p, mset T.no p (T.last + 1), T.last + 1⟩)
theorem htake_ok (B : World) (Fr : List HP) (b : Nat) (T : TabS) (p : Int) (hT : 0 ≤ T.last ∧ T.last ≤ 1000000000) :
    ∀ w, Holds B (TabA b T :: Fr) w → Calls Tryz.prog 57 [ptr b, i64 p].toArray w (Ret B (fun rv H' => rv = i64 (T.take p).1 ∧ H' = TabA b (T.take p).2 :: Fr) (fun _ _ => False)) := by
  refine fn_enter Tryz.func57 rfl Tryz.ntmps57 rfl (go_tab fun b1 b2 => (g_seq (g_region (kPa rfl rfl (p_nil (g_seq (g_seq (g_region (kPm rfl rfl (kPv (ev_cmp rfl rfl rfl) rfl (p_nil ?_)))))))))))
  refine g_if rfl (fun h8 => ?_) (fun h8 => ?_)
  · have hk : p = 0 := by simpa using h8
    have hres : T.take p = (0, T) := by unfold TabS.take; rw [if_pos hk]
    refine g_seq (g_region (kPa rfl rfl (p_nil (g_ret ?_))))
    exact ret_tmp Tryz.results57 rfl (fun w hh => ⟨_, ⟨by rw [hres], rfl⟩, by rw [hres]; exact tab_holds hh⟩)
  · have hk : ¬ p = 0 := by simpa using h8
    refine g_skip (g_seq (g_seq (g_region (kPm rfl rfl ?_))))
    first | refine kPv (ev_nil rfl) rfl ?_ | refine kPv (ev_nilf rfl) rfl ?_
    refine kPv (ev_fa (m := _) fa_161_1 rfl rfl) rfl (kPv (ev_load Tryz.isAgg159 rfl rfl) rfl (kPm rfl rfl (kPv ((ev_lookup2 Tryz.runUnderlying159 Tryz.runUnderlying3 Tryz.zeroValue3 rfl rfl).eq (congrArg (fun v => Value.tuple #[v, .bool _]) (mval_i _))) rfl (kPm rfl rfl (kPv (ev_ext rfl rfl) rfl (kPv (ev_ext rfl rfl) rfl (kPa rfl rfl (kPa rfl rfl (p_nil (go_sb [6, 5, 4, 0, 1] rfl (g_seq ?_)))))))))))
    refine g_region (kPm rfl rfl (p_nil ?_))
    refine g_if rfl (fun h18 => ?_) (fun h18 => ?_)
    · have hres : T.take p = ((mget T.no p).getD 0, T) := by unfold TabS.take; rw [if_neg hk, if_pos h18]
      refine g_seq (g_region (kPm rfl rfl (kPa rfl rfl (p_nil (g_ret ?_)))))
      exact ret_tmp Tryz.results57 rfl (fun w hh => ⟨_, ⟨by rw [hres]; rfl, rfl⟩, by rw [hres]; exact tab_holds hh⟩)
    · have hres : T.take p = (T.last + 1, ⟨mset T.at_ (T.last + 1) p, mset T.no p (T.last + 1), T.last + 1⟩) := by unfold TabS.take; rw [if_neg hk, if_neg (by rw [h18]; decide)]
      refine g_skip (g_seq (g_region (kPm rfl rfl ?_)))
      first | refine kPv (ev_nil rfl) rfl ?_ | refine kPv (ev_nilf rfl) rfl ?_
      refine kPv (ev_fa (m := _) fa_161_2 rfl rfl) rfl (kPv (ev_load Tryz.isAgg3 rfl rfl) rfl ?_)
      first | refine p_val rfl (ev_add rfl rfl (wr64 (by omega))) .free rfl rfl ?_ | refine p_val rfl (ev_add rfl rfl rfl) .free rfl rfl ?_
      first | refine kPv (ev_nil rfl) rfl ?_ | refine kPv (ev_nilf rfl) rfl ?_
      refine kPv (ev_fa (m := _) fa_161_2 rfl rfl) rfl (p_chg0 rfl (ch_store Tryz.sizeOf3 rfl rfl rfl rfl) .free rfl ?_)
      rintro _ _ rfl
      refine p_nil (go_sb [4, 0, 1] rfl (g_seq (g_drawv [0, 1, 2, 3, 4, 5, 6, 7, 8, 9, 10, 11, 12, 13, 14, 15, 16, 17, 18, 19, 20, 21, 22, 23] [18, 20, 21, 23] [12, 13] [18, 20] [] Tryz.mixed (by kernel_rfl) ?_)))
      refine v_val rfl rfl rfl (ev_move rfl) .free rfl ?_
      first | refine v_val rfl rfl rfl (ev_nil rfl) .free rfl ?_ | refine v_val rfl rfl rfl (ev_nilf rfl) .free rfl ?_
      refine v_val rfl rfl rfl (ev_fa (m := _) fa_161_0 rfl rfl) .free rfl (v_val rfl rfl rfl (ev_load Tryz.isAgg159 rfl rfl) .free rfl (v_val rfl rfl rfl (ev_move rfl) .free rfl ?_))
      first | refine v_val rfl rfl rfl (ev_nil rfl) .free rfl ?_ | refine v_val rfl rfl rfl (ev_nilf rfl) .free rfl ?_
      refine v_val rfl rfl rfl (ev_fa (m := _) fa_161_2 rfl rfl) .free rfl (v_val rfl rfl rfl (ev_load Tryz.isAgg3 rfl rfl) .free rfl (v_val rfl rfl rfl (ev_move rfl) .free rfl ?_))
      first | refine v_val rfl rfl rfl (ev_nil rfl) .free rfl ?_ | refine v_val rfl rfl rfl (ev_nilf rfl) .free rfl ?_
      refine v_val rfl rfl rfl (ev_fa (m := _) fa_161_1 rfl rfl) .free rfl (v_val rfl rfl rfl (ev_load Tryz.isAgg159 rfl rfl) .free rfl (v_hoist rfl rfl rfl (ev_move rfl) .free rfl (v_hoist rfl rfl rfl (ev_move rfl) .free rfl (v_val rfl rfl rfl (ev_move rfl) .free rfl ?_))))
      first | refine v_val rfl rfl rfl (ev_nil rfl) .free rfl ?_ | refine v_val rfl rfl rfl (ev_nilf rfl) .free rfl ?_
      refine v_val rfl rfl rfl (ev_fa (m := _) fa_161_2 rfl rfl) .free rfl (v_val rfl rfl rfl (ev_load Tryz.isAgg3 rfl rfl) .free rfl (v_mark rfl rfl (go_front 1 rfl ?_)))
      simp only [List.eraseIdx_cons_succ, List.eraseIdx_cons_zero]
      refine p_chg rfl (ch_mapentry (u0 := (0 : Int)) Tryz.runUnderlying159 Tryz.runUnderlying3 Tryz.zeroValue3 rfl rfl) .free rfl rfl ?_
      rintro _ _ ⟨z1, st1, rfl, rfl⟩
      refine p_nil (v_on (v_val rfl rfl rfl (ev_ext rfl rfl) .free rfl (v_mark rfl rfl (p_chg0 rfl (ch_entrystore rfl rfl rfl rfl) .free rfl ?_))))
      rintro _ _ rfl
      refine p_nil (v_on (v_mark rfl rfl (go_front 2 rfl ?_)))
      simp only [List.eraseIdx_cons_succ, List.eraseIdx_cons_zero]
      refine p_chg rfl (ch_mapentry (u0 := (0 : Int)) Tryz.runUnderlying159 Tryz.runUnderlying3 Tryz.zeroValue3 rfl rfl) .free rfl rfl ?_
      rintro _ _ ⟨z2, st2, rfl, rfl⟩
      refine p_nil (v_off rfl (v_val rfl rfl rfl (ev_ext rfl rfl) .free rfl (v_mark rfl rfl (p_chg0 rfl (ch_entrystore rfl rfl rfl rfl) .free rfl ?_))))
      rintro _ _ rfl
      refine p_nil (v_off rfl (v_nil (go_sb [4, 0] rfl (g_seq (g_region (kPm rfl rfl ?_))))))
      first | refine kPv (ev_nil rfl) rfl ?_ | refine kPv (ev_nilf rfl) rfl ?_
      refine kPv (ev_fa (m := _) fa_161_2 rfl rfl) rfl (kPv (ev_load Tryz.isAgg3 rfl rfl) rfl (kPa rfl rfl (p_nil (g_ret ?_))))
      exact ret_tmp Tryz.results57 rfl (fun w hh => ⟨_, ⟨by rw [hres], rfl⟩, by rw [hres]; rw [mset_entry, mset_entry] at hh; exact tab_holds (T := ⟨_, _, _⟩) ((hh.front 1 rfl).front 2 rfl)⟩)
theorem hnumbers_ok (B : World) (Fr : List HP) (b : Nat) (T : TabS) (hTl : T.at_.length ≤ 1000000) :
    ∀ w, Holds B (TabA b T :: Fr) w → Calls Tryz.prog 75 [ptr b].toArray w (Ret B (fun rv H' => H' = AccV 0 (rv, sortI (T.at_.map Prod.fst)) :: TabA b T :: Fr) (fun _ _ => False)) := by
  refine fn_enter Tryz.func75 rfl Tryz.ntmps75 rfl (go_tab fun b1 b2 => (g_seq (g_region (kPa rfl rfl (p_nil (g_seq (g_region (kPm rfl rfl ?_))))))))
  first | refine kPv (ev_nil rfl) rfl ?_ | refine kPv (ev_nilf rfl) rfl ?_
  refine kPv (ev_fa (m := _) fa_161_0 rfl rfl) rfl (kPv (ev_load Tryz.isAgg159 rfl rfl) rfl ?_)
  refine p_call rfl (en_f Tryz.call139 rfl) (mkeysi_ok _ _ _) .free rfl rfl ?_ ?_
  rotate_left
  · rintro _ _ ⟨⟩
  rintro _ _ ⟨bb, rfl, rfl⟩
  refine go_conv (H' := row bb [.map (some b1)] 159 :: mapA .i64 i64 b1 T.at_ :: row b [.map (some b1), .map (some b2), i64 T.last] 161 :: mapA .i64 i64 b2 T.no :: Fr) (fun w hh => (hh.front 2 rfl).back 1 (by simp)) ?_
  refine p_call rfl (en_f Tryz.call124 rfl) (sortedi_ok _ _ b1 bb T.at_ hTl) .free rfl rfl ?_ ?_
  rotate_left
  · rintro _ _ ⟨⟩
  rintro v8 _ rfl
  refine kPa rfl rfl (p_nil (go_sb [2] rfl (g_ret ?_)))
  exact ret_tmp Tryz.results75 rfl (fun w hh => ⟨_, rfl, Holds.front (A := AccV 0 (v8, sortI (T.at_.map Prod.fst))) (tab_holds (T := T) (((hh.front 3 rfl).front 2 rfl).front 3 rfl)) 1 rfl⟩)
end Go.Proofs.YtlcibdhmgclfjaaGreat
