/- Part of the texts beneath a law: what its proof names. Conditions: none. -/
import Derived.Test.YtbfheafpecgphaaGreatQL16Ml
set_option linter.unusedSimpArgs false
set_option linter.unusedVariables false
set_option linter.unnecessarySimpa false
set_option linter.unusedSectionVars false
namespace Go.Proofs.YtbfheafpecgphaaGreat
open Go
theorem refsN_w : ∀ (k : Nat) (i : Int) (S S' : ColS) (s s' : Dev), ColW S → U64 s → S.todo = [] → refsN k i S s = .ok S' s' → ColW S' ∧ U64 s' ∧ S'.scan = S.scan ∧ S'.todo = [] ∧ S'.done = S.done ∧ S'.b = S.b ∧ S'.bd = S.bd ∧ S'.c = S.c ∧ S'.to_ = S.to_ ∧ S.free ≤ S'.free ∧ S'.free - S.free + 66 * (S.b.used.toNat - S'.went.length : Nat) ≤ 66 * (S.b.used.toNat - S.went.length : Nat)
  | 0, _, S, S', s, s', h, hu, ht, e => by cases e; exact ⟨h, hu, rfl, ht, rfl, rfl, rfl, rfl, rfl, Int.le_refl _, by omega⟩
  | k + 1, i, S, S', s, s', h, hu, ht, e => by
    unfold refsN at e
    split at e
    · exact refsN_w k _ S S' s s' h hu ht e
    · obtain ⟨r, s1, e1, e⟩ := then_inv e
      obtain ⟨_, s2, e2, e⟩ := then_inv e
      obtain ⟨h1, hv, h2, h3, h4, h5, h6, h7, h8, h9, h10⟩ := copied_w h e1
      have u1 := copied_u64 hu e1
      have u2 := store_u64 u1.1 (by omega) e2
      obtain ⟨g1, gu, g2, g3, g4, g5, g6, g7, g8, g9, g10⟩ := refsN_w k _ r.2 S' s2 s' h1 u2.1 (h3.trans ht) e
      rw [h5] at g10
      exact ⟨g1, gu, g2.trans h2, g3, g4.trans h4, g5.trans h5, g6.trans h6, g7.trans h7, g8.trans h8, Int.le_trans h9 g9, by omega⟩
theorem keepN_u64 : ∀ (f : Nat) (i e : Int) (s s' : Dev) (a : Unit), U64 s → keepN f i e s = .ok a s' → U64 s'
  | 0, _, _, s, s', a, h, e => by cases e; exact h
  | f + 1, i, e', s, s', a, h, e => by
    unfold keepN at e
    split at e
    · obtain ⟨_, s1, e1, e⟩ := then_inv e
      exact keepN_u64 f _ _ s1 s' a (flush_u64 h e1).1 e
    · cases e; exact h
theorem keep_u64 {S : ColS} {s s' : Dev} {a : Unit} (h : U64 s) (e : S.keep s = .ok a s') : U64 s' := by
  unfold ColS.keep at e
  obtain ⟨_, s1, e1, e⟩ := then_inv e
  have h1 := keepN_u64 _ _ _ _ _ _ h e1
  split at e
  · exact (fence_u64 h1 e).1
  · cases e; exact h1
theorem step_w {S : ColS} (h : ColW S) {s s' : Dev} (hu : U64 s) {r : Bool × ColS} (e : S.step s = .ok r s') : ColW r.2 ∧ U64 s' ∧ r.2.b = S.b ∧ r.2.bd = S.bd ∧ r.2.c = S.c ∧ r.2.to_ = S.to_ ∧ r.1 = r.2.done ∧ (r.1 = false → r.2.meas < S.meas) := by
  have hwl := h.wl; have hfb := h.fb
  unfold ColS.step at e
  split at e
  · rename_i hd; cases e; exact ⟨h, hu, rfl, rfl, rfl, rfl, hd.symm, fun hh => by cases hh⟩
  rename_i hd
  have hd0 : S.done = false := by simpa using hd
  split at e
  · rename_i w t ht
    obtain ⟨r1, s1, e1, e⟩ := then_inv e
    cases e
    obtain ⟨h1, _, h2, h3, h4, h5, h6, h7, h8, h9, h10⟩ := copied_w h e1
    refine ⟨⟨h1.c, h1.b, h1.rl, h1.to_, h1.scan, h1.free, h1.nd, h1.rng, h1.val, fun v hv => h.todo v (by rw [ht]; exact List.mem_cons_of_mem _ hv), h1.rts⟩, (copied_u64 hu e1).1, h5, h6, h7, h8, by simp only [h4, hd0], fun _ => ?_⟩
    unfold ColS.meas
    simp only [ht, h2, h4, h5, List.length_cons]
    split <;> omega
  · rename_i ht
    have hub := unp_b (s.load S.scan)
    split at e
    · rename_i hlt
      obtain ⟨S1, s1, e1, e⟩ := then_inv e
      cases e
      obtain ⟨h1, gu, h2, h3, h4, h5, h6, h7, h8, h9, h10⟩ := refsN_w _ _ _ _ _ _ h hu ht e1
      have hsc := h.scan
      refine ⟨⟨h1.c, h1.b, h1.rl, h1.to_, ⟨by have := h1.scan; simp only; omega, by simp only; omega⟩, h1.free, h1.nd, h1.rng, h1.val, h1.todo, h1.rts⟩, gu, h5, h6, h7, h8, by simp only [h4, hd0], fun _ => ?_⟩
      unfold ColS.meas
      simp only [ht, h2, h3, h4, h5]
      split <;> omega
    · obtain ⟨_, s1, e1, e⟩ := then_inv e
      cases e
      exact ⟨⟨h.c, h.b, h.rl, h.to_, h.scan, h.free, h.nd, h.rng, h.val, h.todo, h.rts⟩, keep_u64 hu e1, rfl, rfl, rfl, rfl, rfl, fun hh => by cases hh⟩
def ColF (x bd : Nat) (sc : Int) : HP := hex fun (y : Nat → Value) => row x [ptr bd, y 1, y 2, y 3, y 4, y 5, y 6, y 7, i64 sc, y 9, y 10, y 11, y 12] 115
theorem col_f {B : World} {x : Nat} {S : ColS} {Fr : List HP} {w : World} (h : Holds B (ColA x S :: Fr) w) : Holds B [ColF x S.bd S.scan] w := by
  obtain ⟨p, hx⟩ := h.hex
  refine Holds.unhex (fun i => (colRow S p.1 p.2.1 p.2.2).getD i .nilIface) ?_
  have h2 := hx.grp
  exact h2.map fun k a => by
    obtain ⟨h1, h2, d, s1, s2, ha, hl⟩ := a
    exact ⟨h1, h2, d, s1, s2, ha, trivial⟩
instance SubH.colf {H Fr : List HP} {x : Nat} {S : ColS} [r : PullH H (ColA x S) Fr] : SubH H [ColF x S.bd S.scan] := ⟨fun h hh => by
  obtain ⟨i, h1, h2⟩ := r.get
  obtain ⟨k1, k2, d, s1, s2, ⟨p, hp⟩, hl⟩ := sat_front i h1 hh
  obtain ⟨g1, g2, d', t1, t2, ha, hg⟩ := hp
  exact ⟨g1, fun _ => none, fun _ => .inr rfl, t1.trans s1, (fun _ _ e => nomatch e), ⟨fun i => (colRow S p.1 p.2.1 p.2.2).getD i .nilIface, ha⟩, trivial⟩⟩
theorem ev_hex {B : World} {σ : Env} {P : Program} {α : Type} {A : α → HP} {o : Oper} {v : Value} (h : ∀ y, Evs P B σ [A y] o v) : Evs P B σ [hex A] o v := fun a w kn hh => by
  obtain ⟨y, hy⟩ := hh.hex
  exact h y a w kn hy
theorem go_colf {B : World} {n : Nat} {D : List Deferred} {σ : Env} {H H0 : List HP} {P : Program} {ro : Cx} {K : Act → World → Prop} {X : Ext} {ops : Array Oper} {ms hs cs : List Nat} {ord : List Nat} {c : Bool} (f : ∀ w, Holds B H w → Holds B H0 w) (h : GO B n D σ H (wpV P ro ops ms hs cs (Holds B H0) X K ord)) : GO B n D σ H (fun a w => (c = true → Holds B H0 w) ∧ wpV P ro ops ms hs cs (Holds B H0) X K ord a w) := fun a w s => ⟨fun _ => f w s.holds, h a w s⟩
theorem keepN_succ (f : Nat) (i e : Int) (s : Dev) : keepN (f + 1) i e s = if i < e then (s.flush i).then fun _ s' => keepN f (i + 8) e s' else .ok () s := rfl
theorem refsN_succ (k : Nat) (i : Int) (S : ColS) (s : Dev) : refsN (k + 1) i S s = if s.load (S.scan + 1 + i) = 0 then refsN k (i + 1) S s else (S.copied s (s.load (S.scan + 1 + i))).then fun r s1 => (s1.store (S.scan + 1 + i) r.1).then fun _ s2 => refsN k (i + 1) r.2 s2 := rfl
theorem runN_succ (f : Nat) (S : ColS) (s : Dev) : runN (f + 1) S s = (S.step s).then fun r s' => if r.1 = true then .ok r.2 s' else runN f r.2 s' := rfl
theorem ckeep_ok (B : World) (Fr : List HP) (x : Nat) (S : ColS) (hS : ColW S) (s : Dev) (hu : U64 s) :
    ∀ w, Holds B (ColA x S :: DevA S.bd s :: Fr) w → Calls Tryz.prog 106 [ptr x].toArray w (Ret B (fun rv H' => ∃ r s', S.keep s = .ok r s' ∧ rv = unitV r ∧ H' = ColA x { S with done := true } :: DevA S.bd s' :: Fr) (fun c H' => ∃ s', S.keep s = .off s' ∧ c = offc ∧ H' = DevA S.bd s' :: Fr)) := by
  refine fn_enter Tryz.func106 rfl Tryz.ntmps106 rfl ?_; refine go_col fun rsv tsv mw hrsv htsv => ?_
  have hfb := hS.fb
  have hfr := hS.free
  have hto := hS.to_
  refine g_seq ?_; refine g_seq ?_; refine g_region ?_; refine kPm rfl rfl ?_
  first | refine kPv (ev_nil rfl) rfl ?_ | refine kPv (ev_nilf rfl) rfl ?_
  refine kPv (ev_fa (m := _) fa_115_3 rfl rfl) rfl ?_; refine kPv (ev_load Tryz.isAgg3 rfl rfl) rfl ?_; refine kPa rfl rfl ?_; refine p_nil ?_; refine g_block ?_
  refine g_loopk (ι := Int × Nat × Dev) [0] (fun (i, n, sI) => (S.to_ ≤ i ∧ i ≤ 400000) ∧ (S.free - i ≤ n) ∧ (keepN ((S.free - S.to_).toNat + 1) S.to_ S.free s = keepN (n + 1) i S.free sI)) (fun (i, n, sI) => [(2, i64 i)]) (fun (i, n, sI) => row x (colRow S rsv tsv mw) 115 :: VecU 0 (rsv, S.b.rts) :: VecU 0 (tsv, S.todo) :: mapA .u64 i64 mw S.went :: DevA S.bd sI :: Fr) (fun (i, n, sI) => n) (S.to_, (S.free - S.to_).toNat, s) (⟨⟨by first | omega | (simp only; omega), by first | omega | (simp only; omega)⟩, by first | omega | (simp only; omega), rfl⟩) (fun a w st => st.to ⟨rfl, trivial⟩ (fun hh => hh)) ?_
  rintro ⟨i, n, sI⟩ ⟨hi0, hn, hinv⟩
  try simp only at hi0 hn hinv ⊢
  refine go_sub (σ' := [(2, i64 i), (0, _)]) ⟨rfl, rfl, trivial⟩ ?_; refine g_seq ?_; refine g_seq ?_; refine g_region ?_; refine kPm rfl rfl ?_; refine kPm rfl rfl ?_
  first | refine kPv (ev_nil rfl) rfl ?_ | refine kPv (ev_nilf rfl) rfl ?_
  refine kPv (ev_fa (m := _) fa_115_5 rfl rfl) rfl ?_; refine kPv (ev_load Tryz.isAgg3 rfl rfl) rfl ?_; refine kPv (ev_cmp rfl rfl rfl) rfl ?_; refine p_nil ?_
  refine g_if rfl (fun h12 => ?_) (fun h12 => ?_)
  · have hlt : i < S.free := by simpa using h12
    refine g_skip ?_; refine g_seq ?_; refine g_block ?_; refine g_region ?_; refine kPm rfl rfl ?_
    first | refine kPv (ev_nil rfl) rfl ?_ | refine kPv (ev_nilf rfl) rfl ?_
    refine kPv (ev_fa (m := _) fa_115_0 rfl rfl) rfl ?_; refine kPv (ev_load Tryz.isAgg28 rfl rfl) rfl ?_; refine kPm rfl rfl ?_
    refine p_call rfl (en_f Tryz.call34 rfl) (up_at (fun Fr => nflush_ok _ Fr _ _ _)) .free rfl rfl ?_ ?_
    rotate_left
    · rintro _ _ ⟨s9, ⟨hm9, rfl⟩, rfl⟩
      exact pan_fn fun w hh => ⟨_, ⟨s9, by unfold ColS.keep; rw [hinv, keepN_succ, if_pos hlt, hm9]; rfl, rfl, rfl⟩, (hh.dp [0, 0, 0, 0])⟩
    rintro _ _ ⟨s1, ⟨e1, hm1, rfl⟩, rfl⟩
    refine p_nil ?_; refine go_sub (σ' := [(2, _), (0, _)]) ⟨rfl, rfl, trivial⟩ ?_; refine g_region ?_; refine kPm rfl rfl ?_
    first | refine p_val rfl (ev_add rfl rfl (wr64 (by omega))) .free rfl rfl ?_ | refine p_val rfl (ev_add rfl rfl rfl) .free rfl rfl ?_
    refine kPa rfl rfl ?_; refine p_nil ?_
    exact fun a w st_ => ⟨(i + 8, n - 1, s1), ⟨by first | omega | (simp only; omega), by first | omega | (simp only; omega), by rw [hinv, keepN_succ, if_pos hlt, hm1, show n = n - 1 + 1 by omega]; rfl⟩, by first | omega | (simp only; omega), st_.to ⟨rfl, rfl, trivial⟩ (fun hh => hh)⟩
  · have hlt : ¬ i < S.free := by simpa using h12
    refine g_exit ?_; refine g_seq ?_; refine g_seq ?_; refine g_draw Tryz.mixed (by kernel_rfl) (by kernel_rfl) ?_; refine kQm rfl rfl ?_
    first | refine kQv (ev_nil rfl) rfl ?_ | refine kQv (ev_nilf rfl) rfl ?_
    refine kQv (ev_fa (m := _) fa_115_5 rfl rfl) rfl ?_; refine kQv (ev_load Tryz.isAgg3 rfl rfl) rfl ?_; refine kQm rfl rfl ?_
    first | refine kQv (ev_nil rfl) rfl ?_ | refine kQv (ev_nilf rfl) rfl ?_
    refine kQv (ev_fa (m := _) fa_115_3 rfl rfl) rfl ?_; refine kQv (ev_load Tryz.isAgg3 rfl rfl) rfl ?_; refine kQv (ev_cmp rfl rfl rfl) rfl ?_; refine q_nil ?_; refine go_sub (σ' := [(29, _), (0, _)]) ⟨rfl, rfl, trivial⟩ ?_
    refine g_if rfl (fun h29 => ?_) (fun h29 => ?_)
    · have hgt : S.to_ < S.free := by simpa using h29
      refine g_region ?_; refine kPm rfl rfl ?_
      first | refine kPv (ev_nil rfl) rfl ?_ | refine kPv (ev_nilf rfl) rfl ?_
      refine kPv (ev_fa (m := _) fa_115_0 rfl rfl) rfl ?_; refine kPv (ev_load Tryz.isAgg28 rfl rfl) rfl ?_
      refine p_call rfl (en_f Tryz.call35 rfl) (up_at (fun Fr => nfence_ok _ Fr _ _)) .free rfl rfl ?_ ?_
      rotate_left
      · rintro _ _ ⟨s9, ⟨hm9, rfl⟩, rfl⟩
        exact pan_fn fun w hh => ⟨_, ⟨s9, by unfold ColS.keep; rw [hinv, keepN_succ, if_neg hlt]; simp only [then_ok]; rw [if_pos hgt]; exact hm9, rfl, rfl⟩, (hh.dp [0, 0, 0, 0])⟩
      rintro _ _ ⟨s2, ⟨e2, hm2, rfl⟩, rfl⟩
      refine p_nil ?_; refine g_region ?_; refine kPm rfl rfl ?_
      first | refine kPv (ev_nil rfl) rfl ?_ | refine kPv (ev_nilf rfl) rfl ?_
      refine kPv (ev_fa (m := _) fa_115_8 rfl rfl) rfl ?_; refine p_chg0 rfl (ch_store Tryz.sizeOf4 rfl rfl rfl rfl) .free rfl ?_
      rintro _ _ rfl
      refine p_nil ?_; refine go_sub (σ' := []) trivial ?_
      exact end_none Tryz.results106 (fun w hh => ⟨_, ⟨(), _, by unfold ColS.keep; rw [hinv, keepN_succ, if_neg hlt]; simp only [then_ok]; rw [if_pos hgt]; exact hm2, rfl, rfl⟩, col_holds (S := { S with done := true }) hrsv htsv hh⟩)
    · have hgt : ¬ S.to_ < S.free := by simpa using h29
      refine g_skip ?_; refine g_region ?_; refine kPm rfl rfl ?_
      first | refine kPv (ev_nil rfl) rfl ?_ | refine kPv (ev_nilf rfl) rfl ?_
      refine kPv (ev_fa (m := _) fa_115_8 rfl rfl) rfl ?_; refine p_chg0 rfl (ch_store Tryz.sizeOf4 rfl rfl rfl rfl) .free rfl ?_
      rintro _ _ rfl
      refine p_nil ?_
      exact end_none Tryz.results106 (fun w hh => ⟨_, ⟨(), _, by unfold ColS.keep; rw [hinv, keepN_succ, if_neg hlt]; simp only [then_ok]; rw [if_neg hgt], rfl, rfl⟩, col_holds (S := { S with done := true }) hrsv htsv hh⟩)
theorem cwent_ok (B : World) (Fr : List HP) (x : Nat) (S : ColS) (v : Int) :
    ∀ w, Holds B (ColA x S :: Fr) w → Calls Tryz.prog 55 [ptr x, w64 v].toArray w (PureR B (ColA x S :: Fr) (i64 ((mget S.went v).getD 0))) := by
  refine fn_enter Tryz.func55 rfl Tryz.ntmps55 rfl ?_; refine go_col fun rsv tsv mw hrsv htsv => ?_; refine g_seq ?_; refine g_region ?_; refine kPa rfl rfl ?_; refine p_nil ?_; refine g_seq ?_; refine g_region ?_; refine kPm rfl rfl ?_
  first | refine kPv (ev_nil rfl) rfl ?_ | refine kPv (ev_nilf rfl) rfl ?_
  refine kPv (ev_fa (m := _) fa_115_7 rfl rfl) rfl ?_; refine kPv (ev_load Tryz.isAgg113 rfl rfl) rfl ?_; refine kPm rfl rfl ?_; refine kPv ((ev_lookup1 Tryz.runUnderlying113 Tryz.runUnderlying52 Tryz.zeroValue3 rfl rfl).eq (mval_i _)) rfl ?_; refine kPa rfl rfl ?_; refine p_nil ?_; refine go_sub (σ' := [(4, _)]) ⟨rfl, trivial⟩ ?_; refine g_ret ?_
  exact ret_tmp Tryz.results55 rfl (fun w hh => ⟨rfl, col_holds hrsv htsv hh⟩)
theorem cstep_ok (B : World) (Fr : List HP) (x : Nat) (S : ColS) (hS : ColW S) (s : Dev) (hu : U64 s) :
    ∀ w, Holds B (ColA x S :: DevA S.bd s :: Fr) w → Calls Tryz.prog 74 [ptr x].toArray w (Ret B (fun rv H' => ∃ r s', S.step s = .ok r s' ∧ rv = .bool r.1 ∧ H' = ColA x r.2 :: DevA S.bd s' :: Fr) (fun c H' => ∃ s', S.step s = .off s' ∧ c = offc ∧ H' = DevA S.bd s' :: Fr)) := by
  refine fn_enter Tryz.func74 rfl Tryz.ntmps74 rfl ?_; refine go_col fun rsv tsv mw hrsv htsv => ?_
  have hfb := hS.fb
  have hfr := hS.free
  have hto := hS.to_
  have hscan := hS.scan
  have hub := unp_b (s.load S.scan)
  refine g_seq ?_; refine g_region ?_; refine kPa rfl rfl ?_; refine p_nil ?_; refine g_seq ?_; refine g_block ?_; refine g_seq ?_; refine g_region ?_; refine kPm rfl rfl ?_
  first | refine kPv (ev_nil rfl) rfl ?_ | refine kPv (ev_nilf rfl) rfl ?_
  refine kPv (ev_fa (m := _) fa_115_8 rfl rfl) rfl ?_; refine kPv (ev_load Tryz.isAgg4 rfl rfl) rfl ?_; refine kPa rfl rfl ?_; refine p_nil ?_
  refine g_if rfl (fun h9 => ?_) (fun h9 => ?_)
  · have hdone : S.done = true := h9
    have hres : S.step s = .ok (true, S) s := by unfold ColS.step; rw [if_pos hdone]
    refine g_skip ?_; refine g_seq ?_; refine g_region ?_; refine kPm rfl rfl ?_
    first | refine kPv (ev_nil rfl) rfl ?_ | refine kPv (ev_nilf rfl) rfl ?_
    refine kPv (ev_fa (m := _) fa_115_8 rfl rfl) rfl ?_; refine kPv (ev_load Tryz.isAgg4 rfl rfl) rfl ?_; refine kPa rfl rfl ?_; refine p_nil ?_; refine go_sub (σ' := [(2, _)]) ⟨rfl, trivial⟩ ?_; refine g_ret ?_
    exact ret_tmp Tryz.results74 rfl (fun w hh => ⟨_, ⟨_, _, hres, by rw [hdone], rfl⟩, col_holds hrsv htsv hh⟩)
  · have hdone : S.done = false := h9
    refine go_pk [2] ?_; refine go_vecq fun qt ct hqt hqi => ?_
    subst hqt
    refine go_pk [1, 1, 0, 0] ?_; refine g_seq ?_; refine g_region ?_; refine kPm rfl rfl ?_
    first | refine kPv (ev_nil rfl) rfl ?_ | refine kPv (ev_nilf rfl) rfl ?_
    refine kPv (ev_fa (m := _) fa_115_6 rfl rfl) rfl ?_; refine kPv (ev_load Tryz.isAgg31 rfl rfl) rfl ?_; refine kPv (ev_len rfl Tryz.runUnderlying31 ⟨_, rfl⟩ rfl) rfl ?_; refine kPv (ev_cmp rfl rfl rfl) rfl ?_; refine kPa rfl rfl ?_; refine p_nil ?_; refine go_sub (σ' := [(14, _), (2, _), (0, _)]) ⟨rfl, rfl, rfl, trivial⟩ ?_
    refine g_if rfl (fun h14 => ?_) (fun h14 => ?_)
    · obtain ⟨v, t, htd⟩ : ∃ v t, S.todo = v :: t := by
        cases ht : S.todo with
        | nil => rw [ht] at h14; simp at h14
        | cons v t => exact ⟨v, t, rfl⟩
      obtain ⟨bq, oq, rfl⟩ := hqi 0 (by rw [htd]; exact Nat.succ_pos _)
      refine g_seq ?_; refine g_region ?_; refine kPm rfl rfl ?_; refine kPm rfl rfl ?_
      first | refine kPv (ev_nil rfl) rfl ?_ | refine kPv (ev_nilf rfl) rfl ?_
      refine kPv (ev_fa (m := _) fa_115_6 rfl rfl) rfl ?_; refine kPv (ev_load Tryz.isAgg31 rfl rfl) rfl ?_; refine kPv (ev_iaS Tryz.runUnderlying31 Tryz.sizeOf52 rfl rfl (by decide) (by rw [htd]; simp only [List.length_cons]; omega)) rfl ?_
      refine kPv (ev_loadS (v := w64 v) Tryz.isAgg52 (vec_slr 2 rfl) rfl (by rw [htd]; rfl)) rfl ?_
      refine go_conv (fun w hh => col_holds hrsv htsv hh) ?_
      refine p_call rfl (en_f Tryz.call105 rfl) (ccopied_ok B _ x S hS s hu v (hS.todo _ (by rw [htd]; exact List.mem_cons_self ..))) .free rfl rfl ?_ ?_
      rotate_left
      · rintro _ _ ⟨s9, hm9, rfl, rfl⟩
        exact pan_fn fun w hh => ⟨_, ⟨s9, by unfold ColS.step; rw [if_neg (by rw [hdone]; decide)]; simp only [htd]; rw [hm9]; rfl, rfl, rfl⟩, hh⟩
      rintro _ _ ⟨r1, s1, hm1, rfl, rfl⟩
      obtain ⟨hS1, hrv1, hsc1, htd1, hdn1, hb1, hbd1, hc1, hto1, hfr1, hms1⟩ := copied_w hS hm1
      have hu1 := (copied_u64 hu hm1).1
      refine p_nil ?_; refine go_sub (σ' := [(2, _), (0, _)]) ⟨rfl, rfl, trivial⟩ ?_; refine g_region ?_; refine go_col fun rsv2 tsv2 mw2 hrsv2 htsv2 => ?_; refine kPm rfl rfl ?_; refine kPm rfl rfl ?_
      first | refine kPv (ev_nil rfl) rfl ?_ | refine kPv (ev_nilf rfl) rfl ?_
      refine kPv (ev_fa (m := _) fa_115_6 rfl rfl) rfl ?_; refine go_pk [2] ?_; refine go_conv (H' := VecU 0 (tsv2, v :: t) :: _) (fun w hh => by rw [htd1, htd] at hh; exact hh) ?_
      refine kPv (ev_load Tryz.isAgg31 rfl rfl) rfl ?_; refine p_chg rfl (ch_tail_vec (v := v) (xs := t) Tryz.runUnderlying31 Tryz.sizeOf52 rfl rfl) .free rfl rfl ?_
      rintro tv3 _ ⟨htv3, rfl⟩
      refine go_pk [1, 1] ?_
      first | refine kPv (ev_nil rfl) rfl ?_ | refine kPv (ev_nilf rfl) rfl ?_
      refine kPv (ev_fa (m := _) fa_115_6 rfl rfl) rfl ?_; refine p_chg0 rfl (ch_store Tryz.sizeOf31 rfl rfl (by first | rfl | assumption) rfl) .free rfl ?_
      rintro _ _ rfl
      refine p_nil ?_; refine go_sub (σ' := [(2, _), (0, _)]) ⟨rfl, rfl, trivial⟩ ?_; refine g_seq ?_; refine g_region ?_; refine kPm rfl rfl ?_
      first | refine kPv (ev_nil rfl) rfl ?_ | refine kPv (ev_nilf rfl) rfl ?_
      refine kPv (ev_fa (m := _) fa_115_8 rfl rfl) rfl ?_; refine kPv (ev_load Tryz.isAgg4 rfl rfl) rfl ?_; refine kPa rfl rfl ?_; refine p_nil ?_; refine g_ret ?_
      exact ret_tmp Tryz.results74 rfl (fun w hh => ⟨_, ⟨_, _, by unfold ColS.step; rw [if_neg (by rw [hdone]; decide)]; simp only [htd]; rw [hm1]; rfl, by rw [hdn1, hdone], rfl⟩, col_holds (S := { r1.2 with todo := t }) hrsv2 htv3 hh⟩)
    · have htd : S.todo = [] := by
        cases ht : S.todo with
        | nil => rfl
        | cons v t => rw [ht] at h14; simp at h14 <;> omega
      refine g_seq ?_; refine g_draw Tryz.mixed (by kernel_rfl) (by kernel_rfl) ?_; refine kQm rfl rfl ?_
      first | refine kQv (ev_nil rfl) rfl ?_ | refine kQv (ev_nilf rfl) rfl ?_
      refine kQv (ev_fa (m := _) fa_115_4 rfl rfl) rfl ?_; refine kQv (ev_load Tryz.isAgg3 rfl rfl) rfl ?_; refine kQm rfl rfl ?_
      first | refine kQv (ev_nil rfl) rfl ?_ | refine kQv (ev_nilf rfl) rfl ?_
      refine kQv (ev_fa (m := _) fa_115_5 rfl rfl) rfl ?_; refine kQv (ev_load Tryz.isAgg3 rfl rfl) rfl ?_; refine kQv (ev_cmp rfl rfl rfl) rfl ?_; refine kQa rfl rfl ?_; refine q_nil ?_; refine go_sub (σ' := [(37, _), (2, _), (0, _)]) ⟨rfl, rfl, rfl, trivial⟩ ?_
      refine g_if rfl (fun h37 => ?_) (fun h37 => ?_)
      · have hlt : S.scan < S.free := by simpa using h37
        have hstep : S.step s = (refsN (unp (s.load S.scan)).2.1.toNat 0 S s).then fun S' s' => .ok (false, { S' with scan := S'.scan + ((unp (s.load S.scan)).1 + 1) }) s' := by unfold ColS.step; rw [if_neg (by rw [hdone]; decide)]; simp only [htd]; rw [if_pos hlt]
        refine g_seq ?_
        refine g_drawT (.br [0, 1, 2, 3, 4, 5, 6, 7] 8 (.br [] 9 (.fin [10, 11, 12, 13, 14, 15]) 13 (.fin [9, 10, 11, 12, 14, 15])) 13 (.fin [8, 9, 10, 11, 12, 14, 15])) [8, 9, 13, 14] [0, 1, 2, 3, 4, 5, 6, 7, 10, 11, 12] [13, 14] [row x (colRow S rsv (.slice qt S.todo.length ct) mw) 115] [2, 0] (G := Nat) (fun b3 => [(3, ptr b3), (4, .bool (unp (s.load S.scan)).2.2)]) (fun b3 => row b3 [i64 (unp (s.load S.scan)).1, i64 (unp (s.load S.scan)).2.1] 87 :: row x (colRow S rsv (.slice qt S.todo.length ct) mw) 115 :: VecU 0 (rsv, S.b.rts) :: VecU 0 (.slice qt S.todo.length ct, S.todo) :: mapA .u64 i64 mw S.went :: DevA S.bd s :: Fr) Tryz.mixed (by kernel_rfl) ?_ ?_
        · skip
          refine t_br ?_; refine v_hoist rfl rfl rfl (ev_move rfl) .free rfl ?_
          first | refine v_hoist rfl rfl rfl (ev_nil rfl) .free rfl ?_ | refine v_hoist rfl rfl rfl (ev_nilf rfl) .free rfl ?_
          refine v_hoist rfl rfl rfl (ev_fa (m := _) fa_115_0 rfl rfl) .free rfl ?_; refine v_hoist rfl rfl rfl (ev_load Tryz.isAgg28 rfl rfl) .free rfl ?_; refine v_hoist rfl rfl rfl (ev_move rfl) .free rfl ?_
          first | refine v_hoist rfl rfl rfl (ev_nil rfl) .free rfl ?_ | refine v_hoist rfl rfl rfl (ev_nilf rfl) .free rfl ?_
          refine v_hoist rfl rfl rfl (ev_fa (m := _) fa_115_4 rfl rfl) .free rfl ?_; refine v_hoist rfl rfl rfl (ev_load Tryz.isAgg3 rfl rfl) .free rfl ?_; refine v_nil ?_
          refine t_two rfl rfl ?_ ?_
          · skip
            refine p_callq rfl (en_f Tryz.call72 rfl) (ro_at (q := DevA) (fun Fr => nload_ok _ Fr _ _ _)) .free rfl rfl ?_; refine p_nil ?_; refine t_off rfl ?_; refine t_br ?_; refine v_nil ?_
            refine t_two rfl rfl ?_ ?_
            · skip
              refine p_callq rfl (en_f Tryz.call93 rfl) (unpack_ok _ _ _) .free rfl rfl ?_; refine p_nil ?_; refine t_off rfl ?_; refine t_fin ?_; refine v_hoist rfl rfl rfl (ev_move rfl) .free rfl ?_; refine v_hoist rfl rfl rfl (ev_ext rfl rfl) .free rfl ?_; refine v_hoist rfl rfl rfl (ev_ext rfl rfl) .free rfl ?_; refine v_mark rfl rfl ?_; refine p_chg rfl (ch_allocA Tryz.zeroValue87 rfl) .free rfl rfl ?_
              rintro _ _ ⟨b3, rfl, rfl⟩
              refine p_nil ?_; refine v_on ?_; refine v_mark rfl rfl ?_; refine p_chg0 rfl (ch_storeA (vs := _) Tryz.sizeOf87 rfl rfl rfl rfl rfl) .free rfl ?_
              rintro _ _ rfl
              refine p_nil ?_; refine v_on ?_; refine v_val rfl rfl rfl (ev_assign rfl) .free rfl ?_; refine v_nil ?_
              exact fun a w st_ => ⟨b3, st_.to ⟨rfl, rfl, rfl, rfl, trivial⟩ (fun hh => hh)⟩
            · skip
              refine p_chg rfl (ch_allocA Tryz.zeroValue87 rfl) .free rfl rfl ?_
              rintro _ _ ⟨b3, rfl, rfl⟩
              refine p_nil ?_; refine t_on ?_; refine t_fin ?_; refine v_mark rfl rfl ?_; refine p_callq rfl (en_f Tryz.call93 rfl) (unpack_ok _ _ _) .free rfl rfl ?_; refine p_nil ?_; refine v_off rfl ?_; refine v_hoist rfl rfl rfl (ev_move rfl) .free rfl ?_; refine v_hoist rfl rfl rfl (ev_ext rfl rfl) .free rfl ?_; refine v_hoist rfl rfl rfl (ev_ext rfl rfl) .free rfl ?_; refine v_mark rfl rfl ?_; refine p_chg0 rfl (ch_storeA (vs := _) Tryz.sizeOf87 rfl rfl rfl rfl rfl) .free rfl ?_
              rintro _ _ rfl
              refine p_nil ?_; refine v_on ?_; refine v_val rfl rfl rfl (ev_assign rfl) .free rfl ?_; refine v_nil ?_
              exact fun a w st_ => ⟨b3, st_.to ⟨rfl, rfl, rfl, rfl, trivial⟩ (fun hh => hh)⟩
          · skip
            refine p_chg rfl (ch_allocA Tryz.zeroValue87 rfl) .free rfl rfl ?_
            rintro _ _ ⟨b3, rfl, rfl⟩
            refine p_nil ?_; refine t_on ?_; refine t_fin ?_; refine v_mark rfl rfl ?_; refine p_callq rfl (en_f Tryz.call72 rfl) (ro_at (q := DevA) (fun Fr => nload_ok _ Fr _ _ _)) .free rfl rfl ?_; refine p_nil ?_; refine v_off rfl ?_; refine v_mark rfl rfl ?_; refine p_callq rfl (en_f Tryz.call93 rfl) (unpack_ok _ _ _) .free rfl rfl ?_; refine p_nil ?_; refine v_off rfl ?_; refine v_hoist rfl rfl rfl (ev_move rfl) .free rfl ?_; refine v_hoist rfl rfl rfl (ev_ext rfl rfl) .free rfl ?_
            refine v_hoist rfl rfl rfl (ev_ext rfl rfl) .free rfl ?_; refine v_mark rfl rfl ?_; refine p_chg0 rfl (ch_storeA (vs := _) Tryz.sizeOf87 rfl rfl rfl rfl rfl) .free rfl ?_
            rintro _ _ rfl
            refine p_nil ?_; refine v_on ?_; refine v_val rfl rfl rfl (ev_assign rfl) .free rfl ?_; refine v_nil ?_
            exact fun a w st_ => ⟨b3, st_.to ⟨rfl, rfl, rfl, rfl, trivial⟩ (fun hh => hh)⟩
        intro b3
        refine go_sub (σ' := [(3, ptr b3), (4, .bool (unp (s.load S.scan)).2.2), (2, _), (0, _)]) ⟨rfl, rfl, rfl, rfl, trivial⟩ ?_; refine g_seq ?_; refine g_seq ?_; refine go_pk [1, 1, 1, 1] ?_; refine go_conv (fun w hh => col_holds hrsv htsv hh) ?_; refine g_region ?_; refine kPv (ev_fa (m := _) fa_87_1 rfl rfl) rfl ?_; refine kPv (ev_load Tryz.isAgg3 rfl rfl) rfl ?_; refine kPm rfl rfl ?_; refine p_nil ?_; refine g_block ?_
        refine g_loopk (ι := Nat × ColS × Dev) [61, 3, 2, 0] (fun (i, SI, sI) => ((i : Int) ≤ (unp (s.load S.scan)).2.1) ∧ (ColW SI) ∧ (U64 sI) ∧ (SI.todo = []) ∧ (SI.done = S.done) ∧ (SI.bd = S.bd) ∧ (SI.scan = S.scan) ∧ (refsN (unp (s.load S.scan)).2.1.toNat 0 S s = refsN ((unp (s.load S.scan)).2.1.toNat - i) i SI sI)) (fun (i, SI, sI) => [(62, i64 i)]) (fun (i, SI, sI) => row b3 [i64 (unp (s.load S.scan)).1, i64 (unp (s.load S.scan)).2.1] 87 :: ColA x SI :: DevA SI.bd sI :: Fr) (fun (i, SI, sI) => (unp (s.load S.scan)).2.1.toNat - i) (0, S, s) (⟨by first | omega | (simp only; omega), hS, hu, htd, rfl, rfl, rfl, rfl⟩) (fun a w st => st.to ⟨rfl, trivial⟩ (fun hh => (hh.pk [1]))) ?_
        rintro ⟨i, SI, sI⟩ ⟨hi0, hSI, huI, htdI, hdI, hbdI, hscI0, hinv⟩
        try simp only at hi0 hSI huI htdI hdI hbdI hscI0 hinv ⊢
        refine go_sub (σ' := [(62, i64 i), (61, _), (3, _), (2, _), (0, _)]) ⟨rfl, rfl, rfl, rfl, rfl, trivial⟩ ?_; refine g_seq ?_; refine g_region ?_; refine kPv (ev_cmp rfl rfl rfl) rfl ?_; refine p_nil ?_; refine g_seq ?_
        refine g_if rfl (fun h63 => ?_) (fun h63 => ?_)
        · have hi : (i : Int) < (unp (s.load S.scan)).2.1 := by simpa using h63
          have hscI := hSI.scan
          refine g_skip ?_; refine g_seq ?_; refine g_block ?_; refine g_seq ?_; refine g_region ?_; refine kPm rfl rfl ?_; refine kPa rfl rfl ?_; refine p_nil ?_; refine g_seq ?_; refine go_pk [1] ?_; refine go_col fun rsv2 tsv2 mw2 hrsv2 htsv2 => ?_; refine g_draw Tryz.mixed (by kernel_rfl) (by kernel_rfl) ?_; refine kQm rfl rfl ?_
          first | refine kQv (ev_nil rfl) rfl ?_ | refine kQv (ev_nilf rfl) rfl ?_
          refine kQv (ev_fa (m := _) fa_115_0 rfl rfl) rfl ?_; refine kQv (ev_load Tryz.isAgg28 rfl rfl) rfl ?_; refine kQm rfl rfl ?_
          first | refine kQv (ev_nil rfl) rfl ?_ | refine kQv (ev_nilf rfl) rfl ?_
          refine kQv (ev_fa (m := _) fa_115_4 rfl rfl) rfl ?_; refine kQv (ev_load Tryz.isAgg3 rfl rfl) rfl ?_
          first | refine q_val rfl (ev_add rfl rfl (wr64 (by omega))) .free rfl ?_ | refine q_val rfl (ev_add rfl rfl rfl) .free rfl ?_
          refine kQm rfl rfl ?_
          first | refine q_val rfl (ev_add rfl rfl (wr64 (by omega))) .free rfl ?_ | refine q_val rfl (ev_add rfl rfl rfl) .free rfl ?_
          refine q_call rfl (en_f Tryz.call72 rfl) (ro_at (q := DevA) (fun Fr => nload_ok _ Fr _ _ _)) .free rfl ?_; refine kQa rfl rfl ?_; refine q_nil ?_; refine go_sub (σ' := [(6, _), (5, _), (62, _), (61, _), (3, _), (2, _), (0, _)]) ⟨rfl, rfl, rfl, rfl, rfl, rfl, rfl, trivial⟩ ?_; refine g_seq ?_; refine go_conv (fun w hh => col_holds hrsv2 htsv2 hh) ?_; refine g_region ?_; refine kPm rfl rfl ?_; refine kPv (ev_cmp rfl rfl rfl) rfl ?_; refine p_nil ?_
          refine g_if rfl (fun h78 => ?_) (fun h78 => ?_)
          · have hne : ¬ sI.load (SI.scan + 1 + i) = 0 := by simpa using h78
            refine go_pk [0, 1] ?_; refine go_conv (fun w hh => hh) ?_; refine g_drawv [0, 1, 2, 3, 4, 5, 6, 7, 8, 9, 10, 11, 12, 13, 14, 15] [13, 15] [0, 1, 2, 3, 4, 5, 6, 7, 8, 9, 10] [13] [ColF x SI.bd SI.scan] Tryz.mixed (by kernel_rfl) ?_; refine v_hoist rfl rfl rfl (ev_move rfl) .free rfl ?_
            first | refine v_hoist rfl rfl rfl (ev_nil rfl) .free rfl ?_ | refine v_hoist rfl rfl rfl (ev_nilf rfl) .free rfl ?_
            refine v_hoist rfl rfl rfl (ev_fa (m := _) fa_115_0 rfl rfl) .free rfl ?_; refine v_hoist rfl rfl rfl (ev_hex fun y => ev_load Tryz.isAgg28 rfl rfl) .free rfl ?_; refine v_hoist rfl rfl rfl (ev_move rfl) .free rfl ?_
            first | refine v_hoist rfl rfl rfl (ev_nil rfl) .free rfl ?_ | refine v_hoist rfl rfl rfl (ev_nilf rfl) .free rfl ?_
            refine v_hoist rfl rfl rfl (ev_fa (m := _) fa_115_4 rfl rfl) .free rfl ?_; refine v_hoist rfl rfl rfl (ev_hex fun y => ev_load Tryz.isAgg3 rfl rfl) .free rfl ?_
            first | refine v_hoist rfl rfl rfl (ev_add rfl rfl (wr64 (by omega))) .free rfl ?_ | refine v_hoist rfl rfl rfl (ev_add rfl rfl rfl) .free rfl ?_
            refine v_hoist rfl rfl rfl (ev_move rfl) .free rfl ?_
            first | refine v_hoist rfl rfl rfl (ev_add rfl rfl (wr64 (by omega))) .free rfl ?_ | refine v_hoist rfl rfl rfl (ev_add rfl rfl rfl) .free rfl ?_
            refine v_val rfl rfl rfl (ev_move rfl) .free rfl ?_; refine v_val rfl rfl rfl (ev_move rfl) .free rfl ?_; refine v_mark rfl rfl ?_
            refine p_call rfl (en_f Tryz.call105 rfl) (ccopied_ok B _ x SI hSI sI huI (sI.load (SI.scan + 1 + i)) (huI.load _)) .free rfl rfl ?_ ?_
            rotate_left
            · rintro _ _ ⟨s9, hm9, rfl, rfl⟩
              exact pan_fn fun w hh => ⟨_, ⟨s9, by rw [hstep, hinv, show (unp (s.load S.scan)).2.1.toNat - i = ((unp (s.load S.scan)).2.1.toNat - (i + 1)) + 1 by omega, refsN_succ, if_neg hne, hm9]; rfl, rfl, rfl⟩, by rw [← hbdI]; exact hh.dp [1]⟩
            rintro _ _ ⟨r2, s2, hm2, rfl, rfl⟩
            obtain ⟨hS2, hrv2, hsc2, htd2, hdn2, hb2, hbd2, hc2, hto2, hfr2, hms2⟩ := copied_w hSI hm2
            have hu2 := (copied_u64 huI hm2).1
            refine p_nil ?_; refine go_colf (fun w hh => by have h5 := col_f hh; rw [hbd2, hsc2] at h5; exact h5) ?_
            refine v_val rfl rfl rfl (ev_conv Tryz.runUnderlying3 Tryz.runUnderlying52 rfl (wru64 (by omega))) .free rfl ?_; refine v_mark rfl rfl ?_
            refine p_call rfl (en_f Tryz.call70 rfl) (up_at (fun Fr => nstore_ok _ Fr _ _ _ _)) .free rfl rfl ?_ ?_
            rotate_left
            · rintro _ _ ⟨s9, ⟨hm9, rfl⟩, rfl⟩
              exact pan_fn fun w hh => ⟨_, ⟨s9, by rw [hstep, hinv, show (unp (s.load S.scan)).2.1.toNat - i = ((unp (s.load S.scan)).2.1.toNat - (i + 1)) + 1 by omega, refsN_succ, if_neg hne, hm2]; simp only [then_ok]; rw [hm9]; rfl, rfl, rfl⟩, by rw [← hbdI]; exact (hh.dp [0, 1])⟩
            rintro _ _ ⟨s3, ⟨e3, hm3, rfl⟩, rfl⟩
            refine p_nil ?_; refine v_off rfl ?_; refine v_nil ?_; refine go_sub (σ' := [(62, _), (61, _), (3, _), (2, _), (0, _)]) ⟨rfl, rfl, rfl, rfl, rfl, trivial⟩ ?_; refine g_region ?_
            first | refine p_val rfl (ev_add rfl rfl (wr64 (by omega))) .free rfl rfl ?_ | refine p_val rfl (ev_add rfl rfl rfl) .free rfl rfl ?_
            refine kPm rfl rfl ?_; refine p_nil ?_
            exact fun a w st_ => ⟨(i + 1, r2.2, s3), ⟨by first | omega | (simp only; omega), hS2, (store_u64 hu2 (by omega) hm3).1, htd2.trans htdI, hdn2.trans hdI, hbd2.trans hbdI, hsc2.trans hscI0, by rw [hinv, show (unp (s.load S.scan)).2.1.toNat - i = ((unp (s.load S.scan)).2.1.toNat - (i + 1)) + 1 by omega, refsN_succ, if_neg hne, hm2]; simp only [then_ok]; rw [hm3]; rfl⟩, by first | omega | (simp only; omega), st_.to ⟨rfl, rfl, rfl, rfl, rfl, trivial⟩ (fun hh => (by first | exact (hh.pk [2]) | (simp only [hbd2]; exact (hh.pk [2]))))⟩
          · have hne : sI.load (SI.scan + 1 + i) = 0 := by simpa using h78
            refine g_skip ?_; refine g_region ?_
            first | refine p_val rfl (ev_add rfl rfl (wr64 (by omega))) .free rfl rfl ?_ | refine p_val rfl (ev_add rfl rfl rfl) .free rfl rfl ?_
            refine kPm rfl rfl ?_; refine p_nil ?_
            exact fun a w st_ => ⟨(i + 1, SI, sI), ⟨by first | omega | (simp only; omega), hSI, huI, htdI, hdI, hbdI, hscI0, by rw [hinv, show (unp (s.load S.scan)).2.1.toNat - i = ((unp (s.load S.scan)).2.1.toNat - (i + 1)) + 1 by omega, refsN_succ, if_pos hne]; rfl⟩, by first | omega | (simp only; omega), st_.to ⟨rfl, rfl, rfl, rfl, rfl, trivial⟩ (fun hh => (by first | exact (hh.pk [1]) | (simp only [hbd2]; exact (hh.pk [1]))))⟩
        · have hi : ¬ (i : Int) < (unp (s.load S.scan)).2.1 := by simpa using h63
          have hscI := hSI.scan
          refine g_exit ?_; refine go_pk [1] ?_; refine go_col fun rsv3 tsv3 mw3 hrsv3 htsv3 => ?_; refine g_drawt 9 Tryz.mixed (by kernel_rfl) (by kernel_rfl) ?_; refine kQm rfl rfl ?_
          first | refine kQv (ev_nil rfl) rfl ?_ | refine kQv (ev_nilf rfl) rfl ?_
          refine kQv (ev_fa (m := _) fa_115_4 rfl rfl) rfl ?_; refine kQv (ev_load Tryz.isAgg3 rfl rfl) rfl ?_; refine kQv (ev_loadA Tryz.isAgg87 Tryz.sizeOf87 rfl rfl) rfl ?_; refine q_call rfl (en_f Tryz.call52 rfl) (hsize_ok _ _ _ _ (by omega)) .free rfl ?_
          first | refine q_val rfl (ev_add rfl rfl (wr64 (by omega))) .free rfl ?_ | refine q_val rfl (ev_add rfl rfl rfl) .free rfl ?_
          first | refine kQv (ev_nil rfl) rfl ?_ | refine kQv (ev_nilf rfl) rfl ?_
          refine kQv (ev_fa (m := _) fa_115_4 rfl rfl) rfl ?_; refine q_nil ?_; refine p_chg0 rfl (ch_store Tryz.sizeOf3 rfl rfl rfl rfl) .free rfl ?_
          rintro _ _ rfl
          refine p_nil ?_; refine go_sub (σ' := [(2, _), (0, _)]) ⟨rfl, rfl, trivial⟩ ?_; refine g_seq ?_; refine g_region ?_; refine kPm rfl rfl ?_
          first | refine kPv (ev_nil rfl) rfl ?_ | refine kPv (ev_nilf rfl) rfl ?_
          refine kPv (ev_fa (m := _) fa_115_8 rfl rfl) rfl ?_; refine kPv (ev_load Tryz.isAgg4 rfl rfl) rfl ?_; refine kPa rfl rfl ?_; refine p_nil ?_; refine g_ret ?_
          exact ret_tmp Tryz.results74 rfl (fun w hh => ⟨_, ⟨_, _, by rw [hstep, hinv, show (unp (s.load S.scan)).2.1.toNat - i = 0 by omega]; rfl, by rw [hdI, hdone], rfl⟩, by rw [← hbdI]; exact col_holds (S := { SI with scan := SI.scan + ((unp (s.load S.scan)).1 + 1) }) hrsv3 htsv3 (hh.dp [4])⟩)
      · have hlt : ¬ S.scan < S.free := by simpa using h37
        refine go_conv (fun w hh => col_holds hrsv htsv hh) ?_; refine g_region ?_; refine kPm rfl rfl ?_
        refine p_call rfl (en_f Tryz.call106 rfl) (ckeep_ok B _ x S hS s hu) .free rfl rfl ?_ ?_
        rotate_left
        · rintro _ _ ⟨s9, hm9, rfl, rfl⟩
          exact pan_fn fun w hh => ⟨_, ⟨s9, by unfold ColS.step; rw [if_neg (by rw [hdone]; decide)]; simp only [htd]; rw [if_neg hlt, hm9]; rfl, rfl, rfl⟩, hh⟩
        rintro _ _ ⟨r1, s1, hm1, rfl, rfl⟩
        refine go_col fun rsv4 tsv4 mw4 hrsv4 htsv4 => ?_; refine p_nil ?_; refine g_seq ?_; refine g_region ?_; refine kPm rfl rfl ?_
        first | refine kPv (ev_nil rfl) rfl ?_ | refine kPv (ev_nilf rfl) rfl ?_
        refine kPv (ev_fa (m := _) fa_115_8 rfl rfl) rfl ?_; refine kPv (ev_load Tryz.isAgg4 rfl rfl) rfl ?_; refine kPa rfl rfl ?_; refine p_nil ?_; refine go_sub (σ' := [(2, _)]) ⟨rfl, trivial⟩ ?_; refine g_ret ?_
        exact ret_tmp Tryz.results74 rfl (fun w hh => ⟨_, ⟨(true, { S with done := true }), s1, by unfold ColS.step; rw [if_neg (by rw [hdone]; decide)]; simp only [htd]; rw [if_neg hlt, hm1]; rfl, rfl, rfl⟩, col_holds (S := { S with done := true }) hrsv4 htsv4 hh⟩)
end Go.Proofs.YtbfheafpecgphaaGreat
namespace Go.Proofs.YtbfheafpecgphaaGreat
open Go
theorem runN_w : ∀ (f : Nat) (S S' : ColS) (s s' : Dev), ColW S → U64 s → runN f S s = .ok S' s' → ColW S' ∧ U64 s' ∧ S'.b = S.b ∧ S'.bd = S.bd ∧ S'.c = S.c ∧ S'.to_ = S.to_
  | 0, S, S', s, s', h, hu, e => by cases e; exact ⟨h, hu, rfl, rfl, rfl, rfl⟩
  | f + 1, S, S', s, s', h, hu, e => by
    rw [runN_succ] at e
    obtain ⟨r, s1, e1, e⟩ := then_inv e
    obtain ⟨h1, u1, g1, g2, g3, g4, _⟩ := step_w h hu e1
    split at e
    · cases e; exact ⟨h1, u1, g1, g2, g3, g4⟩
    · obtain ⟨k1, k2, k3, k4, k5, k6⟩ := runN_w f _ _ _ _ h1 u1 e
      exact ⟨k1, k2, k3.trans g1, k4.trans g2, k5.trans g3, k6.trans g4⟩
theorem map_take_succ {α β : Type} {f : α → β} {l : List α} {k : Nat} (hk : k < l.length) : (l.take (k + 1)).map f = (l.take k).map f ++ [f l[k]] := by
  rw [List.take_succ_eq_append_getElem hk, List.map_append]; rfl
theorem newCol_w {bd : Nat} {c : Cfg} {b : Blk} {ws : List Int} (hc : CfgW c) (hb : BlkW c b) (hl : b.rts.length ≤ 16) (hr : ∀ v ∈ b.rts, 0 ≤ v ∧ v < 18446744073709551616) (hw : ∀ v ∈ ws, 0 ≤ v ∧ v < 18446744073709551616) : ColW (newCol bd c b ws) := by
  have h1 := hb.act
  have h2 := frm_b hc (k := 1 - b.act) (by omega)
  have h3 := hc.s1
  have h4 : 0 ≤ c.frm (1 - b.act) ∧ c.frm (1 - b.act) ≤ 20000 := by omega
  exact ⟨hc, hb, hl, h4, ⟨Int.le_refl _, by unfold newCol; simp only; omega⟩, ⟨Int.le_refl _, by simp [newCol]⟩, List.nodup_nil, fun _ h => (by cases h), fun _ h => (by cases h), hw, hr⟩
theorem crun_ok (B : World) (Fr : List HP) (x : Nat) (S : ColS) (hS : ColW S) (s : Dev) (hu : U64 s) :
    ∀ w, Holds B (ColA x S :: DevA S.bd s :: Fr) w → Calls Tryz.prog 17 [ptr x].toArray w (Ret B (fun rv H' => ∃ r s', S.run s = .ok r s' ∧ rv = .tuple #[] ∧ H' = ColA x r :: DevA S.bd s' :: Fr) (fun c H' => ∃ s', S.run s = .off s' ∧ c = offc ∧ H' = DevA S.bd s' :: Fr)) := by
  refine fn_enter Tryz.func17 rfl Tryz.ntmps17 rfl ?_; refine g_block ?_; refine g_loopk (ι := Nat × ColS × Dev) [0] (fun (n, SI, sI) => (SI.meas < n) ∧ (ColW SI) ∧ (U64 sI) ∧ (SI.bd = S.bd) ∧ (runN (S.meas + 1) S s = runN n SI sI)) (fun (n, SI, sI) => []) (fun (n, SI, sI) => ColA x SI :: DevA SI.bd sI :: Fr) (fun (n, SI, sI) => n) (S.meas + 1, S, s) (⟨Nat.lt_succ_self _, hS, hu, rfl, rfl⟩) (fun a w st => st.to trivial (fun hh => hh)) ?_
  rintro ⟨n, SI, sI⟩ ⟨hn, hSI, huI, hbdI, hinv⟩
  try simp only at hn hSI huI hbdI hinv ⊢
  refine go_sub (σ' := [(0, _)]) ⟨rfl, trivial⟩ ?_; refine g_seq ?_; refine g_seq ?_; refine g_region ?_; refine kPm rfl rfl ?_
  refine p_call rfl (en_f Tryz.call74 rfl) (cstep_ok B _ x SI hSI sI huI) .free rfl rfl ?_ ?_
  rotate_left
  · rintro _ _ ⟨s9, hm9, rfl, rfl⟩
    exact pan_fn fun w hh => ⟨_, ⟨s9, by unfold ColS.run; rw [hinv, show n = n - 1 + 1 by omega, runN_succ, hm9]; rfl, rfl, rfl⟩, by rw [← hbdI]; exact hh⟩
  rintro _ _ ⟨r1, s1, hm1, rfl, rfl⟩
  obtain ⟨hS1, hu1, hb1, hbd1, hc1, hto1, hr1, hms1⟩ := step_w hSI huI hm1
  refine kPv (ev_not rfl) rfl ?_; refine p_nil ?_
  refine g_if rfl (fun h4 => ?_) (fun h4 => ?_)
  · have hg : r1.1 = false := by simpa using h4
    refine g_skip ?_; refine g_block ?_; refine g_skip ?_
    exact fun a w st_ => ⟨(n - 1, r1.2, s1), ⟨by have := hms1 hg; first | omega | (simp only; omega), hS1, hu1, hbd1.trans hbdI, by rw [hinv, show n = n - 1 + 1 by omega, runN_succ, hm1]; simp only [then_ok]; rw [if_neg (by rw [hg]; decide)]; rfl⟩, by first | omega | (simp only; omega), st_.to ⟨rfl, trivial⟩ (fun hh => (by simp only [hbd1]; exact hh))⟩
  · have hg : r1.1 = true := by simpa using h4
    refine g_exit ?_
    exact end_none Tryz.results17 (fun w hh => ⟨_, ⟨_, _, by unfold ColS.run; rw [hinv, show n = n - 1 + 1 by omega, runN_succ, hm1]; simp only [then_ok]; rw [if_pos hg], rfl, rfl⟩, by rw [← hbdI]; exact hh⟩)
theorem cblock_ok (B : World) (Fr : List HP) (x : Nat) (S : ColS) (hS : ColW S) :
    ∀ w, Holds B (ColA x S :: Fr) w → Calls Tryz.prog 76 [ptr x].toArray w (Ret B (fun rv H' => ∃ sv, cell1 sv = true ∧ rv = blkV S.block sv ∧ H' = VecU 0 (sv, S.block.rts) :: ColA x S :: Fr) (fun _ _ => False)) := by
  refine fn_enter Tryz.func76 rfl Tryz.ntmps76 rfl ?_
  have hfb := hS.fb
  have hfr := hS.free
  have hto := hS.to_
  have hba := hS.b.act
  have hrl := hS.rl
  refine g_seq ?_; refine g_region ?_; refine p_chg rfl (ch_allocA Tryz.zeroValue33 rfl) .free rfl rfl ?_
  rintro _ _ ⟨b2, rfl, rfl⟩
  refine p_nil ?_; refine g_seq ?_; refine go_pk [1] ?_; refine go_col fun rsv tsv mw hrsv htsv => ?_
  refine g_drawT (.fin [0, 1, 2, 3, 4, 5, 6, 7, 8, 9, 10, 11, 12, 13, 14, 15, 16, 17]) [16, 17] [0, 1, 2, 3, 4, 5, 6, 7, 8, 9, 10, 11, 12, 13, 14, 15] [16] [row x (colRow S rsv tsv mw) 115] [2, 0] (G := Nat) (fun b3 => [(3, ptr b3)]) (fun b3 => row b3 [i64 (1 - S.b.act), i64 (S.free - S.to_), .slice none 0 0] 33 :: row x (colRow S rsv tsv mw) 115 :: VecU 0 (rsv, S.b.rts) :: VecU 0 (tsv, S.todo) :: mapA .u64 i64 mw S.went :: row b2 [i64 0, i64 0, .slice none 0 0] 33 :: Fr) Tryz.mixed (by kernel_rfl) ?_ ?_
  · skip
    refine t_fin ?_; refine v_hoist rfl rfl rfl (ev_move rfl) .free rfl ?_
    first | refine v_hoist rfl rfl rfl (ev_nil rfl) .free rfl ?_ | refine v_hoist rfl rfl rfl (ev_nilf rfl) .free rfl ?_
    refine v_hoist rfl rfl rfl (ev_fa (m := _) fa_115_2 rfl rfl) .free rfl ?_; refine v_hoist rfl rfl rfl (ev_fa (m := _) fa_33_0 rfl rfl) .free rfl ?_; refine v_hoist rfl rfl rfl (ev_load Tryz.isAgg3 rfl rfl) .free rfl ?_
    first | refine v_hoist rfl rfl rfl (ev_sub rfl rfl (wr64 (by omega))) .free rfl ?_ | refine v_hoist rfl rfl rfl (ev_sub rfl rfl rfl) .free rfl ?_
    refine v_hoist rfl rfl rfl (ev_move rfl) .free rfl ?_
    first | refine v_hoist rfl rfl rfl (ev_nil rfl) .free rfl ?_ | refine v_hoist rfl rfl rfl (ev_nilf rfl) .free rfl ?_
    refine v_hoist rfl rfl rfl (ev_fa (m := _) fa_115_5 rfl rfl) .free rfl ?_; refine v_hoist rfl rfl rfl (ev_load Tryz.isAgg3 rfl rfl) .free rfl ?_; refine v_hoist rfl rfl rfl (ev_move rfl) .free rfl ?_
    first | refine v_hoist rfl rfl rfl (ev_nil rfl) .free rfl ?_ | refine v_hoist rfl rfl rfl (ev_nilf rfl) .free rfl ?_
    refine v_hoist rfl rfl rfl (ev_fa (m := _) fa_115_3 rfl rfl) .free rfl ?_; refine v_hoist rfl rfl rfl (ev_load Tryz.isAgg3 rfl rfl) .free rfl ?_
    first | refine v_hoist rfl rfl rfl (ev_sub rfl rfl (wr64 (by omega))) .free rfl ?_ | refine v_hoist rfl rfl rfl (ev_sub rfl rfl rfl) .free rfl ?_
    refine v_hoist rfl rfl rfl (ev_build rfl (bld_33_0_1 _ _ rfl rfl)) .free rfl ?_; refine v_mark rfl rfl ?_; refine p_chg rfl (ch_allocA Tryz.zeroValue33 rfl) .free rfl rfl ?_
    rintro _ _ ⟨b3, rfl, rfl⟩
    refine p_nil ?_; refine v_on ?_; refine v_mark rfl rfl ?_; refine p_chg0 rfl (ch_storeA (vs := _) Tryz.sizeOf33 rfl rfl rfl (by first | rfl | exact all3 (by assumption)) rfl) .free rfl ?_
    rintro _ _ rfl
    refine p_nil ?_; refine v_off rfl ?_; refine v_nil ?_
    exact fun a w st_ => ⟨b3, st_.to ⟨rfl, rfl, rfl, trivial⟩ (fun hh => hh)⟩
  intro b3
  refine go_sub (σ' := [(3, ptr b3), (2, _), (0, _)]) ⟨rfl, rfl, rfl, trivial⟩ ?_; refine g_seq ?_; refine g_seq ?_; refine go_pk [2] ?_; refine go_vecq fun qr cr hqr hqi => ?_
  subst hqr
  refine go_pk [1, 1, 0, 0, 0, 0] ?_; refine go_conv (fun w hh => vec_nil (T := 52) (enc := w64) hh) ?_; refine g_region ?_; refine kPm rfl rfl ?_
  first | refine kPv (ev_nil rfl) rfl ?_ | refine kPv (ev_nilf rfl) rfl ?_
  refine kPv (ev_fa (m := _) fa_115_2 rfl rfl) rfl ?_; refine kPv (ev_fa (m := _) fa_33_2 rfl rfl) rfl ?_; refine kPv (ev_load Tryz.isAgg31 rfl rfl) rfl ?_; refine kPv (ev_len rfl Tryz.runUnderlying31 ⟨_, rfl⟩ rfl) rfl ?_; refine kPm rfl rfl ?_; refine p_nil ?_; refine g_block ?_
  refine g_loopk (ι := Nat × Value) [27, 26, 3, 2, 0] (fun (k, bv) => (k ≤ S.b.rts.length) ∧ (cell1 bv = true)) (fun (k, bv) => [(28, i64 k)]) (fun (k, bv) => VecU 0 (bv, (S.b.rts.take k).map (fun w => (mget S.went w).getD 0)) :: row b3 [i64 (1 - S.b.act), i64 (S.free - S.to_), bv] 33 :: row x (colRow S (.slice qr S.b.rts.length cr) tsv mw) 115 :: VecU 0 (.slice qr S.b.rts.length cr, S.b.rts) :: VecU 0 (tsv, S.todo) :: mapA .u64 i64 mw S.went :: row b2 [i64 0, i64 0, .slice none 0 0] 33 :: Fr) (fun (k, bv) => S.b.rts.length - k) (0, .slice none 0 0) (⟨Nat.zero_le _, rfl⟩) (fun a w st => st.to ⟨rfl, trivial⟩ (fun hh => hh)) ?_
  rintro ⟨k, bv⟩ ⟨hk0, hbv⟩
  try simp only at hk0 hbv ⊢
  refine go_sub (σ' := [(28, i64 k), (27, _), (26, _), (3, _), (2, _), (0, _)]) ⟨rfl, rfl, rfl, rfl, rfl, rfl, trivial⟩ ?_; refine g_seq ?_; refine g_region ?_; refine kPv (ev_cmp rfl rfl rfl) rfl ?_; refine p_nil ?_; refine g_seq ?_
  refine g_if rfl (fun h29 => ?_) (fun h29 => ?_)
  · have hk : k < S.b.rts.length := by simp at h29; omega
    obtain ⟨bq, oq, rfl⟩ := hqi k hk
    have hvb := hS.vb S.b.rts[k]
    refine g_skip ?_; refine g_seq ?_; refine g_block ?_; refine g_seq ?_; refine g_region ?_; refine kPv (ev_iaS Tryz.runUnderlying31 Tryz.sizeOf52 rfl rfl (by omega) (by omega)) rfl ?_
    refine kPv (ev_loadS (v := w64 S.b.rts[k]) Tryz.isAgg52 (vec_slr 3 rfl) rfl (by rw [Int.toNat_natCast, List.getElem?_map, List.getElem?_eq_getElem hk]; rfl)) rfl ?_
    refine kPa rfl rfl ?_; refine p_nil ?_; refine g_drawv [0, 1, 2, 3, 4, 5, 6, 7, 8, 9, 10, 11, 12] [9, 10, 12] [0, 1] [9] [row b3 [i64 (1 - S.b.act), i64 (S.free - S.to_), bv] 33, row x (colRow S (.slice (some ⟨bq, oq, none⟩) S.b.rts.length cr) tsv mw) 115, mapA .u64 i64 mw S.went] Tryz.mixed (by kernel_rfl) ?_; refine v_hoist rfl rfl rfl (ev_fa (m := _) fa_33_2 rfl rfl) .free rfl ?_; refine v_hoist rfl rfl rfl (ev_load Tryz.isAgg31 rfl rfl) .free rfl ?_
    refine v_val rfl rfl rfl (ev_move rfl) .free rfl ?_
    first | refine v_val rfl rfl rfl (ev_nil rfl) .free rfl ?_ | refine v_val rfl rfl rfl (ev_nilf rfl) .free rfl ?_
    refine v_val rfl rfl rfl (ev_fa (m := _) fa_115_7 rfl rfl) .free rfl ?_; refine v_val rfl rfl rfl (ev_load Tryz.isAgg113 rfl rfl) .free rfl ?_; refine v_val rfl rfl rfl (ev_move rfl) .free rfl ?_; refine v_val rfl rfl rfl ((ev_lookup1 Tryz.runUnderlying113 Tryz.runUnderlying52 Tryz.zeroValue3 rfl rfl).eq (mval_i _)) .free rfl ?_; refine v_val rfl rfl rfl (ev_conv Tryz.runUnderlying3 Tryz.runUnderlying52 rfl (wru64 (by omega))) .free rfl ?_; refine v_mark rfl rfl ?_
    refine p_chg rfl (ch_bs1 Tryz.runUnderlying31 Tryz.sizeOf52 Tryz.zeroValue52 rfl rfl rfl) .free rfl rfl ?_
    rintro _ _ ⟨b41, rfl, rfl⟩
    refine go_pk [1, 0] ?_; refine p_nil ?_; refine v_on ?_; refine v_mark rfl rfl ?_; refine p_chg rfl (ch_append_vec rfl rfl Tryz.runUnderlying31 Tryz.runUnderlying31 ⟨_, rfl⟩ Tryz.sizeOf52 Tryz.zeroValue52 rfl (fun _ => rfl) tb_52 rfl rfl (by simp; omega)) .free rfl rfl ?_
    rintro bv2 _ ⟨hbv2, rfl⟩
    refine p_nil ?_; refine v_off rfl ?_; refine v_val rfl rfl rfl (ev_fa (m := _) fa_33_2 rfl rfl) .free rfl ?_; refine v_mark rfl rfl ?_; refine p_chg0 rfl (ch_store Tryz.sizeOf31 rfl rfl (by first | rfl | assumption) rfl) .free rfl ?_
    rintro _ _ rfl
    refine p_nil ?_; refine v_off rfl ?_; refine v_nil ?_; refine go_sub (σ' := [(28, _), (27, _), (26, _), (3, _), (2, _), (0, _)]) ⟨rfl, rfl, rfl, rfl, rfl, rfl, trivial⟩ ?_; refine g_region ?_
    first | refine p_val rfl (ev_add rfl rfl (wr64 (by omega))) .free rfl rfl ?_ | refine p_val rfl (ev_add rfl rfl rfl) .free rfl rfl ?_
    refine kPm rfl rfl ?_; refine p_nil ?_
    exact fun a w st_ => ⟨(k + 1, bv2), ⟨by first | omega | (simp only; omega), hbv2⟩, by first | omega | (simp only; omega), st_.to ⟨rfl, rfl, rfl, rfl, rfl, rfl, trivial⟩ (fun hh => (by simp only [map_take_succ hk]; exact hh))⟩
  · have hk : ¬ k < S.b.rts.length := by simp at h29; omega
    obtain rfl : k = S.b.rts.length := by omega
    rw [List.take_length]
    refine g_exit ?_; refine g_seq ?_; refine g_region ?_; refine kPv (ev_loadA Tryz.isAgg33 Tryz.sizeOf33 rfl rfl) rfl ?_; refine p_chg0 rfl (ch_storeA (vs := _) Tryz.sizeOf33 rfl rfl rfl (by first | rfl | exact all3 (by assumption)) rfl) .free rfl ?_
    rintro _ _ rfl
    refine p_nil ?_; refine go_sub (σ' := [(2, _)]) ⟨rfl, trivial⟩ ?_; refine g_ret ?_
    exact ret_1 Tryz.results76 (.cellA rfl Tryz.isAgg33 Tryz.sizeOf33 rfl rfl) (fun w hh => ⟨_, ⟨bv, hbv, rfl, rfl⟩, (col_holds (S := S) hrsv htsv ((hh.dp [1, 5]).pk [1, 1, 1, 1])).pk [1]⟩)
theorem clone64n_ok (B : World) (Fr : List HP) (cap : Nat) :
    ∀ w, Holds B Fr w → Calls Tryz.prog 49 [.slice none 0 cap].toArray w (PureR B Fr (.slice none 0 0)) := by
  refine fn_enter Tryz.func49 rfl Tryz.ntmps49 rfl ?_; refine g_seq ?_; refine g_region ?_; refine kPa rfl rfl ?_; refine p_nil ?_; refine g_seq ?_; refine g_seq ?_; refine g_region ?_; refine kPm rfl rfl ?_; refine kPv (ev_eqsl Tryz.runUnderlying31 rfl rfl rfl) rfl ?_; refine p_nil ?_; refine g_ift rfl (rfl) ?_; refine g_seq ?_; refine g_region ?_; refine kPa rfl rfl ?_; refine p_nil ?_; refine g_ret ?_
  exact ret_tmp Tryz.results49 rfl (fun w hh => ⟨rfl, hh⟩)
theorem clone64v_ok (B : World) (Fr : List HP) (q : Option Addr) (cap : Nat) (xs : List Int) (hn : xs.length ≤ 1000000) (hq : q = none → xs = []) (hr : SlR B Fr (.slice q xs.length cap) (xs.map w64)) : ∀ w, Holds B Fr w → Calls Tryz.prog 49 [.slice q xs.length cap].toArray w (Ret B (fun rv H' => cell1 rv = true ∧ H' = VecU 0 (rv, xs) :: Fr) (fun _ _ => False)) := by
  intro w hw
  cases q with
  | none =>
    have := hq rfl
    subst this
    exact (clone64n_ok B Fr cap w hw).mono fun e w' h => by obtain ⟨rfl, h⟩ := h; exact ⟨_, ⟨rfl, rfl⟩, vec_nil h⟩
  | some a =>
    refine (clone64_ok B Fr (some a) xs.length cap (xs.map w64) (by simp) (by simpa using hn) (by rw [List.all_eq_true]; intro v hv; obtain ⟨x, _, rfl⟩ := List.mem_map.1 hv; rfl) hr w hw).mono fun e w' h => ?_
    cases e with
    | returned v =>
      obtain ⟨H', ⟨bn, rest, rfl, rfl⟩, h⟩ := h
      exact ⟨_, ⟨rfl, rfl⟩, vec_row rfl rfl h⟩
    | panicked c => obtain ⟨_, h, _⟩ := h; exact h.elim
    | outgrown => exact h.elim
theorem cnew_ok (B : World) (Fr : List HP) (bd : Nat) (c : Cfg) (hc : CfgW c) (b : Blk) (hb : BlkW c b) (sv : Value) (hsv : cell1 sv = true) (q : Option Addr) (cap : Nat) (ws : List Int) (hwn : ws.length ≤ 1000000) (hwq : q = none → ws = []) (hwl : SlR B (VecU 0 (sv, b.rts) :: Fr) (.slice q ws.length cap) (ws.map w64)) :
    ∀ w, Holds B (VecU 0 (sv, b.rts) :: Fr) w → Calls Tryz.prog 16 [ptr bd, cfgV c, blkV b sv, .slice q ws.length cap].toArray w (Ret B (fun rv H' => ∃ x, rv = ptr x ∧ H' = ColA x (newCol bd c b ws) :: Fr) (fun _ _ => False)) := by
  refine fn_enter Tryz.func16 rfl Tryz.ntmps16 rfl ?_
  have hba := hb.act
  refine g_seq ?_; refine g_region ?_; refine p_chg rfl (ch_boxA rfl) .free rfl rfl ?_
  rintro _ _ ⟨b5, rfl, rfl⟩
  refine p_chg rfl (ch_boxA rfl) .free rfl rfl ?_
  rintro _ _ ⟨b6, rfl, rfl⟩
  refine kPa rfl rfl ?_; refine p_nil ?_; refine g_seq ?_; refine g_region ?_; refine kPv (ev_loadA Tryz.isAgg30 Tryz.sizeOf30 rfl rfl) rfl ?_; refine kPv (ev_fa (m := _) fa_33_0 rfl rfl) rfl ?_; refine kPv (ev_load Tryz.isAgg3 rfl rfl) rfl ?_
  first | refine p_val rfl (ev_sub rfl rfl (wr64 (by omega))) .free rfl rfl ?_ | refine p_val rfl (ev_sub rfl rfl rfl) .free rfl rfl ?_
  refine p_callq rfl (en_f Tryz.call46 rfl) (from_ok _ _ c hc _ (by have := hb.act; omega) (by have := hb.act; omega)) .free rfl rfl ?_
  refine kPa rfl rfl ?_; refine p_nil ?_; refine go_sub (σ' := [(9, _), (8, _), (6, _), (5, _), (0, _), (3, _)]) ⟨rfl, rfl, rfl, rfl, rfl, rfl, trivial⟩ ?_; refine g_seq ?_; refine go_pk [1] ?_
  refine g_drawT (.br [0, 1, 2, 3, 4, 5, 6] 7 (.fin [8, 9, 10, 11]) 8 (.fin [7, 9, 10, 11])) [7, 8, 10] [0, 1, 2, 3, 4, 5, 6] [7, 8] [row b5 [i64 c.log, i64 c.roots, i64 c.space] 30, row b6 [i64 b.act, i64 b.used, sv] 33] [] (G := Nat) (fun x => [(8, ptr x)]) (fun x => ColA x (newCol bd c b ws) :: Fr) Tryz.mixed (by kernel_rfl) ?_ ?_
  · skip
    refine t_br ?_; refine v_hoist rfl rfl rfl (ev_move rfl) .free rfl ?_; refine v_hoist rfl rfl rfl (ev_loadA Tryz.isAgg30 Tryz.sizeOf30 rfl rfl) .free rfl ?_; refine v_hoist rfl rfl rfl (ev_loadA Tryz.isAgg33 Tryz.sizeOf33 rfl rfl) .free rfl ?_; refine v_hoist rfl rfl rfl (ev_move rfl) .free rfl ?_; refine v_hoist rfl rfl rfl (ev_move rfl) .free rfl ?_; refine v_hoist rfl rfl rfl (ev_move rfl) .free rfl ?_; refine v_hoist rfl rfl rfl (ev_move rfl) .free rfl ?_; refine v_nil ?_
    refine t_two rfl rfl ?_ ?_
    · skip
      refine p_call rfl (en_f Tryz.call49 rfl) (clone64v_ok _ _ q cap ws hwn hwq hwl.up) .free rfl rfl ?_ ?_
      rotate_left
      · rintro _ _ ⟨⟩
      rintro tsv _ ⟨htsv, rfl⟩
      refine p_nil ?_; refine t_on ?_; refine t_fin ?_; refine v_mark rfl rfl ?_; refine p_chg rfl (ch_makeMap .u64 i64) .free rfl rfl ?_
      rintro _ _ ⟨mw, rfl, rfl⟩
      refine p_nil ?_; refine v_on ?_; refine v_val rfl rfl rfl (ev_build rfl (bld_115_0_1_2_3_4_5_6_7 _ _ _ _ _ _ _ _ _ _ _ _ (by first | rfl | assumption) rfl rfl rfl (by first | rfl | assumption) (by first | rfl | assumption))) .free rfl ?_; refine v_mark rfl rfl ?_; refine p_chg rfl (ch_boxA rfl) .free rfl rfl ?_
      rintro _ _ ⟨b25, rfl, rfl⟩
      refine p_nil ?_; refine v_off rfl ?_; refine v_val rfl rfl rfl (ev_assign rfl) .free rfl ?_; refine v_nil ?_
      exact fun a w st_ => ⟨b25, st_.to ⟨rfl, trivial⟩ (fun hh => (col_holds (S := newCol bd c b ws) hsv htsv ((hh.dp [3, 3]).pk [0, 2, 1])))⟩
    · skip
      refine p_chg rfl (ch_makeMap .u64 i64) .free rfl rfl ?_
      rintro _ _ ⟨mw, rfl, rfl⟩
      refine p_nil ?_; refine t_on ?_; refine t_fin ?_; refine v_mark rfl rfl ?_
      refine p_call rfl (en_f Tryz.call49 rfl) (clone64v_ok _ _ q cap ws hwn hwq hwl.up) .free rfl rfl ?_ ?_
      rotate_left
      · rintro _ _ ⟨⟩
      rintro tsv _ ⟨htsv, rfl⟩
      refine p_nil ?_; refine v_on ?_; refine v_val rfl rfl rfl (ev_build rfl (bld_115_0_1_2_3_4_5_6_7 _ _ _ _ _ _ _ _ _ _ _ _ (by first | rfl | assumption) rfl rfl rfl (by first | rfl | assumption) (by first | rfl | assumption))) .free rfl ?_; refine v_mark rfl rfl ?_; refine p_chg rfl (ch_boxA rfl) .free rfl rfl ?_
      rintro _ _ ⟨b25, rfl, rfl⟩
      refine p_nil ?_; refine v_off rfl ?_; refine v_val rfl rfl rfl (ev_assign rfl) .free rfl ?_; refine v_nil ?_
      exact fun a w st_ => ⟨b25, st_.to ⟨rfl, trivial⟩ (fun hh => (col_holds (S := newCol bd c b ws) hsv htsv ((hh.dp [3, 3]).pk [0, 2])))⟩
  intro x
  refine go_sub (σ' := [(8, ptr x)]) ⟨rfl, trivial⟩ ?_; refine g_ret ?_
  exact ret_tmp Tryz.results16 rfl (fun w hh => ⟨_, ⟨_, rfl, rfl⟩, hh⟩)
end Go.Proofs.YtbfheafpecgphaaGreat
namespace Go.Proofs.YtbfheafpecgphaaGreat
open Go
abbrev secOp (i v : Int) (s : Dev) (S : SecS) : Out (Int × SecS) := S.store s i v
def SecS.fresh (S : SecS) (f t : Int) : SecS := { S with ff := f, ft := t, seen := [], dirty := [] }
def flipM (c : Cfg) (b : Blk) (S : SecS) (s : Dev) : Out (Int × SecS) :=
  (writeM secOp c b s (S.fresh 0 0)).then fun x s1 => if x.1 ≠ 0 then (x.2.abort s1).then fun S2 s2 => .ok (x.1, S2) s2
    else (x.2.commit s1).then fun S2 s2 => .ok (0, S2) s2
def collectM (bd : Nat) (c : Cfg) (S : SecS) (s : Dev) (ws : List Int) : Out (Option ColS × Int × SecS) :=
  if (s.block c).2 ≠ 0 then .ok (none, (s.block c).2, S) s
  else ((newCol bd c (s.block c).1 ((s.block c).1.rts ++ ws)).run s).then fun X s1 => (flipM c X.block S s1).then fun x s2 =>
    if x.1 ≠ 0 then .ok (none, x.1, x.2) s2 else .ok (some X, 0, x.2) s2
theorem block_rl0 {s : Dev} {c : Cfg} (hc : CfgW c) (h : (s.block c).2 = 0) : 0 < (s.block c).1.rts.length := by
  have := hc.r1
  unfold Dev.block at h ⊢
  split at h
  · cases h
  · rename_i h1; rw [if_neg h1]; simp only [tab_len]; omega
theorem mset_len {α : Type} (l : List (Int × α)) (k : Int) (a : α) : (mset l k a).length ≤ l.length + 1 := by
  induction l with
  | nil => simp [mset]
  | cons p t ih => unfold mset; split <;> simp <;> omega
theorem sstore_dirty {S S' : SecS} {s s' : Dev} {i v a : Int} (e : S.store s i v = .ok (a, S') s') : S'.dirty.length ≤ S.dirty.length + 1 := by
  have h1 := mset_len S.dirty (i / 8) ()
  unfold SecS.store at e
  split at e
  · cases e; omega
  · split at e
    · obtain ⟨x, t, e1, e⟩ := then_inv e
      split at e
      · cases e; simp only; omega
      · obtain ⟨y, u, e2, e⟩ := then_inv e
        cases e; exact h1
    · obtain ⟨y, u, e2, e⟩ := then_inv e
      cases e; exact h1
theorem writeN_dirty : ∀ (l : List Int) (i : Int) (S S' : SecS) (s s' : Dev) (a : Int), writeN secOp l i s S = .ok (a, S') s' → S'.dirty.length ≤ S.dirty.length + l.length
  | [], i, S, S', s, s', a, e => by cases e; simp
  | v :: vs, i, S, S', s, s', a, e => by
    unfold writeN at e
    split at e
    · have := writeN_dirty vs _ _ _ _ _ _ e; simp only [List.length_cons]; omega
    · obtain ⟨⟨x, S1⟩, s1, e1, e⟩ := then_inv e
      have h1 := sstore_dirty e1
      split at e
      · cases e; simp only [List.length_cons]; omega
      · have := writeN_dirty vs _ _ _ _ _ _ e; simp only [List.length_cons] at this ⊢; omega
structure SecK (S : SecS) (bd : Nat) (c : Cfg) (s : Dev) : Prop where
  w : LogW S.L
  n : s.n ≤ 1000000
  d : S.L.d = bd
  c : S.L.c = c
theorem flip_ok (B : World) (Fr : List HP) (bs x bd : Nat) (S : SecS) (X : ColS) (hX : ColW X) (hrl0 : 0 < X.b.rts.length) (c : Cfg) (s : Dev) (hu : U64 s) (hK : SecK S bd c s) :
    ∀ w, Holds B (SecC bs S :: ColA x X :: DevA bd s :: Fr) w → Calls Tryz.prog 19 [ptr bd, cfgV c, ptr bs, ptr x].toArray w (Ret B (fun rv H' => ∃ a S' s', flipM c X.block S s = .ok (a, S') s' ∧ rv = i64 a ∧ H' = SecC bs S' :: ColA x X :: DevA bd s' :: Fr) (fun ch H' => ∃ s', flipM c X.block S s = .off s' ∧ ch = offc ∧ H' = DevA bd s' :: Fr)) := by
  refine fn_enter Tryz.func19 rfl Tryz.ntmps19 rfl ?_
  have hrl := hX.rl
  have hbb := hX.b.act
  have hbf := hX.free
  have hbw : ∀ v ∈ X.block.rts, 0 ≤ v ∧ v < 18446744073709551616 := fun v hv => by
    obtain ⟨u, _, rfl⟩ := List.mem_map.1 hv
    have := hX.vb u
    omega
  have hfb := hX.fb
  have hto := hX.to_
  refine g_seq ?_; refine g_region ?_; refine p_chg rfl (ch_boxA rfl) .free rfl rfl ?_
  rintro _ _ ⟨b5, rfl, rfl⟩
  refine kPa rfl rfl ?_; refine p_nil ?_; refine g_seq ?_; refine g_seq ?_; refine g_region ?_; refine kPm rfl rfl ?_; refine kPv (ev_build rfl (bld_41)) rfl ?_; refine go_pk [1] ?_
  refine p_call rfl (en_f Tryz.call18 rfl) (sbeginC_ok B _ bs S 0 0) .free rfl rfl ?_ ?_
  rotate_left
  · rintro _ _ ⟨⟩
  rintro _ _ ⟨rfl, rfl⟩
  refine kPa rfl rfl ?_; refine p_nil ?_; refine g_seq ?_; refine g_region ?_; refine kPm rfl rfl ?_; refine kPv (ev_cmp rfl rfl rfl) rfl ?_; refine p_nil ?_; refine g_iff rfl (rfl) ?_; refine g_skip ?_; refine g_seq ?_; refine g_seq ?_; refine g_drawv [0, 1, 2, 4, 5, 3, 6, 7] [3, 6] [0, 1, 4, 5] [3] [row b5 [i64 c.log, i64 c.roots, i64 c.space] 30] Tryz.mixed (by kernel_rfl) ?_; refine v_hoist rfl rfl rfl (ev_move rfl) .free rfl ?_
  refine v_hoist rfl rfl rfl (ev_loadA Tryz.isAgg30 Tryz.sizeOf30 rfl rfl) .free rfl ?_; refine v_val rfl rfl rfl (ev_move rfl) .free rfl ?_; refine v_hoist rfl rfl rfl (ev_move rfl) .free rfl ?_; refine v_hoist rfl rfl rfl (ev_mkf rfl rfl) .free rfl ?_; refine v_mark rfl rfl ?_; refine go_pk [2] ?_
  refine p_call rfl (en_f Tryz.call76 rfl) (cblock_ok B _ x X hX) .free rfl rfl ?_ ?_
  rotate_left
  · rintro _ _ ⟨⟩
  rintro _ _ ⟨bsv, hbsv, rfl, rfl⟩
  refine go_vecq fun qb cb hqb hqi => ?_
  subst hqb
  refine p_nil ?_; refine v_on ?_; refine v_mark rfl rfl ?_; refine go_pk [4, 2] ?_
  refine p_call rfl (en_f Tryz.call75 rfl) (rwrite_ok B _ _ _ bd bs SecS (fun b S => SecO b S) _ _ (storeS B bd bs c) c (hK.c ▸ hK.w.c) X.block (by simp only [ColS.block]; omega) hbw (by simp only [ColS.block, List.length_map]; omega) (by simp only [ColS.block, List.length_map]; omega) (.slice qb X.block.rts.length cb) rfl (vec_slr 0 rfl) s (S.fresh 0 0) ⟨hu, hK.n, ⟨hK.w, fun _ h => (by cases h)⟩, hK.d, hK.c⟩) .free rfl rfl ?_ ?_
  rotate_left
  · rintro _ _ ⟨s9, hm9, rfl, rfl⟩
    exact pan_fn fun w hh => ⟨_, ⟨s9, by unfold flipM writeM; rw [show writeN secOp (X.block.act :: X.block.used :: X.block.rts) c.active s (S.fresh 0 0) = .off s9 from hm9]; rfl, rfl, rfl⟩, hh.dp [1, 1, 1]⟩
  rintro _ _ ⟨a2, S2, s2, hm2, rfl, hok2, rfl⟩
  obtain ⟨hu2, hn2, hw2, hd2, hc2⟩ := hok2
  obtain rfl := hd2
  refine p_nil ?_; refine v_off rfl ?_; refine v_val rfl rfl rfl (ev_assign rfl) .free rfl ?_; refine v_nil ?_; refine go_sub (σ' := [(10, _), (8, _), (2, _)]) ⟨rfl, rfl, rfl, trivial⟩ ?_; refine g_seq ?_; refine g_region ?_; refine kPm rfl rfl ?_; refine kPv (ev_cmp rfl rfl rfl) rfl ?_; refine p_nil ?_
  refine g_if rfl (fun h25 => ?_) (fun h25 => ?_)
  · have he : a2 ≠ 0 := by simpa using h25
    refine g_seq ?_; refine g_region ?_; refine kPm rfl rfl ?_; refine go_pk [1, 0] ?_
    refine p_call rfl (en_f Tryz.call20 rfl) (sabortO_ok B _ bs S2 s2 hw2) .free rfl rfl ?_ ?_
    rotate_left
    · rintro _ _ ⟨s9, hm9, rfl, rfl⟩
      exact pan_fn fun w hh => ⟨_, ⟨s9, by unfold flipM; rw [hm2]; simp only [then_ok]; rw [if_pos he, hm9]; rfl, rfl, rfl⟩, hh.dp [1, 1, 1]⟩
    rintro _ _ ⟨S3, s3, hm3, rfl, rfl⟩
    refine p_nil ?_; refine g_seq ?_; refine g_region ?_; refine kPm rfl rfl ?_; refine kPa rfl rfl ?_; refine p_nil ?_; refine g_ret ?_
    exact ret_tmp Tryz.results19 rfl (fun w hh => ⟨_, ⟨a2, S3, s3, by unfold flipM; rw [hm2]; simp only [then_ok]; rw [if_pos he, hm3]; rfl, rfl, rfl⟩, ((hh.dp [2, 3]).pk [0, 1])⟩)
  · have he : ¬ a2 ≠ 0 := by simpa using h25
    refine g_skip ?_; refine g_seq ?_; refine g_region ?_; refine kPm rfl rfl ?_; refine go_pk [1, 0] ?_
    refine p_call rfl (en_f Tryz.call78 rfl) (scommitO_ok B _ bs S2 s2 hw2 (by have := writeN_dirty _ _ _ _ _ _ _ hm2; simp only [SecS.fresh, ColS.block, List.length_cons, List.length_map, List.length_nil] at this; omega)) .free rfl rfl ?_ ?_
    rotate_left
    · rintro _ _ ⟨s9, hm9, rfl, rfl⟩
      exact pan_fn fun w hh => ⟨_, ⟨s9, by unfold flipM; rw [hm2]; simp only [then_ok]; rw [if_neg he, hm9]; rfl, rfl, rfl⟩, hh.dp [1, 1, 1]⟩
    rintro _ _ ⟨S3, s3, hm3, rfl, rfl⟩
    refine kPa rfl rfl ?_; refine p_nil ?_; refine g_ret ?_
    exact ret_tmp Tryz.results19 rfl (fun w hh => ⟨_, ⟨0, S3, s3, by unfold flipM; rw [hm2]; simp only [then_ok]; rw [if_neg he, hm3]; rfl, rfl, rfl⟩, ((hh.dp [2, 3]).pk [0, 1])⟩)
theorem ch_append_vecs0 {B : World} {σ : Env} {Fr : List HP} {P : Program} {T : TypeId} {enc : Int → Value} {sv : Value} {xs : List Int} {d : Option Tmp} {ty : TypeId} {p : String} {af : Array Edge} {g : Option (Nat × Bool)} {t : TypeId} {x y : Operand} {at_ : Array TypeId} {u : TypeId} {ud : TypeDesc} {ys : List Int} {z yv : Value}
    (ha : at_[0]? = some t) (ha' : at_[1]? = some u) (ht : ∀ w, (underlying t).run P w = .ok (.slice T) w) (hu : ∀ w, (underlying u).run P w = .ok ud w) (hud : ∃ q, ud = .slice q) (hs : ∀ w, (sizeOf T).run P w = .ok 1 w) (hz : ∀ w, (zeroValue T).run P w = .ok z w) (hz1 : cell1 z = true) (he1 : ∀ v, cell1 (enc v) = true) (hfb : fewBytes P T)
    (hx : evO σ x = some sv) (hy : evO σ y = some yv) (hr : SlR B Fr yv (ys.map enc)) (hn : xs.length + ys.length ≤ 1000000000) :
    Chg P B σ (VecA T enc 0 (sv, xs) :: Fr) ⟨d, .call ⟨.builtin .append, #[x, y], at_⟩, ty, p, af, g⟩ (fun v' H' => cell1 v' = true ∧ H' = VecA T enc 0 (v', xs ++ ys) :: Fr) := by
  by_cases h0 : 0 < ys.length
  · exact ch_append_vecs ha ha' ht hu hud hs hz hz1 he1 hfb hx hy hr h0 hn
  obtain rfl : ys = [] := List.length_eq_zero_iff.1 (by omega)
  intro a w kn hh
  obtain ⟨q, rfl⟩ := hud
  obtain ⟨sq, scap, e0, _⟩ := hr.ex
  subst e0
  have hf : (Builtin.firstCells 1 0 (.slice sq 0 scap)).run P w = .ok #[] w := by
    have := hr.first (P := P) (w := w) hh.tail 0 (Nat.zero_le _)
    simpa using this
  have hsl : ∃ q n c, sv = .slice q n c ∧ n ≤ c := by
    rcases holds_vec hh with ⟨_, h2, _⟩ | ⟨bd, pre, rest, k, _, h1, _⟩
    · exact ⟨_, _, _, h2, Nat.le_refl _⟩
    · exact ⟨_, _, _, h1, Nat.le_add_right _ _⟩
  obtain ⟨q2, n2, c2, rfl, hc2⟩ := hsl
  refine ⟨.value (.slice q2 n2 c2), w, ?_, _, .inl rfl, _, ⟨rfl, rfl⟩, by simpa using hh⟩
  simp only [execOp, resolve, Sem.run_bind, Sem.run_pure, Result.andThen_ok]
  simp only [List.map_nil, List.length_nil] at hy
  cases q2 <;> simp [invoke, builtin, Builtin.append_, ha, ha', hu, kn.eval hx, kn.eval hy, ht, hs, Builtin.lenOf, hc2, hf, storeCells]
theorem store_n {s s' : Dev} {i v a : Int} (e : s.store i v = .ok a s') : s'.n = s.n := by
  unfold Dev.store at e
  split at e
  · cases e; rfl
  split at e
  · cases e
  · cases e; rfl
theorem flush_n {s s' : Dev} {i a : Int} (e : s.flush i = .ok a s') : s'.n = s.n := by
  unfold Dev.flush at e
  split at e
  · cases e; rfl
  split at e
  · cases e
  · cases e; rfl
theorem fence_n {s s' : Dev} {a : Unit} (e : s.fence = .ok a s') : s'.n = s.n := by
  unfold Dev.fence at e
  split at e
  · cases e
  · cases e; rfl
theorem cpyN_n : ∀ (k : Nat) (i a f : Int) (s s' : Dev), cpyN k i a f s = .ok () s' → s'.n = s.n
  | 0, _, _, _, s, s', e => by cases e; rfl
  | k + 1, i, a, f, s, s', e => by
    rw [cpyN_succ] at e
    obtain ⟨_, s1, e1, e⟩ := then_inv e
    exact (cpyN_n k _ _ _ _ _ e).trans (store_n e1)
theorem copied_n {S : ColS} {s s' : Dev} {w : Int} {r : Int × ColS} (e : S.copied s w = .ok r s') : s'.n = s.n := by
  unfold ColS.copied at e
  split at e
  · cases e; rfl
  split at e
  · cases e; rfl
  split at e
  · cases e; rfl
  obtain ⟨_, s1, e1, e⟩ := then_inv e
  cases e
  exact cpyN_n _ _ _ _ _ _ e1
theorem refsN_n : ∀ (k : Nat) (i : Int) (S S' : ColS) (s s' : Dev), refsN k i S s = .ok S' s' → s'.n = s.n
  | 0, _, S, S', s, s', e => by cases e; rfl
  | k + 1, i, S, S', s, s', e => by
    rw [refsN_succ] at e
    split at e
    · exact refsN_n k _ _ _ _ _ e
    · obtain ⟨r, s1, e1, e⟩ := then_inv e
      obtain ⟨_, s2, e2, e⟩ := then_inv e
      exact ((refsN_n k _ _ _ _ _ e).trans (store_n e2)).trans (copied_n e1)
theorem keepN_n : ∀ (f : Nat) (i e : Int) (s s' : Dev) (a : Unit), keepN f i e s = .ok a s' → s'.n = s.n
  | 0, _, _, s, s', a, e => by cases e; rfl
  | f + 1, i, e', s, s', a, e => by
    rw [keepN_succ] at e
    split at e
    · obtain ⟨_, s1, e1, e⟩ := then_inv e
      exact (keepN_n f _ _ _ _ _ e).trans (flush_n e1)
    · cases e; rfl
theorem step_n {S : ColS} {s s' : Dev} {r : Bool × ColS} (e : S.step s = .ok r s') : s'.n = s.n := by
  unfold ColS.step at e
  split at e
  · cases e; rfl
  split at e
  · obtain ⟨_, s1, e1, e⟩ := then_inv e
    cases e; exact copied_n e1
  · split at e
    · obtain ⟨_, s1, e1, e⟩ := then_inv e
      cases e; exact refsN_n _ _ _ _ _ _ e1
    · obtain ⟨_, s1, e1, e⟩ := then_inv e
      cases e
      unfold ColS.keep at e1
      obtain ⟨_, s2, e2, e1⟩ := then_inv e1
      have h2 := keepN_n _ _ _ _ _ _ e2
      split at e1
      · exact (fence_n e1).trans h2
      · cases e1; exact h2
theorem run_n {S S' : ColS} {s s' : Dev} (e : S.run s = .ok S' s') : s'.n = s.n := by
  unfold ColS.run at e
  revert e
  generalize S.meas + 1 = f
  intro e
  induction f generalizing S s with
  | zero => cases e; rfl
  | succ f ih =>
    rw [runN_succ] at e
    obtain ⟨r, s1, e1, e⟩ := then_inv e
    split at e
    · cases e; exact step_n e1
    · exact (ih e).trans (step_n e1)
theorem fcollect_ok (B : World) (Fr : List HP) (bs bd : Nat) (S : SecS) (c : Cfg) (hc : CfgW c) (s : Dev) (hu : U64 s) (hK : SecK S bd c s) (q : Option Addr) (cap : Nat) (ws : List Int) (hwn : ws.length ≤ 900000) (hws : ∀ v ∈ ws, 0 ≤ v ∧ v < 18446744073709551616) (hwl : SlR B Fr (.slice q ws.length cap) (ws.map w64)) :
    ∀ w, Holds B (SecC bs S :: DevA bd s :: Fr) w → Calls Tryz.prog 14 [ptr bd, cfgV c, ptr bs, .slice q ws.length cap].toArray w (Ret B (fun rv H' => ∃ r s', collectM bd c S s ws = .ok r s' ∧ ((r.1 = none ∧ rv = .tuple #[.pointer none, i64 r.2.1] ∧ H' = SecC bs r.2.2 :: DevA bd s' :: Fr) ∨ (∃ x X, r.1 = some X ∧ r.2.1 = 0 ∧ rv = .tuple #[ptr x, i64 0] ∧ H' = ColA x X :: SecC bs r.2.2 :: DevA bd s' :: Fr))) (fun ch H' => ∃ s', collectM bd c S s ws = .off s' ∧ ch = offc ∧ H' = DevA bd s' :: Fr)) := by
  refine fn_enter Tryz.func14 rfl Tryz.ntmps14 rfl ?_; refine g_seq ?_; refine g_region ?_; refine p_chg rfl (ch_boxA rfl) .free rfl rfl ?_
  rintro _ _ ⟨b5, rfl, rfl⟩
  refine kPa rfl rfl ?_; refine kPa rfl rfl ?_; refine p_nil ?_; refine g_seq ?_; refine g_seq ?_; refine g_region ?_; refine kPm rfl rfl ?_; refine p_callq rfl (en_f Tryz.call53 rfl) (ro_at (q := SecC) (fun Fr => sopenC_ok B Fr bs S)) .free rfl rfl ?_; refine p_nil ?_; refine g_iff rfl (rfl) ?_; refine g_skip ?_; refine g_seq ?_; refine g_region ?_; refine kPm rfl rfl ?_; refine kPv (ev_loadA Tryz.isAgg30 Tryz.sizeOf30 rfl rfl) rfl ?_; refine go_pk [2] ?_
  refine p_call rfl (en_f Tryz.call15 rfl) (rread_ok _ _ _ _ c hc hu) .free rfl rfl ?_ ?_
  rotate_left
  · rintro _ _ ⟨⟩
  rintro _ _ ⟨sv, hsv, rfl, rfl⟩
  have hbk := block_w (s := s) hc hu
  have hrl := block_len (s := s) hc
  refine kPm rfl rfl ?_; refine kPv (ev_ext rfl rfl) rfl ?_; refine kPv (ev_ext rfl rfl) rfl ?_; refine p_chg rfl (ch_allocA Tryz.zeroValue33 rfl) .free rfl rfl ?_
  rintro _ _ ⟨b10, rfl, rfl⟩
  refine p_chg0 rfl (ch_storeA (vs := _) Tryz.sizeOf33 rfl rfl rfl (by first | rfl | exact all3 (by assumption)) rfl) .free rfl ?_
  rintro _ _ rfl
  refine kPa rfl rfl ?_; refine p_nil ?_; refine go_sub (σ' := [(11, _), (10, _), (9, _), (8, _), (5, _), (0, _), (2, _), (3, _)]) ⟨rfl, rfl, rfl, rfl, rfl, rfl, rfl, rfl, trivial⟩ ?_; refine g_seq ?_; refine g_seq ?_; refine g_region ?_; refine kPm rfl rfl ?_; refine kPv (ev_cmp rfl rfl rfl) rfl ?_; refine p_nil ?_
  refine g_if rfl (fun h23 => ?_) (fun h23 => ?_)
  · have he : (s.block c).2 ≠ 0 := by simpa using h23
    have hres : collectM bd c S s ws = .ok (none, (s.block c).2, S) s := by unfold collectM; rw [if_pos he]
    refine g_seq ?_; refine g_region ?_; refine kPm rfl rfl ?_; refine kPa rfl rfl ?_; refine kPa rfl rfl ?_; refine p_nil ?_; refine g_ret ?_
    exact ret_tmp2 Tryz.results14 rfl rfl (fun w hh => ⟨_, ⟨_, _, hres, .inl ⟨rfl, rfl, rfl⟩⟩, ((hh.dp [0, 0, 1]).pk [1])⟩)
  · have he : (s.block c).2 = 0 := by simpa using h23
    have hrl0 : 0 < (s.block c).1.rts.length := block_rl0 hc he
    refine go_pk [1] ?_; refine go_vecq fun qo co hqo hqoi => ?_
    subst hqo
    refine go_conv (H' := VecU 0 (.slice qo (s.block c).1.rts.length co, (s.block c).1.rts) :: row b10 [i64 (s.block c).1.act, i64 (s.block c).1.used, .slice qo (s.block c).1.rts.length co] 33 :: DevA bd s :: row b5 [i64 c.log, i64 c.roots, i64 c.space] 30 :: SecC bs S :: Fr) (fun w hh => hh) ?_; refine g_skip ?_; refine g_seq ?_
    refine g_drawv [0, 1, 2, 4, 5, 7, 3, 6, 8, 9, 10] [3, 6, 8, 9] [0, 1, 2, 4, 5, 7] [3, 6, 8] [row b5 [i64 c.log, i64 c.roots, i64 c.space] 30, row b10 [i64 (s.block c).1.act, i64 (s.block c).1.used, .slice qo (s.block c).1.rts.length co] 33] Tryz.mixed (by kernel_rfl) ?_; refine v_hoist rfl rfl rfl (ev_move rfl) .free rfl ?_; refine v_hoist rfl rfl rfl (ev_loadA Tryz.isAgg30 Tryz.sizeOf30 rfl rfl) .free rfl ?_
    refine v_hoist rfl rfl rfl (ev_loadA Tryz.isAgg33 Tryz.sizeOf33 rfl rfl) .free rfl ?_; refine v_hoist rfl rfl rfl (ev_fa (m := _) fa_33_2 rfl rfl) .free rfl ?_; refine v_hoist rfl rfl rfl (ev_load Tryz.isAgg31 rfl rfl) .free rfl ?_; refine v_hoist rfl rfl rfl (ev_move rfl) .free rfl ?_; refine v_mark rfl rfl ?_; refine p_chg rfl (ev_bs0 Tryz.runUnderlying31 Tryz.sizeOf52) .free rfl rfl ?_
    rintro _ _ ⟨b28, rfl, rfl⟩
    refine go_conv (H' := VecU 0 (.slice (some ⟨b28, 0, none⟩) 0 0, []) :: _) (fun w hh => vec_row (xs := []) rfl rfl hh) ?_; refine p_nil ?_; refine v_on ?_; refine v_mark rfl rfl ?_; refine p_chg rfl (ch_append_vecs0 (yv := .slice qo (s.block c).1.rts.length co) (ys := (s.block c).1.rts) rfl rfl Tryz.runUnderlying31 Tryz.runUnderlying31 ⟨_, rfl⟩ Tryz.sizeOf52 Tryz.zeroValue52 rfl (fun _ => rfl) tb_52 rfl rfl (vec_slr 0 rfl) (by simp; omega)) .free rfl rfl ?_
    rintro nv2 _ ⟨hnv2, rfl⟩
    refine p_nil ?_; refine v_on ?_; refine v_mark rfl rfl ?_; refine p_chg rfl (ch_append_vecs0 (yv := .slice q ws.length cap) (ys := ws) rfl rfl Tryz.runUnderlying31 Tryz.runUnderlying31 ⟨_, rfl⟩ Tryz.sizeOf52 Tryz.zeroValue52 rfl (fun _ => rfl) tb_52 rfl rfl hwl.up (by simp; omega)) .free rfl rfl ?_
    rintro nv3 _ ⟨hnv3, rfl⟩
    refine go_vecq fun qn cn hqn0 hqni => ?_
    subst hqn0
    have hqn : qn = none → (s.block c).1.rts ++ ws = [] := fun e => by
      cases hl : (s.block c).1.rts ++ ws with
      | nil => rfl
      | cons a t =>
        obtain ⟨b, o, h⟩ := hqni 0 (by show 0 < ((s.block c).1.rts ++ ws).length; rw [hl]; exact Nat.succ_pos _)
        rw [e] at h; cases h
    refine p_nil ?_; refine v_on ?_; refine v_mark rfl rfl ?_; refine go_pk [1] ?_
    refine p_call rfl (en_f Tryz.call16 rfl) (cnew_ok B _ bd c hc (s.block c).1 hbk (.slice qo (s.block c).1.rts.length co) rfl qn cn ((s.block c).1.rts ++ ws) (by rw [List.length_append]; omega) hqn (vec_slr 1 rfl)) .free rfl rfl ?_ ?_
    rotate_left
    · rintro _ _ ⟨⟩
    rintro _ _ ⟨x, rfl, rfl⟩
    have hX0 : ColW (newCol bd c (s.block c).1 ((s.block c).1.rts ++ ws)) := newCol_w hc hbk hrl (block_rts hu) (fun v hv => by
      rcases List.mem_append.1 hv with hv | hv
      · exact block_rts hu v hv
      · exact hws v hv)
    refine p_nil ?_; refine v_off rfl ?_; refine v_val rfl rfl rfl (ev_assign rfl) .free rfl ?_; refine v_nil ?_; refine go_sub (σ' := [(12, _), (9, _), (8, _), (5, _), (0, _), (2, _)]) ⟨rfl, rfl, rfl, rfl, rfl, rfl, trivial⟩ ?_; refine g_seq ?_; refine g_region ?_; refine kPm rfl rfl ?_; refine go_pk [0, 2] ?_
    refine p_call rfl (en_f Tryz.call17 rfl) (crun_ok B _ x (newCol bd c (s.block c).1 ((s.block c).1.rts ++ ws)) hX0 s hu) .free rfl rfl ?_ ?_
    rotate_left
    · rintro _ _ ⟨s9, hm9, rfl, rfl⟩
      exact pan_fn fun w hh => ⟨_, ⟨s9, by unfold collectM; rw [if_neg (by omega)]; rw [hm9]; rfl, rfl, rfl⟩, hh.dp [1, 1, 1, 1]⟩
    rintro _ _ ⟨X, s1, hm1, rfl, rfl⟩
    obtain ⟨hX, hu1, hXb, hXbd, hXc, hXto⟩ := runN_w _ _ _ _ _ hX0 hu hm1
    have hn1 := run_n hm1
    refine p_nil ?_; refine g_seq ?_; refine g_seq ?_; refine g_region ?_; refine kPm rfl rfl ?_; refine kPv (ev_loadA Tryz.isAgg30 Tryz.sizeOf30 rfl rfl) rfl ?_; refine kPm rfl rfl ?_; refine kPm rfl rfl ?_; refine go_pk [5, 0, 0] ?_
    refine p_call rfl (en_f Tryz.call19 rfl) (flip_ok B _ bs x bd S X hX (by rw [hXb]; exact hrl0) c s1 hu1 ⟨hK.w, by rw [hn1]; exact hK.n, hK.d, hK.c⟩) .free rfl rfl ?_ ?_
    rotate_left
    · rintro _ _ ⟨s9, hm9, rfl, rfl⟩
      exact pan_fn fun w hh => ⟨_, ⟨s9, by unfold collectM; rw [if_neg (by omega)]; rw [hm1]; simp only [then_ok]; rw [hm9]; rfl, rfl, rfl⟩, hh.dp [1, 1, 1]⟩
    rintro _ _ ⟨a2, S2, s2, hm2, rfl, rfl⟩
    refine kPa rfl rfl ?_; refine p_nil ?_; refine go_sub (σ' := [(13, _), (12, _), (9, _), (8, _)]) ⟨rfl, rfl, rfl, rfl, trivial⟩ ?_; refine g_seq ?_; refine g_region ?_; refine kPm rfl rfl ?_; refine kPv (ev_cmp rfl rfl rfl) rfl ?_; refine p_nil ?_
    refine g_if rfl (fun h43 => ?_) (fun h43 => ?_)
    · have ha2 : a2 ≠ 0 := by simpa using h43
      refine g_seq ?_; refine g_region ?_; refine kPm rfl rfl ?_; refine kPa rfl rfl ?_; refine kPa rfl rfl ?_; refine p_nil ?_; refine g_ret ?_
      exact ret_tmp2 Tryz.results14 rfl rfl (fun w hh => ⟨_, ⟨(none, a2, S2), s2, by unfold collectM; rw [if_neg (by omega), hm1]; simp only [then_ok]; rw [hm2]; simp only [then_ok]; rw [if_pos ha2], .inl ⟨rfl, rfl, rfl⟩⟩, (hh.dp [1, 2, 2, 2])⟩)
    · have ha2 : ¬ a2 ≠ 0 := by simpa using h43
      refine g_skip ?_; refine g_seq ?_; refine g_region ?_; refine kPm rfl rfl ?_; refine kPa rfl rfl ?_; refine kPa rfl rfl ?_; refine p_nil ?_; refine g_ret ?_
      exact ret_tmp2 Tryz.results14 rfl rfl (fun w hh => ⟨_, ⟨(some X, 0, S2), s2, by unfold collectM; rw [if_neg (by omega), hm1]; simp only [then_ok]; rw [hm2]; simp only [then_ok]; rw [if_neg ha2], .inr ⟨x, X, rfl, rfl, rfl, rfl⟩⟩, ((hh.dp [3, 3, 3]).pk [1])⟩)
end Go.Proofs.YtbfheafpecgphaaGreat
