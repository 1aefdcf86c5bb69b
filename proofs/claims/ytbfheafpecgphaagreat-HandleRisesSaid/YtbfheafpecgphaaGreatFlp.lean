/- A collection, kept: what Flip and Collect do. Conditions: none. -/
import Derived.Test.YtbfheafpecgphaaGreatChr
import Derived.Test.YtbfheafpecgphaaGreatRwr
set_option linter.unusedSimpArgs false
set_option linter.unusedVariables false
set_option linter.unnecessarySimpa false
set_option linter.unusedSectionVars false
namespace Go.Proofs.YtbfheafpecgphaaGreat
set_option linter.unusedSimpArgs false
set_option linter.unusedVariables false
open Go
abbrev secOp (i v : Int) (s : Dev) (S : SecS) : Out (Int × SecS) := S.store s i v
def SecS.fresh (S : SecS) (f t : Int) : SecS := { S with ff := f, ft := t, seen := [], dirty := [] }
/-- A collection that is done is kept. -/
def flipM (c : Cfg) (b : Blk) (S : SecS) (s : Dev) : Out (Int × SecS) :=
  (writeM secOp c b s (S.fresh 0 0)).then fun x s1 => if x.1 ≠ 0 then (x.2.abort s1).then fun S2 s2 => .ok (x.1, S2) s2
    else (x.2.commit s1).then fun S2 s2 => .ok (0, S2) s2
def collectM (bd : Nat) (c : Cfg) (S : SecS) (s : Dev) (ws : List Int) : Out (Option ColS × Int × SecS) :=
  if (s.block c).2 ≠ 0 then .ok (none, (s.block c).2, S) s
  else ((newCol bd c (s.block c).1 ((s.block c).1.rts ++ ws)).run s).then fun X s1 => (flipM c X.block S s1).then fun x s2 =>
    if x.1 ≠ 0 then .ok (none, x.1, x.2) s2 else .ok (some X, 0, x.2) s2
theorem block_rl0 {s : Dev} {c : Cfg} (hc : CfgW c) (h : (s.block c).2 = 0) : 0 < (s.block c).1.rts.length := by
  have := hc.r1
  unfold Dev.block at h ⊢
  split at h
  · cases h
  · rename_i h1; rw [if_neg h1]; simp only [tab_len]; omega
theorem mset_len {α : Type} (l : List (Int × α)) (k : Int) (a : α) : (mset l k a).length ≤ l.length + 1 := by
  induction l with
  | nil => simp [mset]
  | cons p t ih => unfold mset; split <;> simp <;> omega
theorem sstore_dirty {S S' : SecS} {s s' : Dev} {i v a : Int} (e : S.store s i v = .ok (a, S') s') : S'.dirty.length ≤ S.dirty.length + 1 := by
  have h1 := mset_len S.dirty (i / 8) ()
  unfold SecS.store at e
  split at e
  · cases e; omega
  · split at e
    · obtain ⟨x, t, e1, e⟩ := then_inv e
      split at e
      · cases e; simp only; omega
      · obtain ⟨y, u, e2, e⟩ := then_inv e
        cases e; exact h1
    · obtain ⟨y, u, e2, e⟩ := then_inv e
      cases e; exact h1
theorem writeN_dirty : ∀ (l : List Int) (i : Int) (S S' : SecS) (s s' : Dev) (a : Int), writeN secOp l i s S = .ok (a, S') s' → S'.dirty.length ≤ S.dirty.length + l.length
  | [], i, S, S', s, s', a, e => by cases e; simp
  | v :: vs, i, S, S', s, s', a, e => by
    unfold writeN at e
    split at e
    · have := writeN_dirty vs _ _ _ _ _ _ e; simp only [List.length_cons]; omega
    · obtain ⟨⟨x, S1⟩, s1, e1, e⟩ := then_inv e
      have h1 := sstore_dirty e1
      split at e
      · cases e; simp only [List.length_cons]; omega
      · have := writeN_dirty vs _ _ _ _ _ _ e; simp only [List.length_cons] at this ⊢; omega
/-- What is asked of a section. -/
structure SecK (S : SecS) (bd : Nat) (c : Cfg) (s : Dev) : Prop where
  w : LogW S.L
  n : s.n ≤ 1000000
  d : S.L.d = bd
  c : S.L.c = c

theorem flip_ok (B : World) (Fr : List HP) (bs x bd : Nat) (S : SecS) (X : ColS) (hX : ColW X) (hrl0 : 0 < X.b.rts.length) (c : Cfg) (s : Dev) (hu : U64 s) (hK : SecK S bd c s) :
    ∀ w, Holds B (SecC bs S :: ColA x X :: DevA bd s :: Fr) w → Calls Tryz.prog 19 [ptr bd, cfgV c, ptr bs, ptr x].toArray w (Ret B (fun rv H' => ∃ a S' s', flipM c X.block S s = .ok (a, S') s' ∧ rv = i64 a ∧ H' = SecC bs S' :: ColA x X :: DevA bd s' :: Fr) (fun ch H' => ∃ s', flipM c X.block S s = .off s' ∧ ch = offc ∧ H' = DevA bd s' :: Fr)) := by
  refine fn_enter Tryz.func19 rfl Tryz.ntmps19 rfl ?_
  have hrl := hX.rl
  have hbb := hX.b.act
  have hbf := hX.free
  have hbw : ∀ v ∈ X.block.rts, 0 ≤ v ∧ v < 18446744073709551616 := fun v hv => by
    obtain ⟨u, _, rfl⟩ := List.mem_map.1 hv
    have := hX.vb u
    omega
  have hfb := hX.fb
  have hto := hX.to_
  refine g_seq ?_; refine g_region ?_; refine p_chg rfl (ch_boxA rfl) .free rfl rfl ?_
  rintro _ _ ⟨b5, rfl, rfl⟩
  refine kPa rfl rfl ?_; refine p_nil ?_; refine g_seq ?_; refine g_seq ?_; refine g_region ?_; refine kPm rfl rfl ?_; refine kPv (ev_build rfl (bld_41)) rfl ?_; refine go_pk [1] ?_
  refine p_call rfl (en_f Tryz.call18 rfl) (sbeginC_ok B _ bs S 0 0) .free rfl rfl ?_ ?_
  rotate_left
  · rintro _ _ ⟨⟩
  rintro _ _ ⟨rfl, rfl⟩
  refine kPa rfl rfl ?_; refine p_nil ?_; refine g_seq ?_; refine g_region ?_; refine kPm rfl rfl ?_; refine kPv (ev_cmp rfl rfl rfl) rfl ?_; refine p_nil ?_; refine g_iff rfl (rfl) ?_; refine g_skip ?_; refine g_seq ?_; refine g_seq ?_; refine g_drawv [0, 1, 2, 4, 5, 3, 6, 7] [3, 6] [0, 1, 4, 5] [3] [row b5 [i64 c.log, i64 c.roots, i64 c.space] 30] Tryz.mixed (by kernel_rfl) ?_; refine v_hoist rfl rfl rfl (ev_move rfl) .free rfl ?_
  refine v_hoist rfl rfl rfl (ev_loadA Tryz.isAgg30 Tryz.sizeOf30 rfl rfl) .free rfl ?_; refine v_val rfl rfl rfl (ev_move rfl) .free rfl ?_; refine v_hoist rfl rfl rfl (ev_move rfl) .free rfl ?_; refine v_hoist rfl rfl rfl (ev_mkf rfl rfl) .free rfl ?_; refine v_mark rfl rfl ?_; refine go_pk [2] ?_
  refine p_call rfl (en_f Tryz.call76 rfl) (cblock_ok B _ x X hX) .free rfl rfl ?_ ?_
  rotate_left
  · rintro _ _ ⟨⟩
  rintro _ _ ⟨bsv, hbsv, rfl, rfl⟩
  refine go_vecq fun qb cb hqb hqi => ?_
  subst hqb
  refine p_nil ?_; refine v_on ?_; refine v_mark rfl rfl ?_; refine go_pk [4, 2] ?_
  refine p_call rfl (en_f Tryz.call75 rfl) (rwrite_ok B _ _ _ bd bs SecS (fun b S => SecO b S) _ _ (storeS B bd bs c) c (hK.c ▸ hK.w.c) X.block (by simp only [ColS.block]; omega) hbw (by simp only [ColS.block, List.length_map]; omega) (by simp only [ColS.block, List.length_map]; omega) (.slice qb X.block.rts.length cb) rfl (vec_slr 0 rfl) s (S.fresh 0 0) ⟨hu, hK.n, ⟨hK.w, fun _ h => (by cases h)⟩, hK.d, hK.c⟩) .free rfl rfl ?_ ?_
  rotate_left
  · rintro _ _ ⟨s9, hm9, rfl, rfl⟩
    exact pan_fn fun w hh => ⟨_, ⟨s9, by unfold flipM writeM; rw [show writeN secOp (X.block.act :: X.block.used :: X.block.rts) c.active s (S.fresh 0 0) = .off s9 from hm9]; rfl, rfl, rfl⟩, hh.dp [1, 1, 1]⟩
  rintro _ _ ⟨a2, S2, s2, hm2, rfl, hok2, rfl⟩
  obtain ⟨hu2, hn2, hw2, hd2, hc2⟩ := hok2
  obtain rfl := hd2
  refine p_nil ?_; refine v_off rfl ?_; refine v_val rfl rfl rfl (ev_assign rfl) .free rfl ?_; refine v_nil ?_; refine go_sub (σ' := [(10, _), (8, _), (2, _)]) ⟨rfl, rfl, rfl, trivial⟩ ?_; refine g_seq ?_; refine g_region ?_; refine kPm rfl rfl ?_; refine kPv (ev_cmp rfl rfl rfl) rfl ?_; refine p_nil ?_
  refine g_if rfl (fun h25 => ?_) (fun h25 => ?_)
  · have he : a2 ≠ 0 := by simpa using h25
    refine g_seq ?_; refine g_region ?_; refine kPm rfl rfl ?_; refine go_pk [1, 0] ?_
    refine p_call rfl (en_f Tryz.call20 rfl) (sabortO_ok B _ bs S2 s2 hw2) .free rfl rfl ?_ ?_
    rotate_left
    · rintro _ _ ⟨s9, hm9, rfl, rfl⟩
      exact pan_fn fun w hh => ⟨_, ⟨s9, by unfold flipM; rw [hm2]; simp only [then_ok]; rw [if_pos he, hm9]; rfl, rfl, rfl⟩, hh.dp [1, 1, 1]⟩
    rintro _ _ ⟨S3, s3, hm3, rfl, rfl⟩
    refine p_nil ?_; refine g_seq ?_; refine g_region ?_; refine kPm rfl rfl ?_; refine kPa rfl rfl ?_; refine p_nil ?_; refine g_ret ?_
    exact ret_tmp Tryz.results19 rfl (fun w hh => ⟨_, ⟨a2, S3, s3, by unfold flipM; rw [hm2]; simp only [then_ok]; rw [if_pos he, hm3]; rfl, rfl, rfl⟩, ((hh.dp [2, 3]).pk [0, 1])⟩)
  · have he : ¬ a2 ≠ 0 := by simpa using h25
    refine g_skip ?_; refine g_seq ?_; refine g_region ?_; refine kPm rfl rfl ?_; refine go_pk [1, 0] ?_
    refine p_call rfl (en_f Tryz.call78 rfl) (scommitO_ok B _ bs S2 s2 hw2 (by have := writeN_dirty _ _ _ _ _ _ _ hm2; simp only [SecS.fresh, ColS.block, List.length_cons, List.length_map, List.length_nil] at this; omega)) .free rfl rfl ?_ ?_
    rotate_left
    · rintro _ _ ⟨s9, hm9, rfl, rfl⟩
      exact pan_fn fun w hh => ⟨_, ⟨s9, by unfold flipM; rw [hm2]; simp only [then_ok]; rw [if_neg he, hm9]; rfl, rfl, rfl⟩, hh.dp [1, 1, 1]⟩
    rintro _ _ ⟨S3, s3, hm3, rfl, rfl⟩
    refine kPa rfl rfl ?_; refine p_nil ?_; refine g_ret ?_
    exact ret_tmp Tryz.results19 rfl (fun w hh => ⟨_, ⟨0, S3, s3, by unfold flipM; rw [hm2]; simp only [then_ok]; rw [if_neg he, hm3]; rfl, rfl, rfl⟩, ((hh.dp [2, 3]).pk [0, 1])⟩)

theorem flipO_ok (B : World) (Fr : List HP) (bs bd x : Nat) (S : SecS) (c : Cfg) :
    ∀ w, Holds B (SecO bs S :: Fr) w → Calls Tryz.prog 19 [ptr bd, cfgV c, ptr bs, ptr x].toArray w (PureR B (SecO bs S :: Fr) (i64 2)) := by
  refine fn_enter Tryz.func19 rfl Tryz.ntmps19 rfl ?_; refine g_seq ?_; refine g_region ?_; refine p_chg rfl (ch_boxA rfl) .free rfl rfl ?_
  rintro _ _ ⟨b5, rfl, rfl⟩
  refine kPa rfl rfl ?_; refine p_nil ?_; refine g_seq ?_; refine g_seq ?_; refine g_region ?_; refine kPm rfl rfl ?_; refine kPv (ev_build rfl (bld_41)) rfl ?_; refine p_callq rfl (en_f Tryz.call18 rfl) (ro_at (q := SecO) (fun Fr => sbeginO_ok B Fr bs S 0 0)) .free rfl rfl ?_; refine kPa rfl rfl ?_; refine p_nil ?_; refine g_seq ?_; refine g_region ?_; refine kPm rfl rfl ?_; refine kPv (ev_cmp rfl rfl rfl) rfl ?_; refine p_nil ?_; refine g_ift rfl (rfl) ?_; refine g_seq ?_; refine g_region ?_
  refine kPm rfl rfl ?_; refine kPa rfl rfl ?_; refine p_nil ?_; refine go_sub (σ' := [(8, _), (5, _), (0, _), (2, _), (3, _)]) ⟨rfl, rfl, rfl, rfl, rfl, trivial⟩ ?_; refine g_ret ?_
  exact ret_tmp Tryz.results19 rfl (fun w hh => ⟨rfl, (hh.dp [0])⟩)


/-- Numbers put behind it, or none. -/
theorem ch_append_vecs0 {B : World} {σ : Env} {Fr : List HP} {P : Program} {T : TypeId} {enc : Int → Value} {sv : Value} {xs : List Int} {d : Option Tmp} {ty : TypeId} {p : String} {af : Array Edge} {g : Option (Nat × Bool)} {t : TypeId} {x y : Operand} {at_ : Array TypeId} {u : TypeId} {ud : TypeDesc} {ys : List Int} {z yv : Value}
    (ha : at_[0]? = some t) (ha' : at_[1]? = some u) (ht : ∀ w, (underlying t).run P w = .ok (.slice T) w) (hu : ∀ w, (underlying u).run P w = .ok ud w) (hud : ∃ q, ud = .slice q) (hs : ∀ w, (sizeOf T).run P w = .ok 1 w) (hz : ∀ w, (zeroValue T).run P w = .ok z w) (hz1 : cell1 z = true) (he1 : ∀ v, cell1 (enc v) = true) (hfb : fewBytes P T)
    (hx : evO σ x = some sv) (hy : evO σ y = some yv) (hr : SlR B Fr yv (ys.map enc)) (hn : xs.length + ys.length ≤ 1000000000) :
    Chg P B σ (VecA T enc 0 (sv, xs) :: Fr) ⟨d, .call ⟨.builtin .append, #[x, y], at_⟩, ty, p, af, g⟩ (fun v' H' => cell1 v' = true ∧ H' = VecA T enc 0 (v', xs ++ ys) :: Fr) := by
  by_cases h0 : 0 < ys.length
  · exact ch_append_vecs ha ha' ht hu hud hs hz hz1 he1 hfb hx hy hr h0 hn
  obtain rfl : ys = [] := List.length_eq_zero_iff.1 (by omega)
  intro a w kn hh
  obtain ⟨q, rfl⟩ := hud
  obtain ⟨sq, scap, e0, _⟩ := hr.ex
  subst e0
  have hf : (Builtin.firstCells 1 0 (.slice sq 0 scap)).run P w = .ok #[] w := by
    have := hr.first (P := P) (w := w) hh.tail 0 (Nat.zero_le _)
    simpa using this
  have hsl : ∃ q n c, sv = .slice q n c ∧ n ≤ c := by
    rcases holds_vec hh with ⟨_, h2, _⟩ | ⟨bd, pre, rest, k, _, h1, _⟩
    · exact ⟨_, _, _, h2, Nat.le_refl _⟩
    · exact ⟨_, _, _, h1, Nat.le_add_right _ _⟩
  obtain ⟨q2, n2, c2, rfl, hc2⟩ := hsl
  refine ⟨.value (.slice q2 n2 c2), w, ?_, _, .inl rfl, _, ⟨rfl, rfl⟩, by simpa using hh⟩
  simp only [execOp, resolve, Sem.run_bind, Sem.run_pure, Result.andThen_ok]
  simp only [List.map_nil, List.length_nil] at hy
  cases q2 <;> simp [invoke, builtin, Builtin.append_, ha, ha', hu, kn.eval hx, kn.eval hy, ht, hs, Builtin.lenOf, hc2, hf, storeCells]


theorem store_n {s s' : Dev} {i v a : Int} (e : s.store i v = .ok a s') : s'.n = s.n := by
  unfold Dev.store at e
  split at e
  · cases e; rfl
  split at e
  · cases e
  · cases e; rfl
theorem flush_n {s s' : Dev} {i a : Int} (e : s.flush i = .ok a s') : s'.n = s.n := by
  unfold Dev.flush at e
  split at e
  · cases e; rfl
  split at e
  · cases e
  · cases e; rfl
theorem fence_n {s s' : Dev} {a : Unit} (e : s.fence = .ok a s') : s'.n = s.n := by
  unfold Dev.fence at e
  split at e
  · cases e
  · cases e; rfl
theorem cpyN_n : ∀ (k : Nat) (i a f : Int) (s s' : Dev), cpyN k i a f s = .ok () s' → s'.n = s.n
  | 0, _, _, _, s, s', e => by cases e; rfl
  | k + 1, i, a, f, s, s', e => by
    rw [cpyN_succ] at e
    obtain ⟨_, s1, e1, e⟩ := then_inv e
    exact (cpyN_n k _ _ _ _ _ e).trans (store_n e1)
theorem copied_n {S : ColS} {s s' : Dev} {w : Int} {r : Int × ColS} (e : S.copied s w = .ok r s') : s'.n = s.n := by
  unfold ColS.copied at e
  split at e
  · cases e; rfl
  split at e
  · cases e; rfl
  split at e
  · cases e; rfl
  obtain ⟨_, s1, e1, e⟩ := then_inv e
  cases e
  exact cpyN_n _ _ _ _ _ _ e1
theorem refsN_n : ∀ (k : Nat) (i : Int) (S S' : ColS) (s s' : Dev), refsN k i S s = .ok S' s' → s'.n = s.n
  | 0, _, S, S', s, s', e => by cases e; rfl
  | k + 1, i, S, S', s, s', e => by
    rw [refsN_succ] at e
    split at e
    · exact refsN_n k _ _ _ _ _ e
    · obtain ⟨r, s1, e1, e⟩ := then_inv e
      obtain ⟨_, s2, e2, e⟩ := then_inv e
      exact ((refsN_n k _ _ _ _ _ e).trans (store_n e2)).trans (copied_n e1)
theorem keepN_n : ∀ (f : Nat) (i e : Int) (s s' : Dev) (a : Unit), keepN f i e s = .ok a s' → s'.n = s.n
  | 0, _, _, s, s', a, e => by cases e; rfl
  | f + 1, i, e', s, s', a, e => by
    rw [keepN_succ] at e
    split at e
    · obtain ⟨_, s1, e1, e⟩ := then_inv e
      exact (keepN_n f _ _ _ _ _ e).trans (flush_n e1)
    · cases e; rfl
theorem step_n {S : ColS} {s s' : Dev} {r : Bool × ColS} (e : S.step s = .ok r s') : s'.n = s.n := by
  unfold ColS.step at e
  split at e
  · cases e; rfl
  split at e
  · obtain ⟨_, s1, e1, e⟩ := then_inv e
    cases e; exact copied_n e1
  · split at e
    · obtain ⟨_, s1, e1, e⟩ := then_inv e
      cases e; exact refsN_n _ _ _ _ _ _ e1
    · obtain ⟨_, s1, e1, e⟩ := then_inv e
      cases e
      unfold ColS.keep at e1
      obtain ⟨_, s2, e2, e1⟩ := then_inv e1
      have h2 := keepN_n _ _ _ _ _ _ e2
      split at e1
      · exact (fence_n e1).trans h2
      · cases e1; exact h2
theorem run_n {S S' : ColS} {s s' : Dev} (e : S.run s = .ok S' s') : s'.n = s.n := by
  unfold ColS.run at e
  revert e
  generalize S.meas + 1 = f
  intro e
  induction f generalizing S s with
  | zero => cases e; rfl
  | succ f ih =>
    rw [runN_succ] at e
    obtain ⟨r, s1, e1, e⟩ := then_inv e
    split at e
    · cases e; exact step_n e1
    · exact (ih e).trans (step_n e1)

theorem fcollect_ok (B : World) (Fr : List HP) (bs bd : Nat) (S : SecS) (c : Cfg) (hc : CfgW c) (s : Dev) (hu : U64 s) (hK : SecK S bd c s) (q : Option Addr) (cap : Nat) (ws : List Int) (hwn : ws.length ≤ 900000) (hws : ∀ v ∈ ws, 0 ≤ v ∧ v < 18446744073709551616) (hwl : SlR B Fr (.slice q ws.length cap) (ws.map w64)) :
    ∀ w, Holds B (SecC bs S :: DevA bd s :: Fr) w → Calls Tryz.prog 14 [ptr bd, cfgV c, ptr bs, .slice q ws.length cap].toArray w (Ret B (fun rv H' => ∃ r s', collectM bd c S s ws = .ok r s' ∧ ((r.1 = none ∧ rv = .tuple #[.pointer none, i64 r.2.1] ∧ H' = SecC bs r.2.2 :: DevA bd s' :: Fr) ∨ (∃ x X, r.1 = some X ∧ r.2.1 = 0 ∧ rv = .tuple #[ptr x, i64 0] ∧ H' = ColA x X :: SecC bs r.2.2 :: DevA bd s' :: Fr))) (fun ch H' => ∃ s', collectM bd c S s ws = .off s' ∧ ch = offc ∧ H' = DevA bd s' :: Fr)) := by
  refine fn_enter Tryz.func14 rfl Tryz.ntmps14 rfl ?_; refine g_seq ?_; refine g_region ?_; refine p_chg rfl (ch_boxA rfl) .free rfl rfl ?_
  rintro _ _ ⟨b5, rfl, rfl⟩
  refine kPa rfl rfl ?_; refine kPa rfl rfl ?_; refine p_nil ?_; refine g_seq ?_; refine g_seq ?_; refine g_region ?_; refine kPm rfl rfl ?_; refine p_callq rfl (en_f Tryz.call53 rfl) (ro_at (q := SecC) (fun Fr => sopenC_ok B Fr bs S)) .free rfl rfl ?_; refine p_nil ?_; refine g_iff rfl (rfl) ?_; refine g_skip ?_; refine g_seq ?_; refine g_region ?_; refine kPm rfl rfl ?_; refine kPv (ev_loadA Tryz.isAgg30 Tryz.sizeOf30 rfl rfl) rfl ?_; refine go_pk [2] ?_
  refine p_call rfl (en_f Tryz.call15 rfl) (rread_ok _ _ _ _ c hc hu) .free rfl rfl ?_ ?_
  rotate_left
  · rintro _ _ ⟨⟩
  rintro _ _ ⟨sv, hsv, rfl, rfl⟩
  have hbk := block_w (s := s) hc hu
  have hrl := block_len (s := s) hc
  refine kPm rfl rfl ?_; refine kPv (ev_ext rfl rfl) rfl ?_; refine kPv (ev_ext rfl rfl) rfl ?_; refine p_chg rfl (ch_allocA Tryz.zeroValue33 rfl) .free rfl rfl ?_
  rintro _ _ ⟨b10, rfl, rfl⟩
  refine p_chg0 rfl (ch_storeA (vs := _) Tryz.sizeOf33 rfl rfl rfl (by first | rfl | exact all3 (by assumption)) rfl) .free rfl ?_
  rintro _ _ rfl
  refine kPa rfl rfl ?_; refine p_nil ?_; refine go_sub (σ' := [(11, _), (10, _), (9, _), (8, _), (5, _), (0, _), (2, _), (3, _)]) ⟨rfl, rfl, rfl, rfl, rfl, rfl, rfl, rfl, trivial⟩ ?_; refine g_seq ?_; refine g_seq ?_; refine g_region ?_; refine kPm rfl rfl ?_; refine kPv (ev_cmp rfl rfl rfl) rfl ?_; refine p_nil ?_
  refine g_if rfl (fun h23 => ?_) (fun h23 => ?_)
  · have he : (s.block c).2 ≠ 0 := by simpa using h23
    have hres : collectM bd c S s ws = .ok (none, (s.block c).2, S) s := by unfold collectM; rw [if_pos he]
    refine g_seq ?_; refine g_region ?_; refine kPm rfl rfl ?_; refine kPa rfl rfl ?_; refine kPa rfl rfl ?_; refine p_nil ?_; refine g_ret ?_
    exact ret_tmp2 Tryz.results14 rfl rfl (fun w hh => ⟨_, ⟨_, _, hres, .inl ⟨rfl, rfl, rfl⟩⟩, ((hh.dp [0, 0, 1]).pk [1])⟩)
  · have he : (s.block c).2 = 0 := by simpa using h23
    have hrl0 : 0 < (s.block c).1.rts.length := block_rl0 hc he
    refine go_pk [1] ?_; refine go_vecq fun qo co hqo hqoi => ?_
    subst hqo
    refine go_conv (H' := VecU 0 (.slice qo (s.block c).1.rts.length co, (s.block c).1.rts) :: row b10 [i64 (s.block c).1.act, i64 (s.block c).1.used, .slice qo (s.block c).1.rts.length co] 33 :: DevA bd s :: row b5 [i64 c.log, i64 c.roots, i64 c.space] 30 :: SecC bs S :: Fr) (fun w hh => hh) ?_; refine g_skip ?_; refine g_seq ?_
    refine g_drawv [0, 1, 2, 4, 5, 7, 3, 6, 8, 9, 10] [3, 6, 8, 9] [0, 1, 2, 4, 5, 7] [3, 6, 8] [row b5 [i64 c.log, i64 c.roots, i64 c.space] 30, row b10 [i64 (s.block c).1.act, i64 (s.block c).1.used, .slice qo (s.block c).1.rts.length co] 33] Tryz.mixed (by kernel_rfl) ?_; refine v_hoist rfl rfl rfl (ev_move rfl) .free rfl ?_; refine v_hoist rfl rfl rfl (ev_loadA Tryz.isAgg30 Tryz.sizeOf30 rfl rfl) .free rfl ?_
    refine v_hoist rfl rfl rfl (ev_loadA Tryz.isAgg33 Tryz.sizeOf33 rfl rfl) .free rfl ?_; refine v_hoist rfl rfl rfl (ev_fa (m := _) fa_33_2 rfl rfl) .free rfl ?_; refine v_hoist rfl rfl rfl (ev_load Tryz.isAgg31 rfl rfl) .free rfl ?_; refine v_hoist rfl rfl rfl (ev_move rfl) .free rfl ?_; refine v_mark rfl rfl ?_; refine p_chg rfl (ev_bs0 Tryz.runUnderlying31 Tryz.sizeOf52) .free rfl rfl ?_
    rintro _ _ ⟨b28, rfl, rfl⟩
    refine go_conv (H' := VecU 0 (.slice (some ⟨b28, 0, none⟩) 0 0, []) :: _) (fun w hh => vec_row (xs := []) rfl rfl hh) ?_; refine p_nil ?_; refine v_on ?_; refine v_mark rfl rfl ?_; refine p_chg rfl (ch_append_vecs0 (yv := .slice qo (s.block c).1.rts.length co) (ys := (s.block c).1.rts) rfl rfl Tryz.runUnderlying31 Tryz.runUnderlying31 ⟨_, rfl⟩ Tryz.sizeOf52 Tryz.zeroValue52 rfl (fun _ => rfl) tb_52 rfl rfl (vec_slr 0 rfl) (by simp; omega)) .free rfl rfl ?_
    rintro nv2 _ ⟨hnv2, rfl⟩
    refine p_nil ?_; refine v_on ?_; refine v_mark rfl rfl ?_; refine p_chg rfl (ch_append_vecs0 (yv := .slice q ws.length cap) (ys := ws) rfl rfl Tryz.runUnderlying31 Tryz.runUnderlying31 ⟨_, rfl⟩ Tryz.sizeOf52 Tryz.zeroValue52 rfl (fun _ => rfl) tb_52 rfl rfl hwl.up (by simp; omega)) .free rfl rfl ?_
    rintro nv3 _ ⟨hnv3, rfl⟩
    refine go_vecq fun qn cn hqn0 hqni => ?_
    subst hqn0
    have hqn : qn = none → (s.block c).1.rts ++ ws = [] := fun e => by
      cases hl : (s.block c).1.rts ++ ws with
      | nil => rfl
      | cons a t =>
        obtain ⟨b, o, h⟩ := hqni 0 (by show 0 < ((s.block c).1.rts ++ ws).length; rw [hl]; exact Nat.succ_pos _)
        rw [e] at h; cases h
    refine p_nil ?_; refine v_on ?_; refine v_mark rfl rfl ?_; refine go_pk [1] ?_
    refine p_call rfl (en_f Tryz.call16 rfl) (cnew_ok B _ bd c hc (s.block c).1 hbk (.slice qo (s.block c).1.rts.length co) rfl qn cn ((s.block c).1.rts ++ ws) (by rw [List.length_append]; omega) hqn (vec_slr 1 rfl)) .free rfl rfl ?_ ?_
    rotate_left
    · rintro _ _ ⟨⟩
    rintro _ _ ⟨x, rfl, rfl⟩
    have hX0 : ColW (newCol bd c (s.block c).1 ((s.block c).1.rts ++ ws)) := newCol_w hc hbk hrl (block_rts hu) (fun v hv => by
      rcases List.mem_append.1 hv with hv | hv
      · exact block_rts hu v hv
      · exact hws v hv)
    refine p_nil ?_; refine v_off rfl ?_; refine v_val rfl rfl rfl (ev_assign rfl) .free rfl ?_; refine v_nil ?_; refine go_sub (σ' := [(12, _), (9, _), (8, _), (5, _), (0, _), (2, _)]) ⟨rfl, rfl, rfl, rfl, rfl, rfl, trivial⟩ ?_; refine g_seq ?_; refine g_region ?_; refine kPm rfl rfl ?_; refine go_pk [0, 2] ?_
    refine p_call rfl (en_f Tryz.call17 rfl) (crun_ok B _ x (newCol bd c (s.block c).1 ((s.block c).1.rts ++ ws)) hX0 s hu) .free rfl rfl ?_ ?_
    rotate_left
    · rintro _ _ ⟨s9, hm9, rfl, rfl⟩
      exact pan_fn fun w hh => ⟨_, ⟨s9, by unfold collectM; rw [if_neg (by omega)]; rw [hm9]; rfl, rfl, rfl⟩, hh.dp [1, 1, 1, 1]⟩
    rintro _ _ ⟨X, s1, hm1, rfl, rfl⟩
    obtain ⟨hX, hu1, hXb, hXbd, hXc, hXto⟩ := runN_w _ _ _ _ _ hX0 hu hm1
    have hn1 := run_n hm1
    refine p_nil ?_; refine g_seq ?_; refine g_seq ?_; refine g_region ?_; refine kPm rfl rfl ?_; refine kPv (ev_loadA Tryz.isAgg30 Tryz.sizeOf30 rfl rfl) rfl ?_; refine kPm rfl rfl ?_; refine kPm rfl rfl ?_; refine go_pk [5, 0, 0] ?_
    refine p_call rfl (en_f Tryz.call19 rfl) (flip_ok B _ bs x bd S X hX (by rw [hXb]; exact hrl0) c s1 hu1 ⟨hK.w, by rw [hn1]; exact hK.n, hK.d, hK.c⟩) .free rfl rfl ?_ ?_
    rotate_left
    · rintro _ _ ⟨s9, hm9, rfl, rfl⟩
      exact pan_fn fun w hh => ⟨_, ⟨s9, by unfold collectM; rw [if_neg (by omega)]; rw [hm1]; simp only [then_ok]; rw [hm9]; rfl, rfl, rfl⟩, hh.dp [1, 1, 1]⟩
    rintro _ _ ⟨a2, S2, s2, hm2, rfl, rfl⟩
    refine kPa rfl rfl ?_; refine p_nil ?_; refine go_sub (σ' := [(13, _), (12, _), (9, _), (8, _)]) ⟨rfl, rfl, rfl, rfl, trivial⟩ ?_; refine g_seq ?_; refine g_region ?_; refine kPm rfl rfl ?_; refine kPv (ev_cmp rfl rfl rfl) rfl ?_; refine p_nil ?_
    refine g_if rfl (fun h43 => ?_) (fun h43 => ?_)
    · have ha2 : a2 ≠ 0 := by simpa using h43
      refine g_seq ?_; refine g_region ?_; refine kPm rfl rfl ?_; refine kPa rfl rfl ?_; refine kPa rfl rfl ?_; refine p_nil ?_; refine g_ret ?_
      exact ret_tmp2 Tryz.results14 rfl rfl (fun w hh => ⟨_, ⟨(none, a2, S2), s2, by unfold collectM; rw [if_neg (by omega), hm1]; simp only [then_ok]; rw [hm2]; simp only [then_ok]; rw [if_pos ha2], .inl ⟨rfl, rfl, rfl⟩⟩, (hh.dp [1, 2, 2, 2])⟩)
    · have ha2 : ¬ a2 ≠ 0 := by simpa using h43
      refine g_skip ?_; refine g_seq ?_; refine g_region ?_; refine kPm rfl rfl ?_; refine kPa rfl rfl ?_; refine kPa rfl rfl ?_; refine p_nil ?_; refine g_ret ?_
      exact ret_tmp2 Tryz.results14 rfl rfl (fun w hh => ⟨_, ⟨(some X, 0, S2), s2, by unfold collectM; rw [if_neg (by omega), hm1]; simp only [then_ok]; rw [hm2]; simp only [then_ok]; rw [if_neg ha2], .inr ⟨x, X, rfl, rfl, rfl, rfl⟩⟩, ((hh.dp [3, 3, 3]).pk [1])⟩)

theorem fcollectO_ok (B : World) (Fr : List HP) (bs bd : Nat) (S : SecS) (c : Cfg) (wv : Value) :
    ∀ w, Holds B (SecO bs S :: Fr) w → Calls Tryz.prog 14 [ptr bd, cfgV c, ptr bs, wv].toArray w (PureR B (SecO bs S :: Fr) (.tuple #[.pointer none, i64 2])) := by
  refine fn_enter Tryz.func14 rfl Tryz.ntmps14 rfl ?_; refine g_seq ?_; refine g_region ?_; refine p_chg rfl (ch_boxA rfl) .free rfl rfl ?_
  rintro _ _ ⟨b5, rfl, rfl⟩
  refine kPa rfl rfl ?_; refine kPa rfl rfl ?_; refine p_nil ?_; refine g_seq ?_; refine g_seq ?_; refine g_region ?_; refine kPm rfl rfl ?_; refine p_callq rfl (en_f Tryz.call53 rfl) (ro_at (q := SecO) (fun Fr => sopenO_ok B Fr bs S)) .free rfl rfl ?_; refine p_nil ?_; refine g_ift rfl (rfl) ?_; refine g_seq ?_; refine g_region ?_; refine kPa rfl rfl ?_; refine kPa rfl rfl ?_; refine p_nil ?_; refine g_ret ?_
  exact ret_tmp2 Tryz.results14 rfl rfl (fun w hh => ⟨rfl, (hh.dp [0])⟩)

end Go.Proofs.YtbfheafpecgphaaGreat
