/- Where objects begin. Conditions: none. -/
import Derived.Test.YtbfheafpecgphaaGreatItr
import Derived.Test.YtbfheafpecgphaaGreatSlk
set_option linter.unusedSimpArgs false
set_option linter.unusedVariables false
set_option linter.unnecessarySimpa false
set_option linter.unusedSectionVars false
namespace Go.Proofs.YtbfheafpecgphaaGreat
set_option linter.unusedSimpArgs false
set_option linter.unusedVariables false
open Go
theorem block_len {s : Dev} {c : Cfg} (hc : CfgW c) : (s.block c).1.rts.length ≤ 16 := by
  have := hc.r2
  unfold Dev.block
  split
  · exact Nat.zero_le _
  · rw [tab_len]; omega
theorem block_rts {s : Dev} {c : Cfg} (hu : U64 s) : ∀ x ∈ (s.block c).1.rts, 0 ≤ x ∧ x < 18446744073709551616 := by
  intro x hx
  unfold Dev.block at hx
  split at hx
  · cases hx
  · obtain ⟨i, _, rfl⟩ := List.mem_map.1 hx
    exact hu.load _
theorem lst_busy {ι : Type} {r : Loop} {cd : ι → Code} {y : Bool × ι} (h : r.state ≠ .busy) : (lst r cd y).state ≠ .busy := by
  unfold lst; split
  · exact h
  · simp
theorem lst_none {ι : Type} {r : Loop} {cd : ι → Code} {y : Bool × ι} (h : (lst r cd y).pending = none) : y.1 = true := by
  unfold lst at h; split at h
  · assumption
  · cases h
theorem lst_some {ι : Type} {r : Loop} {cd : ι → Code} {y : Bool × ι} {c : Code} (hr : r.pending = none) (h : (lst r cd y).pending = some c) : y.1 = false ∧ c = cd y.2 := by
  unfold lst at h; split at h
  · rw [hr] at h; cases h
  · rename_i h1; exact ⟨by simpa using h1, by simpa using h.symm⟩
def stS (p : Obj3 × Int) (x : List (Int × Obj3) × Int) : Bool × List (Int × Obj3) × Int := if p.2 ≠ 0 then (false, (x.1, p.2)) else (true, (mset x.1 p.1.2.2 p.1, x.2))
def Dev.startsI (s : Dev) (c : Cfg) (b : Blk) : Bool × List (Int × Obj3) × Int := itl stS (s.objs c b (b.used.toNat + 1) (b.place c 0)) ([], 0)
def Dev.starts (s : Dev) (c : Cfg) (b : Blk) : List (Int × Obj3) × Int := (s.startsI c b).2
theorem itl_inv {α ι : Type} {st : α → ι → Bool × ι} {I : ι → Prop} (h : ∀ a x, I x → (st a x).1 = true → I (st a x).2) : ∀ (l : List α) (x : ι), I x → (itl st l x).1 = true → I (itl st l x).2
  | [], x, hx, _ => hx
  | a :: t, x, hx, h1 => by
    unfold itl at h1 ⊢
    split at h1
    · rename_i ha; rw [if_pos ha]; exact itl_inv h t _ (h a x hx ha) h1
    · cases h1
theorem starts_ok {s : Dev} {c : Cfg} {b : Blk} (h : (s.startsI c b).1 = true) : (s.starts c b).2 = 0 :=
  itl_inv (I := fun x => x.2 = 0) (fun a x hx h => by
    unfold stS at h ⊢; split at h
    · cases h
    · rename_i h1; rw [if_neg h1]; exact hx) _ _ rfl h


theorem stS_bad : ∀ (l : List (Obj3 × Int)) (x : List (Int × Obj3) × Int), (itl stS l x).1 = false → ¬ (itl stS l x).2.2 = 0
  | [], x, h => by cases h
  | a :: t, x, h => by
    unfold itl at h ⊢
    split at h
    · rename_i ha; rw [if_pos ha]; exact stS_bad t _ h
    · rename_i ha; rw [if_neg ha]
      unfold stS at ha ⊢
      split at ha
      · rename_i h1; rw [if_pos h1]; exact h1
      · exact absurd rfl ha
theorem starts_bad {s : Dev} {c : Cfg} {b : Blk} (h : (s.startsI c b).1 = false) : ¬ (s.starts c b).2 = 0 := stS_bad _ _ h

theorem wstarts_ok (B : World) (Fr : List HP) (bd : Nat) (s : Dev) (c : Cfg) (hc : CfgW c) (b : Blk) (sv : Value) (hb : BlkW c b) (hsv : cell1 sv = true) :
    ∀ w, Holds B (DevA bd s :: Fr) w → Calls Tryz.prog 80 [ptr bd, cfgV c, blkV b sv].toArray w (Ret B (fun rv H' => ∃ mb, rv = .tuple #[.map (some mb), i64 (s.starts c b).2] ∧ H' = mapA .i64 objV mb (s.starts c b).1 :: DevA bd s :: Fr) (fun _ _ => False)) := by
  refine fn_enter_m Tryz.func80 rfl Tryz.ntmps80 rfl ?_; refine g_seq ?_; refine g_region ?_; refine p_chg rfl (ch_boxA rfl) .free rfl rfl ?_
  rintro _ _ ⟨b4, rfl, rfl⟩
  refine p_chg rfl (ch_boxA rfl) .free rfl rfl ?_
  rintro _ _ ⟨b5, rfl, rfl⟩
  refine p_chg rfl (ch_alloc1 Tryz.zeroValue124 rfl) .free rfl rfl ?_
  rintro _ _ ⟨b6, rfl, rfl⟩
  refine p_chg rfl (ch_alloc1 Tryz.zeroValue46 rfl) .free rfl rfl ?_
  rintro _ _ ⟨b7, rfl, rfl⟩
  refine p_nil ?_; refine g_seq ?_; refine g_region ?_; refine p_chg rfl (ch_makeMap .i64 objV) .free rfl rfl ?_
  rintro _ _ ⟨mb, rfl, rfl⟩
  refine p_chg rfl (ch_alloc1 Tryz.zeroValue124 rfl) .free rfl rfl ?_
  rintro _ _ ⟨b8, rfl, rfl⟩
  refine p_chg0 rfl (ch_store Tryz.sizeOf124 rfl rfl rfl rfl) .free rfl ?_
  rintro _ _ rfl
  refine p_nil ?_; refine g_seq ?_; refine g_seq ?_; refine g_region ?_; refine kPm rfl rfl ?_; refine kPv (ev_loadA Tryz.isAgg30 Tryz.sizeOf30 rfl rfl) rfl ?_; refine kPv (ev_loadA Tryz.isAgg33 Tryz.sizeOf33 rfl rfl) rfl ?_
  refine p_call rfl (en_f Tryz.call83 rfl) (wobjs_ok _ _ bd c b sv hsv) .free rfl rfl ?_ ?_
  rotate_left
  · rintro _ _ ⟨⟩
  rintro _ _ ⟨c3, c4, c5, rfl, rfl⟩
  refine p_nil ?_; refine go_sub (σ' := [(15, _), (8, _), (7, _), (6, _)]) ⟨rfl, rfl, rfl, rfl, trivial⟩ ?_; refine g_block ?_; refine g_range rfl Tryz.call109 ?_
  intro l m tmps hts hkn w hh
  have hk6 := hkn 6 _ rfl
  have hk7 := hkn 7 _ rfl
  have hk8 := hkn 8 _ rfl
  refine (wobj1_ok B (blk m (.deferred (some [])) :: row b5 [i64 b.act, i64 b.used, sv] 33 :: row b4 [i64 c.log, i64 c.roots, i64 c.space] 30 :: Fr) l 80 c3 c4 c5 bd c hc b sv hb hsv s (List (Int × Obj3) × Int) _ rfl rfl (fun x => True) (fun x => [mapA .i64 objV mb x.1, row b6 [if x.2 = 0 then .map none else .map (some mb)] 124, row b7 [i64 x.2] 46, row b8 [.map (some mb)] 124]) (fun _ => .ret) stS ([], 0) trivial ?_ w (hh.pk [0, 1, 1, 1, 7, 2, 3, 2, 1])).mono (Ret.mono ?_ fun _ _ h => h.elim)
  · intro p x _ _
    refine ⟨trivial, fun E => ?_⟩
    simp only [List.cons_append, List.nil_append]
    refine round_go (n := 27) (σ := [(16, objV p.1), (17, i64 p.2), (6, ptr b6), (7, ptr b7), (8, ptr b8)]) Tryz.func80 (by simp [lrec, hts]) (KnA.knows (by simp [KnA, lrec, hts]; exact ⟨(Array.getElem?_eq_some_iff.1 hk6).2, (Array.getElem?_eq_some_iff.1 hk7).2, (Array.getElem?_eq_some_iff.1 hk8).2⟩)) rfl ?_
    refine g_seq ?_; refine g_region ?_; refine p_chg rfl (ch_allocA Tryz.zeroValue89 rfl) .free rfl rfl ?_
    rintro _ _ ⟨b9, rfl, rfl⟩
    refine p_chg0 rfl (ch_storeA (vs := [i64 p.1.1, i64 p.1.2.1, i64 p.1.2.2]) Tryz.sizeOf89 rfl rfl rfl rfl rfl) .free rfl ?_
    rintro _ _ rfl
    refine p_nil ?_; refine g_region ?_; refine kPa rfl rfl ?_; refine p_nil ?_; refine go_pk [1] ?_; refine go_mid ?_; refine g_block ?_; refine g_seq ?_; refine g_seq ?_; refine g_region ?_; refine kPm rfl rfl ?_; refine kPv (ev_cmp rfl rfl rfl) rfl ?_; refine p_nil ?_
    refine g_if rfl (fun h19 => ?_) (fun h19 => ?_)
    · have h19' : p.2 ≠ 0 := by simpa using h19
      refine g_seq ?_; refine g_region ?_; refine kPv (ev_load Tryz.isAgg124 rfl rfl) rfl ?_; refine kPm rfl rfl ?_; refine p_chg0 rfl (ch_store Tryz.sizeOf124 rfl rfl rfl rfl) .free rfl ?_
      rintro _ _ rfl
      refine p_chg0 rfl (ch_store Tryz.sizeOf46 rfl rfl rfl rfl) .free rfl ?_
      rintro _ _ rfl
      refine p_nil ?_; refine go_sub (σ' := [(9, _), (6, _), (7, _), (8, _)]) ⟨rfl, rfl, rfl, rfl, trivial⟩ ?_; refine g_ret ?_
      have hst : stS p x = (false, (x.1, p.2)) := by unfold stS; rw [if_pos h19']
      exact go_rJ fun w hh => ⟨_, ⟨by rw [hst], rfl⟩, by rw [hst]; rw [if_neg h19']; exact (hh.dp [1])⟩
    · have h19' : p.2 = 0 := by simpa using h19
      refine g_skip ?_; refine g_region ?_; refine kPv (ev_load Tryz.isAgg124 rfl rfl) rfl ?_; refine kPv (ev_fa (m := _) fa_89_1 rfl rfl) rfl ?_; refine kPv (ev_load Tryz.isAgg3 rfl rfl) rfl ?_; refine kPv (ev_loadA Tryz.isAgg89 Tryz.sizeOf89 rfl rfl) rfl ?_; refine p_chg0 rfl (ch_mapset (enc := objV) (u := p.1) Tryz.runUnderlying124 Tryz.runUnderlying3 rfl rfl rfl rfl) .free rfl ?_
      rintro _ _ rfl
      refine p_nil ?_; refine go_sub (σ' := [(6, _), (7, _)]) ⟨rfl, rfl, trivial⟩ ?_
      have hst : stS p x = (true, (mset x.1 p.1.2.2 p.1, x.2)) := by unfold stS; rw [if_neg (by omega)]
      exact go_rK fun w hh => ⟨_, ⟨by rw [hst], rfl⟩, by rw [hst]; exact (hh.dp [1])⟩
  rintro _ _ ⟨_, rfl⟩
  simp only [List.cons_append, List.nil_append]
  refine ⟨_, _, fun w hh => hh, lst_busy (by simp [lrec]), fun hp => ?_, fun c' hc' => ?_⟩
  rotate_left
  · obtain ⟨h1, rfl⟩ := lst_some rfl hc'
    refine g_ret ?_
    exact ret_2_m Tryz.results80 (.at 9 .nil) (.cell1 rfl Tryz.isAgg124 rfl) (.cell1 rfl Tryz.isAgg46 rfl) fun w hh => ⟨_, ⟨mb, by have hb := starts_bad h1; unfold Dev.starts Dev.startsI at hb ⊢; rw [if_neg hb], rfl⟩, ((hh.dp [0, 0, 0, 0, 2, 2, 2, 2, 2, 2]).pk [1])⟩
  have hy := starts_ok (s := s) (c := c) (b := b) (lst_none hp)
  refine g_seq ?_; refine g_region ?_; refine kPv (ev_load Tryz.isAgg124 rfl rfl) rfl ?_; refine p_chg0 rfl (ch_store Tryz.sizeOf124 rfl rfl rfl rfl) .free rfl ?_
  rintro _ _ rfl
  refine p_chg0 rfl (ch_store Tryz.sizeOf46 rfl rfl rfl rfl) .free rfl ?_
  rintro _ _ rfl
  refine p_nil ?_; refine g_ret ?_
  exact ret_2_m Tryz.results80 (.at 9 (.nil)) (.cell1 rfl Tryz.isAgg124 rfl) (.cell1 rfl Tryz.isAgg46 rfl) (fun w hh => ⟨_, ⟨mb, by rw [hy], rfl⟩, ((hh.dp [0, 0, 0, 0, 2, 2, 2, 2, 2, 2]).pk [1])⟩)

end Go.Proofs.YtbfheafpecgphaaGreat
