/- Objects, copied: what New, copied, Step, Run, Went and Block do. Conditions: none. -/
import Derived.Test.YtbfheafpecgphaaGreatRch
import Derived.Test.YtbfheafpecgphaaGreatStf
import Derived.Test.YtbfheafpecgphaaGreatSll
set_option linter.unusedSimpArgs false
set_option linter.unusedVariables false
set_option linter.unnecessarySimpa false
set_option linter.unusedSectionVars false
namespace Go.Proofs.YtbfheafpecgphaaGreat
set_option linter.unusedSimpArgs false
set_option linter.unusedVariables false
open Go
/-- A collector. -/
structure ColS where
  bd : Nat
  c : Cfg
  b : Blk
  to_ : Int
  scan : Int
  free : Int
  todo : List Int
  went : List (Int × Int)
  done : Bool
abbrev colRow (S : ColS) (rsv tsv : Value) (mw : Nat) : List Value := [ptr S.bd, i64 S.c.log, i64 S.c.roots, i64 S.c.space, i64 S.b.act, i64 S.b.used, rsv, i64 S.to_, i64 S.scan, i64 S.free, tsv, .map (some mw), .bool S.done]
def ColA (x : Nat) (S : ColS) : HP := hex fun (p : Value × Value × Nat) => grp [row x (colRow S p.1 p.2.1 p.2.2) 115, VecU 0 (p.1, S.b.rts), VecU 0 (p.2.1, S.todo), mapA .u64 i64 p.2.2 S.went, pr (cell1 p.1 = true ∧ cell1 p.2.1 = true)]
theorem go_col {B : World} {n : Nat} {D : List Deferred} {σ : Env} {x : Nat} {S : ColS} {Fr : List HP} {K : Act → World → Prop} (h : ∀ rsv tsv mw, cell1 rsv = true → cell1 tsv = true → GO B n D σ (row x (colRow S rsv tsv mw) 115 :: VecU 0 (rsv, S.b.rts) :: VecU 0 (tsv, S.todo) :: mapA .u64 i64 mw S.went :: Fr) K) : GO B n D σ (ColA x S :: Fr) K := fun a w st => by
  obtain ⟨p, hx⟩ := st.holds.hex
  have h2 := (hx.grp.front 4 rfl).pr
  exact h _ _ _ h2.1.1 h2.1.2 a w ⟨st.toStA, h2.2⟩
theorem col_holds {B : World} {x mw : Nat} {S : ColS} {rsv tsv : Value} {Fr : List HP} {w : World} (hr : cell1 rsv = true) (ht : cell1 tsv = true) (h : Holds B (row x (colRow S rsv tsv mw) 115 :: VecU 0 (rsv, S.b.rts) :: VecU 0 (tsv, S.todo) :: mapA .u64 i64 mw S.went :: Fr) w) : Holds B (ColA x S :: Fr) w :=
  Holds.unhex (rsv, tsv, mw) (Holds.ungrp (l := [row x (colRow S rsv tsv mw) 115, VecU 0 (rsv, S.b.rts), VecU 0 (tsv, S.todo), mapA .u64 i64 mw S.went, pr _]) ((h.unpr ⟨hr, ht⟩).back 4 (by simp)))
def cpyN : Nat → Int → Int → Int → Dev → Out Unit
  | 0, _, _, _, s => .ok () s
  | k + 1, i, a, f, s => (s.store (a + i) (s.load (f + i))).then fun _ s' => cpyN k (i + 1) a f s'
theorem cpyN_succ (k : Nat) (i a f : Int) (s : Dev) : cpyN (k + 1) i a f s = (s.store (a + i) (s.load (f + i))).then fun _ s' => cpyN k (i + 1) a f s' := rfl
def ColS.copied (S : ColS) (s : Dev) (w : Int) : Out (Int × ColS) :=
  if (mget S.went w).isSome = true then .ok ((mget S.went w).getD 0, S) s
  else if S.b.has S.c w = false then .ok (0, S) s
  else if (s.objOf S.c S.b w).2 ≠ 0 then .ok (0, S) s
  else (cpyN ((s.objOf S.c S.b w).1.1 + 1).toNat 0 S.free (s.objOf S.c S.b w).1.2.2 s).then fun _ s' => .ok (S.free, { S with free := S.free + ((s.objOf S.c S.b w).1.1 + 1), went := mset S.went w S.free }) s'
def refsN : Nat → Int → ColS → Dev → Out ColS
  | 0, _, S, s => .ok S s
  | k + 1, i, S, s => if s.load (S.scan + 1 + i) = 0 then refsN k (i + 1) S s
    else (S.copied s (s.load (S.scan + 1 + i))).then fun r s1 => (s1.store (S.scan + 1 + i) r.1).then fun _ s2 => refsN k (i + 1) r.2 s2
def keepN : Nat → Int → Int → Dev → Out Unit
  | 0, _, _, s => .ok () s
  | f + 1, i, e, s => if i < e then (s.flush i).then fun _ s' => keepN f (i + 8) e s' else .ok () s
def ColS.keep (S : ColS) (s : Dev) : Out Unit :=
  (keepN ((S.free - S.to_).toNat + 1) S.to_ S.free s).then fun _ s' => if S.to_ < S.free then s'.fence else .ok () s'
def ColS.step (S : ColS) (s : Dev) : Out (Bool × ColS) :=
  if S.done = true then .ok (true, S) s
  else match S.todo with
    | w :: t => (S.copied s w).then fun r s' => .ok (false, { r.2 with todo := t }) s'
    | [] => if S.scan < S.free then
        (refsN (unp (s.load S.scan)).2.1.toNat 0 S s).then fun S' s' => .ok (false, { S' with scan := S'.scan + ((unp (s.load S.scan)).1 + 1) }) s'
      else (S.keep s).then fun _ s' => .ok (true, { S with done := true }) s'
def runN : Nat → ColS → Dev → Out ColS
  | 0, S, s => .ok S s
  | f + 1, S, s => (S.step s).then fun r s' => if r.1 = true then .ok r.2 s' else runN f r.2 s'
/-- How many steps are left, at most. -/
def ColS.meas (S : ColS) : Nat := S.todo.length + (S.free - S.scan).toNat + 66 * (S.b.used.toNat - S.went.length) + (if S.done = true then 0 else 1)
def ColS.run (S : ColS) (s : Dev) : Out ColS := runN (S.meas + 1) S s
def ColS.block (S : ColS) : Blk := ⟨1 - S.b.act, S.free - S.to_, S.b.rts.map fun w => (mget S.went w).getD 0⟩
def newCol (bd : Nat) (c : Cfg) (b : Blk) (ws : List Int) : ColS := ⟨bd, c, b, c.frm (1 - b.act), c.frm (1 - b.act), c.frm (1 - b.act), ws, [], false⟩
/-- A collector that may be. -/
structure ColW (S : ColS) : Prop where
  c : CfgW S.c
  b : BlkW S.c S.b
  rl : S.b.rts.length ≤ 16
  to_ : 0 ≤ S.to_ ∧ S.to_ ≤ 20000
  scan : S.to_ ≤ S.scan ∧ S.scan ≤ 400000
  free : S.to_ ≤ S.free ∧ S.free ≤ S.to_ + 65 * S.went.length
  nd : (S.went.map Prod.fst).Nodup
  rng : ∀ k ∈ S.went.map Prod.fst, S.c.frm S.b.act ≤ k ∧ k < S.c.frm S.b.act + S.b.used
  val : ∀ p ∈ S.went, 0 ≤ p.2 ∧ p.2 ≤ 1000000
  todo : ∀ v ∈ S.todo, 0 ≤ v ∧ v < 18446744073709551616
  rts : ∀ v ∈ S.b.rts, 0 ≤ v ∧ v < 18446744073709551616
theorem ColW.wl {S : ColS} (h : ColW S) : S.went.length ≤ S.b.used.toNat := by
  have h1 := h.b.used
  have := nodup_len S.b.used.toNat (S.c.frm S.b.act) _ h.nd fun k hk => by have := h.rng k hk; omega
  simpa using this
theorem ColW.fb {S : ColS} (h : ColW S) : S.free ≤ 300000 := by
  have h1 := h.wl; have h2 := h.b.used; have h3 := h.c.s2; have h4 := h.free; have h5 := h.to_; omega
theorem ColW.vb {S : ColS} (h : ColW S) (w : Int) : 0 ≤ (mget S.went w).getD 0 ∧ (mget S.went w).getD 0 ≤ 1000000 := by
  cases hm : mget S.went w with
  | none => exact ⟨Int.le_refl 0, by decide⟩
  | some v => exact h.val _ (mget_mem hm)
theorem copied_w {S : ColS} (h : ColW S) {s s' : Dev} {w : Int} {r : Int × ColS} (e : S.copied s w = .ok r s') : ColW r.2 ∧ (0 ≤ r.1 ∧ r.1 ≤ 1000000) ∧ r.2.scan = S.scan ∧ r.2.todo = S.todo ∧ r.2.done = S.done ∧ r.2.b = S.b ∧ r.2.bd = S.bd ∧ r.2.c = S.c ∧ r.2.to_ = S.to_ ∧ S.free ≤ r.2.free ∧ r.2.free - S.free + 66 * (S.b.used.toNat - r.2.went.length : Nat) ≤ 66 * (S.b.used.toNat - S.went.length : Nat) := by
  have hwl := h.wl; have hfb := h.fb; have hto := h.to_; have hfr := h.free
  unfold ColS.copied at e
  split at e
  · cases e; exact ⟨h, h.vb w, rfl, rfl, rfl, rfl, rfl, rfl, rfl, Int.le_refl _, by simp only; omega⟩
  rename_i h1
  split at e
  · cases e; exact ⟨h, ⟨Int.le_refl 0, by simp only; omega⟩, rfl, rfl, rfl, rfl, rfl, rfl, rfl, Int.le_refl _, by simp only; omega⟩
  rename_i h2
  split at e
  · cases e; exact ⟨h, ⟨Int.le_refl 0, by simp only; omega⟩, rfl, rfl, rfl, rfl, rfl, rfl, rfl, Int.le_refl _, by simp only; omega⟩
  obtain ⟨_, s1, _, e⟩ := then_inv e
  cases e
  have h3 : mget S.went w = none := by cases hm : mget S.went w with
    | none => rfl
    | some _ => exact absurd (by rw [hm]; rfl) h1
  have h4 : S.b.has S.c w = true := by cases hm : S.b.has S.c w with
    | true => rfl
    | false => exact absurd hm h2
  have h5 := bhas_b h.c h.b h4
  have h6 := objOf_b (s := s) (c := S.c) (b := S.b) (a := w)
  have hnk : w ∉ S.went.map Prod.fst := mget_none h3
  have hnd : ((S.went ++ [(w, S.free)]).map Prod.fst).Nodup := by
    rw [List.map_append, List.nodup_append]
    exact ⟨h.nd, by simp, fun a ha b' hb' => by simp at hb'; subst hb'; intro e; subst e; exact hnk ha⟩
  have hrng : ∀ k ∈ (S.went ++ [(w, S.free)]).map Prod.fst, S.c.frm S.b.act ≤ k ∧ k < S.c.frm S.b.act + S.b.used := fun k hk => by
    rw [List.map_append, List.mem_append] at hk
    rcases hk with hk | hk
    · exact h.rng k hk
    · simp at hk; subst hk; omega
  have hl2 := nodup_len S.b.used.toNat (S.c.frm S.b.act) _ hnd fun k hk => by have := hrng k hk; have := h.b.used; omega
  simp only [List.length_map, List.length_append, List.length_cons, List.length_nil] at hl2
  refine ⟨⟨h.c, h.b, h.rl, h.to_, h.scan, ?_, by rw [mset_none h3]; exact hnd, by rw [mset_none h3]; exact hrng, fun p hp => ?_, h.todo, h.rts⟩, ⟨by simp only; omega, by simp only; omega⟩, rfl, rfl, rfl, rfl, rfl, rfl, rfl, by simp only; omega, ?_⟩
  · rw [mset_none h3]; simp only [List.length_append, List.length_cons, List.length_nil]; omega
  · rw [mset_none h3] at hp
    rcases List.mem_append.1 hp with hp | hp
    · exact h.val p hp
    · rw [List.mem_singleton.1 hp]; simp only; omega
  · rw [mset_none h3]; simp only [List.length_append, List.length_cons, List.length_nil]; omega
theorem cpyN_u64 : ∀ (k : Nat) (i a f : Int) (s s' : Dev), U64 s → cpyN k i a f s = .ok () s' → U64 s' ∧ s'.n = s.n
  | 0, _, _, _, s, s', h, e => by cases e; exact ⟨h, rfl⟩
  | k + 1, i, a, f, s, s', h, e => by
    unfold cpyN at e
    obtain ⟨_, s1, e1, e⟩ := then_inv e
    have h1 := store_u64 h (h.load _) e1
    have h2 := cpyN_u64 k _ _ _ s1 s' h1.1 e
    exact ⟨h2.1, h2.2.trans h1.2⟩
theorem copied_u64 {S : ColS} {s s' : Dev} {w : Int} {r : Int × ColS} (hu : U64 s) (e : S.copied s w = .ok r s') : U64 s' ∧ s'.n = s.n := by
  unfold ColS.copied at e
  split at e
  · cases e; exact ⟨hu, rfl⟩
  split at e
  · cases e; exact ⟨hu, rfl⟩
  split at e
  · cases e; exact ⟨hu, rfl⟩
  obtain ⟨_, s1, e1, e⟩ := then_inv e
  cases e; exact cpyN_u64 _ _ _ _ _ _ hu e1

theorem ccopied_ok (B : World) (Fr : List HP) (x : Nat) (S : ColS) (hS : ColW S) (s : Dev) (hu : U64 s) (v : Int) (hv : 0 ≤ v ∧ v < 18446744073709551616) :
    ∀ w, Holds B (ColA x S :: DevA S.bd s :: Fr) w → Calls Tryz.prog 105 [ptr x, w64 v].toArray w (Ret B (fun rv H' => ∃ r s', S.copied s v = .ok r s' ∧ rv = i64 r.1 ∧ H' = ColA x r.2 :: DevA S.bd s' :: Fr) (fun c H' => ∃ s', S.copied s v = .off s' ∧ c = offc ∧ H' = DevA S.bd s' :: Fr)) := by
  refine fn_enter Tryz.func105 rfl Tryz.ntmps105 rfl ?_; refine go_col fun rsv tsv mw hrsv htsv => ?_
  have hfb := hS.fb
  have hfr := hS.free
  have hto := hS.to_
  refine g_seq ?_; refine g_region ?_; refine kPa rfl rfl ?_; refine p_nil ?_; refine g_seq ?_; refine g_seq ?_; refine g_region ?_; refine kPm rfl rfl ?_
  first | refine kPv (ev_nil rfl) rfl ?_ | refine kPv (ev_nilf rfl) rfl ?_
  refine kPv (ev_fa (m := _) fa_115_7 rfl rfl) rfl ?_; refine kPv (ev_load Tryz.isAgg113 rfl rfl) rfl ?_; refine kPm rfl rfl ?_; refine kPv ((ev_lookup2 Tryz.runUnderlying113 Tryz.runUnderlying52 Tryz.zeroValue3 rfl rfl).eq (congrArg (fun v => Value.tuple #[v, .bool _]) (mval_i _))) rfl ?_; refine kPm rfl rfl ?_; refine kPv (ev_ext rfl rfl) rfl ?_; refine kPv (ev_ext rfl rfl) rfl ?_; refine kPa rfl rfl ?_; refine kPa rfl rfl ?_; refine p_nil ?_
  refine go_sub (σ' := [(6, _), (5, _), (4, _), (0, _), (1, _)]) ⟨rfl, rfl, rfl, rfl, rfl, trivial⟩ ?_; refine g_seq ?_; refine g_region ?_; refine kPm rfl rfl ?_; refine p_nil ?_
  refine g_if rfl (fun h20 => ?_) (fun h20 => ?_)
  · have h1 : (mget S.went v).isSome = true := by simpa using h20
    have hres : S.copied s v = .ok ((mget S.went v).getD 0, S) s := by unfold ColS.copied; rw [if_pos h1]
    refine g_seq ?_; refine g_region ?_; refine kPm rfl rfl ?_; refine kPa rfl rfl ?_; refine p_nil ?_; refine g_ret ?_
    exact ret_tmp Tryz.results105 rfl (fun w hh => ⟨_, ⟨_, _, hres, rfl, rfl⟩, col_holds hrsv htsv hh⟩)
  · have h1 : ¬ (mget S.went v).isSome = true := by simpa using h20
    refine g_skip ?_; refine g_seq ?_; refine g_seq ?_; refine g_draw Tryz.mixed (by kernel_rfl) (by kernel_rfl) ?_; refine kQm rfl rfl ?_
    first | refine kQv (ev_nil rfl) rfl ?_ | refine kQv (ev_nilf rfl) rfl ?_
    refine kQv (ev_fa (m := _) fa_115_2 rfl rfl) rfl ?_; refine kQv (ev_loadA Tryz.isAgg33 Tryz.sizeOf33 rfl rfl) rfl ?_; refine kQm rfl rfl ?_
    first | refine kQv (ev_nil rfl) rfl ?_ | refine kQv (ev_nilf rfl) rfl ?_
    refine kQv (ev_fa (m := _) fa_115_1 rfl rfl) rfl ?_; refine kQv (ev_loadA Tryz.isAgg30 Tryz.sizeOf30 rfl rfl) rfl ?_; refine kQm rfl rfl ?_; refine q_call rfl (en_f Tryz.call82 rfl) (has_ok _ _ S.c hS.c S.b rsv hS.b hrsv _ hv) .free rfl ?_; refine kQv (ev_not rfl) rfl ?_; refine q_nil ?_; refine go_sub (σ' := [(32, _), (4, _), (0, _), (1, _)]) ⟨rfl, rfl, rfl, rfl, trivial⟩ ?_
    refine g_if rfl (fun h32 => ?_) (fun h32 => ?_)
    · have h2 : S.b.has S.c v = false := by simpa using h32
      have hres : S.copied s v = .ok (0, S) s := by unfold ColS.copied; rw [if_neg h1, if_pos h2]
      refine g_seq ?_; refine g_region ?_; refine kPa rfl rfl ?_; refine p_nil ?_; refine g_ret ?_
      exact ret_tmp Tryz.results105 rfl (fun w hh => ⟨_, ⟨_, _, hres, rfl, rfl⟩, col_holds hrsv htsv hh⟩)
    · have hh0 : S.b.has S.c v = true := by simpa using h32
      have h2 : ¬ S.b.has S.c v = false := by rw [hh0]; decide
      have hvb := bhas_b hS.c hS.b hh0
      refine g_skip ?_; refine g_seq ?_
      refine g_drawT (.br [0, 1, 2, 3, 4, 5, 6, 7, 8, 9, 10, 11, 12, 13] 14 (.fin [15, 16, 17, 18, 19, 20]) 18 (.fin [14, 15, 16, 17, 19, 20])) [14, 18, 19] [0, 1, 2, 3, 4, 5, 6, 7, 8, 9, 10, 11, 12, 13, 15, 16, 17] [18, 19] [row x (colRow S rsv tsv mw) 115] [4, 0, 1] (G := Nat) (fun b7 => [(7, ptr b7), (8, i64 (s.objOf S.c S.b v).2)]) (fun b7 => row b7 [i64 (s.objOf S.c S.b v).1.1, i64 (s.objOf S.c S.b v).1.2.1, i64 (s.objOf S.c S.b v).1.2.2] 89 :: row x (colRow S rsv tsv mw) 115 :: VecU 0 (rsv, S.b.rts) :: VecU 0 (tsv, S.todo) :: mapA .u64 i64 mw S.went :: DevA S.bd s :: Fr) Tryz.mixed (by kernel_rfl) ?_ ?_
      · skip
        refine t_br ?_; refine v_hoist rfl rfl rfl (ev_move rfl) .free rfl ?_
        first | refine v_hoist rfl rfl rfl (ev_nil rfl) .free rfl ?_ | refine v_hoist rfl rfl rfl (ev_nilf rfl) .free rfl ?_
        refine v_hoist rfl rfl rfl (ev_fa (m := _) fa_115_0 rfl rfl) .free rfl ?_; refine v_hoist rfl rfl rfl (ev_load Tryz.isAgg28 rfl rfl) .free rfl ?_; refine v_hoist rfl rfl rfl (ev_move rfl) .free rfl ?_
        first | refine v_hoist rfl rfl rfl (ev_nil rfl) .free rfl ?_ | refine v_hoist rfl rfl rfl (ev_nilf rfl) .free rfl ?_
        refine v_hoist rfl rfl rfl (ev_fa (m := _) fa_115_1 rfl rfl) .free rfl ?_; refine v_hoist rfl rfl rfl (ev_loadA Tryz.isAgg30 Tryz.sizeOf30 rfl rfl) .free rfl ?_; refine v_hoist rfl rfl rfl (ev_move rfl) .free rfl ?_
        first | refine v_hoist rfl rfl rfl (ev_nil rfl) .free rfl ?_ | refine v_hoist rfl rfl rfl (ev_nilf rfl) .free rfl ?_
        refine v_hoist rfl rfl rfl (ev_fa (m := _) fa_115_2 rfl rfl) .free rfl ?_; refine v_hoist rfl rfl rfl (ev_loadA Tryz.isAgg33 Tryz.sizeOf33 rfl rfl) .free rfl ?_; refine v_hoist rfl rfl rfl (ev_move rfl) .free rfl ?_
        have hvb := bhas_b hS.c hS.b hh0
        refine v_hoist rfl rfl rfl (ev_conv Tryz.runUnderlying52 Tryz.runUnderlying3 rfl (wr64 (by omega))) .free rfl ?_; refine v_nil ?_
        refine t_two rfl rfl ?_ ?_
        · skip
          refine p_callq rfl (en_f Tryz.call51 rfl) (ro_at (q := DevA) (fun Fr => obj_ok _ Fr _ _ S.c hS.c S.b rsv hS.b hrsv v (by omega))) .free rfl rfl ?_; refine p_nil ?_; refine t_off rfl ?_; refine t_fin ?_; refine v_hoist rfl rfl rfl (ev_move rfl) .free rfl ?_; refine v_hoist rfl rfl rfl (ev_ext rfl rfl) .free rfl ?_; refine v_hoist rfl rfl rfl (ev_ext rfl rfl) .free rfl ?_; refine v_mark rfl rfl ?_; refine p_chg rfl (ch_allocA Tryz.zeroValue89 rfl) .free rfl rfl ?_
          rintro _ _ ⟨b7, rfl, rfl⟩
          refine p_nil ?_; refine v_on ?_; refine v_mark rfl rfl ?_; refine p_chg0 rfl (ch_storeA (vs := _) Tryz.sizeOf89 rfl rfl rfl rfl rfl) .free rfl ?_
          rintro _ _ rfl
          refine p_nil ?_; refine v_on ?_; refine v_val rfl rfl rfl (ev_assign rfl) .free rfl ?_; refine v_nil ?_
          exact fun a w st_ => ⟨b7, st_.to ⟨rfl, rfl, rfl, rfl, rfl, trivial⟩ (fun hh => hh)⟩
        · skip
          refine p_chg rfl (ch_allocA Tryz.zeroValue89 rfl) .free rfl rfl ?_
          rintro _ _ ⟨b7, rfl, rfl⟩
          refine p_nil ?_; refine t_on ?_; refine t_fin ?_; refine v_mark rfl rfl ?_; refine p_callq rfl (en_f Tryz.call51 rfl) (ro_at (q := DevA) (fun Fr => obj_ok _ Fr _ _ S.c hS.c S.b rsv hS.b hrsv v (by omega))) .free rfl rfl ?_; refine p_nil ?_; refine v_off rfl ?_; refine v_hoist rfl rfl rfl (ev_move rfl) .free rfl ?_; refine v_hoist rfl rfl rfl (ev_ext rfl rfl) .free rfl ?_; refine v_hoist rfl rfl rfl (ev_ext rfl rfl) .free rfl ?_; refine v_mark rfl rfl ?_
          refine p_chg0 rfl (ch_storeA (vs := _) Tryz.sizeOf89 rfl rfl rfl rfl rfl) .free rfl ?_
          rintro _ _ rfl
          refine p_nil ?_; refine v_on ?_; refine v_val rfl rfl rfl (ev_assign rfl) .free rfl ?_; refine v_nil ?_
          exact fun a w st_ => ⟨b7, st_.to ⟨rfl, rfl, rfl, rfl, rfl, trivial⟩ (fun hh => hh)⟩
      intro b7
      refine go_sub (σ' := [(7, ptr b7), (8, i64 (s.objOf S.c S.b v).2), (4, _), (0, _), (1, _)]) ⟨rfl, rfl, rfl, rfl, rfl, trivial⟩ ?_; refine g_seq ?_; refine g_seq ?_; refine g_region ?_; refine kPm rfl rfl ?_; refine kPv (ev_cmp rfl rfl rfl) rfl ?_; refine p_nil ?_
      refine g_if rfl (fun h52 => ?_) (fun h52 => ?_)
      · have h3 : (s.objOf S.c S.b v).2 ≠ 0 := by simpa using h52
        have hres : S.copied s v = .ok (0, S) s := by unfold ColS.copied; rw [if_neg h1, if_neg h2, if_pos h3]
        refine g_seq ?_; refine g_region ?_; refine kPa rfl rfl ?_; refine p_nil ?_; refine g_ret ?_
        exact ret_tmp Tryz.results105 rfl (fun w hh => ⟨_, ⟨_, _, hres, rfl, rfl⟩, col_holds hrsv htsv (hh.dp [0])⟩)
      · have h3 : ¬ (s.objOf S.c S.b v).2 ≠ 0 := by simpa using h52
        have ho := objOf_w hS.c hS.b (a := v) (s := s) (by omega)
        have ho1 := ho.w
        have ho3 := ho.at_
        have hcp : S.copied s v = (cpyN ((s.objOf S.c S.b v).1.1 + 1).toNat 0 S.free (s.objOf S.c S.b v).1.2.2 s).then fun _ s' => .ok (S.free, { S with free := S.free + ((s.objOf S.c S.b v).1.1 + 1), went := mset S.went v S.free }) s' := by unfold ColS.copied; rw [if_neg h1, if_neg h2, if_neg h3]
        refine g_skip ?_; refine g_seq ?_; refine g_region ?_; refine kPm rfl rfl ?_
        first | refine kPv (ev_nil rfl) rfl ?_ | refine kPv (ev_nilf rfl) rfl ?_
        refine kPv (ev_fa (m := _) fa_115_5 rfl rfl) rfl ?_; refine kPv (ev_load Tryz.isAgg3 rfl rfl) rfl ?_; refine kPa rfl rfl ?_; refine p_nil ?_; refine go_sub (σ' := [(9, _), (7, _), (4, _), (0, _), (1, _)]) ⟨rfl, rfl, rfl, rfl, rfl, trivial⟩ ?_; refine g_seq ?_; refine g_seq ?_; refine g_region ?_; refine kPv (ev_fa (m := _) fa_89_0 rfl rfl) rfl ?_; refine kPv (ev_loadA Tryz.isAgg87 Tryz.sizeOf87 rfl rfl) rfl ?_
        refine p_callq rfl (en_f Tryz.call52 rfl) (hsize_ok _ _ _ _ (by omega)) .free rfl rfl ?_; refine kPm rfl rfl ?_; refine p_nil ?_; refine g_block ?_
        refine g_loopk (ι := Nat × Dev) [59, 9, 7, 4, 0, 1] (fun (i, sI) => ((i : Int) ≤ (s.objOf S.c S.b v).1.1 + 1) ∧ (cpyN ((s.objOf S.c S.b v).1.1 + 1).toNat 0 S.free (s.objOf S.c S.b v).1.2.2 s = cpyN (((s.objOf S.c S.b v).1.1 + 1).toNat - i) i S.free (s.objOf S.c S.b v).1.2.2 sI)) (fun (i, sI) => [(60, i64 i)]) (fun (i, sI) => row b7 [i64 (s.objOf S.c S.b v).1.1, i64 (s.objOf S.c S.b v).1.2.1, i64 (s.objOf S.c S.b v).1.2.2] 89 :: row x (colRow S rsv tsv mw) 115 :: VecU 0 (rsv, S.b.rts) :: VecU 0 (tsv, S.todo) :: mapA .u64 i64 mw S.went :: DevA S.bd sI :: Fr) (fun (i, sI) => ((s.objOf S.c S.b v).1.1 + 1).toNat - i) (0, s) (⟨by first | omega | (simp only; omega), rfl⟩) (fun a w st => st.to ⟨rfl, trivial⟩ (fun hh => hh)) ?_
        rintro ⟨i, sI⟩ ⟨hi0, hinv⟩
        try simp only at hi0 hinv ⊢
        refine go_sub (σ' := [(60, i64 i), (59, _), (9, _), (7, _), (4, _), (0, _), (1, _)]) ⟨rfl, rfl, rfl, rfl, rfl, rfl, rfl, trivial⟩ ?_; refine g_seq ?_; refine g_region ?_; refine kPv (ev_cmp rfl rfl rfl) rfl ?_; refine p_nil ?_; refine g_seq ?_
        refine g_if rfl (fun h61 => ?_) (fun h61 => ?_)
        · have hi : (i : Int) < (s.objOf S.c S.b v).1.1 + 1 := by simpa using h61
          refine g_skip ?_; refine g_seq ?_; refine g_block ?_; refine g_seq ?_; refine g_region ?_; refine kPm rfl rfl ?_; refine kPa rfl rfl ?_; refine p_nil ?_; refine g_drawt 16 Tryz.mixed (by kernel_rfl) (by kernel_rfl) ?_; refine kQm rfl rfl ?_
          first | refine kQv (ev_nil rfl) rfl ?_ | refine kQv (ev_nilf rfl) rfl ?_
          refine kQv (ev_fa (m := _) fa_115_0 rfl rfl) rfl ?_; refine kQv (ev_load Tryz.isAgg28 rfl rfl) rfl ?_; refine kQm rfl rfl ?_; refine kQm rfl rfl ?_
          first | refine q_val rfl (ev_add rfl rfl (wr64 (by omega))) .free rfl ?_ | refine q_val rfl (ev_add rfl rfl rfl) .free rfl ?_
          refine kQm rfl rfl ?_
          first | refine kQv (ev_nil rfl) rfl ?_ | refine kQv (ev_nilf rfl) rfl ?_
          refine kQv (ev_fa (m := _) fa_115_0 rfl rfl) rfl ?_; refine kQv (ev_load Tryz.isAgg28 rfl rfl) rfl ?_; refine kQv (ev_fa (m := _) fa_89_1 rfl rfl) rfl ?_; refine kQv (ev_load Tryz.isAgg3 rfl rfl) rfl ?_; refine kQm rfl rfl ?_
          first | refine q_val rfl (ev_add rfl rfl (wr64 (by omega))) .free rfl ?_ | refine q_val rfl (ev_add rfl rfl rfl) .free rfl ?_
          refine q_call rfl (en_f Tryz.call72 rfl) (ro_at (q := DevA) (fun Fr => nload_ok _ Fr _ _ _)) .free rfl ?_; refine q_nil ?_
          refine p_call rfl (en_f Tryz.call70 rfl) (up_at (fun Fr => nstore_ok _ Fr _ _ _ _)) .free rfl rfl ?_ ?_
          rotate_left
          · rintro _ _ ⟨s9, ⟨hm9, rfl⟩, rfl⟩
            exact pan_fn fun w hh => ⟨_, ⟨s9, by rw [hcp, hinv, show ((s.objOf S.c S.b v).1.1 + 1).toNat - i = (((s.objOf S.c S.b v).1.1 + 1).toNat - (i + 1)) + 1 by omega, cpyN_succ, hm9]; rfl, rfl, rfl⟩, (hh.dp [0, 0, 0, 0, 0])⟩
          rintro _ _ ⟨s1, ⟨e1, hm1, rfl⟩, rfl⟩
          refine p_nil ?_; refine go_sub (σ' := [(60, _), (59, _), (9, _), (7, _), (4, _), (0, _), (1, _)]) ⟨rfl, rfl, rfl, rfl, rfl, rfl, rfl, trivial⟩ ?_; refine g_region ?_
          first | refine p_val rfl (ev_add rfl rfl (wr64 (by omega))) .free rfl rfl ?_ | refine p_val rfl (ev_add rfl rfl rfl) .free rfl rfl ?_
          refine kPm rfl rfl ?_; refine p_nil ?_
          exact fun a w st_ => ⟨(i + 1, s1), ⟨by first | omega | (simp only; omega), by rw [hinv, show ((s.objOf S.c S.b v).1.1 + 1).toNat - i = (((s.objOf S.c S.b v).1.1 + 1).toNat - (i + 1)) + 1 by omega, cpyN_succ, hm1]; rfl⟩, by first | omega | (simp only; omega), st_.to ⟨rfl, rfl, rfl, rfl, rfl, rfl, rfl, trivial⟩ (fun hh => hh)⟩
        · have hi : ¬ (i : Int) < (s.objOf S.c S.b v).1.1 + 1 := by simpa using h61
          refine g_exit ?_; refine g_seq ?_; refine g_drawt 10 Tryz.mixed (by kernel_rfl) (by kernel_rfl) ?_; refine kQm rfl rfl ?_
          first | refine kQv (ev_nil rfl) rfl ?_ | refine kQv (ev_nilf rfl) rfl ?_
          refine kQv (ev_fa (m := _) fa_115_5 rfl rfl) rfl ?_; refine kQv (ev_load Tryz.isAgg3 rfl rfl) rfl ?_; refine kQv (ev_fa (m := _) fa_89_0 rfl rfl) rfl ?_; refine kQv (ev_loadA Tryz.isAgg87 Tryz.sizeOf87 rfl rfl) rfl ?_; refine q_call rfl (en_f Tryz.call52 rfl) (hsize_ok _ _ _ _ (by omega)) .free rfl ?_
          first | refine q_val rfl (ev_add rfl rfl (wr64 (by omega))) .free rfl ?_ | refine q_val rfl (ev_add rfl rfl rfl) .free rfl ?_
          first | refine kQv (ev_nil rfl) rfl ?_ | refine kQv (ev_nilf rfl) rfl ?_
          refine kQv (ev_fa (m := _) fa_115_5 rfl rfl) rfl ?_; refine q_nil ?_; refine p_chg0 rfl (ch_store Tryz.sizeOf3 rfl rfl rfl rfl) .free rfl ?_
          rintro _ _ rfl
          refine p_nil ?_; refine go_sub (σ' := [(9, _), (4, _), (0, _), (1, _)]) ⟨rfl, rfl, rfl, rfl, trivial⟩ ?_; refine g_seq ?_; refine g_region ?_; refine kPm rfl rfl ?_
          first | refine kPv (ev_nil rfl) rfl ?_ | refine kPv (ev_nilf rfl) rfl ?_
          refine kPv (ev_fa (m := _) fa_115_7 rfl rfl) rfl ?_; refine kPv (ev_load Tryz.isAgg113 rfl rfl) rfl ?_; refine kPm rfl rfl ?_; refine kPm rfl rfl ?_; refine p_chg0 rfl (ch_mapset (enc := i64) Tryz.runUnderlying113 Tryz.runUnderlying52 rfl rfl rfl rfl) .free rfl ?_
          rintro _ _ rfl
          refine p_nil ?_; refine go_sub (σ' := [(9, _), (4, _)]) ⟨rfl, rfl, trivial⟩ ?_; refine g_seq ?_; refine g_region ?_; refine kPm rfl rfl ?_; refine kPa rfl rfl ?_; refine p_nil ?_; refine g_ret ?_
          exact ret_tmp Tryz.results105 rfl (fun w hh => ⟨_, ⟨_, _, by rw [hcp, hinv, show ((s.objOf S.c S.b v).1.1 + 1).toNat - i = 0 by omega]; rfl, rfl, rfl⟩, col_holds (S := { S with free := S.free + ((s.objOf S.c S.b v).1.1 + 1), went := mset S.went v S.free }) hrsv htsv (hh.dp [0])⟩)

end Go.Proofs.YtbfheafpecgphaaGreat
