/- Iterators: rounds over a list of items. Conditions: none. -/
import Derived.Test.YtbfheafpecgphaaGreatLin
import Derived.Test.YtbfheafpecgphaaGreatSlk
set_option linter.unusedSimpArgs false
set_option linter.unusedVariables false
set_option linter.unnecessarySimpa false
set_option linter.unusedSectionVars false
namespace Go.Proofs.YtbfheafpecgphaaGreat
set_option linter.unusedSimpArgs false
set_option linter.unusedVariables false
open Go
/-- Rounds over items: what a round comes to, whether it goes on. -/
def itl {α ι : Type} (st : α → ι → Bool × ι) : List α → ι → Bool × ι
  | [], x => (true, x)
  | a :: t, x => if (st a x).1 = true then itl st t (st a x).2 else (false, (st a x).2)
/-- The loop's record after rounds. -/
def lst {ι : Type} (r : Loop) (cd : ι → Code) (y : Bool × ι) : Loop := if y.1 = true then r else { r with state := .done, pending := some (cd y.2) }

theorem onames_ok (B : World) (H : List HP) (o : Obj3) (bd : Nat) :
    ∀ w, Holds B H w → Calls Tryz.prog 129 [objV o, ptr bd].toArray w (Ret B (fun v H' => ∃ b1 b2, v = .func (.func 142) [].toArray [ptr b1, ptr b2].toArray ∧ H' = row b2 [ptr bd] 28 :: row b1 [i64 o.1, i64 o.2.1, i64 o.2.2] 89 :: H) (fun _ _ => False)) := by
  refine fn_enter Tryz.func129 rfl Tryz.ntmps129 rfl ?_; refine g_seq ?_; refine g_region ?_; refine p_chg rfl (ch_boxA rfl) .free rfl rfl ?_
  rintro _ _ ⟨b2, rfl, rfl⟩
  refine p_chg rfl (ch_box1 rfl rfl) .free rfl rfl ?_
  rintro _ _ ⟨b3, rfl, rfl⟩
  refine kPa rfl rfl ?_; refine p_nil ?_; refine g_seq ?_; refine g_region ?_; refine kPv (ev_mkf rfl rfl) rfl ?_; refine kPa rfl rfl ?_; refine p_nil ?_; refine g_ret ?_
  exact ret_tmp Tryz.results129 rfl (fun w hw => ⟨_, ⟨_, _, rfl, rfl⟩, hw⟩)

theorem onam1_ok (B : World) (l f b1 b2 bd : Nat) (o : Obj3) (ho : ObjW o) (s : Dev) (ι : Type) (r : Loop) (hrf : r.fn = f) (hrp : r.params.size = 2) (I : ι → Prop) (Hx : ι → List HP) (cd : ι → Code) (st : (Int × Int) → ι → Bool × ι) (x0 : ι) (h0 : I x0) (hround : ∀ (p : Int × Int) (x : ι), I x → I (st p x).2 ∧ ∀ w, Holds B (blk l (.loop r) :: row b2 [ptr bd] 28 :: row b1 [i64 o.1, i64 o.2.1, i64 o.2.2] 89 :: DevA bd s :: Hx x) w → RoundIn (Wd (cxF f)) 0 Tryz.prog l f ((r.params.zip [i64 p.1, i64 p.2].toArray).foldl (fun tmps (t, a) => tmps.setIfInBounds t a) r.tmps) r.assign r.body w (Ret B (fun rv H' => rv = .bool (st p x).1 ∧ H' = blk l (.loop (lst r cd (st p x))) :: row b2 [ptr bd] 28 :: row b1 [i64 o.1, i64 o.2.1, i64 o.2.2] 89 :: DevA bd s :: Hx (st p x).2) (fun _ _ => False))) :
    ∀ w, Holds B (blk l (.loop r) :: row b2 [ptr bd] 28 :: row b1 [i64 o.1, i64 o.2.1, i64 o.2.2] 89 :: DevA bd s :: Hx x0) w → Calls Tryz.prog 142 [.func (.yield l) #[] #[], ptr b1, ptr b2].toArray w (Ret B (fun _ H' => I (itl st (s.objNames o o.2.1.toNat 0) x0).2 ∧ H' = blk l (.loop (lst r cd (itl st (s.objNames o o.2.1.toNat 0) x0))) :: row b2 [ptr bd] 28 :: row b1 [i64 o.1, i64 o.2.1, i64 o.2.2] 89 :: DevA bd s :: Hx (itl st (s.objNames o o.2.1.toNat 0) x0).2) (fun _ _ => False)) := by
  refine fn_enter Tryz.func142 rfl Tryz.ntmps142 rfl ?_
  have ho1 := ho.w
  have ho2 := ho.r
  have ho3 := ho.at_
  refine g_seq ?_; refine g_region ?_; refine kPv (ev_fa (m := _) fa_89_0 rfl rfl) rfl ?_; refine kPv (ev_fa (m := _) fa_87_1 rfl rfl) rfl ?_; refine kPv (ev_load Tryz.isAgg3 rfl rfl) rfl ?_; refine kPm rfl rfl ?_; refine p_nil ?_; refine g_block ?_
  refine g_loop (ι := Nat × ι) (fun i => (i.1 : Int) ≤ o.2.1 ∧ I i.2 ∧ itl st (s.objNames o o.2.1.toNat 0) x0 = itl st (s.objNames o (o.2.1.toNat - i.1) i.1) i.2) (fun i => [(0, .func (.yield l) #[] #[]), (1, ptr b1), (2, ptr b2), (8, i64 o.2.1), (9, i64 i.1)]) (fun i => blk l (.loop r) :: row b2 [ptr bd] 28 :: row b1 [i64 o.1, i64 o.2.1, i64 o.2.2] 89 :: DevA bd s :: Hx i.2) (fun i => o.2.1.toNat - i.1) (0, x0) ⟨by simp only; omega, h0, rfl⟩ (fun a w st => st.to ⟨rfl, rfl, rfl, rfl, rfl, trivial⟩ id) ?_
  rintro ⟨k, x⟩ ⟨hk1, hIx, hinv⟩
  simp only at hk1 hIx hinv ⊢
  refine g_seq ?_; refine g_region ?_; refine kPv (ev_cmp rfl rfl rfl) rfl ?_; refine p_nil ?_; refine g_seq ?_
  refine g_if rfl (fun h10 => ?_) (fun h10 => ?_)
  · have hk : (k : Int) < o.2.1 := by simpa using h10
    refine g_skip ?_; refine g_seq ?_; refine g_block ?_; refine g_seq ?_; refine g_region ?_; refine kPm rfl rfl ?_; refine kPa rfl rfl ?_; refine p_nil ?_; refine g_seq ?_; refine g_region ?_; refine kPv (ev_load Tryz.isAgg28 rfl rfl) rfl ?_; refine kPv (ev_fa (m := _) fa_89_1 rfl rfl) rfl ?_; refine kPv (ev_load Tryz.isAgg3 rfl rfl) rfl ?_
    first | refine p_val rfl (ev_add rfl rfl (wr64 (by omega))) .free rfl rfl ?_ | refine p_val rfl (ev_add rfl rfl rfl) .free rfl rfl ?_
    refine kPm rfl rfl ?_
    first | refine p_val rfl (ev_add rfl rfl (wr64 (by omega))) .free rfl rfl ?_ | refine p_val rfl (ev_add rfl rfl rfl) .free rfl rfl ?_
    refine p_callq rfl (en_f Tryz.call72 rfl) (ro_at (q := DevA) (fun Fr => nload_ok _ Fr _ _ _)) .free rfl rfl ?_
    first | refine p_val rfl (ev_conv Tryz.runUnderlying52 Tryz.runUnderlying3 rfl (wr64 (by omega))) .free rfl rfl ?_ | refine p_val rfl (ev_conv Tryz.runUnderlying52 Tryz.runUnderlying3 rfl rfl) .free rfl rfl ?_
    refine kPa rfl rfl ?_; refine p_nil ?_; refine go_sub (σ' := [(5, _), (4, _), (9, _), (8, _), (0, _), (1, _), (2, _)]) ⟨rfl, rfl, rfl, rfl, rfl, rfl, rfl, trivial⟩ ?_; refine g_seq ?_
    rcases Bool.eq_false_or_eq_true (((IntKind.i64.wrap (s.load (o.2.2 + 1 + (k : Int)))) != 0)) with hs4 | hs4
    · skip
      have hto : (IntKind.i64.wrap (s.load (o.2.2 + 1 + (k : Int)))) ≠ 0 := by simpa using hs4
      have hnm : s.objNames o (o.2.1.toNat - k) k = ((k : Int), (IntKind.i64.wrap (s.load (o.2.2 + 1 + (k : Int))))) :: s.objNames o (o.2.1.toNat - (k + 1)) ((k : Int) + 1) := by
        rw [show o.2.1.toNat - k = (o.2.1.toNat - (k + 1)) + 1 by omega]
        simp only [Dev.objNames]
        rw [if_pos hto]
      refine g_region ?_; refine kPm rfl rfl ?_; refine kPv (ev_cmp rfl rfl rfl) rfl ?_; refine kPm rfl rfl ?_; refine p_val rfl (ev_move rfl) (.on rfl rfl (beq_eq hs4)) rfl rfl ?_; refine p_val rfl (ev_move rfl) (.on rfl rfl (beq_eq hs4)) rfl rfl ?_; refine p_val rfl (ev_move rfl) (.on rfl rfl (beq_eq hs4)) rfl rfl ?_
      refine p_yield (f := f) rfl rfl (fun w hw => hw) (by rw [hrp]; rfl) hrf (hround ((k : Int), (IntKind.i64.wrap (s.load (o.2.2 + 1 + (k : Int))))) x hIx).2 (.on rfl rfl (beq_eq hs4)) rfl ?_ ?_
      rotate_left
      · rintro _ _ ⟨⟩
      rintro _ _ ⟨rfl, rfl⟩
      refine p_val rfl (ev_not rfl) (.on rfl rfl (beq_eq hs4)) rfl rfl ?_; refine kPv (ev_pick_t rfl hs4 rfl) rfl ?_; refine p_nil ?_; refine go_sub (σ' := [(28, _), (9, _), (8, _), (0, _), (1, _), (2, _)]) ⟨rfl, rfl, rfl, rfl, rfl, rfl, trivial⟩ ?_
      refine g_if rfl (fun h28 => ?_) (fun h28 => ?_)
      · have hg : (st ((k : Int), (IntKind.i64.wrap (s.load (o.2.2 + 1 + (k : Int))))) x).1 = false := by simpa using h28
        have hres : itl st (s.objNames o o.2.1.toNat 0) x0 = st ((k : Int), (IntKind.i64.wrap (s.load (o.2.2 + 1 + (k : Int))))) x := by rw [hinv, hnm]; simp only [itl]; rw [if_neg (by rw [hg]; decide)]; exact Prod.ext hg.symm rfl
        refine g_ret ?_
        exact ret_none Tryz.results142 (fun w hh => ⟨_, ⟨by rw [hres]; exact (hround ((k : Int), (IntKind.i64.wrap (s.load (o.2.2 + 1 + (k : Int))))) x hIx).1, by rw [hres]⟩, hh⟩)
      · have hg : (st ((k : Int), (IntKind.i64.wrap (s.load (o.2.2 + 1 + (k : Int))))) x).1 = true := by simpa using h28
        have hlr : lst r cd (st ((k : Int), (IntKind.i64.wrap (s.load (o.2.2 + 1 + (k : Int))))) x) = r := by unfold lst; rw [if_pos hg]
        refine g_skip ?_; refine g_region ?_
        first | refine p_val rfl (ev_add rfl rfl (wr64 (by omega))) .free rfl rfl ?_ | refine p_val rfl (ev_add rfl rfl rfl) .free rfl rfl ?_
        refine kPm rfl rfl ?_; refine p_nil ?_
        exact fun a w st_ => ⟨(k + 1, (st ((k : Int), (IntKind.i64.wrap (s.load (o.2.2 + 1 + (k : Int))))) x).2), ⟨by simp only; omega, (hround ((k : Int), (IntKind.i64.wrap (s.load (o.2.2 + 1 + (k : Int))))) x hIx).1, by rw [hinv, hnm]; simp only [itl]; rw [if_pos hg]; rfl⟩, by simp only; omega, st_.to ⟨rfl, rfl, rfl, rfl, rfl, trivial⟩ (fun hh => by rw [hlr] at hh; exact hh)⟩
    · skip
      have hto : (IntKind.i64.wrap (s.load (o.2.2 + 1 + (k : Int)))) = 0 := by simpa using hs4
      have hnm : s.objNames o (o.2.1.toNat - k) k = s.objNames o (o.2.1.toNat - (k + 1)) ((k : Int) + 1) := by
        rw [show o.2.1.toNat - k = (o.2.1.toNat - (k + 1)) + 1 by omega]
        simp only [Dev.objNames]
        rw [if_neg (by omega)]
      refine g_region ?_; refine kPm rfl rfl ?_; refine kPv (ev_cmp rfl rfl rfl) rfl ?_; refine kPm rfl rfl ?_; refine p_skip rfl (.on rfl rfl (beq_ne hs4)) rfl ?_; refine p_skip rfl (.on rfl rfl (beq_ne hs4)) rfl ?_; refine p_skip rfl (.on rfl rfl (beq_ne hs4)) rfl ?_; refine p_skip rfl (.on rfl rfl (beq_ne hs4)) rfl ?_; refine p_skip rfl (.on rfl rfl (beq_ne hs4)) rfl ?_; refine kPv (ev_pick_f rfl hs4 rfl) rfl ?_; refine p_nil ?_
      refine go_sub (σ' := [(28, _), (9, _), (8, _), (0, _), (1, _), (2, _)]) ⟨rfl, rfl, rfl, rfl, rfl, rfl, trivial⟩ ?_; refine g_iff rfl (rfl) ?_; refine g_skip ?_; refine g_region ?_
      first | refine p_val rfl (ev_add rfl rfl (wr64 (by omega))) .free rfl rfl ?_ | refine p_val rfl (ev_add rfl rfl rfl) .free rfl rfl ?_
      refine kPm rfl rfl ?_; refine p_nil ?_
      exact fun a w st_ => ⟨(k + 1, x), ⟨by simp only; omega, hIx, by rw [hinv, hnm]; rfl⟩, by simp only; omega, st_.to ⟨rfl, rfl, rfl, rfl, rfl, trivial⟩ id⟩
  · have hk : ¬ (k : Int) < o.2.1 := by simpa using h10
    refine g_exit ?_
    exact end_none Tryz.results142 (fun w hh => ⟨_, ⟨by rw [hinv, show o.2.1.toNat - k = 0 by omega]; exact hIx, by rw [hinv, show o.2.1.toNat - k = 0 by omega]; rfl⟩, hh⟩)


theorem itl1 {α ι : Type} {st : α → ι → Bool × ι} {a : α} {x : ι} : itl st [a] x = st a x := by
  simp only [itl]
  split
  · rename_i h; exact Prod.ext h.symm rfl
  · rename_i h; exact Prod.ext (Bool.eq_false_iff.2 h).symm rfl
theorem itl0 {α ι : Type} {st : α → ι → Bool × ι} {a : α} {t : List α} {x : ι} (h : (st a x).1 = false) : itl st (a :: t) x = st a x := by
  simp only [itl]
  rw [if_neg (by rw [h]; decide)]
  exact Prod.ext h.symm rfl
theorem objOf_b {s : Dev} {c : Cfg} {b : Blk} {a : Int} : 0 ≤ (s.objOf c b a).1.1 ∧ (s.objOf c b a).1.1 ≤ 64 := by
  have h := unp_b (s.load a)
  unfold Dev.objOf
  split
  · decide
  split
  · decide
  · exact ⟨h.1, h.2.1⟩
theorem objW0 {a : Int} (h : 0 ≤ a ∧ a ≤ 1000000) : ObjW (0, 0, a) := ⟨⟨Int.le_refl 0, (by decide : (0 : Int) ≤ 64)⟩, ⟨Int.le_refl 0, Int.le_refl 0⟩, h⟩
theorem objs_end {s : Dev} {c : Cfg} {b : Blk} {at_ : Int} (h : b.place c b.used ≤ at_) : ∀ f, s.objs c b f at_ = []
  | 0 => rfl
  | f + 1 => by simp only [Dev.objs]; rw [if_pos h]

theorem wobjs_ok (B : World) (H : List HP) (bd : Nat) (c : Cfg) (b : Blk) (sv : Value) (hsv : cell1 sv = true) :
    ∀ w, Holds B H w → Calls Tryz.prog 83 [ptr bd, cfgV c, blkV b sv].toArray w (Ret B (fun v H' => ∃ b3 b4 b5, v = .func (.func 109) [].toArray [ptr b5, ptr b4, ptr b3].toArray ∧ H' = row b5 [i64 b.act, i64 b.used, sv] 33 :: row b4 [i64 c.log, i64 c.roots, i64 c.space] 30 :: row b3 [ptr bd] 28 :: H) (fun _ _ => False)) := by
  refine fn_enter Tryz.func83 rfl Tryz.ntmps83 rfl ?_; refine g_seq ?_; refine g_region ?_; refine p_chg rfl (ch_box1 rfl rfl) .free rfl rfl ?_
  rintro _ _ ⟨b3, rfl, rfl⟩
  refine p_chg rfl (ch_boxA rfl) .free rfl rfl ?_
  rintro _ _ ⟨b4, rfl, rfl⟩
  refine p_chg rfl (ch_boxA rfl) .free rfl rfl ?_
  rintro _ _ ⟨b5, rfl, rfl⟩
  refine kPa rfl rfl ?_; refine p_nil ?_; refine g_seq ?_; refine g_region ?_; refine kPv (ev_mkf rfl rfl) rfl ?_; refine kPa rfl rfl ?_; refine p_nil ?_; refine go_sub (σ' := [(6, _)]) ⟨rfl, trivial⟩ ?_; refine g_ret ?_
  exact ret_tmp Tryz.results83 rfl (fun w hw => ⟨_, ⟨_, _, _, rfl, rfl⟩, hw⟩)

theorem wobj1_ok (B : World) (E : List HP) (l f b3 b4 b5 bd : Nat) (c : Cfg) (hc : CfgW c) (b : Blk) (sv : Value) (hb : BlkW c b) (hsv : cell1 sv = true) (s : Dev) (ι : Type) (r : Loop) (hrf : r.fn = f) (hrp : r.params.size = 2) (I : ι → Prop) (Hx : ι → List HP) (cd : ι → Code) (st : (Obj3 × Int) → ι → Bool × ι) (x0 : ι) (h0 : I x0) (hround : ∀ (p : Obj3 × Int) (x : ι), ObjW p.1 → I x → I (st p x).2 ∧ ∀ (E : List HP) w, Holds B (blk l (.loop r) :: row b5 [i64 b.act, i64 b.used, sv] 33 :: row b4 [i64 c.log, i64 c.roots, i64 c.space] 30 :: row b3 [ptr bd] 28 :: DevA bd s :: (Hx x ++ E)) w → RoundIn (Wd (cxF f)) 0 Tryz.prog l f ((r.params.zip [objV p.1, i64 p.2].toArray).foldl (fun tmps (t, a) => tmps.setIfInBounds t a) r.tmps) r.assign r.body w (Ret B (fun rv H' => rv = .bool (st p x).1 ∧ H' = blk l (.loop (lst r cd (st p x))) :: row b5 [i64 b.act, i64 b.used, sv] 33 :: row b4 [i64 c.log, i64 c.roots, i64 c.space] 30 :: row b3 [ptr bd] 28 :: DevA bd s :: (Hx (st p x).2 ++ E)) (fun _ _ => False))) :
    ∀ w, Holds B (blk l (.loop r) :: row b5 [i64 b.act, i64 b.used, sv] 33 :: row b4 [i64 c.log, i64 c.roots, i64 c.space] 30 :: row b3 [ptr bd] 28 :: DevA bd s :: (Hx x0 ++ E)) w → Calls Tryz.prog 109 [.func (.yield l) #[] #[], ptr b5, ptr b4, ptr b3].toArray w (Ret B (fun _ H' => I (itl st (s.objs c b (b.used.toNat + 1) (b.place c 0)) x0).2 ∧ H' = blk l (.loop (lst r cd (itl st (s.objs c b (b.used.toNat + 1) (b.place c 0)) x0))) :: row b5 [i64 b.act, i64 b.used, sv] 33 :: row b4 [i64 c.log, i64 c.roots, i64 c.space] 30 :: row b3 [ptr bd] 28 :: DevA bd s :: (Hx (itl st (s.objs c b (b.used.toNat + 1) (b.place c 0)) x0).2 ++ E)) (fun _ _ => False)) := by
  refine fn_enter Tryz.func109 rfl Tryz.ntmps109 rfl ?_
  have hb1 := hb.act
  have hb2 := hb.used
  have hcs := hc.s2
  have hfb := frm_b hc (k := b.act) (by omega)
  have hpl := place_b hc hb hb2
  have hp0 : b.place c 0 = c.frm b.act + 0 := rfl
  have hp1 : b.place c b.used = c.frm b.act + b.used := rfl
  refine g_seq ?_; refine g_draw Tryz.mixed (by kernel_rfl) (by kernel_rfl) ?_; refine kQv (ev_loadA Tryz.isAgg33 Tryz.sizeOf33 rfl rfl) rfl ?_; refine kQv (ev_loadA Tryz.isAgg30 Tryz.sizeOf30 rfl rfl) rfl ?_; refine q_call rfl (en_f Tryz.call94 rfl) (place_ok _ _ c hc b sv hb hsv _ (by omega)) .free rfl ?_; refine kQv (ev_loadA Tryz.isAgg33 Tryz.sizeOf33 rfl rfl) rfl ?_; refine kQv (ev_loadA Tryz.isAgg30 Tryz.sizeOf30 rfl rfl) rfl ?_; refine kQv (ev_fa (m := _) fa_33_1 rfl rfl) rfl ?_
  refine kQv (ev_load Tryz.isAgg3 rfl rfl) rfl ?_; refine q_call rfl (en_f Tryz.call94 rfl) (place_ok _ _ c hc b sv hb hsv _ (by omega)) .free rfl ?_; refine kQa rfl rfl ?_; refine kQa rfl rfl ?_; refine q_nil ?_; refine go_sub (σ' := [(6, _), (5, _), (0, _), (1, _), (2, _), (3, _)]) ⟨rfl, rfl, rfl, rfl, rfl, rfl, trivial⟩ ?_; refine g_block ?_
  refine g_loop (ι := Int × Nat × ι) (fun i => I i.2.2 ∧ (0 ≤ i.1 ∧ i.1 ≤ 100000) ∧ b.place c b.used - i.1 < i.2.1 ∧ itl st (s.objs c b (b.used.toNat + 1) (b.place c 0)) x0 = itl st (s.objs c b i.2.1 i.1) i.2.2) (fun i => [(0, .func (.yield l) #[] #[]), (1, ptr b5), (2, ptr b4), (3, ptr b3), (5, i64 i.1), (6, i64 (b.place c b.used))]) (fun i => blk l (.loop r) :: row b5 [i64 b.act, i64 b.used, sv] 33 :: row b4 [i64 c.log, i64 c.roots, i64 c.space] 30 :: row b3 [ptr bd] 28 :: DevA bd s :: (Hx i.2.2 ++ E)) (fun i => i.2.1) (b.place c 0, b.used.toNat + 1, x0) ⟨h0, by simp only; omega, by simp only; omega, rfl⟩ (fun a w st => st.to ⟨rfl, rfl, rfl, rfl, rfl, rfl, trivial⟩ id) ?_
  rintro ⟨a, n, x⟩ ⟨hIx, ha1, ha2, hinv⟩
  simp only at hIx ha1 ha2 hinv ⊢
  refine g_seq ?_; refine g_seq ?_; refine g_region ?_; refine kPm rfl rfl ?_; refine kPm rfl rfl ?_; refine kPv (ev_cmp rfl rfl rfl) rfl ?_; refine p_nil ?_
  refine g_if rfl (fun h19 => ?_) (fun h19 => ?_)
  · have hk : a < b.place c b.used := by simpa using h19
    obtain ⟨n, rfl⟩ : ∃ m, n = m + 1 := ⟨n - 1, by omega⟩
    refine g_skip ?_; refine g_block ?_; refine g_seq ?_; refine g_region ?_; refine kPv (ev_load Tryz.isAgg28 rfl rfl) rfl ?_; refine kPv (ev_loadA Tryz.isAgg30 Tryz.sizeOf30 rfl rfl) rfl ?_; refine kPv (ev_loadA Tryz.isAgg33 Tryz.sizeOf33 rfl rfl) rfl ?_; refine kPm rfl rfl ?_; refine p_callq rfl (en_f Tryz.call51 rfl) (ro_at (q := DevA) (fun Fr => obj_ok _ Fr _ _ c hc b sv hb hsv a (by omega))) .free rfl rfl ?_; refine kPm rfl rfl ?_; refine kPv (ev_ext rfl rfl) rfl ?_
    refine kPv (ev_ext rfl rfl) rfl ?_; refine p_chg rfl (ch_allocA Tryz.zeroValue89 rfl) .free rfl rfl ?_
    rintro _ _ ⟨b7, rfl, rfl⟩
    refine p_chg0 rfl (ch_storeA (vs := _) Tryz.sizeOf89 rfl rfl rfl rfl rfl) .free rfl ?_
    rintro _ _ rfl
    refine kPa rfl rfl ?_; refine p_nil ?_; refine go_sub (σ' := [(8, _), (7, _), (6, _), (5, _), (0, _), (1, _), (2, _), (3, _)]) ⟨rfl, rfl, rfl, rfl, rfl, rfl, rfl, rfl, trivial⟩ ?_; refine g_seq ?_; refine g_seq ?_; refine g_region ?_; refine kPm rfl rfl ?_; refine kPv (ev_cmp rfl rfl rfl) rfl ?_; refine p_nil ?_
    refine g_if rfl (fun h29 => ?_) (fun h29 => ?_)
    · have he : (s.objOf c b a).2 ≠ 0 := by simpa using h29
      have hob : s.objs c b (n + 1) a = [((0, 0, a), (s.objOf c b a).2)] := by
        simp only [Dev.objs]
        rw [if_neg (by omega), if_pos he]
      have ho1 : 0 ≤ (s.objOf c b a).1.1 ∧ (s.objOf c b a).1.1 ≤ 64 := objOf_b
      refine g_region ?_; refine kPm rfl rfl ?_; refine kPv (ev_build rfl (bld_89_1 _ rfl)) rfl ?_; refine p_chg0 rfl (ch_storeA (vs := _) Tryz.sizeOf89 rfl rfl rfl rfl rfl) .free rfl ?_
      rintro _ _ rfl
      refine p_nil ?_; refine g_seq ?_; refine g_seq ?_; refine g_region ?_; refine kPm rfl rfl ?_; refine kPv (ev_loadA Tryz.isAgg89 Tryz.sizeOf89 rfl rfl) rfl ?_; refine kPm rfl rfl ?_
      first | refine p_yield (f := f) (r := r) (H1 := row b5 [i64 b.act, i64 b.used, sv] 33 :: row b4 [i64 c.log, i64 c.roots, i64 c.space] 30 :: row b3 [ptr bd] 28 :: DevA bd s :: (Hx x ++ (row b7 [i64 (s.objOf c b a).1.1, i64 (s.objOf c b a).1.2.1, i64 (s.objOf c b a).1.2.2] 89 :: E))) rfl rfl (fun w hh => hh.perm (List.perm_middle (l₁ := blk l (.loop r) :: row b5 [i64 b.act, i64 b.used, sv] 33 :: row b4 [i64 c.log, i64 c.roots, i64 c.space] 30 :: row b3 [ptr bd] 28 :: DevA bd s :: Hx x)).symm) (by rw [hrp]; rfl) hrf ((hround (s.objOf c b a) x (objOf_w hc hb he) hIx).2 (row b7 [i64 (s.objOf c b a).1.1, i64 (s.objOf c b a).1.2.1, i64 (s.objOf c b a).1.2.2] 89 :: E)) .free rfl ?_ ?_ | refine p_yield (f := f) (r := r) (H1 := row b5 [i64 b.act, i64 b.used, sv] 33 :: row b4 [i64 c.log, i64 c.roots, i64 c.space] 30 :: row b3 [ptr bd] 28 :: DevA bd s :: (Hx x ++ (row b7 [i64 0, i64 0, i64 a] 89 :: E))) rfl rfl (fun w hh => hh.perm (List.perm_middle (l₁ := blk l (.loop r) :: row b5 [i64 b.act, i64 b.used, sv] 33 :: row b4 [i64 c.log, i64 c.roots, i64 c.space] 30 :: row b3 [ptr bd] 28 :: DevA bd s :: Hx x)).symm) (by rw [hrp]; rfl) hrf ((hround ((0, 0, a), (s.objOf c b a).2) x (objW0 (by omega)) hIx).2 (row b7 [i64 0, i64 0, i64 a] 89 :: E)) .free rfl ?_ ?_
      rotate_left
      · rintro _ _ ⟨⟩
      rintro _ _ ⟨rfl, rfl⟩
      first | refine go_conv (H' := row b7 [i64 (s.objOf c b a).1.1, i64 (s.objOf c b a).1.2.1, i64 (s.objOf c b a).1.2.2] 89 :: blk l (.loop (lst r cd (st (s.objOf c b a) x))) :: row b5 [i64 b.act, i64 b.used, sv] 33 :: row b4 [i64 c.log, i64 c.roots, i64 c.space] 30 :: row b3 [ptr bd] 28 :: DevA bd s :: (Hx (st (s.objOf c b a) x).2 ++ E)) (fun w hh => hh.perm (List.perm_middle (l₁ := blk l (.loop (lst r cd (st (s.objOf c b a) x))) :: row b5 [i64 b.act, i64 b.used, sv] 33 :: row b4 [i64 c.log, i64 c.roots, i64 c.space] 30 :: row b3 [ptr bd] 28 :: DevA bd s :: Hx (st (s.objOf c b a) x).2))) ?_ | refine go_conv (H' := row b7 [i64 0, i64 0, i64 a] 89 :: blk l (.loop (lst r cd (st ((0, 0, a), (s.objOf c b a).2) x))) :: row b5 [i64 b.act, i64 b.used, sv] 33 :: row b4 [i64 c.log, i64 c.roots, i64 c.space] 30 :: row b3 [ptr bd] 28 :: DevA bd s :: (Hx (st ((0, 0, a), (s.objOf c b a).2) x).2 ++ E)) (fun w hh => hh.perm (List.perm_middle (l₁ := blk l (.loop (lst r cd (st ((0, 0, a), (s.objOf c b a).2) x))) :: row b5 [i64 b.act, i64 b.used, sv] 33 :: row b4 [i64 c.log, i64 c.roots, i64 c.space] 30 :: row b3 [ptr bd] 28 :: DevA bd s :: Hx (st ((0, 0, a), (s.objOf c b a).2) x).2))) ?_
      refine kPv (ev_not rfl) rfl ?_; refine kPm rfl rfl ?_
      apply p_or (tp := 40) (t := 37) (σ1 := [(37, _), (7, _), (6, _), (5, _), (0, _), (1, _), (2, _), (3, _)]) 3 rfl ⟨rfl, rfl, rfl, rfl, rfl, rfl, rfl, rfl, trivial⟩
      · intro hg1
        refine p_val rfl (ev_move rfl) (.on rfl rfl (beq_eq hg1)) rfl rfl ?_; refine p_val rfl (ev_cmp rfl rfl rfl) (.on rfl rfl (beq_eq hg1)) rfl rfl ?_; refine kPv (ev_pick_f rfl hg1 rfl) rfl ?_
        exact p_seg rfl ⟨rfl, rfl, rfl, rfl, rfl, rfl, rfl, rfl, trivial⟩ (or_f hg1)
      · intro hg1
        refine p_skip rfl (.on rfl rfl (beq_ne hg1)) rfl ?_; refine p_skip rfl (.on rfl rfl (beq_ne hg1)) rfl ?_; refine kPv (ev_pick_t rfl hg1 rfl) rfl ?_
        exact p_seg rfl ⟨rfl, rfl, rfl, rfl, rfl, rfl, rfl, rfl, trivial⟩ (or_t hg1)
      refine p_nil ?_
      refine g_if rfl (fun h40 => ?_) (fun h40 => ?_)
      · try simp only [decide_eq_true_eq, decide_eq_false_iff_not, Bool.not_eq_true', Bool.not_eq_false', Bool.or_eq_true, Bool.and_eq_true, Bool.and_eq_false_iff, Bool.or_eq_false_iff, beq_iff_eq, bne_iff_ne, beq_eq_false_iff_ne, bne_eq_false_iff_eq, ge_iff_le, gt_iff_lt, ne_eq] at h40
        refine g_ret ?_
        exact ret_none Tryz.results109 (fun w hh => ⟨_, ⟨by rw [hinv, hob, itl1]; exact (hround ((0, 0, a), (s.objOf c b a).2) x (objW0 (by omega)) hIx).1, by rw [hinv, hob, itl1]⟩, hh.tail⟩)
      · have h40' := h40
        have hg : (st (s.objOf c b a) x).1 = true ∨ (s.objOf c b a).2 ≠ 0 := by first | exact .inr he | (left; simpa [he] using h40)
        have hlr : (st (s.objOf c b a) x).1 = true → lst r cd (st (s.objOf c b a) x) = r := fun hg => by unfold lst; rw [if_pos hg]
        refine g_skip ?_; refine g_region ?_; refine kPm rfl rfl ?_; refine kPv (ev_fa (m := _) fa_89_0 rfl rfl) rfl ?_; refine kPv (ev_loadA Tryz.isAgg87 Tryz.sizeOf87 rfl rfl) rfl ?_; refine p_callq rfl (en_f Tryz.call52 rfl) (hsize_ok _ _ _ _ (by omega)) .free rfl rfl ?_
        first | refine p_val rfl (ev_add rfl rfl (wr64 (by omega))) .free rfl rfl ?_ | refine p_val rfl (ev_add rfl rfl rfl) .free rfl rfl ?_
        refine kPa rfl rfl ?_; refine p_nil ?_; refine go_sub (σ' := [(5, _), (6, _), (0, _), (1, _), (2, _), (3, _)]) ⟨rfl, rfl, rfl, rfl, rfl, rfl, trivial⟩ ?_
        exact absurd (by simp at h40; exact h40.2) he
    · have he : (s.objOf c b a).2 = 0 := by simpa using h29
      have hob : s.objs c b (n + 1) a = s.objOf c b a :: s.objs c b n (a + ((s.objOf c b a).1.1 + 1)) := by
        simp only [Dev.objs]
        rw [if_neg (by omega), if_neg (by omega)]
      have ho := objOf_w hc hb he
      have ho1 := ho.w
      have ho2 := ho.r
      have ho3 := ho.at_
      refine g_skip ?_; refine g_seq ?_; refine g_seq ?_; refine g_region ?_; refine kPm rfl rfl ?_; refine kPv (ev_loadA Tryz.isAgg89 Tryz.sizeOf89 rfl rfl) rfl ?_; refine kPm rfl rfl ?_
      first | refine p_yield (f := f) (r := r) (H1 := row b5 [i64 b.act, i64 b.used, sv] 33 :: row b4 [i64 c.log, i64 c.roots, i64 c.space] 30 :: row b3 [ptr bd] 28 :: DevA bd s :: (Hx x ++ (row b7 [i64 (s.objOf c b a).1.1, i64 (s.objOf c b a).1.2.1, i64 (s.objOf c b a).1.2.2] 89 :: E))) rfl rfl (fun w hh => hh.perm (List.perm_middle (l₁ := blk l (.loop r) :: row b5 [i64 b.act, i64 b.used, sv] 33 :: row b4 [i64 c.log, i64 c.roots, i64 c.space] 30 :: row b3 [ptr bd] 28 :: DevA bd s :: Hx x)).symm) (by rw [hrp]; rfl) hrf ((hround (s.objOf c b a) x (objOf_w hc hb he) hIx).2 (row b7 [i64 (s.objOf c b a).1.1, i64 (s.objOf c b a).1.2.1, i64 (s.objOf c b a).1.2.2] 89 :: E)) .free rfl ?_ ?_ | refine p_yield (f := f) (r := r) (H1 := row b5 [i64 b.act, i64 b.used, sv] 33 :: row b4 [i64 c.log, i64 c.roots, i64 c.space] 30 :: row b3 [ptr bd] 28 :: DevA bd s :: (Hx x ++ (row b7 [i64 0, i64 0, i64 a] 89 :: E))) rfl rfl (fun w hh => hh.perm (List.perm_middle (l₁ := blk l (.loop r) :: row b5 [i64 b.act, i64 b.used, sv] 33 :: row b4 [i64 c.log, i64 c.roots, i64 c.space] 30 :: row b3 [ptr bd] 28 :: DevA bd s :: Hx x)).symm) (by rw [hrp]; rfl) hrf ((hround ((0, 0, a), (s.objOf c b a).2) x (objW0 (by omega)) hIx).2 (row b7 [i64 0, i64 0, i64 a] 89 :: E)) .free rfl ?_ ?_
      rotate_left
      · rintro _ _ ⟨⟩
      rintro _ _ ⟨rfl, rfl⟩
      first | refine go_conv (H' := row b7 [i64 (s.objOf c b a).1.1, i64 (s.objOf c b a).1.2.1, i64 (s.objOf c b a).1.2.2] 89 :: blk l (.loop (lst r cd (st (s.objOf c b a) x))) :: row b5 [i64 b.act, i64 b.used, sv] 33 :: row b4 [i64 c.log, i64 c.roots, i64 c.space] 30 :: row b3 [ptr bd] 28 :: DevA bd s :: (Hx (st (s.objOf c b a) x).2 ++ E)) (fun w hh => hh.perm (List.perm_middle (l₁ := blk l (.loop (lst r cd (st (s.objOf c b a) x))) :: row b5 [i64 b.act, i64 b.used, sv] 33 :: row b4 [i64 c.log, i64 c.roots, i64 c.space] 30 :: row b3 [ptr bd] 28 :: DevA bd s :: Hx (st (s.objOf c b a) x).2))) ?_ | refine go_conv (H' := row b7 [i64 0, i64 0, i64 a] 89 :: blk l (.loop (lst r cd (st ((0, 0, a), (s.objOf c b a).2) x))) :: row b5 [i64 b.act, i64 b.used, sv] 33 :: row b4 [i64 c.log, i64 c.roots, i64 c.space] 30 :: row b3 [ptr bd] 28 :: DevA bd s :: (Hx (st ((0, 0, a), (s.objOf c b a).2) x).2 ++ E)) (fun w hh => hh.perm (List.perm_middle (l₁ := blk l (.loop (lst r cd (st ((0, 0, a), (s.objOf c b a).2) x))) :: row b5 [i64 b.act, i64 b.used, sv] 33 :: row b4 [i64 c.log, i64 c.roots, i64 c.space] 30 :: row b3 [ptr bd] 28 :: DevA bd s :: Hx (st ((0, 0, a), (s.objOf c b a).2) x).2))) ?_
      refine kPv (ev_not rfl) rfl ?_; refine kPm rfl rfl ?_
      apply p_or (tp := 40) (t := 37) (σ1 := [(37, _), (7, _), (6, _), (5, _), (0, _), (1, _), (2, _), (3, _)]) 3 rfl ⟨rfl, rfl, rfl, rfl, rfl, rfl, rfl, rfl, trivial⟩
      · intro hg2
        refine p_val rfl (ev_move rfl) (.on rfl rfl (beq_eq hg2)) rfl rfl ?_; refine p_val rfl (ev_cmp rfl rfl rfl) (.on rfl rfl (beq_eq hg2)) rfl rfl ?_; refine kPv (ev_pick_f rfl hg2 rfl) rfl ?_
        exact p_seg rfl ⟨rfl, rfl, rfl, rfl, rfl, rfl, rfl, rfl, trivial⟩ (or_f hg2)
      · intro hg2
        refine p_skip rfl (.on rfl rfl (beq_ne hg2)) rfl ?_; refine p_skip rfl (.on rfl rfl (beq_ne hg2)) rfl ?_; refine kPv (ev_pick_t rfl hg2 rfl) rfl ?_
        exact p_seg rfl ⟨rfl, rfl, rfl, rfl, rfl, rfl, rfl, rfl, trivial⟩ (or_t hg2)
      refine p_nil ?_
      refine g_if rfl (fun h40 => ?_) (fun h40 => ?_)
      · try simp only [decide_eq_true_eq, decide_eq_false_iff_not, Bool.not_eq_true', Bool.not_eq_false', Bool.or_eq_true, Bool.and_eq_true, Bool.and_eq_false_iff, Bool.or_eq_false_iff, beq_iff_eq, bne_iff_ne, beq_eq_false_iff_ne, bne_eq_false_iff_eq, ge_iff_le, gt_iff_lt, ne_eq] at h40
        refine g_ret ?_
        exact ret_none Tryz.results109 (fun w hh => ⟨_, ⟨by rw [hinv, hob, itl0 (by simpa [he] using h40)]; exact (hround (s.objOf c b a) x (objOf_w hc hb he) hIx).1, by rw [hinv, hob, itl0 (by simpa [he] using h40)]⟩, hh.tail⟩)
      · have h40' := h40
        have hg : (st (s.objOf c b a) x).1 = true ∨ (s.objOf c b a).2 ≠ 0 := by first | exact .inr he | (left; simpa [he] using h40)
        have hlr : (st (s.objOf c b a) x).1 = true → lst r cd (st (s.objOf c b a) x) = r := fun hg => by unfold lst; rw [if_pos hg]
        refine g_skip ?_; refine g_region ?_; refine kPm rfl rfl ?_; refine kPv (ev_fa (m := _) fa_89_0 rfl rfl) rfl ?_; refine kPv (ev_loadA Tryz.isAgg87 Tryz.sizeOf87 rfl rfl) rfl ?_; refine p_callq rfl (en_f Tryz.call52 rfl) (hsize_ok _ _ _ _ (by omega)) .free rfl rfl ?_
        first | refine p_val rfl (ev_add rfl rfl (wr64 (by omega))) .free rfl rfl ?_ | refine p_val rfl (ev_add rfl rfl rfl) .free rfl rfl ?_
        refine kPa rfl rfl ?_; refine p_nil ?_; refine go_sub (σ' := [(5, _), (6, _), (0, _), (1, _), (2, _), (3, _)]) ⟨rfl, rfl, rfl, rfl, rfl, rfl, trivial⟩ ?_
        exact fun a_ w st_ => ⟨(_, n, (st (s.objOf c b a) x).2), ⟨(hround (s.objOf c b a) x (objOf_w hc hb he) hIx).1, by simp only; omega, by simp only; omega, by rw [hinv, hob]; simp only [itl]; rw [if_pos (hg.resolve_right (by omega))]⟩, by simp only; omega, st_.to ⟨rfl, rfl, rfl, rfl, rfl, rfl, trivial⟩ (fun hh => by have hh := hh.tail; rw [hlr (hg.resolve_right (by omega))] at hh; exact hh)⟩
  · have hk : ¬ a < b.place c b.used := by simpa using h19
    refine g_exit ?_
    exact end_none Tryz.results109 (fun w hh => ⟨_, ⟨by rw [hinv, objs_end (by omega)]; exact hIx, by rw [hinv, objs_end (by omega)]; rfl⟩, hh⟩)

end Go.Proofs.YtbfheafpecgphaaGreat
