/- Part of the texts beneath a law: what its proof names. Conditions: none. -/
import Derived.Test.YtbfheafpecgphaaGreatQL16Mj
set_option linter.unusedSimpArgs false
set_option linter.unusedVariables false
set_option linter.unnecessarySimpa false
set_option linter.unusedSectionVars false
namespace Go.Proofs.YtbfheafpecgphaaGreat
open Go
def itl {α ι : Type} (st : α → ι → Bool × ι) : List α → ι → Bool × ι
  | [], x => (true, x)
  | a :: t, x => if (st a x).1 = true then itl st t (st a x).2 else (false, (st a x).2)
def lst {ι : Type} (r : Loop) (cd : ι → Code) (y : Bool × ι) : Loop := if y.1 = true then r else { r with state := .done, pending := some (cd y.2) }
theorem onames_ok (B : World) (H : List HP) (o : Obj3) (bd : Nat) :
    ∀ w, Holds B H w → Calls Tryz.prog 129 [objV o, ptr bd].toArray w (Ret B (fun v H' => ∃ b1 b2, v = .func (.func 142) [].toArray [ptr b1, ptr b2].toArray ∧ H' = row b2 [ptr bd] 28 :: row b1 [i64 o.1, i64 o.2.1, i64 o.2.2] 89 :: H) (fun _ _ => False)) := by
  refine fn_enter Tryz.func129 rfl Tryz.ntmps129 rfl ?_; refine g_seq ?_; refine g_region ?_; refine p_chg rfl (ch_boxA rfl) .free rfl rfl ?_
  rintro _ _ ⟨b2, rfl, rfl⟩
  refine p_chg rfl (ch_box1 rfl rfl) .free rfl rfl ?_
  rintro _ _ ⟨b3, rfl, rfl⟩
  refine kPa rfl rfl ?_; refine p_nil ?_; refine g_seq ?_; refine g_region ?_; refine kPv (ev_mkf rfl rfl) rfl ?_; refine kPa rfl rfl ?_; refine p_nil ?_; refine g_ret ?_
  exact ret_tmp Tryz.results129 rfl (fun w hw => ⟨_, ⟨_, _, rfl, rfl⟩, hw⟩)
theorem onam1_ok (B : World) (l f b1 b2 bd : Nat) (o : Obj3) (ho : ObjW o) (s : Dev) (ι : Type) (r : Loop) (hrf : r.fn = f) (hrp : r.params.size = 2) (I : ι → Prop) (Hx : ι → List HP) (cd : ι → Code) (st : (Int × Int) → ι → Bool × ι) (x0 : ι) (h0 : I x0) (hround : ∀ (p : Int × Int) (x : ι), I x → I (st p x).2 ∧ ∀ w, Holds B (blk l (.loop r) :: row b2 [ptr bd] 28 :: row b1 [i64 o.1, i64 o.2.1, i64 o.2.2] 89 :: DevA bd s :: Hx x) w → RoundIn (Wd (cxF f)) 0 Tryz.prog l f ((r.params.zip [i64 p.1, i64 p.2].toArray).foldl (fun tmps (t, a) => tmps.setIfInBounds t a) r.tmps) r.assign r.body w (Ret B (fun rv H' => rv = .bool (st p x).1 ∧ H' = blk l (.loop (lst r cd (st p x))) :: row b2 [ptr bd] 28 :: row b1 [i64 o.1, i64 o.2.1, i64 o.2.2] 89 :: DevA bd s :: Hx (st p x).2) (fun _ _ => False))) :
    ∀ w, Holds B (blk l (.loop r) :: row b2 [ptr bd] 28 :: row b1 [i64 o.1, i64 o.2.1, i64 o.2.2] 89 :: DevA bd s :: Hx x0) w → Calls Tryz.prog 142 [.func (.yield l) #[] #[], ptr b1, ptr b2].toArray w (Ret B (fun _ H' => I (itl st (s.objNames o o.2.1.toNat 0) x0).2 ∧ H' = blk l (.loop (lst r cd (itl st (s.objNames o o.2.1.toNat 0) x0))) :: row b2 [ptr bd] 28 :: row b1 [i64 o.1, i64 o.2.1, i64 o.2.2] 89 :: DevA bd s :: Hx (itl st (s.objNames o o.2.1.toNat 0) x0).2) (fun _ _ => False)) := by
  refine fn_enter Tryz.func142 rfl Tryz.ntmps142 rfl ?_
  have ho1 := ho.w
  have ho2 := ho.r
  have ho3 := ho.at_
  refine g_seq ?_; refine g_region ?_; refine kPv (ev_fa (m := _) fa_89_0 rfl rfl) rfl ?_; refine kPv (ev_fa (m := _) fa_87_1 rfl rfl) rfl ?_; refine kPv (ev_load Tryz.isAgg3 rfl rfl) rfl ?_; refine kPm rfl rfl ?_; refine p_nil ?_; refine g_block ?_
  refine g_loop (ι := Nat × ι) (fun i => (i.1 : Int) ≤ o.2.1 ∧ I i.2 ∧ itl st (s.objNames o o.2.1.toNat 0) x0 = itl st (s.objNames o (o.2.1.toNat - i.1) i.1) i.2) (fun i => [(0, .func (.yield l) #[] #[]), (1, ptr b1), (2, ptr b2), (8, i64 o.2.1), (9, i64 i.1)]) (fun i => blk l (.loop r) :: row b2 [ptr bd] 28 :: row b1 [i64 o.1, i64 o.2.1, i64 o.2.2] 89 :: DevA bd s :: Hx i.2) (fun i => o.2.1.toNat - i.1) (0, x0) ⟨by simp only; omega, h0, rfl⟩ (fun a w st => st.to ⟨rfl, rfl, rfl, rfl, rfl, trivial⟩ id) ?_
  rintro ⟨k, x⟩ ⟨hk1, hIx, hinv⟩
  simp only at hk1 hIx hinv ⊢
  refine g_seq ?_; refine g_region ?_; refine kPv (ev_cmp rfl rfl rfl) rfl ?_; refine p_nil ?_; refine g_seq ?_
  refine g_if rfl (fun h10 => ?_) (fun h10 => ?_)
  · have hk : (k : Int) < o.2.1 := by simpa using h10
    refine g_skip ?_; refine g_seq ?_; refine g_block ?_; refine g_seq ?_; refine g_region ?_; refine kPm rfl rfl ?_; refine kPa rfl rfl ?_; refine p_nil ?_; refine g_seq ?_; refine g_region ?_; refine kPv (ev_load Tryz.isAgg28 rfl rfl) rfl ?_; refine kPv (ev_fa (m := _) fa_89_1 rfl rfl) rfl ?_; refine kPv (ev_load Tryz.isAgg3 rfl rfl) rfl ?_
    first | refine p_val rfl (ev_add rfl rfl (wr64 (by omega))) .free rfl rfl ?_ | refine p_val rfl (ev_add rfl rfl rfl) .free rfl rfl ?_
    refine kPm rfl rfl ?_
    first | refine p_val rfl (ev_add rfl rfl (wr64 (by omega))) .free rfl rfl ?_ | refine p_val rfl (ev_add rfl rfl rfl) .free rfl rfl ?_
    refine p_callq rfl (en_f Tryz.call72 rfl) (ro_at (q := DevA) (fun Fr => nload_ok _ Fr _ _ _)) .free rfl rfl ?_
    first | refine p_val rfl (ev_conv Tryz.runUnderlying52 Tryz.runUnderlying3 rfl (wr64 (by omega))) .free rfl rfl ?_ | refine p_val rfl (ev_conv Tryz.runUnderlying52 Tryz.runUnderlying3 rfl rfl) .free rfl rfl ?_
    refine kPa rfl rfl ?_; refine p_nil ?_; refine go_sub (σ' := [(5, _), (4, _), (9, _), (8, _), (0, _), (1, _), (2, _)]) ⟨rfl, rfl, rfl, rfl, rfl, rfl, rfl, trivial⟩ ?_; refine g_seq ?_
    rcases Bool.eq_false_or_eq_true (((IntKind.i64.wrap (s.load (o.2.2 + 1 + (k : Int)))) != 0)) with hs4 | hs4
    · skip
      have hto : (IntKind.i64.wrap (s.load (o.2.2 + 1 + (k : Int)))) ≠ 0 := by simpa using hs4
      have hnm : s.objNames o (o.2.1.toNat - k) k = ((k : Int), (IntKind.i64.wrap (s.load (o.2.2 + 1 + (k : Int))))) :: s.objNames o (o.2.1.toNat - (k + 1)) ((k : Int) + 1) := by
        rw [show o.2.1.toNat - k = (o.2.1.toNat - (k + 1)) + 1 by omega]
        simp only [Dev.objNames]
        rw [if_pos hto]
      refine g_region ?_; refine kPm rfl rfl ?_; refine kPv (ev_cmp rfl rfl rfl) rfl ?_; refine kPm rfl rfl ?_; refine p_val rfl (ev_move rfl) (.on rfl rfl (beq_eq hs4)) rfl rfl ?_; refine p_val rfl (ev_move rfl) (.on rfl rfl (beq_eq hs4)) rfl rfl ?_; refine p_val rfl (ev_move rfl) (.on rfl rfl (beq_eq hs4)) rfl rfl ?_
      refine p_yield (f := f) rfl rfl (fun w hw => hw) (by rw [hrp]; rfl) hrf (hround ((k : Int), (IntKind.i64.wrap (s.load (o.2.2 + 1 + (k : Int))))) x hIx).2 (.on rfl rfl (beq_eq hs4)) rfl ?_ ?_
      rotate_left
      · rintro _ _ ⟨⟩
      rintro _ _ ⟨rfl, rfl⟩
      refine p_val rfl (ev_not rfl) (.on rfl rfl (beq_eq hs4)) rfl rfl ?_; refine kPv (ev_pick_t rfl hs4 rfl) rfl ?_; refine p_nil ?_; refine go_sub (σ' := [(28, _), (9, _), (8, _), (0, _), (1, _), (2, _)]) ⟨rfl, rfl, rfl, rfl, rfl, rfl, trivial⟩ ?_
      refine g_if rfl (fun h28 => ?_) (fun h28 => ?_)
      · have hg : (st ((k : Int), (IntKind.i64.wrap (s.load (o.2.2 + 1 + (k : Int))))) x).1 = false := by simpa using h28
        have hres : itl st (s.objNames o o.2.1.toNat 0) x0 = st ((k : Int), (IntKind.i64.wrap (s.load (o.2.2 + 1 + (k : Int))))) x := by rw [hinv, hnm]; simp only [itl]; rw [if_neg (by rw [hg]; decide)]; exact Prod.ext hg.symm rfl
        refine g_ret ?_
        exact ret_none Tryz.results142 (fun w hh => ⟨_, ⟨by rw [hres]; exact (hround ((k : Int), (IntKind.i64.wrap (s.load (o.2.2 + 1 + (k : Int))))) x hIx).1, by rw [hres]⟩, hh⟩)
      · have hg : (st ((k : Int), (IntKind.i64.wrap (s.load (o.2.2 + 1 + (k : Int))))) x).1 = true := by simpa using h28
        have hlr : lst r cd (st ((k : Int), (IntKind.i64.wrap (s.load (o.2.2 + 1 + (k : Int))))) x) = r := by unfold lst; rw [if_pos hg]
        refine g_skip ?_; refine g_region ?_
        first | refine p_val rfl (ev_add rfl rfl (wr64 (by omega))) .free rfl rfl ?_ | refine p_val rfl (ev_add rfl rfl rfl) .free rfl rfl ?_
        refine kPm rfl rfl ?_; refine p_nil ?_
        exact fun a w st_ => ⟨(k + 1, (st ((k : Int), (IntKind.i64.wrap (s.load (o.2.2 + 1 + (k : Int))))) x).2), ⟨by simp only; omega, (hround ((k : Int), (IntKind.i64.wrap (s.load (o.2.2 + 1 + (k : Int))))) x hIx).1, by rw [hinv, hnm]; simp only [itl]; rw [if_pos hg]; rfl⟩, by simp only; omega, st_.to ⟨rfl, rfl, rfl, rfl, rfl, trivial⟩ (fun hh => by rw [hlr] at hh; exact hh)⟩
    · skip
      have hto : (IntKind.i64.wrap (s.load (o.2.2 + 1 + (k : Int)))) = 0 := by simpa using hs4
      have hnm : s.objNames o (o.2.1.toNat - k) k = s.objNames o (o.2.1.toNat - (k + 1)) ((k : Int) + 1) := by
        rw [show o.2.1.toNat - k = (o.2.1.toNat - (k + 1)) + 1 by omega]
        simp only [Dev.objNames]
        rw [if_neg (by omega)]
      refine g_region ?_; refine kPm rfl rfl ?_; refine kPv (ev_cmp rfl rfl rfl) rfl ?_; refine kPm rfl rfl ?_; refine p_skip rfl (.on rfl rfl (beq_ne hs4)) rfl ?_; refine p_skip rfl (.on rfl rfl (beq_ne hs4)) rfl ?_; refine p_skip rfl (.on rfl rfl (beq_ne hs4)) rfl ?_; refine p_skip rfl (.on rfl rfl (beq_ne hs4)) rfl ?_; refine p_skip rfl (.on rfl rfl (beq_ne hs4)) rfl ?_; refine kPv (ev_pick_f rfl hs4 rfl) rfl ?_; refine p_nil ?_
      refine go_sub (σ' := [(28, _), (9, _), (8, _), (0, _), (1, _), (2, _)]) ⟨rfl, rfl, rfl, rfl, rfl, rfl, trivial⟩ ?_; refine g_iff rfl (rfl) ?_; refine g_skip ?_; refine g_region ?_
      first | refine p_val rfl (ev_add rfl rfl (wr64 (by omega))) .free rfl rfl ?_ | refine p_val rfl (ev_add rfl rfl rfl) .free rfl rfl ?_
      refine kPm rfl rfl ?_; refine p_nil ?_
      exact fun a w st_ => ⟨(k + 1, x), ⟨by simp only; omega, hIx, by rw [hinv, hnm]; rfl⟩, by simp only; omega, st_.to ⟨rfl, rfl, rfl, rfl, rfl, trivial⟩ id⟩
  · have hk : ¬ (k : Int) < o.2.1 := by simpa using h10
    refine g_exit ?_
    exact end_none Tryz.results142 (fun w hh => ⟨_, ⟨by rw [hinv, show o.2.1.toNat - k = 0 by omega]; exact hIx, by rw [hinv, show o.2.1.toNat - k = 0 by omega]; rfl⟩, hh⟩)
theorem itl1 {α ι : Type} {st : α → ι → Bool × ι} {a : α} {x : ι} : itl st [a] x = st a x := by
  simp only [itl]
  split
  · rename_i h; exact Prod.ext h.symm rfl
  · rename_i h; exact Prod.ext (Bool.eq_false_iff.2 h).symm rfl
theorem itl0 {α ι : Type} {st : α → ι → Bool × ι} {a : α} {t : List α} {x : ι} (h : (st a x).1 = false) : itl st (a :: t) x = st a x := by
  simp only [itl]
  rw [if_neg (by rw [h]; decide)]
  exact Prod.ext h.symm rfl
theorem objOf_b {s : Dev} {c : Cfg} {b : Blk} {a : Int} : 0 ≤ (s.objOf c b a).1.1 ∧ (s.objOf c b a).1.1 ≤ 64 := by
  have h := unp_b (s.load a)
  unfold Dev.objOf
  split
  · decide
  split
  · decide
  · exact ⟨h.1, h.2.1⟩
theorem objW0 {a : Int} (h : 0 ≤ a ∧ a ≤ 1000000) : ObjW (0, 0, a) := ⟨⟨Int.le_refl 0, (by decide : (0 : Int) ≤ 64)⟩, ⟨Int.le_refl 0, Int.le_refl 0⟩, h⟩
theorem objs_end {s : Dev} {c : Cfg} {b : Blk} {at_ : Int} (h : b.place c b.used ≤ at_) : ∀ f, s.objs c b f at_ = []
  | 0 => rfl
  | f + 1 => by simp only [Dev.objs]; rw [if_pos h]
theorem wobjs_ok (B : World) (H : List HP) (bd : Nat) (c : Cfg) (b : Blk) (sv : Value) (hsv : cell1 sv = true) :
    ∀ w, Holds B H w → Calls Tryz.prog 83 [ptr bd, cfgV c, blkV b sv].toArray w (Ret B (fun v H' => ∃ b3 b4 b5, v = .func (.func 109) [].toArray [ptr b5, ptr b4, ptr b3].toArray ∧ H' = row b5 [i64 b.act, i64 b.used, sv] 33 :: row b4 [i64 c.log, i64 c.roots, i64 c.space] 30 :: row b3 [ptr bd] 28 :: H) (fun _ _ => False)) := by
  refine fn_enter Tryz.func83 rfl Tryz.ntmps83 rfl ?_; refine g_seq ?_; refine g_region ?_; refine p_chg rfl (ch_box1 rfl rfl) .free rfl rfl ?_
  rintro _ _ ⟨b3, rfl, rfl⟩
  refine p_chg rfl (ch_boxA rfl) .free rfl rfl ?_
  rintro _ _ ⟨b4, rfl, rfl⟩
  refine p_chg rfl (ch_boxA rfl) .free rfl rfl ?_
  rintro _ _ ⟨b5, rfl, rfl⟩
  refine kPa rfl rfl ?_; refine p_nil ?_; refine g_seq ?_; refine g_region ?_; refine kPv (ev_mkf rfl rfl) rfl ?_; refine kPa rfl rfl ?_; refine p_nil ?_; refine go_sub (σ' := [(6, _)]) ⟨rfl, trivial⟩ ?_; refine g_ret ?_
  exact ret_tmp Tryz.results83 rfl (fun w hw => ⟨_, ⟨_, _, _, rfl, rfl⟩, hw⟩)
theorem wobj1_ok (B : World) (E : List HP) (l f b3 b4 b5 bd : Nat) (c : Cfg) (hc : CfgW c) (b : Blk) (sv : Value) (hb : BlkW c b) (hsv : cell1 sv = true) (s : Dev) (ι : Type) (r : Loop) (hrf : r.fn = f) (hrp : r.params.size = 2) (I : ι → Prop) (Hx : ι → List HP) (cd : ι → Code) (st : (Obj3 × Int) → ι → Bool × ι) (x0 : ι) (h0 : I x0) (hround : ∀ (p : Obj3 × Int) (x : ι), ObjW p.1 → I x → I (st p x).2 ∧ ∀ (E : List HP) w, Holds B (blk l (.loop r) :: row b5 [i64 b.act, i64 b.used, sv] 33 :: row b4 [i64 c.log, i64 c.roots, i64 c.space] 30 :: row b3 [ptr bd] 28 :: DevA bd s :: (Hx x ++ E)) w → RoundIn (Wd (cxF f)) 0 Tryz.prog l f ((r.params.zip [objV p.1, i64 p.2].toArray).foldl (fun tmps (t, a) => tmps.setIfInBounds t a) r.tmps) r.assign r.body w (Ret B (fun rv H' => rv = .bool (st p x).1 ∧ H' = blk l (.loop (lst r cd (st p x))) :: row b5 [i64 b.act, i64 b.used, sv] 33 :: row b4 [i64 c.log, i64 c.roots, i64 c.space] 30 :: row b3 [ptr bd] 28 :: DevA bd s :: (Hx (st p x).2 ++ E)) (fun _ _ => False))) :
    ∀ w, Holds B (blk l (.loop r) :: row b5 [i64 b.act, i64 b.used, sv] 33 :: row b4 [i64 c.log, i64 c.roots, i64 c.space] 30 :: row b3 [ptr bd] 28 :: DevA bd s :: (Hx x0 ++ E)) w → Calls Tryz.prog 109 [.func (.yield l) #[] #[], ptr b5, ptr b4, ptr b3].toArray w (Ret B (fun _ H' => I (itl st (s.objs c b (b.used.toNat + 1) (b.place c 0)) x0).2 ∧ H' = blk l (.loop (lst r cd (itl st (s.objs c b (b.used.toNat + 1) (b.place c 0)) x0))) :: row b5 [i64 b.act, i64 b.used, sv] 33 :: row b4 [i64 c.log, i64 c.roots, i64 c.space] 30 :: row b3 [ptr bd] 28 :: DevA bd s :: (Hx (itl st (s.objs c b (b.used.toNat + 1) (b.place c 0)) x0).2 ++ E)) (fun _ _ => False)) := by
  refine fn_enter Tryz.func109 rfl Tryz.ntmps109 rfl ?_
  have hb1 := hb.act
  have hb2 := hb.used
  have hcs := hc.s2
  have hfb := frm_b hc (k := b.act) (by omega)
  have hpl := place_b hc hb hb2
  have hp0 : b.place c 0 = c.frm b.act + 0 := rfl
  have hp1 : b.place c b.used = c.frm b.act + b.used := rfl
  refine g_seq ?_; refine g_draw Tryz.mixed (by kernel_rfl) (by kernel_rfl) ?_; refine kQv (ev_loadA Tryz.isAgg33 Tryz.sizeOf33 rfl rfl) rfl ?_; refine kQv (ev_loadA Tryz.isAgg30 Tryz.sizeOf30 rfl rfl) rfl ?_; refine q_call rfl (en_f Tryz.call94 rfl) (place_ok _ _ c hc b sv hb hsv _ (by omega)) .free rfl ?_; refine kQv (ev_loadA Tryz.isAgg33 Tryz.sizeOf33 rfl rfl) rfl ?_; refine kQv (ev_loadA Tryz.isAgg30 Tryz.sizeOf30 rfl rfl) rfl ?_; refine kQv (ev_fa (m := _) fa_33_1 rfl rfl) rfl ?_
  refine kQv (ev_load Tryz.isAgg3 rfl rfl) rfl ?_; refine q_call rfl (en_f Tryz.call94 rfl) (place_ok _ _ c hc b sv hb hsv _ (by omega)) .free rfl ?_; refine kQa rfl rfl ?_; refine kQa rfl rfl ?_; refine q_nil ?_; refine go_sub (σ' := [(6, _), (5, _), (0, _), (1, _), (2, _), (3, _)]) ⟨rfl, rfl, rfl, rfl, rfl, rfl, trivial⟩ ?_; refine g_block ?_
  refine g_loop (ι := Int × Nat × ι) (fun i => I i.2.2 ∧ (0 ≤ i.1 ∧ i.1 ≤ 100000) ∧ b.place c b.used - i.1 < i.2.1 ∧ itl st (s.objs c b (b.used.toNat + 1) (b.place c 0)) x0 = itl st (s.objs c b i.2.1 i.1) i.2.2) (fun i => [(0, .func (.yield l) #[] #[]), (1, ptr b5), (2, ptr b4), (3, ptr b3), (5, i64 i.1), (6, i64 (b.place c b.used))]) (fun i => blk l (.loop r) :: row b5 [i64 b.act, i64 b.used, sv] 33 :: row b4 [i64 c.log, i64 c.roots, i64 c.space] 30 :: row b3 [ptr bd] 28 :: DevA bd s :: (Hx i.2.2 ++ E)) (fun i => i.2.1) (b.place c 0, b.used.toNat + 1, x0) ⟨h0, by simp only; omega, by simp only; omega, rfl⟩ (fun a w st => st.to ⟨rfl, rfl, rfl, rfl, rfl, rfl, trivial⟩ id) ?_
  rintro ⟨a, n, x⟩ ⟨hIx, ha1, ha2, hinv⟩
  simp only at hIx ha1 ha2 hinv ⊢
  refine g_seq ?_; refine g_seq ?_; refine g_region ?_; refine kPm rfl rfl ?_; refine kPm rfl rfl ?_; refine kPv (ev_cmp rfl rfl rfl) rfl ?_; refine p_nil ?_
  refine g_if rfl (fun h19 => ?_) (fun h19 => ?_)
  · have hk : a < b.place c b.used := by simpa using h19
    obtain ⟨n, rfl⟩ : ∃ m, n = m + 1 := ⟨n - 1, by omega⟩
    refine g_skip ?_; refine g_block ?_; refine g_seq ?_; refine g_region ?_; refine kPv (ev_load Tryz.isAgg28 rfl rfl) rfl ?_; refine kPv (ev_loadA Tryz.isAgg30 Tryz.sizeOf30 rfl rfl) rfl ?_; refine kPv (ev_loadA Tryz.isAgg33 Tryz.sizeOf33 rfl rfl) rfl ?_; refine kPm rfl rfl ?_; refine p_callq rfl (en_f Tryz.call51 rfl) (ro_at (q := DevA) (fun Fr => obj_ok _ Fr _ _ c hc b sv hb hsv a (by omega))) .free rfl rfl ?_; refine kPm rfl rfl ?_; refine kPv (ev_ext rfl rfl) rfl ?_
    refine kPv (ev_ext rfl rfl) rfl ?_; refine p_chg rfl (ch_allocA Tryz.zeroValue89 rfl) .free rfl rfl ?_
    rintro _ _ ⟨b7, rfl, rfl⟩
    refine p_chg0 rfl (ch_storeA (vs := _) Tryz.sizeOf89 rfl rfl rfl rfl rfl) .free rfl ?_
    rintro _ _ rfl
    refine kPa rfl rfl ?_; refine p_nil ?_; refine go_sub (σ' := [(8, _), (7, _), (6, _), (5, _), (0, _), (1, _), (2, _), (3, _)]) ⟨rfl, rfl, rfl, rfl, rfl, rfl, rfl, rfl, trivial⟩ ?_; refine g_seq ?_; refine g_seq ?_; refine g_region ?_; refine kPm rfl rfl ?_; refine kPv (ev_cmp rfl rfl rfl) rfl ?_; refine p_nil ?_
    refine g_if rfl (fun h29 => ?_) (fun h29 => ?_)
    · have he : (s.objOf c b a).2 ≠ 0 := by simpa using h29
      have hob : s.objs c b (n + 1) a = [((0, 0, a), (s.objOf c b a).2)] := by
        simp only [Dev.objs]
        rw [if_neg (by omega), if_pos he]
      have ho1 : 0 ≤ (s.objOf c b a).1.1 ∧ (s.objOf c b a).1.1 ≤ 64 := objOf_b
      refine g_region ?_; refine kPm rfl rfl ?_; refine kPv (ev_build rfl (bld_89_1 _ rfl)) rfl ?_; refine p_chg0 rfl (ch_storeA (vs := _) Tryz.sizeOf89 rfl rfl rfl rfl rfl) .free rfl ?_
      rintro _ _ rfl
      refine p_nil ?_; refine g_seq ?_; refine g_seq ?_; refine g_region ?_; refine kPm rfl rfl ?_; refine kPv (ev_loadA Tryz.isAgg89 Tryz.sizeOf89 rfl rfl) rfl ?_; refine kPm rfl rfl ?_
      first | refine p_yield (f := f) (r := r) (H1 := row b5 [i64 b.act, i64 b.used, sv] 33 :: row b4 [i64 c.log, i64 c.roots, i64 c.space] 30 :: row b3 [ptr bd] 28 :: DevA bd s :: (Hx x ++ (row b7 [i64 (s.objOf c b a).1.1, i64 (s.objOf c b a).1.2.1, i64 (s.objOf c b a).1.2.2] 89 :: E))) rfl rfl (fun w hh => hh.perm (List.perm_middle (l₁ := blk l (.loop r) :: row b5 [i64 b.act, i64 b.used, sv] 33 :: row b4 [i64 c.log, i64 c.roots, i64 c.space] 30 :: row b3 [ptr bd] 28 :: DevA bd s :: Hx x)).symm) (by rw [hrp]; rfl) hrf ((hround (s.objOf c b a) x (objOf_w hc hb he) hIx).2 (row b7 [i64 (s.objOf c b a).1.1, i64 (s.objOf c b a).1.2.1, i64 (s.objOf c b a).1.2.2] 89 :: E)) .free rfl ?_ ?_ | refine p_yield (f := f) (r := r) (H1 := row b5 [i64 b.act, i64 b.used, sv] 33 :: row b4 [i64 c.log, i64 c.roots, i64 c.space] 30 :: row b3 [ptr bd] 28 :: DevA bd s :: (Hx x ++ (row b7 [i64 0, i64 0, i64 a] 89 :: E))) rfl rfl (fun w hh => hh.perm (List.perm_middle (l₁ := blk l (.loop r) :: row b5 [i64 b.act, i64 b.used, sv] 33 :: row b4 [i64 c.log, i64 c.roots, i64 c.space] 30 :: row b3 [ptr bd] 28 :: DevA bd s :: Hx x)).symm) (by rw [hrp]; rfl) hrf ((hround ((0, 0, a), (s.objOf c b a).2) x (objW0 (by omega)) hIx).2 (row b7 [i64 0, i64 0, i64 a] 89 :: E)) .free rfl ?_ ?_
      rotate_left
      · rintro _ _ ⟨⟩
      rintro _ _ ⟨rfl, rfl⟩
      first | refine go_conv (H' := row b7 [i64 (s.objOf c b a).1.1, i64 (s.objOf c b a).1.2.1, i64 (s.objOf c b a).1.2.2] 89 :: blk l (.loop (lst r cd (st (s.objOf c b a) x))) :: row b5 [i64 b.act, i64 b.used, sv] 33 :: row b4 [i64 c.log, i64 c.roots, i64 c.space] 30 :: row b3 [ptr bd] 28 :: DevA bd s :: (Hx (st (s.objOf c b a) x).2 ++ E)) (fun w hh => hh.perm (List.perm_middle (l₁ := blk l (.loop (lst r cd (st (s.objOf c b a) x))) :: row b5 [i64 b.act, i64 b.used, sv] 33 :: row b4 [i64 c.log, i64 c.roots, i64 c.space] 30 :: row b3 [ptr bd] 28 :: DevA bd s :: Hx (st (s.objOf c b a) x).2))) ?_ | refine go_conv (H' := row b7 [i64 0, i64 0, i64 a] 89 :: blk l (.loop (lst r cd (st ((0, 0, a), (s.objOf c b a).2) x))) :: row b5 [i64 b.act, i64 b.used, sv] 33 :: row b4 [i64 c.log, i64 c.roots, i64 c.space] 30 :: row b3 [ptr bd] 28 :: DevA bd s :: (Hx (st ((0, 0, a), (s.objOf c b a).2) x).2 ++ E)) (fun w hh => hh.perm (List.perm_middle (l₁ := blk l (.loop (lst r cd (st ((0, 0, a), (s.objOf c b a).2) x))) :: row b5 [i64 b.act, i64 b.used, sv] 33 :: row b4 [i64 c.log, i64 c.roots, i64 c.space] 30 :: row b3 [ptr bd] 28 :: DevA bd s :: Hx (st ((0, 0, a), (s.objOf c b a).2) x).2))) ?_
      refine kPv (ev_not rfl) rfl ?_; refine kPm rfl rfl ?_
      apply p_or (tp := 40) (t := 37) (σ1 := [(37, _), (7, _), (6, _), (5, _), (0, _), (1, _), (2, _), (3, _)]) 3 rfl ⟨rfl, rfl, rfl, rfl, rfl, rfl, rfl, rfl, trivial⟩
      · intro hg1
        refine p_val rfl (ev_move rfl) (.on rfl rfl (beq_eq hg1)) rfl rfl ?_; refine p_val rfl (ev_cmp rfl rfl rfl) (.on rfl rfl (beq_eq hg1)) rfl rfl ?_; refine kPv (ev_pick_f rfl hg1 rfl) rfl ?_
        exact p_seg rfl ⟨rfl, rfl, rfl, rfl, rfl, rfl, rfl, rfl, trivial⟩ (or_f hg1)
      · intro hg1
        refine p_skip rfl (.on rfl rfl (beq_ne hg1)) rfl ?_; refine p_skip rfl (.on rfl rfl (beq_ne hg1)) rfl ?_; refine kPv (ev_pick_t rfl hg1 rfl) rfl ?_
        exact p_seg rfl ⟨rfl, rfl, rfl, rfl, rfl, rfl, rfl, rfl, trivial⟩ (or_t hg1)
      refine p_nil ?_
      refine g_if rfl (fun h40 => ?_) (fun h40 => ?_)
      · try simp only [decide_eq_true_eq, decide_eq_false_iff_not, Bool.not_eq_true', Bool.not_eq_false', Bool.or_eq_true, Bool.and_eq_true, Bool.and_eq_false_iff, Bool.or_eq_false_iff, beq_iff_eq, bne_iff_ne, beq_eq_false_iff_ne, bne_eq_false_iff_eq, ge_iff_le, gt_iff_lt, ne_eq] at h40
        refine g_ret ?_
        exact ret_none Tryz.results109 (fun w hh => ⟨_, ⟨by rw [hinv, hob, itl1]; exact (hround ((0, 0, a), (s.objOf c b a).2) x (objW0 (by omega)) hIx).1, by rw [hinv, hob, itl1]⟩, hh.tail⟩)
      · have h40' := h40
        have hg : (st (s.objOf c b a) x).1 = true ∨ (s.objOf c b a).2 ≠ 0 := by first | exact .inr he | (left; simpa [he] using h40)
        have hlr : (st (s.objOf c b a) x).1 = true → lst r cd (st (s.objOf c b a) x) = r := fun hg => by unfold lst; rw [if_pos hg]
        refine g_skip ?_; refine g_region ?_; refine kPm rfl rfl ?_; refine kPv (ev_fa (m := _) fa_89_0 rfl rfl) rfl ?_; refine kPv (ev_loadA Tryz.isAgg87 Tryz.sizeOf87 rfl rfl) rfl ?_; refine p_callq rfl (en_f Tryz.call52 rfl) (hsize_ok _ _ _ _ (by omega)) .free rfl rfl ?_
        first | refine p_val rfl (ev_add rfl rfl (wr64 (by omega))) .free rfl rfl ?_ | refine p_val rfl (ev_add rfl rfl rfl) .free rfl rfl ?_
        refine kPa rfl rfl ?_; refine p_nil ?_; refine go_sub (σ' := [(5, _), (6, _), (0, _), (1, _), (2, _), (3, _)]) ⟨rfl, rfl, rfl, rfl, rfl, rfl, trivial⟩ ?_
        exact absurd (by simp at h40; exact h40.2) he
    · have he : (s.objOf c b a).2 = 0 := by simpa using h29
      have hob : s.objs c b (n + 1) a = s.objOf c b a :: s.objs c b n (a + ((s.objOf c b a).1.1 + 1)) := by
        simp only [Dev.objs]
        rw [if_neg (by omega), if_neg (by omega)]
      have ho := objOf_w hc hb he
      have ho1 := ho.w
      have ho2 := ho.r
      have ho3 := ho.at_
      refine g_skip ?_; refine g_seq ?_; refine g_seq ?_; refine g_region ?_; refine kPm rfl rfl ?_; refine kPv (ev_loadA Tryz.isAgg89 Tryz.sizeOf89 rfl rfl) rfl ?_; refine kPm rfl rfl ?_
      first | refine p_yield (f := f) (r := r) (H1 := row b5 [i64 b.act, i64 b.used, sv] 33 :: row b4 [i64 c.log, i64 c.roots, i64 c.space] 30 :: row b3 [ptr bd] 28 :: DevA bd s :: (Hx x ++ (row b7 [i64 (s.objOf c b a).1.1, i64 (s.objOf c b a).1.2.1, i64 (s.objOf c b a).1.2.2] 89 :: E))) rfl rfl (fun w hh => hh.perm (List.perm_middle (l₁ := blk l (.loop r) :: row b5 [i64 b.act, i64 b.used, sv] 33 :: row b4 [i64 c.log, i64 c.roots, i64 c.space] 30 :: row b3 [ptr bd] 28 :: DevA bd s :: Hx x)).symm) (by rw [hrp]; rfl) hrf ((hround (s.objOf c b a) x (objOf_w hc hb he) hIx).2 (row b7 [i64 (s.objOf c b a).1.1, i64 (s.objOf c b a).1.2.1, i64 (s.objOf c b a).1.2.2] 89 :: E)) .free rfl ?_ ?_ | refine p_yield (f := f) (r := r) (H1 := row b5 [i64 b.act, i64 b.used, sv] 33 :: row b4 [i64 c.log, i64 c.roots, i64 c.space] 30 :: row b3 [ptr bd] 28 :: DevA bd s :: (Hx x ++ (row b7 [i64 0, i64 0, i64 a] 89 :: E))) rfl rfl (fun w hh => hh.perm (List.perm_middle (l₁ := blk l (.loop r) :: row b5 [i64 b.act, i64 b.used, sv] 33 :: row b4 [i64 c.log, i64 c.roots, i64 c.space] 30 :: row b3 [ptr bd] 28 :: DevA bd s :: Hx x)).symm) (by rw [hrp]; rfl) hrf ((hround ((0, 0, a), (s.objOf c b a).2) x (objW0 (by omega)) hIx).2 (row b7 [i64 0, i64 0, i64 a] 89 :: E)) .free rfl ?_ ?_
      rotate_left
      · rintro _ _ ⟨⟩
      rintro _ _ ⟨rfl, rfl⟩
      first | refine go_conv (H' := row b7 [i64 (s.objOf c b a).1.1, i64 (s.objOf c b a).1.2.1, i64 (s.objOf c b a).1.2.2] 89 :: blk l (.loop (lst r cd (st (s.objOf c b a) x))) :: row b5 [i64 b.act, i64 b.used, sv] 33 :: row b4 [i64 c.log, i64 c.roots, i64 c.space] 30 :: row b3 [ptr bd] 28 :: DevA bd s :: (Hx (st (s.objOf c b a) x).2 ++ E)) (fun w hh => hh.perm (List.perm_middle (l₁ := blk l (.loop (lst r cd (st (s.objOf c b a) x))) :: row b5 [i64 b.act, i64 b.used, sv] 33 :: row b4 [i64 c.log, i64 c.roots, i64 c.space] 30 :: row b3 [ptr bd] 28 :: DevA bd s :: Hx (st (s.objOf c b a) x).2))) ?_ | refine go_conv (H' := row b7 [i64 0, i64 0, i64 a] 89 :: blk l (.loop (lst r cd (st ((0, 0, a), (s.objOf c b a).2) x))) :: row b5 [i64 b.act, i64 b.used, sv] 33 :: row b4 [i64 c.log, i64 c.roots, i64 c.space] 30 :: row b3 [ptr bd] 28 :: DevA bd s :: (Hx (st ((0, 0, a), (s.objOf c b a).2) x).2 ++ E)) (fun w hh => hh.perm (List.perm_middle (l₁ := blk l (.loop (lst r cd (st ((0, 0, a), (s.objOf c b a).2) x))) :: row b5 [i64 b.act, i64 b.used, sv] 33 :: row b4 [i64 c.log, i64 c.roots, i64 c.space] 30 :: row b3 [ptr bd] 28 :: DevA bd s :: Hx (st ((0, 0, a), (s.objOf c b a).2) x).2))) ?_
      refine kPv (ev_not rfl) rfl ?_; refine kPm rfl rfl ?_
      apply p_or (tp := 40) (t := 37) (σ1 := [(37, _), (7, _), (6, _), (5, _), (0, _), (1, _), (2, _), (3, _)]) 3 rfl ⟨rfl, rfl, rfl, rfl, rfl, rfl, rfl, rfl, trivial⟩
      · intro hg2
        refine p_val rfl (ev_move rfl) (.on rfl rfl (beq_eq hg2)) rfl rfl ?_; refine p_val rfl (ev_cmp rfl rfl rfl) (.on rfl rfl (beq_eq hg2)) rfl rfl ?_; refine kPv (ev_pick_f rfl hg2 rfl) rfl ?_
        exact p_seg rfl ⟨rfl, rfl, rfl, rfl, rfl, rfl, rfl, rfl, trivial⟩ (or_f hg2)
      · intro hg2
        refine p_skip rfl (.on rfl rfl (beq_ne hg2)) rfl ?_; refine p_skip rfl (.on rfl rfl (beq_ne hg2)) rfl ?_; refine kPv (ev_pick_t rfl hg2 rfl) rfl ?_
        exact p_seg rfl ⟨rfl, rfl, rfl, rfl, rfl, rfl, rfl, rfl, trivial⟩ (or_t hg2)
      refine p_nil ?_
      refine g_if rfl (fun h40 => ?_) (fun h40 => ?_)
      · try simp only [decide_eq_true_eq, decide_eq_false_iff_not, Bool.not_eq_true', Bool.not_eq_false', Bool.or_eq_true, Bool.and_eq_true, Bool.and_eq_false_iff, Bool.or_eq_false_iff, beq_iff_eq, bne_iff_ne, beq_eq_false_iff_ne, bne_eq_false_iff_eq, ge_iff_le, gt_iff_lt, ne_eq] at h40
        refine g_ret ?_
        exact ret_none Tryz.results109 (fun w hh => ⟨_, ⟨by rw [hinv, hob, itl0 (by simpa [he] using h40)]; exact (hround (s.objOf c b a) x (objOf_w hc hb he) hIx).1, by rw [hinv, hob, itl0 (by simpa [he] using h40)]⟩, hh.tail⟩)
      · have h40' := h40
        have hg : (st (s.objOf c b a) x).1 = true ∨ (s.objOf c b a).2 ≠ 0 := by first | exact .inr he | (left; simpa [he] using h40)
        have hlr : (st (s.objOf c b a) x).1 = true → lst r cd (st (s.objOf c b a) x) = r := fun hg => by unfold lst; rw [if_pos hg]
        refine g_skip ?_; refine g_region ?_; refine kPm rfl rfl ?_; refine kPv (ev_fa (m := _) fa_89_0 rfl rfl) rfl ?_; refine kPv (ev_loadA Tryz.isAgg87 Tryz.sizeOf87 rfl rfl) rfl ?_; refine p_callq rfl (en_f Tryz.call52 rfl) (hsize_ok _ _ _ _ (by omega)) .free rfl rfl ?_
        first | refine p_val rfl (ev_add rfl rfl (wr64 (by omega))) .free rfl rfl ?_ | refine p_val rfl (ev_add rfl rfl rfl) .free rfl rfl ?_
        refine kPa rfl rfl ?_; refine p_nil ?_; refine go_sub (σ' := [(5, _), (6, _), (0, _), (1, _), (2, _), (3, _)]) ⟨rfl, rfl, rfl, rfl, rfl, rfl, trivial⟩ ?_
        exact fun a_ w st_ => ⟨(_, n, (st (s.objOf c b a) x).2), ⟨(hround (s.objOf c b a) x (objOf_w hc hb he) hIx).1, by simp only; omega, by simp only; omega, by rw [hinv, hob]; simp only [itl]; rw [if_pos (hg.resolve_right (by omega))]⟩, by simp only; omega, st_.to ⟨rfl, rfl, rfl, rfl, rfl, rfl, trivial⟩ (fun hh => by have hh := hh.tail; rw [hlr (hg.resolve_right (by omega))] at hh; exact hh)⟩
  · have hk : ¬ a < b.place c b.used := by simpa using h19
    refine g_exit ?_
    exact end_none Tryz.results109 (fun w hh => ⟨_, ⟨by rw [hinv, objs_end (by omega)]; exact hIx, by rw [hinv, objs_end (by omega)]; rfl⟩, hh⟩)
end Go.Proofs.YtbfheafpecgphaaGreat
namespace Go.Proofs.YtbfheafpecgphaaGreat
open Go
theorem block_len {s : Dev} {c : Cfg} (hc : CfgW c) : (s.block c).1.rts.length ≤ 16 := by
  have := hc.r2
  unfold Dev.block
  split
  · exact Nat.zero_le _
  · rw [tab_len]; omega
theorem block_rts {s : Dev} {c : Cfg} (hu : U64 s) : ∀ x ∈ (s.block c).1.rts, 0 ≤ x ∧ x < 18446744073709551616 := by
  intro x hx
  unfold Dev.block at hx
  split at hx
  · cases hx
  · obtain ⟨i, _, rfl⟩ := List.mem_map.1 hx
    exact hu.load _
theorem lst_busy {ι : Type} {r : Loop} {cd : ι → Code} {y : Bool × ι} (h : r.state ≠ .busy) : (lst r cd y).state ≠ .busy := by
  unfold lst; split
  · exact h
  · simp
theorem lst_none {ι : Type} {r : Loop} {cd : ι → Code} {y : Bool × ι} (h : (lst r cd y).pending = none) : y.1 = true := by
  unfold lst at h; split at h
  · assumption
  · cases h
theorem lst_some {ι : Type} {r : Loop} {cd : ι → Code} {y : Bool × ι} {c : Code} (hr : r.pending = none) (h : (lst r cd y).pending = some c) : y.1 = false ∧ c = cd y.2 := by
  unfold lst at h; split at h
  · rw [hr] at h; cases h
  · rename_i h1; exact ⟨by simpa using h1, by simpa using h.symm⟩
def stS (p : Obj3 × Int) (x : List (Int × Obj3) × Int) : Bool × List (Int × Obj3) × Int := if p.2 ≠ 0 then (false, (x.1, p.2)) else (true, (mset x.1 p.1.2.2 p.1, x.2))
def Dev.startsI (s : Dev) (c : Cfg) (b : Blk) : Bool × List (Int × Obj3) × Int := itl stS (s.objs c b (b.used.toNat + 1) (b.place c 0)) ([], 0)
def Dev.starts (s : Dev) (c : Cfg) (b : Blk) : List (Int × Obj3) × Int := (s.startsI c b).2
theorem itl_inv {α ι : Type} {st : α → ι → Bool × ι} {I : ι → Prop} (h : ∀ a x, I x → (st a x).1 = true → I (st a x).2) : ∀ (l : List α) (x : ι), I x → (itl st l x).1 = true → I (itl st l x).2
  | [], x, hx, _ => hx
  | a :: t, x, hx, h1 => by
    unfold itl at h1 ⊢
    split at h1
    · rename_i ha; rw [if_pos ha]; exact itl_inv h t _ (h a x hx ha) h1
    · cases h1
theorem starts_ok {s : Dev} {c : Cfg} {b : Blk} (h : (s.startsI c b).1 = true) : (s.starts c b).2 = 0 :=
  itl_inv (I := fun x => x.2 = 0) (fun a x hx h => by
    unfold stS at h ⊢; split at h
    · cases h
    · rename_i h1; rw [if_neg h1]; exact hx) _ _ rfl h
theorem stS_bad : ∀ (l : List (Obj3 × Int)) (x : List (Int × Obj3) × Int), (itl stS l x).1 = false → ¬ (itl stS l x).2.2 = 0
  | [], x, h => by cases h
  | a :: t, x, h => by
    unfold itl at h ⊢
    split at h
    · rename_i ha; rw [if_pos ha]; exact stS_bad t _ h
    · rename_i ha; rw [if_neg ha]
      unfold stS at ha ⊢
      split at ha
      · rename_i h1; rw [if_pos h1]; exact h1
      · exact absurd rfl ha
theorem starts_bad {s : Dev} {c : Cfg} {b : Blk} (h : (s.startsI c b).1 = false) : ¬ (s.starts c b).2 = 0 := stS_bad _ _ h
theorem wstarts_ok (B : World) (Fr : List HP) (bd : Nat) (s : Dev) (c : Cfg) (hc : CfgW c) (b : Blk) (sv : Value) (hb : BlkW c b) (hsv : cell1 sv = true) :
    ∀ w, Holds B (DevA bd s :: Fr) w → Calls Tryz.prog 80 [ptr bd, cfgV c, blkV b sv].toArray w (Ret B (fun rv H' => ∃ mb, rv = .tuple #[.map (some mb), i64 (s.starts c b).2] ∧ H' = mapA .i64 objV mb (s.starts c b).1 :: DevA bd s :: Fr) (fun _ _ => False)) := by
  refine fn_enter_m Tryz.func80 rfl Tryz.ntmps80 rfl ?_; refine g_seq ?_; refine g_region ?_; refine p_chg rfl (ch_boxA rfl) .free rfl rfl ?_
  rintro _ _ ⟨b4, rfl, rfl⟩
  refine p_chg rfl (ch_boxA rfl) .free rfl rfl ?_
  rintro _ _ ⟨b5, rfl, rfl⟩
  refine p_chg rfl (ch_alloc1 Tryz.zeroValue124 rfl) .free rfl rfl ?_
  rintro _ _ ⟨b6, rfl, rfl⟩
  refine p_chg rfl (ch_alloc1 Tryz.zeroValue46 rfl) .free rfl rfl ?_
  rintro _ _ ⟨b7, rfl, rfl⟩
  refine p_nil ?_; refine g_seq ?_; refine g_region ?_; refine p_chg rfl (ch_makeMap .i64 objV) .free rfl rfl ?_
  rintro _ _ ⟨mb, rfl, rfl⟩
  refine p_chg rfl (ch_alloc1 Tryz.zeroValue124 rfl) .free rfl rfl ?_
  rintro _ _ ⟨b8, rfl, rfl⟩
  refine p_chg0 rfl (ch_store Tryz.sizeOf124 rfl rfl rfl rfl) .free rfl ?_
  rintro _ _ rfl
  refine p_nil ?_; refine g_seq ?_; refine g_seq ?_; refine g_region ?_; refine kPm rfl rfl ?_; refine kPv (ev_loadA Tryz.isAgg30 Tryz.sizeOf30 rfl rfl) rfl ?_; refine kPv (ev_loadA Tryz.isAgg33 Tryz.sizeOf33 rfl rfl) rfl ?_
  refine p_call rfl (en_f Tryz.call83 rfl) (wobjs_ok _ _ bd c b sv hsv) .free rfl rfl ?_ ?_
  rotate_left
  · rintro _ _ ⟨⟩
  rintro _ _ ⟨c3, c4, c5, rfl, rfl⟩
  refine p_nil ?_; refine go_sub (σ' := [(15, _), (8, _), (7, _), (6, _)]) ⟨rfl, rfl, rfl, rfl, trivial⟩ ?_; refine g_block ?_; refine g_range rfl Tryz.call109 ?_
  intro l m tmps hts hkn w hh
  have hk6 := hkn 6 _ rfl
  have hk7 := hkn 7 _ rfl
  have hk8 := hkn 8 _ rfl
  refine (wobj1_ok B (blk m (.deferred (some [])) :: row b5 [i64 b.act, i64 b.used, sv] 33 :: row b4 [i64 c.log, i64 c.roots, i64 c.space] 30 :: Fr) l 80 c3 c4 c5 bd c hc b sv hb hsv s (List (Int × Obj3) × Int) _ rfl rfl (fun x => True) (fun x => [mapA .i64 objV mb x.1, row b6 [if x.2 = 0 then .map none else .map (some mb)] 124, row b7 [i64 x.2] 46, row b8 [.map (some mb)] 124]) (fun _ => .ret) stS ([], 0) trivial ?_ w (hh.pk [0, 1, 1, 1, 7, 2, 3, 2, 1])).mono (Ret.mono ?_ fun _ _ h => h.elim)
  · intro p x _ _
    refine ⟨trivial, fun E => ?_⟩
    simp only [List.cons_append, List.nil_append]
    refine round_go (n := 27) (σ := [(16, objV p.1), (17, i64 p.2), (6, ptr b6), (7, ptr b7), (8, ptr b8)]) Tryz.func80 (by simp [lrec, hts]) (KnA.knows (by simp [KnA, lrec, hts]; exact ⟨(Array.getElem?_eq_some_iff.1 hk6).2, (Array.getElem?_eq_some_iff.1 hk7).2, (Array.getElem?_eq_some_iff.1 hk8).2⟩)) rfl ?_
    refine g_seq ?_; refine g_region ?_; refine p_chg rfl (ch_allocA Tryz.zeroValue89 rfl) .free rfl rfl ?_
    rintro _ _ ⟨b9, rfl, rfl⟩
    refine p_chg0 rfl (ch_storeA (vs := [i64 p.1.1, i64 p.1.2.1, i64 p.1.2.2]) Tryz.sizeOf89 rfl rfl rfl rfl rfl) .free rfl ?_
    rintro _ _ rfl
    refine p_nil ?_; refine g_region ?_; refine kPa rfl rfl ?_; refine p_nil ?_; refine go_pk [1] ?_; refine go_mid ?_; refine g_block ?_; refine g_seq ?_; refine g_seq ?_; refine g_region ?_; refine kPm rfl rfl ?_; refine kPv (ev_cmp rfl rfl rfl) rfl ?_; refine p_nil ?_
    refine g_if rfl (fun h19 => ?_) (fun h19 => ?_)
    · have h19' : p.2 ≠ 0 := by simpa using h19
      refine g_seq ?_; refine g_region ?_; refine kPv (ev_load Tryz.isAgg124 rfl rfl) rfl ?_; refine kPm rfl rfl ?_; refine p_chg0 rfl (ch_store Tryz.sizeOf124 rfl rfl rfl rfl) .free rfl ?_
      rintro _ _ rfl
      refine p_chg0 rfl (ch_store Tryz.sizeOf46 rfl rfl rfl rfl) .free rfl ?_
      rintro _ _ rfl
      refine p_nil ?_; refine go_sub (σ' := [(9, _), (6, _), (7, _), (8, _)]) ⟨rfl, rfl, rfl, rfl, trivial⟩ ?_; refine g_ret ?_
      have hst : stS p x = (false, (x.1, p.2)) := by unfold stS; rw [if_pos h19']
      exact go_rJ fun w hh => ⟨_, ⟨by rw [hst], rfl⟩, by rw [hst]; rw [if_neg h19']; exact (hh.dp [1])⟩
    · have h19' : p.2 = 0 := by simpa using h19
      refine g_skip ?_; refine g_region ?_; refine kPv (ev_load Tryz.isAgg124 rfl rfl) rfl ?_; refine kPv (ev_fa (m := _) fa_89_1 rfl rfl) rfl ?_; refine kPv (ev_load Tryz.isAgg3 rfl rfl) rfl ?_; refine kPv (ev_loadA Tryz.isAgg89 Tryz.sizeOf89 rfl rfl) rfl ?_; refine p_chg0 rfl (ch_mapset (enc := objV) (u := p.1) Tryz.runUnderlying124 Tryz.runUnderlying3 rfl rfl rfl rfl) .free rfl ?_
      rintro _ _ rfl
      refine p_nil ?_; refine go_sub (σ' := [(6, _), (7, _)]) ⟨rfl, rfl, trivial⟩ ?_
      have hst : stS p x = (true, (mset x.1 p.1.2.2 p.1, x.2)) := by unfold stS; rw [if_neg (by omega)]
      exact go_rK fun w hh => ⟨_, ⟨by rw [hst], rfl⟩, by rw [hst]; exact (hh.dp [1])⟩
  rintro _ _ ⟨_, rfl⟩
  simp only [List.cons_append, List.nil_append]
  refine ⟨_, _, fun w hh => hh, lst_busy (by simp [lrec]), fun hp => ?_, fun c' hc' => ?_⟩
  rotate_left
  · obtain ⟨h1, rfl⟩ := lst_some rfl hc'
    refine g_ret ?_
    exact ret_2_m Tryz.results80 (.at 9 .nil) (.cell1 rfl Tryz.isAgg124 rfl) (.cell1 rfl Tryz.isAgg46 rfl) fun w hh => ⟨_, ⟨mb, by have hb := starts_bad h1; unfold Dev.starts Dev.startsI at hb ⊢; rw [if_neg hb], rfl⟩, ((hh.dp [0, 0, 0, 0, 2, 2, 2, 2, 2, 2]).pk [1])⟩
  have hy := starts_ok (s := s) (c := c) (b := b) (lst_none hp)
  refine g_seq ?_; refine g_region ?_; refine kPv (ev_load Tryz.isAgg124 rfl rfl) rfl ?_; refine p_chg0 rfl (ch_store Tryz.sizeOf124 rfl rfl rfl rfl) .free rfl ?_
  rintro _ _ rfl
  refine p_chg0 rfl (ch_store Tryz.sizeOf46 rfl rfl rfl rfl) .free rfl ?_
  rintro _ _ rfl
  refine p_nil ?_; refine g_ret ?_
  exact ret_2_m Tryz.results80 (.at 9 (.nil)) (.cell1 rfl Tryz.isAgg124 rfl) (.cell1 rfl Tryz.isAgg46 rfl) (fun w hh => ⟨_, ⟨mb, by rw [hy], rfl⟩, ((hh.dp [0, 0, 0, 0, 2, 2, 2, 2, 2, 2]).pk [1])⟩)
end Go.Proofs.YtbfheafpecgphaaGreat
namespace Go.Proofs.YtbfheafpecgphaaGreat
open Go
def namesM (c : Cfg) (b : Blk) (ml : List (Int × Obj3)) (v : Int) : Bool := v == 0 || (b.has c v && (mget ml v).isSome)
def refsM (s : Dev) (nf : Int → Bool) (o : Obj3) : Bool := (List.range o.2.1.toNat).all fun k => nf (s.load (o.2.2 + 1 + (k : Int)))
def stC (s : Dev) (nf : Int → Bool) (p : Obj3 × Int) (x : Int) : Bool × Int := if refsM s nf p.1 = true then (true, x) else (false, 9)
def Dev.check (s : Dev) (c : Cfg) : Int :=
  if (s.block c).2 ≠ 0 then (s.block c).2
  else if (s.starts c (s.block c).1).2 ≠ 0 then (s.starts c (s.block c).1).2
  else if (s.block c).1.rts.all (namesM c (s.block c).1 (s.starts c (s.block c).1).1) = true then
    (itl (stC s (namesM c (s.block c).1 (s.starts c (s.block c).1).1)) (s.objs c (s.block c).1 ((s.block c).1.used.toNat + 1) ((s.block c).1.place c 0)) 0).2
  else 9
theorem mval_o (o : Option Obj3) : mval objV (.agg #[i64 0, i64 0, i64 0]) o = objV (o.getD (0, 0, 0)) := by cases o <;> rfl
theorem take_succ_all {α : Type} {l : List α} {f : α → Bool} {k : Nat} (hk : k < l.length) (h : (l.take k).all f = true) (h2 : f l[k] = true) : (l.take (k + 1)).all f = true := by
  rw [List.take_succ_eq_append_getElem hk, List.all_append, h]; simp [h2]
theorem range_succ_all {f : Nat → Bool} {k : Nat} (h : (List.range k).all f = true) (h2 : f k = true) : (List.range (k + 1)).all f = true := by
  rw [List.range_succ, List.all_append, h]; simp [h2]
theorem cnames_ok (B : World) (Fr : List HP) (b1 b2 b3 mb : Nat) (c : Cfg) (hc : CfgW c) (b : Blk) (sv : Value) (hb : BlkW c b) (hsv : cell1 sv = true) (ml : List (Int × Obj3)) (v : Int) (hv : 0 ≤ v ∧ v < 18446744073709551616) :
    ∀ w, Holds B (row b1 [i64 b.act, i64 b.used, sv] 33 :: row b2 [i64 c.log, i64 c.roots, i64 c.space] 30 :: row b3 [.map (some mb)] 124 :: mapA .i64 objV mb ml :: Fr) w → Calls Tryz.prog 81 [w64 v, ptr b1, ptr b2, ptr b3].toArray w (PureR B (row b1 [i64 b.act, i64 b.used, sv] 33 :: row b2 [i64 c.log, i64 c.roots, i64 c.space] 30 :: row b3 [.map (some mb)] 124 :: mapA .i64 objV mb ml :: Fr) (.bool (namesM c b ml v))) := by
  refine fn_enter Tryz.func81 rfl Tryz.ntmps81 rfl ?_; refine g_seq ?_; refine g_region ?_; refine kPa rfl rfl ?_; refine p_nil ?_; refine g_seq ?_; refine g_seq ?_; refine g_region ?_; refine kPm rfl rfl ?_; refine kPv (ev_cmp rfl rfl rfl) rfl ?_; refine p_nil ?_
  refine g_if rfl (fun h9 => ?_) (fun h9 => ?_)
  · have hres : namesM c b ml v = true := by unfold namesM; simp [show v = 0 by simpa using h9]
    refine g_seq ?_; refine g_region ?_; refine kPa rfl rfl ?_; refine p_nil ?_; refine g_ret ?_
    exact ret_tmp Tryz.results81 rfl (fun w hh => ⟨by rw [hres], hh⟩)
  · have hne : ¬ v = 0 := by simpa using h9
    refine g_skip ?_; refine g_seq ?_; refine g_seq ?_; refine g_region ?_; refine kPv (ev_loadA Tryz.isAgg33 Tryz.sizeOf33 rfl rfl) rfl ?_; refine kPv (ev_loadA Tryz.isAgg30 Tryz.sizeOf30 rfl rfl) rfl ?_; refine kPm rfl rfl ?_; refine p_callq rfl (en_f Tryz.call82 rfl) (has_ok _ _ c hc b sv hb hsv _ hv) .free rfl rfl ?_; refine kPv (ev_not rfl) rfl ?_; refine p_nil ?_; refine go_sub (σ' := [(14, _), (5, _), (0, _), (3, _)]) ⟨rfl, rfl, rfl, rfl, trivial⟩ ?_
    refine g_if rfl (fun h14 => ?_) (fun h14 => ?_)
    · have hh0 : b.has c v = false := by simpa using h14
      have hres : namesM c b ml v = false := by unfold namesM; simp [hne, hh0]
      refine g_seq ?_; refine g_region ?_; refine kPa rfl rfl ?_; refine p_nil ?_; refine g_ret ?_
      exact ret_tmp Tryz.results81 rfl (fun w hh => ⟨by rw [hres], hh⟩)
    · have hh0 : b.has c v = true := by simpa using h14
      have hvb := bhas_b hc hb hh0
      have hres : namesM c b ml v = (mget ml v).isSome := by unfold namesM; simp [hne, hh0]
      refine g_skip ?_; refine g_seq ?_; refine g_region ?_; refine kPv (ev_load Tryz.isAgg124 rfl rfl) rfl ?_; refine kPm rfl rfl ?_
      first | refine p_val rfl (ev_conv Tryz.runUnderlying52 Tryz.runUnderlying3 rfl (wr64 (by omega))) .free rfl rfl ?_ | refine p_val rfl (ev_conv Tryz.runUnderlying52 Tryz.runUnderlying3 rfl rfl) .free rfl rfl ?_
      refine kPv ((ev_lookup2 Tryz.runUnderlying124 Tryz.runUnderlying3 Tryz.zeroValue89 rfl rfl).eq (congrArg (fun v => Value.tuple #[v, .bool _]) (mval_o _))) rfl ?_; refine kPm rfl rfl ?_; refine kPv (ev_ext rfl rfl) rfl ?_; refine kPv (ev_ext rfl rfl) rfl ?_; refine p_chg rfl (ch_allocA Tryz.zeroValue89 rfl) .free rfl rfl ?_
      rintro _ _ ⟨b6, rfl, rfl⟩
      refine p_chg0 rfl (ch_storeA (vs := [i64 _, i64 _, i64 _]) Tryz.sizeOf89 rfl rfl rfl rfl rfl) .free rfl ?_
      rintro _ _ rfl
      refine kPa rfl rfl ?_; refine p_nil ?_; refine go_sub (σ' := [(7, _), (5, _)]) ⟨rfl, rfl, trivial⟩ ?_; refine g_seq ?_; refine g_region ?_; refine kPm rfl rfl ?_; refine kPa rfl rfl ?_; refine p_nil ?_; refine g_ret ?_
      exact ret_tmp Tryz.results81 rfl (fun w hh => ⟨by rw [hres]; rfl, hh.tail⟩)
theorem ccheck_ok (B : World) (Fr : List HP) (bd : Nat) (s : Dev) (c : Cfg) (hc : CfgW c) (hu : U64 s) :
    ∀ w, Holds B (DevA bd s :: Fr) w → Calls Tryz.prog 27 [ptr bd, cfgV c].toArray w (PureR B (DevA bd s :: Fr) (i64 (s.check c))) := by
  refine fn_enter_m Tryz.func27 rfl Tryz.ntmps27 rfl ?_
  have hrl := block_len (s := s) hc
  refine g_seq ?_; refine g_region ?_; refine p_chg rfl (ch_box1 rfl rfl) .free rfl rfl ?_
  rintro _ _ ⟨b2, rfl, rfl⟩
  refine p_chg rfl (ch_boxA rfl) .free rfl rfl ?_
  rintro _ _ ⟨b3, rfl, rfl⟩
  refine kPa rfl rfl ?_; refine p_nil ?_; refine g_scope ?_; refine g_seq ?_; refine g_region ?_; refine kPv (ev_load Tryz.isAgg28 rfl rfl) rfl ?_; refine kPv (ev_loadA Tryz.isAgg30 Tryz.sizeOf30 rfl rfl) rfl ?_; refine go_pk [2] ?_
  refine p_call rfl (en_f Tryz.call15 rfl) (rread_ok _ _ _ _ c hc hu) .free rfl rfl ?_ ?_
  rotate_left
  · rintro _ _ ⟨⟩
  rintro _ _ ⟨sv, hsv, rfl, rfl⟩
  have hbk := block_w (s := s) hc hu
  refine kPm rfl rfl ?_; refine kPv (ev_ext rfl rfl) rfl ?_; refine kPv (ev_ext rfl rfl) rfl ?_; refine p_chg rfl (ch_allocA Tryz.zeroValue33 rfl) .free rfl rfl ?_
  rintro _ _ ⟨b5, rfl, rfl⟩
  refine p_chg0 rfl (ch_storeA (vs := [i64 _, i64 _, sv]) Tryz.sizeOf33 rfl rfl rfl (all3 hsv) rfl) .free rfl ?_
  rintro _ _ rfl
  refine kPa rfl rfl ?_; refine p_nil ?_; refine go_sub (σ' := [(6, _), (5, _), (4, _), (3, _), (2, _)]) ⟨rfl, rfl, rfl, rfl, rfl, trivial⟩ ?_; refine g_seq ?_; refine g_seq ?_; refine g_region ?_; refine kPm rfl rfl ?_; refine kPv (ev_cmp rfl rfl rfl) rfl ?_; refine p_nil ?_
  refine g_if rfl (fun h21 => ?_) (fun h21 => ?_)
  · have he : (s.block c).2 ≠ 0 := by simpa using h21
    have hres : s.check c = (s.block c).2 := by unfold Dev.check; rw [if_pos he]
    refine g_seq ?_; refine g_region ?_; refine kPm rfl rfl ?_; refine kPa rfl rfl ?_; refine p_nil ?_; refine g_ret ?_
    exact ret_tmp_m Tryz.results27 rfl (.nil) (fun w hh => ⟨by rw [hres] <;> rfl, (hh.dp [0, 0, 1, 1])⟩)
  · have he : (s.block c).2 = 0 := by simpa using h21
    refine g_skip ?_; refine g_seq ?_; refine g_region ?_; refine kPv (ev_load Tryz.isAgg28 rfl rfl) rfl ?_; refine kPv (ev_loadA Tryz.isAgg30 Tryz.sizeOf30 rfl rfl) rfl ?_; refine kPv (ev_loadA Tryz.isAgg33 Tryz.sizeOf33 rfl rfl) rfl ?_; refine go_pk [2] ?_
    refine p_call rfl (en_f Tryz.call80 rfl) (wstarts_ok _ _ bd s c hc (s.block c).1 sv hbk hsv) .free rfl rfl ?_ ?_
    rotate_left
    · rintro _ _ ⟨⟩
    rintro _ _ ⟨mb, rfl, rfl⟩
    refine kPm rfl rfl ?_; refine kPv (ev_ext rfl rfl) rfl ?_; refine kPv (ev_ext rfl rfl) rfl ?_; refine p_chg rfl (ch_alloc1 Tryz.zeroValue124 rfl) .free rfl rfl ?_
    rintro _ _ ⟨b7, rfl, rfl⟩
    refine p_chg0 rfl (ch_store Tryz.sizeOf124 rfl rfl rfl rfl) .free rfl ?_
    rintro _ _ rfl
    refine kPa rfl rfl ?_; refine p_nil ?_; refine go_sub (σ' := [(6, _), (7, _), (5, _), (4, _), (3, _), (2, _)]) ⟨rfl, rfl, rfl, rfl, rfl, rfl, trivial⟩ ?_; refine g_seq ?_; refine g_seq ?_; refine g_region ?_; refine kPm rfl rfl ?_; refine kPv (ev_cmp rfl rfl rfl) rfl ?_; refine p_nil ?_
    refine g_if rfl (fun h31 => ?_) (fun h31 => ?_)
    · have he2 : (s.starts c (s.block c).1).2 ≠ 0 := by simpa using h31
      have hres : s.check c = (s.starts c (s.block c).1).2 := by unfold Dev.check; rw [if_neg (by omega), if_pos he2]
      refine g_seq ?_; refine g_region ?_; refine kPm rfl rfl ?_; refine kPa rfl rfl ?_; refine p_nil ?_; refine g_ret ?_
      exact ret_tmp_m Tryz.results27 rfl (.nil) (fun w hh => ⟨by rw [hres] <;> rfl, (hh.dp [0, 0, 1, 1, 1, 1])⟩)
    · have he2 : (s.starts c (s.block c).1).2 = 0 := by simpa using h31
      refine g_skip ?_; refine g_seq ?_; refine g_region ?_; refine p_chg rfl (ch_alloc1 Tryz.zeroValue46 rfl) .free rfl rfl ?_
      rintro _ _ ⟨b8, rfl, rfl⟩
      refine p_chg0 rfl (ch_store Tryz.sizeOf46 rfl rfl rfl rfl) .free rfl ?_
      rintro _ _ rfl
      refine p_nil ?_; refine g_seq ?_; refine g_region ?_; refine kPv (ev_mkf rfl rfl) rfl ?_; refine p_chg rfl (ch_alloc1 Tryz.zeroValue129 rfl) .free rfl rfl ?_
      rintro _ _ ⟨b9, rfl, rfl⟩
      refine p_chg0 rfl (ch_store Tryz.sizeOf129 rfl rfl rfl rfl) .free rfl ?_
      rintro _ _ rfl
      refine go_pk [6] ?_; refine go_vecq fun qo co hqe hqo => ?_
      subst hqe
      refine p_nil ?_; refine g_seq ?_; refine g_seq ?_; refine g_region ?_; refine kPv (ev_fa (m := _) fa_33_2 rfl rfl) rfl ?_; refine kPv (ev_load Tryz.isAgg31 rfl rfl) rfl ?_; refine kPv (ev_len rfl Tryz.runUnderlying31 ⟨_, rfl⟩ rfl) rfl ?_; refine kPm rfl rfl ?_; refine p_nil ?_; refine g_block ?_
      refine g_loopk (ι := Nat) [36, 35, 9, 8, 5, 4, 3, 2] (fun k => (k ≤ (s.block c).1.rts.length) ∧ (((s.block c).1.rts.take k).all (namesM c (s.block c).1 (s.starts c (s.block c).1).1) = true)) (fun k => [(37, i64 k)]) (fun k => row b5 [i64 (s.block c).1.act, i64 (s.block c).1.used, .slice qo (s.block c).1.rts.length co] 33 :: row b3 [i64 c.log, i64 c.roots, i64 c.space] 30 :: row b7 [.map (some mb)] 124 :: mapA .i64 objV mb (s.starts c (s.block c).1).1 :: VecU 0 (.slice qo (s.block c).1.rts.length co, (s.block c).1.rts) :: DevA bd s :: row b8 [i64 0] 46 :: row b9 [.func (.func 81) #[] #[ptr b5, ptr b3, ptr b7]] 129 :: row b2 [ptr bd] 28 :: Fr) (fun k => (s.block c).1.rts.length - k) (0) (⟨Nat.zero_le _, rfl⟩) (fun a w st => st.to ⟨rfl, trivial⟩ (fun hh => (hh.pk [6, 6, 3, 3, 0, 2, 1]))) ?_
      rintro k ⟨hk0, hkr⟩
      try simp only at hk0 hkr ⊢
      refine go_sub (σ' := [(37, i64 k), (36, _), (35, _), (9, _), (8, _), (5, _), (4, _), (3, _), (2, _)]) ⟨rfl, rfl, rfl, rfl, rfl, rfl, rfl, rfl, rfl, trivial⟩ ?_; refine g_seq ?_; refine g_region ?_; refine kPv (ev_cmp rfl rfl rfl) rfl ?_; refine p_nil ?_; refine g_seq ?_
      refine g_if rfl (fun h38 => ?_) (fun h38 => ?_)
      · have hk : k < (s.block c).1.rts.length := by simp at h38; omega
        obtain ⟨bq, oq, rfl⟩ := hqo k hk
        have hul : 0 ≤ (s.block c).1.rts[k] ∧ (s.block c).1.rts[k] < 18446744073709551616 := block_rts hu _ (List.getElem_mem hk)
        refine g_skip ?_; refine g_seq ?_; refine g_block ?_; refine g_seq ?_; refine g_region ?_; refine kPv (ev_iaS Tryz.runUnderlying31 Tryz.sizeOf52 rfl rfl (by omega) (by omega)) rfl ?_
        refine kPv (ev_loadS (v := w64 (s.block c).1.rts[k]) Tryz.isAgg52 (vec_slr 4 rfl) rfl (by rw [Int.toNat_natCast, List.getElem?_map, List.getElem?_eq_getElem hk]; rfl)) rfl ?_
        refine kPa rfl rfl ?_; refine p_nil ?_; refine g_seq ?_; refine g_region ?_; refine kPv (ev_load Tryz.isAgg129 rfl rfl) rfl ?_; refine kPm rfl rfl ?_; refine p_callq rfl (en_c Tryz.call81 rfl rfl) (cnames_ok B _ b5 b3 b7 mb c hc (s.block c).1 _ hbk rfl (s.starts c (s.block c).1).1 (s.block c).1.rts[k] hul) .free rfl rfl ?_; refine kPv (ev_not rfl) rfl ?_; refine p_nil ?_
        refine go_sub (σ' := [(44, _), (37, _), (36, _), (35, _), (9, _), (8, _), (5, _), (4, _), (3, _), (2, _)]) ⟨rfl, rfl, rfl, rfl, rfl, rfl, rfl, rfl, rfl, rfl, trivial⟩ ?_
        refine g_if rfl (fun h44 => ?_) (fun h44 => ?_)
        · have hnr : ¬ (namesM c (s.block c).1 (s.starts c (s.block c).1).1) (s.block c).1.rts[k] = true := by simpa using h44
          have hres : s.check c = 9 := by unfold Dev.check; rw [if_neg (by omega), if_neg (by omega), if_neg (fun hh => hnr (List.all_eq_true.1 hh _ (List.getElem_mem hk)))]
          refine g_seq ?_; refine g_region ?_; refine kPa rfl rfl ?_; refine p_nil ?_; refine g_ret ?_
          exact ret_tmp_m Tryz.results27 rfl (.nil) (fun w hh => ⟨by rw [hres] <;> rfl, (hh.dp [0, 0, 0, 0, 0, 1, 1, 1])⟩)
        · have hnr : (namesM c (s.block c).1 (s.starts c (s.block c).1).1) (s.block c).1.rts[k] = true := by simpa using h44
          refine g_skip ?_; refine g_region ?_
          first | refine p_val rfl (ev_add rfl rfl (wr64 (by omega))) .free rfl rfl ?_ | refine p_val rfl (ev_add rfl rfl rfl) .free rfl rfl ?_
          refine kPm rfl rfl ?_; refine p_nil ?_
          exact fun a w st_ => ⟨k + 1, ⟨by first | omega | (simp only; omega), take_succ_all hk hkr hnr⟩, by first | omega | (simp only; omega), st_.to ⟨rfl, rfl, rfl, rfl, rfl, rfl, rfl, rfl, rfl, trivial⟩ (fun hh => hh)⟩
      · have hk : ¬ k < (s.block c).1.rts.length := by simp at h38; omega
        obtain rfl : k = (s.block c).1.rts.length := by omega
        have hres : s.check c = (itl (stC s (namesM c (s.block c).1 (s.starts c (s.block c).1).1)) (s.objs c (s.block c).1 ((s.block c).1.used.toNat + 1) ((s.block c).1.place c 0)) 0).2 := by unfold Dev.check; rw [if_neg (by omega), if_neg (by omega), if_pos (by rw [List.take_length] at hkr; exact hkr)]
        refine g_exit ?_; refine g_seq ?_; refine g_label ?_; refine g_seq ?_; refine g_seq ?_; refine g_region ?_; refine kPv (ev_load Tryz.isAgg28 rfl rfl) rfl ?_; refine kPv (ev_loadA Tryz.isAgg30 Tryz.sizeOf30 rfl rfl) rfl ?_; refine kPv (ev_loadA Tryz.isAgg33 Tryz.sizeOf33 rfl rfl) rfl ?_
        refine p_call rfl (en_f Tryz.call83 rfl) (wobjs_ok _ _ bd c (s.block c).1 (.slice qo (s.block c).1.rts.length co) rfl) .free rfl rfl ?_ ?_
        rotate_left
        · rintro _ _ ⟨⟩
        rintro _ _ ⟨c3, c4, c5, rfl, rfl⟩
        refine p_nil ?_; refine go_sub (σ' := [(49, _), (9, _), (8, _), (4, _), (2, _)]) ⟨rfl, rfl, rfl, rfl, rfl, trivial⟩ ?_; refine g_block ?_; refine g_range rfl Tryz.call109 ?_
        intro l m tmps hts hkn w hh
        have hk9 := hkn 9 _ rfl
        have hk2 := hkn 2 _ rfl
        have hk8 := hkn 8 _ rfl
        refine (wobj1_ok B (blk m (.deferred (some [])) :: VecU 0 (.slice qo (s.block c).1.rts.length co, (s.block c).1.rts) :: Fr) l 27 c3 c4 c5 bd c hc (s.block c).1 _ hbk rfl s Int _ rfl rfl (fun x => True) (fun x => [row b8 [i64 x] 46, row b5 [i64 (s.block c).1.act, i64 (s.block c).1.used, .slice qo (s.block c).1.rts.length co] 33, row b3 [i64 c.log, i64 c.roots, i64 c.space] 30, row b7 [.map (some mb)] 124, mapA .i64 objV mb (s.starts c (s.block c).1).1, row b9 [.func (.func 81) #[] #[ptr b5, ptr b3, ptr b7]] 129, row b2 [ptr bd] 28]) (fun _ => .exit 2) (stC s (namesM c (s.block c).1 (s.starts c (s.block c).1).1)) 0 trivial ?_ w (hh.pk [0, 1, 1, 1, 6, 6, 1, 1, 1, 1, 2, 2])).mono (Ret.mono ?_ fun _ _ h => h.elim)
        · intro p x hpw _
          have hp2 := hpw.r
          have hp1 := hpw.w
          have hp3 := hpw.at_
          refine ⟨trivial, fun E => ?_⟩
          simp only [List.cons_append, List.nil_append]
          refine round_go (n := 70) (σ := [(50, objV p.1), (51, i64 p.2), (9, ptr b9), (2, ptr b2), (8, ptr b8)]) Tryz.func27 (by simp [lrec, hts]) (KnA.knows (by simp [KnA, lrec, hts]; exact ⟨(Array.getElem?_eq_some_iff.1 hk9).2, (Array.getElem?_eq_some_iff.1 hk2).2, (Array.getElem?_eq_some_iff.1 hk8).2⟩)) rfl ?_
          refine g_region ?_; refine p_chg rfl (ch_allocA Tryz.zeroValue89 rfl) .free rfl rfl ?_
          rintro _ _ ⟨b12, rfl, rfl⟩
          refine p_chg0 rfl (ch_storeA (vs := [i64 p.1.1, i64 p.1.2.1, i64 p.1.2.2]) Tryz.sizeOf89 rfl rfl rfl rfl rfl) .free rfl ?_
          rintro _ _ rfl
          refine p_nil ?_; refine go_pk [1] ?_; refine go_mid ?_; refine g_block ?_; refine g_seq ?_
          generalize hrec : ({ state := LoopState.busy, .. } : Loop) = rec
          refine g_region ?_; refine kPv (ev_fa (m := _) fa_89_0 rfl rfl) rfl ?_; refine kPv (ev_fa (m := _) fa_87_1 rfl rfl) rfl ?_; refine kPv (ev_load Tryz.isAgg3 rfl rfl) rfl ?_; refine kPm rfl rfl ?_; refine p_nil ?_; refine g_block ?_
          refine g_loopk (ι := Nat) [54, 12, 9, 2, 8] (fun j => ((j : Int) ≤ p.1.2.1) ∧ ((List.range j).all (fun k => (namesM c (s.block c).1 (s.starts c (s.block c).1).1) (s.load (p.1.2.2 + 1 + (k : Int)))) = true)) (fun j => [(55, i64 j)]) (fun j => row b5 [i64 (s.block c).1.act, i64 (s.block c).1.used, .slice qo (s.block c).1.rts.length co] 33 :: row b3 [i64 c.log, i64 c.roots, i64 c.space] 30 :: row b7 [.map (some mb)] 124 :: mapA .i64 objV mb (s.starts c (s.block c).1).1 :: row b12 [i64 p.1.1, i64 p.1.2.1, i64 p.1.2.2] 89 :: blk l (.loop rec) :: row c5 [i64 (s.block c).1.act, i64 (s.block c).1.used, .slice qo (s.block c).1.rts.length co] 33 :: row c4 [i64 c.log, i64 c.roots, i64 c.space] 30 :: row c3 [ptr bd] 28 :: DevA bd s :: row b8 [i64 x] 46 :: row b9 [.func (.func 81) #[] #[ptr b5, ptr b3, ptr b7]] 129 :: row b2 [ptr bd] 28 :: E) (fun j => p.1.2.1.toNat - j) (0) (⟨by first | omega | (simp only; omega), rfl⟩) (fun a w st => st.to ⟨rfl, trivial⟩ (fun hh => (hh.pk [7, 7, 7, 7, 1]))) ?_
          rintro j ⟨hj0, hall⟩
          try simp only at hj0 hall ⊢
          refine go_sub (σ' := [(55, i64 j), (54, _), (12, _), (9, _), (2, _), (8, _)]) ⟨rfl, rfl, rfl, rfl, rfl, rfl, trivial⟩ ?_; refine g_seq ?_; refine g_region ?_; refine kPv (ev_cmp rfl rfl rfl) rfl ?_; refine p_nil ?_; refine g_seq ?_
          refine g_if rfl (fun h56 => ?_) (fun h56 => ?_)
          · have hj : (j : Int) < p.1.2.1 := by simpa using h56
            refine g_skip ?_; refine g_seq ?_; refine g_block ?_; refine g_seq ?_; refine g_region ?_; refine kPm rfl rfl ?_; refine kPa rfl rfl ?_; refine p_nil ?_; refine g_seq ?_; refine g_draw Tryz.mixed (by kernel_rfl) (by kernel_rfl) ?_; refine kQv (ev_load Tryz.isAgg129 rfl rfl) rfl ?_; refine kQv (ev_load Tryz.isAgg28 rfl rfl) rfl ?_; refine kQv (ev_fa (m := _) fa_89_1 rfl rfl) rfl ?_; refine kQv (ev_load Tryz.isAgg3 rfl rfl) rfl ?_
            first | refine q_val rfl (ev_add rfl rfl (wr64 (by omega))) .free rfl ?_ | refine q_val rfl (ev_add rfl rfl rfl) .free rfl ?_
            refine kQm rfl rfl ?_
            first | refine q_val rfl (ev_add rfl rfl (wr64 (by omega))) .free rfl ?_ | refine q_val rfl (ev_add rfl rfl rfl) .free rfl ?_
            refine q_call rfl (en_f Tryz.call72 rfl) (ro_at (q := DevA) (fun Fr => nload_ok _ Fr _ _ _)) .free rfl ?_; refine q_call rfl (en_c Tryz.call81 rfl rfl) (cnames_ok B _ b5 b3 b7 mb c hc (s.block c).1 _ hbk rfl (s.starts c (s.block c).1).1 (s.load (p.1.2.2 + 1 + (j : Int))) (hu.load _)) .free rfl ?_; refine kQv (ev_not rfl) rfl ?_; refine q_nil ?_; refine go_sub (σ' := [(67, _), (55, _), (54, _), (12, _), (9, _), (2, _), (8, _)]) ⟨rfl, rfl, rfl, rfl, rfl, rfl, rfl, trivial⟩ ?_
            refine g_if rfl (fun h67 => ?_) (fun h67 => ?_)
            · have hnall : ¬ (namesM c (s.block c).1 (s.starts c (s.block c).1).1) (s.load (p.1.2.2 + 1 + (j : Int))) = true := by simpa using h67
              subst hrec
              refine g_seq ?_; refine g_region ?_; refine p_chg0 rfl (ch_store Tryz.sizeOf46 rfl rfl rfl rfl) .free rfl ?_
              rintro _ _ rfl
              refine p_nil ?_; refine g_exit ?_
              have hst : stC s (namesM c (s.block c).1 (s.starts c (s.block c).1).1) p x = (false, 9) := by unfold stC; rw [if_neg (show ¬ refsM s (namesM c (s.block c).1 (s.starts c (s.block c).1).1) p.1 = true from fun hh => hnall (List.all_eq_true.1 hh j (List.mem_range.2 (by omega))))]
              refine go_pk [5] ?_
              exact go_rJ fun w hh => ⟨_, ⟨by rw [hst], rfl⟩, by rw [hst]; exact ((hh.dp [5]).pk [0, 4, 4, 4, 4, 4])⟩
            · have hnm : (namesM c (s.block c).1 (s.starts c (s.block c).1).1) (s.load (p.1.2.2 + 1 + (j : Int))) = true := by simpa using h67
              refine g_skip ?_; refine g_region ?_
              first | refine p_val rfl (ev_add rfl rfl (wr64 (by omega))) .free rfl rfl ?_ | refine p_val rfl (ev_add rfl rfl rfl) .free rfl rfl ?_
              refine kPm rfl rfl ?_; refine p_nil ?_
              exact fun a w st_ => ⟨j + 1, ⟨by first | omega | (simp only; omega), range_succ_all hall hnm⟩, by first | omega | (simp only; omega), st_.to ⟨rfl, rfl, rfl, rfl, rfl, rfl, trivial⟩ (fun hh => hh)⟩
          · have hj : ¬ (j : Int) < p.1.2.1 := by simpa using h56
            have hall2 : refsM s (namesM c (s.block c).1 (s.starts c (s.block c).1).1) p.1 = true := by unfold refsM; rw [show p.1.2.1.toNat = j by omega]; exact hall
            subst hrec
            refine g_exit ?_
            have hst : stC s (namesM c (s.block c).1 (s.starts c (s.block c).1).1) p x = (true, x) := by unfold stC; rw [if_pos hall2]
            refine go_pk [5] ?_
            exact go_rK fun w hh => ⟨_, ⟨by rw [hst], rfl⟩, by rw [hst]; exact ((hh.dp [5]).pk [0, 4, 4, 4, 4, 4])⟩
        rintro _ _ ⟨_, rfl⟩
        simp only [List.cons_append, List.nil_append]
        refine ⟨_, _, fun w hh => hh, lst_busy (by simp [lrec]), fun hp => ?_, fun c' hc' => ?_⟩
        rotate_left
        · obtain ⟨h1, rfl⟩ := lst_some rfl hc'
          refine g_exit ?_; refine g_seq ?_; refine g_region ?_; refine kPv (ev_load Tryz.isAgg46 rfl rfl) rfl ?_; refine kPa rfl rfl ?_; refine p_nil ?_; refine g_ret ?_
          exact ret_tmp_m Tryz.results27 rfl (.at 12 (.nil)) (fun w hh => ⟨by rw [hres] <;> rfl, (hh.dp [0, 0, 0, 0, 1, 1, 1, 1, 1, 1, 1, 1, 1])⟩)
        refine g_seq ?_; refine g_region ?_; refine kPv (ev_load Tryz.isAgg46 rfl rfl) rfl ?_; refine kPa rfl rfl ?_; refine p_nil ?_; refine g_ret ?_
        exact ret_tmp_m Tryz.results27 rfl (.at 12 (.nil)) (fun w hh => ⟨by rw [hres] <;> rfl, (hh.dp [0, 0, 0, 0, 1, 1, 1, 1, 1, 1, 1, 1, 1])⟩)
end Go.Proofs.YtbfheafpecgphaaGreat
namespace Go.Proofs.YtbfheafpecgphaaGreat
open Go
section
variable {B : World} {σ : Env} {H Fr : List HP} {P : Program} {d : Option Tmp} {ty : TypeId} {p : String} {af : Array Edge} {g : Option (Nat × Bool)} {w : World}
theorem ev_fieldA {H : List HP} {S f t off m : Nat} {fs : Array Field} {x : Operand} {cs : List Value} (hS : ∀ w, (underlying S).run P w = .ok (.struct fs) w) (hf : (fs[f]?).map (fun fd => (fd.type, fd.offset)) = some (t, off)) (ha : ∀ w, (isAgg t).run P w = .ok true w) (hs : ∀ w, (sizeOf t).run P w = .ok m w) (hx : evO σ x = some (.agg cs.toArray)) :
    Evs P B σ H ⟨d, .field S x f, ty, p, af, g⟩ (.agg ((cs.drop off).take m).toArray) := fun a w kn _ => by
  cases e : fs[f]? with
  | none => rw [e] at hf; cases hf
  | some fd =>
    rw [e] at hf
    simp only [Option.map_some, Option.some.injEq, Prod.mk.injEq] at hf
    obtain ⟨h1, h2⟩ := hf
    subst h1; subst h2
    simp [execOp, Instr.field, hS, e, kn.eval hx, asAgg, part, ha, hs]
theorem ev_field1 {H : List HP} {S f t off : Nat} {fs : Array Field} {x : Operand} {cs : List Value} {v : Value} (hS : ∀ w, (underlying S).run P w = .ok (.struct fs) w) (hf : (fs[f]?).map (fun fd => (fd.type, fd.offset)) = some (t, off)) (ha : ∀ w, (isAgg t).run P w = .ok false w) (hx : evO σ x = some (.agg cs.toArray)) (hv : cs[off]? = some v) :
    Evs P B σ H ⟨d, .field S x f, ty, p, af, g⟩ v := fun a w kn _ => by
  cases e : fs[f]? with
  | none => rw [e] at hf; cases hf
  | some fd =>
    rw [e] at hf
    simp only [Option.map_some, Option.some.injEq, Prod.mk.injEq] at hf
    obtain ⟨h1, h2⟩ := hf
    subst h1; subst h2
    simp [execOp, Instr.field, hS, e, kn.eval hx, asAgg, part, ha, hv]
structure SlM (B : World) (H : List HP) (v : Value) (m n : Nat) (cs : List Value) : Prop where
  ex : ∃ q cap, v = .slice q n cap ∧ cs.length = n * m ∧ ∀ w, Holds B H w → ∀ i, i < n * m → ∃ b off, q = some ⟨b, off, none⟩ ∧ w.cell? ⟨b, off + i, none⟩ = cs[i]?
theorem SlM.row {b off n cap m : Nat} {cs xs : List Value} {T : TypeId} {U : List Value → List HP} [RowU H b cs T U] (h : (cs.drop off).take (n * m) = xs) (hl : xs.length = n * m) : SlM B H (.slice (some ⟨b, off, none⟩) n cap) m n xs := by
  refine ⟨_, cap, rfl, hl, fun w hh i hi => ⟨b, off, rfl, ?_⟩⟩
  rw [hh.ucell (b := b) (off + i), ← h, List.getElem?_take, if_pos hi, List.getElem?_drop]
theorem SlM.first {v : Value} {m n : Nat} {cs : List Value} (h : SlM B H v m n cs) (hh : Holds B H w) : (Builtin.firstCells m n v).run P w = .ok cs.toArray w := by
  obtain ⟨q, cap, rfl, hl, hc⟩ := h.ex
  rcases Nat.eq_zero_or_pos (n * m) with e0 | hpos
  · have : cs = [] := by rw [← List.length_eq_zero_iff]; omega
    subst this
    cases q <;> simp [Builtin.firstCells, loadCells, e0, loadCellsFrom]
  · obtain ⟨b, off, rfl, _⟩ := hc w hh 0 hpos
    simp only [Builtin.firstCells, loadCells]
    have := run_loadCellsS (P := P) (b := b) (off := off) (cs := cs) (w := w) (fun i hi => by
      obtain ⟨b', off', e', h'⟩ := hc w hh i (by omega)
      cases e'; exact h') (n * m) 0 #[] (by omega)
    rw [this]
    simp [List.take_of_length_le (Nat.le_of_eq hl)]
theorem zeroCells_size (z : Array Value) (n : Nat) : (Builtin.zeroCells z n).size = n * z.size := by simp [Builtin.zeroCells]
theorem slcap_b {n cap bytes : Nat} (hn : n ≤ 1000000000) (hc : cap ≤ n) (hb : bytes ≤ 65536) : Builtin.nextslicecap n cap * bytes ≤ 281474976710656 := by
  have h3 : Builtin.nextslicecap n cap ≤ 4000000000 := by
    unfold Builtin.nextslicecap
    split
    · omega
    · split
      · omega
      · simp only [Builtin.growBy]
        repeat' split
        all_goals omega
  calc _ ≤ 4000000000 * 65536 := Nat.mul_le_mul h3 hb
    _ ≤ _ := by omega
theorem ch_appendM {t e : TypeId} {x y : Operand} {at_ : Array TypeId} {u : TypeId} {ud : TypeDesc} {b off len cap m n : Nat} {cs xs : List Value} {T : TypeId} {U : List Value → List HP} {z sv : Value}
    (ha : at_[0]? = some t) (ha' : at_[1]? = some u) (ht : ∀ w, (underlying t).run P w = .ok (.slice e) w) (hu : ∀ w, (underlying u).run P w = .ok ud w) (hud : ∃ q, ud = .slice q) (hs : ∀ w, (sizeOf e).run P w = .ok m w) (hz : ∀ w, (zeroValue e).run P w = .ok z w) (hz1 : z.cells.size = m) (hfb : fewBytes P e)
    (hx : evO σ x = some (.slice (some ⟨b, off, none⟩) len cap)) (hy : evO σ y = some sv) (hr : SlM B H sv m n xs) [r : RowU H b cs T U] (h1 : off + cap * m ≤ cs.length) (hlc : len ≤ cap) (hn : len + n ≤ 1000000000)
    (hv : xs.all cell1 = true) :
    Chg P B σ H ⟨d, .call ⟨.builtin .append, #[x, y], at_⟩, ty, p, af, g⟩ (fun v H' =>
      (len + n ≤ cap ∧ v = .slice (some ⟨b, off, none⟩) (len + n) cap ∧ H' = U (setAll cs (off + len * m) xs)) ∨
      (cap < len + n ∧ ∃ bn cn rest, len + n ≤ cn ∧ rest.length = (cn - (len + n)) * m ∧ v = .slice (some ⟨bn, 0, none⟩) (len + n) cn ∧ H' = row bn ((cs.drop off).take (len * m) ++ xs ++ rest) e :: H)) := by
  obtain ⟨ti, hti, hb, hb0⟩ := ti_of hfb
  intro a w kn hh
  have hlm : len * m ≤ cap * m := Nat.mul_le_mul_right m hlc
  have e4 := (SlM.row (B := B) (H := H) (b := b) (off := off) (n := len) (cap := cap) (m := m) (xs := (cs.drop off).take (len * m)) rfl (by simp; omega))
  obtain ⟨q, rfl⟩ := hud
  obtain ⟨sq, scap, e0, hl, _⟩ := hr.ex
  subst e0
  by_cases hcap : len + n ≤ cap
  · have hnm : (len + n) * m ≤ cap * m := Nat.mul_le_mul_right m hcap
    rw [Nat.add_mul] at hnm
    obtain ⟨w', e1, hw'⟩ := run_storeCells (P := P) xs (off + len * m) 0 r hh (by omega) (fun v h => List.all_eq_true.1 hv v h)
    have e2 := hr.first (P := P) hh
    refine ⟨.value (.slice (some ⟨b, off, none⟩) (len + n) cap), w', ?_, _, .inl rfl, _, .inl ⟨hcap, rfl, rfl⟩, by simpa using hw'⟩
    simp only [execOp, resolve, Sem.run_bind, Sem.run_pure, Result.andThen_ok]
    simp [invoke, builtin, Builtin.append_, ha, ha', hu, kn.eval hx, kn.eval hy, ht, hs, Builtin.lenOf, hcap, e2, add_eq]
    simp [e1]
  · have hb2 := slcap_b (n := len + n) (cap := cap) hn (by omega) hb
    have hq : (Question.appendCap (len + n) cap e).forced = false := rfl
    have hcut : ∃ cn, (Question.appendCap (len + n) cap e).cut (w.tape w.drawn (.appendCap (len + n) cap e)) = cn ∧ len + n ≤ cn := ⟨_, rfl, by simp [Question.cut]⟩
    obtain ⟨cn, ec, hcn⟩ := hcut
    obtain ⟨zl, hzl⟩ : ∃ l : List Value, Builtin.zeroCells z.cells (cn - (len + n)) = l.toArray := ⟨_, (Array.toArray_toList).symm⟩
    have hzs : zl.length = (cn - (len + n)) * m := by have := zeroCells_size z.cells (cn - (len + n)); rw [hzl, hz1] at this; simpa using this
    refine ⟨.value (.slice (some ⟨w.heap.size, 0, none⟩) (len + n) cn), { w with drawn := w.drawn + 1, heap := w.heap.push (.cells ((cs.drop off).take (len * m) ++ xs ++ zl).toArray e) }, ?_, _, .inl rfl, _, .inr ⟨by omega, w.heap.size, cn, zl, hcn, hzs, rfl, rfl⟩, by simpa [row] using (hh.drew (w.drawn + 1)).new (.cells ((cs.drop off).take (len * m) ++ xs ++ zl).toArray e)⟩
    · simp only [execOp, resolve, Sem.run_bind, Sem.run_pure, Result.andThen_ok]
      have e2w : (Builtin.firstCells m n (.slice sq n scap)).run P w.drew = .ok xs.toArray w.drew := hr.first (P := P) (hh.drew (w.drawn + 1))
      have e4w : (Builtin.firstCells m len (Value.slice (some ⟨b, off, none⟩) len cap)).run P w.drew = .ok ((cs.drop off).take (len * m)).toArray w.drew := e4.first (P := P) (hh.drew (w.drawn + 1))
      simp only [invoke, builtin, Builtin.append_, ha, ha', Sem.run_bind, hu, kn.eval hx, kn.eval hy, ht, hs, Builtin.lenOf, Result.andThen_ok, Sem.run_pure, List.map_toArray, List.map_cons, List.map_nil, List.getElem?_toArray, List.getElem?_cons_zero, List.getElem?_cons_succ]
      simp [hcap, hti, hq, ec, Nat.not_lt.2 hb2, hb0, e2w, e4w, hz, run_newRow, show ¬ (2 ^ 63 - 1 : Int) < (len : Int) + n by omega]
      have e9 : ((List.take (len * m) (List.drop off cs)).toArray ++ (xs.toArray ++ Builtin.zeroCells z.cells (cn - (len + n)))) = (List.take (len * m) (List.drop off cs) ++ (xs ++ zl)).toArray := by rw [hzl]; simp
      rw [e9]; rfl
theorem ch_appendM_nil {t e : TypeId} {x y : Operand} {at_ : Array TypeId} {u : TypeId} {ud : TypeDesc} {m n : Nat} {xs : List Value} {z sv : Value}
    (ha : at_[0]? = some t) (ha' : at_[1]? = some u) (ht : ∀ w, (underlying t).run P w = .ok (.slice e) w) (hu : ∀ w, (underlying u).run P w = .ok ud w) (hud : ∃ q, ud = .slice q) (hs : ∀ w, (sizeOf e).run P w = .ok m w) (hz : ∀ w, (zeroValue e).run P w = .ok z w) (hz1 : z.cells.size = m) (hfb : fewBytes P e)
    (hx : evO σ x = some (.slice none 0 0)) (hy : evO σ y = some sv) (hr : SlM B H sv m n xs) (hn0 : 0 < n) (hn : n ≤ 1000000000) :
    Chg P B σ H ⟨d, .call ⟨.builtin .append, #[x, y], at_⟩, ty, p, af, g⟩ (fun v H' => ∃ bn cn rest, n ≤ cn ∧ rest.length = (cn - n) * m ∧ v = .slice (some ⟨bn, 0, none⟩) n cn ∧ H' = row bn (xs ++ rest) e :: H) := by
  obtain ⟨ti, hti, hb, hb0⟩ := ti_of hfb
  intro a w kn hh
  obtain ⟨q, rfl⟩ := hud
  obtain ⟨sq, scap, e0, hl, _⟩ := hr.ex
  subst e0
  have hb2 := slcap_b (n := n) (cap := 0) hn (by omega) hb
  have hq : (Question.appendCap n 0 e).forced = false := rfl
  have hcut : ∃ cn, (Question.appendCap n 0 e).cut (w.tape w.drawn (.appendCap n 0 e)) = cn ∧ n ≤ cn := ⟨_, rfl, by simp [Question.cut]⟩
  obtain ⟨cn, ec, hcn⟩ := hcut
  obtain ⟨zl, hzl⟩ : ∃ l : List Value, Builtin.zeroCells z.cells (cn - n) = l.toArray := ⟨_, (Array.toArray_toList).symm⟩
  have hzs : zl.length = (cn - n) * m := by have := zeroCells_size z.cells (cn - n); rw [hzl, hz1] at this; simpa using this
  refine ⟨.value (.slice (some ⟨w.heap.size, 0, none⟩) n cn), { w with drawn := w.drawn + 1, heap := w.heap.push (.cells (xs ++ zl).toArray e) }, ?_, _, .inl rfl, _, ⟨w.heap.size, cn, zl, hcn, hzs, rfl, rfl⟩, by simpa [row] using (hh.drew (w.drawn + 1)).new (.cells (xs ++ zl).toArray e)⟩
  · simp only [execOp, resolve, Sem.run_bind, Sem.run_pure, Result.andThen_ok]
    have e2w : (Builtin.firstCells m n (.slice sq n scap)).run P w.drew = .ok xs.toArray w.drew := hr.first (P := P) (hh.drew (w.drawn + 1))
    have e4w : (Builtin.firstCells m 0 (Value.slice none 0 0)).run P w.drew = .ok #[] w.drew := by simp [Builtin.firstCells]
    simp only [invoke, builtin, Builtin.append_, ha, ha', Sem.run_bind, hu, kn.eval hx, kn.eval hy, ht, hs, Builtin.lenOf, Result.andThen_ok, Sem.run_pure, List.map_toArray, List.map_cons, List.map_nil, List.getElem?_toArray, List.getElem?_cons_zero, List.getElem?_cons_succ]
    simp [show ¬ n = 0 by omega, hti, hq, ec, Nat.not_lt.2 hb2, hb0, e2w, e4w, hz, run_newRow, show ¬ (2 ^ 63 - 1 : Int) < (n : Int) by omega]
    have e9 : (xs.toArray ++ Builtin.zeroCells z.cells (cn - n)) = (xs ++ zl).toArray := by rw [hzl]; simp
    rw [e9]; rfl
end
def VecG {α : Type} (T : TypeId) (m : Nat) (enc : α → List Value) (_ : Nat) (x : Value × List α) : HP := hex fun (o : Option (Nat × List Value × List Value × Nat)) => match o with
  | none => pr (x.2 = [] ∧ x.1 = .slice none 0 0)
  | some (bd, pre, rest, k) => grp [row bd (pre ++ x.2.flatMap enc ++ rest) T, pr (k * m ≤ rest.length ∧ x.1 = .slice (some ⟨bd, pre.length, none⟩) x.2.length (x.2.length + k))]
structure EncW {α : Type} (m : Nat) (enc : α → List Value) : Prop where
  len : ∀ a, (enc a).length = m
  c1 : ∀ a, (enc a).all cell1 = true
theorem flat_len {α : Type} {m : Nat} {enc : α → List Value} (he : EncW m enc) : ∀ xs : List α, (xs.flatMap enc).length = xs.length * m
  | [] => by simp
  | a :: t => by simp only [List.flatMap_cons, List.length_append, he.len, flat_len he t, List.length_cons, Nat.add_mul, Nat.one_mul]; omega
theorem flat_c1 {α : Type} {m : Nat} {enc : α → List Value} (he : EncW m enc) (xs : List α) : (xs.flatMap enc).all cell1 = true := by
  rw [List.all_eq_true]; intro v hv
  obtain ⟨a, _, ha⟩ := List.mem_flatMap.1 hv
  exact List.all_eq_true.1 (he.c1 a) v ha
theorem flat_get {α : Type} {m : Nat} {enc : α → List Value} (he : EncW m enc) : ∀ (xs : List α) (i : Nat) (a : α), xs[i]? = some a → ∀ j, j < m → (xs.flatMap enc)[i * m + j]? = (enc a)[j]?
  | [], i, a, h, j, hj => by cases h
  | x :: t, 0, a, h, j, hj => by
    cases h
    rw [List.flatMap_cons, Nat.zero_mul, Nat.zero_add, List.getElem?_append_left (by rw [he.len]; exact hj)]
  | x :: t, i + 1, a, h, j, hj => by
    rw [List.flatMap_cons, List.getElem?_append_right (by rw [he.len, Nat.add_mul]; omega), he.len, show (i + 1) * m + j - m = i * m + j by rw [Nat.add_mul]; omega]
    exact flat_get he t i a h j hj
theorem setAll_app : ∀ (vs a b c : List Value), b.length = vs.length → setAll (a ++ b ++ c) a.length vs = a ++ vs ++ c
  | [], a, b, c, h => by cases b with
    | nil => rfl
    | cons _ _ => cases h
  | v :: vs, a, b, c, h => by
    cases b with
    | nil => cases h
    | cons x b =>
      simp only [setAll]
      have e : (a ++ (x :: b) ++ c).set a.length v = (a ++ [v]) ++ b ++ c := by simp
      rw [e, show a.length + 1 = (a ++ [v]).length by simp, setAll_app vs (a ++ [v]) b c (by simpa using h)]
      simp
section
variable {α : Type} {B : World} {n : Nat} {D : List Deferred} {σ : Env} {H Fr : List HP} {P : Program} {K : Act → World → Prop} {T : TypeId} {m : Nat} {enc : α → List Value} {sv : Value} {xs : List α} {w : World}
theorem vecg_nil (h : Holds B Fr w) : Holds B (VecG T m enc 0 (.slice none 0 0, []) :: Fr) w := Holds.unhex none (h.unpr ⟨rfl, rfl⟩)
theorem vecg_rowp {bd q c k : Nat} {pre rest : List Value} (hm : q = xs.length) (hc : c = q + k) (hk : k * m ≤ rest.length) {o : Nat} (ho : o = pre.length) (h : Holds B (row bd (pre ++ xs.flatMap enc ++ rest) T :: Fr) w) : Holds B (VecG T m enc 0 (.slice (some ⟨bd, o, none⟩) q c, xs) :: Fr) w := by
  subst hm; subst hc; subst ho
  refine Holds.unhex (some (bd, pre, rest, k)) (Holds.ungrp (l := [row bd (pre ++ xs.flatMap enc ++ rest) T, pr _]) ?_)
  exact (h.unpr ⟨hk, rfl⟩).back 1 (by simp)
theorem holds_vecg (h : Holds B (VecG T m enc 0 (sv, xs) :: Fr) w) : (xs = [] ∧ sv = .slice none 0 0 ∧ Holds B Fr w) ∨ ∃ bd pre rest k, k * m ≤ rest.length ∧ sv = .slice (some ⟨bd, pre.length, none⟩) xs.length (xs.length + k) ∧ Holds B (row bd (pre ++ xs.flatMap enc ++ rest) T :: Fr) w := by
  obtain ⟨x, hx⟩ := h.hex
  cases x with
  | none => have h2 := hx.pr; exact .inl ⟨h2.1.1, h2.1.2, h2.2⟩
  | some p => have h2 := (hx.grp.front 1 rfl).pr; exact .inr ⟨_, _, _, _, h2.1.1, h2.1.2, h2.2⟩
theorem go_vecgq (h : ∀ q cap, sv = .slice q xs.length cap → (∀ i, i < xs.length → ∃ b off, q = some ⟨b, off, none⟩) → GO B n D σ (VecG T m enc 0 (sv, xs) :: Fr) K) : GO B n D σ (VecG T m enc 0 (sv, xs) :: Fr) K := fun a w st => by
  rcases holds_vecg st.holds with ⟨e1, e2, _⟩ | ⟨bd, pre, rest, k, _, e, _⟩
  · exact h none 0 (by rw [e2, e1]; rfl) (fun i hi => by rw [e1] at hi; exact absurd hi (Nat.not_lt_zero _)) a w st
  · exact h _ _ e (fun i hi => ⟨_, _, rfl⟩) a w st
theorem vecg_sln (he : EncW m enc) {q : Option Addr} {cap : Nat} (i : Nat) (e : H[i]? = some (VecG T m enc 0 (.slice q xs.length cap, xs))) : SlN B H (.slice q xs.length cap) m (xs.map enc) := by
  refine ⟨q, cap, by simp, fun w hw j c hc => ?_⟩
  rw [List.getElem?_map] at hc
  cases hx : xs[j]? with
  | none => rw [hx] at hc; cases hc
  | some a =>
    rw [hx] at hc; cases hc
    have hj : j < xs.length := (List.getElem?_eq_some_iff.1 hx).1
    rcases holds_vecg (hw.front i e) with ⟨h1, _, _⟩ | ⟨bd, pre, rest, k, _, h1, h2⟩
    · rw [h1] at hj; exact absurd hj (Nat.not_lt_zero _)
    · injection h1 with h1 _ _
      refine ⟨bd, pre.length, h1, he.len a, fun r hr => ?_⟩
      have hlt : j * m + r < (xs.flatMap enc).length := by
        rw [flat_len he]
        calc j * m + r < j * m + m := by omega
          _ = (j + 1) * m := by rw [Nat.add_mul, Nat.one_mul]
          _ ≤ xs.length * m := Nat.mul_le_mul_right m hj
      rw [h2.ucell (b := bd) (pre.length + (j * m + r)), List.append_assoc, List.getElem?_append_right (by omega), Nat.add_sub_cancel_left, List.getElem?_append_left hlt, flat_get he xs j a hx r hr]
theorem ch_append_vecg (he : EncW m enc) {d : Option Tmp} {ty : TypeId} {p : String} {af : Array Edge} {g : Option (Nat × Bool)} {t : TypeId} {x y : Operand} {at_ : Array TypeId} {u : TypeId} {ud : TypeDesc} {ys : List α} {z yv : Value}
    (ha : at_[0]? = some t) (ha' : at_[1]? = some u) (ht : ∀ w, (underlying t).run P w = .ok (.slice T) w) (hu : ∀ w, (underlying u).run P w = .ok ud w) (hud : ∃ q, ud = .slice q) (hs : ∀ w, (sizeOf T).run P w = .ok m w) (hz : ∀ w, (zeroValue T).run P w = .ok z w) (hz1 : z.cells.size = m) (hfb : fewBytes P T)
    (hx : evO σ x = some sv) (hy : evO σ y = some yv) (hr : SlM B Fr yv m ys.length (ys.flatMap enc)) (h0 : 0 < ys.length) (hn : xs.length + ys.length ≤ 1000000000) :
    Chg P B σ (VecG T m enc 0 (sv, xs) :: Fr) ⟨d, .call ⟨.builtin .append, #[x, y], at_⟩, ty, p, af, g⟩ (fun v' H' => cell1 v' = true ∧ H' = VecG T m enc 0 (v', xs ++ ys) :: Fr) := by
  intro a w kn hh
  have hrc : ∀ A : HP, SlM B (A :: Fr) yv m ys.length (ys.flatMap enc) := fun A => by
    obtain ⟨q, cap, e1, e2, e3⟩ := hr.ex
    exact ⟨q, cap, e1, e2, fun w hw => e3 w hw.tail⟩
  rcases holds_vecg hh with ⟨h1, h2, h3⟩ | ⟨bd, pre, rest, k, hk, h1, h3⟩
  · subst h2; subst h1
    obtain ⟨r, w', e1, u, e2, H', ⟨bn, cn, rest, e3, e3', e4, rfl⟩, e5⟩ := ch_appendM_nil (H := Fr) (d := d) (ty := ty) (p := p) (af := af) (g := g) ha ha' ht hu hud hs hz hz1 hfb hx hy hr h0 (by simpa using hn) a w kn h3
    subst e4
    refine ⟨r, w', e1, _, e2, _, ⟨rfl, rfl⟩, ?_⟩
    exact vecg_rowp (xs := ys) (pre := []) (k := cn - ys.length) rfl (by omega) (by omega) rfl e5
  · subst h1
    obtain ⟨r, w', e1, u, e2, H', hY, e5⟩ := ch_appendM (H := row bd (pre ++ xs.flatMap enc ++ rest) T :: Fr) (d := d) (ty := ty) (p := p) (af := af) (g := g) (b := bd) ha ha' ht hu hud hs hz hz1 hfb hx hy (hrc _) (by simp [flat_len he, Nat.add_mul]; omega) (by omega) (by simpa using hn) (flat_c1 he ys) a w kn h3
    rcases hY with ⟨g1, rfl, rfl⟩ | ⟨g1, bn, cn, rest', g2, g3, rfl, rfl⟩
    · refine ⟨r, w', e1, _, e2, _, ⟨rfl, rfl⟩, ?_⟩
      have g1 : ys.length ≤ k := by omega
      have g4 : ys.length * m ≤ k * m := Nat.mul_le_mul_right m g1
      have e : pre ++ xs.flatMap enc ++ rest = (pre ++ xs.flatMap enc) ++ rest.take (ys.length * m) ++ rest.drop (ys.length * m) := by simp
      have el : pre.length + xs.length * m = (pre ++ xs.flatMap enc).length := by simp [flat_len he]
      rw [e, el, setAll_app _ _ _ _ (by rw [flat_len he, List.length_take]; omega)] at e5
      refine vecg_rowp (k := k - ys.length) (rest := rest.drop (ys.length * m)) (by simp) (by omega) (by rw [List.length_drop, Nat.sub_mul]; omega) rfl ?_
      simpa using e5
    · refine ⟨r, w', e1, _, e2, _, ⟨rfl, rfl⟩, ?_⟩
      have e : (xs ++ ys).flatMap enc ++ rest' = ((pre ++ xs.flatMap enc ++ rest).drop pre.length).take (xs.length * m) ++ ys.flatMap enc ++ rest' := by
        rw [List.append_assoc pre, List.drop_left, ← flat_len he xs, List.take_left]; simp
      rw [← e] at e5
      exact vecg_rowp (pre := []) (k := cn - (xs.length + ys.length)) (by simp) (by omega) (by simpa using Nat.le_of_eq g3.symm) rfl ((e5.front 1 rfl).tail)
theorem ch_tail_vecg (he : EncW m enc) {d : Option Tmp} {ty : TypeId} {p : String} {af : Array Edge} {g : Option (Nat × Bool)} {t : TypeId} {x lo : Operand} {v : α} {kk : IntKind} (ht : ∀ w, (underlying t).run P w = .ok (.slice T) w) (hs : ∀ w, (sizeOf T).run P w = .ok m w) (hx : evO σ x = some sv) (hl : evO σ lo = some (.int kk 1)) :
    Chg P B σ (VecG T m enc 0 (sv, v :: xs) :: Fr) ⟨d, .slice t x (some lo) none none, ty, p, af, g⟩ (fun v' H' => cell1 v' = true ∧ H' = VecG T m enc 0 (v', xs) :: Fr) := by
  intro a w kn hh
  rcases holds_vecg hh with ⟨h1, _, _⟩ | ⟨bd, pre, rest, k, hk, h1, h3⟩
  · cases h1
  · subst h1
    by_cases hlast : 1 < (v :: xs).length + k
    · have e := ev_slice (B := B) (H := row bd (pre ++ (v :: xs).flatMap enc ++ rest) T :: Fr) (d := d) (ty := ty) (p := p) (af := af) (g := g) (hi := none) (h := (v :: xs).length) (l := 1) (m := pre.length + m) ht hs hx (.inr ⟨lo, kk, rfl, hl⟩) (.inl ⟨rfl, rfl⟩) (by simp) (by omega) (.inl hlast) (by omega)
      refine ⟨_, w, e a w kn h3, _, .inl rfl, _, ⟨rfl, rfl⟩, ?_⟩
      refine vecg_rowp (pre := pre ++ enc v) (rest := rest) (k := k) (by simp) (by simp <;> omega) hk (by simp [he.len]) ?_
      simpa using h3
    · simp only [List.length_cons] at hlast
      have hxs : xs = [] := List.length_eq_zero_iff.1 (by omega)
      have hk0 : k = 0 := by omega
      subst hxs; subst hk0
      have e := ev_slice_all (B := B) (H := row bd (pre ++ [v].flatMap enc ++ rest) T :: Fr) (d := d) (ty := ty) (p := p) (af := af) (g := g) (len := 1) ht hs hx hl
      refine ⟨_, w, e a w kn h3, _, .inl rfl, _, ⟨rfl, rfl⟩, ?_⟩
      refine vecg_rowp (pre := pre) (rest := enc v ++ rest) (k := 0) (by simp) (by simp) (by simp) rfl ?_
      simpa using h3
theorem foldl_get : ∀ (vs : List Value) (k : Nat) (a : Array Value), k + vs.length ≤ a.size → ∀ j : Nat, (List.foldl (fun (cs : Array Value) (x : Value × Nat) => cs.setIfInBounds x.2 x.1) a (vs.zipIdx k))[j]? = if k ≤ j ∧ j < k + vs.length then vs[j - k]? else a[j]?
  | [], k, a, _, j => by rw [if_neg (by simp only [List.length_nil]; omega)]; rfl
  | v :: vs, k, a, h, j => by
    simp only [List.length_cons] at h
    rw [List.zipIdx_cons, List.foldl_cons, foldl_get vs (k + 1) _ (by simp; omega) j]
    by_cases h1 : j = k
    · subst h1
      rw [if_neg (by omega), if_pos (by simp only [List.length_cons]; omega), Nat.sub_self, List.getElem?_cons_zero, Array.getElem?_setIfInBounds_self_of_lt (by omega)]
    · by_cases h2 : k + 1 ≤ j ∧ j < k + 1 + vs.length
      · rw [if_pos h2, if_pos (by simp only [List.length_cons]; omega)]
        rw [show j - k = (j - (k + 1)) + 1 by omega, List.getElem?_cons_succ]
      · rw [if_neg h2, if_neg (by simp only [List.length_cons]; omega)]
        rw [Array.getElem?_setIfInBounds_ne (by omega)]
theorem ch_bsG (he : EncW m enc) {d : Option Tmp} {ty : TypeId} {p : String} {af : Array Edge} {g : Option (Nat × Bool)} {t e : TypeId} {x : Operand} {v : α} {xv z : Value} (ht : ∀ w, (underlying t).run P w = .ok (.slice e) w) (hs : ∀ w, (sizeOf e).run P w = .ok m w) (hz : ∀ w, (zeroValue e).run P w = .ok z w) (hm0 : (0 < m ∧ m ≤ 1000) ∧ z.cells.size = m) (hx : evO σ x = some xv) (hv : xv.cells = (enc v).toArray) :
    Chg P B σ H ⟨d, .buildSlice t 1 #[(0, x)], ty, p, af, g⟩ (fun u H' => ∃ b, u = .slice (some ⟨b, 0, none⟩) 1 1 ∧ H' = row b (enc v) e :: H) := by
  intro a w kn hh
  refine ⟨.value (.slice (some ⟨w.heap.size, 0, none⟩) 1 1), { w with heap := w.heap.push (.cells (enc v).toArray e) }, ?_, _, .inl rfl, _, ⟨_, rfl, rfl⟩, by simpa [row] using hh.new _⟩
  have h1 : m ≠ 0 := by omega
  have h2 : ¬ 16777216 < m := by omega
  have hl : (enc v).length = m := he.len v
  simp [execOp, Instr.buildSlice, ht, hs, Instr.fill, run_newRow, hz, kn.eval hx, hv, h1, h2, hl]
  congr 2
  apply Array.ext_getElem?
  intro j
  rw [foldl_get _ 0 _ (by simp [hl])]
  by_cases hj : j < m
  · simp [hl, hj]
  · have hj2 : ¬ j < (enc v).length := by omega
    simp [hl, hj]
def VarG {α : Type} (Ts T : TypeId) (m : Nat) (enc : α → List Value) (b : Nat) (xs : List α) : HP := hex fun (rv : Value) => grp [row b [rv] Ts, VecG T m enc 0 (rv, xs), pr (cell1 rv = true)]
theorem go_varg {Ts : TypeId} {b : Nat} (h : ∀ rv, cell1 rv = true → GO B n D σ (row b [rv] Ts :: VecG T m enc 0 (rv, xs) :: Fr) K) : GO B n D σ (VarG Ts T m enc b xs :: Fr) K := fun a w st => by
  obtain ⟨rv, hx⟩ := st.holds.hex
  have h2 := (hx.grp.front 2 rfl).pr
  exact h rv h2.1 a w ⟨st.toStA, h2.2⟩
theorem varg_holds {Ts : TypeId} {b : Nat} {rv : Value} (hr : cell1 rv = true) (h : Holds B (row b [rv] Ts :: VecG T m enc 0 (rv, xs) :: Fr) w) : Holds B (VarG Ts T m enc b xs :: Fr) w :=
  Holds.unhex rv (Holds.ungrp (l := [row b [rv] Ts, VecG T m enc 0 (rv, xs), pr _]) ((h.unpr hr).back 2 (by simp)))
theorem varg_nil {Ts : TypeId} {b : Nat} (h : Holds B (row b [.slice none 0 0] Ts :: Fr) w) : Holds B (VarG (α := α) Ts T m enc b [] :: Fr) w :=
  varg_holds rfl ((vecg_nil h).front 1 rfl)
theorem SlR.up {v : Value} {cs : List Value} [f : FrameOf H Fr] (h : SlR B Fr v cs) : SlR B H v cs := by
  obtain ⟨l, e⟩ := f.ex
  subst e
  induction l with
  | nil => exact h
  | cons A l ih => exact ih.cons A
theorem SlN.up {v : Value} {m : Nat} {cs : List (List Value)} [f : FrameOf H Fr] (h : SlN B Fr v m cs) : SlN B H v m cs := by
  obtain ⟨l, e⟩ := f.ex
  subst e
  induction l with
  | nil => exact h
  | cons A l ih => exact ih.cons A
theorem Holds.hop {A C : HP} (L M : List HP) {E : List HP} (h : Holds B (A :: C :: (L ++ (M ++ E))) w) : Holds B (A :: C :: (M ++ (L ++ E))) w :=
  h.perm (List.Perm.cons _ (List.Perm.cons _ (by rw [← List.append_assoc, ← List.append_assoc]; exact List.Perm.append_right _ List.perm_append_comm)))
end
end Go.Proofs.YtbfheafpecgphaaGreat
