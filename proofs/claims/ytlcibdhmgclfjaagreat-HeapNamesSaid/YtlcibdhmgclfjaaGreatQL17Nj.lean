/- Part of the texts beneath a law: what its proof names. Conditions: none. -/
import Derived.Test.YtlcibdhmgclfjaaGreatQL17Ni
set_option linter.unusedSimpArgs false
set_option linter.unusedVariables false
set_option linter.unnecessarySimpa false
set_option linter.unusedSectionVars false
namespace Go.Proofs.YtlcibdhmgclfjaaGreat
open Go
def itl {α ι : Type} (st : α → ι → Bool × ι) : List α → ι → Bool × ι
  | [], x => (true, x)
  | a :: t, x => if (st a x).1 = true then itl st t (st a x).2 else (false, (st a x).2)
def lst {ι : Type} (r : Loop) (cd : ι → Code) (y : Bool × ι) : Loop := if y.1 = true then r else { r with state := .done, pending := some (cd y.2) }
theorem onames_ok (B : World) (H : List HP) (o : Obj3) (bd : Nat) :
    ∀ w, Holds B H w → Calls Tryz.prog 173 [objV o, ptr bd].toArray w (Ret B (fun v H' => ∃ b1 b2, v = .func (.func 186) [].toArray [ptr b1, ptr b2].toArray ∧ H' = row b2 [ptr bd] 28 :: row b1 [i64 o.1, i64 o.2.1, i64 o.2.2] 105 :: H) (fun _ _ => False)) := by
  refine fn_enter Tryz.func173 rfl Tryz.ntmps173 rfl (g_seq (g_region (p_chg rfl (ch_boxA rfl) .free rfl rfl ?_)))
  rintro _ _ ⟨b2, rfl, rfl⟩
  refine p_chg rfl (ch_box1 rfl rfl) .free rfl rfl ?_
  rintro _ _ ⟨b3, rfl, rfl⟩
  refine kPa rfl rfl (p_nil (g_seq (g_region (kPv (ev_mkf rfl rfl) rfl (kPa rfl rfl (p_nil (g_ret ?_)))))))
  exact ret_tmp Tryz.results173 rfl (fun w hw => ⟨_, ⟨_, _, rfl, rfl⟩, hw⟩)
theorem onam1_ok (B : World) (l f b1 b2 bd : Nat) (o : Obj3) (ho : ObjW o) (s : Dev) (ι : Type) (r : Loop) (hrf : r.fn = f) (hrp : r.params.size = 2) (I : ι → Prop) (Hx : ι → List HP) (cd : ι → Code) (st : (Int × Int) → ι → Bool × ι) (x0 : ι) (h0 : I x0) (hround : ∀ (p : Int × Int) (x : ι), I x → I (st p x).2 ∧ ∀ w, Holds B (blk l (.loop r) :: row b2 [ptr bd] 28 :: row b1 [i64 o.1, i64 o.2.1, i64 o.2.2] 105 :: DevA bd s :: Hx x) w → RoundIn (Wd (cxF f)) 0 Tryz.prog l f ((r.params.zip [i64 p.1, i64 p.2].toArray).foldl (fun tmps (t, a) => tmps.setIfInBounds t a) r.tmps) r.assign r.body w (Ret B (fun rv H' => rv = .bool (st p x).1 ∧ H' = blk l (.loop (lst r cd (st p x))) :: row b2 [ptr bd] 28 :: row b1 [i64 o.1, i64 o.2.1, i64 o.2.2] 105 :: DevA bd s :: Hx (st p x).2) (fun _ _ => False))) :
    ∀ w, Holds B (blk l (.loop r) :: row b2 [ptr bd] 28 :: row b1 [i64 o.1, i64 o.2.1, i64 o.2.2] 105 :: DevA bd s :: Hx x0) w → Calls Tryz.prog 186 [.func (.yield l) #[] #[], ptr b1, ptr b2].toArray w (Ret B (fun _ H' => I (itl st (s.objNames o o.2.1.toNat 0) x0).2 ∧ H' = blk l (.loop (lst r cd (itl st (s.objNames o o.2.1.toNat 0) x0))) :: row b2 [ptr bd] 28 :: row b1 [i64 o.1, i64 o.2.1, i64 o.2.2] 105 :: DevA bd s :: Hx (itl st (s.objNames o o.2.1.toNat 0) x0).2) (fun _ _ => False)) := by
  refine fn_enter Tryz.func186 rfl Tryz.ntmps186 rfl ?_
  have ho1 := ho.w
  have ho2 := ho.r
  have ho3 := ho.at_
  refine g_seq (g_region (kPv (ev_fa (m := _) fa_105_0 rfl rfl) rfl (kPv (ev_fa (m := _) fa_38_1 rfl rfl) rfl (kPv (ev_load Tryz.isAgg3 rfl rfl) rfl (kPm rfl rfl (p_nil (g_block (g_loop (ι := Nat × ι) (fun i => (i.1 : Int) ≤ o.2.1 ∧ I i.2 ∧ itl st (s.objNames o o.2.1.toNat 0) x0 = itl st (s.objNames o (o.2.1.toNat - i.1) i.1) i.2) (fun i => [(0, .func (.yield l) #[] #[]), (1, ptr b1), (2, ptr b2), (8, i64 o.2.1), (9, i64 i.1)]) (fun i => blk l (.loop r) :: row b2 [ptr bd] 28 :: row b1 [i64 o.1, i64 o.2.1, i64 o.2.2] 105 :: DevA bd s :: Hx i.2) (fun i => o.2.1.toNat - i.1) (0, x0) ⟨by simp only; omega, h0, rfl⟩ (fun a w st => st.to ⟨rfl, rfl, rfl, rfl, rfl, trivial⟩ id) ?_))))))))
  rintro ⟨k, x⟩ ⟨hk1, hIx, hinv⟩
  simp only at hk1 hIx hinv ⊢
  refine g_seq (g_region (kPv (ev_cmp rfl rfl rfl) rfl (p_nil (g_seq ?_))))
  refine g_if rfl (fun h10 => ?_) (fun h10 => ?_)
  · have hk : (k : Int) < o.2.1 := by simpa using h10
    refine g_skip (g_seq (g_block (g_seq (g_region (kPm rfl rfl (kPa rfl rfl (p_nil (g_seq (g_region (kPv (ev_load Tryz.isAgg28 rfl rfl) rfl (kPv (ev_fa (m := _) fa_105_1 rfl rfl) rfl ?_)))))))))))
    refine kPv (ev_load Tryz.isAgg3 rfl rfl) rfl ?_
    first | refine p_val rfl (ev_add rfl rfl (wr64 (by omega))) .free rfl rfl ?_ | refine p_val rfl (ev_add rfl rfl rfl) .free rfl rfl ?_
    refine kPm rfl rfl ?_
    first | refine p_val rfl (ev_add rfl rfl (wr64 (by omega))) .free rfl rfl ?_ | refine p_val rfl (ev_add rfl rfl rfl) .free rfl rfl ?_
    refine p_callq rfl (en_f Tryz.call71 rfl) (ro_at (q := DevA) (fun Fr => nload_ok _ Fr _ _ _)) .free rfl rfl ?_
    first | refine p_val rfl (ev_conv Tryz.runUnderlying26 Tryz.runUnderlying3 rfl (wr64 (by omega))) .free rfl rfl ?_ | refine p_val rfl (ev_conv Tryz.runUnderlying26 Tryz.runUnderlying3 rfl rfl) .free rfl rfl ?_
    refine kPa rfl rfl (p_nil (go_sb [5, 4, 9, 8, 0, 1, 2] rfl (g_seq ?_)))
    rcases Bool.eq_false_or_eq_true (((IntKind.i64.wrap (s.load (o.2.2 + 1 + (k : Int)))) != 0)) with hs4 | hs4
    · skip
      have hto : (IntKind.i64.wrap (s.load (o.2.2 + 1 + (k : Int)))) ≠ 0 := by simpa using hs4
      have hnm : s.objNames o (o.2.1.toNat - k) k = ((k : Int), (IntKind.i64.wrap (s.load (o.2.2 + 1 + (k : Int))))) :: s.objNames o (o.2.1.toNat - (k + 1)) ((k : Int) + 1) := by
        rw [show o.2.1.toNat - k = (o.2.1.toNat - (k + 1)) + 1 by omega]
        simp only [Dev.objNames]
        rw [if_pos hto]
      refine g_region (kPm rfl rfl (kPv (ev_cmp rfl rfl rfl) rfl (kPm rfl rfl (p_val rfl (ev_move rfl) (.on rfl rfl (beq_eq hs4)) rfl rfl (p_val rfl (ev_move rfl) (.on rfl rfl (beq_eq hs4)) rfl rfl (p_val rfl (ev_move rfl) (.on rfl rfl (beq_eq hs4)) rfl rfl ?_))))))
      refine p_yield (f := f) rfl rfl (fun w hw => hw) (by rw [hrp]; rfl) hrf (hround ((k : Int), (IntKind.i64.wrap (s.load (o.2.2 + 1 + (k : Int))))) x hIx).2 (.on rfl rfl (beq_eq hs4)) rfl ?_ ?_
      rotate_left
      · rintro _ _ ⟨⟩
      rintro _ _ ⟨rfl, rfl⟩
      refine p_val rfl (ev_not rfl) (.on rfl rfl (beq_eq hs4)) rfl rfl (kPv (ev_pick_t rfl hs4 rfl) rfl (p_nil (go_sb [28, 9, 8, 0, 1, 2] rfl ?_)))
      refine g_if rfl (fun h28 => ?_) (fun h28 => ?_)
      · have hg : (st ((k : Int), (IntKind.i64.wrap (s.load (o.2.2 + 1 + (k : Int))))) x).1 = false := by simpa using h28
        have hres : itl st (s.objNames o o.2.1.toNat 0) x0 = st ((k : Int), (IntKind.i64.wrap (s.load (o.2.2 + 1 + (k : Int))))) x := by rw [hinv, hnm]; simp only [itl]; rw [if_neg (by rw [hg]; decide)]; exact Prod.ext hg.symm rfl
        refine g_ret ?_
        exact ret_none Tryz.results186 (fun w hh => ⟨_, ⟨by rw [hres]; exact (hround ((k : Int), (IntKind.i64.wrap (s.load (o.2.2 + 1 + (k : Int))))) x hIx).1, by rw [hres]⟩, hh⟩)
      · have hg : (st ((k : Int), (IntKind.i64.wrap (s.load (o.2.2 + 1 + (k : Int))))) x).1 = true := by simpa using h28
        have hlr : lst r cd (st ((k : Int), (IntKind.i64.wrap (s.load (o.2.2 + 1 + (k : Int))))) x) = r := by unfold lst; rw [if_pos hg]
        refine g_skip (g_region ?_)
        first | refine p_val rfl (ev_add rfl rfl (wr64 (by omega))) .free rfl rfl ?_ | refine p_val rfl (ev_add rfl rfl rfl) .free rfl rfl ?_
        refine kPm rfl rfl (p_nil ?_)
        exact fun a w st_ => ⟨(k + 1, (st ((k : Int), (IntKind.i64.wrap (s.load (o.2.2 + 1 + (k : Int))))) x).2), ⟨by simp only; omega, (hround ((k : Int), (IntKind.i64.wrap (s.load (o.2.2 + 1 + (k : Int))))) x hIx).1, by rw [hinv, hnm]; simp only [itl]; rw [if_pos hg]; rfl⟩, by simp only; omega, st_.to ⟨rfl, rfl, rfl, rfl, rfl, trivial⟩ (fun hh => by rw [hlr] at hh; exact hh)⟩
    · skip
      have hto : (IntKind.i64.wrap (s.load (o.2.2 + 1 + (k : Int)))) = 0 := by simpa using hs4
      have hnm : s.objNames o (o.2.1.toNat - k) k = s.objNames o (o.2.1.toNat - (k + 1)) ((k : Int) + 1) := by
        rw [show o.2.1.toNat - k = (o.2.1.toNat - (k + 1)) + 1 by omega]
        simp only [Dev.objNames]
        rw [if_neg (by omega)]
      refine g_region (kPm rfl rfl (kPv (ev_cmp rfl rfl rfl) rfl (kPm rfl rfl (p_skip rfl (.on rfl rfl (beq_ne hs4)) rfl (p_skip rfl (.on rfl rfl (beq_ne hs4)) rfl (p_skip rfl (.on rfl rfl (beq_ne hs4)) rfl (p_skip rfl (.on rfl rfl (beq_ne hs4)) rfl (p_skip rfl (.on rfl rfl (beq_ne hs4)) rfl (kPv (ev_pick_f rfl hs4 rfl) rfl (p_nil (go_sb [28, 9, 8, 0, 1, 2] rfl ?_)))))))))))
      refine g_iff rfl (rfl) (g_skip (g_region ?_))
      first | refine p_val rfl (ev_add rfl rfl (wr64 (by omega))) .free rfl rfl ?_ | refine p_val rfl (ev_add rfl rfl rfl) .free rfl rfl ?_
      refine kPm rfl rfl (p_nil ?_)
      exact fun a w st_ => ⟨(k + 1, x), ⟨by simp only; omega, hIx, by rw [hinv, hnm]; rfl⟩, by simp only; omega, st_.to ⟨rfl, rfl, rfl, rfl, rfl, trivial⟩ id⟩
  · have hk : ¬ (k : Int) < o.2.1 := by simpa using h10
    refine g_exit ?_
    exact end_none Tryz.results186 (fun w hh => ⟨_, ⟨by rw [hinv, show o.2.1.toNat - k = 0 by omega]; exact hIx, by rw [hinv, show o.2.1.toNat - k = 0 by omega]; rfl⟩, hh⟩)
theorem itl1 {α ι : Type} {st : α → ι → Bool × ι} {a : α} {x : ι} : itl st [a] x = st a x := by
  simp only [itl]
  split
  · rename_i h; exact Prod.ext h.symm rfl
  · rename_i h; exact Prod.ext (Bool.eq_false_iff.2 h).symm rfl
theorem itl0 {α ι : Type} {st : α → ι → Bool × ι} {a : α} {t : List α} {x : ι} (h : (st a x).1 = false) : itl st (a :: t) x = st a x := by
  simp only [itl]
  rw [if_neg (by rw [h]; decide)]
  exact Prod.ext h.symm rfl
theorem objOf_b {s : Dev} {c : Cfg} {b : Blk} {a : Int} : 0 ≤ (s.objOf c b a).1.1 ∧ (s.objOf c b a).1.1 ≤ 64 := by
  have h := unp_b (s.load a)
  unfold Dev.objOf
  split
  · decide
  split
  · decide
  · exact ⟨h.1, h.2.1⟩
theorem objW0 {a : Int} (h : 0 ≤ a ∧ a ≤ 1000000) : ObjW (0, 0, a) := ⟨⟨Int.le_refl 0, (by decide : (0 : Int) ≤ 64)⟩, ⟨Int.le_refl 0, Int.le_refl 0⟩, h⟩
theorem objs_end {s : Dev} {c : Cfg} {b : Blk} {at_ : Int} (h : b.place c b.used ≤ at_) : ∀ f, s.objs c b f at_ = []
  | 0 => rfl
  | f + 1 => by simp only [Dev.objs]; rw [if_pos h]
theorem wobjs_ok (B : World) (H : List HP) (bd : Nat) (c : Cfg) (b : Blk) (sv : Value) (hsv : cell1 sv = true) :
    ∀ w, Holds B H w → Calls Tryz.prog 136 [ptr bd, cfgV c, blkV b sv].toArray w (Ret B (fun v H' => ∃ b3 b4 b5, v = .func (.func 170) [].toArray [ptr b5, ptr b4, ptr b3].toArray ∧ H' = row b5 [i64 b.act, i64 b.used, sv] 95 :: row b4 [i64 c.log, i64 c.roots, i64 c.space] 40 :: row b3 [ptr bd] 28 :: H) (fun _ _ => False)) := by
  refine fn_enter Tryz.func136 rfl Tryz.ntmps136 rfl (g_seq (g_region (p_chg rfl (ch_box1 rfl rfl) .free rfl rfl ?_)))
  rintro _ _ ⟨b3, rfl, rfl⟩
  refine p_chg rfl (ch_boxA rfl) .free rfl rfl ?_
  rintro _ _ ⟨b4, rfl, rfl⟩
  refine p_chg rfl (ch_boxA rfl) .free rfl rfl ?_
  rintro _ _ ⟨b5, rfl, rfl⟩
  refine kPa rfl rfl (p_nil (g_seq (g_region (kPv (ev_mkf rfl rfl) rfl (kPa rfl rfl (p_nil (go_sb [6] rfl (g_ret ?_))))))))
  exact ret_tmp Tryz.results136 rfl (fun w hw => ⟨_, ⟨_, _, _, rfl, rfl⟩, hw⟩)
theorem wobj1_ok (B : World) (E : List HP) (l f b3 b4 b5 bd : Nat) (c : Cfg) (hc : CfgW c) (b : Blk) (sv : Value) (hb : BlkW c b) (hsv : cell1 sv = true) (s : Dev) (ι : Type) (r : Loop) (hrf : r.fn = f) (hrp : r.params.size = 2) (I : ι → Prop) (Hx : ι → List HP) (cd : ι → Code) (st : (Obj3 × Int) → ι → Bool × ι) (x0 : ι) (h0 : I x0) (hround : ∀ (p : Obj3 × Int) (x : ι), ObjW p.1 → I x → I (st p x).2 ∧ ∀ (E : List HP) w, Holds B (blk l (.loop r) :: row b5 [i64 b.act, i64 b.used, sv] 95 :: row b4 [i64 c.log, i64 c.roots, i64 c.space] 40 :: row b3 [ptr bd] 28 :: DevA bd s :: (Hx x ++ E)) w → RoundIn (Wd (cxF f)) 0 Tryz.prog l f ((r.params.zip [objV p.1, i64 p.2].toArray).foldl (fun tmps (t, a) => tmps.setIfInBounds t a) r.tmps) r.assign r.body w (Ret B (fun rv H' => rv = .bool (st p x).1 ∧ H' = blk l (.loop (lst r cd (st p x))) :: row b5 [i64 b.act, i64 b.used, sv] 95 :: row b4 [i64 c.log, i64 c.roots, i64 c.space] 40 :: row b3 [ptr bd] 28 :: DevA bd s :: (Hx (st p x).2 ++ E)) (fun _ _ => False))) :
    ∀ w, Holds B (blk l (.loop r) :: row b5 [i64 b.act, i64 b.used, sv] 95 :: row b4 [i64 c.log, i64 c.roots, i64 c.space] 40 :: row b3 [ptr bd] 28 :: DevA bd s :: (Hx x0 ++ E)) w → Calls Tryz.prog 170 [.func (.yield l) #[] #[], ptr b5, ptr b4, ptr b3].toArray w (Ret B (fun _ H' => I (itl st (s.objs c b (b.used.toNat + 1) (b.place c 0)) x0).2 ∧ H' = blk l (.loop (lst r cd (itl st (s.objs c b (b.used.toNat + 1) (b.place c 0)) x0))) :: row b5 [i64 b.act, i64 b.used, sv] 95 :: row b4 [i64 c.log, i64 c.roots, i64 c.space] 40 :: row b3 [ptr bd] 28 :: DevA bd s :: (Hx (itl st (s.objs c b (b.used.toNat + 1) (b.place c 0)) x0).2 ++ E)) (fun _ _ => False)) := by
  refine fn_enter Tryz.func170 rfl Tryz.ntmps170 rfl ?_
  have hb1 := hb.act
  have hb2 := hb.used
  have hcs := hc.s2
  have hfb := frm_b hc (k := b.act) (by omega)
  have hpl := place_b hc hb hb2
  have hp0 : b.place c 0 = c.frm b.act + 0 := rfl
  have hp1 : b.place c b.used = c.frm b.act + b.used := rfl
  refine g_seq (g_draw Tryz.mixed (by kernel_rfl) (by kernel_rfl) ?_)
  refine kQv (ev_loadA Tryz.isAgg95 Tryz.sizeOf95 rfl rfl) rfl ?_
  refine kQv (ev_loadA Tryz.isAgg40 Tryz.sizeOf40 rfl rfl) rfl ?_
  refine q_call rfl (en_f Tryz.call112 rfl) (place_ok _ _ c hc b sv hb hsv _ (by omega)) .free rfl ?_
  refine kQv (ev_loadA Tryz.isAgg95 Tryz.sizeOf95 rfl rfl) rfl ?_
  refine kQv (ev_loadA Tryz.isAgg40 Tryz.sizeOf40 rfl rfl) rfl ?_
  refine kQv (ev_fa (m := _) fa_95_1 rfl rfl) rfl (kQv (ev_load Tryz.isAgg3 rfl rfl) rfl (q_call rfl (en_f Tryz.call112 rfl) (place_ok _ _ c hc b sv hb hsv _ (by omega)) .free rfl ?_))
  refine kQa rfl rfl (kQa rfl rfl (q_nil (go_sb [6, 5, 0, 1, 2, 3] rfl (g_block (g_loop (ι := Int × Nat × ι) (fun i => I i.2.2 ∧ (0 ≤ i.1 ∧ i.1 ≤ 100000) ∧ b.place c b.used - i.1 < i.2.1 ∧ itl st (s.objs c b (b.used.toNat + 1) (b.place c 0)) x0 = itl st (s.objs c b i.2.1 i.1) i.2.2) (fun i => [(0, .func (.yield l) #[] #[]), (1, ptr b5), (2, ptr b4), (3, ptr b3), (5, i64 i.1), (6, i64 (b.place c b.used))]) (fun i => blk l (.loop r) :: row b5 [i64 b.act, i64 b.used, sv] 95 :: row b4 [i64 c.log, i64 c.roots, i64 c.space] 40 :: row b3 [ptr bd] 28 :: DevA bd s :: (Hx i.2.2 ++ E)) (fun i => i.2.1) (b.place c 0, b.used.toNat + 1, x0) ⟨h0, by simp only; omega, by simp only; omega, rfl⟩ (fun a w st => st.to ⟨rfl, rfl, rfl, rfl, rfl, rfl, trivial⟩ id) ?_)))))
  rintro ⟨a, n, x⟩ ⟨hIx, ha1, ha2, hinv⟩
  simp only at hIx ha1 ha2 hinv ⊢
  refine g_seq (g_seq (g_region (kPm rfl rfl (kPm rfl rfl (kPv (ev_cmp rfl rfl rfl) rfl (p_nil ?_))))))
  refine g_if rfl (fun h19 => ?_) (fun h19 => ?_)
  · have hk : a < b.place c b.used := by simpa using h19
    obtain ⟨n, rfl⟩ : ∃ m, n = m + 1 := ⟨n - 1, by omega⟩
    refine g_skip (g_block (g_seq (g_region (kPv (ev_load Tryz.isAgg28 rfl rfl) rfl (kPv (ev_loadA Tryz.isAgg40 Tryz.sizeOf40 rfl rfl) rfl ?_)))))
    refine kPv (ev_loadA Tryz.isAgg95 Tryz.sizeOf95 rfl rfl) rfl ?_
    refine kPm rfl rfl (p_callq rfl (en_f Tryz.call122 rfl) (ro_at (q := DevA) (fun Fr => obj_ok _ Fr _ _ c hc b sv hb hsv a (by omega))) .free rfl rfl ?_)
    refine kPm rfl rfl (kPv (ev_ext rfl rfl) rfl (kPv (ev_ext rfl rfl) rfl (p_chg rfl (ch_allocA Tryz.zeroValue105 rfl) .free rfl rfl ?_)))
    rintro _ _ ⟨b7, rfl, rfl⟩
    refine p_chg0 rfl (ch_storeA (vs := _) Tryz.sizeOf105 rfl rfl rfl rfl rfl) .free rfl ?_
    rintro _ _ rfl
    refine kPa rfl rfl (p_nil (go_sb [8, 7, 6, 5, 0, 1, 2, 3] rfl (g_seq (g_seq (g_region (kPm rfl rfl (kPv (ev_cmp rfl rfl rfl) rfl (p_nil ?_))))))))
    refine g_if rfl (fun h29 => ?_) (fun h29 => ?_)
    · have he : (s.objOf c b a).2 ≠ 0 := by simpa using h29
      have hob : s.objs c b (n + 1) a = [((0, 0, a), (s.objOf c b a).2)] := by
        simp only [Dev.objs]
        rw [if_neg (by omega), if_pos he]
      have ho1 : 0 ≤ (s.objOf c b a).1.1 ∧ (s.objOf c b a).1.1 ≤ 64 := objOf_b
      refine g_region (kPm rfl rfl (kPv (ev_build rfl (bld_105_1 _ rfl)) rfl (p_chg0 rfl (ch_storeA (vs := _) Tryz.sizeOf105 rfl rfl rfl rfl rfl) .free rfl ?_)))
      rintro _ _ rfl
      refine p_nil (g_seq (g_seq (g_region (kPm rfl rfl (kPv (ev_loadA Tryz.isAgg105 Tryz.sizeOf105 rfl rfl) rfl ?_)))))
      refine kPm rfl rfl ?_
      first | refine p_yield (f := f) (r := r) (H1 := row b5 [i64 b.act, i64 b.used, sv] 95 :: row b4 [i64 c.log, i64 c.roots, i64 c.space] 40 :: row b3 [ptr bd] 28 :: DevA bd s :: (Hx x ++ (row b7 [i64 (s.objOf c b a).1.1, i64 (s.objOf c b a).1.2.1, i64 (s.objOf c b a).1.2.2] 105 :: E))) rfl rfl (fun w hh => hh.perm (List.perm_middle (l₁ := blk l (.loop r) :: row b5 [i64 b.act, i64 b.used, sv] 95 :: row b4 [i64 c.log, i64 c.roots, i64 c.space] 40 :: row b3 [ptr bd] 28 :: DevA bd s :: Hx x)).symm) (by rw [hrp]; rfl) hrf ((hround (s.objOf c b a) x (objOf_w hc hb he) hIx).2 (row b7 [i64 (s.objOf c b a).1.1, i64 (s.objOf c b a).1.2.1, i64 (s.objOf c b a).1.2.2] 105 :: E)) .free rfl ?_ ?_ | refine p_yield (f := f) (r := r) (H1 := row b5 [i64 b.act, i64 b.used, sv] 95 :: row b4 [i64 c.log, i64 c.roots, i64 c.space] 40 :: row b3 [ptr bd] 28 :: DevA bd s :: (Hx x ++ (row b7 [i64 0, i64 0, i64 a] 105 :: E))) rfl rfl (fun w hh => hh.perm (List.perm_middle (l₁ := blk l (.loop r) :: row b5 [i64 b.act, i64 b.used, sv] 95 :: row b4 [i64 c.log, i64 c.roots, i64 c.space] 40 :: row b3 [ptr bd] 28 :: DevA bd s :: Hx x)).symm) (by rw [hrp]; rfl) hrf ((hround ((0, 0, a), (s.objOf c b a).2) x (objW0 (by omega)) hIx).2 (row b7 [i64 0, i64 0, i64 a] 105 :: E)) .free rfl ?_ ?_
      rotate_left
      · rintro _ _ ⟨⟩
      rintro _ _ ⟨rfl, rfl⟩
      first | refine go_conv (H' := row b7 [i64 (s.objOf c b a).1.1, i64 (s.objOf c b a).1.2.1, i64 (s.objOf c b a).1.2.2] 105 :: blk l (.loop (lst r cd (st (s.objOf c b a) x))) :: row b5 [i64 b.act, i64 b.used, sv] 95 :: row b4 [i64 c.log, i64 c.roots, i64 c.space] 40 :: row b3 [ptr bd] 28 :: DevA bd s :: (Hx (st (s.objOf c b a) x).2 ++ E)) (fun w hh => hh.perm (List.perm_middle (l₁ := blk l (.loop (lst r cd (st (s.objOf c b a) x))) :: row b5 [i64 b.act, i64 b.used, sv] 95 :: row b4 [i64 c.log, i64 c.roots, i64 c.space] 40 :: row b3 [ptr bd] 28 :: DevA bd s :: Hx (st (s.objOf c b a) x).2))) ?_ | refine go_conv (H' := row b7 [i64 0, i64 0, i64 a] 105 :: blk l (.loop (lst r cd (st ((0, 0, a), (s.objOf c b a).2) x))) :: row b5 [i64 b.act, i64 b.used, sv] 95 :: row b4 [i64 c.log, i64 c.roots, i64 c.space] 40 :: row b3 [ptr bd] 28 :: DevA bd s :: (Hx (st ((0, 0, a), (s.objOf c b a).2) x).2 ++ E)) (fun w hh => hh.perm (List.perm_middle (l₁ := blk l (.loop (lst r cd (st ((0, 0, a), (s.objOf c b a).2) x))) :: row b5 [i64 b.act, i64 b.used, sv] 95 :: row b4 [i64 c.log, i64 c.roots, i64 c.space] 40 :: row b3 [ptr bd] 28 :: DevA bd s :: Hx (st ((0, 0, a), (s.objOf c b a).2) x).2))) ?_
      refine kPv (ev_not rfl) rfl (kPm rfl rfl ?_)
      apply p_or (tp := 40) (t := 37) (σ1 := [(37, _), (7, _), (6, _), (5, _), (0, _), (1, _), (2, _), (3, _)]) 3 rfl (sub_r rfl)
      · intro hg1
        refine p_val rfl (ev_move rfl) (.on rfl rfl (beq_eq hg1)) rfl rfl (p_val rfl (ev_cmp rfl rfl rfl) (.on rfl rfl (beq_eq hg1)) rfl rfl (kPv (ev_pick_f rfl hg1 rfl) rfl ?_))
        exact p_seg rfl (sub_r rfl) (or_f hg1)
      · intro hg1
        refine p_skip rfl (.on rfl rfl (beq_ne hg1)) rfl (p_skip rfl (.on rfl rfl (beq_ne hg1)) rfl (kPv (ev_pick_t rfl hg1 rfl) rfl ?_))
        exact p_seg rfl (sub_r rfl) (or_t hg1)
      refine p_nil ?_
      refine g_if rfl (fun h40 => ?_) (fun h40 => ?_)
      · try simp only [decide_eq_true_eq, decide_eq_false_iff_not, Bool.not_eq_true', Bool.not_eq_false', Bool.or_eq_true, Bool.and_eq_true, Bool.and_eq_false_iff, Bool.or_eq_false_iff, beq_iff_eq, bne_iff_ne, beq_eq_false_iff_ne, bne_eq_false_iff_eq, ge_iff_le, gt_iff_lt, ne_eq] at h40
        refine g_ret ?_
        exact ret_none Tryz.results170 (fun w hh => ⟨_, ⟨by rw [hinv, hob, itl1]; exact (hround ((0, 0, a), (s.objOf c b a).2) x (objW0 (by omega)) hIx).1, by rw [hinv, hob, itl1]⟩, hh.tail⟩)
      · have h40' := h40
        have hg : (st (s.objOf c b a) x).1 = true ∨ (s.objOf c b a).2 ≠ 0 := by first | exact .inr he | (left; simpa [he] using h40)
        have hlr : (st (s.objOf c b a) x).1 = true → lst r cd (st (s.objOf c b a) x) = r := fun hg => by unfold lst; rw [if_pos hg]
        refine g_skip (g_region (kPm rfl rfl (kPv (ev_fa (m := _) fa_105_0 rfl rfl) rfl (kPv (ev_loadA Tryz.isAgg38 Tryz.sizeOf38 rfl rfl) rfl ?_))))
        refine p_callq rfl (en_f Tryz.call114 rfl) (hsize_ok _ _ _ _ (by omega)) .free rfl rfl ?_
        first | refine p_val rfl (ev_add rfl rfl (wr64 (by omega))) .free rfl rfl ?_ | refine p_val rfl (ev_add rfl rfl rfl) .free rfl rfl ?_
        refine kPa rfl rfl (p_nil (go_sb [5, 6, 0, 1, 2, 3] rfl ?_))
        exact absurd (by simp at h40; exact h40.2) he
    · have he : (s.objOf c b a).2 = 0 := by simpa using h29
      have hob : s.objs c b (n + 1) a = s.objOf c b a :: s.objs c b n (a + ((s.objOf c b a).1.1 + 1)) := by
        simp only [Dev.objs]
        rw [if_neg (by omega), if_neg (by omega)]
      have ho := objOf_w hc hb he
      have ho1 := ho.w
      have ho2 := ho.r
      have ho3 := ho.at_
      refine g_skip (g_seq (g_seq (g_region (kPm rfl rfl (kPv (ev_loadA Tryz.isAgg105 Tryz.sizeOf105 rfl rfl) rfl ?_)))))
      refine kPm rfl rfl ?_
      first | refine p_yield (f := f) (r := r) (H1 := row b5 [i64 b.act, i64 b.used, sv] 95 :: row b4 [i64 c.log, i64 c.roots, i64 c.space] 40 :: row b3 [ptr bd] 28 :: DevA bd s :: (Hx x ++ (row b7 [i64 (s.objOf c b a).1.1, i64 (s.objOf c b a).1.2.1, i64 (s.objOf c b a).1.2.2] 105 :: E))) rfl rfl (fun w hh => hh.perm (List.perm_middle (l₁ := blk l (.loop r) :: row b5 [i64 b.act, i64 b.used, sv] 95 :: row b4 [i64 c.log, i64 c.roots, i64 c.space] 40 :: row b3 [ptr bd] 28 :: DevA bd s :: Hx x)).symm) (by rw [hrp]; rfl) hrf ((hround (s.objOf c b a) x (objOf_w hc hb he) hIx).2 (row b7 [i64 (s.objOf c b a).1.1, i64 (s.objOf c b a).1.2.1, i64 (s.objOf c b a).1.2.2] 105 :: E)) .free rfl ?_ ?_ | refine p_yield (f := f) (r := r) (H1 := row b5 [i64 b.act, i64 b.used, sv] 95 :: row b4 [i64 c.log, i64 c.roots, i64 c.space] 40 :: row b3 [ptr bd] 28 :: DevA bd s :: (Hx x ++ (row b7 [i64 0, i64 0, i64 a] 105 :: E))) rfl rfl (fun w hh => hh.perm (List.perm_middle (l₁ := blk l (.loop r) :: row b5 [i64 b.act, i64 b.used, sv] 95 :: row b4 [i64 c.log, i64 c.roots, i64 c.space] 40 :: row b3 [ptr bd] 28 :: DevA bd s :: Hx x)).symm) (by rw [hrp]; rfl) hrf ((hround ((0, 0, a), (s.objOf c b a).2) x (objW0 (by omega)) hIx).2 (row b7 [i64 0, i64 0, i64 a] 105 :: E)) .free rfl ?_ ?_
      rotate_left
      · rintro _ _ ⟨⟩
      rintro _ _ ⟨rfl, rfl⟩
      first | refine go_conv (H' := row b7 [i64 (s.objOf c b a).1.1, i64 (s.objOf c b a).1.2.1, i64 (s.objOf c b a).1.2.2] 105 :: blk l (.loop (lst r cd (st (s.objOf c b a) x))) :: row b5 [i64 b.act, i64 b.used, sv] 95 :: row b4 [i64 c.log, i64 c.roots, i64 c.space] 40 :: row b3 [ptr bd] 28 :: DevA bd s :: (Hx (st (s.objOf c b a) x).2 ++ E)) (fun w hh => hh.perm (List.perm_middle (l₁ := blk l (.loop (lst r cd (st (s.objOf c b a) x))) :: row b5 [i64 b.act, i64 b.used, sv] 95 :: row b4 [i64 c.log, i64 c.roots, i64 c.space] 40 :: row b3 [ptr bd] 28 :: DevA bd s :: Hx (st (s.objOf c b a) x).2))) ?_ | refine go_conv (H' := row b7 [i64 0, i64 0, i64 a] 105 :: blk l (.loop (lst r cd (st ((0, 0, a), (s.objOf c b a).2) x))) :: row b5 [i64 b.act, i64 b.used, sv] 95 :: row b4 [i64 c.log, i64 c.roots, i64 c.space] 40 :: row b3 [ptr bd] 28 :: DevA bd s :: (Hx (st ((0, 0, a), (s.objOf c b a).2) x).2 ++ E)) (fun w hh => hh.perm (List.perm_middle (l₁ := blk l (.loop (lst r cd (st ((0, 0, a), (s.objOf c b a).2) x))) :: row b5 [i64 b.act, i64 b.used, sv] 95 :: row b4 [i64 c.log, i64 c.roots, i64 c.space] 40 :: row b3 [ptr bd] 28 :: DevA bd s :: Hx (st ((0, 0, a), (s.objOf c b a).2) x).2))) ?_
      refine kPv (ev_not rfl) rfl (kPm rfl rfl ?_)
      apply p_or (tp := 40) (t := 37) (σ1 := [(37, _), (7, _), (6, _), (5, _), (0, _), (1, _), (2, _), (3, _)]) 3 rfl (sub_r rfl)
      · intro hg2
        refine p_val rfl (ev_move rfl) (.on rfl rfl (beq_eq hg2)) rfl rfl (p_val rfl (ev_cmp rfl rfl rfl) (.on rfl rfl (beq_eq hg2)) rfl rfl (kPv (ev_pick_f rfl hg2 rfl) rfl ?_))
        exact p_seg rfl (sub_r rfl) (or_f hg2)
      · intro hg2
        refine p_skip rfl (.on rfl rfl (beq_ne hg2)) rfl (p_skip rfl (.on rfl rfl (beq_ne hg2)) rfl (kPv (ev_pick_t rfl hg2 rfl) rfl ?_))
        exact p_seg rfl (sub_r rfl) (or_t hg2)
      refine p_nil ?_
      refine g_if rfl (fun h40 => ?_) (fun h40 => ?_)
      · try simp only [decide_eq_true_eq, decide_eq_false_iff_not, Bool.not_eq_true', Bool.not_eq_false', Bool.or_eq_true, Bool.and_eq_true, Bool.and_eq_false_iff, Bool.or_eq_false_iff, beq_iff_eq, bne_iff_ne, beq_eq_false_iff_ne, bne_eq_false_iff_eq, ge_iff_le, gt_iff_lt, ne_eq] at h40
        refine g_ret ?_
        exact ret_none Tryz.results170 (fun w hh => ⟨_, ⟨by rw [hinv, hob, itl0 (by simpa [he] using h40)]; exact (hround (s.objOf c b a) x (objOf_w hc hb he) hIx).1, by rw [hinv, hob, itl0 (by simpa [he] using h40)]⟩, hh.tail⟩)
      · have h40' := h40
        have hg : (st (s.objOf c b a) x).1 = true ∨ (s.objOf c b a).2 ≠ 0 := by first | exact .inr he | (left; simpa [he] using h40)
        have hlr : (st (s.objOf c b a) x).1 = true → lst r cd (st (s.objOf c b a) x) = r := fun hg => by unfold lst; rw [if_pos hg]
        refine g_skip (g_region (kPm rfl rfl (kPv (ev_fa (m := _) fa_105_0 rfl rfl) rfl (kPv (ev_loadA Tryz.isAgg38 Tryz.sizeOf38 rfl rfl) rfl ?_))))
        refine p_callq rfl (en_f Tryz.call114 rfl) (hsize_ok _ _ _ _ (by omega)) .free rfl rfl ?_
        first | refine p_val rfl (ev_add rfl rfl (wr64 (by omega))) .free rfl rfl ?_ | refine p_val rfl (ev_add rfl rfl rfl) .free rfl rfl ?_
        refine kPa rfl rfl (p_nil (go_sb [5, 6, 0, 1, 2, 3] rfl ?_))
        exact fun a_ w st_ => ⟨(_, n, (st (s.objOf c b a) x).2), ⟨(hround (s.objOf c b a) x (objOf_w hc hb he) hIx).1, by simp only; omega, by simp only; omega, by rw [hinv, hob]; simp only [itl]; rw [if_pos (hg.resolve_right (by omega))]⟩, by simp only; omega, st_.to ⟨rfl, rfl, rfl, rfl, rfl, rfl, trivial⟩ (fun hh => by have hh := hh.tail; rw [hlr (hg.resolve_right (by omega))] at hh; exact hh)⟩
  · have hk : ¬ a < b.place c b.used := by simpa using h19
    refine g_exit ?_
    exact end_none Tryz.results170 (fun w hh => ⟨_, ⟨by rw [hinv, objs_end (by omega)]; exact hIx, by rw [hinv, objs_end (by omega)]; rfl⟩, hh⟩)
end Go.Proofs.YtlcibdhmgclfjaaGreat
namespace Go.Proofs.YtlcibdhmgclfjaaGreat
open Go
theorem block_len {s : Dev} {c : Cfg} (hc : CfgW c) : (s.block c).1.rts.length ≤ 16 := by
  have := hc.r2
  unfold Dev.block
  split
  · exact Nat.zero_le _
  · rw [tab_len]; omega
theorem block_rts {s : Dev} {c : Cfg} (hu : U64 s) : ∀ x ∈ (s.block c).1.rts, 0 ≤ x ∧ x < 18446744073709551616 := by
  intro x hx
  unfold Dev.block at hx
  split at hx
  · cases hx
  · obtain ⟨i, _, rfl⟩ := List.mem_map.1 hx
    exact hu.load _
theorem lst_busy {ι : Type} {r : Loop} {cd : ι → Code} {y : Bool × ι} (h : r.state ≠ .busy) : (lst r cd y).state ≠ .busy := by
  unfold lst; split
  · exact h
  · simp
theorem lst_none {ι : Type} {r : Loop} {cd : ι → Code} {y : Bool × ι} (h : (lst r cd y).pending = none) : y.1 = true := by
  unfold lst at h; split at h
  · assumption
  · cases h
theorem lst_some {ι : Type} {r : Loop} {cd : ι → Code} {y : Bool × ι} {c : Code} (hr : r.pending = none) (h : (lst r cd y).pending = some c) : y.1 = false ∧ c = cd y.2 := by
  unfold lst at h; split at h
  · rw [hr] at h; cases h
  · rename_i h1; exact ⟨by simpa using h1, by simpa using h.symm⟩
def stS (p : Obj3 × Int) (x : List (Int × Obj3) × Int) : Bool × List (Int × Obj3) × Int := if p.2 ≠ 0 then (false, (x.1, p.2)) else (true, (mset x.1 p.1.2.2 p.1, x.2))
def Dev.startsI (s : Dev) (c : Cfg) (b : Blk) : Bool × List (Int × Obj3) × Int := itl stS (s.objs c b (b.used.toNat + 1) (b.place c 0)) ([], 0)
def Dev.starts (s : Dev) (c : Cfg) (b : Blk) : List (Int × Obj3) × Int := (s.startsI c b).2
theorem itl_inv {α ι : Type} {st : α → ι → Bool × ι} {I : ι → Prop} (h : ∀ a x, I x → (st a x).1 = true → I (st a x).2) : ∀ (l : List α) (x : ι), I x → (itl st l x).1 = true → I (itl st l x).2
  | [], x, hx, _ => hx
  | a :: t, x, hx, h1 => by
    unfold itl at h1 ⊢
    split at h1
    · rename_i ha; rw [if_pos ha]; exact itl_inv h t _ (h a x hx ha) h1
    · cases h1
theorem starts_ok {s : Dev} {c : Cfg} {b : Blk} (h : (s.startsI c b).1 = true) : (s.starts c b).2 = 0 :=
  itl_inv (I := fun x => x.2 = 0) (fun a x hx h => by
    unfold stS at h ⊢; split at h
    · cases h
    · rename_i h1; rw [if_neg h1]; exact hx) _ _ rfl h
theorem stS_bad : ∀ (l : List (Obj3 × Int)) (x : List (Int × Obj3) × Int), (itl stS l x).1 = false → ¬ (itl stS l x).2.2 = 0
  | [], x, h => by cases h
  | a :: t, x, h => by
    unfold itl at h ⊢
    split at h
    · rename_i ha; rw [if_pos ha]; exact stS_bad t _ h
    · rename_i ha; rw [if_neg ha]
      unfold stS at ha ⊢
      split at ha
      · rename_i h1; rw [if_pos h1]; exact h1
      · exact absurd rfl ha
theorem starts_bad {s : Dev} {c : Cfg} {b : Blk} (h : (s.startsI c b).1 = false) : ¬ (s.starts c b).2 = 0 := stS_bad _ _ h
theorem wstarts_ok (B : World) (Fr : List HP) (bd : Nat) (s : Dev) (c : Cfg) (hc : CfgW c) (b : Blk) (sv : Value) (hb : BlkW c b) (hsv : cell1 sv = true) :
    ∀ w, Holds B (DevA bd s :: Fr) w → Calls Tryz.prog 133 [ptr bd, cfgV c, blkV b sv].toArray w (Ret B (fun rv H' => ∃ mb, rv = .tuple #[.map (some mb), i64 (s.starts c b).2] ∧ H' = mapA .i64 objV mb (s.starts c b).1 :: DevA bd s :: Fr) (fun _ _ => False)) := by
  refine fn_enter_m Tryz.func133 rfl Tryz.ntmps133 rfl (g_seq (g_region (p_chg rfl (ch_boxA rfl) .free rfl rfl ?_)))
  rintro _ _ ⟨b4, rfl, rfl⟩
  refine p_chg rfl (ch_boxA rfl) .free rfl rfl ?_
  rintro _ _ ⟨b5, rfl, rfl⟩
  refine p_chg rfl (ch_alloc1 Tryz.zeroValue176 rfl) .free rfl rfl ?_
  rintro _ _ ⟨b6, rfl, rfl⟩
  refine p_chg rfl (ch_alloc1 Tryz.zeroValue33 rfl) .free rfl rfl ?_
  rintro _ _ ⟨b7, rfl, rfl⟩
  refine p_nil (g_seq (g_region (p_chg rfl (ch_makeMap .i64 objV) .free rfl rfl ?_)))
  rintro _ _ ⟨mb, rfl, rfl⟩
  refine p_chg rfl (ch_alloc1 Tryz.zeroValue176 rfl) .free rfl rfl ?_
  rintro _ _ ⟨b8, rfl, rfl⟩
  refine p_chg0 rfl (ch_store Tryz.sizeOf176 rfl rfl rfl rfl) .free rfl ?_
  rintro _ _ rfl
  refine p_nil (g_seq (g_seq (g_region (kPm rfl rfl (kPv (ev_loadA Tryz.isAgg40 Tryz.sizeOf40 rfl rfl) rfl ?_)))))
  refine kPv (ev_loadA Tryz.isAgg95 Tryz.sizeOf95 rfl rfl) rfl ?_
  refine p_call rfl (en_f Tryz.call136 rfl) (wobjs_ok _ _ bd c b sv hsv) .free rfl rfl ?_ ?_
  rotate_left
  · rintro _ _ ⟨⟩
  rintro _ _ ⟨c3, c4, c5, rfl, rfl⟩
  refine p_nil (go_sb [15, 8, 7, 6] rfl (g_block (g_range rfl Tryz.call170 ?_)))
  intro l m tmps hts hkn w hh
  have hk6 := hkn 6 _ rfl
  have hk7 := hkn 7 _ rfl
  have hk8 := hkn 8 _ rfl
  refine (wobj1_ok B (blk m (.deferred (some [])) :: row b5 [i64 b.act, i64 b.used, sv] 95 :: row b4 [i64 c.log, i64 c.roots, i64 c.space] 40 :: Fr) l 133 c3 c4 c5 bd c hc b sv hb hsv s (List (Int × Obj3) × Int) _ rfl rfl (fun x => True) (fun x => [mapA .i64 objV mb x.1, row b6 [if x.2 = 0 then .map none else .map (some mb)] 176, row b7 [i64 x.2] 33, row b8 [.map (some mb)] 176]) (fun _ => .ret) stS ([], 0) trivial ?_ w (hh.pk [0, 1, 1, 1, 7, 2, 3, 2, 1])).mono (Ret.mono ?_ fun _ _ h => h.elim)
  · intro p x _ _
    refine ⟨trivial, fun E => ?_⟩
    simp only [List.cons_append, List.nil_append]
    refine round_go (n := 27) (σ := [(16, objV p.1), (17, i64 p.2), (6, ptr b6), (7, ptr b7), (8, ptr b8)]) Tryz.func133 (by simp [lrec, hts]) (KnA.knows (by simp [KnA, lrec, hts]; exact ⟨(Array.getElem?_eq_some_iff.1 hk6).2, (Array.getElem?_eq_some_iff.1 hk7).2, (Array.getElem?_eq_some_iff.1 hk8).2⟩)) rfl ?_
    refine g_seq (g_region (p_chg rfl (ch_allocA Tryz.zeroValue105 rfl) .free rfl rfl ?_))
    rintro _ _ ⟨b9, rfl, rfl⟩
    refine p_chg0 rfl (ch_storeA (vs := [i64 p.1.1, i64 p.1.2.1, i64 p.1.2.2]) Tryz.sizeOf105 rfl rfl rfl rfl rfl) .free rfl ?_
    rintro _ _ rfl
    refine p_nil (g_region (kPa rfl rfl (p_nil (go_pk [1] (go_mid (g_block (g_seq (g_seq (g_region (kPm rfl rfl (kPv (ev_cmp rfl rfl rfl) rfl ?_)))))))))))
    refine p_nil ?_
    refine g_if rfl (fun h19 => ?_) (fun h19 => ?_)
    · have h19' : p.2 ≠ 0 := by simpa using h19
      refine g_seq (g_region (kPv (ev_load Tryz.isAgg176 rfl rfl) rfl (kPm rfl rfl (p_chg0 rfl (ch_store Tryz.sizeOf176 rfl rfl rfl rfl) .free rfl ?_))))
      rintro _ _ rfl
      refine p_chg0 rfl (ch_store Tryz.sizeOf33 rfl rfl rfl rfl) .free rfl ?_
      rintro _ _ rfl
      refine p_nil (go_sb [9, 6, 7, 8] rfl (g_ret ?_))
      have hst : stS p x = (false, (x.1, p.2)) := by unfold stS; rw [if_pos h19']
      exact go_rJ fun w hh => ⟨_, ⟨by rw [hst], rfl⟩, by rw [hst]; rw [if_neg h19']; exact (hh.dp [1])⟩
    · have h19' : p.2 = 0 := by simpa using h19
      refine g_skip (g_region (kPv (ev_load Tryz.isAgg176 rfl rfl) rfl (kPv (ev_fa (m := _) fa_105_1 rfl rfl) rfl (kPv (ev_load Tryz.isAgg3 rfl rfl) rfl (kPv (ev_loadA Tryz.isAgg105 Tryz.sizeOf105 rfl rfl) rfl ?_)))))
      refine p_chg0 rfl (ch_mapset (enc := objV) (u := p.1) Tryz.runUnderlying176 Tryz.runUnderlying3 rfl rfl rfl rfl) .free rfl ?_
      rintro _ _ rfl
      refine p_nil (go_sb [6, 7] rfl ?_)
      have hst : stS p x = (true, (mset x.1 p.1.2.2 p.1, x.2)) := by unfold stS; rw [if_neg (by omega)]
      exact go_rK fun w hh => ⟨_, ⟨by rw [hst], rfl⟩, by rw [hst]; exact (hh.dp [1])⟩
  rintro _ _ ⟨_, rfl⟩
  simp only [List.cons_append, List.nil_append]
  refine ⟨_, _, fun w hh => hh, lst_busy (by simp [lrec]), fun hp => ?_, fun c' hc' => ?_⟩
  rotate_left
  · obtain ⟨h1, rfl⟩ := lst_some rfl hc'
    refine g_ret ?_
    exact ret_2_m Tryz.results133 (.at 9 .nil) (.cell1 rfl Tryz.isAgg176 rfl) (.cell1 rfl Tryz.isAgg33 rfl) fun w hh => ⟨_, ⟨mb, by have hb := starts_bad h1; unfold Dev.starts Dev.startsI at hb ⊢; rw [if_neg hb], rfl⟩, ((hh.dp [0, 0, 0, 0, 2, 2, 2, 2, 2, 2]).pk [1])⟩
  have hy := starts_ok (s := s) (c := c) (b := b) (lst_none hp)
  refine g_seq (g_region (kPv (ev_load Tryz.isAgg176 rfl rfl) rfl (p_chg0 rfl (ch_store Tryz.sizeOf176 rfl rfl rfl rfl) .free rfl ?_)))
  rintro _ _ rfl
  refine p_chg0 rfl (ch_store Tryz.sizeOf33 rfl rfl rfl rfl) .free rfl ?_
  rintro _ _ rfl
  refine p_nil (g_ret ?_)
  exact ret_2_m Tryz.results133 (.at 9 (.nil)) (.cell1 rfl Tryz.isAgg176 rfl) (.cell1 rfl Tryz.isAgg33 rfl) (fun w hh => ⟨_, ⟨mb, by rw [hy], rfl⟩, ((hh.dp [0, 0, 0, 0, 2, 2, 2, 2, 2, 2]).pk [1])⟩)
end Go.Proofs.YtlcibdhmgclfjaaGreat
namespace Go.Proofs.YtlcibdhmgclfjaaGreat
open Go
abbrev enc3 (o : Obj3) : List Value := [i64 o.1, i64 o.2.1, i64 o.2.2]
theorem enc3_w : EncW 3 enc3 := ⟨fun _ => rfl, fun _ => rfl⟩
theorem mval_i (o : Option Int) : mval i64 (i64 0) o = i64 (o.getD 0) := by cases o <;> rfl
abbrev SeenS := List (Int × Unit) × List Obj3
def Dev.see (s : Dev) (c : Cfg) (b : Blk) (x : SeenS) (v : Int) : SeenS :=
  if (mget x.1 v).isSome = true ∨ b.has c v = false then x
  else if (s.objOf c b v).2 = 0 then (mset x.1 v (), x.2 ++ [(s.objOf c b v).1]) else x
def Dev.namesOf (s : Dev) (o : Obj3) : List Int := (s.objNames o o.2.1.toNat 0).map fun p => IntKind.u64.wrap p.2
def Dev.reachL (s : Dev) (c : Cfg) (b : Blk) : Nat → SeenS → List Obj3
  | 0, _ => []
  | f + 1, x => match x.2 with
    | [] => []
    | o :: t => o :: s.reachL c b f ((s.namesOf o).foldl (s.see c b) (x.1, t))
def Dev.reach (s : Dev) (c : Cfg) (b : Blk) (ws : List Int) : List Obj3 := s.reachL c b (b.used.toNat + 1) (ws.foldl (s.see c b) ([], []))
structure SeenW (s : Dev) (c : Cfg) (b : Blk) (x : SeenS) : Prop where
  nd : (x.1.map Prod.fst).Nodup
  rng : ∀ k ∈ x.1.map Prod.fst, c.frm b.act ≤ k ∧ k < c.frm b.act + b.used
  obj : ∀ o ∈ x.2, ObjW o
theorem seen_w0 {s : Dev} {c : Cfg} {b : Blk} : SeenW s c b ([], []) := ⟨List.nodup_nil, fun _ h => (by cases h), fun _ h => (by cases h)⟩
theorem mset_none {α : Type} {l : List (Int × α)} {k : Int} {a : α} (h : mget l k = none) : mset l k a = l ++ [(k, a)] := by
  induction l with
  | nil => rfl
  | cons p t ih =>
    unfold mget at h
    split at h
    · cases h
    · rename_i hp; unfold mset; rw [if_neg hp, ih h]; rfl
theorem see_w {s : Dev} {c : Cfg} (hc : CfgW c) {b : Blk} (hb : BlkW c b) {x : SeenS} (h : SeenW s c b x) (v : Int) : SeenW s c b (s.see c b x v) := by
  unfold Dev.see
  split
  · exact h
  split
  · rename_i h1 h2
    have h3 : mget x.1 v = none := by cases hm : mget x.1 v with
      | none => rfl
      | some _ => exact absurd (.inl (by rw [hm]; rfl)) h1
    have h4 : b.has c v = true := by cases hm : b.has c v with
      | true => rfl
      | false => exact absurd (.inr hm) h1
    have h5 := bhas_b hc hb h4
    rw [mset_none h3]
    refine ⟨?_, fun k hk => ?_, fun o ho => ?_⟩
    · rw [List.map_append, List.nodup_append]
      exact ⟨h.nd, by simp, fun a ha b' hb' => by simp at hb'; subst hb'; intro e; subst e; exact mget_none h3 ha⟩
    · rw [List.map_append, List.mem_append] at hk
      rcases hk with hk | hk
      · exact h.rng k hk
      · simp at hk; subst hk; omega
    · rcases List.mem_append.1 ho with ho | ho
      · exact h.obj o ho
      · rw [List.mem_singleton.1 ho]; exact objOf_w hc hb h2
  · exact h
theorem nodup_len : ∀ (n : Nat) (a : Int) (l : List Int), l.Nodup → (∀ k ∈ l, a ≤ k ∧ k < a + n) → l.length ≤ n
  | 0, a, l, _, h => by
    cases l with
    | nil => exact Nat.le_refl 0
    | cons x t => have := h x (List.mem_cons_self ..); omega
  | n + 1, a, l, hn, h => by
    have h1 := nodup_len n a (l.erase (a + n)) (hn.erase _) fun k hk => by
      have h2 := h k (List.mem_of_mem_erase hk)
      have h3 : k ≠ a + n := fun e => by subst e; exact (List.Nodup.not_mem_erase hn) hk
      omega
    have h4 : l.length ≤ (l.erase (a + n)).length + 1 := by rw [List.length_erase]; split <;> omega
    omega
theorem seen_len {s : Dev} {c : Cfg} {b : Blk} (hb : BlkW c b) {x : SeenS} (h : SeenW s c b x) : x.1.length ≤ b.used.toNat := by
  have h1 := hb.used
  have := nodup_len b.used.toNat (c.frm b.act) _ h.nd fun k hk => by have := h.rng k hk; omega
  simpa using this
def seenM (b : Blk) (x : SeenS) : Nat := b.used.toNat + x.2.length - x.1.length
theorem see_m {s : Dev} {c : Cfg} {b : Blk} (x : SeenS) (v : Int) : (s.see c b x v).2.length + x.1.length = x.2.length + (s.see c b x v).1.length := by
  unfold Dev.see
  split
  · omega
  split
  · rename_i h1 h2
    have h3 : mget x.1 v = none := by cases hm : mget x.1 v with
      | none => rfl
      | some _ => exact absurd (.inl (by rw [hm]; rfl)) h1
    rw [mset_none h3]; simp; omega
  · omega
theorem foldsee_m {s : Dev} {c : Cfg} {b : Blk} : ∀ (l : List Int) (x : SeenS), (l.foldl (s.see c b) x).2.length + x.1.length = x.2.length + (l.foldl (s.see c b) x).1.length
  | [], _ => rfl
  | v :: t, x => by
    have h1 := foldsee_m (s := s) (c := c) (b := b) t (s.see c b x v)
    have h2 := see_m (s := s) (c := c) (b := b) x v
    rw [List.foldl_cons]; omega
theorem see_ok (B : World) (Fr : List HP) (c1 c2 c3 c4 c5 mr bd : Nat) (s : Dev) (c : Cfg) (hc : CfgW c) (b : Blk) (sv : Value) (hb : BlkW c b) (hsv : cell1 sv = true) (x : SeenS) (hxl : x.2.length ≤ 1000000) (v : Int) (hv : 0 ≤ v ∧ v < 18446744073709551616) :
    ∀ w, Holds B (row c1 [.map (some mr)] 218 :: row c2 [i64 b.act, i64 b.used, sv] 95 :: row c3 [i64 c.log, i64 c.roots, i64 c.space] 40 :: row c4 [ptr bd] 28 :: VarG 219 105 3 enc3 c5 x.2 :: mapA .u64 unitE mr x.1 :: DevA bd s :: Fr) w → Calls Tryz.prog 172 [w64 v, ptr c1, ptr c2, ptr c3, ptr c4, ptr c5].toArray w (Ret B (fun _ H' => H' = row c1 [.map (some mr)] 218 :: row c2 [i64 b.act, i64 b.used, sv] 95 :: row c3 [i64 c.log, i64 c.roots, i64 c.space] 40 :: row c4 [ptr bd] 28 :: VarG 219 105 3 enc3 c5 (s.see c b x v).2 :: mapA .u64 unitE mr (s.see c b x v).1 :: DevA bd s :: Fr) (fun _ _ => False)) := by
  refine fn_enter Tryz.func172 rfl Tryz.ntmps172 rfl (g_seq (g_seq (g_region (kPv (ev_load Tryz.isAgg218 rfl rfl) rfl (kPm rfl rfl (kPv ((ev_lookup2 Tryz.runUnderlying218 Tryz.runUnderlying26 Tryz.zeroValue149 rfl rfl).eq (lk_unit _)) rfl (kPm rfl rfl (kPv (ev_ext rfl rfl) rfl (kPv (ev_ext rfl rfl) rfl (p_chg rfl (ch_allocA Tryz.zeroValue149 rfl) .free rfl rfl ?_))))))))))
  rintro _ _ ⟨b7, rfl, rfl⟩
  refine p_chg0 rfl (ch_storeA (vs := []) Tryz.sizeOf149 rfl rfl rfl rfl rfl) .free rfl ?_
  rintro _ _ rfl
  refine kPa rfl rfl (p_nil (go_sb [8, 0, 1, 2, 3, 4, 5] rfl (g_seq (g_region (kPm rfl rfl (kPm rfl rfl ?_))))))
  apply p_or (tp := 24) (t := 18) (σ1 := [(18, _), (0, _), (1, _), (2, _), (3, _), (4, _), (5, _)]) 6 rfl (sub_r rfl)
  · intro hg1
    refine p_val rfl (ev_loadA Tryz.isAgg95 Tryz.sizeOf95 rfl rfl) (.on rfl rfl (beq_eq hg1)) rfl rfl ?_
    refine p_val rfl (ev_loadA Tryz.isAgg40 Tryz.sizeOf40 rfl rfl) (.on rfl rfl (beq_eq hg1)) rfl rfl ?_
    refine p_val rfl (ev_move rfl) (.on rfl rfl (beq_eq hg1)) rfl rfl (p_callq rfl (en_f Tryz.call135 rfl) (has_ok _ _ c hc b sv hb hsv _ hv) (.on rfl rfl (beq_eq hg1)) rfl rfl ?_)
    refine p_val rfl (ev_not rfl) (.on rfl rfl (beq_eq hg1)) rfl rfl (kPv (ev_pick_f rfl hg1 rfl) rfl ?_)
    exact p_seg rfl (sub_r rfl) (or_f hg1)
  · intro hg1
    refine p_skip rfl (.on rfl rfl (beq_ne hg1)) rfl (p_skip rfl (.on rfl rfl (beq_ne hg1)) rfl (p_skip rfl (.on rfl rfl (beq_ne hg1)) rfl (p_skip rfl (.on rfl rfl (beq_ne hg1)) rfl (p_skip rfl (.on rfl rfl (beq_ne hg1)) rfl (kPv (ev_pick_t rfl hg1 rfl) rfl ?_)))))
    exact p_seg rfl (sub_r rfl) (or_t hg1)
  refine p_nil ?_
  refine g_if rfl (fun h24 => ?_) (fun h24 => ?_)
  · have h1 : (mget x.1 v).isSome = true ∨ b.has c v = false := by simpa using h24
    have hres : s.see c b x v = x := by unfold Dev.see; rw [if_pos h1]
    refine g_ret ?_
    exact ret_none Tryz.results172 (fun w hh => ⟨_, rfl, by rw [hres]; exact (hh.dp [0])⟩)
  · have h1 : ¬((mget x.1 v).isSome = true ∨ b.has c v = false) := by simpa using h24
    have hh0 : b.has c v = true := by cases hm : b.has c v with
      | true => rfl
      | false => exact absurd (.inr hm) h1
    have hvb := bhas_b hc hb hh0
    refine g_skip (g_seq (g_region (kPv (ev_load Tryz.isAgg28 rfl rfl) rfl (kPv (ev_loadA Tryz.isAgg40 Tryz.sizeOf40 rfl rfl) rfl ?_))))
    refine kPv (ev_loadA Tryz.isAgg95 Tryz.sizeOf95 rfl rfl) rfl ?_
    refine kPm rfl rfl ?_
    first | refine p_val rfl (ev_conv Tryz.runUnderlying26 Tryz.runUnderlying3 rfl (wr64 (by omega))) .free rfl rfl ?_ | refine p_val rfl (ev_conv Tryz.runUnderlying26 Tryz.runUnderlying3 rfl rfl) .free rfl rfl ?_
    refine p_callq rfl (en_f Tryz.call122 rfl) (ro_at (q := DevA) (fun Fr => obj_ok _ Fr _ _ c hc b sv hb hsv v (by omega))) .free rfl rfl ?_
    refine kPm rfl rfl (kPv (ev_ext rfl rfl) rfl (kPv (ev_ext rfl rfl) rfl (p_chg rfl (ch_allocA Tryz.zeroValue105 rfl) .free rfl rfl ?_)))
    rintro _ _ ⟨b9, rfl, rfl⟩
    refine p_chg0 rfl (ch_storeA (vs := _) Tryz.sizeOf105 rfl rfl rfl rfl rfl) .free rfl ?_
    rintro _ _ rfl
    refine kPa rfl rfl (p_nil (go_sb [10, 9, 0, 1, 5] rfl (g_seq (g_region (kPm rfl rfl (kPv (ev_cmp rfl rfl rfl) rfl (p_nil ?_)))))))
    refine g_if rfl (fun h35 => ?_) (fun h35 => ?_)
    · have h2 : (s.objOf c b v).2 = 0 := by simpa using h35
      have hres : s.see c b x v = (mset x.1 v (), x.2 ++ [(s.objOf c b v).1]) := by unfold Dev.see; rw [if_neg h1, if_pos h2]
      refine g_seq (g_region (kPv (ev_load Tryz.isAgg218 rfl rfl) rfl (kPm rfl rfl (kPv (ev_build rfl (bld_149)) rfl (p_chg0 rfl (ch_mapset (enc := unitE) (u := ()) Tryz.runUnderlying218 Tryz.runUnderlying26 rfl rfl rfl rfl) .free rfl ?_)))))
      rintro _ _ rfl
      refine p_nil (go_sb [9, 5] rfl (g_region (go_pk [6] (go_varg fun rv hrv => (kPv (ev_load Tryz.isAgg219 rfl rfl) rfl (kPv (ev_loadA Tryz.isAgg105 Tryz.sizeOf105 rfl rfl) rfl ?_))))))
      refine p_chg rfl (ch_bsG enc3_w (v := (s.objOf c b v).1) Tryz.runUnderlying219 Tryz.sizeOf105 Tryz.zeroValue105 ⟨⟨by decide, by decide⟩, rfl⟩ rfl rfl) .free rfl rfl ?_
      rintro _ _ ⟨b41, rfl, rfl⟩
      refine go_pk [2] (p_chg rfl (ch_append_vecg enc3_w (ys := [(s.objOf c b v).1]) rfl rfl Tryz.runUnderlying219 Tryz.runUnderlying219 ⟨_, rfl⟩ Tryz.sizeOf105 Tryz.zeroValue105 rfl tb_105 rfl rfl (SlM.row (b := b41) rfl rfl) (Nat.succ_pos _) (by simp; omega)) .free rfl rfl ?_)
      rintro rv2 _ ⟨hrv2, rfl⟩
      refine p_chg0 rfl (ch_store Tryz.sizeOf219 rfl rfl (by first | rfl | assumption) rfl) .free rfl ?_
      rintro _ _ rfl
      refine p_nil ?_
      exact end_none Tryz.results172 (fun w hh => ⟨_, rfl, by rw [hres]; exact (varg_holds hrv2 ((hh.dp [1, 2, 2]).pk [1])).pk [1, 1, 1, 1]⟩)
    · have h2 : ¬ (s.objOf c b v).2 = 0 := by simpa using h35
      have hres : s.see c b x v = x := by unfold Dev.see; rw [if_neg h1, if_neg h2]
      refine g_skip ?_
      exact end_none Tryz.results172 (fun w hh => ⟨_, rfl, by rw [hres]; exact (hh.dp [0, 0])⟩)
theorem itl_true {α ι : Type} {f : ι → α → ι} : ∀ (l : List α) (x : ι), itl (fun p x => (true, f x p)) l x = (true, l.foldl f x)
  | [], _ => rfl
  | a :: t, x => by unfold itl; rw [if_pos rfl]; exact itl_true t _
theorem itl_pos {α ι : Type} {st : α → ι → Bool × ι} {a : α} {t : List α} {x : ι} (h : (st a x).1 = true) : itl st (a :: t) x = itl st t (st a x).2 := by
  conv => lhs; unfold itl
  rw [if_pos h]
theorem u64w_b (v : Int) : 0 ≤ IntKind.u64.wrap v ∧ IntKind.u64.wrap v < 18446744073709551616 := by
  simp [IntKind.wrap, IntKind.bits, IntKind.signed]
  omega
theorem reachL_nil {s : Dev} {c : Cfg} {b : Blk} {x : SeenS} (h : x.2 = []) : ∀ n, s.reachL c b n x = []
  | 0 => rfl
  | n + 1 => by unfold Dev.reachL; rw [h]
theorem wfrom1_ok (B : World) (E : List HP) (l f b1 b2 b3 b4 bd : Nat) (c : Cfg) (hc : CfgW c) (b : Blk) (sv : Value) (hb : BlkW c b) (hsv : cell1 sv = true) (s : Dev) (q : Option Addr) (cap : Nat) (ws : List Int) (hws : ∀ v ∈ ws, 0 ≤ v ∧ v < 18446744073709551616) (hwn : ws.length ≤ 1000000) (hwq : ∀ i, i < ws.length → ∃ b off, q = some ⟨b, off, none⟩) (ι : Type) (r : Loop) (hrf : r.fn = f) (hrp : r.params.size = 1) (I : ι → Prop) (Hx : ι → List HP) (cd : ι → Code) (st : Obj3 → ι → Bool × ι) (y0 : ι) (h0 : I y0) (hwl : SlR B (Hx y0 ++ E) (.slice q ws.length cap) (ws.map w64)) (hround : ∀ (p : Obj3) (x : ι), ObjW p → I x → I (st p x).2 ∧ ∀ (E : List HP) w, Holds B (blk l (.loop r) :: DevA bd s :: (Hx x ++ E)) w → RoundIn (Wd (cxF f)) 0 Tryz.prog l f ((r.params.zip [objV p].toArray).foldl (fun tmps (t, a) => tmps.setIfInBounds t a) r.tmps) r.assign r.body w (Ret B (fun rv H' => rv = .bool (st p x).1 ∧ H' = blk l (.loop (lst r cd (st p x))) :: DevA bd s :: (Hx (st p x).2 ++ E)) (fun _ _ => False))) :
    ∀ w, Holds B (blk l (.loop r) :: row b1 [i64 b.act, i64 b.used, sv] 95 :: row b2 [i64 c.log, i64 c.roots, i64 c.space] 40 :: row b3 [ptr bd] 28 :: row b4 [.slice q ws.length cap] 25 :: DevA bd s :: (Hx y0 ++ E)) w → Calls Tryz.prog 171 [.func (.yield l) #[] #[], ptr b1, ptr b2, ptr b3, ptr b4].toArray w (Ret B (fun _ H' => I (itl st (s.reach c b ws) y0).2 ∧ H' = blk l (.loop (lst r cd (itl st (s.reach c b ws) y0))) :: DevA bd s :: (Hx (itl st (s.reach c b ws) y0).2 ++ E)) (fun _ _ => False)) := by
  refine fn_enter_m Tryz.func171 rfl Tryz.ntmps171 rfl ?_
  have hbu := hb.used
  have hcs := hc.s2
  refine g_seq (g_region (p_chg rfl (ch_makeMap .u64 unitE) .free rfl rfl ?_))
  rintro _ _ ⟨mr, rfl, rfl⟩
  refine p_chg rfl (ch_alloc1 Tryz.zeroValue218 rfl) .free rfl rfl ?_
  rintro _ _ ⟨b6, rfl, rfl⟩
  refine p_chg0 rfl (ch_store Tryz.sizeOf218 rfl rfl (by first | rfl | assumption) rfl) .free rfl ?_
  rintro _ _ rfl
  refine p_nil (g_seq (g_region (p_chg rfl (ch_alloc1 Tryz.zeroValue219 rfl) .free rfl rfl ?_)))
  rintro _ _ ⟨b7, rfl, rfl⟩
  refine go_conv (fun w hh => varg_nil (α := Obj3) (T := 105) (m := 3) (enc := enc3) hh) (p_nil (g_seq (g_region (kPv (ev_mkf rfl rfl) rfl (p_chg rfl (ch_alloc1 Tryz.zeroValue220 rfl) .free rfl rfl ?_)))))
  rintro _ _ ⟨b8, rfl, rfl⟩
  refine p_chg0 rfl (ch_store Tryz.sizeOf220 rfl rfl (by first | rfl | assumption) rfl) .free rfl ?_
  rintro _ _ rfl
  refine p_nil (g_seq (g_seq (g_region (kPv (ev_load Tryz.isAgg25 rfl rfl) rfl (kPv (ev_len rfl Tryz.runUnderlying25 ⟨_, rfl⟩ rfl) rfl (kPm rfl rfl (p_nil (g_block (g_loopk (ι := Nat × SeenS) [17, 16, 8, 7, 0, 3] (fun (k, x) => (k ≤ ws.length) ∧ (x = (ws.take k).foldl (s.see c b) ([], [])) ∧ (SeenW s c b x) ∧ (x.2.length ≤ x.1.length)) (fun (k, x) => [(18, i64 k)]) (fun (k, x) => row b6 [.map (some mr)] 218 :: row b1 [i64 b.act, i64 b.used, sv] 95 :: row b2 [i64 c.log, i64 c.roots, i64 c.space] 40 :: row b3 [ptr bd] 28 :: VarG 219 105 3 enc3 b7 x.2 :: mapA .u64 unitE mr x.1 :: DevA bd s :: row b8 [.func (.func 172) #[] #[ptr b6, ptr b1, ptr b2, ptr b3, ptr b7]] 220 :: blk l (.loop r) :: row b4 [.slice q ws.length cap] 25 :: (Hx y0 ++ E)) (fun (k, x) => ws.length - k) (0, ([], [])) (⟨Nat.zero_le _, rfl, seen_w0, Nat.le_refl _⟩) (fun a w st => st.to ⟨rfl, trivial⟩ (fun hh => (hh.pk [2, 4, 4, 4, 1, 1, 3]))) ?_)))))))))
  rintro ⟨k, x⟩ ⟨hk0, hxe, hxw, hxl⟩
  try simp only at hk0 hxe hxw hxl ⊢
  refine go_sub (σ' := [(18, i64 k), (17, _), (16, _), (8, _), (7, _), (0, _), (3, _)]) (sub_r rfl) (g_seq (g_region (kPv (ev_cmp rfl rfl rfl) rfl (p_nil (g_seq ?_)))))
  refine g_if rfl (fun h19 => ?_) (fun h19 => ?_)
  · have hk : k < ws.length := by simp at h19; omega
    obtain ⟨bq, oq, rfl⟩ := hwq k hk
    have hsl := seen_len hb hxw
    refine g_skip (g_seq (g_block (g_seq (g_region (kPv (ev_iaS Tryz.runUnderlying25 Tryz.sizeOf26 rfl rfl (by omega) (by omega)) rfl ?_)))))
    refine kPv (ev_loadS (v := w64 ws[k]) Tryz.isAgg26 (hwl.up) rfl (by rw [Int.toNat_natCast, List.getElem?_map, List.getElem?_eq_getElem hk]; rfl)) rfl ?_
    refine kPa rfl rfl (p_nil (g_region (kPv (ev_load Tryz.isAgg220 rfl rfl) rfl (kPm rfl rfl ?_))))
    refine p_call rfl (en_c Tryz.call172 rfl rfl) (see_ok B _ b6 b1 b2 b3 b7 mr bd s c hc b sv hb hsv x (by omega) ws[k] (hws _ (List.getElem_mem hk))) .free rfl rfl ?_ ?_
    rotate_left
    · rintro _ _ ⟨⟩
    rintro _ _ rfl
    have hm1 := see_m (s := s) (c := c) (b := b) x ws[k]
    refine p_nil (go_sb [18, 17, 16, 8, 7, 0, 3] rfl (g_region ?_))
    first | refine p_val rfl (ev_add rfl rfl (wr64 (by omega))) .free rfl rfl ?_ | refine p_val rfl (ev_add rfl rfl rfl) .free rfl rfl ?_
    refine kPm rfl rfl (p_nil ?_)
    exact fun a w st_ => ⟨(k + 1, (s.see c b x ws[k])), ⟨by omega, by rw [hxe, List.take_succ_eq_append_getElem hk, List.foldl_append]; rfl, see_w hc hb hxw _, by simp only; omega⟩, by simp only; omega, st_.to (sub_r rfl) (fun hh => hh)⟩
  · have hk : ¬ k < ws.length := by simp at h19; omega
    obtain rfl : k = ws.length := by omega
    rw [List.take_length] at hxe
    refine g_exit (g_block (g_loopkD (ι := SeenS × ι × Nat × List Nat) [8, 7, 0, 3] (fun (x, y, n, ms) => (SeenW s c b x) ∧ (x.2.length ≤ x.1.length) ∧ (I y) ∧ (seenM b x < n) ∧ (itl st (s.reach c b ws) y0 = itl st (s.reachL c b n x) y)) (fun (x, y, n, ms) => marksD ms) (fun (x, y, n, ms) => []) (fun (x, y, n, ms) => blk l (.loop r) :: DevA bd s :: row b6 [.map (some mr)] 218 :: row b1 [i64 b.act, i64 b.used, sv] 95 :: row b2 [i64 c.log, i64 c.roots, i64 c.space] 40 :: row b3 [ptr bd] 28 :: VarG 219 105 3 enc3 b7 x.2 :: mapA .u64 unitE mr x.1 :: row b8 [.func (.func 172) #[] #[ptr b6, ptr b1, ptr b2, ptr b3, ptr b7]] 220 :: row b4 [.slice q ws.length cap] 25 :: marksH ms :: (Hx y ++ E)) (fun (x, y, n, ms) => n) (x, y0, b.used.toNat + 1, []) (⟨hxw, hxl, h0, by unfold seenM; omega, by rw [hxe]; rfl⟩) (fun a w st => st.to trivial (fun hh => ((marksH_nil (hh.pk [8, 6])).pk [1, 1, 1, 1, 1, 1, 1, 1, 1, 1]))) ?_))
    rintro ⟨x, y, n, ms⟩ ⟨hxw, hxl, hIy, hn, hinv⟩
    try simp only at hxw hxl hIy hn hinv ⊢
    refine go_sub (σ' := [(8, _), (7, _), (0, _), (3, _)]) (sub_r rfl) (g_seq (g_seq (go_pk [6] (go_varg fun rv hrv => (go_pk [1] (go_vecgq fun q2 cap2 hq2 hqi => ?_))))))
    subst hq2
    refine g_region (kPv (ev_load Tryz.isAgg219 rfl rfl) rfl (kPv (ev_len rfl Tryz.runUnderlying219 ⟨_, rfl⟩ rfl) rfl (kPv (ev_cmp rfl rfl rfl) rfl (p_nil ?_))))
    refine g_if rfl (fun h28 => ?_) (fun h28 => ?_)
    · obtain ⟨x1, x2⟩ := x
      obtain ⟨o, t, rfl⟩ : ∃ o t, x2 = o :: t := by
        cases x2 with
        | nil => simp at h28
        | cons o t => exact ⟨o, t, rfl⟩
      obtain ⟨bq2, oq2, rfl⟩ := hqi 0 (Nat.succ_pos _)
      have ho : ObjW o := hxw.obj o (List.mem_cons_self ..)
      obtain ⟨n, rfl⟩ : ∃ m, n = m + 1 := ⟨n - 1, by omega⟩
      have hrl : s.reachL c b (n + 1) (x1, o :: t) = o :: s.reachL c b n ((s.namesOf o).foldl (s.see c b) (x1, t)) := rfl
      have hIy2 := (hround o y ho hIy).1
      simp only at hrv hxl ⊢
      refine g_skip (g_block (g_seq (g_region (kPv (ev_load Tryz.isAgg219 rfl rfl) rfl (kPv (ev_ia (m := oq2 + 0 * 3) Tryz.runUnderlying219 Tryz.sizeOf105 rfl rfl (by decide) (by simp only [List.length_cons]; omega) rfl) rfl (kPv (ev_loadN (i := 0) Tryz.isAgg105 Tryz.sizeOf105 (vecg_sln enc3_w 0 rfl) rfl rfl) rfl (p_chg rfl (ch_allocA Tryz.zeroValue105 rfl) .free rfl rfl ?_)))))))
      rintro _ _ ⟨b11, rfl, rfl⟩
      refine p_chg0 rfl (ch_storeA (vs := _) Tryz.sizeOf105 rfl rfl rfl rfl rfl) .free rfl ?_
      rintro _ _ rfl
      refine p_nil (g_seq (g_region (kPv (ev_load Tryz.isAgg219 rfl rfl) rfl (go_pk [1] (p_chg rfl (ch_tail_vecg enc3_w (v := o) (xs := t) Tryz.runUnderlying219 Tryz.sizeOf105 rfl rfl) .free rfl rfl ?_)))))
      rintro rv3 _ ⟨hrv3, rfl⟩
      refine p_chg0 rfl (ch_store Tryz.sizeOf219 rfl rfl (by first | rfl | assumption) rfl) .free rfl ?_
      rintro _ _ rfl
      refine p_nil (go_sb [11, 8, 7, 0, 3] rfl (g_seq (g_seq (go_pk [2, 0] (go_conv (fun w hh => varg_holds hrv3 hh) (go_pk [2, 2, 1, 1, 1, 1, 1] (g_region (kPm rfl rfl (kPv (ev_loadA Tryz.isAgg105 Tryz.sizeOf105 rfl rfl) rfl ?_)))))))))
      refine p_yield (f := f) (r := r) (H1 := DevA bd s :: (Hx y ++ ([row b11 [i64 o.1, i64 o.2.1, i64 o.2.2] 105, row b6 [.map (some mr)] 218, row b1 [i64 b.act, i64 b.used, sv] 95, row b2 [i64 c.log, i64 c.roots, i64 c.space] 40, row b3 [ptr bd] 28, VarG 219 105 3 enc3 b7 t, mapA .u64 unitE mr x1, row b8 [.func (.func 172) #[] #[ptr b6, ptr b1, ptr b2, ptr b3, ptr b7]] 220, row b4 [.slice q ws.length cap] 25, marksH ms] ++ E))) rfl rfl (fun w hh => (Holds.hop [row b11 [i64 o.1, i64 o.2.1, i64 o.2.2] 105, row b6 [.map (some mr)] 218, row b1 [i64 b.act, i64 b.used, sv] 95, row b2 [i64 c.log, i64 c.roots, i64 c.space] 40, row b3 [ptr bd] 28, VarG 219 105 3 enc3 b7 t, mapA .u64 unitE mr x1, row b8 [.func (.func 172) #[] #[ptr b6, ptr b1, ptr b2, ptr b3, ptr b7]] 220, row b4 [.slice q ws.length cap] 25, marksH ms] (Hx y) hh)) (by rw [hrp]; rfl) hrf ((hround o y ho hIy).2 ([row b11 [i64 o.1, i64 o.2.1, i64 o.2.2] 105, row b6 [.map (some mr)] 218, row b1 [i64 b.act, i64 b.used, sv] 95, row b2 [i64 c.log, i64 c.roots, i64 c.space] 40, row b3 [ptr bd] 28, VarG 219 105 3 enc3 b7 t, mapA .u64 unitE mr x1, row b8 [.func (.func 172) #[] #[ptr b6, ptr b1, ptr b2, ptr b3, ptr b7]] 220, row b4 [.slice q ws.length cap] 25, marksH ms] ++ E)) .free rfl ?_ ?_
      rotate_left
      · rintro _ _ ⟨⟩
      rintro _ _ ⟨rfl, rfl⟩
      refine go_conv (H' := blk l (.loop (lst r cd (st o y))) :: DevA bd s :: ([row b11 [i64 o.1, i64 o.2.1, i64 o.2.2] 105, row b6 [.map (some mr)] 218, row b1 [i64 b.act, i64 b.used, sv] 95, row b2 [i64 c.log, i64 c.roots, i64 c.space] 40, row b3 [ptr bd] 28, VarG 219 105 3 enc3 b7 t, mapA .u64 unitE mr x1, row b8 [.func (.func 172) #[] #[ptr b6, ptr b1, ptr b2, ptr b3, ptr b7]] 220, row b4 [.slice q ws.length cap] 25, marksH ms] ++ (Hx (st o y).2 ++ E))) (fun w hh => Holds.hop (Hx (st o y).2) [row b11 [i64 o.1, i64 o.2.1, i64 o.2.2] 105, row b6 [.map (some mr)] 218, row b1 [i64 b.act, i64 b.used, sv] 95, row b2 [i64 c.log, i64 c.roots, i64 c.space] 40, row b3 [ptr bd] 28, VarG 219 105 3 enc3 b7 t, mapA .u64 unitE mr x1, row b8 [.func (.func 172) #[] #[ptr b6, ptr b1, ptr b2, ptr b3, ptr b7]] 220, row b4 [.slice q ws.length cap] 25, marksH ms] hh) ?_
      simp only [List.cons_append, List.nil_append]
      refine kPv (ev_not rfl) rfl (p_nil ?_)
      refine g_if rfl (fun h37 => ?_) (fun h37 => ?_)
      · have hg : (st o y).1 = false := by simpa using h37
        refine g_ret ?_
        exact ret_none_m Tryz.results171 (marks_at 11) (fun w hh => ⟨_, ⟨by rw [hinv, hrl, itl0 hg]; exact hIy2, by rw [hinv, hrl, itl0 hg]⟩, (hh.dp [2, 2, 2, 2, 2, 2, 2, 2, 2])⟩)
      · have hg : (st o y).1 = true := by simpa using h37
        refine g_skip (g_seq (g_region (kPv (ev_loadA Tryz.isAgg105 Tryz.sizeOf105 rfl rfl) rfl ?_)))
        refine kPv (ev_load Tryz.isAgg28 rfl rfl) rfl ?_
        refine p_call rfl (en_f Tryz.call173 rfl) (onames_ok _ _ o bd) .free rfl rfl ?_ ?_
        rotate_left
        · rintro _ _ ⟨⟩
        rintro _ _ ⟨n1, n2, rfl, rfl⟩
        refine p_nil (go_sb [40, 8, 7, 0, 3] rfl (g_block (g_range rfl Tryz.call186 ?_)))
        intro l2 m tmps hts hkn w hh
        have hk8 := hkn 8 _ rfl
        have hlr : lst r cd (st o y) = r := by unfold lst; rw [if_pos hg]
        have hh2 := ((hh.dp [6]).pk [0, 1, 1, 2, 2, 2, 2, 2, 2, 2, 2, 1, 1, 1])
        rw [hlr] at hh2
        refine (onam1_ok B l2 171 n1 n2 bd o ho s SeenS _ rfl rfl (fun x => x.2.length ≤ x.1.length ∧ SeenW s c b x) (fun x => row b6 [.map (some mr)] 218 :: row b1 [i64 b.act, i64 b.used, sv] 95 :: row b2 [i64 c.log, i64 c.roots, i64 c.space] 40 :: row b3 [ptr bd] 28 :: VarG 219 105 3 enc3 b7 x.2 :: mapA .u64 unitE mr x.1 :: row b8 [.func (.func 172) #[] #[ptr b6, ptr b1, ptr b2, ptr b3, ptr b7]] 220 :: blk l (.loop r) :: row b4 [.slice q ws.length cap] 25 :: marksH ms :: blk m (.deferred (some [])) :: (Hx (st o y).2 ++ E)) (fun _ => .ret) (fun (p : Int × Int) (x : SeenS) => (true, s.see c b x (IntKind.u64.wrap p.2))) (x1, t) ?_ ?_ w hh2).mono (Ret.mono ?_ fun _ _ h => h.elim)
        · exact ⟨by simp only [List.length_cons] at hxl; simp only; omega, ⟨hxw.nd, hxw.rng, fun o' ho' => hxw.obj o' (List.mem_cons_of_mem _ ho')⟩⟩
        · rintro p x ⟨hxl, hxw⟩
          have hsl := seen_len hb hxw
          have hm1 := see_m (s := s) (c := c) (b := b) x (IntKind.u64.wrap p.2)
          refine ⟨⟨by simp only; omega, see_w hc hb hxw _⟩, ?_⟩
          refine round_go (n := 47) (σ := [(41, i64 p.1), (42, i64 p.2), (8, ptr b8)]) Tryz.func171 (by simp [lrec, hts]) (KnA.knows (by simp [KnA, lrec, hts]; exact (Array.getElem?_eq_some_iff.1 hk8).2)) rfl ?_; refine g_region ?_; refine kPa rfl rfl ?_; refine p_nil ?_; refine go_mid ?_; refine g_block ?_; refine g_region ?_; refine kPv (ev_load Tryz.isAgg220 rfl rfl) rfl ?_; refine kPm rfl rfl ?_
          first | refine p_val rfl (ev_conv Tryz.runUnderlying3 Tryz.runUnderlying26 rfl (wru64 (by omega))) .free rfl rfl ?_ | refine p_val rfl (ev_conv Tryz.runUnderlying3 Tryz.runUnderlying26 rfl rfl) .free rfl rfl ?_
          refine go_pk [4, 4, 4, 4, 4, 4, 3] ?_
          refine p_call rfl (en_c Tryz.call172 rfl rfl) (see_ok B _ b6 b1 b2 b3 b7 mr bd s c hc b sv hb hsv x (by omega) (IntKind.u64.wrap p.2) (u64w_b _)) .free rfl rfl ?_ ?_
          rotate_left
          · rintro _ _ ⟨⟩
          rintro _ _ rfl
          refine p_nil (go_sb [] rfl (go_pk [7] ?_))
          exact go_rK fun w hh => ⟨_, ⟨rfl, rfl⟩, (hh.pk [0, 7, 7, 6])⟩
        rintro _ _ ⟨⟨hxl2, hxw2⟩, rfl⟩
        rw [itl_true] at hxl2 hxw2 ⊢
        have hfe : List.foldl (fun x (p : Int × Int) => s.see c b x (IntKind.u64.wrap p.2)) (x1, t) (s.objNames o o.2.1.toNat 0) = (s.namesOf o).foldl (s.see c b) (x1, t) := by unfold Dev.namesOf; rw [List.foldl_map]
        rw [hfe] at hxl2 hxw2 ⊢
        have hm2 := foldsee_m (s := s) (c := c) (b := b) (s.namesOf o) (x1, t)
        simp only at hxl2 hxw2 hm2
        have hs1 := seen_len hb hxw2
        have hs2 := seen_len hb hxw
        simp only at hs1 hs2
        refine ⟨_, _, fun w hh => hh, lst_busy (by simp [lrec]), fun hp => ?_, fun c' hc' => absurd (lst_some rfl hc').1 (fun h => Bool.noConfusion h)⟩
        exact fun a w st_ => ⟨(_, (st o y).2, n, m :: ms), ⟨hxw2, hxl2, hIy2, by unfold seenM at hn ⊢; simp only [List.length_cons] at hn ⊢; omega, by rw [hinv, hrl, itl_pos hg]⟩, by simp only; omega, st_.to (sub_r rfl) (fun hh => ((marksH_cons ((hh.dp [0, 0, 0]).pk [11, 10, 8])).pk [1, 1, 1, 1, 1, 1, 1, 1, 1, 1]))⟩
    · have hxn : x.2 = [] := by
        cases hx2 : x.2 with
        | nil => rfl
        | cons o t => rw [hx2] at h28; simp at h28
      refine g_exit ?_
      exact end_none_m Tryz.results171 (marks_at 11) (fun w hh => ⟨_, ⟨by rw [hinv, reachL_nil hxn]; exact hIy, by rw [hinv, reachL_nil hxn]; rfl⟩, (hh.dp [0, 0, 2, 2, 2, 2, 2, 2, 2])⟩)
theorem wfrom_ok (B : World) (H : List HP) (bd : Nat) (c : Cfg) (b : Blk) (sv : Value) (hsv : cell1 sv = true) (wv : Value) (hwv : cell1 wv = true) :
    ∀ w, Holds B H w → Calls Tryz.prog 138 [ptr bd, cfgV c, blkV b sv, wv].toArray w (Ret B (fun v H' => ∃ b1 b2 b3 b4, v = .func (.func 171) [].toArray [ptr b1, ptr b2, ptr b3, ptr b4].toArray ∧ H' = row b4 [wv] 25 :: row b1 [i64 b.act, i64 b.used, sv] 95 :: row b2 [i64 c.log, i64 c.roots, i64 c.space] 40 :: row b3 [ptr bd] 28 :: H) (fun _ _ => False)) := by
  refine fn_enter Tryz.func138 rfl Tryz.ntmps138 rfl (g_seq (g_region (p_chg rfl (ch_box1 rfl rfl) .free rfl rfl ?_)))
  rintro _ _ ⟨b4, rfl, rfl⟩
  refine p_chg rfl (ch_boxA rfl) .free rfl rfl ?_
  rintro _ _ ⟨b5, rfl, rfl⟩
  refine p_chg rfl (ch_boxA rfl) .free rfl rfl ?_
  rintro _ _ ⟨b6, rfl, rfl⟩
  refine p_chg rfl (ch_box1 rfl hwv) .free rfl rfl ?_
  rintro _ _ ⟨b7, rfl, rfl⟩
  refine kPa rfl rfl (p_nil (g_seq (g_region (kPv (ev_mkf rfl rfl) rfl (kPa rfl rfl (p_nil (go_sb [8] rfl (g_ret ?_))))))))
  exact ret_tmp Tryz.results138 rfl (fun w hw => ⟨_, ⟨_, _, _, _, rfl, rfl⟩, hw⟩)
def sizeI (n : Int) (o : Obj3) : Int := IntKind.i64.wrap (n + (o.1 + 1))
def Dev.reachSize (s : Dev) (c : Cfg) (b : Blk) (ws : List Int) : Int := (s.reach c b ws).foldl sizeI 0
theorem wsize_ok (B : World) (Fr : List HP) (bd : Nat) (c : Cfg) (hc : CfgW c) (b : Blk) (sv : Value) (hb : BlkW c b) (hsv : cell1 sv = true) (s : Dev) (q : Option Addr) (cap : Nat) (ws : List Int) (hws : ∀ v ∈ ws, 0 ≤ v ∧ v < 18446744073709551616) (hwn : ws.length ≤ 1000000) (hwq : ∀ i, i < ws.length → ∃ b off, q = some ⟨b, off, none⟩) (hwl : SlR B Fr (.slice q ws.length cap) (ws.map w64)) :
    ∀ w, Holds B (DevA bd s :: Fr) w → Calls Tryz.prog 73 [ptr bd, cfgV c, blkV b sv, .slice q ws.length cap].toArray w (PureR B (DevA bd s :: Fr) (i64 (s.reachSize c b ws))) := by
  refine fn_enter_m Tryz.func73 rfl Tryz.ntmps73 rfl (g_seq (g_region (p_chg rfl (ch_boxA rfl) .free rfl rfl ?_)))
  rintro _ _ ⟨b5, rfl, rfl⟩
  refine p_chg rfl (ch_boxA rfl) .free rfl rfl ?_
  rintro _ _ ⟨b6, rfl, rfl⟩
  refine kPa rfl rfl (p_nil (g_seq (g_region (p_chg rfl (ch_alloc1 Tryz.zeroValue3 rfl) .free rfl rfl ?_))))
  rintro _ _ ⟨b9, rfl, rfl⟩
  refine p_chg0 rfl (ch_store Tryz.sizeOf3 rfl rfl rfl rfl) .free rfl ?_
  rintro _ _ rfl
  refine p_nil (g_seq (g_seq (g_region (kPm rfl rfl (kPv (ev_loadA Tryz.isAgg40 Tryz.sizeOf40 rfl rfl) rfl ?_)))))
  refine kPv (ev_loadA Tryz.isAgg95 Tryz.sizeOf95 rfl rfl) rfl ?_
  refine kPm rfl rfl ?_
  refine p_call rfl (en_f Tryz.call138 rfl) (wfrom_ok _ _ bd c b sv hsv (.slice q ws.length cap) rfl) .free rfl rfl ?_ ?_
  rotate_left
  · rintro _ _ ⟨⟩
  rintro _ _ ⟨c1, c2, c3, c4, rfl, rfl⟩
  refine p_nil (go_sb [15, 9, 8] rfl (g_block (g_range rfl Tryz.call171 ?_)))
  intro l m tmps hts hkn w hh
  have hk9 := hkn 9 _ rfl
  refine (wfrom1_ok B (blk m (.deferred (some [])) :: Fr) l 73 c1 c2 c3 c4 bd c hc b sv hb hsv s q cap ws hws hwn hwq Int _ rfl rfl (fun x => True) (fun x => [row b9 [i64 x] 3]) (fun _ => .ret) (fun o x => (true, sizeI x o)) 0 trivial ((hwl.cons _).cons _) ?_ w ((hh.dp [7, 7]).pk [0, 2, 2, 2, 1, 2, 1])).mono (Ret.mono ?_ fun _ _ h => h.elim)
  · intro o x ho _
    have ho1 := ho.w
    refine ⟨trivial, fun E => ?_⟩
    simp only [List.cons_append, List.nil_append]
    refine round_go (n := 23) (σ := [(16, objV o), (9, ptr b9)]) Tryz.func73 (by simp [lrec, hts]) (KnA.knows (by simp [KnA, lrec, hts]; exact (Array.getElem?_eq_some_iff.1 hk9).2)) rfl ?_; refine g_region ?_; refine p_chg rfl (ch_allocA Tryz.zeroValue105 rfl) .free rfl rfl ?_
    rintro _ _ ⟨b10, rfl, rfl⟩
    refine p_chg0 rfl (ch_storeA (vs := _) Tryz.sizeOf105 rfl rfl rfl rfl rfl) .free rfl ?_
    rintro _ _ rfl
    refine p_nil (go_pk [1] (go_mid (g_block (g_drawt 5 Tryz.mixed (by kernel_rfl) (by kernel_rfl) ?_))))
    refine kQv (ev_load Tryz.isAgg3 rfl rfl) rfl (kQv (ev_fa (m := _) fa_105_0 rfl rfl) rfl (kQv (ev_loadA Tryz.isAgg38 Tryz.sizeOf38 rfl rfl) rfl ?_))
    refine q_call rfl (en_f Tryz.call114 rfl) (hsize_ok _ _ _ _ (by omega)) .free rfl ?_
    refine kQv (ev_add (c := sizeI x o) rfl rfl rfl) rfl (q_nil (p_chg0 rfl (ch_store Tryz.sizeOf3 rfl rfl rfl rfl) .free rfl ?_))
    rintro _ _ rfl
    refine p_nil (go_sb [] rfl ?_)
    exact go_rK fun w hh => ⟨_, ⟨rfl, rfl⟩, (hh.dp [1])⟩
  rintro _ _ ⟨_, rfl⟩
  rw [itl_true]
  simp only [List.cons_append, List.nil_append]
  refine ⟨_, _, fun w hh => hh, lst_busy (by simp [lrec]), fun hp => ?_, fun c' hc' => absurd (lst_some rfl hc').1 (fun h => Bool.noConfusion h)⟩
  refine g_seq (g_region (kPv (ev_load Tryz.isAgg3 rfl rfl) rfl (kPa rfl rfl (p_nil (g_ret ?_)))))
  exact ret_tmp_m Tryz.results73 rfl (.at 3 (.nil)) (fun w hh => ⟨rfl, (hh.dp [0, 1, 1])⟩)
end Go.Proofs.YtlcibdhmgclfjaaGreat
namespace Go.Proofs.YtlcibdhmgclfjaaGreat
open Go
structure ColS where
  bd : Nat
  c : Cfg
  b : Blk
  to_ : Int
  scan : Int
  free : Int
  todo : List Int
  went : List (Int × Int)
  done : Bool
abbrev colRow (S : ColS) (rsv tsv : Value) (mw : Nat) : List Value := [ptr S.bd, i64 S.c.log, i64 S.c.roots, i64 S.c.space, i64 S.b.act, i64 S.b.used, rsv, i64 S.to_, i64 S.scan, i64 S.free, tsv, .map (some mw), .bool S.done]
def ColA (x : Nat) (S : ColS) : HP := hex fun (p : Value × Value × Nat) => grp [row x (colRow S p.1 p.2.1 p.2.2) 191, VecU 0 (p.1, S.b.rts), VecU 0 (p.2.1, S.todo), mapA .u64 i64 p.2.2 S.went, pr (cell1 p.1 = true ∧ cell1 p.2.1 = true)]
theorem go_col {B : World} {n : Nat} {D : List Deferred} {σ : Env} {x : Nat} {S : ColS} {Fr : List HP} {K : Act → World → Prop} (h : ∀ rsv tsv mw, cell1 rsv = true → cell1 tsv = true → GO B n D σ (row x (colRow S rsv tsv mw) 191 :: VecU 0 (rsv, S.b.rts) :: VecU 0 (tsv, S.todo) :: mapA .u64 i64 mw S.went :: Fr) K) : GO B n D σ (ColA x S :: Fr) K := fun a w st => by
  obtain ⟨p, hx⟩ := st.holds.hex
  have h2 := (hx.grp.front 4 rfl).pr
  exact h _ _ _ h2.1.1 h2.1.2 a w ⟨st.toStA, h2.2⟩
theorem col_holds {B : World} {x mw : Nat} {S : ColS} {rsv tsv : Value} {Fr : List HP} {w : World} (hr : cell1 rsv = true) (ht : cell1 tsv = true) (h : Holds B (row x (colRow S rsv tsv mw) 191 :: VecU 0 (rsv, S.b.rts) :: VecU 0 (tsv, S.todo) :: mapA .u64 i64 mw S.went :: Fr) w) : Holds B (ColA x S :: Fr) w :=
  Holds.unhex (rsv, tsv, mw) (Holds.ungrp (l := [row x (colRow S rsv tsv mw) 191, VecU 0 (rsv, S.b.rts), VecU 0 (tsv, S.todo), mapA .u64 i64 mw S.went, pr _]) ((h.unpr ⟨hr, ht⟩).back 4 (by simp)))
def cpyN : Nat → Int → Int → Int → Dev → Out Unit
  | 0, _, _, _, s => .ok () s
  | k + 1, i, a, f, s => (s.store (a + i) (s.load (f + i))).then fun _ s' => cpyN k (i + 1) a f s'
theorem cpyN_succ (k : Nat) (i a f : Int) (s : Dev) : cpyN (k + 1) i a f s = (s.store (a + i) (s.load (f + i))).then fun _ s' => cpyN k (i + 1) a f s' := rfl
def ColS.copied (S : ColS) (s : Dev) (w : Int) : Out (Int × ColS) :=
  if (mget S.went w).isSome = true then .ok ((mget S.went w).getD 0, S) s
  else if S.b.has S.c w = false then .ok (0, S) s
  else if (s.objOf S.c S.b w).2 ≠ 0 then .ok (0, S) s
  else (cpyN ((s.objOf S.c S.b w).1.1 + 1).toNat 0 S.free (s.objOf S.c S.b w).1.2.2 s).then fun _ s' => .ok (S.free, { S with free := S.free + ((s.objOf S.c S.b w).1.1 + 1), went := mset S.went w S.free }) s'
def refsN : Nat → Int → ColS → Dev → Out ColS
  | 0, _, S, s => .ok S s
  | k + 1, i, S, s => if s.load (S.scan + 1 + i) = 0 then refsN k (i + 1) S s
    else (S.copied s (s.load (S.scan + 1 + i))).then fun r s1 => (s1.store (S.scan + 1 + i) r.1).then fun _ s2 => refsN k (i + 1) r.2 s2
def keepN : Nat → Int → Int → Dev → Out Unit
  | 0, _, _, s => .ok () s
  | f + 1, i, e, s => if i < e then (s.flush i).then fun _ s' => keepN f (i + 8) e s' else .ok () s
def ColS.keep (S : ColS) (s : Dev) : Out Unit :=
  (keepN ((S.free - S.to_).toNat + 1) S.to_ S.free s).then fun _ s' => if S.to_ < S.free then s'.fence else .ok () s'
def ColS.step (S : ColS) (s : Dev) : Out (Bool × ColS) :=
  if S.done = true then .ok (true, S) s
  else match S.todo with
    | w :: t => (S.copied s w).then fun r s' => .ok (false, { r.2 with todo := t }) s'
    | [] => if S.scan < S.free then
        (refsN (unp (s.load S.scan)).2.1.toNat 0 S s).then fun S' s' => .ok (false, { S' with scan := S'.scan + ((unp (s.load S.scan)).1 + 1) }) s'
      else (S.keep s).then fun _ s' => .ok (true, { S with done := true }) s'
def runN : Nat → ColS → Dev → Out ColS
  | 0, S, s => .ok S s
  | f + 1, S, s => (S.step s).then fun r s' => if r.1 = true then .ok r.2 s' else runN f r.2 s'
def ColS.meas (S : ColS) : Nat := S.todo.length + (S.free - S.scan).toNat + 66 * (S.b.used.toNat - S.went.length) + (if S.done = true then 0 else 1)
def ColS.run (S : ColS) (s : Dev) : Out ColS := runN (S.meas + 1) S s
def ColS.block (S : ColS) : Blk := ⟨1 - S.b.act, S.free - S.to_, S.b.rts.map fun w => (mget S.went w).getD 0⟩
def newCol (bd : Nat) (c : Cfg) (b : Blk) (ws : List Int) : ColS := ⟨bd, c, b, c.frm (1 - b.act), c.frm (1 - b.act), c.frm (1 - b.act), ws, [], false⟩
structure ColW (S : ColS) : Prop where
  c : CfgW S.c
  b : BlkW S.c S.b
  rl : S.b.rts.length ≤ 16
  to_ : 0 ≤ S.to_ ∧ S.to_ ≤ 20000
  scan : S.to_ ≤ S.scan ∧ S.scan ≤ 400000
  free : S.to_ ≤ S.free ∧ S.free ≤ S.to_ + 65 * S.went.length
  nd : (S.went.map Prod.fst).Nodup
  rng : ∀ k ∈ S.went.map Prod.fst, S.c.frm S.b.act ≤ k ∧ k < S.c.frm S.b.act + S.b.used
  val : ∀ p ∈ S.went, 0 ≤ p.2 ∧ p.2 ≤ 1000000
  todo : ∀ v ∈ S.todo, 0 ≤ v ∧ v < 18446744073709551616
  rts : ∀ v ∈ S.b.rts, 0 ≤ v ∧ v < 18446744073709551616
theorem ColW.wl {S : ColS} (h : ColW S) : S.went.length ≤ S.b.used.toNat := by
  have h1 := h.b.used
  have := nodup_len S.b.used.toNat (S.c.frm S.b.act) _ h.nd fun k hk => by have := h.rng k hk; omega
  simpa using this
theorem ColW.fb {S : ColS} (h : ColW S) : S.free ≤ 300000 := by
  have h1 := h.wl; have h2 := h.b.used; have h3 := h.c.s2; have h4 := h.free; have h5 := h.to_; omega
theorem ColW.vb {S : ColS} (h : ColW S) (w : Int) : 0 ≤ (mget S.went w).getD 0 ∧ (mget S.went w).getD 0 ≤ 1000000 := by
  cases hm : mget S.went w with
  | none => exact ⟨Int.le_refl 0, by decide⟩
  | some v => exact h.val _ (mget_mem hm)
theorem copied_w {S : ColS} (h : ColW S) {s s' : Dev} {w : Int} {r : Int × ColS} (e : S.copied s w = .ok r s') : ColW r.2 ∧ (0 ≤ r.1 ∧ r.1 ≤ 1000000) ∧ r.2.scan = S.scan ∧ r.2.todo = S.todo ∧ r.2.done = S.done ∧ r.2.b = S.b ∧ r.2.bd = S.bd ∧ r.2.c = S.c ∧ r.2.to_ = S.to_ ∧ S.free ≤ r.2.free ∧ r.2.free - S.free + 66 * (S.b.used.toNat - r.2.went.length : Nat) ≤ 66 * (S.b.used.toNat - S.went.length : Nat) := by
  have hwl := h.wl; have hfb := h.fb; have hto := h.to_; have hfr := h.free
  unfold ColS.copied at e
  split at e
  · cases e; exact ⟨h, h.vb w, rfl, rfl, rfl, rfl, rfl, rfl, rfl, Int.le_refl _, by simp only; omega⟩
  rename_i h1
  split at e
  · cases e; exact ⟨h, ⟨Int.le_refl 0, by simp only; omega⟩, rfl, rfl, rfl, rfl, rfl, rfl, rfl, Int.le_refl _, by simp only; omega⟩
  rename_i h2
  split at e
  · cases e; exact ⟨h, ⟨Int.le_refl 0, by simp only; omega⟩, rfl, rfl, rfl, rfl, rfl, rfl, rfl, Int.le_refl _, by simp only; omega⟩
  obtain ⟨_, s1, _, e⟩ := then_inv e
  cases e
  have h3 : mget S.went w = none := by cases hm : mget S.went w with
    | none => rfl
    | some _ => exact absurd (by rw [hm]; rfl) h1
  have h4 : S.b.has S.c w = true := by cases hm : S.b.has S.c w with
    | true => rfl
    | false => exact absurd hm h2
  have h5 := bhas_b h.c h.b h4
  have h6 := objOf_b (s := s) (c := S.c) (b := S.b) (a := w)
  have hnk : w ∉ S.went.map Prod.fst := mget_none h3
  have hnd : ((S.went ++ [(w, S.free)]).map Prod.fst).Nodup := by
    rw [List.map_append, List.nodup_append]
    exact ⟨h.nd, by simp, fun a ha b' hb' => by simp at hb'; subst hb'; intro e; subst e; exact hnk ha⟩
  have hrng : ∀ k ∈ (S.went ++ [(w, S.free)]).map Prod.fst, S.c.frm S.b.act ≤ k ∧ k < S.c.frm S.b.act + S.b.used := fun k hk => by
    rw [List.map_append, List.mem_append] at hk
    rcases hk with hk | hk
    · exact h.rng k hk
    · simp at hk; subst hk; omega
  have hl2 := nodup_len S.b.used.toNat (S.c.frm S.b.act) _ hnd fun k hk => by have := hrng k hk; have := h.b.used; omega
  simp only [List.length_map, List.length_append, List.length_cons, List.length_nil] at hl2
  refine ⟨⟨h.c, h.b, h.rl, h.to_, h.scan, ?_, by rw [mset_none h3]; exact hnd, by rw [mset_none h3]; exact hrng, fun p hp => ?_, h.todo, h.rts⟩, ⟨by simp only; omega, by simp only; omega⟩, rfl, rfl, rfl, rfl, rfl, rfl, rfl, by simp only; omega, ?_⟩
  · rw [mset_none h3]; simp only [List.length_append, List.length_cons, List.length_nil]; omega
  · rw [mset_none h3] at hp
    rcases List.mem_append.1 hp with hp | hp
    · exact h.val p hp
    · rw [List.mem_singleton.1 hp]; simp only; omega
  · rw [mset_none h3]; simp only [List.length_append, List.length_cons, List.length_nil]; omega
theorem cpyN_u64 : ∀ (k : Nat) (i a f : Int) (s s' : Dev), U64 s → cpyN k i a f s = .ok () s' → U64 s' ∧ s'.n = s.n
  | 0, _, _, _, s, s', h, e => by cases e; exact ⟨h, rfl⟩
  | k + 1, i, a, f, s, s', h, e => by
    unfold cpyN at e
    obtain ⟨_, s1, e1, e⟩ := then_inv e
    have h1 := store_u64 h (h.load _) e1
    have h2 := cpyN_u64 k _ _ _ s1 s' h1.1 e
    exact ⟨h2.1, h2.2.trans h1.2⟩
theorem copied_u64 {S : ColS} {s s' : Dev} {w : Int} {r : Int × ColS} (hu : U64 s) (e : S.copied s w = .ok r s') : U64 s' ∧ s'.n = s.n := by
  unfold ColS.copied at e
  split at e
  · cases e; exact ⟨hu, rfl⟩
  split at e
  · cases e; exact ⟨hu, rfl⟩
  split at e
  · cases e; exact ⟨hu, rfl⟩
  obtain ⟨_, s1, e1, e⟩ := then_inv e
  cases e; exact cpyN_u64 _ _ _ _ _ _ hu e1
theorem ccopied_ok (B : World) (Fr : List HP) (x : Nat) (S : ColS) (hS : ColW S) (s : Dev) (hu : U64 s) (v : Int) (hv : 0 ≤ v ∧ v < 18446744073709551616) :
    ∀ w, Holds B (ColA x S :: DevA S.bd s :: Fr) w → Calls Tryz.prog 157 [ptr x, w64 v].toArray w (Ret B (fun rv H' => ∃ r s', S.copied s v = .ok r s' ∧ rv = i64 r.1 ∧ H' = ColA x r.2 :: DevA S.bd s' :: Fr) (fun c H' => ∃ s', S.copied s v = .off s' ∧ c = offc ∧ H' = DevA S.bd s' :: Fr)) := by
  refine fn_enter Tryz.func157 rfl Tryz.ntmps157 rfl (go_col fun rsv tsv mw hrsv htsv => ?_)
  have hfb := hS.fb
  have hfr := hS.free
  have hto := hS.to_
  refine g_seq (g_region (kPa rfl rfl (p_nil (g_seq (g_seq (g_region (kPm rfl rfl ?_)))))))
  first | refine kPv (ev_nil rfl) rfl ?_ | refine kPv (ev_nilf rfl) rfl ?_
  refine kPv (ev_fa (m := _) fa_191_7 rfl rfl) rfl (kPv (ev_load Tryz.isAgg189 rfl rfl) rfl (kPm rfl rfl (kPv ((ev_lookup2 Tryz.runUnderlying189 Tryz.runUnderlying26 Tryz.zeroValue3 rfl rfl).eq (congrArg (fun v => Value.tuple #[v, .bool _]) (mval_i _))) rfl (kPm rfl rfl (kPv (ev_ext rfl rfl) rfl (kPv (ev_ext rfl rfl) rfl (kPa rfl rfl (kPa rfl rfl (p_nil (go_sb [6, 5, 4, 0, 1] rfl (g_seq ?_)))))))))))
  refine g_region (kPm rfl rfl (p_nil ?_))
  refine g_if rfl (fun h20 => ?_) (fun h20 => ?_)
  · have h1 : (mget S.went v).isSome = true := by simpa using h20
    have hres : S.copied s v = .ok ((mget S.went v).getD 0, S) s := by unfold ColS.copied; rw [if_pos h1]
    refine g_seq (g_region (kPm rfl rfl (kPa rfl rfl (p_nil (g_ret ?_)))))
    exact ret_tmp Tryz.results157 rfl (fun w hh => ⟨_, ⟨_, _, hres, rfl, rfl⟩, col_holds hrsv htsv hh⟩)
  · have h1 : ¬ (mget S.went v).isSome = true := by simpa using h20
    refine g_skip (g_seq (g_seq (g_draw Tryz.mixed (by kernel_rfl) (by kernel_rfl) ?_)))
    refine kQm rfl rfl ?_
    first | refine kQv (ev_nil rfl) rfl ?_ | refine kQv (ev_nilf rfl) rfl ?_
    refine kQv (ev_fa (m := _) fa_191_2 rfl rfl) rfl (kQv (ev_loadA Tryz.isAgg95 Tryz.sizeOf95 rfl rfl) rfl ?_)
    refine kQm rfl rfl ?_
    first | refine kQv (ev_nil rfl) rfl ?_ | refine kQv (ev_nilf rfl) rfl ?_
    refine kQv (ev_fa (m := _) fa_191_1 rfl rfl) rfl (kQv (ev_loadA Tryz.isAgg40 Tryz.sizeOf40 rfl rfl) rfl ?_)
    refine kQm rfl rfl (q_call rfl (en_f Tryz.call135 rfl) (has_ok _ _ S.c hS.c S.b rsv hS.b hrsv _ hv) .free rfl ?_)
    refine kQv (ev_not rfl) rfl (q_nil (go_sb [32, 4, 0, 1] rfl ?_))
    refine g_if rfl (fun h32 => ?_) (fun h32 => ?_)
    · have h2 : S.b.has S.c v = false := by simpa using h32
      have hres : S.copied s v = .ok (0, S) s := by unfold ColS.copied; rw [if_neg h1, if_pos h2]
      refine g_seq (g_region (kPa rfl rfl (p_nil (g_ret ?_))))
      exact ret_tmp Tryz.results157 rfl (fun w hh => ⟨_, ⟨_, _, hres, rfl, rfl⟩, col_holds hrsv htsv hh⟩)
    · have hh0 : S.b.has S.c v = true := by simpa using h32
      have h2 : ¬ S.b.has S.c v = false := by rw [hh0]; decide
      have hvb := bhas_b hS.c hS.b hh0
      refine g_skip (g_seq ?_)
      refine g_drawT (.br [0, 1, 2, 3, 4, 5, 6, 7, 8, 9, 10, 11, 12, 13] 14 (.fin [15, 16, 17, 18, 19, 20]) 18 (.fin [14, 15, 16, 17, 19, 20])) [14, 18, 19] [0, 1, 2, 3, 4, 5, 6, 7, 8, 9, 10, 11, 12, 13, 15, 16, 17] [18, 19] [row x (colRow S rsv tsv mw) 191] [4, 0, 1] (G := Nat) (fun b7 => [(7, ptr b7), (8, i64 (s.objOf S.c S.b v).2)]) (fun b7 => row b7 [i64 (s.objOf S.c S.b v).1.1, i64 (s.objOf S.c S.b v).1.2.1, i64 (s.objOf S.c S.b v).1.2.2] 105 :: row x (colRow S rsv tsv mw) 191 :: VecU 0 (rsv, S.b.rts) :: VecU 0 (tsv, S.todo) :: mapA .u64 i64 mw S.went :: DevA S.bd s :: Fr) Tryz.mixed (by kernel_rfl) ?_ ?_
      · skip
        refine t_br (v_hoist rfl rfl rfl (ev_move rfl) .free rfl ?_)
        first | refine v_hoist rfl rfl rfl (ev_nil rfl) .free rfl ?_ | refine v_hoist rfl rfl rfl (ev_nilf rfl) .free rfl ?_
        refine v_hoist rfl rfl rfl (ev_fa (m := _) fa_191_0 rfl rfl) .free rfl (v_hoist rfl rfl rfl (ev_load Tryz.isAgg28 rfl rfl) .free rfl (v_hoist rfl rfl rfl (ev_move rfl) .free rfl ?_))
        first | refine v_hoist rfl rfl rfl (ev_nil rfl) .free rfl ?_ | refine v_hoist rfl rfl rfl (ev_nilf rfl) .free rfl ?_
        refine v_hoist rfl rfl rfl (ev_fa (m := _) fa_191_1 rfl rfl) .free rfl (v_hoist rfl rfl rfl (ev_loadA Tryz.isAgg40 Tryz.sizeOf40 rfl rfl) .free rfl ?_)
        refine v_hoist rfl rfl rfl (ev_move rfl) .free rfl ?_
        first | refine v_hoist rfl rfl rfl (ev_nil rfl) .free rfl ?_ | refine v_hoist rfl rfl rfl (ev_nilf rfl) .free rfl ?_
        refine v_hoist rfl rfl rfl (ev_fa (m := _) fa_191_2 rfl rfl) .free rfl (v_hoist rfl rfl rfl (ev_loadA Tryz.isAgg95 Tryz.sizeOf95 rfl rfl) .free rfl ?_)
        refine v_hoist rfl rfl rfl (ev_move rfl) .free rfl ?_
        have hvb := bhas_b hS.c hS.b hh0
        refine v_hoist rfl rfl rfl (ev_conv Tryz.runUnderlying26 Tryz.runUnderlying3 rfl (wr64 (by omega))) .free rfl (v_nil ?_)
        refine t_two rfl rfl ?_ ?_
        · skip
          refine p_callq rfl (en_f Tryz.call122 rfl) (ro_at (q := DevA) (fun Fr => obj_ok _ Fr _ _ S.c hS.c S.b rsv hS.b hrsv v (by omega))) .free rfl rfl ?_
          refine p_nil (t_off rfl (t_fin (v_hoist rfl rfl rfl (ev_move rfl) .free rfl (v_hoist rfl rfl rfl (ev_ext rfl rfl) .free rfl (v_hoist rfl rfl rfl (ev_ext rfl rfl) .free rfl (v_mark rfl rfl (p_chg rfl (ch_allocA Tryz.zeroValue105 rfl) .free rfl rfl ?_)))))))
          rintro _ _ ⟨b7, rfl, rfl⟩
          refine p_nil (v_on (v_mark rfl rfl (p_chg0 rfl (ch_storeA (vs := _) Tryz.sizeOf105 rfl rfl rfl rfl rfl) .free rfl ?_)))
          rintro _ _ rfl
          refine p_nil (v_on (v_val rfl rfl rfl (ev_assign rfl) .free rfl (v_nil ?_)))
          exact fun a w st_ => ⟨b7, st_.to (sub_r rfl) (fun hh => hh)⟩
        · skip
          refine p_chg rfl (ch_allocA Tryz.zeroValue105 rfl) .free rfl rfl ?_
          rintro _ _ ⟨b7, rfl, rfl⟩
          refine p_nil (t_on (t_fin (v_mark rfl rfl (p_callq rfl (en_f Tryz.call122 rfl) (ro_at (q := DevA) (fun Fr => obj_ok _ Fr _ _ S.c hS.c S.b rsv hS.b hrsv v (by omega))) .free rfl rfl ?_))))
          refine p_nil (v_off rfl (v_hoist rfl rfl rfl (ev_move rfl) .free rfl (v_hoist rfl rfl rfl (ev_ext rfl rfl) .free rfl (v_hoist rfl rfl rfl (ev_ext rfl rfl) .free rfl (v_mark rfl rfl (p_chg0 rfl (ch_storeA (vs := _) Tryz.sizeOf105 rfl rfl rfl rfl rfl) .free rfl ?_))))))
          rintro _ _ rfl
          refine p_nil (v_on (v_val rfl rfl rfl (ev_assign rfl) .free rfl (v_nil ?_)))
          exact fun a w st_ => ⟨b7, st_.to (sub_r rfl) (fun hh => hh)⟩
      intro b7
      refine go_sub (σ' := [(7, ptr b7), (8, i64 (s.objOf S.c S.b v).2), (4, _), (0, _), (1, _)]) (sub_r rfl) (g_seq (g_seq (g_region (kPm rfl rfl (kPv (ev_cmp rfl rfl rfl) rfl (p_nil ?_))))))
      refine g_if rfl (fun h52 => ?_) (fun h52 => ?_)
      · have h3 : (s.objOf S.c S.b v).2 ≠ 0 := by simpa using h52
        have hres : S.copied s v = .ok (0, S) s := by unfold ColS.copied; rw [if_neg h1, if_neg h2, if_pos h3]
        refine g_seq (g_region (kPa rfl rfl (p_nil (g_ret ?_))))
        exact ret_tmp Tryz.results157 rfl (fun w hh => ⟨_, ⟨_, _, hres, rfl, rfl⟩, col_holds hrsv htsv (hh.dp [0])⟩)
      · have h3 : ¬ (s.objOf S.c S.b v).2 ≠ 0 := by simpa using h52
        have ho := objOf_w hS.c hS.b (a := v) (s := s) (by omega)
        have ho1 := ho.w
        have ho3 := ho.at_
        have hcp : S.copied s v = (cpyN ((s.objOf S.c S.b v).1.1 + 1).toNat 0 S.free (s.objOf S.c S.b v).1.2.2 s).then fun _ s' => .ok (S.free, { S with free := S.free + ((s.objOf S.c S.b v).1.1 + 1), went := mset S.went v S.free }) s' := by unfold ColS.copied; rw [if_neg h1, if_neg h2, if_neg h3]
        refine g_skip (g_seq (g_region (kPm rfl rfl ?_)))
        first | refine kPv (ev_nil rfl) rfl ?_ | refine kPv (ev_nilf rfl) rfl ?_
        refine kPv (ev_fa (m := _) fa_191_5 rfl rfl) rfl (kPv (ev_load Tryz.isAgg3 rfl rfl) rfl (kPa rfl rfl (p_nil (go_sb [9, 7, 4, 0, 1] rfl (g_seq (g_seq (g_region (kPv (ev_fa (m := _) fa_105_0 rfl rfl) rfl (kPv (ev_loadA Tryz.isAgg38 Tryz.sizeOf38 rfl rfl) rfl ?_)))))))))
        refine p_callq rfl (en_f Tryz.call114 rfl) (hsize_ok _ _ _ _ (by omega)) .free rfl rfl ?_
        refine kPm rfl rfl (p_nil (g_block ?_))
        refine g_loopk (ι := Nat × Dev) [59, 9, 7, 4, 0, 1] (fun (i, sI) => ((i : Int) ≤ (s.objOf S.c S.b v).1.1 + 1) ∧ (cpyN ((s.objOf S.c S.b v).1.1 + 1).toNat 0 S.free (s.objOf S.c S.b v).1.2.2 s = cpyN (((s.objOf S.c S.b v).1.1 + 1).toNat - i) i S.free (s.objOf S.c S.b v).1.2.2 sI)) (fun (i, sI) => [(60, i64 i)]) (fun (i, sI) => row b7 [i64 (s.objOf S.c S.b v).1.1, i64 (s.objOf S.c S.b v).1.2.1, i64 (s.objOf S.c S.b v).1.2.2] 105 :: row x (colRow S rsv tsv mw) 191 :: VecU 0 (rsv, S.b.rts) :: VecU 0 (tsv, S.todo) :: mapA .u64 i64 mw S.went :: DevA S.bd sI :: Fr) (fun (i, sI) => ((s.objOf S.c S.b v).1.1 + 1).toNat - i) (0, s) (⟨by first | omega | (simp only; omega), rfl⟩) (fun a w st => st.to ⟨rfl, trivial⟩ (fun hh => hh)) ?_
        rintro ⟨i, sI⟩ ⟨hi0, hinv⟩
        try simp only at hi0 hinv ⊢
        refine go_sub (σ' := [(60, i64 i), (59, _), (9, _), (7, _), (4, _), (0, _), (1, _)]) (sub_r rfl) (g_seq (g_region (kPv (ev_cmp rfl rfl rfl) rfl (p_nil (g_seq ?_)))))
        refine g_if rfl (fun h61 => ?_) (fun h61 => ?_)
        · have hi : (i : Int) < (s.objOf S.c S.b v).1.1 + 1 := by simpa using h61
          refine g_skip (g_seq (g_block (g_seq (g_region (kPm rfl rfl (kPa rfl rfl (p_nil (g_drawt 16 Tryz.mixed (by kernel_rfl) (by kernel_rfl) ?_))))))))
          refine kQm rfl rfl ?_
          first | refine kQv (ev_nil rfl) rfl ?_ | refine kQv (ev_nilf rfl) rfl ?_
          refine kQv (ev_fa (m := _) fa_191_0 rfl rfl) rfl (kQv (ev_load Tryz.isAgg28 rfl rfl) rfl (kQm rfl rfl (kQm rfl rfl ?_)))
          first | refine q_val rfl (ev_add rfl rfl (wr64 (by omega))) .free rfl ?_ | refine q_val rfl (ev_add rfl rfl rfl) .free rfl ?_
          refine kQm rfl rfl ?_
          first | refine kQv (ev_nil rfl) rfl ?_ | refine kQv (ev_nilf rfl) rfl ?_
          refine kQv (ev_fa (m := _) fa_191_0 rfl rfl) rfl (kQv (ev_load Tryz.isAgg28 rfl rfl) rfl (kQv (ev_fa (m := _) fa_105_1 rfl rfl) rfl (kQv (ev_load Tryz.isAgg3 rfl rfl) rfl (kQm rfl rfl ?_))))
          first | refine q_val rfl (ev_add rfl rfl (wr64 (by omega))) .free rfl ?_ | refine q_val rfl (ev_add rfl rfl rfl) .free rfl ?_
          refine q_call rfl (en_f Tryz.call71 rfl) (ro_at (q := DevA) (fun Fr => nload_ok _ Fr _ _ _)) .free rfl ?_
          refine q_nil ?_
          refine p_call rfl (en_f Tryz.call120 rfl) (up_at (fun Fr => nstore_ok _ Fr _ _ _ _)) .free rfl rfl ?_ ?_
          rotate_left
          · rintro _ _ ⟨s9, ⟨hm9, rfl⟩, rfl⟩
            exact pan_fn fun w hh => ⟨_, ⟨s9, by rw [hcp, hinv, show ((s.objOf S.c S.b v).1.1 + 1).toNat - i = (((s.objOf S.c S.b v).1.1 + 1).toNat - (i + 1)) + 1 by omega, cpyN_succ, hm9]; rfl, rfl, rfl⟩, (hh.dp [0, 0, 0, 0, 0])⟩
          rintro _ _ ⟨s1, ⟨e1, hm1, rfl⟩, rfl⟩
          refine p_nil (go_sb [60, 59, 9, 7, 4, 0, 1] rfl (g_region ?_))
          first | refine p_val rfl (ev_add rfl rfl (wr64 (by omega))) .free rfl rfl ?_ | refine p_val rfl (ev_add rfl rfl rfl) .free rfl rfl ?_
          refine kPm rfl rfl (p_nil ?_)
          exact fun a w st_ => ⟨(i + 1, s1), ⟨by first | omega | (simp only; omega), by rw [hinv, show ((s.objOf S.c S.b v).1.1 + 1).toNat - i = (((s.objOf S.c S.b v).1.1 + 1).toNat - (i + 1)) + 1 by omega, cpyN_succ, hm1]; rfl⟩, by first | omega | (simp only; omega), st_.to (sub_r rfl) (fun hh => hh)⟩
        · have hi : ¬ (i : Int) < (s.objOf S.c S.b v).1.1 + 1 := by simpa using h61
          refine g_exit (g_seq (g_drawt 10 Tryz.mixed (by kernel_rfl) (by kernel_rfl) ?_))
          refine kQm rfl rfl ?_
          first | refine kQv (ev_nil rfl) rfl ?_ | refine kQv (ev_nilf rfl) rfl ?_
          refine kQv (ev_fa (m := _) fa_191_5 rfl rfl) rfl (kQv (ev_load Tryz.isAgg3 rfl rfl) rfl (kQv (ev_fa (m := _) fa_105_0 rfl rfl) rfl (kQv (ev_loadA Tryz.isAgg38 Tryz.sizeOf38 rfl rfl) rfl ?_)))
          refine q_call rfl (en_f Tryz.call114 rfl) (hsize_ok _ _ _ _ (by omega)) .free rfl ?_
          first | refine q_val rfl (ev_add rfl rfl (wr64 (by omega))) .free rfl ?_ | refine q_val rfl (ev_add rfl rfl rfl) .free rfl ?_
          first | refine kQv (ev_nil rfl) rfl ?_ | refine kQv (ev_nilf rfl) rfl ?_
          refine kQv (ev_fa (m := _) fa_191_5 rfl rfl) rfl (q_nil (p_chg0 rfl (ch_store Tryz.sizeOf3 rfl rfl rfl rfl) .free rfl ?_))
          rintro _ _ rfl
          refine p_nil (go_sb [9, 4, 0, 1] rfl (g_seq (g_region (kPm rfl rfl ?_))))
          first | refine kPv (ev_nil rfl) rfl ?_ | refine kPv (ev_nilf rfl) rfl ?_
          refine kPv (ev_fa (m := _) fa_191_7 rfl rfl) rfl (kPv (ev_load Tryz.isAgg189 rfl rfl) rfl (kPm rfl rfl (kPm rfl rfl (p_chg0 rfl (ch_mapset (enc := i64) Tryz.runUnderlying189 Tryz.runUnderlying26 rfl rfl rfl rfl) .free rfl ?_))))
          rintro _ _ rfl
          refine p_nil (go_sb [9, 4] rfl (g_seq (g_region (kPm rfl rfl (kPa rfl rfl (p_nil (g_ret ?_)))))))
          exact ret_tmp Tryz.results157 rfl (fun w hh => ⟨_, ⟨_, _, by rw [hcp, hinv, show ((s.objOf S.c S.b v).1.1 + 1).toNat - i = 0 by omega]; rfl, rfl, rfl⟩, col_holds (S := { S with free := S.free + ((s.objOf S.c S.b v).1.1 + 1), went := mset S.went v S.free }) hrsv htsv (hh.dp [0])⟩)
end Go.Proofs.YtlcibdhmgclfjaaGreat
