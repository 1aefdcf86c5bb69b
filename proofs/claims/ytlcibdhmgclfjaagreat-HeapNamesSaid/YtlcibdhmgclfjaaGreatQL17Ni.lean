/- Part of the texts beneath a law: what its proof names. Conditions: none. -/
import Derived.Test.YtlcibdhmgclfjaaGreatQL17Nh
set_option linter.unusedSimpArgs false
set_option linter.unusedVariables false
set_option linter.unnecessarySimpa false
set_option linter.unusedSectionVars false
namespace Go.Proofs.YtlcibdhmgclfjaaGreat
open Go
abbrev objV (o : Obj3) : Value := .agg #[i64 o.1, i64 o.2.1, i64 o.2.2]
theorem nneg {x : Int} (h : decide (x < 0) = false) : 0 ≤ x := by simpa using h
theorem chkH_b {w r : Int} (h : chkH w r = 0) : 0 ≤ w ∧ w ≤ 64 ∧ 0 ≤ r ∧ r ≤ w := by
  unfold chkH at h
  split at h
  · assumption
  · cases h
theorem unp_b (v : Int) : 0 ≤ (unp v).1 ∧ (unp v).1 ≤ 64 ∧ 0 ≤ (unp v).2.1 ∧ (unp v).2.1 ≤ (unp v).1 := by
  unfold unp
  split
  · rename_i h; exact chkH_b h.1
  · exact ⟨by decide, by decide, by decide, by decide⟩
theorem obj_ok (B : World) (Fr : List HP) (bd : Nat) (s : Dev) (c : Cfg) (hc : CfgW c) (b : Blk) (sv : Value) (hb : BlkW c b) (hsv : cell1 sv = true) (at_ : Int) (hat : -9223372036854775808 ≤ at_ ∧ at_ ≤ 9223372036854775807) :
    ∀ w, Holds B (DevA bd s :: Fr) w → Calls Tryz.prog 122 [ptr bd, cfgV c, blkV b sv, i64 at_].toArray w (PureR B (DevA bd s :: Fr) (.tuple #[objV (s.objOf c b at_).1, i64 (s.objOf c b at_).2])) := by
  refine fn_enter Tryz.func122 rfl Tryz.ntmps122 rfl ?_
  have hb1 := hb.act
  have hb2 := hb.used
  have hcs := hc.s2
  have hub := unp_b (s.load at_)
  have hfb := frm_b hc (k := b.act) (by omega)
  refine g_seq (g_region (p_chg rfl (ch_boxA rfl) .free rfl rfl ?_))
  rintro _ _ ⟨b5, rfl, rfl⟩
  refine p_chg rfl (ch_boxA rfl) .free rfl rfl ?_
  rintro _ _ ⟨b6, rfl, rfl⟩
  refine p_chg rfl (ch_allocA Tryz.zeroValue105 rfl) .free rfl rfl ?_
  rintro _ _ ⟨b8, rfl, rfl⟩
  refine kPa rfl rfl (p_nil (g_seq (g_seq (g_region (kPm rfl rfl (kPv (ev_cmp rfl rfl rfl) rfl (kPm rfl rfl ?_)))))))
  apply p_or (tp := 21) (t := 14) (σ1 := [(14, _), (9, _), (8, _), (6, _), (5, _), (0, _), (3, _)]) 7 rfl (sub_r rfl)
  · intro hg1
    refine p_val rfl (ev_loadA Tryz.isAgg95 Tryz.sizeOf95 rfl rfl) (.on rfl rfl (beq_eq hg1)) rfl rfl ?_
    refine p_val rfl (ev_loadA Tryz.isAgg40 Tryz.sizeOf40 rfl rfl) (.on rfl rfl (beq_eq hg1)) rfl rfl ?_
    refine p_val rfl (ev_move rfl) (.on rfl rfl (beq_eq hg1)) rfl rfl (p_val rfl (ev_conv Tryz.runUnderlying3 Tryz.runUnderlying26 rfl (wru64 ⟨nneg hg1, by omega⟩)) (.on rfl rfl (beq_eq hg1)) rfl rfl (p_callq rfl (en_f Tryz.call135 rfl) (has_ok _ _ c hc b sv hb hsv _ ⟨nneg hg1, by omega⟩) (.on rfl rfl (beq_eq hg1)) rfl rfl ?_))
    refine p_val rfl (ev_not rfl) (.on rfl rfl (beq_eq hg1)) rfl rfl (kPv (ev_pick_f rfl hg1 rfl) rfl ?_)
    exact p_seg rfl (sub_r rfl) (or_f hg1)
  · intro hg1
    refine p_skip rfl (.on rfl rfl (beq_ne hg1)) rfl (p_skip rfl (.on rfl rfl (beq_ne hg1)) rfl (p_skip rfl (.on rfl rfl (beq_ne hg1)) rfl (p_skip rfl (.on rfl rfl (beq_ne hg1)) rfl (p_skip rfl (.on rfl rfl (beq_ne hg1)) rfl (p_skip rfl (.on rfl rfl (beq_ne hg1)) rfl (kPv (ev_pick_t rfl hg1 rfl) rfl ?_))))))
    exact p_seg rfl (sub_r rfl) (or_t hg1)
  refine p_nil ?_
  refine g_if rfl (fun h21 => ?_) (fun h21 => ?_)
  · have hbad : at_ < 0 ∨ b.has c at_ = false := by simpa using h21
    have hres : s.objOf c b at_ = ((0, 0, 0), 6) := by unfold Dev.objOf; rw [if_pos hbad]
    refine g_seq (g_region (kPv (ev_build rfl (bld_105)) rfl (p_chg0 rfl (ch_storeA (vs := _) Tryz.sizeOf105 rfl rfl rfl rfl rfl) .free rfl ?_)))
    rintro _ _ rfl
    refine kPa rfl rfl (p_nil (g_ret ?_))
    exact ret_2 Tryz.results122 (.cellA rfl Tryz.isAgg105 Tryz.sizeOf105 rfl rfl) (.tmp rfl) (fun w hh => ⟨by rw [hres]; rfl, hh.tail.tail.tail⟩)
  · have hgd : ¬(at_ < 0 ∨ b.has c at_ = false) := by simpa using h21
    have hat2 := bhas_b hc hb (w := at_) (by cases hh : b.has c at_ with
      | true => rfl
      | false => exact absurd (.inr hh) hgd)
    have hplace : b.place c b.used = c.frm b.act + b.used := rfl
    refine g_skip (g_seq (g_region (kPm rfl rfl (kPm rfl rfl (p_callq rfl (en_f Tryz.call71 rfl) (ro_at (q := DevA) (fun Fr => nload_ok _ Fr _ _ _)) .free rfl rfl ?_)))))
    refine p_callq rfl (en_f Tryz.call158 rfl) (unpack_ok _ _ _) .free rfl rfl ?_
    refine kPm rfl rfl (kPv (ev_ext rfl rfl) rfl (kPv (ev_ext rfl rfl) rfl (p_chg rfl (ch_allocA Tryz.zeroValue38 rfl) .free rfl rfl ?_)))
    rintro _ _ ⟨b10, rfl, rfl⟩
    refine p_chg0 rfl (ch_storeA (vs := _) Tryz.sizeOf38 rfl rfl rfl rfl rfl) .free rfl ?_
    rintro _ _ rfl
    refine kPa rfl rfl (p_nil (go_sb [11, 10, 9, 8, 6, 5, 3] rfl (g_seq (g_seq (g_draw Tryz.mixed (by kernel_rfl) (by kernel_rfl) ?_)))))
    refine kQm rfl rfl (kQv (ev_not rfl) rfl (kQm rfl rfl ?_))
    apply q_or (tp := 43) (t := 32) (σ1 := [(32, _), (10, _), (9, _), (8, _), (3, _)]) 11 rfl (sub_r rfl)
    · intro hg2
      refine q_val rfl (ev_loadA Tryz.isAgg38 Tryz.sizeOf38 rfl rfl) (.on rfl rfl (beq_eq hg2)) rfl ?_
      refine q_call rfl (en_f Tryz.call114 rfl) (hsize_ok _ _ _ _ (by omega)) (.on rfl rfl (beq_eq hg2)) rfl ?_
      refine q_val rfl (ev_loadA Tryz.isAgg95 Tryz.sizeOf95 rfl rfl) (.on rfl rfl (beq_eq hg2)) rfl ?_
      refine q_val rfl (ev_loadA Tryz.isAgg40 Tryz.sizeOf40 rfl rfl) (.on rfl rfl (beq_eq hg2)) rfl ?_
      refine q_val rfl (ev_fa (m := _) fa_95_1 rfl rfl) (.on rfl rfl (beq_eq hg2)) rfl (q_val rfl (ev_load Tryz.isAgg3 rfl rfl) (.on rfl rfl (beq_eq hg2)) rfl (q_call rfl (en_f Tryz.call112 rfl) (place_ok _ _ c hc b sv hb hsv _ (by omega)) (.on rfl rfl (beq_eq hg2)) rfl ?_))
      refine q_val rfl (ev_move rfl) (.on rfl rfl (beq_eq hg2)) rfl ?_
      first | refine q_val rfl (ev_sub rfl rfl (wr64 (by omega))) (.on rfl rfl (beq_eq hg2)) rfl ?_ | refine q_val rfl (ev_sub rfl rfl rfl) (.on rfl rfl (beq_eq hg2)) rfl ?_
      refine q_val rfl (ev_cmp rfl rfl rfl) (.on rfl rfl (beq_eq hg2)) rfl (kQv (ev_pick_f rfl hg2 rfl) rfl ?_)
      exact q_seg rfl (sub_r rfl) (or_f hg2)
    · intro hg2
      refine q_skip rfl (.on rfl rfl (beq_ne hg2)) rfl (q_skip rfl (.on rfl rfl (beq_ne hg2)) rfl (q_skip rfl (.on rfl rfl (beq_ne hg2)) rfl (q_skip rfl (.on rfl rfl (beq_ne hg2)) rfl (q_skip rfl (.on rfl rfl (beq_ne hg2)) rfl (q_skip rfl (.on rfl rfl (beq_ne hg2)) rfl (q_skip rfl (.on rfl rfl (beq_ne hg2)) rfl (q_skip rfl (.on rfl rfl (beq_ne hg2)) rfl (q_skip rfl (.on rfl rfl (beq_ne hg2)) rfl (q_skip rfl (.on rfl rfl (beq_ne hg2)) rfl (kQv (ev_pick_t rfl hg2 rfl) rfl ?_))))))))))
      exact q_seg rfl (sub_r rfl) (or_t hg2)
    refine q_nil ?_
    refine g_if rfl (fun h43 => ?_) (fun h43 => ?_)
    · have hbad : (unp (s.load at_)).2.2 = false ∨ b.place c b.used - at_ < (unp (s.load at_)).1 + 1 := by simpa using h43
      have hres : s.objOf c b at_ = ((0, 0, 0), 8) := by unfold Dev.objOf; rw [if_neg hgd, if_pos hbad]
      refine g_seq (g_region (kPv (ev_build rfl (bld_105)) rfl (p_chg0 rfl (ch_storeA (vs := _) Tryz.sizeOf105 rfl rfl rfl rfl rfl) .free rfl ?_)))
      rintro _ _ rfl
      refine kPa rfl rfl (p_nil (g_ret ?_))
      exact ret_2 Tryz.results122 (.cellA rfl Tryz.isAgg105 Tryz.sizeOf105 rfl rfl) (.tmp rfl) (fun w hh => ⟨by rw [hres]; rfl, hh.tail.tail.tail.tail⟩)
    · have hgd2 : ¬((unp (s.load at_)).2.2 = false ∨ b.place c b.used - at_ < (unp (s.load at_)).1 + 1) := by simpa using h43
      have hres : s.objOf c b at_ = (((unp (s.load at_)).1, (unp (s.load at_)).2.1, at_), 0) := by unfold Dev.objOf; rw [if_neg hgd, if_neg hgd2]
      refine g_skip (g_seq (g_region (kPv (ev_loadA Tryz.isAgg38 Tryz.sizeOf38 rfl rfl) rfl ?_)))
      refine kPm rfl rfl (kPv (ev_build rfl (bld_105_0_1 _ _ _ rfl)) rfl (p_chg0 rfl (ch_storeA (vs := _) Tryz.sizeOf105 rfl rfl rfl rfl rfl) .free rfl ?_))
      rintro _ _ rfl
      refine kPa rfl rfl (p_nil (go_sb [9, 8] rfl (g_ret ?_)))
      exact ret_2 Tryz.results122 (.cellA rfl Tryz.isAgg105 Tryz.sizeOf105 rfl rfl) (.tmp rfl) (fun w hh => ⟨by rw [hres]; rfl, hh.tail.tail.tail.tail⟩)
structure ObjW (o : Obj3) : Prop where
  w : 0 ≤ o.1 ∧ o.1 ≤ 64
  r : 0 ≤ o.2.1 ∧ o.2.1 ≤ o.1
  at_ : 0 ≤ o.2.2 ∧ o.2.2 ≤ 1000000
theorem field_ok (B : World) (H : List HP) (o : Obj3) (ho : ObjW o) (i : Int) (ref : Bool) :
    ∀ w, Holds B H w → Calls Tryz.prog 123 [objV o, i64 i, .bool ref].toArray w (PureR B H (.tuple #[i64 (objField o i ref).1, i64 (objField o i ref).2])) := by
  refine fn_enter Tryz.func123 rfl Tryz.ntmps123 rfl ?_
  have h1 := ho.w
  have h2 := ho.r
  have h3 := ho.at_
  refine g_seq (g_region (p_chg rfl (ch_boxA rfl) .free rfl rfl ?_))
  rintro _ _ ⟨b3, rfl, rfl⟩
  refine kPa rfl rfl (kPa rfl rfl (p_nil (g_seq (g_block (g_seq (g_region (kPm rfl rfl (kPv (ev_cmp rfl rfl rfl) rfl (kPm rfl rfl ?_)))))))))
  apply p_or (tp := 17) (t := 11) (σ1 := [(11, _), (7, _), (6, _), (3, _), (1, _), (2, _)]) 6 rfl (sub_r rfl)
  · intro hg1
    refine p_val rfl (ev_move rfl) (.on rfl rfl (beq_eq hg1)) rfl rfl (p_val rfl (ev_fa (m := _) fa_105_0 rfl rfl) (.on rfl rfl (beq_eq hg1)) rfl rfl (p_val rfl (ev_fa (m := _) fa_38_0 rfl rfl) (.on rfl rfl (beq_eq hg1)) rfl rfl (p_val rfl (ev_load Tryz.isAgg3 rfl rfl) (.on rfl rfl (beq_eq hg1)) rfl rfl (p_val rfl (ev_cmp rfl rfl rfl) (.on rfl rfl (beq_eq hg1)) rfl rfl (kPv (ev_pick_f rfl hg1 rfl) rfl ?_)))))
    exact p_seg rfl (sub_r rfl) (or_f hg1)
  · intro hg1
    refine p_skip rfl (.on rfl rfl (beq_ne hg1)) rfl (p_skip rfl (.on rfl rfl (beq_ne hg1)) rfl (p_skip rfl (.on rfl rfl (beq_ne hg1)) rfl (p_skip rfl (.on rfl rfl (beq_ne hg1)) rfl (p_skip rfl (.on rfl rfl (beq_ne hg1)) rfl (kPv (ev_pick_t rfl hg1 rfl) rfl ?_)))))
    exact p_seg rfl (sub_r rfl) (or_t hg1)
  refine kPa rfl rfl (p_nil ?_)
  refine g_if rfl (fun h8 => ?_) (fun h8 => ?_)
  · have hbad : i < 0 ∨ o.1 ≤ i := by simpa using h8
    have hres : objField o i ref = (0, 1) := by unfold objField; rw [if_pos hbad]
    refine g_seq (g_region (kPa rfl rfl (kPa rfl rfl (p_nil (g_ret ?_)))))
    exact ret_tmp2 Tryz.results123 rfl rfl (fun w hh => ⟨by rw [hres], hh.tail⟩)
  · have hgd : ¬(i < 0 ∨ o.1 ≤ i) := by simpa using h8
    refine g_seq (g_region (kPm rfl rfl (kPv (ev_fa (m := _) fa_105_0 rfl rfl) rfl (kPv (ev_fa (m := _) fa_38_1 rfl rfl) rfl (kPv (ev_load Tryz.isAgg3 rfl rfl) rfl (kPv (ev_cmp rfl rfl rfl) rfl (kPm rfl rfl (kPv (ev_eqb Tryz.runUnderlying4 rfl rfl rfl) rfl (kPa rfl rfl (p_nil (go_sb [18, 7, 6, 3, 1] rfl ?_)))))))))))
    refine g_if rfl (fun h18 => ?_) (fun h18 => ?_)
    · have hk : decide (i < o.2.1) ≠ ref := by simpa using h18
      have hres : objField o i ref = (0, 5) := by unfold objField; rw [if_neg hgd, if_pos hk]
      refine g_seq (g_region (kPa rfl rfl (kPa rfl rfl (p_nil (g_ret ?_)))))
      exact ret_tmp2 Tryz.results123 rfl rfl (fun w hh => ⟨by rw [hres], hh.tail⟩)
    · have hk : ¬ decide (i < o.2.1) ≠ ref := by simpa using h18
      have hres : objField o i ref = (o.2.2 + 1 + i, 0) := by unfold objField; rw [if_neg hgd, if_neg hk]
      refine g_skip (g_seq (g_region (kPv (ev_fa (m := _) fa_105_1 rfl rfl) rfl (kPv (ev_load Tryz.isAgg3 rfl rfl) rfl ?_))))
      first | refine p_val rfl (ev_add rfl rfl (wr64 (by omega))) .free rfl rfl ?_ | refine p_val rfl (ev_add rfl rfl rfl) .free rfl rfl ?_
      refine kPm rfl rfl ?_
      first | refine p_val rfl (ev_add rfl rfl (wr64 (by omega))) .free rfl rfl ?_ | refine p_val rfl (ev_add rfl rfl rfl) .free rfl rfl ?_
      refine kPa rfl rfl (kPa rfl rfl (p_nil (go_sb [7, 6] rfl (g_ret ?_))))
      exact ret_tmp2 Tryz.results123 rfl rfl (fun w hh => ⟨by rw [hres], hh.tail⟩)
theorem oread_ok (B : World) (Fr : List HP) (bd : Nat) (s : Dev) (o : Obj3) (ho : ObjW o) (i : Int) :
    ∀ w, Holds B (DevA bd s :: Fr) w → Calls Tryz.prog 72 [objV o, ptr bd, i64 i].toArray w (PureR B (DevA bd s :: Fr) (.tuple #[w64 (s.objRead o i).1, i64 (s.objRead o i).2])) := by
  refine fn_enter Tryz.func72 rfl Tryz.ntmps72 rfl (g_seq (g_region (p_chg rfl (ch_boxA rfl) .free rfl rfl ?_)))
  rintro _ _ ⟨b3, rfl, rfl⟩
  refine kPa rfl rfl (kPa rfl rfl (p_nil (g_seq (g_region (kPv (ev_loadA Tryz.isAgg105 Tryz.sizeOf105 rfl rfl) rfl ?_)))))
  refine kPm rfl rfl (p_callq rfl (en_f Tryz.call123 rfl) (field_ok _ _ o ho i _) .free rfl rfl ?_)
  refine kPm rfl rfl (kPv (ev_ext rfl rfl) rfl (kPv (ev_ext rfl rfl) rfl (kPa rfl rfl (kPa rfl rfl (p_nil (go_sb [9, 8, 7, 6, 1] rfl (g_seq (g_seq (g_region (kPm rfl rfl (kPv (ev_cmp rfl rfl rfl) rfl ?_)))))))))))
  refine p_nil ?_
  refine g_if rfl (fun h17 => ?_) (fun h17 => ?_)
  · have hk : (objField o i false).2 ≠ 0 := by simpa using h17
    have hres : s.objRead o i = (0, (objField o i false).2) := by unfold Dev.objRead; rw [if_pos hk]
    refine g_seq (g_region (kPm rfl rfl (kPa rfl rfl (kPa rfl rfl (p_nil (g_ret ?_))))))
    exact ret_tmp2 Tryz.results72 rfl rfl (fun w hh => ⟨by rw [hres] <;> rfl, hh.tail⟩)
  · have hk : ¬ (objField o i false).2 ≠ 0 := by simpa using h17
    have hres : s.objRead o i = (s.load (objField o i false).1, 0) := by unfold Dev.objRead; rw [if_neg hk]
    refine g_skip (g_seq (g_region (kPm rfl rfl (kPm rfl rfl (p_callq rfl (en_f Tryz.call71 rfl) (ro_at (q := DevA) (fun Fr => nload_ok _ Fr _ _ _)) .free rfl rfl ?_)))))
    refine kPa rfl rfl (kPa rfl rfl (p_nil (go_sb [7, 6] rfl (g_ret ?_))))
    exact ret_tmp2 Tryz.results72 rfl rfl (fun w hh => ⟨by rw [hres] <;> rfl, hh.tail⟩)
end Go.Proofs.YtlcibdhmgclfjaaGreat
namespace Go.Proofs.YtlcibdhmgclfjaaGreat
open Go
structure StoreF (B : World) (f : FuncId) (fi : List Value) (bd be : Nat) (ε : Type) (ExA : Nat → ε → HP) (op : Int → Int → Dev → ε → Out (Int × ε)) (ok : Dev → ε → Prop) : Prop where
  enter : ∀ args w, (callFunc f args).run Tryz.prog w = .ok (.enter f args) w
  u64 : ∀ s e, ok s e → U64 s
  says : ∀ (Fr : List HP) (i v : Int) (s : Dev) (e : ε), ok s e → ∀ w, Holds B (DevA bd s :: ExA be e :: Fr) w → Calls Tryz.prog f (fi ++ [i64 i, w64 v] ++ []).toArray w (Ret B (fun rv H' => ∃ a e' s', op i v s e = .ok (a, e') s' ∧ rv = i64 a ∧ H' = DevA bd s' :: ExA be e' :: Fr) (fun c H' => ∃ s', op i v s e = .off s' ∧ c = offc ∧ H' = DevA bd s' :: Fr))
  keeps : ∀ i v s e a e' s', ok s e → 0 ≤ v ∧ v < 18446744073709551616 → op i v s e = .ok (a, e') s' → ok s' e'
section
variable {ε : Type}
def fillM (op : Int → Int → Dev → ε → Out (Int × ε)) (at_ h0 : Int) : Nat → Int → Dev → ε → Out ((Int × Int) × ε)
  | 0, _, s, e => .ok ((at_, 0), e) s
  | f + 1, i, s, e => (op (at_ + i) (if i = 0 then h0 else 0) s e).then fun x s => if x.1 ≠ 0 then .ok ((0, x.1), x.2) s else fillM op at_ h0 f (i + 1) s x.2
def allocM (op : Int → Int → Dev → ε → Out (Int × ε)) (c : Cfg) (w r : Int) (s : Dev) (e : ε) : Out ((Int × Int) × ε) :=
  if chkH w r ≠ 0 then .ok ((0, chkH w r), e) s
  else if (s.block c).2 ≠ 0 then .ok ((0, (s.block c).2), e) s
  else if c.space - (s.block c).1.used < w + 1 then .ok ((0, 4), e) s
  else (op (c.active + 1) ((s.block c).1.used + (w + 1)) s e).then fun x s' => if x.1 ≠ 0 then .ok ((0, x.1), x.2) s' else fillM op ((s.block c).1.place c (s.block c).1.used) (packI w r) (w + 1).toNat 0 s' x.2
def setM (op : Int → Int → Dev → ε → Out (Int × ε)) (o : Obj3) (i : Int) (ref : Bool) (v : Int) (s : Dev) (e : ε) : Out (Int × ε) :=
  if (objField o i ref).2 ≠ 0 then .ok ((objField o i ref).2, e) s else op (objField o i ref).1 v s e
def writeN (op : Int → Int → Dev → ε → Out (Int × ε)) : List Int → Int → Dev → ε → Out (Int × ε)
  | [], _, s, e => .ok (0, e) s
  | v :: vs, i, s, e => if s.load i = v then writeN op vs (i + 1) s e else (op i v s e).then fun x s => if x.1 ≠ 0 then .ok x s else writeN op vs (i + 1) s x.2
def writeM (op : Int → Int → Dev → ε → Out (Int × ε)) (c : Cfg) (b : Blk) (s : Dev) (e : ε) : Out (Int × ε) := writeN op (b.act :: b.used :: b.rts) c.active s e
end
theorem packI_b (w r : Int) : 0 ≤ packI w r ∧ packI w r < 18446744073709551616 := by
  unfold packI bitI
  simp only [IntKind.wrap, IntKind.bits, IntKind.signed]
  simp; omega
theorem alloc_ok (B : World) (Fr : List HP) (f : FuncId) (fi : List Value) (bd be : Nat) (ε : Type) (ExA : Nat → ε → HP) (op : Int → Int → Dev → ε → Out (Int × ε)) (ok : Dev → ε → Prop) (hS : StoreF B f fi bd be ε ExA op ok) (c : Cfg) (hc : CfgW c) (w r : Int) (s : Dev) (e : ε) (hok : ok s e) :
    ∀ w_, Holds B (DevA bd s :: ExA be e :: Fr) w_ → Calls Tryz.prog 55 [ptr bd, cfgV c, .agg #[i64 w, i64 r], .func (.func f) fi.toArray #[]].toArray w_ (Ret B (fun rv H' => ∃ x e' s', allocM op c w r s e = .ok (x, e') s' ∧ rv = .tuple #[i64 x.1, i64 x.2] ∧ ok s' e' ∧ H' = DevA bd s' :: ExA be e' :: Fr) (fun ch H' => ∃ s', allocM op c w r s e = .off s' ∧ ch = offc ∧ H' = DevA bd s' :: Fr)) := by
  refine fn_enter Tryz.func55 rfl Tryz.ntmps55 rfl ?_
  have hb := block_w (s := s) hc (hS.u64 _ _ hok)
  have hb1 := hb.act
  have hb2 := hb.used
  have hcs := hc.s2
  have hfb := frm_b hc (k := (s.block c).1.act) (by omega)
  have hplace : (s.block c).1.place c (s.block c).1.used = c.frm (s.block c).1.act + (s.block c).1.used := rfl
  refine g_seq (g_region (p_chg rfl (ch_boxA rfl) .free rfl rfl ?_))
  rintro _ _ ⟨b5, rfl, rfl⟩
  refine p_chg rfl (ch_boxA rfl) .free rfl rfl ?_
  rintro _ _ ⟨b6, rfl, rfl⟩
  refine kPa rfl rfl (kPa rfl rfl (p_nil (g_seq (g_seq (g_region (kPv (ev_loadA Tryz.isAgg38 Tryz.sizeOf38 rfl rfl) rfl ?_))))))
  refine p_callq rfl (en_f Tryz.call113 rfl) (hcheck_ok _ _ _ _) .free rfl rfl ?_
  refine kPa rfl rfl (p_nil (g_seq (g_region (kPm rfl rfl (kPv (ev_cmp rfl rfl rfl) rfl (p_nil ?_))))))
  refine g_if rfl (fun h21 => ?_) (fun h21 => ?_)
  · have hk1 : chkH w r ≠ 0 := by simpa using h21
    refine g_seq (g_region (kPm rfl rfl (kPa rfl rfl (kPa rfl rfl (p_nil (go_sb [9, 8, 6, 5, 0, 3] rfl (g_ret ?_)))))))
    exact ret_tmp2 Tryz.results55 rfl rfl (fun w_ hh => ⟨_, ⟨_, e, s, by unfold allocM; rw [if_pos hk1], rfl, hok, rfl⟩, hh.tail.tail⟩)
  · have hk1 : ¬ chkH w r ≠ 0 := by simpa using h21
    have hwb := chkH_b (w := w) (r := r) (by omega)
    refine g_skip (g_seq (g_region (kPm rfl rfl (kPv (ev_loadA Tryz.isAgg40 Tryz.sizeOf40 rfl rfl) rfl ?_))))
    refine go_pull DevA bd ?_
    refine p_call rfl (en_f Tryz.call111 rfl) (rread_ok _ _ _ _ c hc (hS.u64 _ _ hok)) .free rfl rfl ?_ ?_
    rotate_left
    · rintro _ _ ⟨⟩
    rintro _ _ ⟨sv, hsv, rfl, rfl⟩
    refine kPm rfl rfl (kPv (ev_ext rfl rfl) rfl (kPv (ev_ext rfl rfl) rfl (p_chg rfl (ch_allocA Tryz.zeroValue95 rfl) .free rfl rfl ?_)))
    rintro _ _ ⟨b11, rfl, rfl⟩
    refine p_chg0 rfl (ch_storeA (vs := [i64 (s.block c).1.act, i64 (s.block c).1.used, sv]) Tryz.sizeOf95 rfl rfl rfl (all3 hsv) rfl) .free rfl ?_
    rintro _ _ rfl
    refine kPa rfl rfl (p_nil (go_sb [12, 11, 9, 8, 6, 5, 3] rfl (g_seq (g_seq (g_region (kPm rfl rfl (kPv (ev_cmp rfl rfl rfl) rfl (p_nil ?_))))))))
    refine g_if rfl (fun h30 => ?_) (fun h30 => ?_)
    · have hk2 : (s.block c).2 ≠ 0 := by simpa using h30
      refine g_seq (g_region (kPm rfl rfl (kPa rfl rfl (kPa rfl rfl (p_nil (g_ret ?_))))))
      exact ret_tmp2 Tryz.results55 rfl rfl (fun w_ hh => ⟨_, ⟨_, e, s, by unfold allocM; rw [if_neg hk1, if_pos hk2], rfl, hok, rfl⟩, ((((((hh.front 0 rfl).tail.front 0 rfl).tail.front 1 rfl).tail.front 1 rfl).tail.front 1 rfl).front 1 rfl)⟩)
    · have hk2 : ¬ (s.block c).2 ≠ 0 := by simpa using h30
      refine g_skip (g_seq (g_seq (g_draw Tryz.mixed (by kernel_rfl) (by kernel_rfl) ?_)))
      refine kQv (ev_loadA Tryz.isAgg38 Tryz.sizeOf38 rfl rfl) rfl ?_
      refine q_call rfl (en_f Tryz.call114 rfl) (hsize_ok _ _ _ _ (by omega)) .free rfl ?_
      refine kQv (ev_fa (m := _) fa_40_2 rfl rfl) rfl (kQv (ev_load Tryz.isAgg3 rfl rfl) rfl (kQv (ev_fa (m := _) fa_95_1 rfl rfl) rfl (kQv (ev_load Tryz.isAgg3 rfl rfl) rfl ?_)))
      first | refine q_val rfl (ev_sub rfl rfl (wr64 (by omega))) .free rfl ?_ | refine q_val rfl (ev_sub rfl rfl rfl) .free rfl ?_
      refine kQv (ev_cmp rfl rfl rfl) rfl (q_nil (go_sb [39, 11, 9, 8, 6, 5, 3] rfl ?_))
      refine g_if rfl (fun h39 => ?_) (fun h39 => ?_)
      · have hk3 : c.space - (s.block c).1.used < w + 1 := by simpa using h39
        refine g_seq (g_region (kPa rfl rfl (kPa rfl rfl (p_nil (g_ret ?_)))))
        exact ret_tmp2 Tryz.results55 rfl rfl (fun w_ hh => ⟨_, ⟨_, e, s, by unfold allocM; rw [if_neg hk1, if_neg hk2, if_pos hk3], rfl, hok, rfl⟩, ((((((hh.front 0 rfl).tail.front 0 rfl).tail.front 1 rfl).tail.front 1 rfl).tail.front 1 rfl).front 1 rfl)⟩)
      · have hk3 : ¬ c.space - (s.block c).1.used < w + 1 := by simpa using h39
        refine g_skip (g_seq (g_region (kPv (ev_loadA Tryz.isAgg95 Tryz.sizeOf95 rfl rfl) rfl ?_)))
        refine kPv (ev_loadA Tryz.isAgg40 Tryz.sizeOf40 rfl rfl) rfl ?_
        refine kPv (ev_fa (m := _) fa_95_1 rfl rfl) rfl (kPv (ev_load Tryz.isAgg3 rfl rfl) rfl (p_callq rfl (en_f Tryz.call112 rfl) (place_ok _ _ c hc _ sv hb hsv _ (by omega)) .free rfl rfl ?_))
        refine kPa rfl rfl (p_nil (g_seq (g_seq (g_drawt 9 Tryz.mixed (by kernel_rfl) (by kernel_rfl) ?_))))
        refine kQm rfl rfl (kQv (ev_loadA Tryz.isAgg40 Tryz.sizeOf40 rfl rfl) rfl ?_)
        refine q_call rfl (en_f Tryz.call115 rfl) (cused_ok _ _ c hc) .free rfl ?_
        refine kQv (ev_fa (m := _) fa_95_1 rfl rfl) rfl (kQv (ev_load Tryz.isAgg3 rfl rfl) rfl (kQv (ev_loadA Tryz.isAgg38 Tryz.sizeOf38 rfl rfl) rfl ?_))
        refine q_call rfl (en_f Tryz.call114 rfl) (hsize_ok _ _ _ _ (by omega)) .free rfl ?_
        first | refine q_val rfl (ev_add rfl rfl (wr64 (by omega))) .free rfl ?_ | refine q_val rfl (ev_add rfl rfl rfl) .free rfl ?_
        refine kQv (ev_conv Tryz.runUnderlying3 Tryz.runUnderlying26 rfl (wru64 (by omega))) rfl (q_nil (go_pull ExA be (go_pull DevA bd ?_)))
        refine p_call rfl (en_c hS.enter rfl rfl) (hS.says _ _ _ _ _ hok) .free rfl rfl ?_ ?_
        rotate_left
        · rintro _ _ ⟨s9, hm9, rfl, rfl⟩
          exact pan_fn fun w hh => ⟨_, ⟨s9, by unfold allocM; rw [if_neg hk1, if_neg hk2, if_neg hk3]; rw [hm9]; rfl, rfl, rfl⟩, ((((hh.front 4 rfl).front 4 rfl).front 4 rfl).front 4 rfl).tail.tail.tail.tail⟩
        rintro _ _ ⟨a1, e1, s1, hm1, rfl, rfl⟩
        have hok1 := hS.keeps _ _ _ _ _ _ _ hok ⟨by omega, by omega⟩ hm1
        refine kPa rfl rfl (p_nil (go_sb [14, 13, 9, 8, 6, 3] rfl (g_seq (g_region (kPm rfl rfl (kPv (ev_cmp rfl rfl rfl) rfl (p_nil ?_)))))))
        refine g_if rfl (fun h56 => ?_) (fun h56 => ?_)
        · have hk4 : a1 ≠ 0 := by simpa using h56
          refine g_seq (g_region (kPm rfl rfl (kPa rfl rfl (kPa rfl rfl (p_nil (g_ret ?_))))))
          exact ret_tmp2 Tryz.results55 rfl rfl (fun w_ hh => ⟨_, ⟨_, e1, s1, by unfold allocM; rw [if_neg hk1, if_neg hk2, if_neg hk3]; rw [hm1, then_ok, if_pos hk4], rfl, hok1, rfl⟩, ((((((hh.front 2 rfl).tail.front 2 rfl).tail.front 2 rfl).tail.front 2 rfl).tail.front 1 rfl).front 1 rfl)⟩)
        · have hk4 : ¬ a1 ≠ 0 := by simpa using h56
          have hmid : allocM op c w r s e = fillM op ((s.block c).1.place c (s.block c).1.used) (packI w r) (w + 1).toNat 0 s1 e1 := by
            unfold allocM; rw [if_neg hk1, if_neg hk2, if_neg hk3, hm1, then_ok, if_neg hk4]
          refine g_skip (g_seq (g_seq (g_region (kPv (ev_loadA Tryz.isAgg38 Tryz.sizeOf38 rfl rfl) rfl ?_))))
          refine p_callq rfl (en_f Tryz.call114 rfl) (hsize_ok _ _ _ _ (by omega)) .free rfl rfl ?_
          refine kPm rfl rfl (p_nil (g_block (g_loop (ι := Nat × Dev × ε) (fun i => (i.1 : Int) ≤ w + 1 ∧ ok i.2.1 i.2.2 ∧ fillM op ((s.block c).1.place c (s.block c).1.used) (packI w r) (w + 1).toNat 0 s1 e1 = fillM op ((s.block c).1.place c (s.block c).1.used) (packI w r) ((w + 1).toNat - i.1) i.1 i.2.1 i.2.2) (fun i => [(3, .func (.func f) fi.toArray #[]), (6, ptr b6), (8, i64 0), (9, i64 0), (13, i64 ((s.block c).1.place c (s.block c).1.used)), (59, i64 (w + 1)), (60, i64 i.1)]) (fun i => DevA bd i.2.1 :: ExA be i.2.2 :: row b11 [i64 (s.block c).1.act, i64 (s.block c).1.used, sv] 95 :: VecU 0 (sv, (s.block c).1.rts) :: row b6 [i64 w, i64 r] 38 :: row b5 [i64 c.log, i64 c.roots, i64 c.space] 40 :: Fr) (fun i => (w + 1).toNat - i.1) (0, s1, e1) ⟨by simp only; omega, hok1, rfl⟩ (fun a w st => st.to ⟨rfl, rfl, rfl, rfl, rfl, rfl, rfl, trivial⟩ id) ?_)))
          rintro ⟨k, sL, eL⟩ ⟨hkw, hok2, hinv⟩
          simp only at hkw hok2 hinv ⊢
          refine g_seq (g_region (kPv (ev_cmp rfl rfl rfl) rfl (p_nil (g_seq ?_))))
          refine g_if rfl (fun h61 => ?_) (fun h61 => ?_)
          · have hk : (k : Int) < w + 1 := by simpa using h61
            refine g_skip (g_seq (g_block (g_seq (g_region (kPm rfl rfl (kPa rfl rfl (p_nil (g_seq (g_region (kPa rfl rfl (p_nil ?_)))))))))))
            refine g_seq (g_seq (g_region (kPm rfl rfl (kPv (ev_cmp rfl rfl rfl) rfl (p_nil (go_sb [64, 16, 15, 60, 59, 13, 9, 8, 6, 3] rfl ?_))))))
            refine g_if rfl (fun h64 => ?_) (fun h64 => ?_)
            · have hk0' : k = 0 := by simp at h64; omega
              have hst : fillM op ((s.block c).1.place c (s.block c).1.used) (packI w r) ((w + 1).toNat - k) k sL eL = (op (((s.block c).1.place c (s.block c).1.used) + k) (packI w r) sL eL).then fun x sz => if x.1 ≠ 0 then .ok ((0, x.1), x.2) sz else fillM op ((s.block c).1.place c (s.block c).1.used) (packI w r) ((w + 1).toNat - (k + 1)) ((k : Int) + 1) sz x.2 := by
                rw [show (w + 1).toNat - k = ((w + 1).toNat - (k + 1)) + 1 by omega]
                simp only [fillM]
                rw [if_pos (by omega)]
              have hVb := packI_b w r
              refine g_region (kPv (ev_loadA Tryz.isAgg38 Tryz.sizeOf38 rfl rfl) rfl ?_)
              refine p_callq rfl (en_f Tryz.call116 rfl) (hpack_ok _ _ _ _) .free rfl rfl ?_
              refine kPa rfl rfl (p_nil (g_seq (g_region (kPm rfl rfl (kPm rfl rfl (kPm rfl rfl ?_))))))
              first | refine p_val rfl (ev_add rfl rfl (wr64 (by omega))) .free rfl rfl ?_ | refine p_val rfl (ev_add rfl rfl rfl) .free rfl rfl ?_
              refine kPm rfl rfl (go_pull ExA be (go_pull DevA bd ?_))
              refine p_call rfl (en_c hS.enter rfl rfl) (hS.says _ _ _ _ _ hok2) .free rfl rfl ?_ ?_
              rotate_left
              · rintro _ _ ⟨s9, hm9, rfl, rfl⟩
                exact pan_fn fun w hh => ⟨_, ⟨s9, by rw [hmid, hinv, hst, hm9]; rfl, rfl, rfl⟩, ((((hh.front 4 rfl).front 4 rfl).front 4 rfl).front 4 rfl).tail.tail.tail.tail⟩
              rintro _ _ ⟨a2, e2, s2, hm2, rfl, rfl⟩
              have hok3 := hS.keeps _ _ _ _ _ _ _ hok2 hVb hm2
              refine kPa rfl rfl (p_nil (go_sb [17, 60, 59, 13, 9, 8, 6, 3] rfl (g_seq (g_region (kPm rfl rfl (kPv (ev_cmp rfl rfl rfl) rfl (p_nil ?_)))))))
              refine g_if rfl (fun h74 => ?_) (fun h74 => ?_)
              · have hk5 : a2 ≠ 0 := by simpa using h74
                refine g_seq (g_region (kPm rfl rfl (kPa rfl rfl (kPa rfl rfl (p_nil (g_ret ?_))))))
                exact ret_tmp2 Tryz.results55 rfl rfl (fun w_ hh => ⟨_, ⟨_, e2, s2, by rw [hmid, hinv, hst, hm2, then_ok, if_pos hk5], rfl, hok3, rfl⟩, ((((((hh.front 2 rfl).tail.front 2 rfl).tail.front 2 rfl).tail.front 2 rfl).tail.front 1 rfl).front 1 rfl)⟩)
              · have hk5 : ¬ a2 ≠ 0 := by simpa using h74
                refine g_skip (g_region ?_)
                first | refine p_val rfl (ev_add rfl rfl (wr64 (by omega))) .free rfl rfl ?_ | refine p_val rfl (ev_add rfl rfl rfl) .free rfl rfl ?_
                refine kPm rfl rfl (p_nil ?_)
                exact fun a w_ st => ⟨(k + 1, s2, e2), ⟨by simp only; omega, hok3, by rw [hinv, hst, hm2, then_ok, if_neg hk5]; push_cast; rfl⟩, by simp only; omega, st.to ⟨rfl, rfl, rfl, rfl, rfl, rfl, rfl, trivial⟩ id⟩
            · have hk0' : k ≠ 0 := by simp at h64; omega
              have hst : fillM op ((s.block c).1.place c (s.block c).1.used) (packI w r) ((w + 1).toNat - k) k sL eL = (op (((s.block c).1.place c (s.block c).1.used) + k) 0 sL eL).then fun x sz => if x.1 ≠ 0 then .ok ((0, x.1), x.2) sz else fillM op ((s.block c).1.place c (s.block c).1.used) (packI w r) ((w + 1).toNat - (k + 1)) ((k : Int) + 1) sz x.2 := by
                rw [show (w + 1).toNat - k = ((w + 1).toNat - (k + 1)) + 1 by omega]
                simp only [fillM]
                rw [if_neg (by omega)]
              have hVb : (0 : Int) ≤ 0 ∧ (0 : Int) < 18446744073709551616 := by decide
              refine g_skip (g_seq (g_region (kPm rfl rfl (kPm rfl rfl (kPm rfl rfl ?_)))))
              first | refine p_val rfl (ev_add rfl rfl (wr64 (by omega))) .free rfl rfl ?_ | refine p_val rfl (ev_add rfl rfl rfl) .free rfl rfl ?_
              refine kPm rfl rfl (go_pull ExA be (go_pull DevA bd ?_))
              refine p_call rfl (en_c hS.enter rfl rfl) (hS.says _ _ _ _ _ hok2) .free rfl rfl ?_ ?_
              rotate_left
              · rintro _ _ ⟨s9, hm9, rfl, rfl⟩
                exact pan_fn fun w hh => ⟨_, ⟨s9, by rw [hmid, hinv, hst, hm9]; rfl, rfl, rfl⟩, ((((hh.front 4 rfl).front 4 rfl).front 4 rfl).front 4 rfl).tail.tail.tail.tail⟩
              rintro _ _ ⟨a2, e2, s2, hm2, rfl, rfl⟩
              have hok3 := hS.keeps _ _ _ _ _ _ _ hok2 hVb hm2
              refine kPa rfl rfl (p_nil (go_sb [17, 60, 59, 13, 9, 8, 6, 3] rfl (g_seq (g_region (kPm rfl rfl (kPv (ev_cmp rfl rfl rfl) rfl (p_nil ?_)))))))
              refine g_if rfl (fun h74 => ?_) (fun h74 => ?_)
              · have hk5 : a2 ≠ 0 := by simpa using h74
                refine g_seq (g_region (kPm rfl rfl (kPa rfl rfl (kPa rfl rfl (p_nil (g_ret ?_))))))
                exact ret_tmp2 Tryz.results55 rfl rfl (fun w_ hh => ⟨_, ⟨_, e2, s2, by rw [hmid, hinv, hst, hm2, then_ok, if_pos hk5], rfl, hok3, rfl⟩, ((((((hh.front 2 rfl).tail.front 2 rfl).tail.front 2 rfl).tail.front 2 rfl).tail.front 1 rfl).front 1 rfl)⟩)
              · have hk5 : ¬ a2 ≠ 0 := by simpa using h74
                refine g_skip (g_region ?_)
                first | refine p_val rfl (ev_add rfl rfl (wr64 (by omega))) .free rfl rfl ?_ | refine p_val rfl (ev_add rfl rfl rfl) .free rfl rfl ?_
                refine kPm rfl rfl (p_nil ?_)
                exact fun a w_ st => ⟨(k + 1, s2, e2), ⟨by simp only; omega, hok3, by rw [hinv, hst, hm2, then_ok, if_neg hk5]; push_cast; rfl⟩, by simp only; omega, st.to ⟨rfl, rfl, rfl, rfl, rfl, rfl, rfl, trivial⟩ id⟩
          · have hk : ¬ (k : Int) < w + 1 := by simpa using h61
            refine g_exit (g_seq (g_region (kPm rfl rfl (kPa rfl rfl (kPa rfl rfl (p_nil (go_sb [9, 8] rfl (g_ret ?_))))))))
            exact ret_tmp2 Tryz.results55 rfl rfl (fun w_ hh => ⟨_, ⟨(((s.block c).1.place c (s.block c).1.used), 0), eL, sL, by rw [hmid, hinv, show (w + 1).toNat - k = 0 by omega]; rfl, rfl, hok2, rfl⟩, ((((((hh.front 2 rfl).tail.front 2 rfl).tail.front 2 rfl).tail.front 2 rfl).tail.front 1 rfl).front 1 rfl)⟩)
end Go.Proofs.YtlcibdhmgclfjaaGreat
namespace Go.Proofs.YtlcibdhmgclfjaaGreat
open Go
theorem then_inv {α β : Type} {m : Out α} {f : α → Dev → Out β} {b : β} {s' : Dev} (h : m.then f = .ok b s') : ∃ a s1, m = .ok a s1 ∧ f a s1 = .ok b s' := by
  cases m with
  | ok a s1 => exact ⟨a, s1, rfl, h⟩
  | off s => cases h
theorem store_u64 {s s' : Dev} {i v a : Int} (h : U64 s) (hv : 0 ≤ v ∧ v < 18446744073709551616) (e : s.store i v = .ok a s') : U64 s' ∧ s'.n = s.n := by
  unfold Dev.store at e
  split at e
  · cases e; exact ⟨h, rfl⟩
  · split at e
    · cases e
    · cases e
      refine ⟨fun x => ?_, rfl⟩
      show 0 ≤ upd s.now i.toNat v x ∧ upd s.now i.toNat v x < _
      unfold upd
      split
      · exact hv
      · exact h x
theorem flush_u64 {s s' : Dev} {i a : Int} (h : U64 s) (e : s.flush i = .ok a s') : U64 s' ∧ s'.n = s.n := by
  unfold Dev.flush at e
  split at e
  · cases e; exact ⟨h, rfl⟩
  · split at e
    · cases e
    · cases e; exact ⟨h, rfl⟩
theorem fence_u64 {s s' : Dev} {a : Unit} (h : U64 s) (e : s.fence = .ok a s') : U64 s' ∧ s'.n = s.n := by
  unfold Dev.fence at e
  split at e
  · cases e
  · cases e; exact ⟨h, rfl⟩
theorem append_u64 {L L' : LogS} {s s' : Dev} {i a : Int} (hL : LogW L) (h : U64 s) (hn : s.n ≤ 1000000) (e : L.append s i = .ok (a, L') s') : U64 s' ∧ s'.n = s.n := by
  have hl1 := hL.e1
  have hl2 := hL.e2
  have hl3 := hL.n1
  have hl4 := hL.n2
  have hl5 := hL.c.l2
  have hld := h.load
  unfold LogS.append at e
  split at e
  · cases e; exact ⟨h, rfl⟩
  split at e
  · cases e; exact ⟨h, rfl⟩
  obtain ⟨a1, s1, e1, e⟩ := then_inv e
  have h1 := store_u64 h ⟨by omega, by omega⟩ e1
  obtain ⟨a2, s2, e2, e⟩ := then_inv e
  have h2 := store_u64 h1.1 (h1.1.load i) e2
  obtain ⟨a3, s3, e3, e⟩ := then_inv e
  have h3 := flush_u64 h2.1 e3
  obtain ⟨a4, s4, e4, e⟩ := then_inv e
  have h4 := fence_u64 h3.1 e4
  obtain ⟨a5, s5, e5, e⟩ := then_inv e
  have h5 := store_u64 h4.1 (by unfold stampI; omega) e5
  obtain ⟨a6, s6, e6, e⟩ := then_inv e
  have h6 := flush_u64 h5.1 e6
  obtain ⟨a7, s7, e7, e⟩ := then_inv e
  have h7 := fence_u64 h6.1 e7
  cases e
  exact ⟨h7.1, by rw [h7.2, h6.2, h5.2, h4.2, h3.2, h2.2, h1.2]⟩
theorem sstore_u64 {S S' : SecS} {s s' : Dev} {i v a : Int} (hS : SecW S) (h : U64 s) (hn : s.n ≤ 1000000) (hv : 0 ≤ v ∧ v < 18446744073709551616) (e : S.store s i v = .ok (a, S') s') : U64 s' ∧ s'.n = s.n := by
  unfold SecS.store at e
  split at e
  · cases e; exact ⟨h, rfl⟩
  · split at e
    · obtain ⟨⟨x1, x2⟩, t, e1, e⟩ := then_inv e
      have h1 := append_u64 hS.L h hn e1
      split at e
      · cases e; exact h1
      · obtain ⟨y, u, e2, e⟩ := then_inv e
        have h2 := store_u64 h1.1 hv e2
        cases e; exact ⟨h2.1, by rw [h2.2, h1.2]⟩
    · obtain ⟨y, u, e2, e⟩ := then_inv e
      have h2 := store_u64 h hv e2
      cases e; exact h2
theorem storeD (B : World) (bd be : Nat) : StoreF B 120 [ptr bd] bd be Unit (fun _ _ => pr True) (fun i v s _ => (s.store i v).then fun a s' => .ok (a, ()) s') (fun s _ => U64 s) where
  enter := Tryz.call120
  u64 := fun _ _ h => h
  says := fun Fr i v s e hok w hh => by
    refine (nstore_ok B Fr bd s i v w (hh.front 1 rfl).tail).mono fun en w' h => ?_
    cases en with
    | returned rv =>
      obtain ⟨H, ⟨s', ⟨a, hm, rfl⟩, rfl⟩, hh⟩ := h
      exact ⟨_, ⟨a, (), s', by rw [hm]; rfl, rfl, rfl⟩, (hh.unpr (p := True) trivial).back 1 (by simp)⟩
    | panicked c =>
      obtain ⟨H, ⟨s', ⟨hm, rfl⟩, rfl⟩, hh⟩ := h
      exact ⟨_, ⟨s', by rw [hm]; rfl, rfl, rfl⟩, hh⟩
    | outgrown => exact h
  keeps := fun i v s e a e' s' hok hv hm => by
    obtain ⟨a1, s1, e1, hm⟩ := then_inv hm
    cases hm
    exact (store_u64 hok hv e1).1
theorem storeS (B : World) (bd bs : Nat) (c : Cfg) : StoreF B 56 [ptr bs] bd bs SecS (fun b S => SecO b S) (fun i v s S => S.store s i v) (fun s S => U64 s ∧ s.n ≤ 1000000 ∧ SecW S ∧ S.L.d = bd ∧ S.L.c = c) where
  enter := Tryz.call56
  u64 := fun _ _ h => h.1
  says := fun Fr i v s S hok w hh => by
    obtain ⟨h1, h2, h3, rfl, h5⟩ := hok
    refine (sstoreO_ok B Fr bs S s h3 i v w (hh.front 1 rfl)).mono fun en w' h => ?_
    cases en with
    | returned rv =>
      obtain ⟨H, ⟨a, S', s', hm, rfl, rfl⟩, hh⟩ := h
      exact ⟨_, ⟨a, S', s', hm, rfl, rfl⟩, hh.front 1 rfl⟩
    | panicked c =>
      obtain ⟨H, ⟨s', hm, rfl, rfl⟩, hh⟩ := h
      exact ⟨_, ⟨s', hm, rfl, rfl⟩, hh⟩
    | outgrown => exact h
  keeps := fun i v s S a S' s' hok hv hm => by
    have h1 := sstore_u64 hok.2.2.1 hok.1 hok.2.1 hv hm
    have h2 := store_dc hm
    have hc := hok.2.2.1.L.c.act
    exact ⟨h1.1, by rw [h1.2]; exact hok.2.1, store_w hok.2.2.1 hok.2.1 (by have := hok.2.2.1.L.c.l1; have := hok.2.2.1.L.c.r1; omega) hm (store_lw hok.2.2.1.L hm), by rw [h2.1]; exact hok.2.2.2.1, by rw [h2.2.1]; exact hok.2.2.2.2⟩
theorem owrite_ok (B : World) (Fr : List HP) (f : FuncId) (fi : List Value) (bd be : Nat) (ε : Type) (ExA : Nat → ε → HP) (op : Int → Int → Dev → ε → Out (Int × ε)) (ok : Dev → ε → Prop) (hS : StoreF B f fi bd be ε ExA op ok) (o : Obj3) (ho : ObjW o) (i v : Int) (hv : 0 ≤ v ∧ v < 18446744073709551616) (s : Dev) (e : ε) (hok : ok s e) :
    ∀ w_, Holds B (DevA bd s :: ExA be e :: Fr) w_ → Calls Tryz.prog 61 [objV o, i64 i, w64 v, .func (.func f) fi.toArray #[]].toArray w_ (Ret B (fun rv H' => ∃ x e' s', setM op o i false v s e = .ok (x, e') s' ∧ rv = i64 x ∧ ok s' e' ∧ H' = DevA bd s' :: ExA be e' :: Fr) (fun ch H' => ∃ s', setM op o i false v s e = .off s' ∧ ch = offc ∧ H' = DevA bd s' :: Fr)) := by
  refine fn_enter Tryz.func61 rfl Tryz.ntmps61 rfl (g_seq (g_region (p_chg rfl (ch_boxA rfl) .free rfl rfl ?_)))
  rintro _ _ ⟨b4, rfl, rfl⟩
  refine kPa rfl rfl (p_nil (g_seq (g_region (kPv (ev_loadA Tryz.isAgg105 Tryz.sizeOf105 rfl rfl) rfl ?_))))
  refine kPm rfl rfl (p_callq rfl (en_f Tryz.call123 rfl) (field_ok _ _ o ho _ _) .free rfl rfl ?_)
  refine kPm rfl rfl (kPv (ev_ext rfl rfl) rfl (kPv (ev_ext rfl rfl) rfl (kPa rfl rfl (kPa rfl rfl (p_nil (go_sb [10, 9, 8, 2, 3] rfl (g_seq (g_seq (g_region (kPm rfl rfl (kPv (ev_cmp rfl rfl rfl) rfl ?_)))))))))))
  refine p_nil ?_
  refine g_if rfl (fun h18 => ?_) (fun h18 => ?_)
  · have hk : (objField o i false).2 ≠ 0 := by simpa using h18
    refine g_seq (g_region (kPm rfl rfl (kPa rfl rfl (p_nil (g_ret ?_)))))
    exact ret_tmp Tryz.results61 rfl (fun w_ hh => ⟨_, ⟨_, e, s, by unfold setM; rw [if_pos hk], rfl, hok, rfl⟩, hh.tail⟩)
  · have hk : ¬ (objField o i false).2 ≠ 0 := by simpa using h18
    refine g_skip (g_seq (g_region (kPm rfl rfl (kPm rfl rfl (kPm rfl rfl (go_pull ExA be (go_pull DevA bd ?_)))))))
    refine p_call rfl (en_c hS.enter rfl rfl) (hS.says _ _ _ _ _ hok) .free rfl rfl ?_ ?_
    rotate_left
    · rintro _ _ ⟨s9, hm9, rfl, rfl⟩
      exact pan_fn fun w hh => ⟨_, ⟨s9, by unfold setM; rw [if_neg hk]; exact hm9, rfl, rfl⟩, (hh.front 1 rfl).tail⟩
    rintro _ _ ⟨a1, e1, s1, hm1, rfl, rfl⟩
    have hok1 := hS.keeps _ _ _ _ _ _ _ hok ⟨by omega, by omega⟩ hm1
    refine kPa rfl rfl (p_nil (go_sb [8] rfl (g_ret ?_)))
    exact ret_tmp Tryz.results61 rfl (fun w_ hh => ⟨_, ⟨_, e1, s1, by unfold setM; rw [if_neg hk]; exact hm1, rfl, hok1, rfl⟩, (hh.front 2 rfl).tail⟩)
theorem opoint_ok (B : World) (Fr : List HP) (f : FuncId) (fi : List Value) (bd be : Nat) (ε : Type) (ExA : Nat → ε → HP) (op : Int → Int → Dev → ε → Out (Int × ε)) (ok : Dev → ε → Prop) (hS : StoreF B f fi bd be ε ExA op ok) (o : Obj3) (ho : ObjW o) (i v : Int) (hv : 0 ≤ v ∧ v ≤ 9223372036854775807) (s : Dev) (e : ε) (hok : ok s e) :
    ∀ w_, Holds B (DevA bd s :: ExA be e :: Fr) w_ → Calls Tryz.prog 77 [objV o, i64 i, i64 v, .func (.func f) fi.toArray #[]].toArray w_ (Ret B (fun rv H' => ∃ x e' s', setM op o i true v s e = .ok (x, e') s' ∧ rv = i64 x ∧ ok s' e' ∧ H' = DevA bd s' :: ExA be e' :: Fr) (fun ch H' => ∃ s', setM op o i true v s e = .off s' ∧ ch = offc ∧ H' = DevA bd s' :: Fr)) := by
  refine fn_enter Tryz.func77 rfl Tryz.ntmps77 rfl (g_seq (g_region (p_chg rfl (ch_boxA rfl) .free rfl rfl ?_)))
  rintro _ _ ⟨b4, rfl, rfl⟩
  refine kPa rfl rfl (p_nil (g_seq (g_region (kPv (ev_loadA Tryz.isAgg105 Tryz.sizeOf105 rfl rfl) rfl ?_))))
  refine kPm rfl rfl (p_callq rfl (en_f Tryz.call123 rfl) (field_ok _ _ o ho _ _) .free rfl rfl ?_)
  refine kPm rfl rfl (kPv (ev_ext rfl rfl) rfl (kPv (ev_ext rfl rfl) rfl (kPa rfl rfl (kPa rfl rfl (p_nil (go_sb [10, 9, 8, 2, 3] rfl (g_seq (g_seq (g_region (kPm rfl rfl (kPv (ev_cmp rfl rfl rfl) rfl ?_)))))))))))
  refine p_nil ?_
  refine g_if rfl (fun h18 => ?_) (fun h18 => ?_)
  · have hk : (objField o i true).2 ≠ 0 := by simpa using h18
    refine g_seq (g_region (kPm rfl rfl (kPa rfl rfl (p_nil (g_ret ?_)))))
    exact ret_tmp Tryz.results77 rfl (fun w_ hh => ⟨_, ⟨_, e, s, by unfold setM; rw [if_pos hk], rfl, hok, rfl⟩, hh.tail⟩)
  · have hk : ¬ (objField o i true).2 ≠ 0 := by simpa using h18
    refine g_skip (g_seq (g_region (kPm rfl rfl (kPm rfl rfl (kPm rfl rfl (kPv (ev_conv Tryz.runUnderlying3 Tryz.runUnderlying26 rfl (wru64 (by omega))) rfl (go_pull ExA be (go_pull DevA bd ?_))))))))
    refine p_call rfl (en_c hS.enter rfl rfl) (hS.says _ _ _ _ _ hok) .free rfl rfl ?_ ?_
    rotate_left
    · rintro _ _ ⟨s9, hm9, rfl, rfl⟩
      exact pan_fn fun w hh => ⟨_, ⟨s9, by unfold setM; rw [if_neg hk]; exact hm9, rfl, rfl⟩, (hh.front 1 rfl).tail⟩
    rintro _ _ ⟨a1, e1, s1, hm1, rfl, rfl⟩
    have hok1 := hS.keeps _ _ _ _ _ _ _ hok ⟨by omega, by omega⟩ hm1
    refine kPa rfl rfl (p_nil (go_sb [8] rfl (g_ret ?_)))
    exact ret_tmp Tryz.results77 rfl (fun w_ hh => ⟨_, ⟨_, e1, s1, by unfold setM; rw [if_neg hk]; exact hm1, rfl, hok1, rfl⟩, (hh.front 2 rfl).tail⟩)
end Go.Proofs.YtlcibdhmgclfjaaGreat
namespace Go.Proofs.YtlcibdhmgclfjaaGreat
open Go
theorem rwrite_ok (B : World) (Fr : List HP) (f : FuncId) (fi : List Value) (bd be : Nat) (ε : Type) (ExA : Nat → ε → HP) (op : Int → Int → Dev → ε → Out (Int × ε)) (ok : Dev → ε → Prop) (hS : StoreF B f fi bd be ε ExA op ok) (c : Cfg) (hc : CfgW c) (b : Blk) (hb : 0 ≤ b.act ∧ b.act < 9223372036854775808 ∧ 0 ≤ b.used ∧ b.used < 9223372036854775808) (hw64 : ∀ x ∈ b.rts, 0 ≤ x ∧ x < 18446744073709551616) (hl0 : 0 < b.rts.length) (hl1 : b.rts.length ≤ 100000) (sv : Value) (hsv : cell1 sv = true) (hsl : SlR B Fr sv (b.rts.map w64)) (s : Dev) (e : ε) (hok : ok s e) :
    ∀ w_, Holds B (DevA bd s :: ExA be e :: Fr) w_ → Calls Tryz.prog 175 [ptr bd, cfgV c, blkV b sv, .func (.func f) fi.toArray #[]].toArray w_ (Ret B (fun rv H' => ∃ x e' s', writeM op c b s e = .ok (x, e') s' ∧ rv = i64 x ∧ ok s' e' ∧ H' = DevA bd s' :: ExA be e' :: Fr) (fun ch H' => ∃ s', writeM op c b s e = .off s' ∧ ch = offc ∧ H' = DevA bd s' :: Fr)) := by
  refine fn_enter Tryz.func175 rfl Tryz.ntmps175 rfl ?_
  obtain ⟨hA1, hA2, hA3⟩ := act_b hc
  have hws : ∀ x ∈ (b.act :: b.used :: b.rts), 0 ≤ x ∧ x < 18446744073709551616 := fun x hx => by
    simp only [List.mem_cons] at hx
    rcases hx with rfl | rfl | hx
    · omega
    · omega
    · exact hw64 x hx
  refine g_seq (g_region (p_chg rfl (ch_boxA rfl) .free rfl rfl ?_))
  rintro _ _ ⟨b5, rfl, rfl⟩
  refine p_chg rfl (ch_boxA rfl) .free rfl rfl ?_
  rintro _ _ ⟨b6, rfl, rfl⟩
  refine kPa rfl rfl (p_nil (g_seq (g_region (kPv (ev_fa (m := _) fa_95_0 rfl rfl) rfl (kPv (ev_load Tryz.isAgg3 rfl rfl) rfl (kPv (ev_conv Tryz.runUnderlying3 Tryz.runUnderlying26 rfl (wru64 (by omega))) rfl (kPv (ev_fa (m := _) fa_95_1 rfl rfl) rfl (kPv (ev_load Tryz.isAgg3 rfl rfl) rfl (kPv (ev_conv Tryz.runUnderlying3 Tryz.runUnderlying26 rfl (wru64 (by omega))) rfl (p_chg rfl (ch_bs2 Tryz.runUnderlying25 Tryz.sizeOf26 Tryz.zeroValue26 rfl rfl rfl rfl rfl) .free rfl rfl ?_))))))))))
  rintro _ _ ⟨b20, rfl, rfl⟩
  refine kPv (ev_fa (m := _) fa_95_2 rfl rfl) rfl (kPv (ev_load Tryz.isAgg25 rfl rfl) rfl (go_conv (H' := VecA 26 w64 0 (.slice (some ⟨b20, 0, none⟩) 2 2, [b.act, b.used]) :: _) (fun w hh => vec_row rfl rfl hh) (p_chg rfl (ch_append_vecs (yv := sv) (ys := b.rts) rfl rfl Tryz.runUnderlying25 Tryz.runUnderlying25 ⟨_, rfl⟩ Tryz.sizeOf26 Tryz.zeroValue26 rfl (fun _ => rfl) tb_26 rfl rfl ((((hsl.cons _).cons _).cons _).cons _) hl0 (by simp; omega)) .free rfl rfl ?_)))
  rintro sv2 _ ⟨hsv2, rfl⟩
  refine go_vecsa (by simp) fun bW oW capW hW => ?_
  subst hW
  refine kPa rfl rfl (p_nil (go_sb [9, 8, 5, 0, 3] rfl (g_seq (g_seq (g_region (kPm rfl rfl (kPv (ev_len rfl Tryz.runUnderlying25 ⟨_, rfl⟩ rfl) rfl (kPm rfl rfl (p_nil (g_block (g_loop (ι := Nat × Dev × ε) (fun i => i.1 ≤ (b.act :: b.used :: b.rts).length ∧ ok i.2.1 i.2.2 ∧ writeM op c b s e = writeN op ((b.act :: b.used :: b.rts).drop i.1) (c.active + i.1) i.2.1 i.2.2) (fun i => [(0, ptr bd), (3, .func (.func f) fi.toArray #[]), (5, ptr b5), (8, i64 0), (24, .slice (some ⟨bW, oW, none⟩) (b.act :: b.used :: b.rts).length capW), (25, i64 ((b.act :: b.used :: b.rts).length : Nat)), (26, i64 i.1)]) (fun i => VecA 26 w64 0 (.slice (some ⟨bW, oW, none⟩) (b.act :: b.used :: b.rts).length capW, (b.act :: b.used :: b.rts)) :: row b6 [i64 b.act, i64 b.used, sv] 95 :: row b5 [i64 c.log, i64 c.roots, i64 c.space] 40 :: DevA bd i.2.1 :: ExA be i.2.2 :: Fr) (fun i => (b.act :: b.used :: b.rts).length - i.1) (0, s, e) ⟨Nat.zero_le _, hok, by simp [writeM]⟩ (fun a w st => st.to ⟨rfl, rfl, rfl, rfl, rfl, rfl, rfl, trivial⟩ id) ?_)))))))))))
  rintro ⟨k, sL, eL⟩ ⟨hkw, hok2, hinv⟩
  simp only at hkw hok2 hinv ⊢
  have hr1 := hc.r1
  have hkb : (k : Int) ≤ 200000 := by simp at hkw; omega
  refine g_seq (g_region (kPv (ev_cmp rfl rfl rfl) rfl (p_nil (g_seq ?_))))
  refine g_if rfl (fun h27 => ?_) (fun h27 => ?_)
  · have hk : k < (b.act :: b.used :: b.rts).length := by simp at h27 ⊢; omega
    have hwk := hws _ (List.getElem_mem hk)
    have hst : writeN op ((b.act :: b.used :: b.rts).drop k) (c.active + k) sL eL = if sL.load (c.active + k) = (b.act :: b.used :: b.rts)[k] then writeN op ((b.act :: b.used :: b.rts).drop (k + 1)) (c.active + (k + 1 : Nat)) sL eL else (op (c.active + k) ((b.act :: b.used :: b.rts)[k]) sL eL).then fun x s9 => if x.1 ≠ 0 then .ok x s9 else writeN op ((b.act :: b.used :: b.rts).drop (k + 1)) (c.active + (k + 1 : Nat)) s9 x.2 := by
      rw [List.drop_eq_getElem_cons hk]
      push_cast
      rw [← Int.add_assoc]
      rfl
    refine g_skip (g_seq (g_block (g_seq (g_region (kPm rfl rfl (kPv (ev_iaS Tryz.runUnderlying25 Tryz.sizeOf26 rfl rfl (by omega) (by omega)) rfl ?_))))))
    refine kPv (ev_loadS (v := w64 (b.act :: b.used :: b.rts)[k]) Tryz.isAgg26 (vec_slr 0 rfl) rfl (by rw [Int.toNat_natCast, List.getElem?_map, List.getElem?_eq_getElem hk]; rfl)) rfl ?_
    refine kPa rfl rfl (kPa rfl rfl (p_nil (g_seq (g_region (kPv (ev_loadA Tryz.isAgg40 Tryz.sizeOf40 rfl rfl) rfl ?_)))))
    refine p_callq rfl (en_f Tryz.call117 rfl) (active_ok _ _ c hc) .free rfl rfl ?_
    refine kPm rfl rfl ?_
    first | refine p_val rfl (ev_add rfl rfl (wr64 (by omega))) .free rfl rfl ?_ | refine p_val rfl (ev_add rfl rfl rfl) .free rfl rfl ?_
    refine kPa rfl rfl (p_nil (go_sb [12, 11, 26, 25, 24, 8, 5, 0, 3] rfl (g_seq (g_seq (g_region (kPm rfl rfl (kPm rfl rfl (p_callq rfl (en_f Tryz.call71 rfl) (ro_at (q := DevA) (fun Fr => nload_ok _ Fr _ _ _)) .free rfl rfl ?_))))))))
    refine kPm rfl rfl (kPv (ev_cmp rfl rfl rfl) rfl (p_nil ?_))
    refine g_if rfl (fun h39 => ?_) (fun h39 => ?_)
    · have hk4 : sL.load (c.active + k) = (b.act :: b.used :: b.rts)[k] := by simpa using h39
      refine g_exit (g_region ?_)
      first | refine p_val rfl (ev_add rfl rfl (wr64 (by omega))) .free rfl rfl ?_ | refine p_val rfl (ev_add rfl rfl rfl) .free rfl rfl ?_
      refine kPm rfl rfl (p_nil (go_sb [26, 25, 24, 8, 5, 0, 3] rfl ?_))
      exact fun a w_ st => ⟨(k + 1, sL, eL), ⟨by simp only; omega, hok2, by rw [hinv, hst, if_pos hk4]⟩, by simp only; omega, st.to ⟨rfl, rfl, rfl, rfl, rfl, rfl, rfl, trivial⟩ id⟩
    · have hk4 : ¬ sL.load (c.active + k) = (b.act :: b.used :: b.rts)[k] := by simpa using h39
      refine g_skip (g_seq (g_region (kPm rfl rfl (kPm rfl rfl (kPm rfl rfl (go_pull ExA be (go_pull DevA bd ?_)))))))
      refine p_call rfl (en_c hS.enter rfl rfl) (hS.says _ _ _ _ _ hok2) .free rfl rfl ?_ ?_
      rotate_left
      · rintro _ _ ⟨s9, hm9, rfl, rfl⟩
        exact pan_fn fun w hh => ⟨_, ⟨s9, by rw [hinv, hst, if_neg hk4, hm9]; rfl, rfl, rfl⟩, (((hh.front 3 rfl).front 3 rfl).front 3 rfl).tail.tail.tail⟩
      rintro _ _ ⟨a2, e2, s2, hm2, rfl, rfl⟩
      have hok3 := hS.keeps _ _ _ _ _ _ _ hok2 hwk hm2
      refine kPa rfl rfl (p_nil (go_sb [13, 26, 25, 24, 8, 5, 0, 3] rfl (g_seq (g_region (kPm rfl rfl (kPv (ev_cmp rfl rfl rfl) rfl (p_nil ?_)))))))
      refine g_if rfl (fun h45 => ?_) (fun h45 => ?_)
      · have hk5 : a2 ≠ 0 := by simpa using h45
        refine g_seq (g_region (kPm rfl rfl (kPa rfl rfl (p_nil (g_ret ?_)))))
        exact ret_tmp Tryz.results175 rfl (fun w_ hh => ⟨_, ⟨_, e2, s2, by rw [hinv, hst, if_neg hk4, hm2, then_ok, if_pos hk5], rfl, hok3, rfl⟩, (((hh.front 4 rfl).front 4 rfl).front 4 rfl).tail.tail.tail⟩)
      · have hk5 : ¬ a2 ≠ 0 := by simpa using h45
        refine g_skip (g_region ?_)
        first | refine p_val rfl (ev_add rfl rfl (wr64 (by omega))) .free rfl rfl ?_ | refine p_val rfl (ev_add rfl rfl rfl) .free rfl rfl ?_
        refine kPm rfl rfl (p_nil ?_)
        exact fun a w_ st => ⟨(k + 1, s2, e2), ⟨by simp only; omega, hok3, by rw [hinv, hst, if_neg hk4, hm2, then_ok, if_neg hk5]⟩, by simp only; omega, st.to ⟨rfl, rfl, rfl, rfl, rfl, rfl, rfl, trivial⟩ (fun hh => (((((hh.front 1 rfl).front 1 rfl).front 4 rfl).front 4 rfl).front 4 rfl))⟩
  · have hk : ¬ k < (b.act :: b.used :: b.rts).length := by simp at h27 ⊢; omega
    refine g_exit (g_seq (g_region (kPa rfl rfl (p_nil (go_sb [8] rfl (g_ret ?_))))))
    exact ret_tmp Tryz.results175 rfl (fun w_ hh => ⟨_, ⟨0, eL, sL, by rw [hinv, List.drop_eq_nil_of_le (by omega)]; rfl, rfl, hok2, rfl⟩, hh.tail.tail.tail⟩)
end Go.Proofs.YtlcibdhmgclfjaaGreat
namespace Go.Proofs.YtlcibdhmgclfjaaGreat
open Go
abbrev devOp (i v : Int) (s : Dev) (_ : Unit) : Out (Int × Unit) := (s.store i v).then fun a s' => .ok (a, ()) s'
theorem good_op {s : Dev} {i v : Int} (h : s.pow.lim < 0) : Good (devOp i v s ()) (fun _ => True) s.n :=
  good_then (good_store h) fun _ s1 _ h1 e1 => ⟨_, _, rfl, trivial, h1, e1⟩
theorem good_fill {a h : Int} : ∀ (f : Nat) (i : Int) (s : Dev), s.pow.lim < 0 → Good (fillM devOp a h f i s ()) (fun _ => True) s.n
  | 0, _, s, h1 => ⟨_, _, rfl, trivial, h1, rfl⟩
  | f + 1, i, s, h1 => by
    unfold fillM
    refine good_then (good_op h1) fun x s1 _ h2 e2 => ?_
    split
    · exact ⟨_, _, rfl, trivial, h2, e2⟩
    · exact e2 ▸ good_fill f (i + 1) s1 h2
theorem good_alloc {c : Cfg} {w r : Int} {s : Dev} (h1 : s.pow.lim < 0) : Good (allocM devOp c w r s ()) (fun _ => True) s.n := by
  unfold allocM
  split
  · exact ⟨_, _, rfl, trivial, h1, rfl⟩
  split
  · exact ⟨_, _, rfl, trivial, h1, rfl⟩
  split
  · exact ⟨_, _, rfl, trivial, h1, rfl⟩
  refine good_then (good_op h1) fun x s1 _ h2 e2 => ?_
  split
  · exact ⟨_, _, rfl, trivial, h2, e2⟩
  · exact e2 ▸ good_fill _ _ s1 h2
theorem allocD_ok (B : World) (Fr : List HP) (bd : Nat) (c : Cfg) (hc : CfgW c) (w r : Int) (s : Dev) (hl : s.pow.lim < 0) (hu : U64 s) :
    ∀ w_, Holds B (DevA bd s :: Fr) w_ → Calls Tryz.prog 55 [ptr bd, cfgV c, .agg #[i64 w, i64 r], .func (.func 120) [ptr bd].toArray #[]].toArray w_ (Ret B (fun rv H' => ∃ x s', allocM devOp c w r s () = .ok (x, ()) s' ∧ rv = .tuple #[i64 x.1, i64 x.2] ∧ s'.pow.lim < 0 ∧ s'.n = s.n ∧ U64 s' ∧ H' = DevA bd s' :: Fr) (fun _ _ => False)) := fun w_ hh => by
  obtain ⟨y, s2, hg, _, hg2, hg3⟩ := good_alloc (c := c) (w := w) (r := r) hl
  refine (alloc_ok B Fr _ [ptr bd] bd 0 Unit (fun _ _ => pr True) devOp _ (storeD B bd 0) c hc w r s () hu w_ ((hh.unpr (p := True) trivial).back 1 (by simp))).mono fun en w' h => ?_
  cases en with
  | returned rv =>
    obtain ⟨H, ⟨x, e', s', hm, rfl, hok, rfl⟩, hh⟩ := h
    obtain ⟨rfl, rfl⟩ : y = (x, e') ∧ s2 = s' := by rw [hg] at hm; cases hm; exact ⟨rfl, rfl⟩
    exact ⟨_, ⟨x, s2, hm, rfl, hg2, hg3, hok, rfl⟩, (hh.front 1 rfl).tail⟩
  | panicked c =>
    obtain ⟨H, ⟨s', hm, _⟩, _⟩ := h
    rw [hg] at hm; cases hm
  | outgrown => exact h
theorem zeroN_u64 (f : Int → Int) : ∀ (k : Nat) (i : Int) (s s' : Dev) (a : Unit), U64 s → zeroN f k i s = .ok a s' → U64 s'
  | 0, _, s, s', a, h, e => by cases e; exact h
  | k + 1, i, s, s', a, h, e => by
    rw [zeroN_add] at e
    obtain ⟨_, s1, e1, e⟩ := then_inv e
    obtain ⟨_, s2, e2, e⟩ := then_inv e
    exact zeroN_u64 f k _ s2 s' a (flush_u64 (store_u64 h (by decide) e1).1 e2).1 e
theorem format_u64 {s s' : Dev} {c : Cfg} {a : Int} (h : U64 s) (hc : CfgW c) (e : s.format c = .ok a s') : U64 s' := by
  have := hc.r1; have := hc.r2; have := hc.l1; have := hc.l2; have := hc.s1; have := hc.s2
  unfold Dev.format at e
  split at e
  · cases e; exact h
  obtain ⟨_, s1, e1, e⟩ := then_inv e
  obtain ⟨_, s2, e2, e⟩ := then_inv e
  obtain ⟨_, s3, e3, e⟩ := then_inv e
  have h3 := (fence_u64 (flush_u64 (store_u64 h (by decide) e1).1 e2).1 e3).1
  obtain ⟨_, s4, e4, e⟩ := then_inv e
  simp only [st3] at e4
  obtain ⟨_, t1, f1, e4⟩ := then_inv e4
  obtain ⟨_, t2, f2, e4⟩ := then_inv e4
  obtain ⟨_, t3, f3, e4⟩ := then_inv e4
  have g1 := (store_u64 h3 (show 0 ≤ c.log ∧ c.log < _ by omega) f1).1
  have g2 := (store_u64 g1 (show 0 ≤ c.roots ∧ c.roots < _ by omega) f2).1
  have g3 := (store_u64 g2 (show 0 ≤ c.space ∧ c.space < _ by omega) f3).1
  cases e4
  obtain ⟨_, s5, e5, e⟩ := then_inv e
  obtain ⟨_, s6, e6, e⟩ := then_inv e
  obtain ⟨_, s7, e7, e⟩ := then_inv e
  obtain ⟨_, s8, e8, e⟩ := then_inv e
  have h8 := zeroN_u64 _ _ _ _ _ _ (zeroN_u64 _ _ _ _ _ _ (flush_u64 (store_u64 g3 (by decide) e5).1 e6).1 e7) e8
  obtain ⟨_, s9, e9, e⟩ := then_inv e
  obtain ⟨_, s10, e10, e⟩ := then_inv e
  have h10 := (fence_u64 (flush_u64 h8 e9).1 e10).1
  obtain ⟨_, s11, e11, e⟩ := then_inv e
  obtain ⟨_, s12, e12, e⟩ := then_inv e
  obtain ⟨_, s13, e13, e⟩ := then_inv e
  have h13 := (fence_u64 (flush_u64 (store_u64 h10 (by decide) e11).1 e12).1 e13).1
  cases e; exact h13
theorem dev0_u64 (pa N : Nat) : U64 (dev0 pa [] N) := fun x => by
  show 0 ≤ (tab N (oldW [])).getD x 0 ∧ (tab N (oldW [])).getD x 0 < _
  rw [List.getD_eq_getElem?_getD]
  unfold tab
  by_cases h : x < N
  · simp [h, oldW]
  · simp [h]
abbrev u8 (x : Int) : Value := .int .u8 x
def mkH (h : Int × Int) : Int × Int := (h.2 % 9, h.1 % (h.2 % 9 + 1))
def fillN (c : Cfg) : List (Int × Int) → Dev → List Int → Out (List Int)
  | [], s, acc => .ok acc s
  | h :: t, s, acc => (allocM devOp c (mkH h).1 (mkH h).2 s ()).then fun x s' => fillN c t s' (if x.1.2 = 0 then acc ++ [x.1.1] else acc)
theorem hmake_ok (B : World) (H : List HP) (h : Int × Int) (h0 : 0 ≤ h.1 ∧ h.1 < 256) (h1 : 0 ≤ h.2 ∧ h.2 < 256) :
    ∀ w, Holds B H w → Calls Tryz.prog 190 [.agg #[u8 h.1, u8 h.2]].toArray w (PureR B H (.agg #[i64 (mkH h).1, i64 (mkH h).2])) := by
  refine fn_enter Tryz.func190 rfl Tryz.ntmps190 rfl (g_seq (g_region (p_chg rfl (ch_boxA rfl) .free rfl rfl ?_)))
  rintro _ _ ⟨b1, rfl, rfl⟩
  refine p_chg rfl (ch_allocA Tryz.zeroValue38 rfl) .free rfl rfl ?_
  rintro _ _ ⟨b2, rfl, rfl⟩
  refine p_nil (g_seq (g_region (kPv (ev_fa (m := _) fa_209_1 rfl rfl) rfl (kPv (ev_load Tryz.isAgg5 rfl rfl) rfl (kPv (ev_rem (c := h.2 % 9) rfl rfl (by decide) (rem_e 9 (by omega))) rfl ?_)))))
  first | refine p_val rfl (ev_conv Tryz.runUnderlying5 Tryz.runUnderlying3 rfl (wr64 (by omega))) .free rfl rfl ?_ | refine p_val rfl (ev_conv Tryz.runUnderlying5 Tryz.runUnderlying3 rfl rfl) .free rfl rfl ?_
  refine kPa rfl rfl (p_nil (g_seq (g_region (kPm rfl rfl (kPv (ev_fa (m := _) fa_209_0 rfl rfl) rfl (kPv (ev_load Tryz.isAgg5 rfl rfl) rfl ?_))))))
  first | refine p_val rfl (ev_conv Tryz.runUnderlying5 Tryz.runUnderlying3 rfl (wr64 (by omega))) .free rfl rfl ?_ | refine p_val rfl (ev_conv Tryz.runUnderlying5 Tryz.runUnderlying3 rfl rfl) .free rfl rfl ?_
  refine kPm rfl rfl ?_
  first | refine p_val rfl (ev_add rfl rfl (wr64 (by omega))) .free rfl rfl ?_ | refine p_val rfl (ev_add rfl rfl rfl) .free rfl rfl ?_
  refine kPv (ev_rem (c := h.1 % (h.2 % 9 + 1)) rfl rfl (by omega) (rem_e _ (by omega))) rfl (kPv (ev_build rfl (bld_38_0_1 _ _ rfl rfl)) rfl (p_chg0 rfl (ch_storeA (vs := _) Tryz.sizeOf38 rfl rfl rfl rfl rfl) .free rfl ?_))
  rintro _ _ rfl
  refine p_nil (go_sb [2] rfl (g_ret ?_))
  exact ret_1 Tryz.results190 (.cellA rfl Tryz.isAgg38 Tryz.sizeOf38 rfl rfl) (fun w hw => ⟨rfl, hw.tail.tail⟩)
theorem filled_ok (B : World) (Fr : List HP) (x0 x1 x2 : Int) (hx : 0 ≤ x0 ∧ 0 ≤ x1 ∧ 0 ≤ x2) (c : Cfg) (hcm : c = mkC x0 x1 x2) (hs : List (Int × Int)) (hhs : ∀ h ∈ hs, (0 ≤ h.1 ∧ h.1 < 256) ∧ (0 ≤ h.2 ∧ h.2 < 256)) (hlen : hs.length ≤ 100000) (q : Option Addr) (cap : Nat) (hv : SlN B Fr (.slice q hs.length cap) 2 (hs.map fun h => [u8 h.1, u8 h.2])) :
    ∀ w_, Holds B Fr w_ → Calls Tryz.prog 181 [.agg #[u16 x0, u16 x1, u16 x2], .slice q hs.length cap].toArray w_ (Ret B (fun rv H' => ∃ (bd pa N : Nat) (s0 s' : Dev) (out : List Int) (ov sv : Value), Fmt c N s0 ∧ (N : Int) = c.words ∧ (U64 s0 ∧ (dev0 pa [] N).format c = .ok 0 s0) ∧ fillN c hs s0 [] = .ok out s' ∧ U64 s' ∧ s'.pow.lim < 0 ∧ s'.n = N ∧ cell1 ov = true ∧ cell1 sv = true ∧ rv = .tuple #[ptr bd, cfgV c, blkV (s'.block c).1 sv, ov] ∧ H' = VecU 0 (sv, (s'.block c).1.rts) :: DevA bd s' :: VecA 3 i64 0 (ov, out) :: Fr) (fun _ _ => False)) := by
  refine fn_enter Tryz.func181 rfl Tryz.ntmps181 rfl ?_
  have hc : CfgW c := by rw [hcm]; exact mkC_w hx.1 hx.2.1 hx.2.2
  refine g_seq (g_region (p_chg rfl (ch_boxA rfl) .free rfl rfl ?_))
  rintro _ _ ⟨b2, rfl, rfl⟩
  refine kPa rfl rfl (p_chg rfl (ch_allocA Tryz.zeroValue40 rfl) .free rfl rfl ?_)
  rintro _ _ ⟨b5, rfl, rfl⟩
  refine p_chg rfl (ch_allocA Tryz.zeroValue95 rfl) .free rfl rfl ?_
  rintro _ _ ⟨b6, rfl, rfl⟩
  refine kPa rfl rfl (p_nil (g_seq (g_region (kPv (ev_loadA Tryz.isAgg24 Tryz.sizeOf24 rfl rfl) rfl ?_))))
  refine p_callq rfl (en_f Tryz.call48 rfl) (make_okc _ _ x0 x1 x2 c hcm hx.1 hx.2.1 hx.2.2) .free rfl rfl ?_
  refine p_chg rfl (ch_allocA Tryz.zeroValue40 rfl) .free rfl rfl ?_
  rintro _ _ ⟨b8, rfl, rfl⟩
  refine p_chg0 rfl (ch_storeA (vs := _) Tryz.sizeOf40 rfl rfl rfl rfl rfl) .free rfl ?_
  rintro _ _ rfl
  refine p_nil (g_seq (g_region (kPv (ev_loadA Tryz.isAgg40 Tryz.sizeOf40 rfl rfl) rfl ?_)))
  refine p_call rfl (en_f Tryz.call49 rfl) (formatted_ok _ _ c hc none 0 [] (by decide) (fun _ h => absurd h (Nat.not_lt_zero _)) SlR.nil) .free rfl rfl ?_ ?_
  rotate_left
  · rintro _ _ ⟨⟩
  rintro _ _ ⟨bd, pa, N, s0, hN, hf, rfl, rfl⟩
  have hfm := fmt_of hc hN hf
  have hu0 := format_u64 (dev0_u64 pa N) hc hf
  refine kPm rfl rfl (kPv (ev_ext rfl rfl) rfl (kPv (ev_ext rfl rfl) rfl (kPa rfl rfl (kPa rfl rfl (p_nil (go_sb [10, 9, 8, 7, 6, 5, 4, 1] rfl (g_seq (g_seq (g_region (kPm rfl rfl (kPv (ev_not rfl) rfl ?_)))))))))))
  refine p_nil (g_iff rfl (rfl) (g_skip (g_seq (g_region (kPa rfl rfl (p_nil (g_seq (g_seq (g_region (kPm rfl rfl (kPv (ev_len rfl Tryz.runUnderlying210 ⟨_, rfl⟩ rfl) rfl ?_)))))))))))
  refine kPm rfl rfl (p_nil (g_block (g_loop (ι := Nat × Dev × Value × List Int) (fun i => i.1 ≤ hs.length ∧ U64 i.2.1 ∧ i.2.1.pow.lim < 0 ∧ i.2.1.n = N ∧ cell1 i.2.2.1 = true ∧ i.2.2.2.length ≤ i.1 ∧ fillN c hs s0 [] = fillN c (hs.drop i.1) i.2.1 i.2.2.2) (fun i => [(4, .pointer none), (5, ptr b5), (6, ptr b6), (7, .slice none 0 0), (8, ptr b8), (9, ptr bd), (11, i.2.2.1), (29, .slice q hs.length cap), (30, i64 hs.length), (31, i64 i.1)]) (fun i => DevA bd i.2.1 :: VecA 3 i64 0 (i.2.2.1, i.2.2.2) :: row b8 [i64 c.log, i64 c.roots, i64 c.space] 40 :: row b6 [i64 0, i64 0, .slice none 0 0] 95 :: row b5 [i64 0, i64 0, i64 0] 40 :: row b2 [u16 x0, u16 x1, u16 x2] 24 :: Fr) (fun i => hs.length - i.1) (0, s0, .slice none 0 0, []) ⟨Nat.zero_le _, hu0, hfm.lim, hfm.n, rfl, Nat.le_refl _, rfl⟩ (fun a w st => st.to ⟨rfl, rfl, rfl, rfl, rfl, rfl, rfl, rfl, rfl, rfl, trivial⟩ (fun hh => (vec_nil hh).front 1 rfl)) ?_)))
  rintro ⟨k, sL, ov, out⟩ ⟨hk1, huL, hlL, hnL, hov, hol, hinv⟩
  simp only at hk1 huL hlL hnL hov hol hinv ⊢
  refine g_seq (g_region (kPv (ev_cmp rfl rfl rfl) rfl (p_nil (g_seq ?_))))
  refine g_if rfl (fun h32 => ?_) (fun h32 => ?_)
  · have hk : k < hs.length := by simpa using h32
    have hst : fillN c (hs.drop k) sL out = (allocM devOp c (mkH hs[k]).1 (mkH hs[k]).2 sL ()).then fun x s' => fillN c (hs.drop (k + 1)) s' (if x.1.2 = 0 then out ++ [x.1.1] else out) := by
      rw [List.drop_eq_getElem_cons hk]
      rfl
    refine g_skip (g_seq (g_block (g_seq (g_region (go_slq ((((((hv.cons _).cons _).cons _).cons _).cons _).cons _) (by simp; omega) fun bV oV hq => ?_)))))
    subst hq
    refine kPv (ev_ia (m := oV + k * 2) Tryz.runUnderlying210 Tryz.sizeOf209 rfl rfl (by omega) (by omega) (by omega)) rfl ?_
    refine kPv (ev_loadN (i := k) (c := [u8 hs[k].1, u8 hs[k].2]) Tryz.isAgg209 Tryz.sizeOf209 ((((((hv.cons _).cons _).cons _).cons _).cons _).cons _) rfl (by simp [List.getElem?_eq_getElem hk])) rfl ?_
    refine p_chg rfl (ch_allocA Tryz.zeroValue209 rfl) .free rfl rfl ?_
    rintro _ _ ⟨b13, rfl, rfl⟩
    refine p_chg0 rfl (ch_storeA (vs := _) Tryz.sizeOf209 rfl rfl rfl rfl rfl) .free rfl ?_
    rintro _ _ rfl
    refine p_nil (go_sb [13, 31, 30, 29, 11, 9, 8, 7, 6, 5, 4] rfl (g_seq (g_drawm [6] Tryz.mixed (by kernel_rfl) (by kernel_rfl) ?_)))
    refine seg_q (kQm rfl rfl (kQv (ev_loadA Tryz.isAgg40 Tryz.sizeOf40 rfl rfl) rfl ?_))
    refine kQv (ev_loadA Tryz.isAgg209 Tryz.sizeOf209 rfl rfl) rfl ?_
    refine q_call rfl (en_f Tryz.call190 rfl) (hmake_ok _ _ (hs[k]) (hhs _ (List.getElem_mem hk)).1 (hhs _ (List.getElem_mem hk)).2) .free rfl ?_
    refine kQm rfl rfl (kQv (ev_mkf rfl rfl) rfl (q_nil (go_pull DevA bd ?_)))
    refine p_call rfl (en_f Tryz.call55 rfl) (allocD_ok _ _ bd c hc _ _ sL hlL huL) .free rfl rfl ?_ ?_
    rotate_left
    · rintro _ _ ⟨⟩
    rintro _ _ ⟨x1, s1, hm1, rfl, hl1, hn1, hu1, rfl⟩
    refine p_nil (seg_e (kQm rfl rfl (kQv (ev_ext rfl rfl) rfl (kQv (ev_ext rfl rfl) rfl (kQa rfl rfl (kQa rfl rfl (q_nil (go_sb [15, 14, 31, 30, 29, 11, 9, 8, 7, 6, 5, 4] rfl (g_seq (g_region (kPm rfl rfl ?_)))))))))))
    refine kPv (ev_cmp rfl rfl rfl) rfl (p_nil ?_)
    refine g_if rfl (fun h46 => ?_) (fun h46 => ?_)
    · have hk2 : x1.2 = 0 := by simpa using h46
      refine g_region (kPm rfl rfl (kPm rfl rfl (p_chg rfl (ch_bs1 Tryz.runUnderlying125 Tryz.sizeOf3 Tryz.zeroValue3 rfl rfl rfl) .free rfl rfl ?_)))
      rintro _ _ ⟨b49, rfl, rfl⟩
      refine go_front 3 rfl ?_
      simp only [List.eraseIdx_cons_succ, List.eraseIdx_cons_zero]
      refine p_chg rfl (ch_append_vec rfl rfl Tryz.runUnderlying125 Tryz.runUnderlying125 ⟨_, rfl⟩ Tryz.sizeOf3 Tryz.zeroValue3 rfl (fun _ => rfl) tb_3 rfl rfl (by omega)) .free rfl rfl ?_
      rintro ov2 _ ⟨hov2, rfl⟩
      refine kPa rfl rfl (p_nil (go_sb [11, 31, 30, 29, 9, 8, 7, 6, 5, 4] rfl (g_region ?_)))
      first | refine p_val rfl (ev_add rfl rfl (wr64 (by omega))) .free rfl rfl ?_ | refine p_val rfl (ev_add rfl rfl rfl) .free rfl rfl ?_
      refine kPm rfl rfl (p_nil ?_)
      exact fun a w st => ⟨(k + 1, s1, ov2, out ++ [x1.1]), ⟨by simp only; omega, hu1, hl1, hn1.trans hnL, hov2, by simp; omega, by rw [hinv, hst, hm1, then_ok, if_pos hk2]⟩, by simp only; omega, st.to ⟨rfl, rfl, rfl, rfl, rfl, rfl, rfl, rfl, rfl, rfl, trivial⟩ (fun hh => (((hh.front 2 rfl).tail.front 0 rfl).front 1 rfl))⟩
    · have hk2 : ¬ x1.2 = 0 := by simpa using h46
      refine g_skip (g_region ?_)
      first | refine p_val rfl (ev_add rfl rfl (wr64 (by omega))) .free rfl rfl ?_ | refine p_val rfl (ev_add rfl rfl rfl) .free rfl rfl ?_
      refine kPm rfl rfl (p_nil ?_)
      exact fun a w st => ⟨(k + 1, s1, ov, out), ⟨by simp only; omega, hu1, hl1, hn1.trans hnL, hov, by simp only; omega, by rw [hinv, hst, hm1, then_ok, if_neg hk2]⟩, by simp only; omega, st.to ⟨rfl, rfl, rfl, rfl, rfl, rfl, rfl, rfl, rfl, rfl, trivial⟩ (fun hh => (((hh.front 1 rfl).tail.front 1 rfl).front 1 rfl))⟩
  · have hk : ¬ k < hs.length := by simpa using h32
    refine g_exit (g_seq (g_region (kPm rfl rfl (kPv (ev_loadA Tryz.isAgg40 Tryz.sizeOf40 rfl rfl) rfl ?_))))
    refine go_pull DevA bd ?_
    refine p_call rfl (en_f Tryz.call111 rfl) (rread_ok _ _ _ _ c hc huL) .free rfl rfl ?_ ?_
    rotate_left
    · rintro _ _ ⟨⟩
    rintro _ _ ⟨sv, hsv, rfl, rfl⟩
    refine kPm rfl rfl (kPv (ev_ext rfl rfl) rfl (kPv (ev_ext rfl rfl) rfl (p_chg rfl (ch_allocA Tryz.zeroValue95 rfl) .free rfl rfl ?_)))
    rintro _ _ ⟨b16, rfl, rfl⟩
    refine p_chg0 rfl (ch_storeA (vs := [i64 (sL.block c).1.act, i64 (sL.block c).1.used, sv]) Tryz.sizeOf95 rfl rfl rfl (all3 hsv) rfl) .free rfl ?_
    rintro _ _ rfl
    refine go_conv (H' := row b16 [i64 (sL.block c).1.act, i64 (sL.block c).1.used, sv] 95 :: _) (fun w hh => hh) (kPa rfl rfl (p_nil (go_sb [16, 11, 9, 8, 7, 6, 5, 4] rfl (g_seq (g_drawv [0, 1, 2, 3, 4, 5, 6, 7] [5, 6] [2, 3] [5, 6] [row b16 [i64 (sL.block c).1.act, i64 (sL.block c).1.used, sv] 95] Tryz.mixed (by kernel_rfl) ?_)))))
    refine v_val rfl rfl rfl (ev_move rfl) .free rfl (v_val rfl rfl rfl (ev_loadA Tryz.isAgg40 Tryz.sizeOf40 rfl rfl) .free rfl ?_)
    refine v_hoist rfl rfl rfl (ev_loadA Tryz.isAgg95 Tryz.sizeOf95 rfl rfl) .free rfl ?_
    refine v_hoist rfl rfl rfl (ev_move rfl) .free rfl (v_val rfl rfl rfl (ev_assign rfl) .free rfl (v_mark rfl rfl (p_chg0 rfl (ch_storeA (vs := _) Tryz.sizeOf40 rfl rfl rfl rfl rfl) .free rfl ?_)))
    rintro _ _ rfl
    refine p_nil (v_on (v_mark rfl rfl (p_chg0 rfl (ch_storeA (vs := [i64 (sL.block c).1.act, i64 (sL.block c).1.used, sv]) Tryz.sizeOf95 rfl rfl rfl (all3 hsv) rfl) .free rfl ?_)))
    rintro _ _ rfl
    refine p_nil (v_on (v_val rfl rfl rfl (ev_assign rfl) .free rfl (v_nil (go_sb [7, 4, 6, 5] rfl (g_ret ?_)))))
    exact ret_4 Tryz.results181 (.tmp rfl) (.cellA rfl Tryz.isAgg40 Tryz.sizeOf40 rfl rfl) (.cellA rfl Tryz.isAgg95 Tryz.sizeOf95 rfl rfl) (.tmp rfl) (fun w hh => ⟨_, ⟨bd, pa, N, s0, sL, out, ov, sv, hfm, hN, ⟨hu0, hf⟩, by rw [hinv, List.drop_eq_nil_of_le (by omega)]; rfl, huL, hlL, hnL, hov, hsv, rfl, rfl⟩, ((((((((hh.front 7 rfl).front 7 rfl).front 7 rfl).front 7 rfl).front 4 rfl).tail.tail.tail.tail.tail.front 2 rfl).front 2 rfl).front 2 rfl)⟩)
end Go.Proofs.YtlcibdhmgclfjaaGreat
namespace Go.Proofs.YtlcibdhmgclfjaaGreat
open Go
theorem fillM_res {ε : Type} {op : Int → Int → Dev → ε → Out (Int × ε)} {a h : Int} : ∀ (f : Nat) (i : Int) (s s' : Dev) (e e' : ε) (x : Int × Int), fillM op a h f i s e = .ok (x, e') s' → x.2 = 0 → x.1 = a
  | 0, _, s, s', e, e', x, hm, hx => by cases hm; rfl
  | f + 1, i, s, s', e, e', x, hm, hx => by
    unfold fillM at hm
    obtain ⟨y, s1, e1, hm⟩ := then_inv hm
    split at hm
    · cases hm; rename_i hne; exact absurd hx hne
    · exact fillM_res f _ s1 s' _ e' x hm hx
theorem allocM_res {ε : Type} {op : Int → Int → Dev → ε → Out (Int × ε)} {c : Cfg} {w r : Int} {s s' : Dev} {e e' : ε} {x : Int × Int} (hm : allocM op c w r s e = .ok (x, e') s') (hx : x.2 = 0) : x.1 = (s.block c).1.place c (s.block c).1.used := by
  unfold allocM at hm
  split at hm
  · rename_i h; cases hm; exact absurd hx h
  split at hm
  · rename_i h; cases hm; exact absurd hx h
  split at hm
  · cases hm; exact absurd hx (by decide)
  obtain ⟨y, s1, e1, hm⟩ := then_inv hm
  split at hm
  · rename_i h; cases hm; exact absurd hx h
  · exact fillM_res _ _ _ _ _ _ _ hm hx
theorem fillM_keeps {ε : Type} {op : Int → Int → Dev → ε → Out (Int × ε)} {ok : Dev → ε → Prop} (K : ∀ i v s e a e' s', ok s e → 0 ≤ v ∧ v < 18446744073709551616 → op i v s e = .ok (a, e') s' → ok s' e') {a h : Int} (hh : 0 ≤ h ∧ h < 18446744073709551616) : ∀ (f : Nat) (i : Int) (s s' : Dev) (e e' : ε) (x : Int × Int), ok s e → fillM op a h f i s e = .ok (x, e') s' → ok s' e'
  | 0, _, s, s', e, e', x, h0, hm => by cases hm; exact h0
  | f + 1, i, s, s', e, e', x, h0, hm => by
    unfold fillM at hm
    obtain ⟨⟨y, e1⟩, s1, h1, hm⟩ := then_inv hm
    have h2 := K _ _ _ _ _ _ _ h0 (by split <;> first | exact hh | decide) h1
    split at hm
    · cases hm; exact h2
    · exact fillM_keeps K hh f _ s1 s' _ e' x h2 hm
theorem allocM_keeps {ε : Type} {op : Int → Int → Dev → ε → Out (Int × ε)} {ok : Dev → ε → Prop} (K : ∀ i v s e a e' s', ok s e → 0 ≤ v ∧ v < 18446744073709551616 → op i v s e = .ok (a, e') s' → ok s' e') {c : Cfg} (hc : CfgW c) {w r : Int} {s s' : Dev} {e e' : ε} {x : Int × Int} (hb : BlkW c (s.block c).1) (h0 : ok s e) (hm : allocM op c w r s e = .ok (x, e') s') : ok s' e' := by
  have h1 := hb.used
  have h2 := hc.s2
  unfold allocM at hm
  split at hm
  · cases hm; exact h0
  rename_i hk
  have hw := chkH_b (w := w) (r := r) (by omega)
  split at hm
  · cases hm; exact h0
  split at hm
  · cases hm; exact h0
  obtain ⟨⟨y, e1⟩, s1, h3, hm⟩ := then_inv hm
  have h4 := K _ _ _ _ _ _ _ h0 ⟨by omega, by omega⟩ h3
  split at hm
  · cases hm; exact h4
  · exact fillM_keeps K (packI_b w r) _ _ _ _ _ _ _ h4 hm
theorem devOp_keeps : ∀ (i v : Int) (s : Dev) (e : Unit) (a : Int) (e' : Unit) (s' : Dev), U64 s → 0 ≤ v ∧ v < 18446744073709551616 → devOp i v s e = .ok (a, e') s' → U64 s' := fun i v s e a e' s' h hv hm => by
  obtain ⟨_, s1, h1, hm⟩ := then_inv hm
  cases hm; exact (store_u64 h hv h1).1
theorem place_b {c : Cfg} (hc : CfgW c) {b : Blk} (hb : BlkW c b) {i : Int} (hi : 0 ≤ i ∧ i ≤ c.space) : 0 ≤ b.place c i ∧ b.place c i ≤ 20000 := by
  have h1 := frm_b hc (k := b.act) (by have := hb.act; omega)
  have h2 := hb.act
  unfold Blk.place
  rcases (by omega : b.act = 0 ∨ b.act = 1) with e | e <;> (rw [e] at h1 ⊢; omega)
theorem fillN_b {c : Cfg} (hc : CfgW c) : ∀ (hs : List (Int × Int)) (s s' : Dev) (acc out : List Int), U64 s → fillN c hs s acc = .ok out s' → (∀ a ∈ acc, 0 ≤ a ∧ a ≤ 20000) → ∀ a ∈ out, 0 ≤ a ∧ a ≤ 20000
  | [], s, s', acc, out, _, hm, h => by cases hm; exact h
  | t :: hs, s, s', acc, out, hu, hm, h => by
    unfold fillN at hm
    obtain ⟨⟨x, e'⟩, s1, e1, hm⟩ := then_inv hm
    have hb := block_w (s := s) hc hu
    refine fillN_b hc hs s1 s' _ out (allocM_keeps (ok := fun s _ => U64 s) devOp_keeps hc hb hu e1) hm fun a ha => ?_
    split at ha
    · rename_i hx
      rcases List.mem_append.1 ha with ha | ha
      · exact h a ha
      · rw [List.mem_singleton.1 ha, allocM_res e1 hx]
        exact place_b hc hb hb.used
    · exact h a ha
theorem objOf_w {s : Dev} {c : Cfg} (hc : CfgW c) {b : Blk} (hb : BlkW c b) {a : Int} (h : (s.objOf c b a).2 = 0) : ObjW (s.objOf c b a).1 := by
  unfold Dev.objOf at h ⊢
  split at h
  · cases h
  split at h
  · cases h
  rename_i h1 h2
  rw [if_neg h1, if_neg h2]
  have h3 := unp_b (s.load a)
  have h4 := bhas_b hc hb (w := a) (by cases hh : b.has c a with
    | true => rfl
    | false => exact absurd (.inr hh) h1)
  exact ⟨⟨h3.1, h3.2.1⟩, ⟨h3.2.2.1, h3.2.2.2⟩, ⟨by simp only; omega, by simp only; omega⟩⟩
theorem good_set {o : Obj3} {i v : Int} {r : Bool} {s : Dev} (h1 : s.pow.lim < 0) : Good (setM devOp o i r v s ()) (fun _ => True) s.n := by
  unfold setM
  split
  · exact ⟨_, _, rfl, trivial, h1, rfl⟩
  · exact good_op h1
theorem opointD_ok (B : World) (Fr : List HP) (bd : Nat) (o : Obj3) (ho : ObjW o) (i v : Int) (hv : 0 ≤ v ∧ v ≤ 9223372036854775807) (s : Dev) (hl : s.pow.lim < 0) (hu : U64 s) :
    ∀ w_, Holds B (DevA bd s :: Fr) w_ → Calls Tryz.prog 77 [objV o, i64 i, i64 v, .func (.func 120) [ptr bd].toArray #[]].toArray w_ (Ret B (fun rv H' => ∃ x s', setM devOp o i true v s () = .ok (x, ()) s' ∧ rv = i64 x ∧ s'.pow.lim < 0 ∧ s'.n = s.n ∧ U64 s' ∧ H' = DevA bd s' :: Fr) (fun _ _ => False)) := fun w_ hh => by
  obtain ⟨y, s2, hg, _, hg2, hg3⟩ := good_set (o := o) (i := i) (v := v) (r := true) hl
  refine (opoint_ok B Fr _ [ptr bd] bd 0 Unit (fun _ _ => pr True) devOp _ (storeD B bd 0) o ho i v hv s () hu w_ ((hh.unpr (p := True) trivial).back 1 (by simp))).mono fun en w' h => ?_
  cases en with
  | returned rv =>
    obtain ⟨H, ⟨x, e', s', hm, rfl, hok, rfl⟩, hh⟩ := h
    obtain ⟨rfl, rfl⟩ : y = (x, e') ∧ s2 = s' := by rw [hg] at hm; cases hm; exact ⟨rfl, rfl⟩
    exact ⟨_, ⟨x, s2, hm, rfl, hg2, hg3, hok, rfl⟩, (hh.front 1 rfl).tail⟩
  | panicked c =>
    obtain ⟨H, ⟨s', hm, _⟩, _⟩ := h
    rw [hg] at hm; cases hm
  | outgrown => exact h
theorem fillN_len {c : Cfg} : ∀ {hs : List (Int × Int)} {s s' : Dev} {acc out : List Int}, fillN c hs s acc = .ok out s' → out.length ≤ acc.length + hs.length
  | [], s, s', acc, out, hm => by cases hm; exact Nat.le_add_right _ _
  | t :: hs, s, s', acc, out, hm => by
    unfold fillN at hm
    obtain ⟨⟨x, e'⟩, s1, e1, hm⟩ := then_inv hm
    have := fillN_len hm
    split at this
    · simp at this ⊢; omega
    · simp at this ⊢; omega
theorem nstoreL_ok (B : World) (Fr : List HP) (b : Nat) (s : Dev) (i v : Int) (hl : s.pow.lim < 0) (hu : U64 s) (hv : 0 ≤ v ∧ v < 18446744073709551616) :
    ∀ w, Holds B (DevA b s :: Fr) w → Calls Tryz.prog 120 [ptr b, i64 i, w64 v].toArray w (Ret B (fun rv H' => ∃ x s', s.store i v = .ok x s' ∧ rv = i64 x ∧ s'.pow.lim < 0 ∧ s'.n = s.n ∧ U64 s' ∧ H' = DevA b s' :: Fr) (fun _ _ => False)) := fun w hh => by
  obtain ⟨y, s2, hg, _, hg2, hg3⟩ := good_store (i := i) (v := v) hl
  refine (nstore_ok B Fr b s i v w hh).mono fun en w' h => ?_
  cases en with
  | returned rv =>
    obtain ⟨H, ⟨s', ⟨a, hm, rfl⟩, rfl⟩, hh⟩ := h
    obtain ⟨rfl, rfl⟩ : y = a ∧ s2 = s' := by rw [hg] at hm; cases hm; exact ⟨rfl, rfl⟩
    exact ⟨_, ⟨y, s2, hg, rfl, hg2, hg3, (store_u64 hu hv hg).1, rfl⟩, hh⟩
  | panicked c =>
    obtain ⟨H, ⟨s', ⟨hm, _⟩, _⟩, _⟩ := h
    rw [hg] at hm; cases hm
  | outgrown => exact h
theorem go_vecq {B : World} {n : Nat} {D : List Deferred} {σ : Env} {Fr : List HP} {K : Act → World → Prop} {T : TypeId} {enc : Int → Value} {sv : Value} {xs : List Int} (h : ∀ q cap, sv = .slice q xs.length cap → (∀ i, i < xs.length → ∃ b off, q = some ⟨b, off, none⟩) → GO B n D σ (VecA T enc 0 (sv, xs) :: Fr) K) : GO B n D σ (VecA T enc 0 (sv, xs) :: Fr) K := fun a w st => by
  rcases holds_vec st.holds with ⟨e1, e2, _⟩ | ⟨bd, pre, rest, k, _, e, _⟩
  · exact h none 0 (by rw [e2, e1]; rfl) (fun i hi => by rw [e1] at hi; exact absurd hi (Nat.not_lt_zero _)) a w st
  · exact h _ _ e (fun _ _ => ⟨_, _, rfl⟩) a w st
def pickL (l out : List Int) (sp : Int) (k : Nat) : Int :=
  if l.length ≤ k ∨ out.length = 0 ∨ l.getD k 0 % 5 = 0 then 0
  else if 0 < sp ∧ l.getD k 0 % sp = 1 then out.getD (l.getD k 0 % out.length).toNat 0 + 1 else out.getD (l.getD k 0 % out.length).toNat 0
theorem pickL_b {l out : List Int} {sp : Int} {k : Nat} (hob : ∀ x ∈ out, 0 ≤ x ∧ x ≤ 20000) : 0 ≤ pickL l out sp k ∧ pickL l out sp k ≤ 20001 := by
  have h : ∀ j, 0 ≤ out.getD j 0 ∧ out.getD j 0 ≤ 20000 := fun j => by
    rw [List.getD_eq_getElem?_getD]
    by_cases hj : j < out.length
    · rw [List.getElem?_eq_getElem hj]; exact hob _ (List.getElem_mem hj)
    · rw [List.getElem?_eq_none (by omega)]; decide
  unfold pickL
  split
  · decide
  · have h1 := h (l.getD k 0 % (out.length : Int)).toNat
    split <;> omega
def linkRefs (f : Nat → Int) (o : Obj3) : Nat → Nat → Int → Dev → Out Nat
  | 0, n, _, s => .ok n s
  | k + 1, n, i, s => (setM devOp o i true (f n) s ()).then fun _ s' => linkRefs f o k (n + 1) (i + 1) s'
def linkObjs (c : Cfg) (b : Blk) (f : Nat → Int) : List Int → Nat → Dev → Out (Option Nat)
  | [], n, s => .ok (some n) s
  | a :: t, n, s => if (s.objOf c b a).2 ≠ 0 then .ok none s else (linkRefs f (s.objOf c b a).1 (s.objOf c b a).1.2.1.toNat n 0 s).then fun n' s' => linkObjs c b f t n' s'
theorem linkObjs_cons (c : Cfg) (b : Blk) (f : Nat → Int) (a : Int) (t : List Int) (n : Nat) (s : Dev) : linkObjs c b f (a :: t) n s = if (s.objOf c b a).2 ≠ 0 then .ok none s else (linkRefs f (s.objOf c b a).1 (s.objOf c b a).1.2.1.toNat n 0 s).then fun n' s' => linkObjs c b f t n' s' := rfl
def linkRoots (c : Cfg) (f : Nat → Int) : Nat → Nat → Int → Dev → Out Nat
  | 0, n, _, s => .ok n s
  | k + 1, n, i, s => (s.store (c.root i) (f n)).then fun _ s' => linkRoots c f k (n + 1) (i + 1) s'
theorem lclos_ok (B : World) (Fr : List HP) (b0 b1 b2 b3 : Nat) (n : Nat) (ql qo : Option Addr) (cl co : Nat) (l out : List Int) (sp : Int) (hn : n ≤ 1000000000) (hl : SlR B Fr (.slice ql l.length cl) (l.map u16)) (ho : SlR B Fr (.slice qo out.length co) (out.map i64)) (hlb : ∀ x ∈ l, 0 ≤ x ∧ x < 65536) (hob : ∀ x ∈ out, 0 ≤ x ∧ x ≤ 20000) (hlen : l.length ≤ 1000000 ∧ out.length ≤ 1000000) (hsp : 0 ≤ sp ∧ sp < 256) (hql : ∀ i, i < l.length → ∃ b off, ql = some ⟨b, off, none⟩) (hqo : ∀ i, i < out.length → ∃ b off, qo = some ⟨b, off, none⟩) :
    ∀ w, Holds B (row b0 [i64 n] 3 :: row b1 [.slice ql l.length cl] 229 :: row b2 [.slice qo out.length co] 125 :: row b3 [u8 sp] 5 :: Fr) w → Calls Tryz.prog 182 [ptr b0, ptr b1, ptr b2, ptr b3].toArray w (Ret B (fun rv H' => rv = w64 (pickL l out sp n) ∧ H' = row b0 [i64 (n + 1 : Nat)] 3 :: row b1 [.slice ql l.length cl] 229 :: row b2 [.slice qo out.length co] 125 :: row b3 [u8 sp] 5 :: Fr) (fun _ _ => False)) := by
  refine fn_enter Tryz.func182 rfl Tryz.ntmps182 rfl (g_seq (g_region (kPa rfl rfl (p_nil (g_seq (g_seq (g_region (kPv (ev_load Tryz.isAgg3 rfl rfl) rfl ?_))))))))
  first | refine p_val rfl (ev_add rfl rfl (wr64 (by omega))) .free rfl rfl ?_ | refine p_val rfl (ev_add rfl rfl rfl) .free rfl rfl ?_
  refine p_chg0 rfl (ch_store Tryz.sizeOf3 rfl rfl rfl rfl) .free rfl ?_
  rintro _ _ rfl
  refine p_nil (g_seq (g_region (kPv (ev_load Tryz.isAgg3 rfl rfl) rfl (kPv (ev_load Tryz.isAgg229 rfl rfl) rfl (kPv (ev_len rfl Tryz.runUnderlying229 ⟨_, rfl⟩ rfl) rfl (kPv (ev_cmp rfl rfl rfl) rfl (kPm rfl rfl ?_)))))))
  apply p_or (tp := 16) (t := 12) (σ1 := [(12, _), (4, _), (0, _), (1, _), (2, _), (3, _)]) 4 rfl (sub_r rfl)
  · intro hg1
    refine p_val rfl (ev_load Tryz.isAgg125 rfl rfl) (.on rfl rfl (beq_eq hg1)) rfl rfl (p_val rfl (ev_len rfl Tryz.runUnderlying125 ⟨_, rfl⟩ rfl) (.on rfl rfl (beq_eq hg1)) rfl rfl (p_val rfl (ev_cmp rfl rfl rfl) (.on rfl rfl (beq_eq hg1)) rfl rfl (kPv (ev_pick_f rfl hg1 rfl) rfl ?_)))
    exact p_seg rfl (sub_r rfl) (or_f hg1)
  · intro hg1
    refine p_skip rfl (.on rfl rfl (beq_ne hg1)) rfl (p_skip rfl (.on rfl rfl (beq_ne hg1)) rfl (p_skip rfl (.on rfl rfl (beq_ne hg1)) rfl (kPv (ev_pick_t rfl hg1 rfl) rfl ?_)))
    exact p_seg rfl (sub_r rfl) (or_t hg1)
  refine kPm rfl rfl ?_
  apply p_or (tp := 25) (t := 17) (σ1 := [(17, _), (4, _), (0, _), (1, _), (2, _), (3, _)]) 8 rfl (sub_r rfl)
  · intro hg2
    refine p_val rfl (ev_load Tryz.isAgg229 rfl rfl) (.on rfl rfl (beq_eq hg2)) rfl rfl (p_val rfl (ev_load Tryz.isAgg3 rfl rfl) (.on rfl rfl (beq_eq hg2)) rfl rfl ?_)
    first | refine p_val rfl (ev_sub rfl rfl (wr64 (by omega))) (.on rfl rfl (beq_eq hg2)) rfl rfl ?_ | refine p_val rfl (ev_sub rfl rfl rfl) (.on rfl rfl (beq_eq hg2)) rfl rfl ?_
    have hnl : n < l.length := by simp at hg2; omega
    obtain ⟨bL, oL, rfl⟩ := hql n hnl
    have hn1 : ((n : Int) + 1 - 1).toNat = n := by omega
    have hlx := hlb (l.getD n 0) (by rw [List.getD_eq_getElem?_getD, List.getElem?_eq_getElem hnl]; exact List.getElem_mem hnl)
    refine p_val rfl (ev_iaS Tryz.runUnderlying229 Tryz.sizeOf22 rfl rfl (by omega) (by omega)) (.on rfl rfl (beq_eq hg2)) rfl rfl (p_val rfl (ev_loadS (v := u16 (l.getD n 0)) Tryz.isAgg22 ((((hl.cons _).cons _).cons _).cons _) rfl (by rw [hn1]; simp [hnl])) (.on rfl rfl (beq_eq hg2)) rfl rfl (p_val rfl (ev_rem (c := l.getD n 0 % 5) rfl rfl (by decide) (rem_e 5 (by omega))) (.on rfl rfl (beq_eq hg2)) rfl rfl (p_val rfl (ev_cmp rfl rfl rfl) (.on rfl rfl (beq_eq hg2)) rfl rfl (kPv (ev_pick_f rfl hg2 rfl) rfl ?_))))
    exact p_seg rfl (sub_r rfl) (or_f hg2)
  · intro hg2
    refine p_skip rfl (.on rfl rfl (beq_ne hg2)) rfl (p_skip rfl (.on rfl rfl (beq_ne hg2)) rfl (p_skip rfl (.on rfl rfl (beq_ne hg2)) rfl (p_skip rfl (.on rfl rfl (beq_ne hg2)) rfl (p_skip rfl (.on rfl rfl (beq_ne hg2)) rfl (p_skip rfl (.on rfl rfl (beq_ne hg2)) rfl (p_skip rfl (.on rfl rfl (beq_ne hg2)) rfl (kPv (ev_pick_t rfl hg2 rfl) rfl ?_)))))))
    exact p_seg rfl (sub_r rfl) (or_t hg2)
  refine p_nil ?_
  refine g_if rfl (fun h25 => ?_) (fun h25 => ?_)
  · have hres : pickL l out sp n = 0 := by
      unfold pickL
      rw [if_pos (by simp [-List.length_eq_zero_iff] at h25 ⊢; omega)]
    refine g_seq (g_region (kPa rfl rfl (p_nil (g_ret ?_))))
    exact ret_tmp Tryz.results182 rfl (fun w hw => ⟨_, ⟨by rw [hres], rfl⟩, hw⟩)
  · have hcnd : n < l.length ∧ out.length ≠ 0 ∧ l.getD n 0 % 5 ≠ 0 := by simp [-List.length_eq_zero_iff] at h25 ⊢; omega
    have hnl := hcnd.1
    have hlx := hlb (l.getD n 0) (by rw [List.getD_eq_getElem?_getD, List.getElem?_eq_getElem hnl]; exact List.getElem_mem hnl)
    have hn1 : ((n : Int) + 1 - 1).toNat = n := by omega
    obtain ⟨bL, oL, rfl⟩ := hql n hnl
    have hop : (0 : Int) < out.length := by omega
    obtain ⟨j, hj0⟩ : ∃ j : Nat, (j : Int) = l.getD n 0 % (out.length : Int) := ⟨(l.getD n 0 % (out.length : Int)).toNat, by rw [Int.toNat_of_nonneg (Int.emod_nonneg _ (by omega))]⟩
    have hj : j < out.length := by have := Int.emod_lt_of_pos (l.getD n 0) hop; omega
    have hjm : (l.getD n 0).tmod (out.length : Int) = j := by rw [rem_e _ (by omega)]; omega
    have hox := hob (out.getD j 0) (by rw [List.getD_eq_getElem?_getD, List.getElem?_eq_getElem hj]; exact List.getElem_mem hj)
    obtain ⟨bO, oO, rfl⟩ := hqo j hj
    have hjt : (l.getD n 0 % (out.length : Int)).toNat = j := by omega
    have hcnd2 : ¬(l.length ≤ n ∨ out.length = 0 ∨ l.getD n 0 % 5 = 0) := by omega
    refine g_skip (g_seq (g_draw Tryz.mixed (by kernel_rfl) (by kernel_rfl) ?_))
    refine kQv (ev_load Tryz.isAgg125 rfl rfl) rfl (kQv (ev_load Tryz.isAgg229 rfl rfl) rfl (kQv (ev_load Tryz.isAgg3 rfl rfl) rfl ?_))
    first | refine q_val rfl (ev_sub rfl rfl (wr64 (by omega))) .free rfl ?_ | refine q_val rfl (ev_sub rfl rfl rfl) .free rfl ?_
    refine kQv (ev_iaS Tryz.runUnderlying229 Tryz.sizeOf22 rfl rfl (by omega) (by omega)) rfl (kQv (ev_loadS (v := u16 (l.getD n 0)) Tryz.isAgg22 ((((hl.cons _).cons _).cons _).cons _) rfl (by rw [hn1]; simp [hnl])) rfl ?_)
    first | refine q_val rfl (ev_conv Tryz.runUnderlying22 Tryz.runUnderlying3 rfl (wr64 (by omega))) .free rfl ?_ | refine q_val rfl (ev_conv Tryz.runUnderlying22 Tryz.runUnderlying3 rfl rfl) .free rfl ?_
    refine kQv (ev_load Tryz.isAgg125 rfl rfl) rfl (kQv (ev_len rfl Tryz.runUnderlying125 ⟨_, rfl⟩ rfl) rfl (kQv (ev_rem (c := (j : Int)) rfl rfl (by omega) hjm) rfl (kQv (ev_iaS Tryz.runUnderlying125 Tryz.sizeOf3 rfl rfl (by omega) (by omega)) rfl (kQv (ev_loadS (v := i64 (out.getD j 0)) Tryz.isAgg3 ((((ho.cons _).cons _).cons _).cons _) rfl (by simp [hj])) rfl (kQa rfl rfl (q_nil (go_sb [5, 4, 0, 1, 3] rfl (g_seq (g_seq (g_draw Tryz.mixed (by kernel_rfl) (by kernel_rfl) ?_))))))))))
    refine kQv (ev_load Tryz.isAgg5 rfl rfl) rfl (kQv (ev_cmp rfl rfl rfl) rfl (kQm rfl rfl ?_))
    apply q_and (tp := 50) (t := 40) (σ1 := [(40, _), (5, _), (4, _)]) 10 rfl (sub_r rfl)
    · intro hg3
      refine q_val rfl (ev_load Tryz.isAgg229 rfl rfl) (.on rfl rfl (beq_eq hg3)) rfl (q_val rfl (ev_load Tryz.isAgg3 rfl rfl) (.on rfl rfl (beq_eq hg3)) rfl ?_)
      first | refine q_val rfl (ev_sub rfl rfl (wr64 (by omega))) (.on rfl rfl (beq_eq hg3)) rfl ?_ | refine q_val rfl (ev_sub rfl rfl rfl) (.on rfl rfl (beq_eq hg3)) rfl ?_
      refine q_val rfl (ev_iaS Tryz.runUnderlying229 Tryz.sizeOf22 rfl rfl (by omega) (by omega)) (.on rfl rfl (beq_eq hg3)) rfl (q_val rfl (ev_loadS (v := u16 (l.getD n 0)) Tryz.isAgg22 ((((hl.cons _).cons _).cons _).cons _) rfl (by rw [hn1]; simp [hnl])) (.on rfl rfl (beq_eq hg3)) rfl (q_val rfl (ev_load Tryz.isAgg5 rfl rfl) (.on rfl rfl (beq_eq hg3)) rfl (q_val rfl (ev_conv Tryz.runUnderlying5 Tryz.runUnderlying22 rfl (show IntKind.u16.wrap sp = sp by simp [IntKind.wrap, IntKind.bits, IntKind.signed]; omega)) (.on rfl rfl (beq_eq hg3)) rfl ?_)))
      have hsp0 : 0 < sp := by simpa using hg3
      refine q_val rfl (ev_rem (c := l.getD n 0 % sp) rfl rfl (by omega) (rem_e _ (by omega))) (.on rfl rfl (beq_eq hg3)) rfl (q_val rfl (ev_cmp rfl rfl rfl) (.on rfl rfl (beq_eq hg3)) rfl (kQv (ev_pick_t rfl hg3 rfl) rfl ?_))
      exact q_seg rfl (sub_r rfl) (and_t hg3)
    · intro hg3
      refine q_skip rfl (.on rfl rfl (beq_ne hg3)) rfl (q_skip rfl (.on rfl rfl (beq_ne hg3)) rfl (q_skip rfl (.on rfl rfl (beq_ne hg3)) rfl (q_skip rfl (.on rfl rfl (beq_ne hg3)) rfl (q_skip rfl (.on rfl rfl (beq_ne hg3)) rfl (q_skip rfl (.on rfl rfl (beq_ne hg3)) rfl (q_skip rfl (.on rfl rfl (beq_ne hg3)) rfl (q_skip rfl (.on rfl rfl (beq_ne hg3)) rfl (q_skip rfl (.on rfl rfl (beq_ne hg3)) rfl (kQv (ev_pick_f rfl hg3 rfl) rfl ?_)))))))))
      exact q_seg rfl (sub_r rfl) (and_f hg3)
    refine q_nil ?_
    refine g_if rfl (fun h50 => ?_) (fun h50 => ?_)
    · have hk : 0 < sp ∧ l.getD n 0 % sp = 1 := by simpa using h50
      have hres : pickL l out sp n = out.getD j 0 + 1 := by unfold pickL; rw [if_neg hcnd2, if_pos hk, hjt]
      refine g_region (kPm rfl rfl ?_)
      first | refine p_val rfl (ev_add rfl rfl (wr64 (by omega))) .free rfl rfl ?_ | refine p_val rfl (ev_add rfl rfl rfl) .free rfl rfl ?_
      refine kPa rfl rfl (p_nil (g_seq (g_region (kPm rfl rfl (kPv (ev_conv Tryz.runUnderlying3 Tryz.runUnderlying26 rfl (wru64 (by omega))) rfl (kPa rfl rfl (p_nil (go_sb [4] rfl (g_ret ?_)))))))))
      exact ret_tmp Tryz.results182 rfl (fun w hw => ⟨_, ⟨by rw [hres], rfl⟩, hw⟩)
    · have hk : ¬ (0 < sp ∧ l.getD n 0 % sp = 1) := by simpa using h50
      have hres : pickL l out sp n = out.getD j 0 := by unfold pickL; rw [if_neg hcnd2, if_neg hk, hjt]
      refine g_skip (g_seq (g_region (kPm rfl rfl (kPv (ev_conv Tryz.runUnderlying3 Tryz.runUnderlying26 rfl (wru64 (by omega))) rfl (kPa rfl rfl (p_nil (g_ret ?_)))))))
      exact ret_tmp Tryz.results182 rfl (fun w hw => ⟨_, ⟨by rw [hres], rfl⟩, hw⟩)
theorem linked_ok (B : World) (Fr : List HP) (x0 x1 x2 : Int) (hx : 0 ≤ x0 ∧ 0 ≤ x1 ∧ 0 ≤ x2) (c : Cfg) (hcm : c = mkC x0 x1 x2) (hs : List (Int × Int)) (hhs : ∀ h ∈ hs, (0 ≤ h.1 ∧ h.1 < 256) ∧ (0 ≤ h.2 ∧ h.2 < 256)) (hlen : hs.length ≤ 100000) (q : Option Addr) (cap : Nat) (hv : SlN B Fr (.slice q hs.length cap) 2 (hs.map fun h => [u8 h.1, u8 h.2])) (ql : Option Addr) (cl : Nat) (l : List Int) (hl : SlR B Fr (.slice ql l.length cl) (l.map u16)) (hlb : ∀ x ∈ l, 0 ≤ x ∧ x < 65536) (hll : l.length ≤ 1000000) (hql : ∀ i, i < l.length → ∃ b off, ql = some ⟨b, off, none⟩) (sp : Int) (hsp : 0 ≤ sp ∧ sp < 256) :
    ∀ w_, Holds B Fr w_ → Calls Tryz.prog 162 [.agg #[u16 x0, u16 x1, u16 x2], .slice q hs.length cap, .slice ql l.length cl, u8 sp].toArray w_ (Ret B (fun rv H' => ∃ (bd pa N : Nat) (s0 sF : Dev) (out : List Int), Fmt c N s0 ∧ (N : Int) = c.words ∧ (U64 s0 ∧ (dev0 pa [] N).format c = .ok 0 s0) ∧ fillN c hs s0 [] = .ok out sF ∧ ((∃ n1 n2 s1 s2 ov sv, linkObjs c (sF.block c).1 (pickL l out sp) out 0 sF = .ok (some n1) s1 ∧ linkRoots c (pickL l out sp) c.roots.toNat n1 0 s1 = .ok n2 s2 ∧ U64 s2 ∧ s2.pow.lim < 0 ∧ s2.n = N ∧ cell1 ov = true ∧ cell1 sv = true ∧ rv = .tuple #[ptr bd, cfgV c, blkV (s2.block c).1 sv, ov] ∧ H' = VecU 0 (sv, (s2.block c).1.rts) :: DevA bd s2 :: VecA 3 i64 0 (ov, out) :: Fr) ∨ (∃ s1, linkObjs c (sF.block c).1 (pickL l out sp) out 0 sF = .ok none s1 ∧ H' = Fr))) (fun _ _ => False)) := by
  refine fn_enter Tryz.func162 rfl Tryz.ntmps162 rfl ?_
  have hc : CfgW c := by rw [hcm]; exact mkC_w hx.1 hx.2.1 hx.2.2
  refine g_seq (g_region (p_chg rfl (ch_boxA rfl) .free rfl rfl ?_))
  rintro _ _ ⟨b4, rfl, rfl⟩
  refine p_chg rfl (ch_box1 rfl rfl) .free rfl rfl ?_
  rintro _ _ ⟨b6, rfl, rfl⟩
  refine p_chg rfl (ch_box1 rfl rfl) .free rfl rfl ?_
  rintro _ _ ⟨b7, rfl, rfl⟩
  refine kPa rfl rfl (p_chg rfl (ch_allocA Tryz.zeroValue40 rfl) .free rfl rfl ?_)
  rintro _ _ ⟨b9, rfl, rfl⟩
  refine p_chg rfl (ch_allocA Tryz.zeroValue95 rfl) .free rfl rfl ?_
  rintro _ _ ⟨b10, rfl, rfl⟩
  refine kPa rfl rfl (p_nil (g_seq (g_region (kPv (ev_loadA Tryz.isAgg24 Tryz.sizeOf24 rfl rfl) rfl ?_))))
  refine kPm rfl rfl ?_
  refine p_call rfl (en_f Tryz.call181 rfl) (filled_ok _ _ x0 x1 x2 hx c hcm hs hhs hlen q cap ((((((hv.cons _).cons _).cons _).cons _).cons _))) .free rfl rfl ?_ ?_
  rotate_left
  · rintro _ _ ⟨⟩
  rintro _ _ ⟨bd, pa, N, s0, sF, out, ov, sv, hfm, hN, ⟨hus0, hf0⟩, hfill, huF, hlF, hnF, hov, hsv, rfl, rfl⟩
  refine kPm rfl rfl (kPv (ev_ext rfl rfl) rfl (kPv (ev_ext rfl rfl) rfl (kPv (ev_ext rfl rfl) rfl (kPv (ev_ext rfl rfl) rfl (p_chg rfl (ch_allocA Tryz.zeroValue40 rfl) .free rfl rfl ?_)))))
  rintro _ _ ⟨b13, rfl, rfl⟩
  refine p_chg rfl (ch_allocA Tryz.zeroValue95 rfl) .free rfl rfl ?_
  rintro _ _ ⟨b14, rfl, rfl⟩
  refine p_chg rfl (ch_alloc1 Tryz.zeroValue125 rfl) .free rfl rfl ?_
  rintro _ _ ⟨b15, rfl, rfl⟩
  refine kPa rfl rfl (p_chg0 rfl (ch_storeA (vs := _) Tryz.sizeOf40 rfl rfl rfl rfl rfl) .free rfl ?_)
  rintro _ _ rfl
  refine p_chg0 rfl (ch_storeA (vs := [i64 (sF.block c).1.act, i64 (sF.block c).1.used, sv]) Tryz.sizeOf95 rfl rfl rfl (all3 hsv) rfl) .free rfl ?_
  rintro _ _ rfl
  refine p_chg0 rfl (ch_store Tryz.sizeOf125 rfl rfl hov rfl) .free rfl ?_
  rintro _ _ rfl
  refine go_front 5 rfl ?_
  simp only [List.eraseIdx_cons_succ, List.eraseIdx_cons_zero]
  refine go_vecq fun qo co hqe hqo => ?_
  subst hqe
  have hbk := block_w (s := sF) hc huF
  have hob : ∀ x ∈ out, 0 ≤ x ∧ x ≤ 20000 := fillN_b hc hs s0 sF [] out hus0 hfill (fun _ h => by cases h)
  have hol : out.length ≤ hs.length := by have := fillN_len hfill; simpa using this
  have hr1 := hc.r1
  have hr2 := hc.r2
  refine p_nil (go_sb [12, 15, 14, 13, 11, 10, 9, 8, 7, 6] rfl (g_seq (g_seq (g_region (kPm rfl rfl (kPv (ev_eqp Tryz.runUnderlying28 rfl rfl rfl) rfl (p_nil (g_iff rfl (rfl) (g_skip (g_seq (g_region ?_)))))))))))
  refine p_chg rfl (ch_alloc1 Tryz.zeroValue3 rfl) .free rfl rfl ?_
  rintro _ _ ⟨b16, rfl, rfl⟩
  refine p_chg0 rfl (ch_store Tryz.sizeOf3 rfl rfl rfl rfl) .free rfl ?_
  rintro _ _ rfl
  refine p_nil (g_seq (g_region (kPv (ev_mkf rfl rfl) rfl (kPa rfl rfl (p_nil (g_seq (g_seq (g_region (kPv (ev_load Tryz.isAgg125 rfl rfl) rfl (kPv (ev_len rfl Tryz.runUnderlying125 ⟨_, rfl⟩ rfl) rfl (kPm rfl rfl ?_)))))))))))
  refine p_nil (g_block (g_loop (ι := Nat × Nat × Dev) (fun i => i.1 ≤ out.length ∧ i.2.1 ≤ 64 * i.1 ∧ U64 i.2.2 ∧ i.2.2.pow.lim < 0 ∧ i.2.2.n = N ∧ linkObjs c (sF.block c).1 (pickL l out sp) out 0 sF = linkObjs c (sF.block c).1 (pickL l out sp) (out.drop i.1) i.2.1 i.2.2) (fun i => [(8, .pointer none), (9, ptr b9), (10, ptr b10), (11, .slice none 0 0), (12, ptr bd), (13, ptr b13), (14, ptr b14), (15, ptr b15), (17, .func (.func 182) #[] #[ptr b16, ptr b6, ptr b15, ptr b7]), (37, .slice qo out.length co), (38, i64 out.length), (39, i64 i.1)]) (fun i => row b16 [i64 (i.2.1 : Nat)] 3 :: VecA 3 i64 0 (.slice qo out.length co, out) :: row b15 [.slice qo out.length co] 125 :: row b14 [i64 (sF.block c).1.act, i64 (sF.block c).1.used, sv] 95 :: row b13 [i64 c.log, i64 c.roots, i64 c.space] 40 :: VecU 0 (sv, (sF.block c).1.rts) :: DevA bd i.2.2 :: row b10 [i64 0, i64 0, .slice none 0 0] 95 :: row b9 [i64 0, i64 0, i64 0] 40 :: row b7 [u8 sp] 5 :: row b6 [.slice ql l.length cl] 229 :: row b4 [u16 x0, u16 x1, u16 x2] 24 :: Fr) (fun i => out.length - i.1) (0, 0, sF) ⟨Nat.zero_le _, Nat.zero_le _, huF, hlF, hnF, rfl⟩ (fun a w st => st.to ⟨rfl, rfl, rfl, rfl, rfl, rfl, rfl, rfl, rfl, rfl, rfl, rfl, trivial⟩ id) ?_))
  rintro ⟨k, n, sL⟩ ⟨hk1, hn1, huL, hlL, hnL, hinv⟩
  simp only at hk1 hn1 huL hlL hnL hinv ⊢
  refine g_seq (g_region (kPv (ev_cmp rfl rfl rfl) rfl (p_nil (g_seq ?_))))
  refine g_if rfl (fun h40 => ?_) (fun h40 => ?_)
  · have hk : k < out.length := by simpa using h40
    have hak := hob _ (List.getElem_mem hk)
    obtain ⟨bQ, oQ, rfl⟩ := hqo k hk
    refine g_skip (g_seq (g_block (g_seq (g_region (kPv (ev_iaS Tryz.runUnderlying125 Tryz.sizeOf3 rfl rfl (by omega) (by omega)) rfl ?_)))))
    refine kPv (ev_loadS (v := i64 out[k]) Tryz.isAgg3 (vec_slr 1 rfl) rfl (by rw [Int.toNat_natCast, List.getElem?_map, List.getElem?_eq_getElem hk]; rfl)) rfl ?_
    refine kPa rfl rfl (p_nil (go_sb [19, 39, 38, 37, 17, 12, 15, 14, 13, 11, 10, 9, 8] rfl (g_seq (g_region (kPm rfl rfl (kPv (ev_loadA Tryz.isAgg40 Tryz.sizeOf40 rfl rfl) rfl ?_))))))
    refine kPv (ev_loadA Tryz.isAgg95 Tryz.sizeOf95 rfl rfl) rfl ?_
    refine kPm rfl rfl (p_callq rfl (en_f Tryz.call122 rfl) (ro_at (q := DevA) (fun Fr => obj_ok _ Fr _ _ c hc _ _ hbk hsv out[k] (by omega))) .free rfl rfl ?_)
    refine kPm rfl rfl (kPv (ev_ext rfl rfl) rfl (kPv (ev_ext rfl rfl) rfl (p_chg rfl (ch_allocA Tryz.zeroValue105 rfl) .free rfl rfl ?_)))
    rintro _ _ ⟨b20, rfl, rfl⟩
    refine p_chg0 rfl (ch_storeA (vs := _) Tryz.sizeOf105 rfl rfl rfl rfl rfl) .free rfl ?_
    rintro _ _ rfl
    refine kPa rfl rfl (p_nil (go_sb [21, 20, 39, 38, 37, 17, 12, 15, 14, 13, 11, 10, 9, 8] rfl (g_seq (g_seq (g_region (kPm rfl rfl (kPv (ev_cmp rfl rfl rfl) rfl (p_nil ?_))))))))
    refine g_if rfl (fun h52 => ?_) (fun h52 => ?_)
    · have hk2 : (sL.objOf c (sF.block c).1 out[k]).2 ≠ 0 := by simpa using h52
      refine g_seq (g_drawv [0, 1, 2, 3, 4, 5] [3, 4] [1] [3] [row b14 [i64 (sF.block c).1.act, i64 (sF.block c).1.used, sv] 95] Tryz.mixed (by kernel_rfl) ?_)
      refine v_val rfl rfl rfl (ev_loadA Tryz.isAgg40 Tryz.sizeOf40 rfl rfl) .free rfl ?_
      refine v_hoist rfl rfl rfl (ev_loadA Tryz.isAgg95 Tryz.sizeOf95 rfl rfl) .free rfl ?_
      refine v_val rfl rfl rfl (ev_assign rfl) .free rfl (v_mark rfl rfl (p_chg0 rfl (ch_storeA (vs := _) Tryz.sizeOf40 rfl rfl rfl rfl rfl) .free rfl ?_))
      rintro _ _ rfl
      refine p_nil (v_on (v_mark rfl rfl (p_chg0 rfl (ch_storeA (vs := [i64 (sF.block c).1.act, i64 (sF.block c).1.used, sv]) Tryz.sizeOf95 rfl rfl rfl (all3 hsv) rfl) .free rfl ?_)))
      rintro _ _ rfl
      refine p_nil (v_off rfl (v_val rfl rfl rfl (ev_assign rfl) .free rfl (v_nil (g_ret ?_))))
      exact ret_4 Tryz.results162 (.tmp rfl) (.cellA rfl Tryz.isAgg40 Tryz.sizeOf40 rfl rfl) (.cellA rfl Tryz.isAgg95 Tryz.sizeOf95 rfl rfl) (.tmp rfl) (fun w_ hh => ⟨_, ⟨bd, pa, N, s0, sF, out, hfm, hN, ⟨hus0, hf0⟩, hfill, .inr ⟨sL, by rw [hinv, List.drop_eq_getElem_cons hk]; rw [linkObjs_cons, if_pos hk2], rfl⟩⟩, hh.tail.tail.tail.tail.tail.tail.tail.tail.tail.tail.tail.tail.tail⟩)
    · have hk2 : (sL.objOf c (sF.block c).1 out[k]).2 = 0 := by simpa using h52
      have ho := objOf_w hc hbk hk2
      have ho1 := ho.w
      have ho2 := ho.r
      have ho3 := ho.at_
      refine g_skip (g_seq (g_region (kPv (ev_fa (m := _) fa_105_0 rfl rfl) rfl (kPv (ev_fa (m := _) fa_38_1 rfl rfl) rfl (kPv (ev_load Tryz.isAgg3 rfl rfl) rfl (kPm rfl rfl (p_nil (g_block (g_loop (ι := Nat × Nat × Dev) (fun i => (i.1 : Int) ≤ (sL.objOf c (sF.block c).1 out[k]).1.2.1 ∧ i.2.1 = n + i.1 ∧ U64 i.2.2 ∧ i.2.2.pow.lim < 0 ∧ i.2.2.n = N ∧ linkRefs (pickL l out sp) (sL.objOf c (sF.block c).1 out[k]).1 (sL.objOf c (sF.block c).1 out[k]).1.2.1.toNat n 0 sL = linkRefs (pickL l out sp) (sL.objOf c (sF.block c).1 out[k]).1 ((sL.objOf c (sF.block c).1 out[k]).1.2.1.toNat - i.1) i.2.1 i.1 i.2.2) (fun i => [(8, .pointer none), (9, ptr b9), (10, ptr b10), (11, .slice none 0 0), (12, ptr bd), (13, ptr b13), (14, ptr b14), (15, ptr b15), (17, .func (.func 182) #[] #[ptr b16, ptr b6, ptr b15, ptr b7]), (37, .slice (some ⟨bQ, oQ, none⟩) out.length co), (38, i64 out.length), (39, i64 k), (20, ptr b20), (57, i64 (sL.objOf c (sF.block c).1 out[k]).1.2.1), (58, i64 i.1)]) (fun i => row b20 [i64 (sL.objOf c (sF.block c).1 out[k]).1.1, i64 (sL.objOf c (sF.block c).1 out[k]).1.2.1, i64 (sL.objOf c (sF.block c).1 out[k]).1.2.2] 105 :: row b16 [i64 (i.2.1 : Nat)] 3 :: VecA 3 i64 0 (.slice (some ⟨bQ, oQ, none⟩) out.length co, out) :: row b15 [.slice (some ⟨bQ, oQ, none⟩) out.length co] 125 :: row b14 [i64 (sF.block c).1.act, i64 (sF.block c).1.used, sv] 95 :: row b13 [i64 c.log, i64 c.roots, i64 c.space] 40 :: VecU 0 (sv, (sF.block c).1.rts) :: DevA bd i.2.2 :: row b10 [i64 0, i64 0, .slice none 0 0] 95 :: row b9 [i64 0, i64 0, i64 0] 40 :: row b7 [u8 sp] 5 :: row b6 [.slice ql l.length cl] 229 :: row b4 [u16 x0, u16 x1, u16 x2] 24 :: Fr) (fun i => (sL.objOf c (sF.block c).1 out[k]).1.2.1.toNat - i.1) (0, n, sL) ⟨by simp only; omega, rfl, huL, hlL, hnL, rfl⟩ (fun a w st => st.to ⟨rfl, rfl, rfl, rfl, rfl, rfl, rfl, rfl, rfl, rfl, rfl, rfl, rfl, rfl, rfl, trivial⟩ id) ?_)))))))))
      rintro ⟨j, nI, sI⟩ ⟨hj1, hnI, huI, hlI, hnI2, hinvI⟩
      simp only at hj1 hnI huI hlI hnI2 hinvI ⊢
      refine g_seq (g_region (kPv (ev_cmp rfl rfl rfl) rfl (p_nil (g_seq ?_))))
      refine g_if rfl (fun h59 => ?_) (fun h59 => ?_)
      · have hj : (j : Int) < (sL.objOf c (sF.block c).1 out[k]).1.2.1 := by simpa using h59
        refine g_skip (g_seq (g_block (g_seq (g_region (kPm rfl rfl (kPa rfl rfl (p_nil (go_sb [22, 58, 57, 20, 39, 38, 37, 17, 12, 15, 14, 13, 11, 10, 9, 8] rfl (g_drawv [0, 1, 2, 5, 6, 3, 4, 7] [3, 7] [0, 1, 5, 6] [3] [row b20 [i64 (sL.objOf c (sF.block c).1 out[k]).1.1, i64 (sL.objOf c (sF.block c).1 out[k]).1.2.1, i64 (sL.objOf c (sF.block c).1 out[k]).1.2.2] 105] Tryz.mixed (by kernel_rfl) ?_)))))))))
        refine v_hoist rfl rfl rfl (ev_loadA Tryz.isAgg105 Tryz.sizeOf105 rfl rfl) .free rfl ?_
        refine v_hoist rfl rfl rfl (ev_move rfl) .free rfl (v_val rfl rfl rfl (ev_move rfl) .free rfl (v_hoist rfl rfl rfl (ev_move rfl) .free rfl (v_hoist rfl rfl rfl (ev_mkf rfl rfl) .free rfl (v_mark rfl rfl (go_conv (H' := row b16 [i64 (nI : Nat)] 3 :: row b6 [.slice ql l.length cl] 229 :: row b15 [.slice (some ⟨bQ, oQ, none⟩) out.length co] 125 :: row b7 [u8 sp] 5 :: row b20 [i64 (sL.objOf c (sF.block c).1 out[k]).1.1, i64 (sL.objOf c (sF.block c).1 out[k]).1.2.1, i64 (sL.objOf c (sF.block c).1 out[k]).1.2.2] 105 :: VecA 3 i64 0 (.slice (some ⟨bQ, oQ, none⟩) out.length co, out) :: row b14 [i64 (sF.block c).1.act, i64 (sF.block c).1.used, sv] 95 :: row b13 [i64 c.log, i64 c.roots, i64 c.space] 40 :: VecU 0 (sv, (sF.block c).1.rts) :: DevA bd sI :: row b10 [i64 0, i64 0, .slice none 0 0] 95 :: row b9 [i64 0, i64 0, i64 0] 40 :: row b4 [u16 x0, u16 x1, u16 x2] 24 :: Fr) (fun w hh => (hh.pk [1, 10, 2, 8])) ?_)))))
        refine p_call rfl (en_c Tryz.call182 rfl rfl) (lclos_ok B _ b16 b6 b15 b7 nI ql (some ⟨bQ, oQ, none⟩) cl co l out sp (by omega) ((((((((((hl.cons _).cons _).cons _).cons _).cons _).cons _).cons _).cons _).cons _)) (vec_slr 1 rfl) hlb hob ⟨by omega, by omega⟩ hsp hql hqo) .free rfl rfl ?_ ?_
        rotate_left
        · rintro _ _ ⟨⟩
        rintro _ _ ⟨rfl, rfl⟩
        refine p_nil (v_on ?_)
        have hpk := pickL_b (l := l) (sp := sp) (k := nI) hob
        refine v_val rfl rfl rfl (ev_conv Tryz.runUnderlying26 Tryz.runUnderlying3 rfl (wr64 (by omega))) .free rfl (v_mark rfl rfl (go_pull DevA bd ?_))
        refine p_call rfl (en_f Tryz.call77 rfl) (opointD_ok _ _ bd (sL.objOf c (sF.block c).1 out[k]).1 ho _ ((pickL l out sp) nI) (by have := pickL_b (l := l) (sp := sp) (k := nI) hob; omega) sI hlI huI) .free rfl rfl ?_ ?_
        rotate_left
        · rintro _ _ ⟨⟩
        rintro _ _ ⟨x2, s2, hm2, rfl, hl2, hn2, hu2, rfl⟩
        refine p_nil (v_off rfl (v_nil (go_sb [58, 57, 20, 39, 38, 37, 17, 12, 15, 14, 13, 11, 10, 9, 8] rfl (g_region ?_))))
        first | refine p_val rfl (ev_add rfl rfl (wr64 (by omega))) .free rfl rfl ?_ | refine p_val rfl (ev_add rfl rfl rfl) .free rfl rfl ?_
        refine kPm rfl rfl (p_nil ?_)
        exact fun a w st => ⟨(j + 1, nI + 1, s2), ⟨by simp only; omega, by simp only; omega, hu2, hl2, hn2.trans hnI2, by
          rw [hinvI, show (sL.objOf c (sF.block c).1 out[k]).1.2.1.toNat - j = ((sL.objOf c (sF.block c).1 out[k]).1.2.1.toNat - (j + 1)) + 1 by omega]
          show (setM devOp (sL.objOf c (sF.block c).1 out[k]).1 j true ((pickL l out sp) nI) sI ()).then _ = _
          rw [hm2]
          push_cast
          rfl⟩, by simp only; omega, st.to ⟨rfl, rfl, rfl, rfl, rfl, rfl, rfl, rfl, rfl, rfl, rfl, rfl, rfl, rfl, rfl, trivial⟩ (fun hh => (hh.pk [5, 1, 4, 2, 3, 3, 3, 0, 2, 2, 1]))⟩
      · have hj : ¬ (j : Int) < (sL.objOf c (sF.block c).1 out[k]).1.2.1 := by simpa using h59
        refine g_exit (g_region ?_)
        first | refine p_val rfl (ev_add rfl rfl (wr64 (by omega))) .free rfl rfl ?_ | refine p_val rfl (ev_add rfl rfl rfl) .free rfl rfl ?_
        refine kPm rfl rfl (p_nil (go_sb [39, 38, 37, 17, 12, 15, 14, 13, 11, 10, 9, 8] rfl ?_))
        exact fun a w st => ⟨(k + 1, nI, sI), ⟨by simp only; omega, by simp only; omega, huI, hlI, hnI2, by
          rw [hinv, List.drop_eq_getElem_cons hk]
          rw [linkObjs_cons, if_neg (by omega), hinvI, show (sL.objOf c (sF.block c).1 out[k]).1.2.1.toNat - j = 0 by omega]
          rfl⟩, by simp only; omega, st.to ⟨rfl, rfl, rfl, rfl, rfl, rfl, rfl, rfl, rfl, rfl, rfl, rfl, trivial⟩ (fun hh => hh.tail)⟩
  · have hk : ¬ k < out.length := by simpa using h40
    refine g_exit (g_seq (g_seq (g_region (kPv (ev_fa (m := _) fa_40_1 rfl rfl) rfl (kPv (ev_load Tryz.isAgg3 rfl rfl) rfl (kPm rfl rfl (p_nil (go_sb [73, 72, 17, 12, 15, 14, 13, 11, 10, 9, 8] rfl (g_block (g_loop (ι := Nat × Nat × Dev) (fun i => (i.1 : Int) ≤ c.roots ∧ i.2.1 = n + i.1 ∧ U64 i.2.2 ∧ i.2.2.pow.lim < 0 ∧ i.2.2.n = N ∧ linkRoots c (pickL l out sp) c.roots.toNat n 0 sL = linkRoots c (pickL l out sp) (c.roots.toNat - i.1) i.2.1 i.1 i.2.2) (fun i => [(8, .pointer none), (9, ptr b9), (10, ptr b10), (11, .slice none 0 0), (12, ptr bd), (13, ptr b13), (14, ptr b14), (15, ptr b15), (17, .func (.func 182) #[] #[ptr b16, ptr b6, ptr b15, ptr b7]), (72, i64 c.roots), (73, i64 i.1)]) (fun i => row b16 [i64 (i.2.1 : Nat)] 3 :: VecA 3 i64 0 (.slice qo out.length co, out) :: row b15 [.slice qo out.length co] 125 :: row b14 [i64 (sF.block c).1.act, i64 (sF.block c).1.used, sv] 95 :: row b13 [i64 c.log, i64 c.roots, i64 c.space] 40 :: VecU 0 (sv, (sF.block c).1.rts) :: DevA bd i.2.2 :: row b10 [i64 0, i64 0, .slice none 0 0] 95 :: row b9 [i64 0, i64 0, i64 0] 40 :: row b7 [u8 sp] 5 :: row b6 [.slice ql l.length cl] 229 :: row b4 [u16 x0, u16 x1, u16 x2] 24 :: Fr) (fun i => c.roots.toNat - i.1) (0, n, sL) ⟨by simp only; omega, rfl, huL, hlL, hnL, rfl⟩ (fun a w st => st.to ⟨rfl, rfl, rfl, rfl, rfl, rfl, rfl, rfl, rfl, rfl, rfl, trivial⟩ id) ?_))))))))))
    rintro ⟨i, nJ, sJ⟩ ⟨hi1, hnJ, huJ, hlJ, hnJ2, hinvJ⟩
    simp only at hi1 hnJ huJ hlJ hnJ2 hinvJ ⊢
    refine g_seq (g_region (kPv (ev_cmp rfl rfl rfl) rfl (p_nil (g_seq ?_))))
    refine g_if rfl (fun h74 => ?_) (fun h74 => ?_)
    · have hi : (i : Int) < c.roots := by simpa using h74
      refine g_skip (g_seq (g_block (g_seq (g_region (kPm rfl rfl (kPa rfl rfl (p_nil (g_region (kPm rfl rfl (kPv (ev_loadA Tryz.isAgg40 Tryz.sizeOf40 rfl rfl) rfl ?_))))))))))
      refine kPm rfl rfl (p_callq rfl (en_f Tryz.call59 rfl) (root_ok _ _ c hc _ (by omega) (by omega)) .free rfl rfl ?_)
      refine kPm rfl rfl (go_conv (H' := row b16 [i64 (nJ : Nat)] 3 :: row b6 [.slice ql l.length cl] 229 :: row b15 [.slice qo out.length co] 125 :: row b7 [u8 sp] 5 :: VecA 3 i64 0 (.slice qo out.length co, out) :: row b14 [i64 (sF.block c).1.act, i64 (sF.block c).1.used, sv] 95 :: row b13 [i64 c.log, i64 c.roots, i64 c.space] 40 :: VecU 0 (sv, (sF.block c).1.rts) :: DevA bd sJ :: row b10 [i64 0, i64 0, .slice none 0 0] 95 :: row b9 [i64 0, i64 0, i64 0] 40 :: row b4 [u16 x0, u16 x1, u16 x2] 24 :: Fr) (fun w hh => (hh.pk [0, 9, 1, 7])) ?_)
      refine p_call rfl (en_c Tryz.call182 rfl rfl) (lclos_ok B _ b16 b6 b15 b7 nJ ql qo cl co l out sp (by omega) (((((((((hl.cons _).cons _).cons _).cons _).cons _).cons _).cons _).cons _)) (vec_slr 0 rfl) hlb hob ⟨by omega, by omega⟩ hsp hql hqo) .free rfl rfl ?_ ?_
      rotate_left
      · rintro _ _ ⟨⟩
      rintro _ _ ⟨rfl, rfl⟩
      refine go_pull DevA bd ?_
      refine p_call rfl (en_f Tryz.call120 rfl) (nstoreL_ok _ _ _ _ _ (pickL l out sp nJ) hlJ huJ (by have := pickL_b (l := l) (sp := sp) (k := nJ) hob; omega)) .free rfl rfl ?_ ?_
      rotate_left
      · rintro _ _ ⟨⟩
      rintro _ _ ⟨x3, s3, hm3, rfl, hl3, hn3, hu3, rfl⟩
      refine p_nil (go_sb [73, 72, 17, 12, 15, 14, 13, 11, 10, 9, 8] rfl (g_region ?_))
      first | refine p_val rfl (ev_add rfl rfl (wr64 (by omega))) .free rfl rfl ?_ | refine p_val rfl (ev_add rfl rfl rfl) .free rfl rfl ?_
      refine kPm rfl rfl (p_nil ?_)
      exact fun a w st => ⟨(i + 1, nJ + 1, s3), ⟨by simp only; omega, by simp only; omega, hu3, hl3, hn3.trans hnJ2, by
        rw [hinvJ, show c.roots.toNat - i = (c.roots.toNat - (i + 1)) + 1 by omega]
        show (sJ.store (c.root i) ((pickL l out sp) nJ)).then _ = _
        rw [hm3]
        push_cast
        rfl⟩, by simp only; omega, st.to ⟨rfl, rfl, rfl, rfl, rfl, rfl, rfl, rfl, rfl, rfl, rfl, trivial⟩ (fun hh => (hh.pk [1, 4, 2, 3, 3, 3, 0, 2, 2, 1]))⟩
    · have hi : ¬ (i : Int) < c.roots := by simpa using h74
      refine g_exit (g_seq (g_region (kPm rfl rfl (kPv (ev_loadA Tryz.isAgg40 Tryz.sizeOf40 rfl rfl) rfl ?_))))
      refine go_pull DevA bd ?_
      refine p_call rfl (en_f Tryz.call111 rfl) (rread_ok _ _ _ _ c hc huJ) .free rfl rfl ?_ ?_
      rotate_left
      · rintro _ _ ⟨⟩
      rintro _ _ ⟨sv2, hsv2, rfl, rfl⟩
      refine kPm rfl rfl (kPv (ev_ext rfl rfl) rfl (kPv (ev_ext rfl rfl) rfl (p_chg0 rfl (ch_storeA (vs := [i64 (sJ.block c).1.act, i64 (sJ.block c).1.used, sv2]) Tryz.sizeOf95 rfl rfl rfl (all3 hsv2) rfl) .free rfl ?_)))
      rintro _ _ rfl
      refine go_conv (H' := VecU 0 (sv2, (sJ.block c).1.rts) :: DevA bd sJ :: row b16 [i64 (nJ : Nat)] 3 :: VecA 3 i64 0 (.slice qo out.length co, out) :: row b15 [.slice qo out.length co] 125 :: row b14 [i64 (sJ.block c).1.act, i64 (sJ.block c).1.used, sv2] 95 :: row b13 [i64 c.log, i64 c.roots, i64 c.space] 40 :: VecU 0 (sv, (sF.block c).1.rts) :: row b10 [i64 0, i64 0, .slice none 0 0] 95 :: row b9 [i64 0, i64 0, i64 0] 40 :: row b7 [u8 sp] 5 :: row b6 [.slice ql l.length cl] 229 :: row b4 [u16 x0, u16 x1, u16 x2] 24 :: Fr) (fun w hh => hh) (p_nil (go_sb [12, 15, 14, 13, 11, 10, 9, 8] rfl (g_seq (g_drawv [0, 1, 2, 3, 4, 5, 6, 7] [5, 6] [2, 3] [5, 6] [row b14 [i64 (sJ.block c).1.act, i64 (sJ.block c).1.used, sv2] 95, row b15 [.slice qo out.length co] 125] Tryz.mixed (by kernel_rfl) ?_))))
      refine v_val rfl rfl rfl (ev_move rfl) .free rfl (v_val rfl rfl rfl (ev_loadA Tryz.isAgg40 Tryz.sizeOf40 rfl rfl) .free rfl ?_)
      refine v_hoist rfl rfl rfl (ev_loadA Tryz.isAgg95 Tryz.sizeOf95 rfl rfl) .free rfl ?_
      refine v_hoist rfl rfl rfl (ev_load Tryz.isAgg125 rfl rfl) .free rfl (v_val rfl rfl rfl (ev_assign rfl) .free rfl (v_mark rfl rfl (p_chg0 rfl (ch_storeA (vs := _) Tryz.sizeOf40 rfl rfl rfl rfl rfl) .free rfl ?_)))
      rintro _ _ rfl
      refine p_nil (v_on (v_mark rfl rfl (p_chg0 rfl (ch_storeA (vs := [i64 (sJ.block c).1.act, i64 (sJ.block c).1.used, sv2]) Tryz.sizeOf95 rfl rfl rfl (all3 hsv2) rfl) .free rfl ?_)))
      rintro _ _ rfl
      refine p_nil (v_on (v_val rfl rfl rfl (ev_assign rfl) .free rfl (v_nil (go_sb [11, 8, 10, 9] rfl (g_ret ?_)))))
      exact ret_4 Tryz.results162 (.tmp rfl) (.cellA rfl Tryz.isAgg40 Tryz.sizeOf40 rfl rfl) (.cellA rfl Tryz.isAgg95 Tryz.sizeOf95 rfl rfl) (.tmp rfl) (fun w_ hh => ⟨_, ⟨bd, pa, N, s0, sF, out, hfm, hN, ⟨hus0, hf0⟩, hfill, .inl ⟨n, nJ, sL, sJ, _, sv2, by rw [hinv, List.drop_eq_nil_of_le (by omega)]; rfl, by rw [hinvJ, show c.roots.toNat - i = 0 by omega]; rfl, huJ, hlJ, hnJ2, rfl, hsv2, rfl, rfl⟩⟩, (hh.dp [2, 3, 3, 3, 3, 3, 3, 3, 3, 3])⟩)
end Go.Proofs.YtlcibdhmgclfjaaGreat
