/- Objects: what Of, Read and the fields do; a way that words are stored; room for objects. Conditions: none. -/
import Derived.Test.YtbfheafpecgphaaGreatRts
import Derived.Test.YtbfheafpecgphaaGreatSec
set_option linter.unusedSimpArgs false
set_option linter.unusedVariables false
set_option linter.unnecessarySimpa false
set_option linter.unusedSectionVars false
namespace Go.Proofs.YtbfheafpecgphaaGreat
set_option linter.unusedSimpArgs false
set_option linter.unusedVariables false
open Go
abbrev objV (o : Obj3) : Value := .agg #[i64 o.1, i64 o.2.1, i64 o.2.2]
theorem nneg {x : Int} (h : decide (x < 0) = false) : 0 ≤ x := by simpa using h
theorem chkH_b {w r : Int} (h : chkH w r = 0) : 0 ≤ w ∧ w ≤ 64 ∧ 0 ≤ r ∧ r ≤ w := by
  unfold chkH at h
  split at h
  · assumption
  · cases h
theorem unp_b (v : Int) : 0 ≤ (unp v).1 ∧ (unp v).1 ≤ 64 ∧ 0 ≤ (unp v).2.1 ∧ (unp v).2.1 ≤ (unp v).1 := by
  unfold unp
  split
  · rename_i h; exact chkH_b h.1
  · exact ⟨by decide, by decide, by decide, by decide⟩

theorem obj_ok (B : World) (Fr : List HP) (bd : Nat) (s : Dev) (c : Cfg) (hc : CfgW c) (b : Blk) (sv : Value) (hb : BlkW c b) (hsv : cell1 sv = true) (at_ : Int) (hat : -9223372036854775808 ≤ at_ ∧ at_ ≤ 9223372036854775807) :
    ∀ w, Holds B (DevA bd s :: Fr) w → Calls Tryz.prog 51 [ptr bd, cfgV c, blkV b sv, i64 at_].toArray w (PureR B (DevA bd s :: Fr) (.tuple #[objV (s.objOf c b at_).1, i64 (s.objOf c b at_).2])) := by
  refine fn_enter Tryz.func51 rfl Tryz.ntmps51 rfl ?_
  have hb1 := hb.act
  have hb2 := hb.used
  have hcs := hc.s2
  have hub := unp_b (s.load at_)
  have hfb := frm_b hc (k := b.act) (by omega)
  refine g_seq ?_; refine g_region ?_; refine p_chg rfl (ch_boxA rfl) .free rfl rfl ?_
  rintro _ _ ⟨b5, rfl, rfl⟩
  refine p_chg rfl (ch_boxA rfl) .free rfl rfl ?_
  rintro _ _ ⟨b6, rfl, rfl⟩
  refine p_chg rfl (ch_allocA Tryz.zeroValue89 rfl) .free rfl rfl ?_
  rintro _ _ ⟨b8, rfl, rfl⟩
  refine kPa rfl rfl ?_; refine p_nil ?_; refine g_seq ?_; refine g_seq ?_; refine g_region ?_; refine kPm rfl rfl ?_; refine kPv (ev_cmp rfl rfl rfl) rfl ?_; refine kPm rfl rfl ?_
  apply p_or (tp := 21) (t := 14) (σ1 := [(14, _), (9, _), (8, _), (6, _), (5, _), (0, _), (3, _)]) 7 rfl ⟨rfl, rfl, rfl, rfl, rfl, rfl, rfl, trivial⟩
  · intro hg1
    refine p_val rfl (ev_loadA Tryz.isAgg33 Tryz.sizeOf33 rfl rfl) (.on rfl rfl (beq_eq hg1)) rfl rfl ?_; refine p_val rfl (ev_loadA Tryz.isAgg30 Tryz.sizeOf30 rfl rfl) (.on rfl rfl (beq_eq hg1)) rfl rfl ?_; refine p_val rfl (ev_move rfl) (.on rfl rfl (beq_eq hg1)) rfl rfl ?_; refine p_val rfl (ev_conv Tryz.runUnderlying3 Tryz.runUnderlying52 rfl (wru64 ⟨nneg hg1, by omega⟩)) (.on rfl rfl (beq_eq hg1)) rfl rfl ?_
    refine p_callq rfl (en_f Tryz.call82 rfl) (has_ok _ _ c hc b sv hb hsv _ ⟨nneg hg1, by omega⟩) (.on rfl rfl (beq_eq hg1)) rfl rfl ?_; refine p_val rfl (ev_not rfl) (.on rfl rfl (beq_eq hg1)) rfl rfl ?_; refine kPv (ev_pick_f rfl hg1 rfl) rfl ?_
    exact p_seg rfl ⟨rfl, rfl, rfl, rfl, rfl, rfl, rfl, trivial⟩ (or_f hg1)
  · intro hg1
    refine p_skip rfl (.on rfl rfl (beq_ne hg1)) rfl ?_; refine p_skip rfl (.on rfl rfl (beq_ne hg1)) rfl ?_; refine p_skip rfl (.on rfl rfl (beq_ne hg1)) rfl ?_; refine p_skip rfl (.on rfl rfl (beq_ne hg1)) rfl ?_; refine p_skip rfl (.on rfl rfl (beq_ne hg1)) rfl ?_; refine p_skip rfl (.on rfl rfl (beq_ne hg1)) rfl ?_; refine kPv (ev_pick_t rfl hg1 rfl) rfl ?_
    exact p_seg rfl ⟨rfl, rfl, rfl, rfl, rfl, rfl, rfl, trivial⟩ (or_t hg1)
  refine p_nil ?_
  refine g_if rfl (fun h21 => ?_) (fun h21 => ?_)
  · have hbad : at_ < 0 ∨ b.has c at_ = false := by simpa using h21
    have hres : s.objOf c b at_ = ((0, 0, 0), 6) := by unfold Dev.objOf; rw [if_pos hbad]
    refine g_seq ?_; refine g_region ?_; refine kPv (ev_build rfl (bld_89)) rfl ?_; refine p_chg0 rfl (ch_storeA (vs := _) Tryz.sizeOf89 rfl rfl rfl rfl rfl) .free rfl ?_
    rintro _ _ rfl
    refine kPa rfl rfl ?_; refine p_nil ?_; refine g_ret ?_
    exact ret_2 Tryz.results51 (.cellA rfl Tryz.isAgg89 Tryz.sizeOf89 rfl rfl) (.tmp rfl) (fun w hh => ⟨by rw [hres]; rfl, hh.tail.tail.tail⟩)
  · have hgd : ¬(at_ < 0 ∨ b.has c at_ = false) := by simpa using h21
    have hat2 := bhas_b hc hb (w := at_) (by cases hh : b.has c at_ with
      | true => rfl
      | false => exact absurd (.inr hh) hgd)
    have hplace : b.place c b.used = c.frm b.act + b.used := rfl
    refine g_skip ?_; refine g_seq ?_; refine g_region ?_; refine kPm rfl rfl ?_; refine kPm rfl rfl ?_; refine p_callq rfl (en_f Tryz.call72 rfl) (ro_at (q := DevA) (fun Fr => nload_ok _ Fr _ _ _)) .free rfl rfl ?_; refine p_callq rfl (en_f Tryz.call93 rfl) (unpack_ok _ _ _) .free rfl rfl ?_; refine kPm rfl rfl ?_; refine kPv (ev_ext rfl rfl) rfl ?_; refine kPv (ev_ext rfl rfl) rfl ?_; refine p_chg rfl (ch_allocA Tryz.zeroValue87 rfl) .free rfl rfl ?_
    rintro _ _ ⟨b10, rfl, rfl⟩
    refine p_chg0 rfl (ch_storeA (vs := _) Tryz.sizeOf87 rfl rfl rfl rfl rfl) .free rfl ?_
    rintro _ _ rfl
    refine kPa rfl rfl ?_; refine p_nil ?_; refine go_sub (σ' := [(11, _), (10, _), (9, _), (8, _), (6, _), (5, _), (3, _)]) ⟨rfl, rfl, rfl, rfl, rfl, rfl, rfl, trivial⟩ ?_; refine g_seq ?_; refine g_seq ?_; refine g_draw Tryz.mixed (by kernel_rfl) (by kernel_rfl) ?_; refine kQm rfl rfl ?_; refine kQv (ev_not rfl) rfl ?_; refine kQm rfl rfl ?_
    apply q_or (tp := 43) (t := 32) (σ1 := [(32, _), (10, _), (9, _), (8, _), (3, _)]) 11 rfl ⟨rfl, rfl, rfl, rfl, rfl, trivial⟩
    · intro hg2
      refine q_val rfl (ev_loadA Tryz.isAgg87 Tryz.sizeOf87 rfl rfl) (.on rfl rfl (beq_eq hg2)) rfl ?_; refine q_call rfl (en_f Tryz.call52 rfl) (hsize_ok _ _ _ _ (by omega)) (.on rfl rfl (beq_eq hg2)) rfl ?_; refine q_val rfl (ev_loadA Tryz.isAgg33 Tryz.sizeOf33 rfl rfl) (.on rfl rfl (beq_eq hg2)) rfl ?_; refine q_val rfl (ev_loadA Tryz.isAgg30 Tryz.sizeOf30 rfl rfl) (.on rfl rfl (beq_eq hg2)) rfl ?_; refine q_val rfl (ev_fa (m := _) fa_33_1 rfl rfl) (.on rfl rfl (beq_eq hg2)) rfl ?_
      refine q_val rfl (ev_load Tryz.isAgg3 rfl rfl) (.on rfl rfl (beq_eq hg2)) rfl ?_; refine q_call rfl (en_f Tryz.call94 rfl) (place_ok _ _ c hc b sv hb hsv _ (by omega)) (.on rfl rfl (beq_eq hg2)) rfl ?_; refine q_val rfl (ev_move rfl) (.on rfl rfl (beq_eq hg2)) rfl ?_
      first | refine q_val rfl (ev_sub rfl rfl (wr64 (by omega))) (.on rfl rfl (beq_eq hg2)) rfl ?_ | refine q_val rfl (ev_sub rfl rfl rfl) (.on rfl rfl (beq_eq hg2)) rfl ?_
      refine q_val rfl (ev_cmp rfl rfl rfl) (.on rfl rfl (beq_eq hg2)) rfl ?_; refine kQv (ev_pick_f rfl hg2 rfl) rfl ?_
      exact q_seg rfl ⟨rfl, rfl, rfl, rfl, rfl, trivial⟩ (or_f hg2)
    · intro hg2
      refine q_skip rfl (.on rfl rfl (beq_ne hg2)) rfl ?_; refine q_skip rfl (.on rfl rfl (beq_ne hg2)) rfl ?_; refine q_skip rfl (.on rfl rfl (beq_ne hg2)) rfl ?_; refine q_skip rfl (.on rfl rfl (beq_ne hg2)) rfl ?_; refine q_skip rfl (.on rfl rfl (beq_ne hg2)) rfl ?_; refine q_skip rfl (.on rfl rfl (beq_ne hg2)) rfl ?_; refine q_skip rfl (.on rfl rfl (beq_ne hg2)) rfl ?_; refine q_skip rfl (.on rfl rfl (beq_ne hg2)) rfl ?_; refine q_skip rfl (.on rfl rfl (beq_ne hg2)) rfl ?_
      refine q_skip rfl (.on rfl rfl (beq_ne hg2)) rfl ?_; refine kQv (ev_pick_t rfl hg2 rfl) rfl ?_
      exact q_seg rfl ⟨rfl, rfl, rfl, rfl, rfl, trivial⟩ (or_t hg2)
    refine q_nil ?_
    refine g_if rfl (fun h43 => ?_) (fun h43 => ?_)
    · have hbad : (unp (s.load at_)).2.2 = false ∨ b.place c b.used - at_ < (unp (s.load at_)).1 + 1 := by simpa using h43
      have hres : s.objOf c b at_ = ((0, 0, 0), 8) := by unfold Dev.objOf; rw [if_neg hgd, if_pos hbad]
      refine g_seq ?_; refine g_region ?_; refine kPv (ev_build rfl (bld_89)) rfl ?_; refine p_chg0 rfl (ch_storeA (vs := _) Tryz.sizeOf89 rfl rfl rfl rfl rfl) .free rfl ?_
      rintro _ _ rfl
      refine kPa rfl rfl ?_; refine p_nil ?_; refine g_ret ?_
      exact ret_2 Tryz.results51 (.cellA rfl Tryz.isAgg89 Tryz.sizeOf89 rfl rfl) (.tmp rfl) (fun w hh => ⟨by rw [hres]; rfl, hh.tail.tail.tail.tail⟩)
    · have hgd2 : ¬((unp (s.load at_)).2.2 = false ∨ b.place c b.used - at_ < (unp (s.load at_)).1 + 1) := by simpa using h43
      have hres : s.objOf c b at_ = (((unp (s.load at_)).1, (unp (s.load at_)).2.1, at_), 0) := by unfold Dev.objOf; rw [if_neg hgd, if_neg hgd2]
      refine g_skip ?_; refine g_seq ?_; refine g_region ?_; refine kPv (ev_loadA Tryz.isAgg87 Tryz.sizeOf87 rfl rfl) rfl ?_; refine kPm rfl rfl ?_; refine kPv (ev_build rfl (bld_89_0_1 _ _ _ rfl)) rfl ?_; refine p_chg0 rfl (ch_storeA (vs := _) Tryz.sizeOf89 rfl rfl rfl rfl rfl) .free rfl ?_
      rintro _ _ rfl
      refine kPa rfl rfl ?_; refine p_nil ?_; refine go_sub (σ' := [(9, _), (8, _)]) ⟨rfl, rfl, trivial⟩ ?_; refine g_ret ?_
      exact ret_2 Tryz.results51 (.cellA rfl Tryz.isAgg89 Tryz.sizeOf89 rfl rfl) (.tmp rfl) (fun w hh => ⟨by rw [hres]; rfl, hh.tail.tail.tail.tail⟩)


/-- An object that may be. -/
structure ObjW (o : Obj3) : Prop where
  w : 0 ≤ o.1 ∧ o.1 ≤ 64
  r : 0 ≤ o.2.1 ∧ o.2.1 ≤ o.1
  at_ : 0 ≤ o.2.2 ∧ o.2.2 ≤ 1000000

theorem field_ok (B : World) (H : List HP) (o : Obj3) (ho : ObjW o) (i : Int) (ref : Bool) :
    ∀ w, Holds B H w → Calls Tryz.prog 104 [objV o, i64 i, .bool ref].toArray w (PureR B H (.tuple #[i64 (objField o i ref).1, i64 (objField o i ref).2])) := by
  refine fn_enter Tryz.func104 rfl Tryz.ntmps104 rfl ?_
  have h1 := ho.w
  have h2 := ho.r
  have h3 := ho.at_
  refine g_seq ?_; refine g_region ?_; refine p_chg rfl (ch_boxA rfl) .free rfl rfl ?_
  rintro _ _ ⟨b3, rfl, rfl⟩
  refine kPa rfl rfl ?_; refine kPa rfl rfl ?_; refine p_nil ?_; refine g_seq ?_; refine g_block ?_; refine g_seq ?_; refine g_region ?_; refine kPm rfl rfl ?_; refine kPv (ev_cmp rfl rfl rfl) rfl ?_; refine kPm rfl rfl ?_
  apply p_or (tp := 17) (t := 11) (σ1 := [(11, _), (7, _), (6, _), (3, _), (1, _), (2, _)]) 6 rfl ⟨rfl, rfl, rfl, rfl, rfl, rfl, trivial⟩
  · intro hg1
    refine p_val rfl (ev_move rfl) (.on rfl rfl (beq_eq hg1)) rfl rfl ?_; refine p_val rfl (ev_fa (m := _) fa_89_0 rfl rfl) (.on rfl rfl (beq_eq hg1)) rfl rfl ?_; refine p_val rfl (ev_fa (m := _) fa_87_0 rfl rfl) (.on rfl rfl (beq_eq hg1)) rfl rfl ?_; refine p_val rfl (ev_load Tryz.isAgg3 rfl rfl) (.on rfl rfl (beq_eq hg1)) rfl rfl ?_; refine p_val rfl (ev_cmp rfl rfl rfl) (.on rfl rfl (beq_eq hg1)) rfl rfl ?_; refine kPv (ev_pick_f rfl hg1 rfl) rfl ?_
    exact p_seg rfl ⟨rfl, rfl, rfl, rfl, rfl, rfl, trivial⟩ (or_f hg1)
  · intro hg1
    refine p_skip rfl (.on rfl rfl (beq_ne hg1)) rfl ?_; refine p_skip rfl (.on rfl rfl (beq_ne hg1)) rfl ?_; refine p_skip rfl (.on rfl rfl (beq_ne hg1)) rfl ?_; refine p_skip rfl (.on rfl rfl (beq_ne hg1)) rfl ?_; refine p_skip rfl (.on rfl rfl (beq_ne hg1)) rfl ?_; refine kPv (ev_pick_t rfl hg1 rfl) rfl ?_
    exact p_seg rfl ⟨rfl, rfl, rfl, rfl, rfl, rfl, trivial⟩ (or_t hg1)
  refine kPa rfl rfl ?_; refine p_nil ?_
  refine g_if rfl (fun h8 => ?_) (fun h8 => ?_)
  · have hbad : i < 0 ∨ o.1 ≤ i := by simpa using h8
    have hres : objField o i ref = (0, 1) := by unfold objField; rw [if_pos hbad]
    refine g_seq ?_; refine g_region ?_; refine kPa rfl rfl ?_; refine kPa rfl rfl ?_; refine p_nil ?_; refine g_ret ?_
    exact ret_tmp2 Tryz.results104 rfl rfl (fun w hh => ⟨by rw [hres], hh.tail⟩)
  · have hgd : ¬(i < 0 ∨ o.1 ≤ i) := by simpa using h8
    refine g_seq ?_; refine g_region ?_; refine kPm rfl rfl ?_; refine kPv (ev_fa (m := _) fa_89_0 rfl rfl) rfl ?_; refine kPv (ev_fa (m := _) fa_87_1 rfl rfl) rfl ?_; refine kPv (ev_load Tryz.isAgg3 rfl rfl) rfl ?_; refine kPv (ev_cmp rfl rfl rfl) rfl ?_; refine kPm rfl rfl ?_; refine kPv (ev_eqb Tryz.runUnderlying4 rfl rfl rfl) rfl ?_; refine kPa rfl rfl ?_; refine p_nil ?_; refine go_sub (σ' := [(18, _), (7, _), (6, _), (3, _), (1, _)]) ⟨rfl, rfl, rfl, rfl, rfl, trivial⟩ ?_
    refine g_if rfl (fun h18 => ?_) (fun h18 => ?_)
    · have hk : decide (i < o.2.1) ≠ ref := by simpa using h18
      have hres : objField o i ref = (0, 5) := by unfold objField; rw [if_neg hgd, if_pos hk]
      refine g_seq ?_; refine g_region ?_; refine kPa rfl rfl ?_; refine kPa rfl rfl ?_; refine p_nil ?_; refine g_ret ?_
      exact ret_tmp2 Tryz.results104 rfl rfl (fun w hh => ⟨by rw [hres], hh.tail⟩)
    · have hk : ¬ decide (i < o.2.1) ≠ ref := by simpa using h18
      have hres : objField o i ref = (o.2.2 + 1 + i, 0) := by unfold objField; rw [if_neg hgd, if_neg hk]
      refine g_skip ?_; refine g_seq ?_; refine g_region ?_; refine kPv (ev_fa (m := _) fa_89_1 rfl rfl) rfl ?_; refine kPv (ev_load Tryz.isAgg3 rfl rfl) rfl ?_
      first | refine p_val rfl (ev_add rfl rfl (wr64 (by omega))) .free rfl rfl ?_ | refine p_val rfl (ev_add rfl rfl rfl) .free rfl rfl ?_
      refine kPm rfl rfl ?_
      first | refine p_val rfl (ev_add rfl rfl (wr64 (by omega))) .free rfl rfl ?_ | refine p_val rfl (ev_add rfl rfl rfl) .free rfl rfl ?_
      refine kPa rfl rfl ?_; refine kPa rfl rfl ?_; refine p_nil ?_; refine go_sub (σ' := [(7, _), (6, _)]) ⟨rfl, rfl, trivial⟩ ?_; refine g_ret ?_
      exact ret_tmp2 Tryz.results104 rfl rfl (fun w hh => ⟨by rw [hres], hh.tail⟩)

theorem oread_ok (B : World) (Fr : List HP) (bd : Nat) (s : Dev) (o : Obj3) (ho : ObjW o) (i : Int) :
    ∀ w, Holds B (DevA bd s :: Fr) w → Calls Tryz.prog 149 [objV o, ptr bd, i64 i].toArray w (PureR B (DevA bd s :: Fr) (.tuple #[w64 (s.objRead o i).1, i64 (s.objRead o i).2])) := by
  refine fn_enter Tryz.func149 rfl Tryz.ntmps149 rfl ?_; refine g_seq ?_; refine g_region ?_; refine p_chg rfl (ch_boxA rfl) .free rfl rfl ?_
  rintro _ _ ⟨b3, rfl, rfl⟩
  refine kPa rfl rfl ?_; refine kPa rfl rfl ?_; refine p_nil ?_; refine g_seq ?_; refine g_region ?_; refine kPv (ev_loadA Tryz.isAgg89 Tryz.sizeOf89 rfl rfl) rfl ?_; refine kPm rfl rfl ?_; refine p_callq rfl (en_f Tryz.call104 rfl) (field_ok _ _ o ho i _) .free rfl rfl ?_; refine kPm rfl rfl ?_; refine kPv (ev_ext rfl rfl) rfl ?_; refine kPv (ev_ext rfl rfl) rfl ?_; refine kPa rfl rfl ?_; refine kPa rfl rfl ?_; refine p_nil ?_
  refine go_sub (σ' := [(9, _), (8, _), (7, _), (6, _), (1, _)]) ⟨rfl, rfl, rfl, rfl, rfl, trivial⟩ ?_; refine g_seq ?_; refine g_seq ?_; refine g_region ?_; refine kPm rfl rfl ?_; refine kPv (ev_cmp rfl rfl rfl) rfl ?_; refine p_nil ?_
  refine g_if rfl (fun h17 => ?_) (fun h17 => ?_)
  · have hk : (objField o i false).2 ≠ 0 := by simpa using h17
    have hres : s.objRead o i = (0, (objField o i false).2) := by unfold Dev.objRead; rw [if_pos hk]
    refine g_seq ?_; refine g_region ?_; refine kPm rfl rfl ?_; refine kPa rfl rfl ?_; refine kPa rfl rfl ?_; refine p_nil ?_; refine g_ret ?_
    exact ret_tmp2 Tryz.results149 rfl rfl (fun w hh => ⟨by rw [hres] <;> rfl, hh.tail⟩)
  · have hk : ¬ (objField o i false).2 ≠ 0 := by simpa using h17
    have hres : s.objRead o i = (s.load (objField o i false).1, 0) := by unfold Dev.objRead; rw [if_neg hk]
    refine g_skip ?_; refine g_seq ?_; refine g_region ?_; refine kPm rfl rfl ?_; refine kPm rfl rfl ?_; refine p_callq rfl (en_f Tryz.call72 rfl) (ro_at (q := DevA) (fun Fr => nload_ok _ Fr _ _ _)) .free rfl rfl ?_; refine kPa rfl rfl ?_; refine kPa rfl rfl ?_; refine p_nil ?_; refine go_sub (σ' := [(7, _), (6, _)]) ⟨rfl, rfl, trivial⟩ ?_; refine g_ret ?_
    exact ret_tmp2 Tryz.results149 rfl rfl (fun w hh => ⟨by rw [hres] <;> rfl, hh.tail⟩)

end Go.Proofs.YtbfheafpecgphaaGreat
