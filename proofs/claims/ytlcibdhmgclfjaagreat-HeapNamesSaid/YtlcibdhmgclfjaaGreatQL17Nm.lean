/- Part of the texts beneath a law: what its proof names. Conditions: none. -/
import Derived.Test.YtlcibdhmgclfjaaGreatQL17Nl
set_option linter.unusedSimpArgs false
set_option linter.unusedVariables false
set_option linter.unnecessarySimpa false
set_option linter.unusedSectionVars false
namespace Go.Proofs.YtlcibdhmgclfjaaGreat
open Go
structure HpS where
  bd : Nat
  c : Cfg
  S : SecS
  o : Bool
  T : TabS
  X : Option ColS
def SecB : Bool → Nat → SecS → HP
  | true => SecO
  | false => SecC
def ColO (x : Nat) : Option ColS → HP
  | none => pr True
  | some X => ColA x X
def colp (x : Nat) : Option ColS → Value
  | none => .pointer none
  | some _ => ptr x
abbrev hepRow (bh bs bt x : Nat) (h : HpS) : HP := row bh [ptr h.bd, i64 h.c.log, i64 h.c.roots, i64 h.c.space, ptr bs, ptr bt, colp x h.X] 93
def HepA (bh : Nat) (h : HpS) : HP := hex fun (x : Nat × Nat × Nat) => grp [hepRow bh x.1 x.2.1 x.2.2 h, SecB h.o x.1 h.S, TabA x.2.1 h.T, ColO x.2.2 h.X]
section
variable {B : World} {n : Nat} {D : List Deferred} {σ : Env} {Fr : List HP} {K : Act → World → Prop} {bh bs bt x : Nat} {h : HpS} {w : World}
theorem go_hep (g : ∀ bs bt x, GO B n D σ (hepRow bh bs bt x h :: SecB h.o bs h.S :: TabA bt h.T :: ColO x h.X :: Fr) K) : GO B n D σ (HepA bh h :: Fr) K := fun a w st => by
  obtain ⟨x, hx⟩ := st.holds.hex
  exact g x.1 x.2.1 x.2.2 a w ⟨st.toStA, hx.grp⟩
theorem hep_holds (hh : Holds B (hepRow bh bs bt x h :: SecB h.o bs h.S :: TabA bt h.T :: ColO x h.X :: Fr) w) : Holds B (HepA bh h :: Fr) w :=
  Holds.unhex (bs, bt, x) (Holds.ungrp (l := [hepRow bh bs bt x h, SecB h.o bs h.S, TabA bt h.T, ColO x h.X]) hh)
end
structure HepW (h : HpS) (s : Dev) : Prop where
  c : CfgW h.c
  k : SecK h.S h.bd h.c s
  sw : h.o = true → SecW h.S ∧ h.S.dirty.length ≤ 1000000
  u : U64 s
  t1 : 0 ≤ h.T.last ∧ h.T.last ≤ 1000000000
  tl : h.T.at_.length ≤ 800000
  tp : ∀ p ∈ h.T.at_, 0 ≤ p.2 ∧ p.2 ≤ 1000000
  x : ∀ X, h.X = some X → ColW X ∧ X.bd = h.bd ∧ X.c = h.c ∧ 0 < X.b.rts.length
abbrev HpS.blk (h : HpS) (s : Dev) : Blk := (s.block h.c).1
def HpS.obj (h : HpS) (s : Dev) (n : Int) : Obj3 × Int := if (mget h.T.at_ n).isSome = true then s.objOf h.c (h.blk s) ((mget h.T.at_ n).getD 0) else ((0, 0, 0), 6)
def HpS.plc (h : HpS) (n : Int) : Int × Int := if (mget h.T.at_ n).isSome = true ∨ n = 0 then ((mget h.T.at_ n).getD 0, 0) else (0, 6)
def HpS.words (h : HpS) : List Int := (sortI (h.T.at_.map Prod.fst)).map fun n => (mget h.T.at_ n).getD 0
theorem hblock_ok (B : World) (Fr : List HP) (bh bs bt x : Nat) (h : HpS) (s : Dev) (hc : CfgW h.c) (hu : U64 s) :
    ∀ w, Holds B (hepRow bh bs bt x h :: DevA h.bd s :: Fr) w → Calls Tryz.prog 52 [ptr bh].toArray w (Ret B (fun rv H' => ∃ sv, cell1 sv = true ∧ rv = blkV (h.blk s) sv ∧ H' = VecU 0 (sv, (h.blk s).rts) :: hepRow bh bs bt x h :: DevA h.bd s :: Fr) (fun _ _ => False)) := by
  refine fn_enter Tryz.func52 rfl Tryz.ntmps52 rfl (g_seq (g_region (p_chg rfl (ch_allocA Tryz.zeroValue95 rfl) .free rfl rfl ?_)))
  rintro _ _ ⟨b2, rfl, rfl⟩
  refine p_nil (g_seq ?_)
  refine g_drawT (.br [0, 1, 2, 3, 4, 5, 6, 7] 8 (.fin [9, 10, 11, 12, 13, 14]) 12 (.fin [8, 9, 10, 11, 13, 14])) [8, 12, 13] [0, 1, 2, 3, 4, 5, 6, 7, 9, 10, 11] [12, 13] [hepRow bh bs bt x h] [] (G := Nat × Value) (fun (b3, sv) => [(3, ptr b3), (2, ptr b2)]) (fun (b3, sv) => row b3 [i64 (h.blk s).act, i64 (h.blk s).used, sv] 95 :: VecU 0 (sv, (h.blk s).rts) :: hepRow bh bs bt x h :: DevA h.bd s :: row b2 [i64 0, i64 0, .slice none 0 0] 95 :: Fr) Tryz.mixed (by kernel_rfl) ?_ ?_
  · skip
    refine t_br (v_hoist rfl rfl rfl (ev_move rfl) .free rfl ?_)
    first | refine v_hoist rfl rfl rfl (ev_nil rfl) .free rfl ?_ | refine v_hoist rfl rfl rfl (ev_nilf rfl) .free rfl ?_
    refine v_hoist rfl rfl rfl (ev_fa (m := _) fa_93_0 rfl rfl) .free rfl (v_hoist rfl rfl rfl (ev_load Tryz.isAgg28 rfl rfl) .free rfl (v_hoist rfl rfl rfl (ev_move rfl) .free rfl ?_))
    first | refine v_hoist rfl rfl rfl (ev_nil rfl) .free rfl ?_ | refine v_hoist rfl rfl rfl (ev_nilf rfl) .free rfl ?_
    refine v_hoist rfl rfl rfl (ev_fa (m := _) fa_93_1 rfl rfl) .free rfl (v_hoist rfl rfl rfl (ev_loadA Tryz.isAgg40 Tryz.sizeOf40 rfl rfl) .free rfl ?_)
    refine v_nil ?_
    refine t_two rfl rfl ?_ ?_
    · skip
      refine go_pk [2] ?_
      refine p_call rfl (en_f Tryz.call111 rfl) (rread_ok _ _ _ _ h.c hc hu) .free rfl rfl ?_ ?_
      rotate_left
      · rintro _ _ ⟨⟩
      rintro _ _ ⟨sv14, hsv14, rfl, rfl⟩
      refine p_nil (t_off rfl (t_fin (v_hoist rfl rfl rfl (ev_move rfl) .free rfl (v_hoist rfl rfl rfl (ev_ext rfl rfl) .free rfl (v_hoist rfl rfl rfl (ev_ext rfl rfl) .free rfl (v_mark rfl rfl (p_chg rfl (ch_allocA Tryz.zeroValue95 rfl) .free rfl rfl ?_)))))))
      rintro _ _ ⟨b3, rfl, rfl⟩
      refine p_nil (v_on (v_mark rfl rfl ?_))
      refine p_chg0 rfl (ch_storeA (vs := _) Tryz.sizeOf95 rfl rfl rfl (by first | rfl | exact all3 (by assumption)) rfl) .free rfl ?_
      rintro _ _ rfl
      refine p_nil (v_on (v_val rfl rfl rfl (ev_assign rfl) .free rfl (v_nil ?_)))
      exact fun a w st_ => ⟨(b3, sv14), st_.to ⟨rfl, rfl, trivial⟩ (fun hh => (hh.pk [0, 0, 2]))⟩
    · skip
      refine p_chg rfl (ch_allocA Tryz.zeroValue95 rfl) .free rfl rfl ?_
      rintro _ _ ⟨b3, rfl, rfl⟩
      refine p_nil (t_on (t_fin (v_mark rfl rfl (go_pk [3] ?_))))
      refine p_call rfl (en_f Tryz.call111 rfl) (rread_ok _ _ _ _ h.c hc hu) .free rfl rfl ?_ ?_
      rotate_left
      · rintro _ _ ⟨⟩
      rintro _ _ ⟨sv14, hsv14, rfl, rfl⟩
      refine p_nil (v_off rfl (v_hoist rfl rfl rfl (ev_move rfl) .free rfl (v_hoist rfl rfl rfl (ev_ext rfl rfl) .free rfl (v_hoist rfl rfl rfl (ev_ext rfl rfl) .free rfl (v_mark rfl rfl ?_)))))
      refine p_chg0 rfl (ch_storeA (vs := _) Tryz.sizeOf95 rfl rfl rfl (by first | rfl | exact all3 (by assumption)) rfl) .free rfl ?_
      rintro _ _ rfl
      refine p_nil (v_on (v_val rfl rfl rfl (ev_assign rfl) .free rfl (v_nil ?_)))
      exact fun a w st_ => ⟨(b3, sv14), st_.to ⟨rfl, rfl, trivial⟩ (fun hh => (hh.pk [2, 0, 2]))⟩
  rintro ⟨b3, sv⟩
  refine go_sub (σ' := [(3, ptr b3), (2, ptr b2)]) ⟨rfl, rfl, trivial⟩ (g_seq (go_pk [1] (go_vecq fun qv cv hqv hqi => ?_)))
  subst hqv
  refine g_region (kPv (ev_loadA Tryz.isAgg95 Tryz.sizeOf95 rfl rfl) rfl ?_)
  refine p_chg0 rfl (ch_storeA (vs := _) Tryz.sizeOf95 rfl rfl rfl (by first | rfl | exact all3 (by assumption)) rfl) .free rfl ?_
  rintro _ _ rfl
  refine p_nil (g_ret ?_)
  exact ret_1 Tryz.results52 (.cellA rfl Tryz.isAgg95 Tryz.sizeOf95 rfl rfl) (fun w hw => ⟨_, ⟨.slice qv (h.blk s).rts.length cv, rfl, rfl, rfl⟩, (hw.dp [1, 3])⟩)
theorem mget_inH {α : Type} {k : Int} {v : α} : ∀ {l : List (Int × α)}, mget l k = some v → (k, v) ∈ l
  | [], h => by cases h
  | q :: l, h => by
    unfold mget at h
    split at h
    · rename_i e; cases h; rw [← e]; exact List.mem_cons_self ..
    · exact List.mem_cons_of_mem _ (mget_inH h)
theorem HepW.pb {h : HpS} {s : Dev} (hW : HepW h s) (n : Int) : 0 ≤ (mget h.T.at_ n).getD 0 ∧ (mget h.T.at_ n).getD 0 ≤ 1000000 := by
  cases hm : mget h.T.at_ n with
  | none => simp
  | some v => exact hW.tp _ (mget_inH hm)
theorem hobject_ok (B : World) (Fr : List HP) (bh bs bt x : Nat) (h : HpS) (s : Dev) (hW : HepW h s) (n : Int) :
    ∀ w, Holds B (hepRow bh bs bt x h :: TabA bt h.T :: DevA h.bd s :: Fr) w → Calls Tryz.prog 60 [ptr bh, i64 n].toArray w (PureR B (hepRow bh bs bt x h :: TabA bt h.T :: DevA h.bd s :: Fr) (.tuple #[objV (h.obj s n).1, i64 (h.obj s n).2])) := by
  refine fn_enter Tryz.func60 rfl Tryz.ntmps60 rfl ?_
  have hc := hW.c
  have hu := hW.u
  have hbk := block_w (s := s) hc hu
  have hbl : (h.blk s).rts.length ≤ 16 := block_len (s := s) hc
  refine g_seq (g_region (p_chg rfl (ch_allocA Tryz.zeroValue105 rfl) .free rfl rfl ?_))
  rintro _ _ ⟨b4, rfl, rfl⟩
  refine kPa rfl rfl (p_nil (g_seq (g_region (kPm rfl rfl ?_))))
  first | refine kPv (ev_nil rfl) rfl ?_ | refine kPv (ev_nilf rfl) rfl ?_
  refine kPv (ev_fa (m := _) fa_93_3 rfl rfl) rfl (kPv (ev_load Tryz.isAgg90 rfl rfl) rfl (kPm rfl rfl (p_callq rfl (en_f Tryz.call121 rfl) (ro_at (q := TabA) (fun Fr => hplace_ok _ Fr bt h.T n)) .free rfl rfl ?_)))
  refine kPm rfl rfl (kPv (ev_ext rfl rfl) rfl (kPv (ev_ext rfl rfl) rfl (kPa rfl rfl (kPa rfl rfl (p_nil (go_sb [7, 6, 5, 4, 0] rfl (g_seq (g_seq (g_region (kPm rfl rfl (kPv (ev_not rfl) rfl ?_)))))))))))
  refine p_nil ?_
  refine g_if rfl (fun h18 => ?_) (fun h18 => ?_)
  · have hk : ¬ (mget h.T.at_ n).isSome = true := by simpa using h18
    have hres : h.obj s n = ((0, 0, 0), 6) := by unfold HpS.obj; rw [if_neg hk]
    refine g_seq (g_region (kPv (ev_build rfl (bld_105)) rfl (p_chg0 rfl (ch_storeA (vs := _) Tryz.sizeOf105 rfl rfl rfl rfl rfl) .free rfl ?_)))
    rintro _ _ rfl
    refine kPa rfl rfl (p_nil (g_ret ?_))
    exact ret_2 Tryz.results60 (.cellA rfl Tryz.isAgg105 Tryz.sizeOf105 rfl rfl) (.tmp rfl) (fun w hw => ⟨by rw [hres]; rfl, (hw.dp [0])⟩)
  · have hk : (mget h.T.at_ n).isSome = true := by simpa using h18
    have hres : h.obj s n = s.objOf h.c (h.blk s) ((mget h.T.at_ n).getD 0) := by unfold HpS.obj; rw [if_pos hk]
    refine g_skip (g_seq (g_drawv [0, 1, 2, 3, 4, 5, 6, 7, 8, 10, 9, 11, 12, 13, 14, 15] [9, 11, 14] [0, 1, 2, 3, 4, 5, 6, 7, 10] [9] [hepRow bh bs bt x h] Tryz.mixed (by kernel_rfl) ?_))
    refine v_hoist rfl rfl rfl (ev_move rfl) .free rfl ?_
    first | refine v_hoist rfl rfl rfl (ev_nil rfl) .free rfl ?_ | refine v_hoist rfl rfl rfl (ev_nilf rfl) .free rfl ?_
    refine v_hoist rfl rfl rfl (ev_fa (m := _) fa_93_0 rfl rfl) .free rfl (v_hoist rfl rfl rfl (ev_load Tryz.isAgg28 rfl rfl) .free rfl (v_hoist rfl rfl rfl (ev_move rfl) .free rfl ?_))
    first | refine v_hoist rfl rfl rfl (ev_nil rfl) .free rfl ?_ | refine v_hoist rfl rfl rfl (ev_nilf rfl) .free rfl ?_
    refine v_hoist rfl rfl rfl (ev_fa (m := _) fa_93_1 rfl rfl) .free rfl (v_hoist rfl rfl rfl (ev_loadA Tryz.isAgg40 Tryz.sizeOf40 rfl rfl) .free rfl ?_)
    refine v_val rfl rfl rfl (ev_move rfl) .free rfl (v_hoist rfl rfl rfl (ev_move rfl) .free rfl (v_mark rfl rfl (go_pk [1, 2] ?_)))
    refine p_call rfl (en_f Tryz.call52 rfl) (hblock_ok B _ bh bs bt x h s hc hu) .free rfl rfl ?_ ?_
    rotate_left
    · rintro _ _ ⟨⟩
    rintro _ _ ⟨sv, hsv, rfl, rfl⟩
    refine p_nil (v_on (v_mark rfl rfl (p_callq rfl (en_f Tryz.call122 rfl) (ro_at (q := DevA) (fun Fr => obj_ok _ Fr _ _ h.c hc (h.blk s) sv hbk hsv _ (by have := hW.pb n; omega))) .free rfl rfl ?_)))
    refine p_nil (v_off rfl (v_val rfl rfl rfl (ev_ext rfl rfl) .free rfl (v_val rfl rfl rfl (ev_ext rfl rfl) .free rfl (v_mark rfl rfl (p_chg0 rfl (ch_storeA (vs := _) Tryz.sizeOf105 rfl rfl rfl rfl rfl) .free rfl ?_)))))
    rintro _ _ rfl
    refine p_nil (v_off rfl (v_val rfl rfl rfl (ev_assign rfl) .free rfl (v_nil (go_sb [5, 4] rfl (g_ret ?_)))))
    exact ret_2 Tryz.results60 (.cellA rfl Tryz.isAgg105 Tryz.sizeOf105 rfl rfl) (.tmp rfl) (fun w hw => ⟨by rw [hres]; rfl, ((hw.dp [0, 2]).pk [0, 1])⟩)
theorem hplc_ok (B : World) (Fr : List HP) (bh bs bt x : Nat) (h : HpS) (s : Dev) (n : Int) :
    ∀ w, Holds B (hepRow bh bs bt x h :: TabA bt h.T :: Fr) w → Calls Tryz.prog 58 [ptr bh, i64 n].toArray w (PureR B (hepRow bh bs bt x h :: TabA bt h.T :: Fr) (.tuple #[i64 (h.plc n).1, i64 (h.plc n).2])) := by
  refine fn_enter Tryz.func58 rfl Tryz.ntmps58 rfl (g_seq (g_region (kPa rfl rfl (kPa rfl rfl (p_nil (g_seq (g_region (kPm rfl rfl ?_))))))))
  first | refine kPv (ev_nil rfl) rfl ?_ | refine kPv (ev_nilf rfl) rfl ?_
  refine kPv (ev_fa (m := _) fa_93_3 rfl rfl) rfl (kPv (ev_load Tryz.isAgg90 rfl rfl) rfl (kPm rfl rfl (p_callq rfl (en_f Tryz.call121 rfl) (ro_at (q := TabA) (fun Fr => hplace_ok _ Fr bt h.T n)) .free rfl rfl ?_)))
  refine kPm rfl rfl (kPv (ev_ext rfl rfl) rfl (kPv (ev_ext rfl rfl) rfl (kPa rfl rfl (kPa rfl rfl (p_nil (go_sb [7, 6, 5, 4, 1] rfl (g_seq (g_seq (g_region (kPm rfl rfl (kPv (ev_not rfl) rfl ?_)))))))))))
  refine kPm rfl rfl ?_
  apply p_and (tp := 22) (t := 19) (σ1 := [(19, _), (6, _), (5, _), (4, _)]) 3 rfl (sub_r rfl)
  · intro hg1
    refine p_val rfl (ev_move rfl) (.on rfl rfl (beq_eq hg1)) rfl rfl (p_val rfl (ev_cmp rfl rfl rfl) (.on rfl rfl (beq_eq hg1)) rfl rfl (kPv (ev_pick_t rfl hg1 rfl) rfl ?_))
    exact p_seg rfl (sub_r rfl) (and_t hg1)
  · intro hg1
    refine p_skip rfl (.on rfl rfl (beq_ne hg1)) rfl (p_skip rfl (.on rfl rfl (beq_ne hg1)) rfl (kPv (ev_pick_f rfl hg1 rfl) rfl ?_))
    exact p_seg rfl (sub_r rfl) (and_f hg1)
  refine p_nil ?_
  refine g_if rfl (fun h22 => ?_) (fun h22 => ?_)
  · have hk : ¬ ((mget h.T.at_ n).isSome = true ∨ n = 0) := by simpa using h22
    have hres : h.plc n = (0, 6) := by unfold HpS.plc; rw [if_neg hk]
    refine g_seq (g_region (kPa rfl rfl (kPa rfl rfl (p_nil (g_ret ?_)))))
    exact ret_tmp2 Tryz.results58 rfl rfl (fun w hw => ⟨by rw [hres], hw⟩)
  · have hk : (mget h.T.at_ n).isSome = true ∨ n = 0 := by
      cases hm : (mget h.T.at_ n).isSome <;> simp [hm] at h22 <;> simp [h22]
    have hres : h.plc n = ((mget h.T.at_ n).getD 0, 0) := by unfold HpS.plc; rw [if_pos hk]
    refine g_skip (g_seq (g_region (kPm rfl rfl (kPa rfl rfl (kPa rfl rfl (p_nil (g_ret ?_)))))))
    exact ret_tmp2 Tryz.results58 rfl rfl (fun w hw => ⟨by rw [hres]; rfl, hw⟩)
theorem hwords_ok (B : World) (Fr : List HP) (bh bs bt x : Nat) (h : HpS) (s : Dev) (hW : HepW h s) :
    ∀ w, Holds B (hepRow bh bs bt x h :: TabA bt h.T :: Fr) w → Calls Tryz.prog 79 [ptr bh].toArray w (Ret B (fun rv H' => cell1 rv = true ∧ H' = VecU 0 (rv, h.words) :: hepRow bh bs bt x h :: TabA bt h.T :: Fr) (fun _ _ => False)) := by
  refine fn_enter Tryz.func79 rfl Tryz.ntmps79 rfl ?_
  have hkl : (sortI (h.T.at_.map Prod.fst)).length ≤ 800000 := by have := hW.tl; rw [sortI, List.length_mergeSort, List.length_map]; exact this
  refine g_seq (g_region (kPa rfl rfl (p_nil (g_seq (g_region (kPa rfl rfl (p_nil (g_seq (g_seq (go_conv (fun w hh => vec_nil (T := 26) (enc := w64) hh) (g_region ?_)))))))))))
  refine kPm rfl rfl ?_
  first | refine kPv (ev_nil rfl) rfl ?_ | refine kPv (ev_nilf rfl) rfl ?_
  refine kPv (ev_fa (m := _) fa_93_3 rfl rfl) rfl (kPv (ev_load Tryz.isAgg90 rfl rfl) rfl (go_pk [2] ?_))
  refine p_call rfl (en_f Tryz.call75 rfl) (hnumbers_ok B _ bt h.T (by have := hW.tl; omega)) .free rfl rfl ?_ ?_
  rotate_left
  · rintro _ _ ⟨⟩
  rintro rv _ rfl
  refine go_conv (fun w hh => accv_vec hh) (go_vecq fun qn cn hqn hqi => ?_)
  subst hqn
  refine kPv (ev_len rfl Tryz.runUnderlying125 ⟨_, rfl⟩ rfl) rfl (kPm rfl rfl (p_nil (g_block (g_loopk (ι := Nat × Value × List Int) [13, 12, 2, 0] (fun (k, sv, ws) => (k ≤ (sortI (h.T.at_.map Prod.fst)).length) ∧ (cell1 sv = true) ∧ (ws = ((sortI (h.T.at_.map Prod.fst)).take k).map (fun n => (mget h.T.at_ n).getD 0)) ∧ (ws.length = k)) (fun (k, sv, ws) => [(14, i64 k), (3, sv)]) (fun (k, sv, ws) => VecA 26 w64 0 (sv, ws) :: VecA 3 i64 0 (.slice qn (sortI (h.T.at_.map Prod.fst)).length cn, (sortI (h.T.at_.map Prod.fst))) :: TabA bt h.T :: hepRow bh bs bt x h :: Fr) (fun (k, sv, ws) => (sortI (h.T.at_.map Prod.fst)).length - k) (0, .slice none 0 0, []) (⟨Nat.zero_le _, rfl, rfl, rfl⟩) (fun a w st => st.to ⟨rfl, rfl, trivial⟩ (fun hh => (hh.pk [2]))) ?_))))
  rintro ⟨k, sv, ws⟩ ⟨hk0, hsv, hws, hwl⟩
  try simp only at hk0 hsv hws hwl ⊢
  refine go_sub (σ' := [(14, i64 k), (3, sv), (13, _), (12, _), (2, _), (0, _)]) (sub_r rfl) (g_seq (g_region (kPv (ev_cmp rfl rfl rfl) rfl (p_nil (g_seq ?_)))))
  refine g_if rfl (fun h15 => ?_) (fun h15 => ?_)
  · have hk : k < (sortI (h.T.at_.map Prod.fst)).length := by simpa using h15
    obtain ⟨bN, oN, rfl⟩ := hqi k hk
    have hpb := hW.pb (sortI (h.T.at_.map Prod.fst))[k]
    refine g_skip (g_seq (g_block (g_seq (g_region (kPv (ev_iaS Tryz.runUnderlying125 Tryz.sizeOf3 rfl rfl (by omega) (by omega)) rfl ?_)))))
    refine kPv (ev_loadS (v := i64 (sortI (h.T.at_.map Prod.fst))[k]) Tryz.isAgg3 (vec_slr 1 rfl) rfl (by rw [Int.toNat_natCast, List.getElem?_map, List.getElem?_eq_getElem hk]; rfl)) rfl ?_
    refine kPa rfl rfl (p_nil (g_seq (g_region (kPm rfl rfl ?_))))
    first | refine kPv (ev_nil rfl) rfl ?_ | refine kPv (ev_nilf rfl) rfl ?_
    refine kPv (ev_fa (m := _) fa_93_3 rfl rfl) rfl (kPv (ev_load Tryz.isAgg90 rfl rfl) rfl (kPm rfl rfl (p_callq rfl (en_f Tryz.call121 rfl) (ro_at (q := TabA) (fun Fr => hplace_ok _ Fr bt h.T (sortI (h.T.at_.map Prod.fst))[k])) .free rfl rfl ?_)))
    refine kPm rfl rfl (kPv (ev_ext rfl rfl) rfl (kPv (ev_ext rfl rfl) rfl (kPa rfl rfl (kPa rfl rfl (p_nil (go_sb [6, 14, 3, 13, 12, 2, 0] rfl (g_region (kPm rfl rfl (kPm rfl rfl (kPv (ev_conv Tryz.runUnderlying3 Tryz.runUnderlying26 rfl (wru64 (by omega))) rfl (p_chg rfl (ch_bs1 Tryz.runUnderlying25 Tryz.sizeOf26 Tryz.zeroValue26 rfl rfl rfl) .free rfl rfl ?_)))))))))))
    rintro _ _ ⟨b30, rfl, rfl⟩
    refine go_pk [1, 0] (p_chg rfl (ch_append_vec rfl rfl Tryz.runUnderlying25 Tryz.runUnderlying25 ⟨_, rfl⟩ Tryz.sizeOf26 Tryz.zeroValue26 rfl (fun _ => rfl) tb_26 rfl rfl (by omega)) .free rfl rfl ?_)
    rintro sv9 _ ⟨hsv9, rfl⟩
    refine kPa rfl rfl (p_nil (g_region ?_))
    first | refine p_val rfl (ev_add rfl rfl (wr64 (by omega))) .free rfl rfl ?_ | refine p_val rfl (ev_add rfl rfl rfl) .free rfl rfl ?_
    refine kPm rfl rfl (p_nil (go_sb [14, 3, 13, 12, 2, 0] rfl ?_))
    exact fun a w st_ => ⟨(k + 1, sv9, ws ++ [(mget h.T.at_ (sortI (h.T.at_.map Prod.fst))[k]).getD 0]), ⟨by omega, hsv9, by rw [List.take_succ_eq_append_getElem hk, List.map_append, ← hws]; rfl, by simp [hwl]⟩, by omega, st_.to (sub_r rfl) (fun hh => hh)⟩
  · have h9 : ¬ k < (sortI (h.T.at_.map Prod.fst)).length := by simpa using h15
    have hk : k = (sortI (h.T.at_.map Prod.fst)).length := by omega
    have hres : ws = h.words := by rw [hws, hk, List.take_length]; rfl
    refine g_exit (g_seq (g_region (kPm rfl rfl (kPa rfl rfl (p_nil (go_sb [2] rfl (g_ret ?_)))))))
    exact ret_tmp Tryz.results79 rfl (fun w hw => ⟨_, ⟨hsv, rfl⟩, by rw [← hres]; exact ((hw.dp [1]).pk [0, 1])⟩)
theorem hall_ok (B : World) (Fr : List HP) (bh bs bt x : Nat) (h : HpS) (s : Dev) (hW : HepW h s) :
    ∀ w, Holds B (hepRow bh bs bt x h :: TabA bt h.T :: DevA h.bd s :: Fr) w → Calls Tryz.prog 74 [ptr bh].toArray w (Ret B (fun rv H' => cell1 rv = true ∧ H' = VecU 0 (rv, h.words ++ (h.blk s).rts) :: hepRow bh bs bt x h :: TabA bt h.T :: DevA h.bd s :: Fr) (fun _ _ => False)) := by
  refine fn_enter Tryz.func74 rfl Tryz.ntmps74 rfl ?_
  have hc := hW.c
  have hu := hW.u
  have hbk := block_w (s := s) hc hu
  have hbl : (h.blk s).rts.length ≤ 16 := block_len (s := s) hc
  have hwl : h.words.length ≤ 800000 := by have := hW.tl; simp [HpS.words, sortI]; exact this
  refine g_seq (g_region (kPa rfl rfl (p_nil (g_seq (g_region (kPm rfl rfl ?_))))))
  refine p_call rfl (en_f Tryz.call79 rfl) (hwords_ok B _ bh bs bt x h s hW) .free rfl rfl ?_ ?_
  rotate_left
  · rintro _ _ ⟨⟩
  rintro wv _ ⟨hwv, rfl⟩
  refine kPm rfl rfl (go_pk [1, 2] ?_)
  refine p_call rfl (en_f Tryz.call52 rfl) (hblock_ok B _ bh bs bt x h s hW.c hW.u) .free rfl rfl ?_ ?_
  rotate_left
  · rintro _ _ ⟨⟩
  rintro _ _ ⟨sv, hsv, rfl, rfl⟩
  refine go_vecq fun qb cb hqb hqbi => ?_
  subst hqb
  refine kPv (ev_field1 Tryz.runUnderlying95 (t := 25) (off := 2) rfl Tryz.isAgg25 rfl rfl) rfl (go_pk [3] (p_chg rfl (ch_append_vecs0 (yv := (.slice qb (h.blk s).rts.length cb)) (ys := (h.blk s).rts) rfl rfl Tryz.runUnderlying25 Tryz.runUnderlying25 ⟨_, rfl⟩ Tryz.sizeOf26 Tryz.zeroValue26 rfl (fun _ => rfl) tb_26 rfl rfl (vec_slr (1 - 1) rfl) (by omega)) .free rfl rfl ?_))
  rintro nv _ ⟨hnv, rfl⟩
  refine kPa rfl rfl (p_nil (go_sb [2] rfl (g_ret ?_)))
  exact ret_tmp Tryz.results74 rfl (fun w hw => ⟨_, ⟨hnv, rfl⟩, ((hw.dp [1]).pk [0, 0, 1])⟩)
end Go.Proofs.YtlcibdhmgclfjaaGreat
namespace Go.Proofs.YtlcibdhmgclfjaaGreat
open Go
section
variable {B : World} {Fr : List HP} {bh bs bt x : Nat} {h : HpS} {w : World}
theorem hep_O (ho : h.o = true) (hh : Holds B (hepRow bh bs bt x h :: SecO bs h.S :: TabA bt h.T :: ColO x h.X :: Fr) w) : Holds B (HepA bh h :: Fr) w := hep_holds (bs := bs) (bt := bt) (x := x) (by rw [ho]; exact hh)
theorem hep_C (ho : h.o = false) (hh : Holds B (hepRow bh bs bt x h :: SecC bs h.S :: TabA bt h.T :: ColO x h.X :: Fr) w) : Holds B (HepA bh h :: Fr) w := hep_holds (bs := bs) (bt := bt) (x := x) (by rw [ho]; exact hh)
end
theorem sopenB_ok (B : World) (Fr : List HP) (bs : Nat) (S : SecS) (o : Bool) : ∀ w, Holds B (SecB o bs S :: Fr) w → Calls Tryz.prog 51 [ptr bs].toArray w (PureR B (SecB o bs S :: Fr) (.bool o)) := by
  cases o
  · exact sopenC_ok B Fr bs S
  · exact sopenO_ok B Fr bs S
theorem HpS.obj_w {h : HpS} {s : Dev} (hW : HepW h s) {n : Int} (e : (h.obj s n).2 = 0) : ObjW (h.obj s n).1 := by
  unfold HpS.obj at e ⊢
  split at e
  · rename_i hm
    rw [if_pos hm]
    exact objOf_w hW.c (block_w hW.c hW.u) e
  · cases e
theorem HpS.plc_b {h : HpS} {s : Dev} (hW : HepW h s) (n : Int) : 0 ≤ (h.plc n).1 ∧ (h.plc n).1 ≤ 1000000 := by
  unfold HpS.plc
  split
  · exact hW.pb n
  · exact ⟨by decide, by decide⟩
def HpS.commit (h : HpS) (s : Dev) : Out (Int × HpS) := if h.o = true then (h.S.commit s).then fun S s => .ok (0, { h with o := false, S := S }) s else .ok (2, h) s
def HpS.read (h : HpS) (s : Dev) (n i : Int) : Int × Int := if (h.obj s n).2 ≠ 0 then (0, (h.obj s n).2) else s.objRead (h.obj s n).1 i
def HpS.ref (h : HpS) (s : Dev) (n i : Int) : (Int × Int) × HpS := if (h.obj s n).2 ≠ 0 then ((0, (h.obj s n).2), h) else (((h.T.take (s.objRef (h.obj s n).1 i).1).1, (s.objRef (h.obj s n).1 i).2), { h with T := (h.T.take (s.objRef (h.obj s n).1 i).1).2 })
def HpS.root (h : HpS) (s : Dev) (i : Int) : (Int × Int) × HpS := if i < 0 ∨ h.c.roots ≤ i then ((0, 1), h) else (((h.T.take (IntKind.i64.wrap (s.load (h.c.root i)))).1, 0), { h with T := (h.T.take (IntKind.i64.wrap (s.load (h.c.root i)))).2 })
def HpS.alloc (h : HpS) (s : Dev) (w r : Int) : Out ((Int × Int) × HpS) := if h.o = true then (allocM secOp h.c w r s h.S).then fun x s => if x.1.2 ≠ 0 then .ok ((0, x.1.2), { h with S := x.2 }) s else .ok (((h.T.take x.1.1).1, 0), { h with S := x.2, T := (h.T.take x.1.1).2 }) s else .ok ((0, 2), h) s
def HpS.write (h : HpS) (s : Dev) (n i v : Int) : Out (Int × HpS) := if h.o = true then (if (h.obj s n).2 ≠ 0 then .ok ((h.obj s n).2, h) s else (setM secOp (h.obj s n).1 i false v s h.S).then fun x s => .ok (x.1, { h with S := x.2 }) s) else .ok (2, h) s
def HpS.point (h : HpS) (s : Dev) (n i to_ : Int) : Out (Int × HpS) := if h.o = true then (if (h.obj s n).2 ≠ 0 then .ok ((h.obj s n).2, h) s else if (h.plc to_).2 ≠ 0 then .ok ((h.plc to_).2, h) s else (setM secOp (h.obj s n).1 i true (h.plc to_).1 s h.S).then fun x s => .ok (x.1, { h with S := x.2 }) s) else .ok (2, h) s
def HpS.setRoot (h : HpS) (s : Dev) (i to_ : Int) : Out (Int × HpS) := if h.o = true then (if i < 0 ∨ h.c.roots ≤ i then .ok (1, h) s else if (h.plc to_).2 ≠ 0 then .ok ((h.plc to_).2, h) s else (h.S.store s (h.c.root i) (h.plc to_).1).then fun x s => .ok (x.1, { h with S := x.2 }) s) else .ok (2, h) s
theorem oref_ok (B : World) (Fr : List HP) (bd : Nat) (s : Dev) (o : Obj3) (ho : ObjW o) (i : Int) :
    ∀ w, Holds B (DevA bd s :: Fr) w → Calls Tryz.prog 82 [objV o, ptr bd, i64 i].toArray w (PureR B (DevA bd s :: Fr) (.tuple #[i64 (s.objRef o i).1, i64 (s.objRef o i).2])) := by
  refine fn_enter Tryz.func82 rfl Tryz.ntmps82 rfl (g_seq (g_region (p_chg rfl (ch_boxA rfl) .free rfl rfl ?_)))
  rintro _ _ ⟨b3, rfl, rfl⟩
  refine kPa rfl rfl (kPa rfl rfl (p_nil (g_seq (g_region (kPv (ev_loadA Tryz.isAgg105 Tryz.sizeOf105 rfl rfl) rfl ?_)))))
  refine kPm rfl rfl (p_callq rfl (en_f Tryz.call123 rfl) (field_ok _ _ o ho i _) .free rfl rfl ?_)
  refine kPm rfl rfl (kPv (ev_ext rfl rfl) rfl (kPv (ev_ext rfl rfl) rfl (kPa rfl rfl (kPa rfl rfl (p_nil (go_sb [9, 8, 7, 6, 1] rfl (g_seq (g_seq (g_region (kPm rfl rfl (kPv (ev_cmp rfl rfl rfl) rfl ?_)))))))))))
  refine p_nil ?_
  refine g_if rfl (fun h17 => ?_) (fun h17 => ?_)
  · have hk : (objField o i true).2 ≠ 0 := by simpa using h17
    have hres : s.objRef o i = (0, (objField o i true).2) := by unfold Dev.objRef; rw [if_pos hk]
    refine g_seq (g_region (kPm rfl rfl (kPa rfl rfl (kPa rfl rfl (p_nil (g_ret ?_))))))
    exact ret_tmp2 Tryz.results82 rfl rfl (fun w hh => ⟨by rw [hres] <;> rfl, hh.tail⟩)
  · have hk : ¬ (objField o i true).2 ≠ 0 := by simpa using h17
    have hres : s.objRef o i = (IntKind.i64.wrap (s.load (objField o i true).1), 0) := by unfold Dev.objRef; rw [if_neg hk]
    refine g_skip (g_seq (g_region (kPm rfl rfl (kPm rfl rfl (p_callq rfl (en_f Tryz.call71 rfl) (ro_at (q := DevA) (fun Fr => nload_ok _ Fr _ _ _)) .free rfl rfl ?_)))))
    refine kPv (ev_conv Tryz.runUnderlying26 Tryz.runUnderlying3 rfl rfl) rfl (kPa rfl rfl (kPa rfl rfl (p_nil (go_sb [7, 6] rfl (g_ret ?_)))))
    exact ret_tmp2 Tryz.results82 rfl rfl (fun w hh => ⟨by rw [hres] <;> rfl, hh.tail⟩)
theorem hhead_ok (B : World) (Fr : List HP) (bh : Nat) (h : HpS) (s : Dev) (hW : HepW h s) (n : Int) :
    ∀ w, Holds B (HepA bh h :: DevA h.bd s :: Fr) w → Calls Tryz.prog 27 [ptr bh, i64 n].toArray w (PureR B (HepA bh h :: DevA h.bd s :: Fr) (.tuple #[.agg #[i64 (h.obj s n).1.1, i64 (h.obj s n).1.2.1], i64 (h.obj s n).2])) := by
  refine fn_enter Tryz.func27 rfl Tryz.ntmps27 rfl (go_hep fun bs bt x => (g_seq (g_region (p_chg rfl (ch_allocA Tryz.zeroValue38 rfl) .free rfl rfl ?_))))
  rintro _ _ ⟨b4, rfl, rfl⟩
  refine kPa rfl rfl (p_nil (g_seq (g_region (kPm rfl rfl (kPm rfl rfl (go_pk [1, 2, 3] (p_callq rfl (en_f Tryz.call60 rfl) (hobject_ok B _ bh bs bt x h s hW n) .free rfl rfl ?_)))))))
  refine kPm rfl rfl (kPv (ev_ext rfl rfl) rfl (kPv (ev_ext rfl rfl) rfl (p_chg rfl (ch_allocA Tryz.zeroValue105 rfl) .free rfl rfl ?_)))
  rintro _ _ ⟨b6, rfl, rfl⟩
  refine p_chg0 rfl (ch_storeA (vs := _) Tryz.sizeOf105 rfl rfl rfl rfl rfl) .free rfl ?_
  rintro _ _ rfl
  refine kPa rfl rfl (p_nil (go_sb [7, 6, 5, 4] rfl (g_seq (g_region (kPv (ev_fa (m := _) fa_105_0 rfl rfl) rfl (kPv (ev_loadA Tryz.isAgg38 Tryz.sizeOf38 rfl rfl) rfl ?_))))))
  refine kPm rfl rfl (p_chg0 rfl (ch_storeA (vs := _) Tryz.sizeOf38 rfl rfl rfl rfl rfl) .free rfl ?_)
  rintro _ _ rfl
  refine kPa rfl rfl (p_nil (g_ret ?_))
  exact ret_2 Tryz.results27 (.cellA rfl Tryz.isAgg38 Tryz.sizeOf38 rfl rfl) (.tmp rfl) (fun w hw => ⟨rfl, hep_holds (bs := bs) (bt := bt) (x := x) ((hw.dp [0, 3]).pk [0, 2, 0, 1])⟩)
theorem hpcheck_ok (B : World) (Fr : List HP) (bh : Nat) (h : HpS) (s : Dev) (hW : HepW h s) :
    ∀ w, Holds B (HepA bh h :: DevA h.bd s :: Fr) w → Calls Tryz.prog 39 [ptr bh].toArray w (PureR B (HepA bh h :: DevA h.bd s :: Fr) (i64 (s.check h.c))) := by
  refine fn_enter Tryz.func39 rfl Tryz.ntmps39 rfl (go_hep fun bs bt x => (g_seq (g_region (kPa rfl rfl (p_nil (g_seq (g_draw Tryz.mixed (by kernel_rfl) (by kernel_rfl) ?_)))))))
  refine kQm rfl rfl ?_
  first | refine kQv (ev_nil rfl) rfl ?_ | refine kQv (ev_nilf rfl) rfl ?_
  refine kQv (ev_fa (m := _) fa_93_0 rfl rfl) rfl (kQv (ev_load Tryz.isAgg28 rfl rfl) rfl (kQm rfl rfl ?_))
  first | refine kQv (ev_nil rfl) rfl ?_ | refine kQv (ev_nilf rfl) rfl ?_
  refine kQv (ev_fa (m := _) fa_93_1 rfl rfl) rfl (kQv (ev_loadA Tryz.isAgg40 Tryz.sizeOf40 rfl rfl) rfl ?_)
  refine q_call rfl (en_f Tryz.call68 rfl) (ro_at (q := DevA) (fun Fr => ccheck_ok _ Fr h.bd s h.c hW.c hW.u)) .free rfl ?_
  refine kQa rfl rfl (q_nil (go_sb [2] rfl (g_ret ?_)))
  exact ret_tmp Tryz.results39 rfl (fun w hw => ⟨rfl, hep_holds (bs := bs) (bt := bt) (x := x) hw⟩)
theorem hpdrop_ok (B : World) (Fr : List HP) (bh : Nat) (h : HpS) (s : Dev) (hW : HepW h s) (n : Int) :
    ∀ w, Holds B (HepA bh h :: DevA h.bd s :: Fr) w → Calls Tryz.prog 26 [ptr bh, i64 n].toArray w (Ret B (fun rv H' => rv = i64 (if (mget h.T.at_ n).isSome = true then 0 else 6) ∧ H' = HepA bh { h with T := h.T.drop n } :: DevA h.bd s :: Fr) (fun _ _ => False)) := by
  refine fn_enter Tryz.func26 rfl Tryz.ntmps26 rfl (go_hep fun bs bt x => (g_seq (g_region (kPa rfl rfl (p_nil (g_seq (g_seq (g_region (kPm rfl rfl ?_)))))))))
  first | refine kPv (ev_nil rfl) rfl ?_ | refine kPv (ev_nilf rfl) rfl ?_
  refine kPv (ev_fa (m := _) fa_93_3 rfl rfl) rfl (kPv (ev_load Tryz.isAgg90 rfl rfl) rfl (kPm rfl rfl (go_pk [2] ?_)))
  refine p_call rfl (en_f Tryz.call83 rfl) (hdrop_ok B _ bt h.T n) .free rfl rfl ?_ ?_
  rotate_left
  · rintro _ _ ⟨⟩
  rintro _ _ ⟨rfl, rfl⟩
  refine kPv (ev_not rfl) rfl (p_nil (go_sb [11, 4] rfl ?_))
  refine g_if rfl (fun h11 => ?_) (fun h11 => ?_)
  · have hk : ¬ (mget h.T.at_ n).isSome = true := by simpa using h11
    refine g_seq (g_region (kPa rfl rfl (p_nil (g_ret ?_))))
    exact ret_tmp Tryz.results26 rfl (fun w hw => ⟨_, ⟨by rw [if_neg hk], rfl⟩, hep_holds (h := { h with T := h.T.drop n }) (bs := bs) (bt := bt) (x := x) (hw.pk [1, 1])⟩)
  · have hk : (mget h.T.at_ n).isSome = true := by simpa using h11
    refine g_skip (g_seq (g_region (kPa rfl rfl (p_nil (g_ret ?_)))))
    exact ret_tmp Tryz.results26 rfl (fun w hw => ⟨_, ⟨by rw [if_pos hk], rfl⟩, hep_holds (h := { h with T := h.T.drop n }) (bs := bs) (bt := bt) (x := x) (hw.pk [1, 1])⟩)
theorem href_ok (B : World) (Fr : List HP) (bh : Nat) (h : HpS) (s : Dev) (hW : HepW h s) (n i : Int) :
    ∀ w, Holds B (HepA bh h :: DevA h.bd s :: Fr) w → Calls Tryz.prog 25 [ptr bh, i64 n, i64 i].toArray w (Ret B (fun rv H' => rv = .tuple #[i64 (h.ref s n i).1.1, i64 (h.ref s n i).1.2] ∧ H' = HepA bh (h.ref s n i).2 :: DevA h.bd s :: Fr) (fun _ _ => False)) := by
  refine fn_enter Tryz.func25 rfl Tryz.ntmps25 rfl (go_hep fun bs bt x => (g_seq (g_region (kPa rfl rfl (kPa rfl rfl (p_nil (g_seq (g_region (kPm rfl rfl (kPm rfl rfl (go_pk [0, 1, 2] ?_)))))))))))
  refine p_callq rfl (en_f Tryz.call60 rfl) (hobject_ok B _ bh bs bt x h s hW n) .free rfl rfl ?_
  refine kPm rfl rfl (kPv (ev_ext rfl rfl) rfl (kPv (ev_ext rfl rfl) rfl (p_chg rfl (ch_allocA Tryz.zeroValue105 rfl) .free rfl rfl ?_)))
  rintro _ _ ⟨b8, rfl, rfl⟩
  refine p_chg0 rfl (ch_storeA (vs := _) Tryz.sizeOf105 rfl rfl rfl rfl rfl) .free rfl ?_
  rintro _ _ rfl
  refine kPa rfl rfl (p_nil (go_sb [9, 8, 7, 6, 0, 2] rfl (g_seq (g_seq (g_region (kPm rfl rfl (kPv (ev_cmp rfl rfl rfl) rfl (p_nil ?_))))))))
  refine g_if rfl (fun h18 => ?_) (fun h18 => ?_)
  · have hk : (h.obj s n).2 ≠ 0 := by simpa using h18
    refine g_seq (g_region (kPm rfl rfl (kPa rfl rfl (kPa rfl rfl (p_nil (g_ret ?_))))))
    exact ret_tmp2 Tryz.results25 rfl rfl (fun w hw => ⟨_, ⟨by unfold HpS.ref; rw [if_pos hk]; rfl, rfl⟩, by unfold HpS.ref; rw [if_pos hk]; exact hep_holds (bs := bs) (bt := bt) (x := x) ((hw.dp [0]).pk [0, 2, 0, 1])⟩)
  · have hk : ¬ (h.obj s n).2 ≠ 0 := by simpa using h18
    have how := HpS.obj_w hW (n := n) (by omega)
    refine g_skip (g_seq (g_draw Tryz.mixed (by kernel_rfl) (by kernel_rfl) ?_))
    refine kQv (ev_loadA Tryz.isAgg105 Tryz.sizeOf105 rfl rfl) rfl ?_
    refine kQm rfl rfl ?_
    first | refine kQv (ev_nil rfl) rfl ?_ | refine kQv (ev_nilf rfl) rfl ?_
    refine kQv (ev_fa (m := _) fa_93_0 rfl rfl) rfl (kQv (ev_load Tryz.isAgg28 rfl rfl) rfl (kQm rfl rfl (q_call rfl (en_f Tryz.call82 rfl) (ro_at (q := DevA) (fun Fr => oref_ok _ Fr h.bd s _ how i)) .free rfl ?_)))
    refine kQm rfl rfl (kQv (ev_ext rfl rfl) rfl (kQv (ev_ext rfl rfl) rfl (kQa rfl rfl (kQa rfl rfl (q_nil (go_sb [9, 10, 7, 6, 0] rfl (g_seq (g_region (kPm rfl rfl ?_)))))))))
    first | refine kPv (ev_nil rfl) rfl ?_ | refine kPv (ev_nilf rfl) rfl ?_
    refine kPv (ev_fa (m := _) fa_93_3 rfl rfl) rfl (kPv (ev_load Tryz.isAgg90 rfl rfl) rfl (kPm rfl rfl (go_pk [2] ?_)))
    refine p_call rfl (en_f Tryz.call57 rfl) (htake_ok B _ bt h.T (s.objRef (h.obj s n).1 i).1 hW.t1) .free rfl rfl ?_ ?_
    rotate_left
    · rintro _ _ ⟨⟩
    rintro _ _ ⟨rfl, rfl⟩
    refine kPm rfl rfl (kPa rfl rfl (kPa rfl rfl (p_nil (go_sb [7, 6] rfl (g_ret ?_)))))
    exact ret_tmp2 Tryz.results25 rfl rfl (fun w hw => ⟨_, ⟨by unfold HpS.ref; rw [if_neg hk]; rfl, rfl⟩, by unfold HpS.ref; rw [if_neg hk]; exact hep_holds (h := { h with T := (h.T.take (s.objRef (h.obj s n).1 i).1).2 }) (bs := bs) (bt := bt) (x := x) ((hw.dp [1]).pk [1, 2, 0, 1])⟩)
theorem hroot_ok (B : World) (Fr : List HP) (bh : Nat) (h : HpS) (s : Dev) (hW : HepW h s) (i : Int) :
    ∀ w, Holds B (HepA bh h :: DevA h.bd s :: Fr) w → Calls Tryz.prog 20 [ptr bh, i64 i].toArray w (Ret B (fun rv H' => rv = .tuple #[i64 (h.root s i).1.1, i64 (h.root s i).1.2] ∧ H' = HepA bh (h.root s i).2 :: DevA h.bd s :: Fr) (fun _ _ => False)) := by
  refine fn_enter Tryz.func20 rfl Tryz.ntmps20 rfl (go_hep fun bs bt x => (g_seq (g_region (kPa rfl rfl (kPa rfl rfl (p_nil (g_seq (g_seq (g_region (kPm rfl rfl (kPv (ev_cmp rfl rfl rfl) rfl ?_)))))))))))
  refine kPm rfl rfl ?_
  apply p_or (tp := 16) (t := 8) (σ1 := [(8, _), (5, _), (4, _), (0, _), (1, _)]) 8 rfl (sub_r rfl)
  · intro hg1
    refine p_val rfl (ev_move rfl) (.on rfl rfl (beq_eq hg1)) rfl rfl (p_val rfl (ev_move rfl) (.on rfl rfl (beq_eq hg1)) rfl rfl ?_)
    first | refine p_val rfl (ev_nil rfl) (.on rfl rfl (beq_eq hg1)) rfl rfl ?_ | refine p_val rfl (ev_nilf rfl) (.on rfl rfl (beq_eq hg1)) rfl rfl ?_
    refine p_val rfl (ev_fa (m := _) fa_93_1 rfl rfl) (.on rfl rfl (beq_eq hg1)) rfl rfl (p_val rfl (ev_fa (m := _) fa_40_1 rfl rfl) (.on rfl rfl (beq_eq hg1)) rfl rfl (p_val rfl (ev_load Tryz.isAgg3 rfl rfl) (.on rfl rfl (beq_eq hg1)) rfl rfl (p_val rfl (ev_cmp rfl rfl rfl) (.on rfl rfl (beq_eq hg1)) rfl rfl (kPv (ev_pick_f rfl hg1 rfl) rfl ?_))))
    exact p_seg rfl (sub_r rfl) (or_f hg1)
  · intro hg1
    refine p_skip rfl (.on rfl rfl (beq_ne hg1)) rfl (p_skip rfl (.on rfl rfl (beq_ne hg1)) rfl (p_skip rfl (.on rfl rfl (beq_ne hg1)) rfl (p_skip rfl (.on rfl rfl (beq_ne hg1)) rfl (p_skip rfl (.on rfl rfl (beq_ne hg1)) rfl (p_skip rfl (.on rfl rfl (beq_ne hg1)) rfl (p_skip rfl (.on rfl rfl (beq_ne hg1)) rfl (kPv (ev_pick_t rfl hg1 rfl) rfl ?_)))))))
    exact p_seg rfl (sub_r rfl) (or_t hg1)
  refine p_nil ?_
  refine g_if rfl (fun h16 => ?_) (fun h16 => ?_)
  · have hk : i < 0 ∨ h.c.roots ≤ i := by have h9 := h16; simp at h9; omega
    refine g_seq (g_region (kPa rfl rfl (kPa rfl rfl (p_nil (g_ret ?_)))))
    exact ret_tmp2 Tryz.results20 rfl rfl (fun w hw => ⟨_, ⟨by unfold HpS.root; rw [if_pos hk], rfl⟩, by unfold HpS.root; rw [if_pos hk]; exact hep_holds (bs := bs) (bt := bt) (x := x) hw⟩)
  · have hk : ¬ (i < 0 ∨ h.c.roots ≤ i) := by have h9 := h16; simp at h9; omega
    have hr2 := hW.c.r2
    refine g_skip (g_seq (g_drawt 16 Tryz.mixed (by kernel_rfl) (by kernel_rfl) ?_))
    refine kQm rfl rfl ?_
    first | refine kQv (ev_nil rfl) rfl ?_ | refine kQv (ev_nilf rfl) rfl ?_
    refine kQv (ev_fa (m := _) fa_93_3 rfl rfl) rfl (kQv (ev_load Tryz.isAgg90 rfl rfl) rfl (kQm rfl rfl ?_))
    first | refine kQv (ev_nil rfl) rfl ?_ | refine kQv (ev_nilf rfl) rfl ?_
    refine kQv (ev_fa (m := _) fa_93_0 rfl rfl) rfl (kQv (ev_load Tryz.isAgg28 rfl rfl) rfl (kQm rfl rfl ?_))
    first | refine kQv (ev_nil rfl) rfl ?_ | refine kQv (ev_nilf rfl) rfl ?_
    refine kQv (ev_fa (m := _) fa_93_1 rfl rfl) rfl (kQv (ev_loadA Tryz.isAgg40 Tryz.sizeOf40 rfl rfl) rfl ?_)
    refine kQm rfl rfl (q_call rfl (en_f Tryz.call59 rfl) (root_ok _ _ h.c hW.c i (by omega) (by omega)) .free rfl ?_)
    refine q_call rfl (en_f Tryz.call71 rfl) (ro_at (q := DevA) (fun Fr => nload_ok _ Fr _ _ _)) .free rfl ?_
    refine kQv (ev_conv Tryz.runUnderlying26 Tryz.runUnderlying3 rfl rfl) rfl (q_nil (go_pk [2] ?_))
    refine p_call rfl (en_f Tryz.call57 rfl) (htake_ok B _ bt h.T (IntKind.i64.wrap (s.load (h.c.root i))) hW.t1) .free rfl rfl ?_ ?_
    rotate_left
    · rintro _ _ ⟨⟩
    rintro _ _ ⟨rfl, rfl⟩
    refine kPa rfl rfl (kPa rfl rfl (p_nil (go_sb [5, 4] rfl (g_ret ?_))))
    exact ret_tmp2 Tryz.results20 rfl rfl (fun w hw => ⟨_, ⟨by unfold HpS.root; rw [if_neg hk], rfl⟩, by unfold HpS.root; rw [if_neg hk]; exact hep_holds (h := { h with T := (h.T.take (IntKind.i64.wrap (s.load (h.c.root i)))).2 }) (bs := bs) (bt := bt) (x := x) (hw.pk [1, 1])⟩)
theorem HepW.ok {h : HpS} {s : Dev} (hW : HepW h s) (ho : h.o = true) : U64 s ∧ s.n ≤ 1000000 ∧ SecW h.S ∧ h.S.L.d = h.bd ∧ h.S.L.c = h.c := ⟨hW.u, hW.k.n, (hW.sw ho).1, hW.k.d, hW.k.c⟩
theorem hwrite_ok (B : World) (Fr : List HP) (bh : Nat) (h : HpS) (s : Dev) (hW : HepW h s) (n i v : Int) (hv : 0 ≤ v ∧ v < 18446744073709551616) :
    ∀ w, Holds B (HepA bh h :: DevA h.bd s :: Fr) w → Calls Tryz.prog 14 [ptr bh, i64 n, i64 i, w64 v].toArray w (Ret B (fun rv H' => ∃ a h' s', h.write s n i v = .ok (a, h') s' ∧ rv = i64 a ∧ H' = HepA bh h' :: DevA h.bd s' :: Fr) (fun ch H' => ∃ s', h.write s n i v = .off s' ∧ ch = offc ∧ H' = DevA h.bd s' :: Fr)) := by
  refine fn_enter Tryz.func14 rfl Tryz.ntmps14 rfl (go_hep fun bs bt x => (g_seq (g_region (kPa rfl rfl (p_nil (g_seq (g_seq (g_region (kPm rfl rfl ?_)))))))))
  first | refine kPv (ev_nil rfl) rfl ?_ | refine kPv (ev_nilf rfl) rfl ?_
  refine kPv (ev_fa (m := _) fa_93_2 rfl rfl) rfl (kPv (ev_load Tryz.isAgg89 rfl rfl) rfl (p_callq rfl (en_f Tryz.call51 rfl) (ro_at (q := SecB h.o) (fun Fr => sopenB_ok B Fr bs h.S h.o)) .free rfl rfl ?_))
  refine kPv (ev_not rfl) rfl (p_nil ?_)
  refine g_if rfl (fun h16 => ?_) (fun h16 => ?_)
  · have ho : h.o = false := by simpa using h16
    have hof : ¬ h.o = true := by rw [ho]; decide
    refine g_seq (g_region (kPa rfl rfl (p_nil (g_ret ?_))))
    exact ret_tmp Tryz.results14 rfl (fun w hw => ⟨_, ⟨2, h, s, by unfold HpS.write; rw [if_neg hof], rfl, rfl⟩, hep_holds (bs := bs) (bt := bt) (x := x) hw⟩)
  · have ho : h.o = true := by simpa using h16
    refine go_pk [1] (go_conv (H' := SecO bs h.S :: _) (fun w hh => by rw [ho] at hh; exact hh) (g_skip (g_seq (g_region (kPm rfl rfl (kPm rfl rfl (go_pk [1, 1, 2] (p_callq rfl (en_f Tryz.call60 rfl) (hobject_ok B _ bh bs bt x h s hW n) .free rfl rfl ?_))))))))
    refine kPm rfl rfl (kPv (ev_ext rfl rfl) rfl (kPv (ev_ext rfl rfl) rfl (p_chg rfl (ch_allocA Tryz.zeroValue105 rfl) .free rfl rfl ?_)))
    rintro _ _ ⟨b9, rfl, rfl⟩
    refine p_chg0 rfl (ch_storeA (vs := _) Tryz.sizeOf105 rfl rfl rfl rfl rfl) .free rfl ?_
    rintro _ _ rfl
    refine kPa rfl rfl (p_nil (go_sb [10, 9, 8, 0, 2, 3] rfl (g_seq (g_seq (g_region (kPm rfl rfl (kPv (ev_cmp rfl rfl rfl) rfl (p_nil ?_))))))))
    refine g_if rfl (fun h24 => ?_) (fun h24 => ?_)
    · have hk : (h.obj s n).2 ≠ 0 := by simpa using h24
      refine g_seq (g_region (kPm rfl rfl (kPa rfl rfl (p_nil (g_ret ?_)))))
      exact ret_tmp Tryz.results14 rfl (fun w hw => ⟨_, ⟨(h.obj s n).2, h, s, by unfold HpS.write; rw [if_pos ho, if_pos hk], rfl, rfl⟩, hep_O (bs := bs) (bt := bt) (x := x) ho ((hw.dp [0]).pk [0, 2, 0, 1])⟩)
    · have hk : ¬ (h.obj s n).2 ≠ 0 := by simpa using h24
      have how := HpS.obj_w hW (n := n) (by omega)
      refine g_skip (g_seq (go_conv (H' := row b9 [i64 (h.obj s n).1.1, i64 (h.obj s n).1.2.1, i64 (h.obj s n).1.2.2] 105 :: _) (fun w hh => hh) (g_drawt 8 Tryz.mixed (by kernel_rfl) (by kernel_rfl) ?_)))
      refine kQv (ev_loadA Tryz.isAgg105 Tryz.sizeOf105 rfl rfl) rfl ?_
      refine kQm rfl rfl (kQm rfl rfl (kQm rfl rfl ?_))
      first | refine kQv (ev_nil rfl) rfl ?_ | refine kQv (ev_nilf rfl) rfl ?_
      refine kQv (ev_fa (m := _) fa_93_2 rfl rfl) rfl (kQv (ev_load Tryz.isAgg89 rfl rfl) rfl (kQv (ev_mkf rfl rfl) rfl (q_nil (go_pk [3, 3] ?_))))
      refine p_call rfl (en_f Tryz.call61 rfl) (owrite_ok B _ _ _ h.bd bs SecS (fun b S => SecO b S) _ _ (storeS B h.bd bs h.c) (h.obj s n).1 how i v hv s h.S (hW.ok ho)) .free rfl rfl ?_ ?_
      rotate_left
      · rintro _ _ ⟨s9, hm9, rfl, rfl⟩
        exact pan_fn fun w hh => ⟨_, ⟨s9, by unfold HpS.write; rw [if_pos ho, if_neg hk, show setM secOp (h.obj s n).1 i false v s h.S = .off s9 from hm9]; rfl, rfl, rfl⟩, hh.dp [1, 1, 1, 1]⟩
      rintro _ _ ⟨a2, S2, s2, hm2, rfl, hok2, rfl⟩
      refine kPa rfl rfl (p_nil (go_sb [8] rfl (g_ret ?_)))
      exact ret_tmp Tryz.results14 rfl (fun w hw => ⟨_, ⟨a2, { h with S := S2 }, s2, by unfold HpS.write; rw [if_pos ho, if_neg hk, show setM secOp (h.obj s n).1 i false v s h.S = .ok (a2, S2) s2 from hm2]; rfl, rfl, rfl⟩, hep_O (h := { h with S := S2, T := h.T }) (bs := bs) (bt := bt) (x := x) ho ((hw.dp [2]).pk [2, 1, 1, 1])⟩)
theorem hpoint_ok (B : World) (Fr : List HP) (bh : Nat) (h : HpS) (s : Dev) (hW : HepW h s) (n i to_ : Int) :
    ∀ w, Holds B (HepA bh h :: DevA h.bd s :: Fr) w → Calls Tryz.prog 23 [ptr bh, i64 n, i64 i, i64 to_].toArray w (Ret B (fun rv H' => ∃ a h' s', h.point s n i to_ = .ok (a, h') s' ∧ rv = i64 a ∧ H' = HepA bh h' :: DevA h.bd s' :: Fr) (fun ch H' => ∃ s', h.point s n i to_ = .off s' ∧ ch = offc ∧ H' = DevA h.bd s' :: Fr)) := by
  refine fn_enter Tryz.func23 rfl Tryz.ntmps23 rfl (go_hep fun bs bt x => (g_seq (g_region (kPa rfl rfl (p_nil (g_seq (g_seq (g_region (kPm rfl rfl ?_)))))))))
  first | refine kPv (ev_nil rfl) rfl ?_ | refine kPv (ev_nilf rfl) rfl ?_
  refine kPv (ev_fa (m := _) fa_93_2 rfl rfl) rfl (kPv (ev_load Tryz.isAgg89 rfl rfl) rfl (p_callq rfl (en_f Tryz.call51 rfl) (ro_at (q := SecB h.o) (fun Fr => sopenB_ok B Fr bs h.S h.o)) .free rfl rfl ?_))
  refine kPv (ev_not rfl) rfl (p_nil ?_)
  refine g_if rfl (fun h17 => ?_) (fun h17 => ?_)
  · have ho : h.o = false := by simpa using h17
    have hof : ¬ h.o = true := by rw [ho]; decide
    refine g_seq (g_region (kPa rfl rfl (p_nil (g_ret ?_))))
    exact ret_tmp Tryz.results23 rfl (fun w hw => ⟨_, ⟨2, h, s, by unfold HpS.point; rw [if_neg hof], rfl, rfl⟩, hep_holds (bs := bs) (bt := bt) (x := x) hw⟩)
  · have ho : h.o = true := by simpa using h17
    refine go_pk [1] (go_conv (H' := SecO bs h.S :: _) (fun w hh => by rw [ho] at hh; exact hh) (g_skip (g_seq (g_region (kPm rfl rfl (kPm rfl rfl (go_pk [1, 1, 2] (p_callq rfl (en_f Tryz.call60 rfl) (hobject_ok B _ bh bs bt x h s hW n) .free rfl rfl ?_))))))))
    refine kPm rfl rfl (kPv (ev_ext rfl rfl) rfl (kPv (ev_ext rfl rfl) rfl (p_chg rfl (ch_allocA Tryz.zeroValue105 rfl) .free rfl rfl ?_)))
    rintro _ _ ⟨b9, rfl, rfl⟩
    refine p_chg0 rfl (ch_storeA (vs := _) Tryz.sizeOf105 rfl rfl rfl rfl rfl) .free rfl ?_
    rintro _ _ rfl
    refine kPa rfl rfl (p_nil (go_sb [10, 9, 8, 0, 2, 3] rfl (g_seq (g_seq (g_region (kPm rfl rfl (kPv (ev_cmp rfl rfl rfl) rfl (p_nil ?_))))))))
    refine g_if rfl (fun h25 => ?_) (fun h25 => ?_)
    · have hk : (h.obj s n).2 ≠ 0 := by simpa using h25
      refine g_seq (g_region (kPm rfl rfl (kPa rfl rfl (p_nil (g_ret ?_)))))
      exact ret_tmp Tryz.results23 rfl (fun w hw => ⟨_, ⟨(h.obj s n).2, h, s, by unfold HpS.point; rw [if_pos ho, if_pos hk], rfl, rfl⟩, hep_O (bs := bs) (bt := bt) (x := x) ho ((hw.dp [0]).pk [0, 2, 0, 1])⟩)
    · have hk : ¬ (h.obj s n).2 ≠ 0 := by simpa using h25
      have how := HpS.obj_w hW (n := n) (by omega)
      refine g_skip (g_seq (g_region (kPm rfl rfl (kPm rfl rfl (go_pk [1, 1] (p_callq rfl (en_f Tryz.call58 rfl) (hplc_ok B _ bh bs bt x h s to_) .free rfl rfl ?_))))))
      refine kPm rfl rfl (kPv (ev_ext rfl rfl) rfl (kPv (ev_ext rfl rfl) rfl (kPa rfl rfl (kPa rfl rfl (p_nil (go_sb [10, 11, 9, 8, 0, 2] rfl (g_seq (g_seq (g_region (kPm rfl rfl (kPv (ev_cmp rfl rfl rfl) rfl ?_)))))))))))
      refine p_nil ?_
      refine g_if rfl (fun h34 => ?_) (fun h34 => ?_)
      · have hp : (h.plc to_).2 ≠ 0 := by simpa using h34
        refine g_seq (g_region (kPm rfl rfl (kPa rfl rfl (p_nil (g_ret ?_)))))
        exact ret_tmp Tryz.results23 rfl (fun w hw => ⟨_, ⟨(h.plc to_).2, h, s, by unfold HpS.point; rw [if_pos ho, if_neg hk, if_pos hp], rfl, rfl⟩, hep_O (bs := bs) (bt := bt) (x := x) ho ((hw.dp [2]).pk [0, 2, 0, 1])⟩)
      · have hp : ¬ (h.plc to_).2 ≠ 0 := by simpa using h34
        have hpb := HpS.plc_b hW to_
        refine g_skip (g_seq (go_pk [2] (go_conv (H' := row b9 [i64 (h.obj s n).1.1, i64 (h.obj s n).1.2.1, i64 (h.obj s n).1.2.2] 105 :: _) (fun w hh => hh) (g_drawt 8 Tryz.mixed (by kernel_rfl) (by kernel_rfl) ?_))))
        refine kQv (ev_loadA Tryz.isAgg105 Tryz.sizeOf105 rfl rfl) rfl ?_
        refine kQm rfl rfl (kQm rfl rfl (kQm rfl rfl ?_))
        first | refine kQv (ev_nil rfl) rfl ?_ | refine kQv (ev_nilf rfl) rfl ?_
        refine kQv (ev_fa (m := _) fa_93_2 rfl rfl) rfl (kQv (ev_load Tryz.isAgg89 rfl rfl) rfl (kQv (ev_mkf rfl rfl) rfl (q_nil (go_pk [3, 3] ?_))))
        refine p_call rfl (en_f Tryz.call77 rfl) (opoint_ok B _ _ _ h.bd bs SecS (fun b S => SecO b S) _ _ (storeS B h.bd bs h.c) (h.obj s n).1 how i (h.plc to_).1 (by omega) s h.S (hW.ok ho)) .free rfl rfl ?_ ?_
        rotate_left
        · rintro _ _ ⟨s9, hm9, rfl, rfl⟩
          exact pan_fn fun w hh => ⟨_, ⟨s9, by unfold HpS.point; rw [if_pos ho, if_neg hk, if_neg hp, show setM secOp (h.obj s n).1 i true (h.plc to_).1 s h.S = .off s9 from hm9]; rfl, rfl, rfl⟩, hh.dp [1, 1, 1, 1]⟩
        rintro _ _ ⟨a2, S2, s2, hm2, rfl, hok2, rfl⟩
        refine kPa rfl rfl (p_nil (go_sb [8] rfl (g_ret ?_)))
        exact ret_tmp Tryz.results23 rfl (fun w hw => ⟨_, ⟨a2, { h with S := S2 }, s2, by unfold HpS.point; rw [if_pos ho, if_neg hk, if_neg hp, show setM secOp (h.obj s n).1 i true (h.plc to_).1 s h.S = .ok (a2, S2) s2 from hm2]; rfl, rfl, rfl⟩, hep_O (h := { h with S := S2, T := h.T }) (bs := bs) (bt := bt) (x := x) ho ((hw.dp [2]).pk [2, 1, 1, 1])⟩)
theorem hset_ok (B : World) (Fr : List HP) (bh : Nat) (h : HpS) (s : Dev) (hW : HepW h s) (i to_ : Int) :
    ∀ w, Holds B (HepA bh h :: DevA h.bd s :: Fr) w → Calls Tryz.prog 13 [ptr bh, i64 i, i64 to_].toArray w (Ret B (fun rv H' => ∃ a h' s', h.setRoot s i to_ = .ok (a, h') s' ∧ rv = i64 a ∧ H' = HepA bh h' :: DevA h.bd s' :: Fr) (fun ch H' => ∃ s', h.setRoot s i to_ = .off s' ∧ ch = offc ∧ H' = DevA h.bd s' :: Fr)) := by
  refine fn_enter Tryz.func13 rfl Tryz.ntmps13 rfl (go_hep fun bs bt x => (g_seq (g_region (kPa rfl rfl (p_nil (g_seq (g_block (g_seq (g_region (kPm rfl rfl ?_))))))))))
  first | refine kPv (ev_nil rfl) rfl ?_ | refine kPv (ev_nilf rfl) rfl ?_
  refine kPv (ev_fa (m := _) fa_93_2 rfl rfl) rfl (kPv (ev_load Tryz.isAgg89 rfl rfl) rfl (p_callq rfl (en_f Tryz.call51 rfl) (ro_at (q := SecB h.o) (fun Fr => sopenB_ok B Fr bs h.S h.o)) .free rfl rfl ?_))
  refine kPv (ev_not rfl) rfl (kPa rfl rfl (p_nil ?_))
  refine g_if rfl (fun h9 => ?_) (fun h9 => ?_)
  · have ho : h.o = false := by simpa using h9
    have hof : ¬ h.o = true := by rw [ho]; decide
    refine g_seq (g_region (kPa rfl rfl (p_nil (go_sb [6, 0, 1, 2] rfl (g_ret ?_)))))
    exact ret_tmp Tryz.results13 rfl (fun w hw => ⟨_, ⟨2, h, s, by unfold HpS.setRoot; rw [if_neg hof], rfl, rfl⟩, hep_holds (bs := bs) (bt := bt) (x := x) hw⟩)
  · have ho : h.o = true := by simpa using h9
    refine go_pk [1] (go_conv (H' := SecO bs h.S :: _) (fun w hh => by rw [ho] at hh; exact hh) (g_seq (g_region (kPm rfl rfl (kPv (ev_cmp rfl rfl rfl) rfl (kPm rfl rfl ?_))))))
    apply p_or (tp := 27) (t := 19) (σ1 := [(19, _), (6, _), (0, _), (1, _), (2, _)]) 8 rfl (sub_r rfl)
    · intro hg1
      refine p_val rfl (ev_move rfl) (.on rfl rfl (beq_eq hg1)) rfl rfl (p_val rfl (ev_move rfl) (.on rfl rfl (beq_eq hg1)) rfl rfl ?_)
      first | refine p_val rfl (ev_nil rfl) (.on rfl rfl (beq_eq hg1)) rfl rfl ?_ | refine p_val rfl (ev_nilf rfl) (.on rfl rfl (beq_eq hg1)) rfl rfl ?_
      refine p_val rfl (ev_fa (m := _) fa_93_1 rfl rfl) (.on rfl rfl (beq_eq hg1)) rfl rfl (p_val rfl (ev_fa (m := _) fa_40_1 rfl rfl) (.on rfl rfl (beq_eq hg1)) rfl rfl (p_val rfl (ev_load Tryz.isAgg3 rfl rfl) (.on rfl rfl (beq_eq hg1)) rfl rfl (p_val rfl (ev_cmp rfl rfl rfl) (.on rfl rfl (beq_eq hg1)) rfl rfl (kPv (ev_pick_f rfl hg1 rfl) rfl ?_))))
      exact p_seg rfl (sub_r rfl) (or_f hg1)
    · intro hg1
      refine p_skip rfl (.on rfl rfl (beq_ne hg1)) rfl (p_skip rfl (.on rfl rfl (beq_ne hg1)) rfl (p_skip rfl (.on rfl rfl (beq_ne hg1)) rfl (p_skip rfl (.on rfl rfl (beq_ne hg1)) rfl (p_skip rfl (.on rfl rfl (beq_ne hg1)) rfl (p_skip rfl (.on rfl rfl (beq_ne hg1)) rfl (p_skip rfl (.on rfl rfl (beq_ne hg1)) rfl (kPv (ev_pick_t rfl hg1 rfl) rfl ?_)))))))
      exact p_seg rfl (sub_r rfl) (or_t hg1)
    refine kPa rfl rfl (p_nil ?_)
    refine g_if rfl (fun h16 => ?_) (fun h16 => ?_)
    · have hk : i < 0 ∨ h.c.roots ≤ i := by have h9 := h16; simp at h9; omega
      refine g_seq (g_region (kPa rfl rfl (p_nil (g_ret ?_))))
      exact ret_tmp Tryz.results13 rfl (fun w hw => ⟨_, ⟨1, h, s, by unfold HpS.setRoot; rw [if_pos ho, if_pos hk], rfl, rfl⟩, hep_O (bs := bs) (bt := bt) (x := x) ho (hw.pk [1])⟩)
    · have hk : ¬ (i < 0 ∨ h.c.roots ≤ i) := by have h9 := h16; simp at h9; omega
      have hr2 := hW.c.r2
      refine g_skip (g_seq (g_region (kPm rfl rfl (kPm rfl rfl (go_pk [1, 1] (p_callq rfl (en_f Tryz.call58 rfl) (hplc_ok B _ bh bs bt x h s to_) .free rfl rfl ?_))))))
      refine kPm rfl rfl (kPv (ev_ext rfl rfl) rfl (kPv (ev_ext rfl rfl) rfl (kPa rfl rfl (kPa rfl rfl (p_nil (go_sb [8, 7, 6, 0, 1] rfl (g_seq (g_seq (g_region (kPm rfl rfl (kPv (ev_cmp rfl rfl rfl) rfl ?_)))))))))))
      refine p_nil ?_
      refine g_if rfl (fun h35 => ?_) (fun h35 => ?_)
      · have hp : (h.plc to_).2 ≠ 0 := by simpa using h35
        refine g_seq (g_region (kPm rfl rfl (kPa rfl rfl (p_nil (g_ret ?_)))))
        exact ret_tmp Tryz.results13 rfl (fun w hw => ⟨_, ⟨(h.plc to_).2, h, s, by unfold HpS.setRoot; rw [if_pos ho, if_neg hk, if_pos hp], rfl, rfl⟩, hep_O (bs := bs) (bt := bt) (x := x) ho (hw.pk [0, 1])⟩)
      · have hp : ¬ (h.plc to_).2 ≠ 0 := by simpa using h35
        have hpb := HpS.plc_b hW to_
        refine g_skip (g_seq (g_drawt 12 Tryz.mixed (by kernel_rfl) (by kernel_rfl) ?_))
        refine kQm rfl rfl ?_
        first | refine kQv (ev_nil rfl) rfl ?_ | refine kQv (ev_nilf rfl) rfl ?_
        refine kQv (ev_fa (m := _) fa_93_2 rfl rfl) rfl (kQv (ev_load Tryz.isAgg89 rfl rfl) rfl (kQm rfl rfl ?_))
        first | refine kQv (ev_nil rfl) rfl ?_ | refine kQv (ev_nilf rfl) rfl ?_
        refine kQv (ev_fa (m := _) fa_93_1 rfl rfl) rfl (kQv (ev_loadA Tryz.isAgg40 Tryz.sizeOf40 rfl rfl) rfl ?_)
        refine kQm rfl rfl (q_call rfl (en_f Tryz.call59 rfl) (root_ok _ _ h.c hW.c i (by omega) (by omega)) .free rfl ?_)
        refine kQm rfl rfl (kQv (ev_conv Tryz.runUnderlying3 Tryz.runUnderlying26 rfl (wru64 (by omega))) rfl (q_nil (go_pk [4, 2] ?_)))
        refine p_call rfl (en_f Tryz.call56 rfl) ((storeS B h.bd bs h.c).says _ (h.c.root i) (h.plc to_).1 s h.S (hW.ok ho)) .free rfl rfl ?_ ?_
        rotate_left
        · rintro _ _ ⟨s9, hm9, rfl, rfl⟩
          exact pan_fn fun w hh => ⟨_, ⟨s9, by unfold HpS.setRoot; rw [if_pos ho, if_neg hk, if_neg hp, show h.S.store s (h.c.root i) (h.plc to_).1 = .off s9 from hm9]; rfl, rfl, rfl⟩, hh.dp [1, 1, 1]⟩
        rintro _ _ ⟨a2, S2, s2, hm2, rfl, rfl⟩
        refine kPa rfl rfl (p_nil (go_sb [6] rfl (g_ret ?_)))
        exact ret_tmp Tryz.results13 rfl (fun w hw => ⟨_, ⟨a2, { h with S := S2 }, s2, by unfold HpS.setRoot; rw [if_pos ho, if_neg hk, if_neg hp, show h.S.store s (h.c.root i) (h.plc to_).1 = .ok (a2, S2) s2 from hm2]; rfl, rfl, rfl⟩, hep_O (h := { h with S := S2, T := h.T }) (bs := bs) (bt := bt) (x := x) ho (hw.pk [2, 1, 1, 1])⟩)
theorem hpalloc_ok (B : World) (Fr : List HP) (bh : Nat) (h : HpS) (s : Dev) (hW : HepW h s) (wd rf : Int) :
    ∀ w, Holds B (HepA bh h :: DevA h.bd s :: Fr) w → Calls Tryz.prog 12 [ptr bh, .agg #[i64 wd, i64 rf]].toArray w (Ret B (fun rv H' => ∃ a h' s', h.alloc s wd rf = .ok (a, h') s' ∧ rv = .tuple #[i64 a.1, i64 a.2] ∧ H' = HepA bh h' :: DevA h.bd s' :: Fr) (fun ch H' => ∃ s', h.alloc s wd rf = .off s' ∧ ch = offc ∧ H' = DevA h.bd s' :: Fr)) := by
  refine fn_enter Tryz.func12 rfl Tryz.ntmps12 rfl (go_hep fun bs bt x => (g_seq (g_region (p_chg rfl (ch_boxA rfl) .free rfl rfl ?_))))
  rintro _ _ ⟨b3, rfl, rfl⟩
  refine kPa rfl rfl (kPa rfl rfl (p_nil (g_seq (g_seq (g_region (kPm rfl rfl ?_))))))
  first | refine kPv (ev_nil rfl) rfl ?_ | refine kPv (ev_nilf rfl) rfl ?_
  refine kPv (ev_fa (m := _) fa_93_2 rfl rfl) rfl (kPv (ev_load Tryz.isAgg89 rfl rfl) rfl (p_callq rfl (en_f Tryz.call51 rfl) (ro_at (q := SecB h.o) (fun Fr => sopenB_ok B Fr bs h.S h.o)) .free rfl rfl ?_))
  refine kPv (ev_not rfl) rfl (p_nil ?_)
  refine g_if rfl (fun h13 => ?_) (fun h13 => ?_)
  · have ho : h.o = false := by simpa using h13
    have hof : ¬ h.o = true := by rw [ho]; decide
    refine g_seq (g_region (kPa rfl rfl (kPa rfl rfl (p_nil (go_sb [5, 4, 3, 0] rfl (g_ret ?_))))))
    exact ret_tmp2 Tryz.results12 rfl rfl (fun w hw => ⟨_, ⟨(0, 2), h, s, by unfold HpS.alloc; rw [if_neg hof], rfl, rfl⟩, hep_holds (bs := bs) (bt := bt) (x := x) (hw.dp [0])⟩)
  · have ho : h.o = true := by simpa using h13
    refine go_pk [2] (go_conv (H' := SecO bs h.S :: _) (fun w hh => by rw [ho] at hh; exact hh) (g_skip (g_seq (g_drawm [14] Tryz.mixed (by kernel_rfl) (by kernel_rfl) ?_))))
    refine seg_q (kQm rfl rfl ?_)
    first | refine kQv (ev_nil rfl) rfl ?_ | refine kQv (ev_nilf rfl) rfl ?_
    refine kQv (ev_fa (m := _) fa_93_0 rfl rfl) rfl (kQv (ev_load Tryz.isAgg28 rfl rfl) rfl (kQm rfl rfl ?_))
    first | refine kQv (ev_nil rfl) rfl ?_ | refine kQv (ev_nilf rfl) rfl ?_
    refine kQv (ev_fa (m := _) fa_93_1 rfl rfl) rfl (kQv (ev_loadA Tryz.isAgg40 Tryz.sizeOf40 rfl rfl) rfl ?_)
    refine kQv (ev_loadA Tryz.isAgg38 Tryz.sizeOf38 rfl rfl) rfl ?_
    refine kQm rfl rfl ?_
    first | refine kQv (ev_nil rfl) rfl ?_ | refine kQv (ev_nilf rfl) rfl ?_
    refine kQv (ev_fa (m := _) fa_93_2 rfl rfl) rfl (kQv (ev_load Tryz.isAgg89 rfl rfl) rfl (kQv (ev_mkf rfl rfl) rfl (q_nil (go_pk [5, 0] ?_))))
    refine p_call rfl (en_f Tryz.call55 rfl) (alloc_ok B _ _ _ h.bd bs SecS (fun b S => SecO b S) _ _ (storeS B h.bd bs h.c) h.c hW.c wd rf s h.S (hW.ok ho)) .free rfl rfl ?_ ?_
    rotate_left
    · rintro _ _ ⟨s9, hm9, rfl, rfl⟩
      exact pan_fn fun w hh => ⟨_, ⟨s9, by unfold HpS.alloc; rw [if_pos ho, show allocM secOp h.c wd rf s h.S = .off s9 from hm9]; rfl, rfl, rfl⟩, hh.dp [1, 1, 1, 1]⟩
    rintro _ _ ⟨⟨at2, a2⟩, S2, s2, hm2, rfl, hok2, rfl⟩
    refine p_nil (seg_e (kQm rfl rfl (kQv (ev_ext rfl rfl) rfl (kQv (ev_ext rfl rfl) rfl (kQa rfl rfl (kQa rfl rfl (q_nil (go_sb [7, 6, 5, 4, 0] rfl (g_seq (g_seq (g_region ?_)))))))))))
    refine kPm rfl rfl (kPv (ev_cmp rfl rfl rfl) rfl (p_nil ?_))
    refine g_if rfl (fun h33 => ?_) (fun h33 => ?_)
    · have ha2 : a2 ≠ 0 := by simpa using h33
      refine g_seq (g_region (kPm rfl rfl (kPa rfl rfl (kPa rfl rfl (p_nil (g_ret ?_))))))
      exact ret_tmp2 Tryz.results12 rfl rfl (fun w hw => ⟨_, ⟨(0, a2), { h with S := S2 }, s2, by unfold HpS.alloc; rw [if_pos ho, show allocM secOp h.c wd rf s h.S = .ok ((at2, a2), S2) s2 from hm2]; simp only [then_ok]; rw [if_pos ha2], rfl, rfl⟩, hep_O (h := { h with S := S2, T := h.T }) (bs := bs) (bt := bt) (x := x) ho ((hw.dp [2]).pk [2, 1, 1, 1])⟩)
    · have ha2 : ¬ a2 ≠ 0 := by simpa using h33
      refine g_skip (g_seq (g_region (kPm rfl rfl ?_)))
      first | refine kPv (ev_nil rfl) rfl ?_ | refine kPv (ev_nilf rfl) rfl ?_
      refine kPv (ev_fa (m := _) fa_93_3 rfl rfl) rfl (kPv (ev_load Tryz.isAgg90 rfl rfl) rfl (kPm rfl rfl (go_pk [4] ?_)))
      refine p_call rfl (en_f Tryz.call57 rfl) (htake_ok B _ bt h.T at2 hW.t1) .free rfl rfl ?_ ?_
      rotate_left
      · rintro _ _ ⟨⟩
      rintro _ _ ⟨rfl, rfl⟩
      refine kPa rfl rfl (kPa rfl rfl (p_nil (go_sb [5, 4] rfl (g_ret ?_))))
      exact ret_tmp2 Tryz.results12 rfl rfl (fun w hw => ⟨_, ⟨((h.T.take at2).1, 0), { h with S := S2, T := (h.T.take at2).2 }, s2, by unfold HpS.alloc; rw [if_pos ho, show allocM secOp h.c wd rf s h.S = .ok ((at2, a2), S2) s2 from hm2]; simp only [then_ok]; rw [if_neg ha2], rfl, rfl⟩, hep_O (h := { h with S := S2, T := (h.T.take at2).2 }) (bs := bs) (bt := bt) (x := x) ho ((hw.dp [3]).pk [3, 2, 0, 1])⟩)
end Go.Proofs.YtlcibdhmgclfjaaGreat
namespace Go.Proofs.YtlcibdhmgclfjaaGreat
open Go
def wentF (X : ColS) (p : Int) : Int := (mget X.went p).getD 0
def HpS.finR (h : HpS) (X : ColS) (s : Dev) (a : Int) (h' : HpS) (s' : Dev) : Prop := ∃ S', flipM h.c X.block h.S s = .ok (a, S') s' ∧
  ((a ≠ 0 ∧ h' = { h with X := none, S := S' }) ∨ (a = 0 ∧ ∃ ord : List (Int × Int), ord.Perm h.T.at_ ∧ h' = { h with X := none, S := S', T := TabS.moved (wentF X) h.T.last ord }))
def HpS.colR (h : HpS) (s : Dev) (a : Int) (h' : HpS) (s' : Dev) : Prop := (h.o = true ∧ a = 2 ∧ h' = h ∧ s' = s) ∨ (h.o = false ∧ ∃ X s1, (newCol h.bd h.c (h.blk s) ((h.blk s).rts ++ h.words)).run s = .ok X s1 ∧ h.finR X s1 a h' s')
def HpS.colOff (h : HpS) (s s' : Dev) : Prop := h.o = false ∧ ((newCol h.bd h.c (h.blk s) ((h.blk s).rts ++ h.words)).run s = .off s' ∨ ∃ X s1, (newCol h.bd h.c (h.blk s) ((h.blk s).rts ++ h.words)).run s = .ok X s1 ∧ flipM h.c X.block h.S s1 = .off s')
theorem hep_N {B : World} {Fr : List HP} {bh bs bt x : Nat} {h : HpS} {w : World} (ho : h.o = false) (hx : h.X = none) (hh : Holds B (hepRow bh bs bt x h :: SecC bs h.S :: TabA bt h.T :: Fr) w) : Holds B (HepA bh h :: Fr) w :=
  hep_C (bs := bs) (bt := bt) (x := x) ho (by rw [hx]; exact (hh.unpr (p := True) trivial).back 3 (by simp))
theorem hcommitO_ok (B : World) (Fr : List HP) (bh : Nat) (h : HpS) (s : Dev) (hW : HepW h s) (ho : h.o = true) :
    ∀ w, Holds B (HepA bh h :: DevA h.bd s :: Fr) w → Calls Tryz.prog 15 [ptr bh].toArray w (Ret B (fun rv H' => ∃ a h' s', h.commit s = .ok (a, h') s' ∧ rv = i64 a ∧ H' = HepA bh h' :: DevA h.bd s' :: Fr) (fun ch H' => ∃ s', h.commit s = .off s' ∧ ch = offc ∧ H' = DevA h.bd s' :: Fr)) := by
  refine fn_enter Tryz.func15 rfl Tryz.ntmps15 rfl (go_hep fun bs bt x => (go_pk [1] (go_conv (H' := SecO bs h.S :: _) (fun w hh => by rw [ho] at hh; exact hh) (go_pk [0, 3] (go_conv (H' := SecO bs h.S :: DevA h.S.L.d s :: _) (fun w hh => by rw [hW.k.d]; exact hh) (g_seq (g_region (kPa rfl rfl (p_nil (g_seq (g_region ?_)))))))))))
  refine kPm rfl rfl ?_
  first | refine kPv (ev_nil rfl) rfl ?_ | refine kPv (ev_nilf rfl) rfl ?_
  refine kPv (ev_fa (m := _) fa_93_2 rfl rfl) rfl (kPv (ev_load Tryz.isAgg89 rfl rfl) rfl ?_)
  refine p_call rfl (en_f Tryz.call62 rfl) (scommitO_ok B _ bs h.S s (hW.sw ho).1 (hW.sw ho).2) .free rfl rfl ?_ ?_
  rotate_left
  · rintro _ _ ⟨s9, hm9, rfl, rfl⟩
    exact pan_fn fun w hh => ⟨_, ⟨s9, by unfold HpS.commit; rw [if_pos ho, hm9]; rfl, rfl, rfl⟩, by rw [hW.k.d] at hh; exact hh.dp [1, 1, 1]⟩
  rintro _ _ ⟨S2, s2, hm2, rfl, rfl⟩
  refine kPa rfl rfl (p_nil (g_ret ?_))
  exact ret_tmp Tryz.results15 rfl (fun w hw => ⟨_, ⟨0, { h with o := false, S := S2 }, s2, by unfold HpS.commit; rw [if_pos ho, hm2]; rfl, rfl, rfl⟩, by rw [hW.k.d] at hw; exact hep_C (h := { h with o := false, S := S2 }) (bs := bs) (bt := bt) (x := x) rfl (hw.pk [2, 0, 1, 1])⟩)
theorem hcommitC_ok (B : World) (Fr : List HP) (bh : Nat) (h : HpS) (s : Dev) (hW : HepW h s) (ho : h.o = false) :
    ∀ w, Holds B (HepA bh h :: DevA h.bd s :: Fr) w → Calls Tryz.prog 15 [ptr bh].toArray w (Ret B (fun rv H' => ∃ a h' s', h.commit s = .ok (a, h') s' ∧ rv = i64 a ∧ H' = HepA bh h' :: DevA h.bd s' :: Fr) (fun ch H' => ∃ s', h.commit s = .off s' ∧ ch = offc ∧ H' = DevA h.bd s' :: Fr)) := by
  refine fn_enter Tryz.func15 rfl Tryz.ntmps15 rfl (go_hep fun bs bt x => (go_pk [1] (go_conv (H' := SecC bs h.S :: _) (fun w hh => by rw [ho] at hh; exact hh) (g_seq (g_region (kPa rfl rfl (p_nil (g_seq (g_region (kPm rfl rfl ?_))))))))))
  first | refine kPv (ev_nil rfl) rfl ?_ | refine kPv (ev_nilf rfl) rfl ?_
  refine kPv (ev_fa (m := _) fa_93_2 rfl rfl) rfl (kPv (ev_load Tryz.isAgg89 rfl rfl) rfl (p_callq rfl (en_f Tryz.call62 rfl) (ro_at (q := SecC) (fun Fr => scommitC_ok B Fr bs h.S)) .free rfl rfl ?_))
  refine kPa rfl rfl (p_nil (g_ret ?_))
  exact ret_tmp Tryz.results15 rfl (fun w hw => ⟨_, ⟨2, h, s, by unfold HpS.commit; rw [if_neg (by rw [ho]; decide)], rfl, rfl⟩, hep_C (bs := bs) (bt := bt) (x := x) ho (hw.pk [1])⟩)
theorem hcommit_ok (B : World) (Fr : List HP) (bh : Nat) (h : HpS) (s : Dev) (hW : HepW h s) : ∀ w, Holds B (HepA bh h :: DevA h.bd s :: Fr) w → Calls Tryz.prog 15 [ptr bh].toArray w (Ret B (fun rv H' => ∃ a h' s', h.commit s = .ok (a, h') s' ∧ rv = i64 a ∧ H' = HepA bh h' :: DevA h.bd s' :: Fr) (fun ch H' => ∃ s', h.commit s = .off s' ∧ ch = offc ∧ H' = DevA h.bd s' :: Fr)) := by
  cases ho : h.o
  · exact hcommitC_ok B Fr bh h s hW ho
  · exact hcommitO_ok B Fr bh h s hW ho
theorem hfin1_ok (B : World) (Fr : List HP) (c1 x : Nat) (X : ColS) (p : Int) (hp : 0 ≤ p ∧ p ≤ 1000000) :
    ∀ w, Holds B (row c1 [ptr x] 91 :: ColA x X :: Fr) w → Calls Tryz.prog 143 [i64 p, ptr c1].toArray w (PureR B (row c1 [ptr x] 91 :: ColA x X :: Fr) (i64 (wentF X p))) := by
  refine fn_enter Tryz.func143 rfl Tryz.ntmps143 rfl (g_seq (g_region (kPa rfl rfl (p_nil (g_seq (g_region (kPv (ev_load Tryz.isAgg91 rfl rfl) rfl (kPm rfl rfl (kPv (ev_conv Tryz.runUnderlying3 Tryz.runUnderlying26 rfl (wru64 (by omega))) rfl (p_callq rfl (en_f Tryz.call144 rfl) (ro_at (q := ColA) (fun Fr => cwent_ok B Fr x X p)) .free rfl rfl ?_))))))))))
  refine kPa rfl rfl (p_nil (g_ret ?_))
  exact ret_tmp Tryz.results143 rfl (fun w hw => ⟨rfl, hw⟩)
theorem mvF_fin (B : World) (c1 x : Nat) (X : ColS) : MoveF B 143 [] [ptr c1] Unit (fun _ => [row c1 [ptr x] 91, ColA x X]) (fun p => 0 ≤ p ∧ p ≤ 1000000) (wentF X) (fun _ e => e) where
  enter := Tryz.call143
  says := fun Fr p e hp w hw => (hfin1_ok B Fr c1 x X p hp w hw).mono fun en w' h => by
    obtain ⟨rfl, h⟩ := h
    exact ⟨_, ⟨rfl, rfl⟩, h⟩
theorem hfinish_ok (B : World) (Fr : List HP) (bh bs bt x : Nat) (h : HpS) (s : Dev) (X : ColS) (hx : h.X = some X) (ho : h.o = false) (hX : ColW X) (hrl0 : 0 < X.b.rts.length) (hu : U64 s) (hK : SecK h.S h.bd h.c s) (htp : ∀ p ∈ h.T.at_, 0 ≤ p.2 ∧ p.2 ≤ 1000000) :
    ∀ w, Holds B (hepRow bh bs bt x h :: SecC bs h.S :: TabA bt h.T :: ColA x X :: DevA h.bd s :: Fr) w → Calls Tryz.prog 81 [ptr bh].toArray w (Ret B (fun rv H' => ∃ a h' s', h.finR X s a h' s' ∧ rv = i64 a ∧ H' = HepA bh h' :: DevA h.bd s' :: Fr) (fun ch H' => ∃ s', flipM h.c X.block h.S s = .off s' ∧ ch = offc ∧ H' = DevA h.bd s' :: Fr)) := by
  refine fn_enter Tryz.func81 rfl Tryz.ntmps81 rfl (go_conv (H' := row bh [ptr h.bd, i64 h.c.log, i64 h.c.roots, i64 h.c.space, ptr bs, ptr bt, ptr x] 93 :: _) (fun w hh => by have h9 := hh; unfold hepRow at h9; rw [hx] at h9; exact h9) (g_seq (g_region (kPa rfl rfl (p_nil (g_seq (g_region (kPm rfl rfl ?_))))))))
  first | refine kPv (ev_nil rfl) rfl ?_ | refine kPv (ev_nilf rfl) rfl ?_
  refine kPv (ev_fa (m := _) fa_93_4 rfl rfl) rfl (kPv (ev_load Tryz.isAgg91 rfl rfl) rfl (p_chg rfl (ch_alloc1 Tryz.zeroValue91 rfl) .free rfl rfl ?_))
  rintro _ _ ⟨b3, rfl, rfl⟩
  refine p_chg0 rfl (ch_store Tryz.sizeOf91 rfl rfl (by first | rfl | assumption) rfl) .free rfl ?_
  rintro _ _ rfl
  refine p_nil (g_seq (g_region (kPm rfl rfl ?_)))
  first | refine kPv (ev_nil rfl) rfl ?_ | refine kPv (ev_nilf rfl) rfl ?_
  refine kPv (ev_fa (m := _) fa_93_4 rfl rfl) rfl ?_
  refine p_chg0 rfl (ch_store Tryz.sizeOf91 rfl rfl (by first | rfl | assumption) rfl) .free rfl ?_
  rintro _ _ rfl
  refine p_nil (go_sb [3, 2, 0] rfl (g_seq (g_seq (go_pk [1, 0] (go_conv (H' := hepRow bh bs bt x { h with X := none } :: row b3 [ptr x] 91 :: _) (fun w hh => hh) (g_drawt 13 Tryz.mixed (by kernel_rfl) (by kernel_rfl) ?_))))))
  refine kQm rfl rfl ?_
  first | refine kQv (ev_nil rfl) rfl ?_ | refine kQv (ev_nilf rfl) rfl ?_
  refine kQv (ev_fa (m := _) fa_93_0 rfl rfl) rfl (kQv (ev_load Tryz.isAgg28 rfl rfl) rfl (kQm rfl rfl ?_))
  first | refine kQv (ev_nil rfl) rfl ?_ | refine kQv (ev_nilf rfl) rfl ?_
  refine kQv (ev_fa (m := _) fa_93_1 rfl rfl) rfl (kQv (ev_loadA Tryz.isAgg40 Tryz.sizeOf40 rfl rfl) rfl ?_)
  refine kQm rfl rfl ?_
  first | refine kQv (ev_nil rfl) rfl ?_ | refine kQv (ev_nilf rfl) rfl ?_
  refine kQv (ev_fa (m := _) fa_93_2 rfl rfl) rfl (kQv (ev_load Tryz.isAgg89 rfl rfl) rfl (kQv (ev_load Tryz.isAgg91 rfl rfl) rfl (q_nil (go_pk [2, 3, 3] ?_))))
  refine p_call rfl (en_f Tryz.call141 rfl) (flip_ok B _ bs x h.bd h.S X hX hrl0 h.c s hu hK) .free rfl rfl ?_ ?_
  rotate_left
  · rintro _ _ ⟨s9, hm9, rfl, rfl⟩
    exact pan_fn fun w hh => ⟨_, ⟨s9, hm9, rfl, rfl⟩, hh.dp [1, 1, 1]⟩
  rintro _ _ ⟨a2, S2, s2, hm2, rfl, rfl⟩
  refine kPa rfl rfl (p_nil (go_sb [4, 3, 2, 0] rfl (g_seq (g_region (kPm rfl rfl (kPv (ev_cmp rfl rfl rfl) rfl (p_nil ?_)))))))
  refine g_if rfl (fun h27 => ?_) (fun h27 => ?_)
  · have ha2 : a2 ≠ 0 := by simpa using h27
    refine g_seq (g_region (kPm rfl rfl (kPa rfl rfl (p_nil (g_ret ?_)))))
    exact ret_tmp Tryz.results81 rfl (fun w hw => ⟨_, ⟨a2, { h with X := none, S := S2 }, s2, ⟨S2, hm2, .inl ⟨ha2, rfl⟩⟩, rfl, rfl⟩, hep_N (h := { h with X := none, S := S2 }) (bs := bs) (bt := bt) (x := x) ho rfl ((hw.dp [1, 3]).pk [2, 0, 1])⟩)
  · have ha2 : a2 = 0 := by simpa using h27
    refine g_skip (g_seq (g_region (kPm rfl rfl ?_)))
    first | refine kPv (ev_nil rfl) rfl ?_ | refine kPv (ev_nilf rfl) rfl ?_
    refine kPv (ev_fa (m := _) fa_93_3 rfl rfl) rfl (kPv (ev_load Tryz.isAgg90 rfl rfl) rfl (kPv (ev_mkf rfl rfl) rfl (go_pk [5, 4, 1] ?_)))
    refine p_call rfl (en_f Tryz.call142 rfl) ((fun w hh => hmoved_ok B _ bt h.T _ [] [ptr b3] Unit _ _ _ _ (mvF_fin B b3 x X) htp () w hh)) .free rfl rfl ?_ ?_
    rotate_left
    · rintro _ _ ⟨⟩
    rintro _ _ ⟨ord, hperm, rfl⟩
    refine go_conv (H' := TabA bt (TabS.moved (wentF X) h.T.last ord) :: row b3 [ptr x] 91 :: ColA x X :: SecC bs S2 :: DevA h.bd s2 :: hepRow bh bs bt x { h with X := none } :: Fr) (fun w hh => hh) (p_nil (go_sb [2] rfl (g_seq (g_region (kPa rfl rfl (p_nil (g_ret ?_)))))))
    exact ret_tmp Tryz.results81 rfl (fun w hw => ⟨_, ⟨0, { h with X := none, S := S2, T := TabS.moved (wentF X) h.T.last ord }, s2, ⟨S2, by rw [← ha2]; exact hm2, .inr ⟨rfl, ord, hperm, rfl⟩⟩, rfl, rfl⟩, hep_N (h := { h with X := none, S := S2, T := TabS.moved (wentF X) h.T.last ord }) (bs := bs) (bt := bt) (x := x) ho rfl ((hw.dp [1, 1]).pk [3, 1])⟩)
theorem mset_v {k : Int} {v : Int} : ∀ {l : List (Int × Int)} {p : Int × Int}, p ∈ mset l k v → p.2 = v ∨ p ∈ l
  | [], p, h => by
    simp only [mset, List.mem_singleton] at h
    exact .inl (by rw [h])
  | q :: l, p, h => by
    unfold mset at h
    split at h
    · rcases List.mem_cons.1 h with h | h
      · exact .inl (by rw [h])
      · exact .inr (List.mem_cons_of_mem _ h)
    · rcases List.mem_cons.1 h with h | h
      · exact .inr (by rw [h]; exact List.mem_cons_self ..)
      · exact (mset_v h).imp id (List.mem_cons_of_mem _)
theorem moved_w {to_ : Int → Int} {P : Int → Prop} (hP : ∀ p, P (to_ p)) : ∀ (ord : List (Int × Int)) (x : List (Int × Int) × List (Int × Int)), (∀ p ∈ x.1, P p.2) → (∀ p ∈ (ord.foldl (mvStep to_) x).1, P p.2) ∧ (ord.foldl (mvStep to_) x).1.length ≤ x.1.length + ord.length
  | [], x, h => ⟨h, by simp⟩
  | a :: t, x, h => by
    simp only [List.foldl_cons, List.length_cons]
    have hx : (∀ p ∈ (mvStep to_ x a).1, P p.2) ∧ (mvStep to_ x a).1.length ≤ x.1.length + 1 := by
      unfold mvStep
      split
      · refine ⟨fun p hp => ?_, mset_len ..⟩
        rcases mset_v hp with e | e
        · rw [e]; exact hP _
        · exact h p e
      · exact ⟨h, by omega⟩
    have := moved_w hP t _ hx.1
    exact ⟨this.1, by omega⟩
theorem HepW.moved {h : HpS} {s s' : Dev} (hW : HepW h s) {to_ : Int → Int} (hto : ∀ p, 0 ≤ to_ p ∧ to_ p ≤ 1000000) {ord : List (Int × Int)} (hp : ord.Perm h.T.at_) {S' : SecS} (hL : LogW S'.L) (hd : S'.L.d = h.bd) (hc : S'.L.c = h.c) (hu : U64 s') (hn : s'.n = s.n) : HepW { h with X := none, o := false, S := S', T := TabS.moved to_ h.T.last ord } s' := by
  obtain ⟨g1, g2⟩ := moved_w (to_ := to_) (P := fun v => 0 ≤ v ∧ v ≤ 1000000) hto ord ([], []) (fun _ h => by cases h)
  exact ⟨hW.c, ⟨hL, by rw [hn]; exact hW.k.n, hd, hc⟩, fun h => (by cases h), hu, hW.t1, by
    show (ord.foldl (mvStep to_) ([], [])).1.length ≤ _
    have h1 := hp.length_eq; have h2 := hW.tl
    simp only [List.length_nil] at g2; omega, g1, fun X hX => (by cases hX)⟩
theorem HpS.words_b {h : HpS} {s : Dev} (hW : HepW h s) : (∀ v ∈ h.words, 0 ≤ v ∧ v < 18446744073709551616) ∧ h.words.length ≤ 800000 :=
  ⟨fun v hv => by
    obtain ⟨n, _, rfl⟩ := List.mem_map.1 hv
    have := hW.pb n; omega, by have := hW.tl; simp [HpS.words, sortI]; exact this⟩
abbrev HpS.ncol (h : HpS) (s : Dev) : ColS := newCol h.bd h.c (h.blk s) ((h.blk s).rts ++ h.words)
theorem HepW.ncol {h : HpS} {s : Dev} (hW : HepW h s) : ColW (h.ncol s) :=
  newCol_w hW.c (block_w hW.c hW.u) (block_len hW.c) (block_rts hW.u) (fun v hv => by
    rcases List.mem_append.1 hv with hv | hv
    · exact block_rts hW.u v hv
    · exact (HpS.words_b hW).1 v hv)
theorem fin_w {h : HpS} {s s1 : Dev} {X : ColS} {a : Int} {h' : HpS} {s' : Dev} (hW : HepW h s) (ho : h.o = false) (hX : ColW X) (hu : U64 s1) (hn : s1.n = s.n) (e : h.finR X s1 a h' s') : HepW h' s' ∧ h'.o = false ∧ h'.X = none ∧ h'.bd = h.bd ∧ h'.c = h.c := by
  obtain ⟨S', e1, hor⟩ := e
  obtain ⟨k1, k2, k3, k4, k5, _⟩ := flip_k (colblk_w hX) hW.k.w hu (by rw [hn]; exact hW.k.n) e1
  rcases hor with ⟨_, rfl⟩ | ⟨_, ord, hp, rfl⟩
  · exact ⟨⟨hW.c, ⟨k3, by rw [k2, hn]; exact hW.k.n, k4.trans hW.k.d, k5.trans hW.k.c⟩, fun h2 => (by rw [show h.o = true from h2] at ho; cases ho), k1, hW.t1, hW.tl, hW.tp, fun X hX => (by cases hX)⟩, ho, rfl, rfl, rfl⟩
  · have h1 := hW.moved (fun p => hX.vb p) hp k3 (k4.trans hW.k.d) (k5.trans hW.k.c) k1 (k2.trans hn)
    rw [← ho] at h1
    exact ⟨h1, ho, rfl, rfl, rfl⟩
theorem col_w {h : HpS} {s : Dev} {a : Int} {h' : HpS} {s' : Dev} (hW : HepW h s) (ho : h.o = false) (e : h.colR s a h' s') : HepW h' s' ∧ h'.o = false ∧ h'.X = none ∧ h'.bd = h.bd ∧ h'.c = h.c := by
  rcases e with ⟨h1, _⟩ | ⟨_, X, s1, e1, e2⟩
  · rw [ho] at h1; cases h1
  · obtain ⟨g1, g2, _⟩ := runN_w _ _ _ _ _ hW.ncol hW.u e1
    exact fin_w hW ho g1 g2 (run_n e1) e2
theorem hpcollect_ok (B : World) (Fr : List HP) (bh : Nat) (h : HpS) (s : Dev) (hW : HepW h s) (hb : (s.block h.c).2 = 0) :
    ∀ w, Holds B (HepA bh h :: DevA h.bd s :: Fr) w → Calls Tryz.prog 24 [ptr bh].toArray w (Ret B (fun rv H' => ∃ a h' s', h.colR s a h' s' ∧ rv = i64 a ∧ H' = HepA bh h' :: DevA h.bd s' :: Fr) (fun ch H' => ∃ s', h.colOff s s' ∧ ch = offc ∧ H' = DevA h.bd s' :: Fr)) := by
  refine fn_enter Tryz.func24 rfl Tryz.ntmps24 rfl (go_hep fun bs bt x => ?_)
  have hbk := block_w (s := s) hW.c hW.u
  have hbl : (h.blk s).rts.length ≤ 16 := block_len (s := s) hW.c
  obtain ⟨hwb, hwl⟩ := HpS.words_b hW
  refine g_seq (g_region (kPa rfl rfl (p_nil (g_seq (g_seq (g_region (kPm rfl rfl ?_)))))))
  first | refine kPv (ev_nil rfl) rfl ?_ | refine kPv (ev_nilf rfl) rfl ?_
  refine kPv (ev_fa (m := _) fa_93_2 rfl rfl) rfl (kPv (ev_load Tryz.isAgg89 rfl rfl) rfl (p_callq rfl (en_f Tryz.call51 rfl) (ro_at (q := SecB h.o) (fun Fr => sopenB_ok B Fr bs h.S h.o)) .free rfl rfl ?_))
  refine p_nil ?_
  refine g_if rfl (fun h8 => ?_) (fun h8 => ?_)
  · have ho : h.o = true := by simpa using h8
    refine g_seq (g_region (kPa rfl rfl (p_nil (g_ret ?_))))
    exact ret_tmp Tryz.results24 rfl (fun w hw => ⟨_, ⟨2, h, s, .inl ⟨ho, rfl, rfl, rfl⟩, rfl, rfl⟩, hep_holds (bs := bs) (bt := bt) (x := x) hw⟩)
  · have ho : h.o = false := by simpa using h8
    refine go_pk [1] (go_conv (H' := SecC bs h.S :: _) (fun w hh => by rw [ho] at hh; exact hh) (g_skip (g_seq (g_region (kPm rfl rfl (go_pk [1, 3] ?_))))))
    refine p_call rfl (en_f Tryz.call52 rfl) (hblock_ok B _ bh bs bt x h s hW.c hW.u) .free rfl rfl ?_ ?_
    rotate_left
    · rintro _ _ ⟨⟩
    rintro _ _ ⟨sv, hsv, rfl, rfl⟩
    refine go_vecq fun qb cb hqb hqbi => ?_
    subst hqb
    refine p_chg rfl (ch_allocA Tryz.zeroValue95 rfl) .free rfl rfl ?_
    rintro _ _ ⟨b3, rfl, rfl⟩
    refine p_chg0 rfl (ch_storeA (vs := _) Tryz.sizeOf95 rfl rfl rfl (by first | rfl | exact all3 (by assumption)) rfl) .free rfl ?_
    rintro _ _ rfl
    refine p_nil (go_sb [3, 2, 0] rfl (g_seq (go_conv (H' := row b3 [i64 (h.blk s).act, i64 (h.blk s).used, .slice qb (h.blk s).rts.length cb] 95 :: _) (fun w hh => hh) (g_drawv [0, 1, 2, 3, 4, 5, 6, 7, 8, 9, 11, 12, 14, 10, 13, 15, 16, 17, 18, 19, 20] [10, 13, 15, 16, 17, 20] [0, 1, 2, 3, 4, 5, 6, 7, 8, 9, 11, 12, 14] [10, 13, 15, 16, 17] [hepRow bh bs bt x h, row b3 [i64 (h.blk s).act, i64 (h.blk s).used, .slice qb (h.blk s).rts.length cb] 95] Tryz.mixed (by kernel_rfl) ?_))))
    refine v_hoist rfl rfl rfl (ev_move rfl) .free rfl (v_hoist rfl rfl rfl (ev_move rfl) .free rfl ?_)
    first | refine v_hoist rfl rfl rfl (ev_nil rfl) .free rfl ?_ | refine v_hoist rfl rfl rfl (ev_nilf rfl) .free rfl ?_
    refine v_hoist rfl rfl rfl (ev_fa (m := _) fa_93_0 rfl rfl) .free rfl (v_hoist rfl rfl rfl (ev_load Tryz.isAgg28 rfl rfl) .free rfl (v_hoist rfl rfl rfl (ev_move rfl) .free rfl ?_))
    first | refine v_hoist rfl rfl rfl (ev_nil rfl) .free rfl ?_ | refine v_hoist rfl rfl rfl (ev_nilf rfl) .free rfl ?_
    refine v_hoist rfl rfl rfl (ev_fa (m := _) fa_93_1 rfl rfl) .free rfl (v_hoist rfl rfl rfl (ev_loadA Tryz.isAgg40 Tryz.sizeOf40 rfl rfl) .free rfl ?_)
    refine v_hoist rfl rfl rfl (ev_loadA Tryz.isAgg95 Tryz.sizeOf95 rfl rfl) .free rfl ?_
    refine v_hoist rfl rfl rfl (ev_fa (m := _) fa_95_2 rfl rfl) .free rfl (v_hoist rfl rfl rfl (ev_load Tryz.isAgg25 rfl rfl) .free rfl (v_hoist rfl rfl rfl (ev_move rfl) .free rfl (v_mark rfl rfl (p_chg rfl (ev_bs0 Tryz.runUnderlying25 Tryz.sizeOf26) .free rfl rfl ?_))))
    rintro _ _ ⟨b21, rfl, rfl⟩
    refine go_conv (H' := VecU 0 (.slice (some ⟨b21, 0, none⟩) 0 0, []) :: _) (fun w hh => vec_row (xs := []) rfl rfl hh) (p_nil (v_on (v_mark rfl rfl (p_chg rfl (ch_append_vecs0 (yv := .slice qb (h.blk s).rts.length cb) (ys := (h.blk s).rts) rfl rfl Tryz.runUnderlying25 Tryz.runUnderlying25 ⟨_, rfl⟩ Tryz.sizeOf26 Tryz.zeroValue26 rfl (fun _ => rfl) tb_26 rfl rfl (vec_slr (2 - 1) rfl) (by simp; omega)) .free rfl rfl ?_))))
    rintro nv2 _ ⟨hnv2, rfl⟩
    refine p_nil (v_on (v_mark rfl rfl (go_pk [3, 5] ?_)))
    refine p_call rfl (en_f Tryz.call79 rfl) (hwords_ok B _ bh bs bt x h s hW) .free rfl rfl ?_ ?_
    rotate_left
    · rintro _ _ ⟨⟩
    rintro wv _ ⟨hwv, rfl⟩
    refine go_vecq fun qw cw hqw hqwi => ?_
    subst hqw
    refine p_nil (v_on (v_mark rfl rfl (go_pk [3] (p_chg rfl (ch_append_vecs0 (yv := .slice qw h.words.length cw) (ys := h.words) rfl rfl Tryz.runUnderlying25 Tryz.runUnderlying25 ⟨_, rfl⟩ Tryz.sizeOf26 Tryz.zeroValue26 rfl (fun _ => rfl) tb_26 rfl rfl (vec_slr (1 - 1) rfl) (by simp; omega)) .free rfl rfl ?_))))
    rintro nv3 _ ⟨hnv3, rfl⟩
    refine go_vecq fun qn cn hqn0 hqni => ?_
    subst hqn0
    have hqn : qn = none → (h.blk s).rts ++ h.words = [] := fun e => by
      cases hl : (h.blk s).rts ++ h.words with
      | nil => rfl
      | cons a t =>
        obtain ⟨b, o, h⟩ := hqni 0 (by show 0 < ((h.blk s).rts ++ h.words).length; rw [hl]; exact Nat.succ_pos _)
        rw [e] at h; cases h
    refine p_nil (v_on (v_mark rfl rfl (go_pk [5] ?_)))
    refine p_call rfl (en_f Tryz.call78 rfl) (cnew_ok B _ h.bd h.c hW.c (h.blk s) hbk (.slice qb (h.blk s).rts.length cb) rfl qn cn ((h.blk s).rts ++ h.words) (by simp; omega) hqn (vec_slr 1 rfl)) .free rfl rfl ?_ ?_
    rotate_left
    · rintro _ _ ⟨⟩
    rintro _ _ ⟨x2, rfl, rfl⟩
    refine p_nil (v_on ?_)
    first | refine v_val rfl rfl rfl (ev_nil rfl) .free rfl ?_ | refine v_val rfl rfl rfl (ev_nilf rfl) .free rfl ?_
    refine v_val rfl rfl rfl (ev_fa (m := _) fa_93_4 rfl rfl) .free rfl (v_mark rfl rfl (go_pk [3] (p_chg0 rfl (ch_store Tryz.sizeOf91 rfl rfl rfl rfl) .free rfl ?_)))
    rintro _ _ rfl
    refine go_conv (H' := hepRow bh bs bt x2 { h with X := some (h.ncol s) } :: _) (fun w hh => hh) (p_nil (v_off rfl (v_nil (go_sb [2, 0] rfl (g_seq (g_region (kPm rfl rfl ?_)))))))
    first | refine kPv (ev_nil rfl) rfl ?_ | refine kPv (ev_nilf rfl) rfl ?_
    refine kPv (ev_fa (m := _) fa_93_4 rfl rfl) rfl (kPv (ev_load Tryz.isAgg91 rfl rfl) rfl (go_pk [1, 5] ?_))
    refine p_call rfl (en_f Tryz.call80 rfl) (crun_ok B _ x2 (h.ncol s) hW.ncol s hW.u) .free rfl rfl ?_ ?_
    rotate_left
    · rintro _ _ ⟨s9, hm9, rfl, rfl⟩
      exact pan_fn fun w hh => ⟨_, ⟨s9, ⟨ho, .inl hm9⟩, rfl, rfl⟩, (show Holds B (DevA h.bd s9 :: _) w from hh).dp [1, 1, 1, 1, 1, 1, 1]⟩
    rintro _ _ ⟨X, s1, hm1, rfl, rfl⟩
    obtain ⟨hX1, hu1, hXb, hXbd, hXc, _⟩ := runN_w _ _ _ _ _ hW.ncol hW.u hm1
    have hn1 := run_n hm1
    refine go_conv (H' := ColA x2 X :: DevA h.bd s1 :: _) (fun w hh => hh) (p_nil (g_seq (go_pk [2] (go_conv (H' := hepRow bh bs bt x2 { h with X := some X } :: _) (fun w hh => hh) (g_region (kPm rfl rfl (go_pk [0, 6, 4, 0, 0] ?_)))))))
    refine p_call rfl (en_f Tryz.call81 rfl) (hfinish_ok B _ bh bs bt x2 { h with X := some X } s1 X rfl ho hX1 (by rw [hXb]; exact block_rl0 hW.c hb) hu1 ⟨hW.k.w, by rw [hn1]; exact hW.k.n, hW.k.d, hW.k.c⟩ hW.tp) .free rfl rfl ?_ ?_
    rotate_left
    · rintro _ _ ⟨s9, hm9, rfl, rfl⟩
      exact pan_fn fun w hh => ⟨_, ⟨s9, ⟨ho, .inr ⟨X, s1, hm1, hm9⟩⟩, rfl, rfl⟩, (show Holds B (DevA h.bd s9 :: _) w from hh).dp [1, 1, 1, 1]⟩
    rintro _ _ ⟨a2, h2, s2, hf2, rfl, rfl⟩
    refine kPa rfl rfl (p_nil (go_sb [2] rfl (g_ret ?_)))
    exact ret_tmp Tryz.results24 rfl (fun w hw => ⟨_, ⟨a2, h2, s2, .inr ⟨ho, X, s1, hm1, hf2⟩, rfl, rfl⟩, (hw.dp [2, 2, 2, 2])⟩)
end Go.Proofs.YtlcibdhmgclfjaaGreat
namespace Go.Proofs.YtlcibdhmgclfjaaGreat
open Go
def HpS.opened (h : HpS) (s : Dev) : HpS := { h with o := true, S := h.S.fresh ((h.blk s).place h.c (h.blk s).used) ((h.blk s).place h.c h.c.space) }
def HpS.begR (h : HpS) (s : Dev) (room a : Int) (h' : HpS) (s' : Dev) : Prop :=
  (h.o = true ∧ a = 2 ∧ h' = h ∧ s' = s) ∨ (h.o = false ∧ room < 0 ∧ a = 1 ∧ h' = h ∧ s' = s) ∨
  (h.o = false ∧ 0 ≤ room ∧ ∃ a1 h1 s1, ((h.c.space - (h.blk s).used < room ∧ HpS.colR { h with X := none } s a1 h1 s1) ∨ (¬ h.c.space - (h.blk s).used < room ∧ a1 = 0 ∧ h1 = { h with X := none } ∧ s1 = s)) ∧
    ((a1 ≠ 0 ∧ a = a1 ∧ h' = h1 ∧ s' = s1) ∨ (a1 = 0 ∧ h.c.space - (h1.blk s1).used < room ∧ a = 4 ∧ h' = h1 ∧ s' = s1) ∨ (a1 = 0 ∧ ¬ h.c.space - (h1.blk s1).used < room ∧ a = 0 ∧ h' = h1.opened s1 ∧ s' = s1)))
theorem fresh_ok (B : World) (H : List HP) (c : Cfg) (hc : CfgW c) (b : Blk) (sv : Value) (hb : BlkW c b) (hsv : cell1 sv = true) :
    ∀ w, Holds B H w → Calls Tryz.prog 54 [cfgV c, blkV b sv].toArray w (PureR B H (.agg #[i64 (b.place c b.used), i64 (b.place c c.space)])) := by
  refine fn_enter Tryz.func54 rfl Tryz.ntmps54 rfl ?_
  have h1 := hb.used
  have h2 := hc.s1
  have h3 := hc.s2
  refine g_seq (g_region (p_chg rfl (ch_boxA rfl) .free rfl rfl ?_))
  rintro _ _ ⟨b2, rfl, rfl⟩
  refine p_chg rfl (ch_boxA rfl) .free rfl rfl ?_
  rintro _ _ ⟨b3, rfl, rfl⟩
  refine p_chg rfl (ch_allocA Tryz.zeroValue99 rfl) .free rfl rfl ?_
  rintro _ _ ⟨b4, rfl, rfl⟩
  refine p_nil (g_seq (g_drawt 11 Tryz.mixed (by kernel_rfl) (by kernel_rfl) ?_))
  refine kQv (ev_loadA Tryz.isAgg95 Tryz.sizeOf95 rfl rfl) rfl ?_
  refine kQv (ev_loadA Tryz.isAgg40 Tryz.sizeOf40 rfl rfl) rfl ?_
  refine kQv (ev_fa (m := _) fa_95_1 rfl rfl) rfl (kQv (ev_load Tryz.isAgg3 rfl rfl) rfl (q_call rfl (en_f Tryz.call112 rfl) (place_ok _ _ c hc b sv hb hsv _ (by omega)) .free rfl ?_))
  refine kQv (ev_loadA Tryz.isAgg95 Tryz.sizeOf95 rfl rfl) rfl ?_
  refine kQv (ev_loadA Tryz.isAgg40 Tryz.sizeOf40 rfl rfl) rfl ?_
  refine kQv (ev_fa (m := _) fa_40_2 rfl rfl) rfl (kQv (ev_load Tryz.isAgg3 rfl rfl) rfl (q_call rfl (en_f Tryz.call112 rfl) (place_ok _ _ c hc b sv hb hsv _ (by omega)) .free rfl ?_))
  refine kQv (ev_build rfl (bld_99_0_1 _ _ rfl rfl)) rfl (q_nil (p_chg0 rfl (ch_storeA (vs := _) Tryz.sizeOf99 rfl rfl rfl rfl rfl) .free rfl ?_))
  rintro _ _ rfl
  refine p_nil (go_sb [4] rfl (g_ret ?_))
  exact ret_1 Tryz.results54 (.cellA rfl Tryz.isAgg99 Tryz.sizeOf99 rfl rfl) (fun w hw => ⟨rfl, (hw.dp [0, 0, 0])⟩)
theorem hbegin_ok (B : World) (Fr : List HP) (bh : Nat) (h : HpS) (s : Dev) (hW : HepW h s) (hb : (s.block h.c).2 = 0) (room : Int) :
    ∀ w, Holds B (HepA bh h :: DevA h.bd s :: Fr) w → Calls Tryz.prog 11 [ptr bh, i64 room].toArray w (Ret B (fun rv H' => ∃ a h' s', h.begR s room a h' s' ∧ rv = i64 a ∧ H' = HepA bh h' :: DevA h.bd s' :: Fr) (fun ch H' => ∃ s', (fun s' => h.o = false ∧ h.c.space - (h.blk s).used < room ∧ HpS.colOff { h with X := none } s s') s' ∧ ch = offc ∧ H' = DevA h.bd s' :: Fr)) := by
  refine fn_enter Tryz.func11 rfl Tryz.ntmps11 rfl (go_hep fun bs bt x => ?_)
  have hbk := block_w (s := s) hW.c hW.u
  have hbu : 0 ≤ (h.blk s).used ∧ (h.blk s).used ≤ h.c.space := hbk.used
  have hs2 := hW.c.s2
  have hs1' := hW.c.s1
  have hbu1 : 0 ≤ (HpS.blk { h with X := none } s).used ∧ (HpS.blk { h with X := none } s).used ≤ h.c.space := hbk.used
  have hW1 : HepW { h with X := none } s := ⟨hW.c, hW.k, hW.sw, hW.u, hW.t1, hW.tl, hW.tp, fun X h => (by cases h)⟩
  refine g_seq (g_region (kPa rfl rfl (p_nil (g_seq (g_block (g_seq (g_region (kPm rfl rfl ?_))))))))
  first | refine kPv (ev_nil rfl) rfl ?_ | refine kPv (ev_nilf rfl) rfl ?_
  refine kPv (ev_fa (m := _) fa_93_2 rfl rfl) rfl (kPv (ev_load Tryz.isAgg89 rfl rfl) rfl (p_callq rfl (en_f Tryz.call51 rfl) (ro_at (q := SecB h.o) (fun Fr => sopenB_ok B Fr bs h.S h.o)) .free rfl rfl ?_))
  refine kPa rfl rfl (p_nil ?_)
  refine g_if rfl (fun h7 => ?_) (fun h7 => ?_)
  · have ho : h.o = true := by simpa using h7
    refine g_seq (g_region (kPa rfl rfl (p_nil (g_ret ?_))))
    exact ret_tmp Tryz.results11 rfl (fun w hw => ⟨_, ⟨2, h, s, .inl ⟨ho, rfl, rfl, rfl⟩, rfl, rfl⟩, hep_holds (bs := bs) (bt := bt) (x := x) hw⟩)
  · have ho : h.o = false := by simpa using h7
    refine go_pk [1] (go_conv (H' := SecC bs h.S :: _) (fun w hh => by rw [ho] at hh; exact hh) (g_seq (g_region (kPm rfl rfl (kPv (ev_cmp rfl rfl rfl) rfl (kPa rfl rfl (p_nil (go_sb [13, 4, 0, 1] rfl ?_))))))))
    refine g_if rfl (fun h13 => ?_) (fun h13 => ?_)
    · have hr0 : room < 0 := by simpa using h13
      refine g_seq (g_region (kPa rfl rfl (p_nil (g_ret ?_))))
      exact ret_tmp Tryz.results11 rfl (fun w hw => ⟨_, ⟨1, h, s, .inr (.inl ⟨ho, hr0, rfl, rfl, rfl⟩), rfl, rfl⟩, hep_C (bs := bs) (bt := bt) (x := x) ho (hw.pk [1])⟩)
    · have hr0 : 0 ≤ room := by simpa using h13
      refine g_skip (g_seq (g_region (kPm rfl rfl ?_)))
      first | refine kPv (ev_nil rfl) rfl ?_ | refine kPv (ev_nilf rfl) rfl ?_
      refine kPv (ev_fa (m := _) fa_93_4 rfl rfl) rfl ?_
      refine p_chg0 rfl (ch_store Tryz.sizeOf91 rfl rfl (by first | rfl | assumption) rfl) .free rfl ?_
      rintro _ _ rfl
      refine p_nil (g_seq (g_seq (go_pk [1] (go_conv (H' := hepRow bh bs bt x { h with X := none } :: _) (fun w hh => hh) (g_drawv [0, 1, 2, 3, 4, 5, 6, 7, 8, 9, 10] [7] [0, 1, 2, 3, 4, 5] [7] [hepRow bh bs bt x { h with X := none }] Tryz.mixed (by kernel_rfl) ?_)))))
      refine v_hoist rfl rfl rfl (ev_move rfl) .free rfl (v_hoist rfl rfl rfl (ev_move rfl) .free rfl ?_)
      first | refine v_hoist rfl rfl rfl (ev_nil rfl) .free rfl ?_ | refine v_hoist rfl rfl rfl (ev_nilf rfl) .free rfl ?_
      refine v_hoist rfl rfl rfl (ev_fa (m := _) fa_93_1 rfl rfl) .free rfl (v_hoist rfl rfl rfl (ev_fa (m := _) fa_40_2 rfl rfl) .free rfl (v_hoist rfl rfl rfl (ev_load Tryz.isAgg3 rfl rfl) .free rfl (v_val rfl rfl rfl (ev_move rfl) .free rfl (v_mark rfl rfl (go_pk [0, 3] ?_)))))
      refine p_call rfl (en_f Tryz.call52 rfl) (hblock_ok B _ bh bs bt x { h with X := none } s hW.c hW.u) .free rfl rfl ?_ ?_
      rotate_left
      · rintro _ _ ⟨⟩
      rintro _ _ ⟨sv, hsv, rfl, rfl⟩
      refine go_vecq fun qb cb hqb hqbi => ?_
      subst hqb
      refine p_nil (v_on (v_val rfl rfl rfl (ev_field1 Tryz.runUnderlying95 (t := 3) (off := 1) rfl Tryz.isAgg3 rfl rfl) .free rfl (v_val rfl rfl rfl (ev_sub (c := h.c.space - (h.blk s).used) rfl rfl (show IntKind.i64.wrap (h.c.space - (h.blk s).used) = _ from wr64 (by omega))) .free rfl (v_val rfl rfl rfl (ev_cmp rfl rfl rfl) .free rfl (v_nil (go_sb [29, 4, 0, 1] rfl ?_))))))
      refine g_if rfl (fun h29 => ?_) (fun h29 => ?_)
      · have hroom : (h.c.space - (h.blk s).used < room) := by simpa using h29
        refine go_conv (H' := HepA bh { h with X := none } :: DevA h.bd s :: Fr) (fun w hh => hep_N (h := { h with X := none }) (bs := bs) (bt := bt) (x := x) ho rfl ((hh.dp [0, 4]).pk [0, 1, 1])) (g_seq (g_region (kPm rfl rfl ?_)))
        refine p_call rfl (en_f Tryz.call24 rfl) (hpcollect_ok B _ bh { h with X := none } s hW1 hb) .free rfl rfl ?_ ?_
        rotate_left
        · rintro _ _ ⟨s9, hm9, rfl, rfl⟩
          exact pan_fn fun w hh => ⟨_, ⟨s9, ⟨ho, hroom, hm9⟩, rfl, rfl⟩, (show Holds B (DevA h.bd s9 :: _) w from hh)⟩
        rintro _ _ ⟨a1, h1, s1, hr1, rfl, rfl⟩
        obtain ⟨hW2, ho2, hx2, hbd2, hc2⟩ := col_w hW1 ho hr1
        have hbd3 : h1.bd = h.bd := hbd2
        have hc3 : h1.c = h.c := hc2
        refine kPa rfl rfl (p_nil (g_seq (g_region (kPm rfl rfl (kPv (ev_cmp rfl rfl rfl) rfl (p_nil ?_))))))
        refine g_if rfl (fun h33 => ?_) (fun h33 => ?_)
        · have ha1 : a1 ≠ 0 := by simpa using h33
          refine g_seq (g_region (kPm rfl rfl (kPa rfl rfl (p_nil (go_sb [4, 0, 1] rfl (g_ret ?_))))))
          exact ret_tmp Tryz.results11 rfl (fun w hw => ⟨_, ⟨a1, h1, s1, .inr (.inr ⟨ho, hr0, a1, h1, s1, .inl ⟨hroom, hr1⟩, .inl ⟨ha1, rfl, rfl, rfl⟩⟩), rfl, rfl⟩, hw⟩)
        · have ha1 : a1 = 0 := by simpa using h33
          refine g_skip (g_seq (go_hep fun bs2 bt2 x2 => (go_pk [0, 3] (go_conv (H' := hepRow bh bs2 bt2 x2 h1 :: DevA h1.bd s1 :: _) (fun w hh => by rw [hbd3]; exact hh) ?_))))
          have hbk2 := block_w (s := s1) hW2.c hW2.u
          have hbu2 : 0 ≤ (h1.blk s1).used ∧ (h1.blk s1).used ≤ h1.c.space := hbk2.used
          have hs3 := hW2.c.s2
          refine g_region (kPm rfl rfl ?_)
          refine p_call rfl (en_f Tryz.call52 rfl) (hblock_ok B _ bh bs2 bt2 x2 h1 s1 hW2.c hW2.u) .free rfl rfl ?_ ?_
          rotate_left
          · rintro _ _ ⟨⟩
          rintro _ _ ⟨sv, hsv, rfl, rfl⟩
          refine go_vecq fun qb cb hqb hqbi => ?_
          subst hqb
          refine p_chg rfl (ch_allocA Tryz.zeroValue95 rfl) .free rfl rfl ?_
          rintro _ _ ⟨b6, rfl, rfl⟩
          refine p_chg0 rfl (ch_storeA (vs := _) Tryz.sizeOf95 rfl rfl rfl (by first | rfl | exact all3 (by assumption)) rfl) .free rfl ?_
          rintro _ _ rfl
          refine p_nil (go_sb [6, 4, 0, 1] rfl (g_seq (g_seq (go_conv (H' := row b6 [i64 (h1.blk s1).act, i64 (h1.blk s1).used, .slice qb (h1.blk s1).rts.length cb] 95 :: _) (fun w hh => hh) (g_draw Tryz.mixed (by kernel_rfl) (by kernel_rfl) ?_)))))
          refine kQm rfl rfl (kQm rfl rfl ?_)
          first | refine kQv (ev_nil rfl) rfl ?_ | refine kQv (ev_nilf rfl) rfl ?_
          refine kQv (ev_fa (m := _) fa_93_1 rfl rfl) rfl (kQv (ev_fa (m := _) fa_40_2 rfl rfl) rfl (kQv (ev_load Tryz.isAgg3 rfl rfl) rfl (kQv (ev_fa (m := _) fa_95_1 rfl rfl) rfl (kQv (ev_load Tryz.isAgg3 rfl rfl) rfl ?_))))
          first | refine q_val rfl (ev_sub rfl rfl (wr64 (by omega))) .free rfl ?_ | refine q_val rfl (ev_sub rfl rfl rfl) .free rfl ?_
          refine kQv (ev_cmp rfl rfl rfl) rfl (q_nil (go_sb [46, 6, 4, 0] rfl ?_))
          refine g_if rfl (fun h46 => ?_) (fun h46 => ?_)
          · have hr2 : h.c.space - (h1.blk s1).used < room := by rw [← hc3]; simpa using h46
            refine g_seq (g_region (kPa rfl rfl (p_nil (g_ret ?_))))
            exact ret_tmp Tryz.results11 rfl (fun w hw => ⟨_, ⟨4, h1, s1, .inr (.inr ⟨ho, hr0, a1, h1, s1, .inl ⟨hroom, hr1⟩, .inr (.inl ⟨ha1, hr2, rfl, rfl, rfl⟩)⟩), rfl, rfl⟩, by
      have h9 := hep_holds (h := h1) (bs := bs2) (bt := bt2) (x := x2) ((hw.dp [0, 0]).pk [0, 1, 1, 1])
      rw [hbd3] at h9; exact h9⟩)
          · have hr2 : ¬ h.c.space - (h1.blk s1).used < room := by rw [← hc3]; simpa using h46
            refine go_pk [4] (go_conv (H' := SecC bs2 h1.S :: _) (fun w hh => by rw [ho2] at hh; exact hh) (g_skip (g_seq (g_drawt 10 Tryz.mixed (by kernel_rfl) (by kernel_rfl) ?_))))
            refine kQm rfl rfl ?_
            first | refine kQv (ev_nil rfl) rfl ?_ | refine kQv (ev_nilf rfl) rfl ?_
            refine kQv (ev_fa (m := _) fa_93_2 rfl rfl) rfl (kQv (ev_load Tryz.isAgg89 rfl rfl) rfl (kQm rfl rfl ?_))
            first | refine kQv (ev_nil rfl) rfl ?_ | refine kQv (ev_nilf rfl) rfl ?_
            refine kQv (ev_fa (m := _) fa_93_1 rfl rfl) rfl (kQv (ev_loadA Tryz.isAgg40 Tryz.sizeOf40 rfl rfl) rfl ?_)
            refine kQv (ev_loadA Tryz.isAgg95 Tryz.sizeOf95 rfl rfl) rfl ?_
            refine q_call rfl (en_f Tryz.call54 rfl) (fresh_ok _ _ h1.c hW2.c (h1.blk s1) (.slice qb (h1.blk s1).rts.length cb) hbk2 rfl) .free rfl ?_
            refine q_nil ?_
            refine p_call rfl (en_f Tryz.call53 rfl) (sbeginC_ok B _ bs2 h1.S _ _) .free rfl rfl ?_ ?_
            rotate_left
            · rintro _ _ ⟨⟩
            rintro _ _ ⟨rfl, rfl⟩
            refine kPa rfl rfl (p_nil (go_sb [4] rfl (g_ret ?_)))
            exact ret_tmp Tryz.results11 rfl (fun w hw => ⟨_, ⟨0, h1.opened s1, s1, .inr (.inr ⟨ho, hr0, a1, h1, s1, .inl ⟨hroom, hr1⟩, .inr (.inr ⟨ha1, hr2, rfl, rfl, rfl⟩)⟩), rfl, rfl⟩, by
      have h9 := hep_O rfl (h := h1.opened s1) (bs := bs2) (bt := bt2) (x := x2) ((hw.dp [1, 1]).pk [1, 0, 1, 1])
      rw [hbd3] at h9; exact h9⟩)
      · have hroom : ¬ (h.c.space - (h.blk s).used < room) := by simpa using h29
        obtain ⟨h1, hh1⟩ : ∃ h1 : HpS, h1 = { h with X := none } := ⟨_, rfl⟩
        obtain ⟨s1, hs1⟩ : ∃ s1, s1 = s := ⟨_, rfl⟩
        obtain ⟨a1, ha1⟩ : ∃ a1 : Int, a1 = 0 := ⟨_, rfl⟩
        have hW2 : HepW h1 s1 := by rw [hh1, hs1]; exact hW1
        have ho2 : h1.o = false := by rw [hh1]; exact ho
        have hbd3 : h1.bd = h.bd := by rw [hh1]
        have hc3 : h1.c = h.c := by rw [hh1]
        refine go_conv (H' := HepA bh h1 :: DevA h.bd s1 :: Fr) (fun w hh => by rw [hh1, hs1]; exact hep_N (h := { h with X := none }) (bs := bs) (bt := bt) (x := x) ho rfl ((hh.dp [0, 4]).pk [0, 1, 1])) (g_skip (g_seq (go_hep fun bs2 bt2 x2 => (go_pk [0, 3] (go_conv (H' := hepRow bh bs2 bt2 x2 h1 :: DevA h1.bd s1 :: _) (fun w hh => by rw [hbd3]; exact hh) ?_)))))
        have hbk2 := block_w (s := s1) hW2.c hW2.u
        have hbu2 : 0 ≤ (h1.blk s1).used ∧ (h1.blk s1).used ≤ h1.c.space := hbk2.used
        have hs3 := hW2.c.s2
        refine g_region (kPm rfl rfl ?_)
        refine p_call rfl (en_f Tryz.call52 rfl) (hblock_ok B _ bh bs2 bt2 x2 h1 s1 hW2.c hW2.u) .free rfl rfl ?_ ?_
        rotate_left
        · rintro _ _ ⟨⟩
        rintro _ _ ⟨sv, hsv, rfl, rfl⟩
        refine go_vecq fun qb cb hqb hqbi => ?_
        subst hqb
        refine p_chg rfl (ch_allocA Tryz.zeroValue95 rfl) .free rfl rfl ?_
        rintro _ _ ⟨b6, rfl, rfl⟩
        refine p_chg0 rfl (ch_storeA (vs := _) Tryz.sizeOf95 rfl rfl rfl (by first | rfl | exact all3 (by assumption)) rfl) .free rfl ?_
        rintro _ _ rfl
        refine p_nil (g_seq (g_seq (go_conv (H' := row b6 [i64 (h1.blk s1).act, i64 (h1.blk s1).used, .slice qb (h1.blk s1).rts.length cb] 95 :: _) (fun w hh => hh) (g_draw Tryz.mixed (by kernel_rfl) (by kernel_rfl) ?_))))
        refine kQm rfl rfl (kQm rfl rfl ?_)
        first | refine kQv (ev_nil rfl) rfl ?_ | refine kQv (ev_nilf rfl) rfl ?_
        refine kQv (ev_fa (m := _) fa_93_1 rfl rfl) rfl (kQv (ev_fa (m := _) fa_40_2 rfl rfl) rfl (kQv (ev_load Tryz.isAgg3 rfl rfl) rfl (kQv (ev_fa (m := _) fa_95_1 rfl rfl) rfl (kQv (ev_load Tryz.isAgg3 rfl rfl) rfl ?_))))
        first | refine q_val rfl (ev_sub rfl rfl (wr64 (by omega))) .free rfl ?_ | refine q_val rfl (ev_sub rfl rfl rfl) .free rfl ?_
        refine kQv (ev_cmp rfl rfl rfl) rfl (q_nil (go_sb [46, 6, 4, 0] rfl ?_))
        refine g_if rfl (fun h46 => ?_) (fun h46 => ?_)
        · have hr2 : h.c.space - (h1.blk s1).used < room := by rw [← hc3]; simpa using h46
          refine g_seq (g_region (kPa rfl rfl (p_nil (g_ret ?_))))
          exact ret_tmp Tryz.results11 rfl (fun w hw => ⟨_, ⟨4, h1, s1, .inr (.inr ⟨ho, hr0, a1, h1, s1, .inr ⟨hroom, ha1, hh1, hs1⟩, .inr (.inl ⟨ha1, hr2, rfl, rfl, rfl⟩)⟩), rfl, rfl⟩, by
      have h9 := hep_holds (h := h1) (bs := bs2) (bt := bt2) (x := x2) ((hw.dp [0, 0]).pk [0, 1, 1, 1])
      rw [hbd3] at h9; exact h9⟩)
        · have hr2 : ¬ h.c.space - (h1.blk s1).used < room := by rw [← hc3]; simpa using h46
          refine go_pk [4] (go_conv (H' := SecC bs2 h1.S :: _) (fun w hh => by rw [ho2] at hh; exact hh) (g_skip (g_seq (g_drawt 10 Tryz.mixed (by kernel_rfl) (by kernel_rfl) ?_))))
          refine kQm rfl rfl ?_
          first | refine kQv (ev_nil rfl) rfl ?_ | refine kQv (ev_nilf rfl) rfl ?_
          refine kQv (ev_fa (m := _) fa_93_2 rfl rfl) rfl (kQv (ev_load Tryz.isAgg89 rfl rfl) rfl (kQm rfl rfl ?_))
          first | refine kQv (ev_nil rfl) rfl ?_ | refine kQv (ev_nilf rfl) rfl ?_
          refine kQv (ev_fa (m := _) fa_93_1 rfl rfl) rfl (kQv (ev_loadA Tryz.isAgg40 Tryz.sizeOf40 rfl rfl) rfl ?_)
          refine kQv (ev_loadA Tryz.isAgg95 Tryz.sizeOf95 rfl rfl) rfl ?_
          refine q_call rfl (en_f Tryz.call54 rfl) (fresh_ok _ _ h1.c hW2.c (h1.blk s1) (.slice qb (h1.blk s1).rts.length cb) hbk2 rfl) .free rfl ?_
          refine q_nil ?_
          refine p_call rfl (en_f Tryz.call53 rfl) (sbeginC_ok B _ bs2 h1.S _ _) .free rfl rfl ?_ ?_
          rotate_left
          · rintro _ _ ⟨⟩
          rintro _ _ ⟨rfl, rfl⟩
          refine kPa rfl rfl (p_nil (go_sb [4] rfl (g_ret ?_)))
          exact ret_tmp Tryz.results11 rfl (fun w hw => ⟨_, ⟨0, h1.opened s1, s1, .inr (.inr ⟨ho, hr0, a1, h1, s1, .inr ⟨hroom, ha1, hh1, hs1⟩, .inr (.inr ⟨ha1, hr2, rfl, rfl, rfl⟩)⟩), rfl, rfl⟩, by
      have h9 := hep_O rfl (h := h1.opened s1) (bs := bs2) (bt := bt2) (x := x2) ((hw.dp [1, 1]).pk [1, 0, 1, 1])
      rw [hbd3] at h9; exact h9⟩)
end Go.Proofs.YtlcibdhmgclfjaaGreat
namespace Go.Proofs.YtlcibdhmgclfjaaGreat
open Go
theorem go_secB {B : World} {n : Nat} {D : List Deferred} {σ : Env} {b : Nat} {o : Bool} {S : SecS} {Fr : List HP} {K : Act → World → Prop} (h : ∀ bl o1 o2 M, (∀ Fr w, Holds B (secRow b bl S o o1 o2 :: LogA bl S.L :: M :: Fr) w → Holds B (SecB o b S :: Fr) w) → GO B n D σ (secRow b bl S o o1 o2 :: LogA bl S.L :: M :: Fr) K) : GO B n D σ (SecB o b S :: Fr) K := by
  cases o
  · refine go_secC fun bl o1 o2 => ?_
    refine go_conv (fun w hh => (hh.unpr (p := True) trivial).back 2 (by simp)) (h bl o1 o2 (pr True) fun Fr w hh => ?_)
    exact secC_holds ((hh.front 2 rfl).pr.2)
  · refine go_secO fun bl o1 o2 => ?_
    refine go_conv (H' := secRow b bl S true (some o1) (some o2) :: LogA bl S.L :: grp [mapA .i64 unitE o1 S.seen, mapA .i64 unitE o2 S.dirty] :: Fr) (fun w hh => ?_) (h bl _ _ _ fun Fr w hh => ?_)
    · exact (Holds.ungrp (l := [mapA .i64 unitE o1 S.seen, mapA .i64 unitE o2 S.dirty]) ((hh.front 2 rfl).front 3 rfl |>.front 1 rfl)).back 2 (by simp)
    · exact secO_holds ((((hh.front 2 rfl).grp).front 2 rfl).front 3 rfl |>.front 1 rfl)
structure StatS where
  used : Int
  reached : Int
  handles : Int
  records : Int
  open_ : Bool
def HpS.stats (h : HpS) (s : Dev) : StatS := ⟨(h.blk s).used, s.reachSize h.c (h.blk s) (h.words ++ (h.blk s).rts), h.T.at_.length, h.S.L.n, h.o⟩
abbrev statV (x : StatS) : Value := .agg #[i64 x.used, i64 x.reached, i64 x.handles, i64 x.records, .bool x.open_]
theorem sopenX_ok (B : World) (Fr : List HP) (bs bl : Nat) (S : SecS) (o : Bool) (o1 o2 : Option Nat) :
    ∀ w, Holds B (secRow bs bl S o o1 o2 :: Fr) w → Calls Tryz.prog 51 [ptr bs].toArray w (PureR B (secRow bs bl S o o1 o2 :: Fr) (.bool o)) := by
  refine fn_enter Tryz.func51 rfl Tryz.ntmps51 rfl (g_seq (g_region (kPa rfl rfl (p_nil (g_seq (g_region (kPm rfl rfl ?_)))))))
  first | refine kPv (ev_nil rfl) rfl ?_ | refine kPv (ev_nilf rfl) rfl ?_
  refine kPv (ev_fa (m := _) fa_129_3 rfl rfl) rfl (kPv (ev_load Tryz.isAgg4 rfl rfl) rfl (kPa rfl rfl (p_nil (g_ret ?_))))
  exact ret_tmp Tryz.results51 rfl (fun w hw => ⟨rfl, hw⟩)
theorem hstats_ok (B : World) (Fr : List HP) (bh : Nat) (h : HpS) (s : Dev) (hW : HepW h s) :
    ∀ w, Holds B (HepA bh h :: DevA h.bd s :: Fr) w → Calls Tryz.prog 22 [ptr bh].toArray w (PureR B (HepA bh h :: DevA h.bd s :: Fr) (statV (h.stats s))) := by
  refine fn_enter Tryz.func22 rfl Tryz.ntmps22 rfl (go_hep fun bs bt x => (go_pk [1] (go_secB fun bl o1 o2 M hM => (go_pk [3] ?_))))
  have hbk := block_w (s := s) hW.c hW.u
  have hbl : (h.blk s).rts.length ≤ 16 := block_len (s := s) hW.c
  obtain ⟨hwb, hwl⟩ := HpS.words_b hW
  have hwb2 : ∀ v ∈ h.words ++ (h.blk s).rts, 0 ≤ v ∧ v < 18446744073709551616 := fun v hv => (List.mem_append.1 hv).elim (hwb v) (block_rts hW.u v)
  refine g_seq (g_region (p_chg rfl (ch_allocA Tryz.zeroValue58 rfl) .free rfl rfl ?_))
  rintro _ _ ⟨b2, rfl, rfl⟩
  refine p_nil (g_seq (g_region (kPm rfl rfl (go_pk [1, 6] ?_))))
  refine p_call rfl (en_f Tryz.call52 rfl) (hblock_ok B _ bh bs bt x h s hW.c hW.u) .free rfl rfl ?_ ?_
  rotate_left
  · rintro _ _ ⟨⟩
  rintro _ _ ⟨sv, hsv, rfl, rfl⟩
  refine go_vecq fun qb cb hqb hqbi => ?_
  subst hqb
  refine p_chg rfl (ch_allocA Tryz.zeroValue95 rfl) .free rfl rfl ?_
  rintro _ _ ⟨b3, rfl, rfl⟩
  refine p_chg0 rfl (ch_storeA (vs := _) Tryz.sizeOf95 rfl rfl rfl (by first | rfl | exact all3 (by assumption)) rfl) .free rfl ?_
  rintro _ _ rfl
  refine p_nil (g_seq (go_conv (H' := row b3 [i64 (h.blk s).act, i64 (h.blk s).used, .slice qb (h.blk s).rts.length cb] 95 :: _) (fun w hh => hh) (g_drawv [0, 1, 2, 3, 4, 5, 6, 7, 8, 9, 10, 11, 14, 15, 16, 17, 20, 21, 22, 23, 24, 25, 26, 28, 29, 30, 31, 12, 13, 18, 19, 27, 32, 33, 34] [12, 13, 18, 27, 32, 34] [0, 1, 2, 3, 4, 5, 6, 7, 8, 9, 10, 14, 15, 16, 17, 20, 21, 22, 23, 24, 25, 26, 28, 29, 30, 31, 19] [12, 13, 18, 27, 32] [hepRow bh bs bt x h, row b3 [i64 (h.blk s).act, i64 (h.blk s).used, .slice qb (h.blk s).rts.length cb] 95, secRow bs bl h.S h.o o1 o2] Tryz.mixed (by kernel_rfl) ?_)))
  refine v_hoist rfl rfl rfl (ev_fa (m := _) fa_95_1 rfl rfl) .free rfl (v_hoist rfl rfl rfl (ev_load Tryz.isAgg3 rfl rfl) .free rfl (v_hoist rfl rfl rfl (ev_move rfl) .free rfl ?_))
  first | refine v_hoist rfl rfl rfl (ev_nil rfl) .free rfl ?_ | refine v_hoist rfl rfl rfl (ev_nilf rfl) .free rfl ?_
  refine v_hoist rfl rfl rfl (ev_fa (m := _) fa_93_0 rfl rfl) .free rfl (v_hoist rfl rfl rfl (ev_load Tryz.isAgg28 rfl rfl) .free rfl (v_hoist rfl rfl rfl (ev_move rfl) .free rfl ?_))
  first | refine v_hoist rfl rfl rfl (ev_nil rfl) .free rfl ?_ | refine v_hoist rfl rfl rfl (ev_nilf rfl) .free rfl ?_
  refine v_hoist rfl rfl rfl (ev_fa (m := _) fa_93_1 rfl rfl) .free rfl (v_hoist rfl rfl rfl (ev_loadA Tryz.isAgg40 Tryz.sizeOf40 rfl rfl) .free rfl ?_)
  refine v_hoist rfl rfl rfl (ev_loadA Tryz.isAgg95 Tryz.sizeOf95 rfl rfl) .free rfl ?_
  refine v_val rfl rfl rfl (ev_move rfl) .free rfl (v_hoist rfl rfl rfl (ev_move rfl) .free rfl ?_)
  first | refine v_hoist rfl rfl rfl (ev_nil rfl) .free rfl ?_ | refine v_hoist rfl rfl rfl (ev_nilf rfl) .free rfl ?_
  refine v_hoist rfl rfl rfl (ev_fa (m := _) fa_93_3 rfl rfl) .free rfl (v_hoist rfl rfl rfl (ev_load Tryz.isAgg90 rfl rfl) .free rfl (v_hoist rfl rfl rfl (ev_move rfl) .free rfl ?_))
  first | refine v_hoist rfl rfl rfl (ev_nil rfl) .free rfl ?_ | refine v_hoist rfl rfl rfl (ev_nilf rfl) .free rfl ?_
  refine v_hoist rfl rfl rfl (ev_fa (m := _) fa_93_2 rfl rfl) .free rfl (v_hoist rfl rfl rfl (ev_load Tryz.isAgg89 rfl rfl) .free rfl ?_)
  first | refine v_hoist rfl rfl rfl (ev_nil rfl) .free rfl ?_ | refine v_hoist rfl rfl rfl (ev_nilf rfl) .free rfl ?_
  refine v_hoist rfl rfl rfl (ev_fa (m := _) fa_129_0 rfl rfl) .free rfl (v_hoist rfl rfl rfl (ev_load Tryz.isAgg116 rfl rfl) .free rfl (v_hoist rfl rfl rfl (ev_move rfl) .free rfl ?_))
  first | refine v_hoist rfl rfl rfl (ev_nil rfl) .free rfl ?_ | refine v_hoist rfl rfl rfl (ev_nilf rfl) .free rfl ?_
  refine v_hoist rfl rfl rfl (ev_fa (m := _) fa_93_2 rfl rfl) .free rfl (v_hoist rfl rfl rfl (ev_load Tryz.isAgg89 rfl rfl) .free rfl (v_mark rfl rfl (go_pk [2, 7, 2] ?_)))
  refine p_call rfl (en_f Tryz.call74 rfl) (hall_ok B _ bh bs bt x h s hW) .free rfl rfl ?_ ?_
  rotate_left
  · rintro _ _ ⟨⟩
  rintro av _ ⟨hav, rfl⟩
  refine go_vecq fun qa ca hqa hqai => ?_
  subst hqa
  refine p_nil (v_on (go_pk [3] (v_mark rfl rfl (p_callq rfl (en_f Tryz.call73 rfl) (wsize_ok B _ h.bd h.c hW.c (h.blk s) (.slice qb (h.blk s).rts.length cb) hbk rfl s qa ca (h.words ++ (h.blk s).rts) hwb2 (by simp; omega) hqai (vec_slr (1 - 1) rfl)) .free rfl rfl ?_))))
  refine p_nil (v_on (v_mark rfl rfl (go_pk [3] ?_)))
  refine p_call rfl (en_f Tryz.call75 rfl) (hnumbers_ok B _ bt h.T (by have := hW.tl; omega)) .free rfl rfl ?_ ?_
  rotate_left
  · rintro _ _ ⟨⟩
  rintro rv _ rfl
  refine go_conv (fun w hh => accv_vec hh) (go_vecq fun qn cn hqn hqi => ?_)
  subst hqn
  refine p_nil (v_on (v_hoist rfl rfl rfl (ev_len rfl Tryz.runUnderlying125 ⟨_, rfl⟩ rfl) .free rfl (v_mark rfl rfl (p_callq rfl (en_f Tryz.call76 rfl) (ro_at (q := LogA) (fun Fr => llen_ok _ Fr bl h.S.L)) .free rfl rfl ?_))))
  refine p_nil (v_on (go_pk [8] (v_mark rfl rfl (p_callq rfl (en_f Tryz.call51 rfl) (sopenX_ok B _ bs bl h.S h.o o1 o2) .free rfl rfl ?_))))
  refine p_nil (v_on (v_val rfl rfl rfl (ev_build rfl (bld_58_0_1_2_3_4 _ _ _ _ _ rfl rfl rfl rfl rfl)) .free rfl (v_mark rfl rfl (p_chg0 rfl (ch_storeA (vs := _) Tryz.sizeOf58 rfl rfl rfl rfl rfl) .free rfl ?_))))
  rintro _ _ rfl
  refine p_nil (v_off rfl (v_nil (go_sb [2] rfl (g_ret ?_))))
  exact ret_1 Tryz.results22 (.cellA rfl Tryz.isAgg58 Tryz.sizeOf58 rfl rfl) (fun w hw => ⟨by simp [HpS.stats, sortI]; rfl, hep_holds (bs := bs) (bt := bt) (x := x) ((hM _ _ ((hw.dp [1, 3, 4, 4, 4]).pk [0, 3, 3, 2, 0, 1])).front 1 rfl)⟩)
end Go.Proofs.YtlcibdhmgclfjaaGreat
