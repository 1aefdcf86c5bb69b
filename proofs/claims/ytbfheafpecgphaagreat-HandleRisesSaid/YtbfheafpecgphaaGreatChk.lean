/- Is a heap whole: what Check does. Conditions: none. -/
import Derived.Test.YtbfheafpecgphaaGreatWst
set_option linter.unusedSimpArgs false
set_option linter.unusedVariables false
set_option linter.unnecessarySimpa false
set_option linter.unusedSectionVars false
namespace Go.Proofs.YtbfheafpecgphaaGreat
set_option linter.unusedSimpArgs false
set_option linter.unusedVariables false
open Go
def namesM (c : Cfg) (b : Blk) (ml : List (Int × Obj3)) (v : Int) : Bool := v == 0 || (b.has c v && (mget ml v).isSome)
def refsM (s : Dev) (nf : Int → Bool) (o : Obj3) : Bool := (List.range o.2.1.toNat).all fun k => nf (s.load (o.2.2 + 1 + (k : Int)))
def stC (s : Dev) (nf : Int → Bool) (p : Obj3 × Int) (x : Int) : Bool × Int := if refsM s nf p.1 = true then (true, x) else (false, 9)
def Dev.check (s : Dev) (c : Cfg) : Int :=
  if (s.block c).2 ≠ 0 then (s.block c).2
  else if (s.starts c (s.block c).1).2 ≠ 0 then (s.starts c (s.block c).1).2
  else if (s.block c).1.rts.all (namesM c (s.block c).1 (s.starts c (s.block c).1).1) = true then
    (itl (stC s (namesM c (s.block c).1 (s.starts c (s.block c).1).1)) (s.objs c (s.block c).1 ((s.block c).1.used.toNat + 1) ((s.block c).1.place c 0)) 0).2
  else 9
theorem mval_o (o : Option Obj3) : mval objV (.agg #[i64 0, i64 0, i64 0]) o = objV (o.getD (0, 0, 0)) := by cases o <;> rfl
theorem take_succ_all {α : Type} {l : List α} {f : α → Bool} {k : Nat} (hk : k < l.length) (h : (l.take k).all f = true) (h2 : f l[k] = true) : (l.take (k + 1)).all f = true := by
  rw [List.take_succ_eq_append_getElem hk, List.all_append, h]; simp [h2]
theorem range_succ_all {f : Nat → Bool} {k : Nat} (h : (List.range k).all f = true) (h2 : f k = true) : (List.range (k + 1)).all f = true := by
  rw [List.range_succ, List.all_append, h]; simp [h2]

theorem cnames_ok (B : World) (Fr : List HP) (b1 b2 b3 mb : Nat) (c : Cfg) (hc : CfgW c) (b : Blk) (sv : Value) (hb : BlkW c b) (hsv : cell1 sv = true) (ml : List (Int × Obj3)) (v : Int) (hv : 0 ≤ v ∧ v < 18446744073709551616) :
    ∀ w, Holds B (row b1 [i64 b.act, i64 b.used, sv] 33 :: row b2 [i64 c.log, i64 c.roots, i64 c.space] 30 :: row b3 [.map (some mb)] 124 :: mapA .i64 objV mb ml :: Fr) w → Calls Tryz.prog 81 [w64 v, ptr b1, ptr b2, ptr b3].toArray w (PureR B (row b1 [i64 b.act, i64 b.used, sv] 33 :: row b2 [i64 c.log, i64 c.roots, i64 c.space] 30 :: row b3 [.map (some mb)] 124 :: mapA .i64 objV mb ml :: Fr) (.bool (namesM c b ml v))) := by
  refine fn_enter Tryz.func81 rfl Tryz.ntmps81 rfl ?_; refine g_seq ?_; refine g_region ?_; refine kPa rfl rfl ?_; refine p_nil ?_; refine g_seq ?_; refine g_seq ?_; refine g_region ?_; refine kPm rfl rfl ?_; refine kPv (ev_cmp rfl rfl rfl) rfl ?_; refine p_nil ?_
  refine g_if rfl (fun h9 => ?_) (fun h9 => ?_)
  · have hres : namesM c b ml v = true := by unfold namesM; simp [show v = 0 by simpa using h9]
    refine g_seq ?_; refine g_region ?_; refine kPa rfl rfl ?_; refine p_nil ?_; refine g_ret ?_
    exact ret_tmp Tryz.results81 rfl (fun w hh => ⟨by rw [hres], hh⟩)
  · have hne : ¬ v = 0 := by simpa using h9
    refine g_skip ?_; refine g_seq ?_; refine g_seq ?_; refine g_region ?_; refine kPv (ev_loadA Tryz.isAgg33 Tryz.sizeOf33 rfl rfl) rfl ?_; refine kPv (ev_loadA Tryz.isAgg30 Tryz.sizeOf30 rfl rfl) rfl ?_; refine kPm rfl rfl ?_; refine p_callq rfl (en_f Tryz.call82 rfl) (has_ok _ _ c hc b sv hb hsv _ hv) .free rfl rfl ?_; refine kPv (ev_not rfl) rfl ?_; refine p_nil ?_; refine go_sub (σ' := [(14, _), (5, _), (0, _), (3, _)]) ⟨rfl, rfl, rfl, rfl, trivial⟩ ?_
    refine g_if rfl (fun h14 => ?_) (fun h14 => ?_)
    · have hh0 : b.has c v = false := by simpa using h14
      have hres : namesM c b ml v = false := by unfold namesM; simp [hne, hh0]
      refine g_seq ?_; refine g_region ?_; refine kPa rfl rfl ?_; refine p_nil ?_; refine g_ret ?_
      exact ret_tmp Tryz.results81 rfl (fun w hh => ⟨by rw [hres], hh⟩)
    · have hh0 : b.has c v = true := by simpa using h14
      have hvb := bhas_b hc hb hh0
      have hres : namesM c b ml v = (mget ml v).isSome := by unfold namesM; simp [hne, hh0]
      refine g_skip ?_; refine g_seq ?_; refine g_region ?_; refine kPv (ev_load Tryz.isAgg124 rfl rfl) rfl ?_; refine kPm rfl rfl ?_
      first | refine p_val rfl (ev_conv Tryz.runUnderlying52 Tryz.runUnderlying3 rfl (wr64 (by omega))) .free rfl rfl ?_ | refine p_val rfl (ev_conv Tryz.runUnderlying52 Tryz.runUnderlying3 rfl rfl) .free rfl rfl ?_
      refine kPv ((ev_lookup2 Tryz.runUnderlying124 Tryz.runUnderlying3 Tryz.zeroValue89 rfl rfl).eq (congrArg (fun v => Value.tuple #[v, .bool _]) (mval_o _))) rfl ?_; refine kPm rfl rfl ?_; refine kPv (ev_ext rfl rfl) rfl ?_; refine kPv (ev_ext rfl rfl) rfl ?_; refine p_chg rfl (ch_allocA Tryz.zeroValue89 rfl) .free rfl rfl ?_
      rintro _ _ ⟨b6, rfl, rfl⟩
      refine p_chg0 rfl (ch_storeA (vs := [i64 _, i64 _, i64 _]) Tryz.sizeOf89 rfl rfl rfl rfl rfl) .free rfl ?_
      rintro _ _ rfl
      refine kPa rfl rfl ?_; refine p_nil ?_; refine go_sub (σ' := [(7, _), (5, _)]) ⟨rfl, rfl, trivial⟩ ?_; refine g_seq ?_; refine g_region ?_; refine kPm rfl rfl ?_; refine kPa rfl rfl ?_; refine p_nil ?_; refine g_ret ?_
      exact ret_tmp Tryz.results81 rfl (fun w hh => ⟨by rw [hres]; rfl, hh.tail⟩)

theorem ccheck_ok (B : World) (Fr : List HP) (bd : Nat) (s : Dev) (c : Cfg) (hc : CfgW c) (hu : U64 s) :
    ∀ w, Holds B (DevA bd s :: Fr) w → Calls Tryz.prog 27 [ptr bd, cfgV c].toArray w (PureR B (DevA bd s :: Fr) (i64 (s.check c))) := by
  refine fn_enter_m Tryz.func27 rfl Tryz.ntmps27 rfl ?_
  have hrl := block_len (s := s) hc
  refine g_seq ?_; refine g_region ?_; refine p_chg rfl (ch_box1 rfl rfl) .free rfl rfl ?_
  rintro _ _ ⟨b2, rfl, rfl⟩
  refine p_chg rfl (ch_boxA rfl) .free rfl rfl ?_
  rintro _ _ ⟨b3, rfl, rfl⟩
  refine kPa rfl rfl ?_; refine p_nil ?_; refine g_scope ?_; refine g_seq ?_; refine g_region ?_; refine kPv (ev_load Tryz.isAgg28 rfl rfl) rfl ?_; refine kPv (ev_loadA Tryz.isAgg30 Tryz.sizeOf30 rfl rfl) rfl ?_; refine go_pk [2] ?_
  refine p_call rfl (en_f Tryz.call15 rfl) (rread_ok _ _ _ _ c hc hu) .free rfl rfl ?_ ?_
  rotate_left
  · rintro _ _ ⟨⟩
  rintro _ _ ⟨sv, hsv, rfl, rfl⟩
  have hbk := block_w (s := s) hc hu
  refine kPm rfl rfl ?_; refine kPv (ev_ext rfl rfl) rfl ?_; refine kPv (ev_ext rfl rfl) rfl ?_; refine p_chg rfl (ch_allocA Tryz.zeroValue33 rfl) .free rfl rfl ?_
  rintro _ _ ⟨b5, rfl, rfl⟩
  refine p_chg0 rfl (ch_storeA (vs := [i64 _, i64 _, sv]) Tryz.sizeOf33 rfl rfl rfl (all3 hsv) rfl) .free rfl ?_
  rintro _ _ rfl
  refine kPa rfl rfl ?_; refine p_nil ?_; refine go_sub (σ' := [(6, _), (5, _), (4, _), (3, _), (2, _)]) ⟨rfl, rfl, rfl, rfl, rfl, trivial⟩ ?_; refine g_seq ?_; refine g_seq ?_; refine g_region ?_; refine kPm rfl rfl ?_; refine kPv (ev_cmp rfl rfl rfl) rfl ?_; refine p_nil ?_
  refine g_if rfl (fun h21 => ?_) (fun h21 => ?_)
  · have he : (s.block c).2 ≠ 0 := by simpa using h21
    have hres : s.check c = (s.block c).2 := by unfold Dev.check; rw [if_pos he]
    refine g_seq ?_; refine g_region ?_; refine kPm rfl rfl ?_; refine kPa rfl rfl ?_; refine p_nil ?_; refine g_ret ?_
    exact ret_tmp_m Tryz.results27 rfl (.nil) (fun w hh => ⟨by rw [hres] <;> rfl, (hh.dp [0, 0, 1, 1])⟩)
  · have he : (s.block c).2 = 0 := by simpa using h21
    refine g_skip ?_; refine g_seq ?_; refine g_region ?_; refine kPv (ev_load Tryz.isAgg28 rfl rfl) rfl ?_; refine kPv (ev_loadA Tryz.isAgg30 Tryz.sizeOf30 rfl rfl) rfl ?_; refine kPv (ev_loadA Tryz.isAgg33 Tryz.sizeOf33 rfl rfl) rfl ?_; refine go_pk [2] ?_
    refine p_call rfl (en_f Tryz.call80 rfl) (wstarts_ok _ _ bd s c hc (s.block c).1 sv hbk hsv) .free rfl rfl ?_ ?_
    rotate_left
    · rintro _ _ ⟨⟩
    rintro _ _ ⟨mb, rfl, rfl⟩
    refine kPm rfl rfl ?_; refine kPv (ev_ext rfl rfl) rfl ?_; refine kPv (ev_ext rfl rfl) rfl ?_; refine p_chg rfl (ch_alloc1 Tryz.zeroValue124 rfl) .free rfl rfl ?_
    rintro _ _ ⟨b7, rfl, rfl⟩
    refine p_chg0 rfl (ch_store Tryz.sizeOf124 rfl rfl rfl rfl) .free rfl ?_
    rintro _ _ rfl
    refine kPa rfl rfl ?_; refine p_nil ?_; refine go_sub (σ' := [(6, _), (7, _), (5, _), (4, _), (3, _), (2, _)]) ⟨rfl, rfl, rfl, rfl, rfl, rfl, trivial⟩ ?_; refine g_seq ?_; refine g_seq ?_; refine g_region ?_; refine kPm rfl rfl ?_; refine kPv (ev_cmp rfl rfl rfl) rfl ?_; refine p_nil ?_
    refine g_if rfl (fun h31 => ?_) (fun h31 => ?_)
    · have he2 : (s.starts c (s.block c).1).2 ≠ 0 := by simpa using h31
      have hres : s.check c = (s.starts c (s.block c).1).2 := by unfold Dev.check; rw [if_neg (by omega), if_pos he2]
      refine g_seq ?_; refine g_region ?_; refine kPm rfl rfl ?_; refine kPa rfl rfl ?_; refine p_nil ?_; refine g_ret ?_
      exact ret_tmp_m Tryz.results27 rfl (.nil) (fun w hh => ⟨by rw [hres] <;> rfl, (hh.dp [0, 0, 1, 1, 1, 1])⟩)
    · have he2 : (s.starts c (s.block c).1).2 = 0 := by simpa using h31
      refine g_skip ?_; refine g_seq ?_; refine g_region ?_; refine p_chg rfl (ch_alloc1 Tryz.zeroValue46 rfl) .free rfl rfl ?_
      rintro _ _ ⟨b8, rfl, rfl⟩
      refine p_chg0 rfl (ch_store Tryz.sizeOf46 rfl rfl rfl rfl) .free rfl ?_
      rintro _ _ rfl
      refine p_nil ?_; refine g_seq ?_; refine g_region ?_; refine kPv (ev_mkf rfl rfl) rfl ?_; refine p_chg rfl (ch_alloc1 Tryz.zeroValue129 rfl) .free rfl rfl ?_
      rintro _ _ ⟨b9, rfl, rfl⟩
      refine p_chg0 rfl (ch_store Tryz.sizeOf129 rfl rfl rfl rfl) .free rfl ?_
      rintro _ _ rfl
      refine go_pk [6] ?_; refine go_vecq fun qo co hqe hqo => ?_
      subst hqe
      refine p_nil ?_; refine g_seq ?_; refine g_seq ?_; refine g_region ?_; refine kPv (ev_fa (m := _) fa_33_2 rfl rfl) rfl ?_; refine kPv (ev_load Tryz.isAgg31 rfl rfl) rfl ?_; refine kPv (ev_len rfl Tryz.runUnderlying31 ⟨_, rfl⟩ rfl) rfl ?_; refine kPm rfl rfl ?_; refine p_nil ?_; refine g_block ?_
      refine g_loopk (ι := Nat) [36, 35, 9, 8, 5, 4, 3, 2] (fun k => (k ≤ (s.block c).1.rts.length) ∧ (((s.block c).1.rts.take k).all (namesM c (s.block c).1 (s.starts c (s.block c).1).1) = true)) (fun k => [(37, i64 k)]) (fun k => row b5 [i64 (s.block c).1.act, i64 (s.block c).1.used, .slice qo (s.block c).1.rts.length co] 33 :: row b3 [i64 c.log, i64 c.roots, i64 c.space] 30 :: row b7 [.map (some mb)] 124 :: mapA .i64 objV mb (s.starts c (s.block c).1).1 :: VecU 0 (.slice qo (s.block c).1.rts.length co, (s.block c).1.rts) :: DevA bd s :: row b8 [i64 0] 46 :: row b9 [.func (.func 81) #[] #[ptr b5, ptr b3, ptr b7]] 129 :: row b2 [ptr bd] 28 :: Fr) (fun k => (s.block c).1.rts.length - k) (0) (⟨Nat.zero_le _, rfl⟩) (fun a w st => st.to ⟨rfl, trivial⟩ (fun hh => (hh.pk [6, 6, 3, 3, 0, 2, 1]))) ?_
      rintro k ⟨hk0, hkr⟩
      try simp only at hk0 hkr ⊢
      refine go_sub (σ' := [(37, i64 k), (36, _), (35, _), (9, _), (8, _), (5, _), (4, _), (3, _), (2, _)]) ⟨rfl, rfl, rfl, rfl, rfl, rfl, rfl, rfl, rfl, trivial⟩ ?_; refine g_seq ?_; refine g_region ?_; refine kPv (ev_cmp rfl rfl rfl) rfl ?_; refine p_nil ?_; refine g_seq ?_
      refine g_if rfl (fun h38 => ?_) (fun h38 => ?_)
      · have hk : k < (s.block c).1.rts.length := by simp at h38; omega
        obtain ⟨bq, oq, rfl⟩ := hqo k hk
        have hul : 0 ≤ (s.block c).1.rts[k] ∧ (s.block c).1.rts[k] < 18446744073709551616 := block_rts hu _ (List.getElem_mem hk)
        refine g_skip ?_; refine g_seq ?_; refine g_block ?_; refine g_seq ?_; refine g_region ?_; refine kPv (ev_iaS Tryz.runUnderlying31 Tryz.sizeOf52 rfl rfl (by omega) (by omega)) rfl ?_
        refine kPv (ev_loadS (v := w64 (s.block c).1.rts[k]) Tryz.isAgg52 (vec_slr 4 rfl) rfl (by rw [Int.toNat_natCast, List.getElem?_map, List.getElem?_eq_getElem hk]; rfl)) rfl ?_
        refine kPa rfl rfl ?_; refine p_nil ?_; refine g_seq ?_; refine g_region ?_; refine kPv (ev_load Tryz.isAgg129 rfl rfl) rfl ?_; refine kPm rfl rfl ?_; refine p_callq rfl (en_c Tryz.call81 rfl rfl) (cnames_ok B _ b5 b3 b7 mb c hc (s.block c).1 _ hbk rfl (s.starts c (s.block c).1).1 (s.block c).1.rts[k] hul) .free rfl rfl ?_; refine kPv (ev_not rfl) rfl ?_; refine p_nil ?_
        refine go_sub (σ' := [(44, _), (37, _), (36, _), (35, _), (9, _), (8, _), (5, _), (4, _), (3, _), (2, _)]) ⟨rfl, rfl, rfl, rfl, rfl, rfl, rfl, rfl, rfl, rfl, trivial⟩ ?_
        refine g_if rfl (fun h44 => ?_) (fun h44 => ?_)
        · have hnr : ¬ (namesM c (s.block c).1 (s.starts c (s.block c).1).1) (s.block c).1.rts[k] = true := by simpa using h44
          have hres : s.check c = 9 := by unfold Dev.check; rw [if_neg (by omega), if_neg (by omega), if_neg (fun hh => hnr (List.all_eq_true.1 hh _ (List.getElem_mem hk)))]
          refine g_seq ?_; refine g_region ?_; refine kPa rfl rfl ?_; refine p_nil ?_; refine g_ret ?_
          exact ret_tmp_m Tryz.results27 rfl (.nil) (fun w hh => ⟨by rw [hres] <;> rfl, (hh.dp [0, 0, 0, 0, 0, 1, 1, 1])⟩)
        · have hnr : (namesM c (s.block c).1 (s.starts c (s.block c).1).1) (s.block c).1.rts[k] = true := by simpa using h44
          refine g_skip ?_; refine g_region ?_
          first | refine p_val rfl (ev_add rfl rfl (wr64 (by omega))) .free rfl rfl ?_ | refine p_val rfl (ev_add rfl rfl rfl) .free rfl rfl ?_
          refine kPm rfl rfl ?_; refine p_nil ?_
          exact fun a w st_ => ⟨k + 1, ⟨by first | omega | (simp only; omega), take_succ_all hk hkr hnr⟩, by first | omega | (simp only; omega), st_.to ⟨rfl, rfl, rfl, rfl, rfl, rfl, rfl, rfl, rfl, trivial⟩ (fun hh => hh)⟩
      · have hk : ¬ k < (s.block c).1.rts.length := by simp at h38; omega
        obtain rfl : k = (s.block c).1.rts.length := by omega
        have hres : s.check c = (itl (stC s (namesM c (s.block c).1 (s.starts c (s.block c).1).1)) (s.objs c (s.block c).1 ((s.block c).1.used.toNat + 1) ((s.block c).1.place c 0)) 0).2 := by unfold Dev.check; rw [if_neg (by omega), if_neg (by omega), if_pos (by rw [List.take_length] at hkr; exact hkr)]
        refine g_exit ?_; refine g_seq ?_; refine g_label ?_; refine g_seq ?_; refine g_seq ?_; refine g_region ?_; refine kPv (ev_load Tryz.isAgg28 rfl rfl) rfl ?_; refine kPv (ev_loadA Tryz.isAgg30 Tryz.sizeOf30 rfl rfl) rfl ?_; refine kPv (ev_loadA Tryz.isAgg33 Tryz.sizeOf33 rfl rfl) rfl ?_
        refine p_call rfl (en_f Tryz.call83 rfl) (wobjs_ok _ _ bd c (s.block c).1 (.slice qo (s.block c).1.rts.length co) rfl) .free rfl rfl ?_ ?_
        rotate_left
        · rintro _ _ ⟨⟩
        rintro _ _ ⟨c3, c4, c5, rfl, rfl⟩
        refine p_nil ?_; refine go_sub (σ' := [(49, _), (9, _), (8, _), (4, _), (2, _)]) ⟨rfl, rfl, rfl, rfl, rfl, trivial⟩ ?_; refine g_block ?_; refine g_range rfl Tryz.call109 ?_
        intro l m tmps hts hkn w hh
        have hk9 := hkn 9 _ rfl
        have hk2 := hkn 2 _ rfl
        have hk8 := hkn 8 _ rfl
        refine (wobj1_ok B (blk m (.deferred (some [])) :: VecU 0 (.slice qo (s.block c).1.rts.length co, (s.block c).1.rts) :: Fr) l 27 c3 c4 c5 bd c hc (s.block c).1 _ hbk rfl s Int _ rfl rfl (fun x => True) (fun x => [row b8 [i64 x] 46, row b5 [i64 (s.block c).1.act, i64 (s.block c).1.used, .slice qo (s.block c).1.rts.length co] 33, row b3 [i64 c.log, i64 c.roots, i64 c.space] 30, row b7 [.map (some mb)] 124, mapA .i64 objV mb (s.starts c (s.block c).1).1, row b9 [.func (.func 81) #[] #[ptr b5, ptr b3, ptr b7]] 129, row b2 [ptr bd] 28]) (fun _ => .exit 2) (stC s (namesM c (s.block c).1 (s.starts c (s.block c).1).1)) 0 trivial ?_ w (hh.pk [0, 1, 1, 1, 6, 6, 1, 1, 1, 1, 2, 2])).mono (Ret.mono ?_ fun _ _ h => h.elim)
        · intro p x hpw _
          have hp2 := hpw.r
          have hp1 := hpw.w
          have hp3 := hpw.at_
          refine ⟨trivial, fun E => ?_⟩
          simp only [List.cons_append, List.nil_append]
          refine round_go (n := 70) (σ := [(50, objV p.1), (51, i64 p.2), (9, ptr b9), (2, ptr b2), (8, ptr b8)]) Tryz.func27 (by simp [lrec, hts]) (KnA.knows (by simp [KnA, lrec, hts]; exact ⟨(Array.getElem?_eq_some_iff.1 hk9).2, (Array.getElem?_eq_some_iff.1 hk2).2, (Array.getElem?_eq_some_iff.1 hk8).2⟩)) rfl ?_
          refine g_region ?_; refine p_chg rfl (ch_allocA Tryz.zeroValue89 rfl) .free rfl rfl ?_
          rintro _ _ ⟨b12, rfl, rfl⟩
          refine p_chg0 rfl (ch_storeA (vs := [i64 p.1.1, i64 p.1.2.1, i64 p.1.2.2]) Tryz.sizeOf89 rfl rfl rfl rfl rfl) .free rfl ?_
          rintro _ _ rfl
          refine p_nil ?_; refine go_pk [1] ?_; refine go_mid ?_; refine g_block ?_; refine g_seq ?_
          generalize hrec : ({ state := LoopState.busy, .. } : Loop) = rec
          refine g_region ?_; refine kPv (ev_fa (m := _) fa_89_0 rfl rfl) rfl ?_; refine kPv (ev_fa (m := _) fa_87_1 rfl rfl) rfl ?_; refine kPv (ev_load Tryz.isAgg3 rfl rfl) rfl ?_; refine kPm rfl rfl ?_; refine p_nil ?_; refine g_block ?_
          refine g_loopk (ι := Nat) [54, 12, 9, 2, 8] (fun j => ((j : Int) ≤ p.1.2.1) ∧ ((List.range j).all (fun k => (namesM c (s.block c).1 (s.starts c (s.block c).1).1) (s.load (p.1.2.2 + 1 + (k : Int)))) = true)) (fun j => [(55, i64 j)]) (fun j => row b5 [i64 (s.block c).1.act, i64 (s.block c).1.used, .slice qo (s.block c).1.rts.length co] 33 :: row b3 [i64 c.log, i64 c.roots, i64 c.space] 30 :: row b7 [.map (some mb)] 124 :: mapA .i64 objV mb (s.starts c (s.block c).1).1 :: row b12 [i64 p.1.1, i64 p.1.2.1, i64 p.1.2.2] 89 :: blk l (.loop rec) :: row c5 [i64 (s.block c).1.act, i64 (s.block c).1.used, .slice qo (s.block c).1.rts.length co] 33 :: row c4 [i64 c.log, i64 c.roots, i64 c.space] 30 :: row c3 [ptr bd] 28 :: DevA bd s :: row b8 [i64 x] 46 :: row b9 [.func (.func 81) #[] #[ptr b5, ptr b3, ptr b7]] 129 :: row b2 [ptr bd] 28 :: E) (fun j => p.1.2.1.toNat - j) (0) (⟨by first | omega | (simp only; omega), rfl⟩) (fun a w st => st.to ⟨rfl, trivial⟩ (fun hh => (hh.pk [7, 7, 7, 7, 1]))) ?_
          rintro j ⟨hj0, hall⟩
          try simp only at hj0 hall ⊢
          refine go_sub (σ' := [(55, i64 j), (54, _), (12, _), (9, _), (2, _), (8, _)]) ⟨rfl, rfl, rfl, rfl, rfl, rfl, trivial⟩ ?_; refine g_seq ?_; refine g_region ?_; refine kPv (ev_cmp rfl rfl rfl) rfl ?_; refine p_nil ?_; refine g_seq ?_
          refine g_if rfl (fun h56 => ?_) (fun h56 => ?_)
          · have hj : (j : Int) < p.1.2.1 := by simpa using h56
            refine g_skip ?_; refine g_seq ?_; refine g_block ?_; refine g_seq ?_; refine g_region ?_; refine kPm rfl rfl ?_; refine kPa rfl rfl ?_; refine p_nil ?_; refine g_seq ?_; refine g_draw Tryz.mixed (by kernel_rfl) (by kernel_rfl) ?_; refine kQv (ev_load Tryz.isAgg129 rfl rfl) rfl ?_; refine kQv (ev_load Tryz.isAgg28 rfl rfl) rfl ?_; refine kQv (ev_fa (m := _) fa_89_1 rfl rfl) rfl ?_; refine kQv (ev_load Tryz.isAgg3 rfl rfl) rfl ?_
            first | refine q_val rfl (ev_add rfl rfl (wr64 (by omega))) .free rfl ?_ | refine q_val rfl (ev_add rfl rfl rfl) .free rfl ?_
            refine kQm rfl rfl ?_
            first | refine q_val rfl (ev_add rfl rfl (wr64 (by omega))) .free rfl ?_ | refine q_val rfl (ev_add rfl rfl rfl) .free rfl ?_
            refine q_call rfl (en_f Tryz.call72 rfl) (ro_at (q := DevA) (fun Fr => nload_ok _ Fr _ _ _)) .free rfl ?_; refine q_call rfl (en_c Tryz.call81 rfl rfl) (cnames_ok B _ b5 b3 b7 mb c hc (s.block c).1 _ hbk rfl (s.starts c (s.block c).1).1 (s.load (p.1.2.2 + 1 + (j : Int))) (hu.load _)) .free rfl ?_; refine kQv (ev_not rfl) rfl ?_; refine q_nil ?_; refine go_sub (σ' := [(67, _), (55, _), (54, _), (12, _), (9, _), (2, _), (8, _)]) ⟨rfl, rfl, rfl, rfl, rfl, rfl, rfl, trivial⟩ ?_
            refine g_if rfl (fun h67 => ?_) (fun h67 => ?_)
            · have hnall : ¬ (namesM c (s.block c).1 (s.starts c (s.block c).1).1) (s.load (p.1.2.2 + 1 + (j : Int))) = true := by simpa using h67
              subst hrec
              refine g_seq ?_; refine g_region ?_; refine p_chg0 rfl (ch_store Tryz.sizeOf46 rfl rfl rfl rfl) .free rfl ?_
              rintro _ _ rfl
              refine p_nil ?_; refine g_exit ?_
              have hst : stC s (namesM c (s.block c).1 (s.starts c (s.block c).1).1) p x = (false, 9) := by unfold stC; rw [if_neg (show ¬ refsM s (namesM c (s.block c).1 (s.starts c (s.block c).1).1) p.1 = true from fun hh => hnall (List.all_eq_true.1 hh j (List.mem_range.2 (by omega))))]
              refine go_pk [5] ?_
              exact go_rJ fun w hh => ⟨_, ⟨by rw [hst], rfl⟩, by rw [hst]; exact ((hh.dp [5]).pk [0, 4, 4, 4, 4, 4])⟩
            · have hnm : (namesM c (s.block c).1 (s.starts c (s.block c).1).1) (s.load (p.1.2.2 + 1 + (j : Int))) = true := by simpa using h67
              refine g_skip ?_; refine g_region ?_
              first | refine p_val rfl (ev_add rfl rfl (wr64 (by omega))) .free rfl rfl ?_ | refine p_val rfl (ev_add rfl rfl rfl) .free rfl rfl ?_
              refine kPm rfl rfl ?_; refine p_nil ?_
              exact fun a w st_ => ⟨j + 1, ⟨by first | omega | (simp only; omega), range_succ_all hall hnm⟩, by first | omega | (simp only; omega), st_.to ⟨rfl, rfl, rfl, rfl, rfl, rfl, trivial⟩ (fun hh => hh)⟩
          · have hj : ¬ (j : Int) < p.1.2.1 := by simpa using h56
            have hall2 : refsM s (namesM c (s.block c).1 (s.starts c (s.block c).1).1) p.1 = true := by unfold refsM; rw [show p.1.2.1.toNat = j by omega]; exact hall
            subst hrec
            refine g_exit ?_
            have hst : stC s (namesM c (s.block c).1 (s.starts c (s.block c).1).1) p x = (true, x) := by unfold stC; rw [if_pos hall2]
            refine go_pk [5] ?_
            exact go_rK fun w hh => ⟨_, ⟨by rw [hst], rfl⟩, by rw [hst]; exact ((hh.dp [5]).pk [0, 4, 4, 4, 4, 4])⟩
        rintro _ _ ⟨_, rfl⟩
        simp only [List.cons_append, List.nil_append]
        refine ⟨_, _, fun w hh => hh, lst_busy (by simp [lrec]), fun hp => ?_, fun c' hc' => ?_⟩
        rotate_left
        · obtain ⟨h1, rfl⟩ := lst_some rfl hc'
          refine g_exit ?_; refine g_seq ?_; refine g_region ?_; refine kPv (ev_load Tryz.isAgg46 rfl rfl) rfl ?_; refine kPa rfl rfl ?_; refine p_nil ?_; refine g_ret ?_
          exact ret_tmp_m Tryz.results27 rfl (.at 12 (.nil)) (fun w hh => ⟨by rw [hres] <;> rfl, (hh.dp [0, 0, 0, 0, 1, 1, 1, 1, 1, 1, 1, 1, 1])⟩)
        refine g_seq ?_; refine g_region ?_; refine kPv (ev_load Tryz.isAgg46 rfl rfl) rfl ?_; refine kPa rfl rfl ?_; refine p_nil ?_; refine g_ret ?_
        exact ret_tmp_m Tryz.results27 rfl (.at 12 (.nil)) (fun w hh => ⟨by rw [hres] <;> rfl, (hh.dp [0, 0, 0, 0, 1, 1, 1, 1, 1, 1, 1, 1, 1])⟩)

end Go.Proofs.YtbfheafpecgphaaGreat
