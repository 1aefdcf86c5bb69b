/- Keys of a map of numbers. Conditions: none. -/
import Derived.Test.YtbfheafpecgphaaGreatSort
set_option linter.unusedSimpArgs false
set_option linter.unusedVariables false
set_option linter.unnecessarySimpa false
set_option linter.unusedSectionVars false
namespace Go.Proofs.YtbfheafpecgphaaGreat
set_option linter.unusedSimpArgs false
set_option linter.unusedVariables false
open Go

theorem mkeysi_ok (B : World) (H : List HP) (r : Nat) :
    ∀ w, Holds B H w → Calls Tryz.prog 96 [.map (some r)].toArray w (Ret B (fun v H' => ∃ bb, v = .func (.func 115) [].toArray [ptr bb].toArray ∧ H' = row bb [.map (some r)] 69 :: H) (fun _ _ => False)) := by
  refine fn_enter Tryz.func96 rfl Tryz.ntmps96 rfl ?_; refine g_seq ?_; refine g_region ?_; refine p_chg rfl (ch_box1 rfl rfl) .free rfl rfl ?_
  rintro _ _ ⟨b1, rfl, rfl⟩
  refine kPa rfl rfl ?_; refine p_nil ?_; refine g_seq ?_; refine g_region ?_; refine kPv (ev_mkf rfl rfl) rfl ?_; refine kPa rfl rfl ?_; refine p_nil ?_; refine g_ret ?_
  exact ret_tmp Tryz.results96 rfl (fun w hw => ⟨_, ⟨_, rfl, rfl⟩, hw⟩)

theorem mkeysi1_ok (B : World) (Fr : List HP) (l f mr bb b2 : Nat) (ml : List (Int × Int)) (r : Loop) (hrf : r.fn = f) (hrp : r.params.size = 1) (hround : ∀ (A1 A2 : HP) (v : Int) (xs : List Int), xs.length < ml.length → ∀ w, Holds B (blk l (.loop r) :: A1 :: A2 :: AccA b2 xs :: Fr) w → RoundIn (Wd (cxF f)) 0 Tryz.prog l f ((r.params.zip [i64 v].toArray).foldl (fun tmps (t, a) => tmps.setIfInBounds t a) r.tmps) r.assign r.body w (Ret B (fun rv H' => rv = .bool true ∧ H' = blk l (.loop r) :: A1 :: A2 :: AccA b2 (xs ++ [v]) :: Fr) (fun _ _ => False))) :
    ∀ w, Holds B (blk l (.loop r) :: row bb [.map (some mr)] 69 :: mapA .i64 i64 mr ml :: AccA b2 [] :: Fr) w → Calls Tryz.prog 115 [.func (.yield l) #[] #[], ptr bb].toArray w (Ret B (fun rv H' => ∃ ks : List Int, ks.Perm (ml.map Prod.fst) ∧ H' = blk l (.loop r) :: row bb [.map (some mr)] 69 :: mapA .i64 i64 mr ml :: AccA b2 ks :: Fr) (fun _ _ => False)) := by
  refine fn_enter Tryz.func115 rfl Tryz.ntmps115 rfl ?_; refine g_seq ?_; refine g_region ?_; refine kPv (ev_load Tryz.isAgg69 rfl rfl) rfl ?_; refine p_chg rfl (ch_range Tryz.runUnderlying69 rfl) .free rfl rfl ?_
  rintro _ _ ⟨it, rfl, rfl⟩
  refine p_nil ?_; refine g_block ?_; refine g_loop (ι := List (Int × Int)) (fun d => d.length ≤ ml.length) (fun d => [(0, .func (.yield l) #[] #[]), (1, ptr bb), (5, .pointer (some ⟨it, 0, none⟩))]) (fun done => blk l (.loop r) :: row bb [.map (some mr)] 69 :: iterA .i64 i64 mr it ml done :: AccA b2 (done.map Prod.fst) :: Fr) (fun d => ml.length - d.length) [] (Nat.zero_le _) (fun a w st => st.to ⟨rfl, rfl, rfl, trivial⟩ id) ?_
  intro done hdone
  refine g_seq ?_; refine g_region ?_; refine p_chg rfl (ch_next rfl) .free rfl rfl ?_
  rintro _ _ ⟨bb0, vs, done', rfl, hvs, rfl, hno, hyes⟩
  refine kPv (ev_ext rfl hvs) rfl ?_; refine p_nil ?_; refine g_seq ?_
  refine g_if rfl (fun h7 => ?_) (fun h7 => ?_)
  · obtain ⟨pp, hpl, hpn, rfl⟩ := hyes h7
    refine go_iter it fun hl hd hsub => ?_; refine g_skip ?_; refine g_block ?_; refine g_seq ?_; refine g_region ?_; refine kPv (ev_entry (p0 := pp) (dn := done) rfl) rfl ?_; refine kPv (ev_ext rfl rfl) rfl ?_; refine kPa rfl rfl ?_; refine p_nil ?_; refine g_seq ?_; refine g_region ?_; refine kPm rfl rfl ?_; refine kPm rfl rfl ?_
    refine p_yield (f := f) rfl rfl (fun w hw => hw) (by rw [hrp]; rfl) hrf (hround _ _ _ _ (by have := iter_le hd hsub; simp; omega)) .free rfl ?_ ?_
    rotate_left
    · rintro _ _ ⟨⟩
    rintro _ _ ⟨rfl, rfl⟩
    refine kPv (ev_not rfl) rfl ?_; refine p_nil ?_; refine go_sub (σ' := [(13, _), (5, _), (0, _), (1, _)]) ⟨rfl, rfl, rfl, rfl, trivial⟩ ?_; refine g_iff rfl (rfl) ?_; refine g_skip ?_
    have hle := iter_le hd hsub
    exact fun a w st => ⟨done ++ [pp], by simp; omega, by simp; omega, st.to ⟨rfl, rfl, rfl, trivial⟩ (fun hh => by rw [List.map_append]; exact hh)⟩
  · obtain ⟨rfl, hall⟩ := hno h7
    refine go_iter it fun hl hd hsub => ?_; refine go_conv (fun w hh => hh.iter_end it) ?_; refine g_exit ?_
    exact end_none Tryz.results115 (fun w hh => ⟨_, ⟨_, (List.perm_ext_iff_of_nodup hd hl).2 fun x => ⟨fun hx => by obtain ⟨p, hp, rfl⟩ := List.mem_map.1 hx; exact List.mem_map_of_mem (hsub p hp), fun hx => by obtain ⟨p, hp, rfl⟩ := List.mem_map.1 hx; exact List.mem_map_of_mem (hall p hp)⟩, rfl⟩, hh⟩)

theorem appseqi_ok (B : World) (Fr : List HP) (mr bb : Nat) (ml : List (Int × Int)) (hml : ml.length ≤ 1000000) :
    ∀ w, Holds B (row bb [.map (some mr)] 69 :: mapA .i64 i64 mr ml :: Fr) w → Calls Tryz.prog 123 [.slice none 0 0, .func (.func 115) [].toArray [ptr bb].toArray].toArray w (Ret B (fun rv H' => ∃ ks : List Int, ks.Perm (ml.map Prod.fst) ∧ H' = AccV 0 (rv, ks) :: mapA .i64 i64 mr ml :: Fr) (fun _ _ => False)) := by
  refine fn_enter_m Tryz.func123 rfl Tryz.ntmps123 rfl ?_; refine g_seq ?_; refine g_region ?_; refine p_chg rfl (ch_box1 rfl rfl) .free rfl rfl ?_
  rintro _ _ ⟨b2, rfl, rfl⟩
  refine kPa rfl rfl ?_; refine p_nil ?_; refine g_seq ?_; refine g_seq ?_; refine g_region ?_; refine kPm rfl rfl ?_; refine p_nil ?_; refine g_block ?_
  refine g_range0 (ι := List Int) (fun ks => row bb [.map (some mr)] 69 :: mapA .i64 i64 mr ml :: AccA b2 ks :: Fr) (fun ks => ks.Perm (ml.map Prod.fst)) (fun _ => False) [] rfl Tryz.call115 ?_ ?_ ?_
  · intro l m tmps hts hkn w hh
    have hk2 := hkn 2 _ rfl
    refine (mkeysi1_ok B (blk m (.deferred (some [])) :: Fr) l 123 mr bb b2 ml _ rfl rfl ?_ w (((((acc_nil ((((hh.front 4 rfl).front 4 rfl).front 2 rfl).front 4 rfl)).front 0 rfl).front 3 rfl).front 3 rfl).front 3 rfl)).mono (Ret.mono ?_ ?_)
    rotate_left
    · rintro v H' ⟨ks, hks, rfl⟩
      exact ⟨ks, hks, fun w hh => ((hh.front 4 rfl).front 1 rfl)⟩
    · rintro c H' ⟨⟩
    intro A1 A2 v xs hxs
    have hxs : xs.length ≤ 1000000 := by omega
    refine round_go (n := 13) (σ := [(7, i64 v), (2, ptr b2)]) Tryz.func123 (by simp [lrec, hts]) (KnA.knows (by simp [KnA, lrec, hts]; exact (Array.getElem?_eq_some_iff.1 hk2).2)) rfl ?_; refine g_region ?_; refine kPa rfl rfl ?_; refine p_nil ?_; refine go_mid ?_; refine go_front 3 rfl ?_
    refine go_acc (fun hxe => ?_) (fun bd rest => ?_)
    · subst hxe
      refine g_block ?_; refine g_region ?_; refine kPv (ev_load Tryz.isAgg34 rfl rfl) rfl ?_; refine kPm rfl rfl ?_; refine p_chg rfl (ch_bs1 Tryz.runUnderlying34 Tryz.sizeOf3 Tryz.zeroValue3 rfl rfl rfl) .free rfl rfl ?_
      rintro _ _ ⟨b1, rfl, rfl⟩
      refine p_chg rfl (ch_append_nil rfl rfl Tryz.runUnderlying34 Tryz.runUnderlying34 ⟨_, rfl⟩ Tryz.sizeOf3 Tryz.zeroValue3 rfl tb_3 rfl rfl (SlR.row (xs := [i64 v]) rfl rfl) (by simp) (by simp)) .free rfl rfl ?_
      rintro _ _ ⟨bn, cn, rest', hcn, hrest, rfl, rfl⟩
      refine p_chg0 rfl (ch_store Tryz.sizeOf34 rfl rfl rfl rfl) .free rfl ?_
      rintro _ _ rfl
      refine p_nil ?_; refine go_sub (σ' := []) trivial ?_; refine go_front 3 rfl ?_
      exact go_rK fun w hh => ⟨_, ⟨rfl, rfl⟩, ((((((acc_row (xs := [] ++ [v]) (by simp) (by first | omega | (simp at *; omega)) ((hh.front 1 rfl).front 3 rfl)).front 2 rfl).tail.front 0 rfl).front 3 rfl).front 3 rfl).front 3 rfl)⟩
    · skip
      refine g_block ?_; refine g_region ?_; refine kPv (ev_load Tryz.isAgg34 rfl rfl) rfl ?_; refine kPm rfl rfl ?_; refine p_chg rfl (ch_bs1 Tryz.runUnderlying34 Tryz.sizeOf3 Tryz.zeroValue3 rfl rfl rfl) .free rfl rfl ?_
      rintro _ _ ⟨b1, rfl, rfl⟩
      refine p_chg rfl (ch_append rfl rfl Tryz.runUnderlying34 Tryz.runUnderlying34 ⟨_, rfl⟩ Tryz.sizeOf3 Tryz.zeroValue3 rfl tb_3 rfl rfl (SlR.row (xs := [i64 v]) rfl rfl) (by simp) (by omega) (by simp; omega) rfl) .free rfl rfl ?_
      refine fun v2 H2 hY => ?_
      revert hY
      generalize hob : Obj.loop _ = ob
      intro hY
      have hY2 : ∃ bn c' rest', c' = xs.length + 1 + rest'.length ∧ v2 = .slice (some ⟨bn, 0, none⟩) (xs.length + 1) c' ∧ ∀ w, Holds B H2 w → Holds B (row b2 [.slice (some ⟨bd, 0, none⟩) xs.length (xs.length + rest.length)] 34 :: row bn ((xs ++ [v]).map i64 ++ rest') 3 :: blk l ob :: A1 :: A2 :: blk m (.deferred (some [])) :: Fr) w := by
        rcases hY with ⟨h1, rfl, rfl⟩ | ⟨h1, bn, cn, rest', h2, _, rfl, rfl⟩
        · refine ⟨bd, _, rest.drop 1, by simp at h1 ⊢; omega, rfl, fun w hh => ?_⟩
          have h3 := hh.tail
          rw [acc_put (by simp at h1; omega)] at h3
          exact h3
        · refine ⟨bn, _, rest', by simpa using h2.symm, rfl, fun w hh => ?_⟩
          have h3 := ((((hh.front 1 rfl).tail).front 2 rfl).tail).front 1 rfl
          have e : (xs ++ [v]).map i64 ++ rest' = ((xs.map i64 ++ rest).drop 0).take xs.length ++ [i64 v] ++ rest' := by simp
          rw [e]
          exact h3
      obtain ⟨bn, c', rest', hc', rfl, hY3⟩ := hY2
      refine go_conv hY3 ?_; refine p_chg0 rfl (ch_store Tryz.sizeOf34 rfl rfl rfl rfl) .free rfl ?_
      rintro _ _ rfl
      refine p_nil ?_; refine go_sub (σ' := []) trivial ?_
      subst hob
      refine go_front 2 rfl ?_
      exact go_rK fun w hh => ⟨_, ⟨rfl, rfl⟩, (((((acc_row (xs := xs ++ [v]) (by simp) (by first | omega | (simp at *; omega)) ((hh.front 2 rfl).front 2 rfl)).front 0 rfl).front 3 rfl).front 3 rfl).front 3 rfl)⟩
  rotate_left
  · rintro m x ⟨⟩
  intro m ks hks
  refine go_front 3 rfl ?_; refine go_acco fun sv => ?_; refine g_seq ?_; refine g_region ?_; refine kPv (ev_load Tryz.isAgg34 rfl rfl) rfl ?_; refine kPa rfl rfl ?_; refine p_nil ?_; refine g_ret ?_
  exact ret_tmp_m Tryz.results123 rfl (.cons (i := 2) rfl .nil) (fun w hh => ⟨_, ⟨ks, hks, rfl⟩, (((hh.front 3 rfl).front 3 rfl).front 2 rfl).tail.tail.tail⟩)

theorem collecti_ok (B : World) (Fr : List HP) (mr bb : Nat) (ml : List (Int × Int)) (hml : ml.length ≤ 1000000) :
    ∀ w, Holds B (row bb [.map (some mr)] 69 :: mapA .i64 i64 mr ml :: Fr) w → Calls Tryz.prog 113 [.func (.func 115) [].toArray [ptr bb].toArray].toArray w (Ret B (fun rv H' => ∃ ks : List Int, ks.Perm (ml.map Prod.fst) ∧ H' = AccV 0 (rv, ks) :: mapA .i64 i64 mr ml :: Fr) (fun _ _ => False)) := by
  refine fn_enter Tryz.func113 rfl Tryz.ntmps113 rfl ?_; refine g_seq ?_; refine g_region ?_; refine kPa rfl rfl ?_; refine p_nil ?_; refine g_seq ?_; refine g_region ?_; refine kPm rfl rfl ?_
  refine p_call rfl (en_f Tryz.call123 rfl) (appseqi_ok _ _ mr bb ml hml) .free rfl rfl ?_ ?_
  rotate_left
  · rintro _ _ ⟨⟩
  rintro _ _ ⟨ks, hks, rfl⟩
  refine kPa rfl rfl ?_; refine p_nil ?_; refine g_ret ?_
  exact ret_tmp Tryz.results113 rfl (fun w hw => ⟨_, ⟨ks, hks, rfl⟩, hw⟩)

theorem sortedi_ok (B : World) (Fr : List HP) (mr bb : Nat) (ml : List (Int × Int)) (hml : ml.length ≤ 1000000) :
    ∀ w, Holds B (row bb [.map (some mr)] 69 :: mapA .i64 i64 mr ml :: Fr) w → Calls Tryz.prog 95 [.func (.func 115) [].toArray [ptr bb].toArray].toArray w (Ret B (fun rv H' => H' = AccV 0 (rv, sortI (ml.map Prod.fst)) :: mapA .i64 i64 mr ml :: Fr) (fun _ _ => False)) := by
  refine fn_enter Tryz.func95 rfl Tryz.ntmps95 rfl ?_; refine g_seq ?_; refine g_region ?_; refine kPa rfl rfl ?_; refine p_nil ?_; refine g_seq ?_; refine g_region ?_; refine kPm rfl rfl ?_
  refine p_call rfl (en_f Tryz.call113 rfl) (collecti_ok _ _ mr bb ml hml) .free rfl rfl ?_ ?_
  rotate_left
  · rintro _ _ ⟨⟩
  rintro v5 _ ⟨ks, hks, rfl⟩
  have hkl : ks.length ≤ 1000000 := by rw [hks.length_eq, List.length_map]; exact hml
  refine kPa rfl rfl ?_; refine p_nil ?_; refine g_seq ?_; refine g_region ?_; refine kPm rfl rfl ?_
  refine p_call rfl (en_f Tryz.call114 rfl) (ssort_ok _ _ _ ks hkl) .free rfl rfl ?_ ?_
  rotate_left
  · rintro _ _ ⟨⟩
  rintro _ _ rfl
  refine p_nil ?_; refine g_seq ?_; refine g_region ?_; refine kPm rfl rfl ?_; refine kPa rfl rfl ?_; refine p_nil ?_; refine go_sub (σ' := [(2, _)]) ⟨rfl, trivial⟩ ?_; refine g_ret ?_
  exact ret_tmp Tryz.results95 rfl (fun w hw => ⟨_, rfl, by rw [← sortI_perm hks]; exact hw⟩)

end Go.Proofs.YtbfheafpecgphaaGreat
