/- Keys of a map, collected, sorted. Conditions: none. -/
import Derived.Test.YtbfheafpecgphaaGreatNvm
import Derived.Sort.Grow
set_option linter.unusedSimpArgs false
set_option linter.unusedVariables false
set_option linter.unnecessarySimpa false
set_option linter.unusedSectionVars false
namespace Go.Proofs.YtbfheafpecgphaaGreat
set_option linter.unusedSimpArgs false
set_option linter.unusedVariables false
open Go
abbrev unitE (_ : Unit) : Value := .agg #[]
/-- A variable that holds a slice of numbers. -/
def AccA (b : Nat) (xs : List Int) : HP := hex fun (x : Option (Nat × List Value)) => match x with
  | none => grp [row b [.slice none 0 0] 34, pr (xs = [])]
  | some (bd, rest) => grp [row b [.slice (some ⟨bd, 0, none⟩) xs.length (xs.length + rest.length)] 34, row bd (xs.map i64 ++ rest) 3]
theorem holds_acc {B : World} {b : Nat} {xs : List Int} {Fr : List HP} {w : World} (h : Holds B (AccA b xs :: Fr) w) : (xs = [] ∧ Holds B (row b [.slice none 0 0] 34 :: Fr) w) ∨ ∃ bd rest, Holds B (row b [.slice (some ⟨bd, 0, none⟩) xs.length (xs.length + rest.length)] 34 :: row bd (xs.map i64 ++ rest) 3 :: Fr) w := by
  obtain ⟨x, hx⟩ := h.hex
  cases x with
  | none => have h2 := hx.grp; have h3 := (h2.front 1 rfl).pr; exact .inl ⟨h3.1, h3.2⟩
  | some p => exact .inr ⟨_, _, hx.grp⟩
theorem acc_nil {B : World} {b : Nat} {Fr : List HP} {w : World} (h : Holds B (row b [.slice none 0 0] 34 :: Fr) w) : Holds B (AccA b [] :: Fr) w :=
  Holds.unhex none (Holds.ungrp (l := [row b [.slice none 0 0] 34, pr (([] : List Int) = [])]) ((h.unpr rfl).back 1 (by simp)))
theorem acc_row {B : World} {b bd n c : Nat} {xs : List Int} {rest : List Value} {Fr : List HP} {w : World} (hn : n = xs.length) (hc : c = n + rest.length) (h : Holds B (row b [.slice (some ⟨bd, 0, none⟩) n c] 34 :: row bd (xs.map i64 ++ rest) 3 :: Fr) w) : Holds B (AccA b xs :: Fr) w := by
  subst hn; subst hc
  exact Holds.unhex (some (bd, rest)) (Holds.ungrp (l := [row b [.slice (some ⟨bd, 0, none⟩) xs.length (xs.length + rest.length)] 34, row bd (xs.map i64 ++ rest) 3]) h)
theorem go_acc {B : World} {n : Nat} {D : List Deferred} {σ : Env} {b : Nat} {xs : List Int} {Fr : List HP} {K : Act → World → Prop} (h1 : xs = [] → GO B n D σ (row b [.slice none 0 0] 34 :: Fr) K) (h2 : ∀ bd rest, GO B n D σ (row b [.slice (some ⟨bd, 0, none⟩) xs.length (xs.length + rest.length)] 34 :: row bd (xs.map i64 ++ rest) 3 :: Fr) K) : GO B n D σ (AccA b xs :: Fr) K := fun a w st => by
  rcases holds_acc st.holds with ⟨e, h⟩ | ⟨bd, rest, h⟩
  · exact h1 e a w ⟨st.toStA, h⟩
  · exact h2 bd rest a w ⟨st.toStA, h⟩
theorem all_i64 (l : List Int) : (l.map i64).all cell1 = true := by simp [cell1]

theorem mkeys_ok (B : World) (H : List HP) (r : Nat) :
    ∀ w, Holds B H w → Calls Tryz.prog 108 [.map (some r)].toArray w (Ret B (fun v H' => ∃ bb, v = .func (.func 122) [].toArray [ptr bb].toArray ∧ H' = row bb [.map (some r)] 42 :: H) (fun _ _ => False)) := by
  refine fn_enter Tryz.func108 rfl Tryz.ntmps108 rfl ?_; refine g_seq ?_; refine g_region ?_; refine p_chg rfl (ch_box1 rfl rfl) .free rfl rfl ?_
  rintro _ _ ⟨b1, rfl, rfl⟩
  refine kPa rfl rfl ?_; refine p_nil ?_; refine g_seq ?_; refine g_region ?_; refine kPv (ev_mkf rfl rfl) rfl ?_; refine kPa rfl rfl ?_; refine p_nil ?_; refine g_ret ?_
  exact ret_tmp Tryz.results108 rfl (fun w hw => ⟨_, ⟨_, rfl, rfl⟩, hw⟩)

theorem mkeys1_ok (B : World) (Fr : List HP) (l f mr bb b2 : Nat) (ml : List (Int × Unit)) (r : Loop) (hrf : r.fn = f) (hrp : r.params.size = 1) (hround : ∀ (A1 A2 : HP) (v : Int) (xs : List Int), xs.length < ml.length → ∀ w, Holds B (blk l (.loop r) :: A1 :: A2 :: AccA b2 xs :: Fr) w → RoundIn (Wd (cxF f)) 0 Tryz.prog l f ((r.params.zip [i64 v].toArray).foldl (fun tmps (t, a) => tmps.setIfInBounds t a) r.tmps) r.assign r.body w (Ret B (fun rv H' => rv = .bool true ∧ H' = blk l (.loop r) :: A1 :: A2 :: AccA b2 (xs ++ [v]) :: Fr) (fun _ _ => False))) :
    ∀ w, Holds B (blk l (.loop r) :: row bb [.map (some mr)] 42 :: mapA .i64 unitE mr ml :: AccA b2 [] :: Fr) w → Calls Tryz.prog 122 [.func (.yield l) #[] #[], ptr bb].toArray w (Ret B (fun rv H' => ∃ ks : List Int, ks.Perm (ml.map Prod.fst) ∧ H' = blk l (.loop r) :: row bb [.map (some mr)] 42 :: mapA .i64 unitE mr ml :: AccA b2 ks :: Fr) (fun _ _ => False)) := by
  refine fn_enter Tryz.func122 rfl Tryz.ntmps122 rfl ?_; refine g_seq ?_; refine g_region ?_; refine kPv (ev_load Tryz.isAgg42 rfl rfl) rfl ?_; refine p_chg rfl (ch_range Tryz.runUnderlying42 rfl) .free rfl rfl ?_
  rintro _ _ ⟨it, rfl, rfl⟩
  refine p_nil ?_; refine g_block ?_; refine g_loop (ι := List (Int × Unit)) (fun d => d.length ≤ ml.length) (fun d => [(0, .func (.yield l) #[] #[]), (1, ptr bb), (5, .pointer (some ⟨it, 0, none⟩))]) (fun done => blk l (.loop r) :: row bb [.map (some mr)] 42 :: iterA .i64 unitE mr it ml done :: AccA b2 (done.map Prod.fst) :: Fr) (fun d => ml.length - d.length) [] (Nat.zero_le _) (fun a w st => st.to ⟨rfl, rfl, rfl, trivial⟩ id) ?_
  intro done hdone
  refine g_seq ?_; refine g_region ?_; refine p_chg rfl (ch_next rfl) .free rfl rfl ?_
  rintro _ _ ⟨bb0, vs, done', rfl, hvs, rfl, hno, hyes⟩
  refine kPv (ev_ext rfl hvs) rfl ?_; refine p_nil ?_; refine g_seq ?_
  refine g_if rfl (fun h7 => ?_) (fun h7 => ?_)
  · obtain ⟨pp, hpl, hpn, rfl⟩ := hyes h7
    refine go_iter it fun hl hd hsub => ?_; refine g_skip ?_; refine g_block ?_; refine g_seq ?_; refine g_region ?_; refine kPv (ev_entry (p0 := pp) (dn := done) rfl) rfl ?_; refine kPv (ev_ext rfl rfl) rfl ?_; refine kPa rfl rfl ?_; refine p_nil ?_; refine g_seq ?_; refine g_region ?_; refine kPm rfl rfl ?_; refine kPm rfl rfl ?_
    refine p_yield (f := f) rfl rfl (fun w hw => hw) (by rw [hrp]; rfl) hrf (hround _ _ _ _ (by have := iter_le hd hsub; simp; omega)) .free rfl ?_ ?_
    rotate_left
    · rintro _ _ ⟨⟩
    rintro _ _ ⟨rfl, rfl⟩
    refine kPv (ev_not rfl) rfl ?_; refine p_nil ?_; refine go_sub (σ' := [(13, _), (5, _), (0, _), (1, _)]) ⟨rfl, rfl, rfl, rfl, trivial⟩ ?_; refine g_iff rfl (rfl) ?_; refine g_skip ?_
    have hle := iter_le hd hsub
    exact fun a w st => ⟨done ++ [pp], by simp; omega, by simp; omega, st.to ⟨rfl, rfl, rfl, trivial⟩ (fun hh => by rw [List.map_append]; exact hh)⟩
  · obtain ⟨rfl, hall⟩ := hno h7
    refine go_iter it fun hl hd hsub => ?_; refine go_conv (fun w hh => hh.iter_end it) ?_; refine g_exit ?_
    exact end_none Tryz.results122 (fun w hh => ⟨_, ⟨_, (List.perm_ext_iff_of_nodup hd hl).2 fun x => ⟨fun hx => by obtain ⟨p, hp, rfl⟩ := List.mem_map.1 hx; exact List.mem_map_of_mem (hsub p hp), fun hx => by obtain ⟨p, hp, rfl⟩ := List.mem_map.1 hx; exact List.mem_map_of_mem (hall p hp)⟩, rfl⟩, hh⟩)


theorem acc_put {xs : List Int} {v : Int} {rest : List Value} (h : 0 < rest.length) : setAll (xs.map i64 ++ rest) (0 + xs.length) [i64 v] = (xs ++ [v]).map i64 ++ rest.drop 1 := by
  cases rest with
  | nil => simp at h
  | cons a t => simp [setAll, List.set_append_right]


/-- What a variable's slice value leads to. -/
def AccV (_ : Nat) (x : Value × List Int) : HP := hex fun (o : Option (Nat × List Value)) => match o with
  | none => pr (x.2 = [] ∧ x.1 = .slice none 0 0)
  | some (bd, rest) => grp [row bd (x.2.map i64 ++ rest) 3, pr (x.1 = .slice (some ⟨bd, 0, none⟩) x.2.length (x.2.length + rest.length))]
theorem accv_nil {B : World} {Fr : List HP} {w : World} (h : Holds B Fr w) : Holds B (AccV 0 (.slice none 0 0, []) :: Fr) w := Holds.unhex none (h.unpr ⟨rfl, rfl⟩)
theorem accv_row {B : World} {bd n c : Nat} {xs : List Int} {rest : List Value} {Fr : List HP} {w : World} (hn : n = xs.length) (hc : c = n + rest.length) (h : Holds B (row bd (xs.map i64 ++ rest) 3 :: Fr) w) : Holds B (AccV 0 (.slice (some ⟨bd, 0, none⟩) n c, xs) :: Fr) w := by
  subst hn; subst hc
  refine Holds.unhex (some (bd, rest)) (Holds.ungrp (l := [row bd (xs.map i64 ++ rest) 3, pr _]) ?_)
  exact (h.unpr rfl).back 1 (by simp)
theorem holds_accv {B : World} {sv : Value} {xs : List Int} {Fr : List HP} {w : World} (h : Holds B (AccV 0 (sv, xs) :: Fr) w) : (xs = [] ∧ sv = .slice none 0 0 ∧ Holds B Fr w) ∨ ∃ bd rest, sv = .slice (some ⟨bd, 0, none⟩) xs.length (xs.length + rest.length) ∧ Holds B (row bd (xs.map i64 ++ rest) 3 :: Fr) w := by
  obtain ⟨x, hx⟩ := h.hex
  cases x with
  | none => have h2 := hx.pr; exact .inl ⟨h2.1.1, h2.1.2, h2.2⟩
  | some p => have h2 := (hx.grp.front 1 rfl).pr; exact .inr ⟨_, _, h2.1, h2.2⟩
theorem acc_open {B : World} {b : Nat} {xs : List Int} {Fr : List HP} {w : World} (h : Holds B (AccA b xs :: Fr) w) : ∃ sv, Holds B (row b [sv] 34 :: AccV 0 (sv, xs) :: Fr) w := by
  rcases holds_acc h with ⟨rfl, h2⟩ | ⟨bd, rest, h2⟩
  · exact ⟨_, (accv_nil h2).front 1 rfl⟩
  · exact ⟨_, (accv_row (n := xs.length) rfl rfl (h2.front 1 rfl)).front 1 rfl⟩
theorem go_acco {B : World} {n : Nat} {D : List Deferred} {σ : Env} {b : Nat} {xs : List Int} {Fr : List HP} {K : Act → World → Prop} (h : ∀ sv, GO B n D σ (row b [sv] 34 :: AccV 0 (sv, xs) :: Fr) K) : GO B n D σ (AccA b xs :: Fr) K := fun a w st => by
  obtain ⟨sv, h1⟩ := acc_open st.holds
  exact h sv a w ⟨st.toStA, h1⟩

theorem appseq_ok (B : World) (Fr : List HP) (mr bb : Nat) (ml : List (Int × Unit)) (hml : ml.length ≤ 1000000) :
    ∀ w, Holds B (row bb [.map (some mr)] 42 :: mapA .i64 unitE mr ml :: Fr) w → Calls Tryz.prog 123 [.slice none 0 0, .func (.func 122) [].toArray [ptr bb].toArray].toArray w (Ret B (fun rv H' => ∃ ks : List Int, ks.Perm (ml.map Prod.fst) ∧ H' = AccV 0 (rv, ks) :: mapA .i64 unitE mr ml :: Fr) (fun _ _ => False)) := by
  refine fn_enter_m Tryz.func123 rfl Tryz.ntmps123 rfl ?_; refine g_seq ?_; refine g_region ?_; refine p_chg rfl (ch_box1 rfl rfl) .free rfl rfl ?_
  rintro _ _ ⟨b2, rfl, rfl⟩
  refine kPa rfl rfl ?_; refine p_nil ?_; refine g_seq ?_; refine g_seq ?_; refine g_region ?_; refine kPm rfl rfl ?_; refine p_nil ?_; refine g_block ?_
  refine g_range0 (ι := List Int) (fun ks => row bb [.map (some mr)] 42 :: mapA .i64 unitE mr ml :: AccA b2 ks :: Fr) (fun ks => ks.Perm (ml.map Prod.fst)) (fun _ => False) [] rfl Tryz.call122 ?_ ?_ ?_
  · intro l m tmps hts hkn w hh
    have hk2 := hkn 2 _ rfl
    refine (mkeys1_ok B (blk m (.deferred (some [])) :: Fr) l 123 mr bb b2 ml _ rfl rfl ?_ w (((((acc_nil ((((hh.front 4 rfl).front 4 rfl).front 2 rfl).front 4 rfl)).front 0 rfl).front 3 rfl).front 3 rfl).front 3 rfl)).mono (Ret.mono ?_ ?_)
    rotate_left
    · rintro v H' ⟨ks, hks, rfl⟩
      exact ⟨ks, hks, fun w hh => ((hh.front 4 rfl).front 1 rfl)⟩
    · rintro c H' ⟨⟩
    intro A1 A2 v xs hxs
    have hxs : xs.length ≤ 1000000 := by omega
    refine round_go (n := 13) (σ := [(7, i64 v), (2, ptr b2)]) Tryz.func123 (by simp [lrec, hts]) (KnA.knows (by simp [KnA, lrec, hts]; exact (Array.getElem?_eq_some_iff.1 hk2).2)) rfl ?_; refine g_region ?_; refine kPa rfl rfl ?_; refine p_nil ?_; refine go_mid ?_; refine go_front 3 rfl ?_
    refine go_acc (fun hxe => ?_) (fun bd rest => ?_)
    · subst hxe
      refine g_block ?_; refine g_region ?_; refine kPv (ev_load Tryz.isAgg34 rfl rfl) rfl ?_; refine kPm rfl rfl ?_; refine p_chg rfl (ch_bs1 Tryz.runUnderlying34 Tryz.sizeOf3 Tryz.zeroValue3 rfl rfl rfl) .free rfl rfl ?_
      rintro _ _ ⟨b1, rfl, rfl⟩
      refine p_chg rfl (ch_append_nil rfl rfl Tryz.runUnderlying34 Tryz.runUnderlying34 ⟨_, rfl⟩ Tryz.sizeOf3 Tryz.zeroValue3 rfl tb_3 rfl rfl (SlR.row (xs := [i64 v]) rfl rfl) (by simp) (by simp)) .free rfl rfl ?_
      rintro _ _ ⟨bn, cn, rest', hcn, hrest, rfl, rfl⟩
      refine p_chg0 rfl (ch_store Tryz.sizeOf34 rfl rfl rfl rfl) .free rfl ?_
      rintro _ _ rfl
      refine p_nil ?_; refine go_sub (σ' := []) trivial ?_; refine go_front 3 rfl ?_
      exact go_rK fun w hh => ⟨_, ⟨rfl, rfl⟩, ((((((acc_row (xs := [] ++ [v]) (by simp) (by first | omega | (simp at *; omega)) ((hh.front 1 rfl).front 3 rfl)).front 2 rfl).tail.front 0 rfl).front 3 rfl).front 3 rfl).front 3 rfl)⟩
    · skip
      refine g_block ?_; refine g_region ?_; refine kPv (ev_load Tryz.isAgg34 rfl rfl) rfl ?_; refine kPm rfl rfl ?_; refine p_chg rfl (ch_bs1 Tryz.runUnderlying34 Tryz.sizeOf3 Tryz.zeroValue3 rfl rfl rfl) .free rfl rfl ?_
      rintro _ _ ⟨b1, rfl, rfl⟩
      refine p_chg rfl (ch_append rfl rfl Tryz.runUnderlying34 Tryz.runUnderlying34 ⟨_, rfl⟩ Tryz.sizeOf3 Tryz.zeroValue3 rfl tb_3 rfl rfl (SlR.row (xs := [i64 v]) rfl rfl) (by simp) (by omega) (by simp; omega) rfl) .free rfl rfl ?_
      refine fun v2 H2 hY => ?_
      revert hY
      generalize hob : Obj.loop _ = ob
      intro hY
      have hY2 : ∃ bn c' rest', c' = xs.length + 1 + rest'.length ∧ v2 = .slice (some ⟨bn, 0, none⟩) (xs.length + 1) c' ∧ ∀ w, Holds B H2 w → Holds B (row b2 [.slice (some ⟨bd, 0, none⟩) xs.length (xs.length + rest.length)] 34 :: row bn ((xs ++ [v]).map i64 ++ rest') 3 :: blk l ob :: A1 :: A2 :: blk m (.deferred (some [])) :: Fr) w := by
        rcases hY with ⟨h1, rfl, rfl⟩ | ⟨h1, bn, cn, rest', h2, _, rfl, rfl⟩
        · refine ⟨bd, _, rest.drop 1, by simp at h1 ⊢; omega, rfl, fun w hh => ?_⟩
          have h3 := hh.tail
          rw [acc_put (by simp at h1; omega)] at h3
          exact h3
        · refine ⟨bn, _, rest', by simpa using h2.symm, rfl, fun w hh => ?_⟩
          have h3 := ((((hh.front 1 rfl).tail).front 2 rfl).tail).front 1 rfl
          have e : (xs ++ [v]).map i64 ++ rest' = ((xs.map i64 ++ rest).drop 0).take xs.length ++ [i64 v] ++ rest' := by simp
          rw [e]
          exact h3
      obtain ⟨bn, c', rest', hc', rfl, hY3⟩ := hY2
      refine go_conv hY3 ?_; refine p_chg0 rfl (ch_store Tryz.sizeOf34 rfl rfl rfl rfl) .free rfl ?_
      rintro _ _ rfl
      refine p_nil ?_; refine go_sub (σ' := []) trivial ?_
      subst hob
      refine go_front 2 rfl ?_
      exact go_rK fun w hh => ⟨_, ⟨rfl, rfl⟩, (((((acc_row (xs := xs ++ [v]) (by simp) (by first | omega | (simp at *; omega)) ((hh.front 2 rfl).front 2 rfl)).front 0 rfl).front 3 rfl).front 3 rfl).front 3 rfl)⟩
  rotate_left
  · rintro m x ⟨⟩
  intro m ks hks
  refine go_front 3 rfl ?_; refine go_acco fun sv => ?_; refine g_seq ?_; refine g_region ?_; refine kPv (ev_load Tryz.isAgg34 rfl rfl) rfl ?_; refine kPa rfl rfl ?_; refine p_nil ?_; refine g_ret ?_
  exact ret_tmp_m Tryz.results123 rfl (.cons (i := 2) rfl .nil) (fun w hh => ⟨_, ⟨ks, hks, rfl⟩, (((hh.front 3 rfl).front 3 rfl).front 2 rfl).tail.tail.tail⟩)

end Go.Proofs.YtbfheafpecgphaaGreat
