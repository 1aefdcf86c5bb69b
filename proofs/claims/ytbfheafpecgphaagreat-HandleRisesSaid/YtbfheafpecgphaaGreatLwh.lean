/- Handle tables: what is so of them; the fixed fact of layer 16. Conditions: none. -/
import Derived.Test.YtbfheafpecgphaaGreatAw4
import Derived.Test.YtbfheafpecgphaaGreatSlx
import Derived.Test.YtbfheafpecgphaaGreatAr2
set_option linter.unusedSimpArgs false
set_option linter.unusedVariables false
set_option linter.unnecessarySimpa false
set_option linter.unusedSectionVars false
namespace Go.Proofs.YtbfheafpecgphaaGreat
set_option linter.unusedSimpArgs false
set_option linter.unusedVariables false
open Go
theorem accv_vec {B : World} {sv : Value} {xs : List Int} {Fr : List HP} {w : World} (h : Holds B (AccV 0 (sv, xs) :: Fr) w) : Holds B (VecA 3 i64 0 (sv, xs) :: Fr) w := by
  rcases holds_accv h with ⟨rfl, rfl, h2⟩ | ⟨bd, rest, rfl, h2⟩
  · exact vec_nil h2
  · exact vec_row rfl rfl h2
theorem mdel_mem {α : Type} {k : Int} {p : Int × α} : ∀ {l : List (Int × α)}, p ∈ mdel l k → p ∈ l
  | [], h => h
  | q :: l, h => by
    unfold mdel at h
    split at h
    · exact List.mem_cons_of_mem _ h
    · rcases List.mem_cons.1 h with rfl | h
      · exact List.mem_cons_self ..
      · exact List.mem_cons_of_mem _ (mdel_mem h)
theorem mdel_nodup {α : Type} {k : Int} : ∀ {l : List (Int × α)}, (l.map Prod.fst).Nodup → ((mdel l k).map Prod.fst).Nodup
  | [], h => h
  | q :: l, h => by
    rw [List.map_cons, List.nodup_cons] at h
    unfold mdel
    split
    · exact h.2
    · rw [List.map_cons, List.nodup_cons]
      refine ⟨fun hm => h.1 ?_, mdel_nodup h.2⟩
      obtain ⟨p, hp, e⟩ := List.mem_map.1 hm
      exact List.mem_map.2 ⟨p, mdel_mem hp, e⟩
theorem mget_notin {α : Type} {k : Int} : ∀ {l : List (Int × α)}, k ∉ l.map Prod.fst → mget l k = none
  | [], _ => rfl
  | q :: l, h => by
    rw [List.map_cons, List.mem_cons] at h
    unfold mget
    rw [if_neg (fun e => h (.inl e.symm)), mget_notin fun hm => h (.inr hm)]
theorem mget_mdel {α : Type} {k j : Int} : ∀ {l : List (Int × α)}, (l.map Prod.fst).Nodup → mget (mdel l k) j = if j = k then none else mget l j
  | [], _ => by unfold mdel mget; split <;> rfl
  | q :: l, h => by
    rw [List.map_cons, List.nodup_cons] at h
    unfold mdel
    split
    · rename_i hq
      by_cases hj : j = k
      · rw [if_pos hj]; subst hj; subst hq; exact mget_notin h.1
      · rw [if_neg hj]; conv => rhs; unfold mget
        rw [if_neg (fun e => hj (by rw [← e, hq]))]
    · rename_i hq
      conv => lhs; unfold mget
      by_cases hj : q.1 = j
      · rw [if_pos hj, if_neg (fun e => hq (by rw [hj, e]))]; unfold mget; rw [if_pos hj]
      · rw [if_neg hj, mget_mdel h.2]; conv => rhs; unfold mget
        rw [if_neg hj]
theorem mset_nodup {α : Type} {k : Int} {a : α} {l : List (Int × α)} (h : (l.map Prod.fst).Nodup) : ((mset l k a).map Prod.fst).Nodup := by
  by_cases hk : k ∈ l.map Prod.fst
  · rw [mset_keys hk]; exact h
  · rw [mset_none (mget_notin hk), List.map_append, List.nodup_append]
    exact ⟨h, by simp, fun x hx y hy => by simp at hy; subst hy; intro e; subst e; exact hk hx⟩
/-- A table that may be. -/
structure TabW (T : TabS) : Prop where
  last : 0 ≤ T.last
  n1 : (T.at_.map Prod.fst).Nodup
  n2 : (T.no.map Prod.fst).Nodup
  fwd : ∀ n p, mget T.at_ n = some p → mget T.no p = some n ∧ 1 ≤ n ∧ n ≤ T.last ∧ p ≠ 0
  bwd : ∀ p n, mget T.no p = some n → mget T.at_ n = some p
theorem tab_w0 : TabW ⟨[], [], 0⟩ := ⟨Int.le_refl 0, List.nodup_nil, List.nodup_nil, (fun _ _ h => by cases h), (fun _ _ h => by cases h)⟩
theorem TabW.len {T : TabS} (h : TabW T) : (T.at_.length : Int) ≤ T.last := by
  have h0 := h.last
  have := nodup_len T.last.toNat 1 _ h.n1 fun k hk => by
    cases hm : mget T.at_ k with
    | none => exact absurd hk (mget_none hm)
    | some p => have := h.fwd k p hm; omega
  simp only [List.length_map] at this; omega
theorem TabW.take {T : TabS} (h : TabW T) {p : Int} (hp : p ≠ 0) : TabW (T.take p).2 ∧ mget (T.take p).2.at_ (T.take p).1 = some p ∧ (1 ≤ (T.take p).1 ∧ (T.take p).1 ≤ (T.take p).2.last) ∧ (T.last ≤ (T.take p).2.last ∧ (T.take p).2.last ≤ T.last + 1) ∧ (∀ n, n ≠ (T.take p).1 → mget (T.take p).2.at_ n = mget T.at_ n) ∧
    ((mget T.no p = some (T.take p).1 ∧ (T.take p).2 = T) ∨ (mget T.no p = none ∧ (T.take p).1 = T.last + 1 ∧ (T.take p).2 = ⟨T.at_ ++ [(T.last + 1, p)], T.no ++ [(p, T.last + 1)], T.last + 1⟩)) := by
  have h0 := h.last
  unfold TabS.take
  rw [if_neg hp]
  cases hm : mget T.no p with
  | some n =>
    simp only [Option.isSome_some, if_true, Option.getD_some]
    have h1 := h.bwd p n hm
    have h2 := h.fwd n p h1
    exact ⟨h, h1, ⟨h2.2.1, h2.2.2.1⟩, ⟨by omega, by omega⟩, fun _ _ => by first | rfl | trivial, .inl (by simp)⟩
  | none =>
    simp only [Option.isSome_none, Bool.false_eq_true, if_false]
    have hn : mget T.at_ (T.last + 1) = none := by
      cases hx : mget T.at_ (T.last + 1) with
      | none => rfl
      | some q => have := h.fwd _ _ hx; omega
    refine ⟨⟨by first | omega | (simp only; omega), mset_nodup h.n1, mset_nodup h.n2, fun n q hq => ?_, fun q n hq => ?_⟩, by simp only [mget_mset, if_true], ⟨by first | omega | (simp only; omega), by first | omega | (simp only; omega)⟩, ⟨by first | omega | (simp only; omega), by first | omega | (simp only; omega)⟩, fun n hne => by simp only [mget_mset]; rw [if_neg hne], .inr ⟨trivial, trivial, by rw [mset_none hn, mset_none hm]⟩⟩
    · simp only [mget_mset] at hq ⊢
      split at hq
      · rename_i e; cases hq; subst e; exact ⟨if_pos rfl, by omega, by omega, hp⟩
      · rename_i e
        have h1 := h.fwd n q hq
        exact ⟨by rw [if_neg (fun e => by subst e; rw [hm] at h1; cases h1.1)]; exact h1.1, h1.2.1, by omega, h1.2.2.2⟩
    · simp only [mget_mset] at hq ⊢
      split at hq
      · rename_i e; cases hq; subst e; exact if_pos rfl
      · rename_i e
        have h1 := h.bwd q n hq
        have h2 := h.fwd n q h1
        rw [if_neg (by omega)]; exact h1
def TabS.drop (T : TabS) (n : Int) : TabS := ⟨mdel T.at_ n, if (mget T.at_ n).isSome = true then mdel T.no ((mget T.at_ n).getD 0) else T.no, T.last⟩
theorem TabW.drop {T : TabS} (h : TabW T) (n : Int) : TabW (T.drop n) ∧ (∀ j, mget (T.drop n).at_ j = if j = n then none else mget T.at_ j) := by
  unfold TabS.drop
  have hd : ∀ j, mget (mdel T.at_ n) j = if j = n then none else mget T.at_ j := fun j => mget_mdel h.n1
  refine ⟨?_, hd⟩
  cases hm : mget T.at_ n with
  | none =>
    simp only [Option.isSome_none, Bool.false_eq_true, if_false]
    refine ⟨h.last, mdel_nodup h.n1, h.n2, fun j p hj => ?_, fun p j hj => ?_⟩
    · simp only [hd] at hj; split at hj
      · cases hj
      · exact h.fwd j p hj
    · have h1 := h.bwd p j hj
      simp only [hd]
      rw [if_neg (fun e => by subst e; rw [hm] at h1; cases h1)]; exact h1
  | some q =>
    simp only [Option.isSome_some, if_true, Option.getD_some]
    have hq := h.fwd n q hm
    have hd2 : ∀ j, mget (mdel T.no q) j = if j = q then none else mget T.no j := fun j => mget_mdel h.n2
    refine ⟨h.last, mdel_nodup h.n1, mdel_nodup h.n2, fun j p hj => ?_, fun p j hj => ?_⟩
    · simp only [hd] at hj; split at hj
      · cases hj
      · rename_i hjn
        have h1 := h.fwd j p hj
        refine ⟨?_, h1.2⟩
        simp only [hd2]
        rw [if_neg (fun e => by subst e; rw [h1.1] at hq; exact hjn (by injection hq.1))]; exact h1.1
    · simp only [hd2] at hj; split at hj
      · cases hj
      · rename_i hpq
        have h1 := h.bwd p j hj
        simp only [hd]
        rw [if_neg (fun e => by subst e; rw [hm] at h1; exact hpq (by injection h1 with h1; exact h1.symm))]; exact h1

theorem awake16_ok (B : World) (Fr : List HP) :
    ∀ w, Holds B Fr w → Calls Tryz.prog 29 [].toArray w (PureR B Fr (.bool true)) := by
  refine fn_enter Tryz.func29 rfl Tryz.ntmps29 rfl ?_; refine g_seq ?_; refine g_region ?_; refine kPa rfl rfl ?_; refine p_nil ?_; refine g_seq ?_; refine g_seq ?_; refine g_region ?_; refine p_callq rfl (en_f Tryz.call11 rfl) (awake15_ok _ _) .free rfl rfl ?_; refine kPv (ev_not rfl) rfl ?_; refine p_nil ?_; refine g_iff rfl (rfl) ?_; refine g_skip ?_; refine g_seq ?_; refine g_region ?_
  refine p_call rfl (en_f Tryz.call30 rfl) (hnew_ok _ _) .free rfl rfl ?_ ?_
  rotate_left
  · rintro _ _ ⟨⟩
  rintro _ _ ⟨tb, rfl, rfl⟩
  refine kPa rfl rfl ?_; refine p_nil ?_; refine g_seq ?_; refine g_region ?_; refine kPm rfl rfl ?_; refine kPv (ev_eqp Tryz.runUnderlying67 rfl rfl rfl) rfl ?_; refine kPm rfl rfl ?_; refine p_val rfl (ev_move rfl) (.on rfl rfl (beq_eq rfl)) rfl rfl ?_
  refine p_call rfl (en_f Tryz.call31 rfl) (htake_ok _ _ _ _ _ ⟨by decide, by decide⟩) (.on rfl rfl (beq_eq rfl)) rfl rfl ?_ ?_
  rotate_left
  · rintro _ _ ⟨⟩
  rintro _ _ ⟨rfl, rfl⟩
  refine p_val rfl (ev_cmp rfl rfl rfl) (.on rfl rfl (beq_eq rfl)) rfl rfl ?_; refine kPv (ev_pick_t rfl rfl rfl) rfl ?_; refine kPm rfl rfl ?_; refine p_val rfl (ev_move rfl) (.on rfl rfl (beq_eq rfl)) rfl rfl ?_
  refine p_call rfl (en_f Tryz.call31 rfl) (htake_ok _ _ _ _ _ ⟨by decide, by decide⟩) (.on rfl rfl (beq_eq rfl)) rfl rfl ?_ ?_
  rotate_left
  · rintro _ _ ⟨⟩
  rintro _ _ ⟨rfl, rfl⟩
  refine p_val rfl (ev_cmp rfl rfl rfl) (.on rfl rfl (beq_eq rfl)) rfl rfl ?_; refine kPv (ev_pick_t rfl rfl rfl) rfl ?_; refine kPm rfl rfl ?_; refine p_val rfl (ev_move rfl) (.on rfl rfl (beq_eq rfl)) rfl rfl ?_
  refine p_call rfl (en_f Tryz.call31 rfl) (htake_ok _ _ _ _ _ ⟨by decide, by decide⟩) (.on rfl rfl (beq_eq rfl)) rfl rfl ?_ ?_
  rotate_left
  · rintro _ _ ⟨⟩
  rintro _ _ ⟨rfl, rfl⟩
  refine p_val rfl (ev_cmp rfl rfl rfl) (.on rfl rfl (beq_eq rfl)) rfl rfl ?_; refine kPv (ev_pick_t rfl rfl rfl) rfl ?_; refine kPm rfl rfl ?_; refine p_val rfl (ev_move rfl) (.on rfl rfl (beq_eq rfl)) rfl rfl ?_
  refine p_call rfl (en_f Tryz.call31 rfl) (htake_ok _ _ _ _ _ ⟨by decide, by decide⟩) (.on rfl rfl (beq_eq rfl)) rfl rfl ?_ ?_
  rotate_left
  · rintro _ _ ⟨⟩
  rintro _ _ ⟨rfl, rfl⟩
  refine p_val rfl (ev_cmp rfl rfl rfl) (.on rfl rfl (beq_eq rfl)) rfl rfl ?_; refine kPv (ev_pick_t rfl rfl rfl) rfl ?_; refine kPa rfl rfl ?_; refine p_nil ?_; refine go_sub (σ' := [(0, _)]) ⟨rfl, trivial⟩ ?_; refine g_ret ?_
  exact ret_tmp Tryz.results29 rfl (fun w hh => ⟨rfl, (hh.dp [0])⟩)

end Go.Proofs.YtbfheafpecgphaaGreat
