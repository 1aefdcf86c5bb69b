/- Part of the texts beneath a law: what its proof names. Conditions: none. -/
import Derived.Test.YtbfheafpecgphaaGreatQL15Fm
set_option linter.unusedSimpArgs false
set_option linter.unusedVariables false
set_option linter.unnecessarySimpa false
set_option linter.unusedSectionVars false
namespace Go.Proofs.YtbfheafpecgphaaGreat
open Go
theorem idxI_mem {v : Int} : ∀ {xs : List Int} {k : Int}, 0 ≤ k → decide (0 ≤ idxI v xs k) = decide (v ∈ xs)
  | [], k, h => by simp [idxI]
  | a :: t, k, h => by
    unfold idxI
    by_cases e : v = a
    · rw [if_pos e]; simp [e, h]
    · rw [if_neg e, idxI_mem (by omega)]; simp [e]
def seeL (O : List Int) (v : Int) : List Int := if v = 0 ∨ v ∈ O then O else O ++ [v]
theorem see_in {O : List Int} {v x : Int} (h : x ∈ O) : x ∈ seeL O v := by
  unfold seeL; split
  · exact h
  · exact List.mem_append_left _ h
theorem see_v {O : List Int} {v : Int} : v = 0 ∨ v ∈ seeL O v := by
  unfold seeL; split
  · rename_i h
    rcases h with h | h
    · exact .inl h
    · exact .inr h
  · exact .inr (by simp)
theorem see_or {O : List Int} {v : Int} {y : Int} (h : y = 0 ∨ y ∈ O) : y = 0 ∨ y ∈ seeL O v := h.imp id see_in
theorem see_get {O : List Int} {v : Int} {n : Nat} (h : n < O.length) : (seeL O v).getD n 0 = O.getD n 0 := by
  unfold seeL; split
  · rfl
  · rw [List.getD_eq_getElem?_getD, List.getD_eq_getElem?_getD, List.getElem?_append_left h]
theorem see_len {O : List Int} {v : Int} : O.length ≤ (seeL O v).length ∧ (seeL O v).length ≤ O.length + 1 := by
  unfold seeL; split
  · omega
  · simp
structure RcI (m : Int → Int) (L ws O : List Int) (i : Nat) : Prop where
  nd : O.Nodup
  inL : ∀ x ∈ O, x ∈ L
  rc : ∀ x ∈ O, Rch m ws x
  ob : ∀ n, n < i → ∀ r : Int, 0 ≤ r → r < orf m (O.getD n 0) → m (O.getD n 0 + 1 + r) = 0 ∨ m (O.getD n 0 + 1 + r) ∈ O
  le : i ≤ O.length
theorem RcI.see {m : Int → Int} {L ws O : List Int} {i : Nat} (h : RcI m L ws O i) {v : Int} (h1 : v = 0 ∨ v ∈ L) (h2 : v ≠ 0 → Rch m ws v) : RcI m L ws (seeL O v) i := by
  refine ⟨?_, fun x hx => ?_, fun x hx => ?_, fun n hn r r1 r2 => ?_, by have := h.le; have := see_len (O := O) (v := v); omega⟩
  · unfold seeL; split
    · exact h.nd
    · rename_i hv
      exact List.nodup_append.2 ⟨h.nd, by simp, fun a ha b hb e => by
        rw [List.mem_singleton.1 hb] at e; subst e; exact hv (.inr ha)⟩
  · unfold seeL at hx; split at hx
    · exact h.inL x hx
    · rename_i hv
      rcases List.mem_append.1 hx with hx | hx
      · exact h.inL x hx
      · rw [List.mem_singleton.1 hx]; exact h1.resolve_left fun e => hv (.inl e)
  · unfold seeL at hx; split at hx
    · exact h.rc x hx
    · rename_i hv
      rcases List.mem_append.1 hx with hx | hx
      · exact h.rc x hx
      · rw [List.mem_singleton.1 hx]; exact h2 fun e => hv (.inl e)
  · have hl := h.le
    rw [see_get (by omega)] at r2 ⊢
    exact see_or (h.ob n hn r r1 r2)
theorem RcI.len {c : Cfg} (hc : CfgW c) {b : Blk} (hb : BlkW c b) {m : Int → Int} {L : List Int} (hh : HeapW c b m L) {ws O : List Int} {i : Nat} (h : RcI m L ws O i) : O.length ≤ L.length ∧ L.length ≤ 100000 := by
  have h1 := h.nd.length_le_of_subset (l₂ := L) fun x hx => h.inL x hx
  have h2 := hh.tile.len
  have h3 := hb.used; have h4 := hc.s2
  unfold Blk.place at h2
  omega
theorem RcI.done {m : Int → Int} {L ws O : List Int} (h : RcI m L ws O O.length) (hw : ∀ w ∈ ws, w = 0 ∨ w ∈ O) (x : Int) : x ∈ O ↔ Rch m ws x := by
  refine ⟨h.rc x, fun r => ?_⟩
  induction r with
  | word h1 h2 => exact (hw _ h1).resolve_left h2
  | @name k j _ h1 h2 h3 ih =>
    obtain ⟨n, hn, e⟩ := List.getElem_of_mem ih
    have h4 := h.ob n hn j h1
    rw [List.getD_eq_getElem?_getD, List.getElem?_eq_getElem hn] at h4
    simp only [Option.getD_some] at h4
    rw [e] at h4
    exact (h4 h2).resolve_left h3
theorem obj_zero {c : Cfg} (hc : CfgW c) {b : Blk} (hb : BlkW c b) {s : Dev} : (s.objOf c b 0).2 ≠ 0 := by
  have h1 := hb.act
  have h4 := frm_b hc (k := b.act) (by omega)
  have : b.has c 0 = false := by unfold Blk.has; simp; omega
  unfold Dev.objOf
  rw [if_pos (.inr this)]; decide
theorem conti_ok (B : World) (H : List HP) (q : Option Addr) (c : Nat) (xs : List Int) (v : Int) (hx : xs.length ≤ 1000000) (hq : ∀ i, i < xs.length → ∃ b off, q = some ⟨b, off, none⟩) (hr : SlR B H (.slice q xs.length c) (xs.map i64)) :
    ∀ w, Holds B H w → Calls Tryz.prog 48 [.slice q xs.length c, i64 v].toArray w (PureR B H (.bool (decide (v ∈ xs)))) := by
  refine fn_enter Tryz.func48 rfl Tryz.ntmps48 rfl ?_; refine g_seq ?_; refine g_region ?_; refine kPa rfl rfl ?_; refine p_nil ?_; refine g_seq ?_; refine g_region ?_; refine kPm rfl rfl ?_; refine kPm rfl rfl ?_; refine p_callq rfl (en_f Tryz.call65 rfl) (indexi_ok _ _ q c xs v hx hq hr) .free rfl rfl ?_; refine kPv (ev_cmp rfl rfl rfl) rfl ?_; refine kPa rfl rfl ?_; refine p_nil ?_; refine g_ret ?_
  exact ret_tmp Tryz.results48 rfl (fun w hw => ⟨by rw [← idxI_mem (Int.le_refl 0)], hw⟩)
theorem pick_ok (B : World) (Fr : List HP) (qo : Option Addr) (co : Nat) (out : List Int) (hol : out.length ≤ 1000000) (hob : ∀ x ∈ out, 0 ≤ x ∧ x ≤ 1000000) (hqo : ∀ i, i < out.length → ∃ b off, qo = some ⟨b, off, none⟩) (ho : SlR B Fr (.slice qo out.length co) (out.map i64)) (ql : Option Addr) (cl : Nat) (l : List Int) (hll : l.length ≤ 1000000) (hlb : ∀ x ∈ l, 0 ≤ x ∧ x < 65536) (hql : ∀ i, i < l.length → ∃ b off, ql = some ⟨b, off, none⟩) (hl : SlR B Fr (.slice ql l.length cl) (l.map u16)) :
    ∀ w, Holds B Fr w → Calls Tryz.prog 47 [.slice qo out.length co, .slice ql l.length cl].toArray w (Ret B (fun rv H' => ∃ P : List Int, cell1 rv = true ∧ P.length = l.length ∧ (∀ x ∈ P, 0 ≤ x ∧ x ≤ 1000000) ∧ H' = VecA 52 w64 0 (rv, P) :: Fr) (fun _ _ => False)) := by
  refine fn_enter Tryz.func47 rfl Tryz.ntmps47 rfl ?_; refine g_seq ?_; refine g_region ?_; refine kPa rfl rfl ?_; refine p_nil ?_; refine g_seq ?_; refine g_region ?_; refine kPa rfl rfl ?_; refine p_nil ?_; refine g_seq ?_; refine g_seq ?_; refine go_conv (H' := VecA 52 w64 0 (.slice none 0 0, []) :: Fr) (fun w hh => vec_nil hh) ?_; refine g_region ?_; refine kPm rfl rfl ?_; refine kPv (ev_len rfl Tryz.runUnderlying26 ⟨_, rfl⟩ rfl) rfl ?_; refine kPm rfl rfl ?_; refine p_nil ?_
  refine g_block ?_; refine g_loopk (ι := Nat × Value × List Int) [9, 8, 4, 0] (fun (k, sv, P) => (k ≤ l.length) ∧ (cell1 sv = true) ∧ (P.length = k) ∧ (∀ x ∈ P, 0 ≤ x ∧ x ≤ 1000000)) (fun (k, sv, P) => [(10, i64 k), (5, sv)]) (fun (k, sv, P) => VecA 52 w64 0 (sv, P) :: Fr) (fun (k, sv, P) => l.length - k) (0, .slice none 0 0, []) (⟨Nat.zero_le _, rfl, rfl, fun _ h => by cases h⟩) (fun a w st => st.to ⟨rfl, rfl, trivial⟩ (fun hh => hh)) ?_
  rintro ⟨k, sv, P⟩ ⟨hk0, hsv, hP, hPb⟩
  try simp only at hk0 hsv hP hPb ⊢
  refine go_sub (σ' := [(10, i64 k), (5, sv), (9, _), (8, _), (4, _), (0, _)]) ⟨rfl, rfl, rfl, rfl, rfl, rfl, trivial⟩ ?_; refine g_seq ?_; refine g_region ?_; refine kPv (ev_cmp rfl rfl rfl) rfl ?_; refine p_nil ?_; refine g_seq ?_
  refine g_if rfl (fun h11 => ?_) (fun h11 => ?_)
  · have hk : k < l.length := by simp at h11; omega
    have hlk := hlb l[k] (List.getElem_mem hk)
    obtain ⟨bL, oL, rfl⟩ := hql k hk
    refine g_skip ?_; refine g_seq ?_; refine g_block ?_; refine g_seq ?_; refine g_region ?_; refine kPv (ev_iaS Tryz.runUnderlying26 Tryz.sizeOf22 rfl rfl (by omega) (by omega)) rfl ?_
    refine kPv (ev_loadS (v := u16 l[k]) Tryz.isAgg22 (hl.cons _) rfl (by rw [Int.toNat_natCast, List.getElem?_map, List.getElem?_eq_getElem hk]; rfl)) rfl ?_
    refine kPa rfl rfl ?_; refine p_nil ?_; refine g_block ?_; refine g_seq ?_; refine g_region ?_; refine kPm rfl rfl ?_; refine kPv (ev_rem (c := l[k] % 6) rfl rfl (by decide) (rem_e 6 hlk.1)) rfl ?_; refine kPv (ev_cmp rfl rfl rfl) rfl ?_; refine kPm rfl rfl ?_
    apply p_or (tp := 35) (t := 31) (σ1 := [(31, _), (7, _), (10, _), (5, _), (9, _), (8, _), (4, _), (0, _)]) 4 rfl ⟨rfl, rfl, rfl, rfl, rfl, rfl, rfl, rfl, trivial⟩
    · intro hg1
      refine p_val rfl (ev_move rfl) (.on rfl rfl (beq_eq hg1)) rfl rfl ?_; refine p_val rfl (ev_len rfl Tryz.runUnderlying34 ⟨_, rfl⟩ rfl) (.on rfl rfl (beq_eq hg1)) rfl rfl ?_; refine p_val rfl (ev_cmp rfl rfl rfl) (.on rfl rfl (beq_eq hg1)) rfl rfl ?_; refine kPv (ev_pick_f rfl hg1 rfl) rfl ?_
      exact p_seg rfl ⟨rfl, rfl, rfl, rfl, rfl, rfl, rfl, rfl, trivial⟩ (or_f hg1)
    · intro hg1
      refine p_skip rfl (.on rfl rfl (beq_ne hg1)) rfl ?_; refine p_skip rfl (.on rfl rfl (beq_ne hg1)) rfl ?_; refine p_skip rfl (.on rfl rfl (beq_ne hg1)) rfl ?_; refine kPv (ev_pick_t rfl hg1 rfl) rfl ?_
      exact p_seg rfl ⟨rfl, rfl, rfl, rfl, rfl, rfl, rfl, rfl, trivial⟩ (or_t hg1)
    refine kPa rfl rfl ?_; refine p_nil ?_
    refine g_if rfl (fun h27 => ?_) (fun h27 => ?_)
    · have h6 := rem_e 6 hlk.1
      refine g_region ?_; refine kPm rfl rfl ?_; refine kPm rfl rfl ?_; refine kPv (ev_quo (c := l[k] / 6) rfl rfl (by decide) (by rw [Int.tdiv_eq_ediv_of_nonneg hlk.1]; simp [IntKind.wrap, IntKind.bits, IntKind.signed]; omega)) rfl ?_
      refine kPv (ev_conv Tryz.runUnderlying22 Tryz.runUnderlying52 rfl (wru64 (by omega))) rfl ?_; refine p_chg rfl (ch_bs1 Tryz.runUnderlying31 Tryz.sizeOf52 Tryz.zeroValue52 rfl rfl rfl) .free rfl rfl ?_
      rintro _ _ ⟨b40, rfl, rfl⟩
      refine go_pk [1, 0] ?_; refine p_chg rfl (ch_append_vec rfl rfl Tryz.runUnderlying31 Tryz.runUnderlying31 ⟨_, rfl⟩ Tryz.sizeOf52 Tryz.zeroValue52 rfl (fun _ => rfl) tb_52 rfl rfl (by omega)) .free rfl rfl ?_
      rintro sv9 _ ⟨hsv9, rfl⟩
      refine kPa rfl rfl ?_; refine p_nil ?_; refine go_sub (σ' := [(5, _), (10, _), (9, _), (8, _), (4, _), (0, _)]) ⟨rfl, rfl, rfl, rfl, rfl, rfl, trivial⟩ ?_; refine g_region ?_
      first | refine p_val rfl (ev_add rfl rfl (wr64 (by omega))) .free rfl rfl ?_ | refine p_val rfl (ev_add rfl rfl rfl) .free rfl rfl ?_
      refine kPm rfl rfl ?_; refine p_nil ?_
      exact fun a w st_ => ⟨(k + 1, sv9, P ++ [l[k] / 6]), ⟨by omega, hsv9, by simp [hP], fun x hx => by
      rcases List.mem_append.1 hx with hx | hx
      · exact hPb x hx
      · rw [List.mem_singleton.1 hx]; omega⟩, by omega, st_.to ⟨rfl, rfl, rfl, rfl, rfl, rfl, trivial⟩ (fun hh => hh)⟩
    · have hne : 0 < out.length := by
        rcases Nat.eq_zero_or_pos out.length with h0 | h0
        · exfalso; revert h27; simp [h0]
        · exact h0
      have hop : (0 : Int) < out.length := by omega
      obtain ⟨j, hj0⟩ : ∃ j : Nat, (j : Int) = l[k] / 6 % (out.length : Int) := ⟨(l[k] / 6 % (out.length : Int)).toNat, by rw [Int.toNat_of_nonneg (Int.emod_nonneg _ (by omega))]⟩
      have hj : j < out.length := by have := Int.emod_lt_of_pos (l[k] / 6) hop; omega
      have hjm : (l[k] / 6).tmod (out.length : Int) = j := by rw [rem_e _ (by omega)]; omega
      have hox := hob out[j] (List.getElem_mem hj)
      obtain ⟨bO, oO, rfl⟩ := hqo j hj
      refine g_region ?_; refine kPm rfl rfl ?_; refine kPm rfl rfl ?_; refine kPm rfl rfl ?_; refine kPv (ev_quo (c := l[k] / 6) rfl rfl (by decide) (by rw [Int.tdiv_eq_ediv_of_nonneg hlk.1]; simp [IntKind.wrap, IntKind.bits, IntKind.signed]; omega)) rfl ?_
      first | refine p_val rfl (ev_conv Tryz.runUnderlying22 Tryz.runUnderlying3 rfl (wr64 (by omega))) .free rfl rfl ?_ | refine p_val rfl (ev_conv Tryz.runUnderlying22 Tryz.runUnderlying3 rfl rfl) .free rfl rfl ?_
      refine kPm rfl rfl ?_; refine kPv (ev_len rfl Tryz.runUnderlying34 ⟨_, rfl⟩ rfl) rfl ?_; refine kPv (ev_rem (c := (j : Int)) rfl rfl (by omega) hjm) rfl ?_; refine kPv (ev_iaS Tryz.runUnderlying34 Tryz.sizeOf3 rfl rfl (by omega) (by omega)) rfl ?_
      refine kPv (ev_loadS (v := i64 out[j]) Tryz.isAgg3 (ho.cons _) rfl (by rw [Int.toNat_natCast, List.getElem?_map, List.getElem?_eq_getElem hj]; rfl)) rfl ?_
      refine kPv (ev_conv Tryz.runUnderlying3 Tryz.runUnderlying52 rfl (wru64 (by omega))) rfl ?_; refine p_chg rfl (ch_bs1 Tryz.runUnderlying31 Tryz.sizeOf52 Tryz.zeroValue52 rfl rfl rfl) .free rfl rfl ?_
      rintro _ _ ⟨b25, rfl, rfl⟩
      refine go_pk [1, 0] ?_; refine p_chg rfl (ch_append_vec rfl rfl Tryz.runUnderlying31 Tryz.runUnderlying31 ⟨_, rfl⟩ Tryz.sizeOf52 Tryz.zeroValue52 rfl (fun _ => rfl) tb_52 rfl rfl (by omega)) .free rfl rfl ?_
      rintro sv9 _ ⟨hsv9, rfl⟩
      refine kPa rfl rfl ?_; refine p_nil ?_; refine go_sub (σ' := [(5, _), (10, _), (9, _), (8, _), (4, _), (0, _)]) ⟨rfl, rfl, rfl, rfl, rfl, rfl, trivial⟩ ?_; refine g_region ?_
      first | refine p_val rfl (ev_add rfl rfl (wr64 (by omega))) .free rfl rfl ?_ | refine p_val rfl (ev_add rfl rfl rfl) .free rfl rfl ?_
      refine kPm rfl rfl ?_; refine p_nil ?_
      exact fun a w st_ => ⟨(k + 1, sv9, P ++ [out[j]]), ⟨by omega, hsv9, by simp [hP], fun x hx => by
      rcases List.mem_append.1 hx with hx | hx
      · exact hPb x hx
      · rw [List.mem_singleton.1 hx]; omega⟩, by omega, st_.to ⟨rfl, rfl, rfl, rfl, rfl, rfl, trivial⟩ (fun hh => hh)⟩
  · have hk : k = l.length := by simp at h11; omega
    refine g_exit ?_; refine g_seq ?_; refine g_region ?_; refine kPm rfl rfl ?_; refine kPa rfl rfl ?_; refine p_nil ?_; refine go_sub (σ' := [(4, _)]) ⟨rfl, trivial⟩ ?_; refine g_ret ?_
    exact ret_tmp Tryz.results47 rfl (fun w hw => ⟨_, ⟨P, hsv, by omega, hPb, rfl⟩, hw⟩)
theorem rsee_ok (B : World) (Fr : List HP) (c1 c2 c3 c4 bd : Nat) (s : Dev) (c : Cfg) (hc : CfgW c) (b : Blk) (svb : Value) (hb : BlkW c b) (hsvb : cell1 svb = true) (L : List Int) (hh : HeapW c b s.load L) (sv : Value) (O : List Int) (hO : O.length ≤ 200000) (v : Int) (hv : v = 0 ∨ v ∈ L) :
    ∀ w, Holds B (row c1 [sv] 34 :: VecA 3 i64 0 (sv, O) :: row c2 [ptr bd] 28 :: row c3 [i64 c.log, i64 c.roots, i64 c.space] 30 :: row c4 [i64 b.act, i64 b.used, svb] 33 :: DevA bd s :: Fr) w → Calls Tryz.prog 92 [w64 v, ptr c1, ptr c2, ptr c3, ptr c4].toArray w (Ret B (fun _ H' => ∃ sv', cell1 sv' = true ∧ H' = row c1 [sv'] 34 :: VecA 3 i64 0 (sv', seeL O v) :: row c2 [ptr bd] 28 :: row c3 [i64 c.log, i64 c.roots, i64 c.space] 30 :: row c4 [i64 b.act, i64 b.used, svb] 33 :: DevA bd s :: Fr) (fun _ _ => False)) := by
  refine fn_enter Tryz.func92 rfl Tryz.ntmps92 rfl ?_
  have hvb : 0 ≤ v ∧ v < 20000 := by
    rcases hv with e | e
    · omega
    · have := heap_b hc hb hh e; omega
  refine go_pk [1] ?_; refine go_vecq fun qv cv hqv hqi => ?_
  subst hqv
  refine g_seq ?_; refine g_seq ?_; refine g_region ?_; refine kPm rfl rfl ?_; refine kPv (ev_cmp rfl rfl rfl) rfl ?_; refine kPm rfl rfl ?_
  apply p_or (tp := 15) (t := 10) (σ1 := [(10, _), (0, _), (1, _), (2, _), (3, _), (4, _)]) 5 rfl ⟨rfl, rfl, rfl, rfl, rfl, rfl, trivial⟩
  · intro hg1
    refine p_val rfl (ev_load Tryz.isAgg34 rfl rfl) (.on rfl rfl (beq_eq hg1)) rfl rfl ?_; refine p_val rfl (ev_move rfl) (.on rfl rfl (beq_eq hg1)) rfl rfl ?_; refine p_val rfl (ev_conv Tryz.runUnderlying52 Tryz.runUnderlying3 rfl (wr64 (by omega))) (.on rfl rfl (beq_eq hg1)) rfl rfl ?_; refine p_callq rfl (en_f Tryz.call48 rfl) (conti_ok _ _ qv cv O v (by omega) hqi (vec_slr 0 rfl)) (.on rfl rfl (beq_eq hg1)) rfl rfl ?_; refine kPv (ev_pick_f rfl hg1 rfl) rfl ?_
    exact p_seg rfl ⟨rfl, rfl, rfl, rfl, rfl, rfl, trivial⟩ (or_f hg1)
  · intro hg1
    refine p_skip rfl (.on rfl rfl (beq_ne hg1)) rfl ?_; refine p_skip rfl (.on rfl rfl (beq_ne hg1)) rfl ?_; refine p_skip rfl (.on rfl rfl (beq_ne hg1)) rfl ?_; refine p_skip rfl (.on rfl rfl (beq_ne hg1)) rfl ?_; refine kPv (ev_pick_t rfl hg1 rfl) rfl ?_
    exact p_seg rfl ⟨rfl, rfl, rfl, rfl, rfl, rfl, trivial⟩ (or_t hg1)
  refine p_nil ?_
  refine g_if rfl (fun h15 => ?_) (fun h15 => ?_)
  · have hm : v ∈ O := by
      have h9 := h15
      simp at h9; exact h9.resolve_left (by omega)
    have hres : seeL O v = O := by unfold seeL; rw [if_pos (.inr hm)]
    refine g_ret ?_
    exact ret_none Tryz.results92 (fun w hw => ⟨_, ⟨_, rfl, rfl⟩, by rw [hres]; exact (hw.pk [1])⟩)
  · have hm : v ∉ O := fun h => by simp at h15; exact h15.2 h
    refine g_skip ?_; refine g_seq ?_; refine g_region ?_; refine kPv (ev_load Tryz.isAgg28 rfl rfl) rfl ?_; refine kPv (ev_loadA Tryz.isAgg30 Tryz.sizeOf30 rfl rfl) rfl ?_; refine kPv (ev_loadA Tryz.isAgg33 Tryz.sizeOf33 rfl rfl) rfl ?_; refine kPm rfl rfl ?_; refine kPv (ev_conv Tryz.runUnderlying52 Tryz.runUnderlying3 rfl (wr64 (by omega))) rfl ?_; refine p_callq rfl (en_f Tryz.call51 rfl) (ro_at (q := DevA) (fun Fr => obj_ok _ Fr _ _ c hc b svb hb hsvb v (by omega))) .free rfl rfl ?_
    refine kPm rfl rfl ?_; refine kPv (ev_ext rfl rfl) rfl ?_; refine kPv (ev_ext rfl rfl) rfl ?_; refine p_chg rfl (ch_allocA Tryz.zeroValue89 rfl) .free rfl rfl ?_
    rintro _ _ ⟨b6, rfl, rfl⟩
    refine p_chg0 rfl (ch_storeA (vs := _) Tryz.sizeOf89 rfl rfl rfl rfl rfl) .free rfl ?_
    rintro _ _ rfl
    refine kPa rfl rfl ?_; refine p_nil ?_; refine go_sub (σ' := [(7, _), (0, _), (1, _)]) ⟨rfl, rfl, rfl, trivial⟩ ?_; refine g_seq ?_; refine g_region ?_; refine kPm rfl rfl ?_; refine kPv (ev_cmp rfl rfl rfl) rfl ?_; refine p_nil ?_
    refine g_if rfl (fun h26 => ?_) (fun h26 => ?_)
    · have hv0 : v ≠ 0 := fun e => by subst e; exact obj_zero hc hb (by simpa using h26)
      have hres : seeL O v = O ++ [v] := by unfold seeL; rw [if_neg (by simp [hv0, hm])]
      refine g_region ?_; refine kPv (ev_load Tryz.isAgg34 rfl rfl) rfl ?_; refine kPm rfl rfl ?_; refine kPv (ev_conv Tryz.runUnderlying52 Tryz.runUnderlying3 rfl (wr64 (by omega))) rfl ?_; refine p_chg rfl (ch_bs1 Tryz.runUnderlying34 Tryz.sizeOf3 Tryz.zeroValue3 rfl rfl rfl) .free rfl rfl ?_
      rintro _ _ ⟨b30, rfl, rfl⟩
      refine go_pk [2, 0] ?_; refine p_chg rfl (ch_append_vec rfl rfl Tryz.runUnderlying34 Tryz.runUnderlying34 ⟨_, rfl⟩ Tryz.sizeOf3 Tryz.zeroValue3 rfl (fun _ => rfl) tb_3 rfl rfl (by omega)) .free rfl rfl ?_
      rintro sv9 _ ⟨hsv9, rfl⟩
      refine p_chg0 rfl (ch_store Tryz.sizeOf34 rfl rfl (by first | rfl | assumption) rfl) .free rfl ?_
      rintro _ _ rfl
      refine p_nil ?_; refine go_sub (σ' := []) trivial ?_
      exact end_none Tryz.results92 (fun w hw => ⟨_, ⟨sv9, hsv9, rfl⟩, by rw [hres]; exact ((hw.dp [1]).pk [1])⟩)
    · have hv0 : v = 0 := hv.resolve_right fun hL => by rw [(heap_of hc hb hh hL).1] at h26; simp at h26
      have hres : seeL O v = O := by unfold seeL; rw [if_pos (.inl hv0)]
      refine g_skip ?_
      exact end_none Tryz.results92 (fun w hw => ⟨_, ⟨_, rfl, rfl⟩, by rw [hres]; exact ((hw.dp [0]).pk [1])⟩)
theorem RcI.next {m : Int → Int} {L ws O : List Int} {i : Nat} (h : RcI m L ws O i) (hi : i < O.length) (hf : ∀ r : Int, 0 ≤ r → r < orf m (O.getD i 0) → m (O.getD i 0 + 1 + r) = 0 ∨ m (O.getD i 0 + 1 + r) ∈ O) : RcI m L ws O (i + 1) :=
  ⟨h.nd, h.inL, h.rc, fun n hn => by
    by_cases e : n = i
    · subst e; exact hf
    · exact h.ob n (by omega), hi⟩
theorem getD_eq {O : List Int} {i : Nat} (h : i < O.length) : O.getD i 0 = O[i] := by rw [List.getD_eq_getElem?_getD, List.getElem?_eq_getElem h]; rfl
theorem reached_ok (B : World) (Fr : List HP) (bd : Nat) (s : Dev) (c : Cfg) (hc : CfgW c) (b : Blk) (svb : Value) (hb : BlkW c b) (hsvb : cell1 svb = true) (L : List Int) (hh : HeapW c b s.load L) (q : Option Addr) (cap : Nat) (ws : List Int) (hwn : ws.length ≤ 1000000) (hwl : ∀ w ∈ ws, w = 0 ∨ w ∈ L) (hq : ∀ i, i < ws.length → ∃ b off, q = some ⟨b, off, none⟩) (hw : SlR B Fr (.slice q ws.length cap) (ws.map w64)) :
    ∀ w, Holds B (DevA bd s :: Fr) w → Calls Tryz.prog 50 [ptr bd, cfgV c, blkV b svb, .slice q ws.length cap].toArray w (Ret B (fun rv H' => ∃ O : List Int, cell1 rv = true ∧ O.Nodup ∧ (∀ x, x ∈ O ↔ Rch s.load ws x) ∧ (∀ x ∈ O, x ∈ L) ∧ H' = VecA 3 i64 0 (rv, O) :: DevA bd s :: Fr) (fun _ _ => False)) := by
  refine fn_enter Tryz.func50 rfl Tryz.ntmps50 rfl ?_; refine g_seq ?_; refine g_region ?_; refine p_chg rfl (ch_box1 rfl rfl) .free rfl rfl ?_
  rintro _ _ ⟨b4, rfl, rfl⟩
  refine p_chg rfl (ch_boxA rfl) .free rfl rfl ?_
  rintro _ _ ⟨b5, rfl, rfl⟩
  refine p_chg rfl (ch_boxA rfl) .free rfl rfl ?_
  rintro _ _ ⟨b6, rfl, rfl⟩
  refine kPa rfl rfl ?_; refine p_nil ?_; refine g_seq ?_; refine g_region ?_; refine p_chg rfl (ch_alloc1 Tryz.zeroValue34 rfl) .free rfl rfl ?_
  rintro _ _ ⟨b9, rfl, rfl⟩
  refine p_nil ?_; refine g_seq ?_; refine g_region ?_; refine kPv (ev_mkf rfl rfl) rfl ?_; refine kPa rfl rfl ?_; refine p_nil ?_; refine g_seq ?_; refine g_seq ?_; refine go_conv (fun w hh => vec_nil (T := 3) (enc := i64) hh) ?_; refine g_region ?_; refine kPm rfl rfl ?_; refine kPv (ev_len rfl Tryz.runUnderlying31 ⟨_, rfl⟩ rfl) rfl ?_; refine kPm rfl rfl ?_; refine p_nil ?_; refine g_block ?_
  refine g_loopk (ι := Nat × Value × List Int) [20, 19, 10, 9, 8, 6, 5, 4] (fun (k, sv, O) => (k ≤ ws.length) ∧ (cell1 sv = true) ∧ (RcI s.load L ws O 0) ∧ (∀ n, n < k → ws.getD n 0 = 0 ∨ ws.getD n 0 ∈ O)) (fun (k, sv, O) => [(21, i64 k)]) (fun (k, sv, O) => row b9 [sv] 34 :: VecA 3 i64 0 (sv, O) :: row b6 [i64 b.act, i64 b.used, svb] 33 :: row b5 [i64 c.log, i64 c.roots, i64 c.space] 30 :: row b4 [ptr bd] 28 :: DevA bd s :: Fr) (fun (k, sv, O) => ws.length - k) (0, .slice none 0 0, []) (⟨Nat.zero_le _, rfl, ⟨List.nodup_nil, fun _ h => (by cases h), fun _ h => (by cases h), fun n h => absurd h (Nat.not_lt_zero _), Nat.zero_le _⟩, fun n h => absurd h (Nat.not_lt_zero _)⟩) (fun a w st => st.to ⟨rfl, trivial⟩ (fun hh => (hh.pk [1]))) ?_
  rintro ⟨k, sv, O⟩ ⟨hk0, hsv, hR, hW⟩
  try simp only at hk0 hsv hR hW ⊢
  refine go_sub (σ' := [(21, i64 k), (20, _), (19, _), (10, _), (9, _), (8, _), (6, _), (5, _), (4, _)]) ⟨rfl, rfl, rfl, rfl, rfl, rfl, rfl, rfl, rfl, trivial⟩ ?_; refine g_seq ?_; refine g_region ?_; refine kPv (ev_cmp rfl rfl rfl) rfl ?_; refine p_nil ?_; refine g_seq ?_
  refine g_if rfl (fun h22 => ?_) (fun h22 => ?_)
  · have hk : k < ws.length := by simp at h22; omega
    have hwk := hwl ws[k] (List.getElem_mem hk)
    have hwb : 0 ≤ ws[k] ∧ ws[k] < 20000 := by
      rcases hwk with e | e
      · omega
      · have := heap_b hc hb hh e; omega
    obtain ⟨bW, oW, rfl⟩ := hq k hk
    refine g_skip ?_; refine g_seq ?_; refine g_block ?_; refine g_seq ?_; refine g_region ?_; refine kPv (ev_iaS Tryz.runUnderlying31 Tryz.sizeOf52 rfl rfl (by omega) (by omega)) rfl ?_
    refine kPv (ev_loadS (v := w64 ws[k]) Tryz.isAgg52 (((((((hw.cons _).cons _).cons _).cons _).cons _).cons _)) rfl (by rw [Int.toNat_natCast, List.getElem?_map, List.getElem?_eq_getElem hk]; rfl)) rfl ?_
    refine kPa rfl rfl ?_; refine p_nil ?_; refine g_region ?_; refine kPm rfl rfl ?_; refine kPm rfl rfl ?_; refine go_pk [0, 0, 2, 1, 0, 0] ?_
    refine p_call rfl (en_c Tryz.call92 rfl rfl) (rsee_ok B _ b9 b4 b5 b6 bd s c hc b svb hb hsvb L hh sv O (by have := hR.len hc hb hh; omega) ws[k] hwk) .free rfl rfl ?_ ?_
    rotate_left
    · rintro _ _ ⟨⟩
    rintro _ _ ⟨sv9, hsv9, rfl⟩
    refine p_nil ?_; refine go_sub (σ' := [(21, _), (20, _), (19, _), (10, _), (9, _), (8, _), (6, _), (5, _), (4, _)]) ⟨rfl, rfl, rfl, rfl, rfl, rfl, rfl, rfl, rfl, trivial⟩ ?_; refine g_region ?_
    first | refine p_val rfl (ev_add rfl rfl (wr64 (by omega))) .free rfl rfl ?_ | refine p_val rfl (ev_add rfl rfl rfl) .free rfl rfl ?_
    refine kPm rfl rfl ?_; refine p_nil ?_
    exact fun a w st_ => ⟨(k + 1, sv9, seeL O ws[k]), ⟨by first | omega | (simp only; omega), hsv9, hR.see hwk (fun hz => .word (List.getElem_mem hk) hz), fun n hn => by
      by_cases e : n = k
      · subst e; rw [getD_eq hk]; exact see_v
      · exact see_or (hW n (by omega))⟩, by first | omega | (simp only; omega), st_.to ⟨rfl, rfl, rfl, rfl, rfl, rfl, rfl, rfl, rfl, trivial⟩ (fun hh => (hh.pk [0, 0, 2, 1]))⟩
  · have hk : k = ws.length := by simp at h22; omega
    refine g_exit ?_; refine g_seq ?_; refine g_seq ?_; refine g_region ?_; refine kPa rfl rfl ?_; refine p_nil ?_; refine g_block ?_
    refine g_loopk (ι := Nat × Value × List Int) [10, 9, 8, 6, 5, 4] (fun (i, sv2, O2) => (cell1 sv2 = true) ∧ (RcI s.load L ws O2 i) ∧ (∀ w ∈ ws, w = 0 ∨ w ∈ O2)) (fun (i, sv2, O2) => [(13, i64 i)]) (fun (i, sv2, O2) => row b9 [sv2] 34 :: VecA 3 i64 0 (sv2, O2) :: row b6 [i64 b.act, i64 b.used, svb] 33 :: row b5 [i64 c.log, i64 c.roots, i64 c.space] 30 :: row b4 [ptr bd] 28 :: DevA bd s :: Fr) (fun (i, sv2, O2) => L.length - i) (0, sv, O) (⟨hsv, hR, fun w hw => by
      obtain ⟨n, hn, e⟩ := List.getElem_of_mem hw
      have h9 := hW n (by omega)
      rw [getD_eq hn, e] at h9; exact h9⟩) (fun a w st => st.to ⟨rfl, trivial⟩ (fun hh => hh)) ?_
    rintro ⟨i, sv2, O2⟩ ⟨hsv2, hR2, hW2⟩
    try simp only at hsv2 hR2 hW2 ⊢
    refine go_sub (σ' := [(13, i64 i), (10, _), (9, _), (8, _), (6, _), (5, _), (4, _)]) ⟨rfl, rfl, rfl, rfl, rfl, rfl, rfl, trivial⟩ ?_; refine g_seq ?_; refine g_seq ?_; refine go_pk [1] ?_; refine go_vecq fun q2 cv2 hq2 hqi2 => ?_
    subst hq2
    refine g_region ?_; refine kPm rfl rfl ?_; refine kPv (ev_load Tryz.isAgg34 rfl rfl) rfl ?_; refine kPv (ev_len rfl Tryz.runUnderlying34 ⟨_, rfl⟩ rfl) rfl ?_; refine kPv (ev_cmp rfl rfl rfl) rfl ?_; refine p_nil ?_
    refine g_if rfl (fun h32 => ?_) (fun h32 => ?_)
    · have hi : i < O2.length := by simp at h32; omega
      have hlen := hR2.len hc hb hh
      have hoL := hR2.inL O2[i] (List.getElem_mem hi)
      have hob9 := (heap_of hc hb hh hoL).1
      have hb9 := heap_b hc hb hh hoL
      have hz9 := osz_b s.load O2[i]
      obtain ⟨bO, oO, rfl⟩ := hqi2 i hi
      have hg2 : O2.getD i 0 = O2[i] := getD_eq hi
      refine g_skip ?_; refine g_seq ?_; refine g_block ?_; refine g_seq ?_
      refine g_drawT (.br [0, 1, 2, 3, 4, 5, 6] 7 (.fin [8, 9, 10, 11, 12, 13]) 11 (.fin [7, 8, 9, 10, 12, 13])) [7, 11, 12] [0, 1, 2, 3, 4, 5, 6, 8, 9, 10] [11, 12] [row b4 [ptr bd] 28, row b5 [i64 c.log, i64 c.roots, i64 c.space] 30, row b6 [i64 b.act, i64 b.used, svb] 33, row b9 [.slice (some ⟨bO, oO, none⟩) O2.length cv2] 34, VecA 3 i64 0 (.slice (some ⟨bO, oO, none⟩) O2.length cv2, O2)] [13, 10, 9, 8, 6, 5, 4] (G := Nat) (fun b14 => [(14, ptr b14)]) (fun b14 => row b14 [i64 (s.objOf c b O2[i]).1.1, i64 (s.objOf c b O2[i]).1.2.1, i64 (s.objOf c b O2[i]).1.2.2] 89 :: row b9 [.slice (some ⟨bO, oO, none⟩) O2.length cv2] 34 :: VecA 3 i64 0 (.slice (some ⟨bO, oO, none⟩) O2.length cv2, O2) :: row b6 [i64 b.act, i64 b.used, svb] 33 :: row b5 [i64 c.log, i64 c.roots, i64 c.space] 30 :: row b4 [ptr bd] 28 :: DevA bd s :: Fr) Tryz.mixed (by kernel_rfl) ?_ ?_
      · skip
        refine t_br ?_; refine v_hoist rfl rfl rfl (ev_load Tryz.isAgg28 rfl rfl) .free rfl ?_; refine v_hoist rfl rfl rfl (ev_loadA Tryz.isAgg30 Tryz.sizeOf30 rfl rfl) .free rfl ?_; refine v_hoist rfl rfl rfl (ev_loadA Tryz.isAgg33 Tryz.sizeOf33 rfl rfl) .free rfl ?_; refine v_hoist rfl rfl rfl (ev_load Tryz.isAgg34 rfl rfl) .free rfl ?_; refine v_hoist rfl rfl rfl (ev_move rfl) .free rfl ?_
        refine v_hoist rfl rfl rfl (ev_iaS Tryz.runUnderlying34 Tryz.sizeOf3 rfl rfl (by omega) (by omega)) .free rfl ?_
        refine v_hoist rfl rfl rfl (ev_loadS (v := i64 O2[i]) Tryz.isAgg3 (vec_slr 4 rfl) rfl (by rw [Int.toNat_natCast, List.getElem?_map, List.getElem?_eq_getElem hi]; rfl)) .free rfl ?_
        refine v_nil ?_
        refine t_two rfl rfl ?_ ?_
        · skip
          refine p_callq rfl (en_f Tryz.call51 rfl) (ro_at (q := DevA) (fun Fr => obj_ok _ Fr _ _ c hc b svb hb hsvb O2[i] (by omega))) .free rfl rfl ?_; refine p_nil ?_; refine t_off rfl ?_; refine t_fin ?_; refine v_hoist rfl rfl rfl (ev_move rfl) .free rfl ?_; refine v_hoist rfl rfl rfl (ev_ext rfl rfl) .free rfl ?_; refine v_hoist rfl rfl rfl (ev_ext rfl rfl) .free rfl ?_; refine v_mark rfl rfl ?_; refine p_chg rfl (ch_allocA Tryz.zeroValue89 rfl) .free rfl rfl ?_
          rintro _ _ ⟨b14, rfl, rfl⟩
          refine p_nil ?_; refine v_on ?_; refine v_mark rfl rfl ?_; refine p_chg0 rfl (ch_storeA (vs := _) Tryz.sizeOf89 rfl rfl rfl rfl rfl) .free rfl ?_
          rintro _ _ rfl
          refine p_nil ?_; refine v_on ?_; refine v_val rfl rfl rfl (ev_assign rfl) .free rfl ?_; refine v_nil ?_
          exact fun a w st_ => ⟨b14, st_.to ⟨rfl, rfl, rfl, rfl, rfl, rfl, rfl, rfl, trivial⟩ (fun hh => (hh.pk [0, 1]))⟩
        · skip
          refine p_chg rfl (ch_allocA Tryz.zeroValue89 rfl) .free rfl rfl ?_
          rintro _ _ ⟨b14, rfl, rfl⟩
          refine p_nil ?_; refine t_on ?_; refine t_fin ?_; refine v_mark rfl rfl ?_; refine p_callq rfl (en_f Tryz.call51 rfl) (ro_at (q := DevA) (fun Fr => obj_ok _ Fr _ _ c hc b svb hb hsvb O2[i] (by omega))) .free rfl rfl ?_; refine p_nil ?_; refine v_off rfl ?_; refine v_hoist rfl rfl rfl (ev_move rfl) .free rfl ?_; refine v_hoist rfl rfl rfl (ev_ext rfl rfl) .free rfl ?_; refine v_hoist rfl rfl rfl (ev_ext rfl rfl) .free rfl ?_; refine v_mark rfl rfl ?_
          refine p_chg0 rfl (ch_storeA (vs := _) Tryz.sizeOf89 rfl rfl rfl rfl rfl) .free rfl ?_
          rintro _ _ rfl
          refine p_nil ?_; refine v_on ?_; refine v_val rfl rfl rfl (ev_assign rfl) .free rfl ?_; refine v_nil ?_
          exact fun a w st_ => ⟨b14, st_.to ⟨rfl, rfl, rfl, rfl, rfl, rfl, rfl, rfl, trivial⟩ (fun hh => (hh.pk [0, 1]))⟩
      intro b14
      refine go_sub (σ' := [(14, ptr b14), (13, _), (10, _), (9, _), (8, _), (6, _), (5, _), (4, _)]) ⟨rfl, rfl, rfl, rfl, rfl, rfl, rfl, rfl, trivial⟩ ?_; refine g_seq ?_
      rw [hob9]
      refine g_region ?_; refine kPv (ev_fa (m := _) fa_89_0 rfl rfl) rfl ?_; refine kPv (ev_fa (m := _) fa_87_1 rfl rfl) rfl ?_; refine kPv (ev_load Tryz.isAgg3 rfl rfl) rfl ?_; refine kPm rfl rfl ?_; refine p_nil ?_; refine g_block ?_
      refine g_loopk (ι := Nat × Value × List Int) [48, 13, 10, 9, 8, 6, 5, 4] (fun (j, sv3, O3) => (cell1 sv3 = true) ∧ ((j : Int) ≤ orf s.load O2[i]) ∧ (RcI s.load L ws O3 i) ∧ (i < O3.length) ∧ (O3.getD i 0 = O2[i]) ∧ (∀ r : Int, 0 ≤ r → r < j → s.load (O2[i] + 1 + r) = 0 ∨ s.load (O2[i] + 1 + r) ∈ O3) ∧ (∀ w ∈ ws, w = 0 ∨ w ∈ O3)) (fun (j, sv3, O3) => [(49, i64 j)]) (fun (j, sv3, O3) => row b14 [i64 (osz s.load O2[i] - 1), i64 (orf s.load O2[i]), i64 O2[i]] 89 :: row b9 [sv3] 34 :: VecA 3 i64 0 (sv3, O3) :: row b6 [i64 b.act, i64 b.used, svb] 33 :: row b5 [i64 c.log, i64 c.roots, i64 c.space] 30 :: row b4 [ptr bd] 28 :: DevA bd s :: Fr) (fun (j, sv3, O3) => (orf s.load O2[i] - j).toNat) (0, .slice (some ⟨bO, oO, none⟩) O2.length cv2, O2) (⟨rfl, by omega, hR2, hi, hg2, fun r h1 h2 => by omega, hW2⟩) (fun a w st => st.to ⟨rfl, trivial⟩ (fun hh => hh)) ?_
      rintro ⟨j, sv3, O3⟩ ⟨hsv3, hj0, hR3, hl3, hg3, hF3, hW3⟩
      try simp only at hsv3 hj0 hR3 hl3 hg3 hF3 hW3 ⊢
      refine go_sub (σ' := [(49, i64 j), (48, _), (13, _), (10, _), (9, _), (8, _), (6, _), (5, _), (4, _)]) ⟨rfl, rfl, rfl, rfl, rfl, rfl, rfl, rfl, rfl, trivial⟩ ?_; refine g_seq ?_; refine g_region ?_; refine kPv (ev_cmp rfl rfl rfl) rfl ?_; refine p_nil ?_; refine g_seq ?_
      refine g_if rfl (fun h50 => ?_) (fun h50 => ?_)
      · have hj : (j : Int) < orf s.load O2[i] := by simp at h50; omega
        have hlen3 := hR3.len hc hb hh
        have ho3 : O3[i] = O2[i] := by rw [← getD_eq hl3]; exact hg3
        have hnm := hh.names O2[i] hoL j (by omega) hj
        have hfb : 0 ≤ s.load (O2[i] + 1 + j) ∧ s.load (O2[i] + 1 + j) < 20000 := by
          rcases hnm with e | e
          · omega
          · have := heap_b hc hb hh e; omega
        refine g_skip ?_; refine g_seq ?_; refine g_block ?_; refine g_seq ?_; refine g_region ?_; refine kPm rfl rfl ?_; refine kPa rfl rfl ?_; refine p_nil ?_; refine g_seq ?_; refine go_pk [2] ?_; refine go_vecq fun q3 cv3 hq3 hqi3 => ?_
        subst hq3
        obtain ⟨bO3, oO3, rfl⟩ := hqi3 i hl3
        refine g_draw Tryz.mixed (by kernel_rfl) (by kernel_rfl) ?_; refine kQv (ev_load Tryz.isAgg28 rfl rfl) rfl ?_; refine kQv (ev_load Tryz.isAgg34 rfl rfl) rfl ?_; refine kQm rfl rfl ?_; refine kQv (ev_iaS Tryz.runUnderlying34 Tryz.sizeOf3 rfl rfl (by omega) (by omega)) rfl ?_
        refine kQv (ev_loadS (v := i64 O2[i]) Tryz.isAgg3 (vec_slr 0 rfl) rfl (by rw [Int.toNat_natCast, List.getElem?_map, List.getElem?_eq_getElem hl3, ho3]; rfl)) rfl ?_
        first | refine q_val rfl (ev_add rfl rfl (wr64 (by omega))) .free rfl ?_ | refine q_val rfl (ev_add rfl rfl rfl) .free rfl ?_
        refine kQm rfl rfl ?_
        first | refine q_val rfl (ev_add rfl rfl (wr64 (by omega))) .free rfl ?_ | refine q_val rfl (ev_add rfl rfl rfl) .free rfl ?_
        refine q_call rfl (en_f Tryz.call72 rfl) (ro_at (q := DevA) (fun Fr => nload_ok _ Fr bd s _)) .free rfl ?_; refine kQa rfl rfl ?_; refine q_nil ?_; refine go_sub (σ' := [(17, _), (49, _), (48, _), (13, _), (10, _), (9, _), (8, _), (6, _), (5, _), (4, _)]) ⟨rfl, rfl, rfl, rfl, rfl, rfl, rfl, rfl, rfl, rfl, trivial⟩ ?_; refine g_seq ?_; refine g_region ?_; refine kPm rfl rfl ?_; refine kPv (ev_cmp rfl rfl rfl) rfl ?_; refine p_nil ?_
        refine g_if rfl (fun h62 => ?_) (fun h62 => ?_)
        · have hnz : s.load (O2[i] + 1 + j) ≠ 0 := by simpa using h62
          have hrc : Rch s.load ws (s.load (O2[i] + 1 + j)) := .name (hR2.rc _ (List.getElem_mem hi)) (by omega) hj hnz
          refine g_region ?_; refine kPm rfl rfl ?_; refine kPm rfl rfl ?_; refine go_pk [2, 0, 3, 2, 1, 1] ?_
          refine p_call rfl (en_c Tryz.call92 rfl rfl) (rsee_ok B _ b9 b4 b5 b6 bd s c hc b svb hb hsvb L hh (.slice (some ⟨bO3, oO3, none⟩) O3.length cv3) O3 (by have := hR3.len hc hb hh; omega) (s.load (O2[i] + 1 + j)) hnm) .free rfl rfl ?_ ?_
          rotate_left
          · rintro _ _ ⟨⟩
          rintro _ _ ⟨sv9, hsv9, rfl⟩
          refine p_nil ?_; refine g_region ?_
          first | refine p_val rfl (ev_add rfl rfl (wr64 (by omega))) .free rfl rfl ?_ | refine p_val rfl (ev_add rfl rfl rfl) .free rfl rfl ?_
          refine kPm rfl rfl ?_; refine p_nil ?_; refine go_sub (σ' := [(49, _), (48, _), (13, _), (10, _), (9, _), (8, _), (6, _), (5, _), (4, _)]) ⟨rfl, rfl, rfl, rfl, rfl, rfl, rfl, rfl, rfl, trivial⟩ ?_
          exact fun a w st_ => ⟨(j + 1, sv9, seeL O3 (s.load (O2[i] + 1 + j))), ⟨hsv9, by first | omega | (simp only; omega), hR3.see hnm (fun _ => hrc), by have := see_len (O := O3) (v := s.load (O2[i] + 1 + j)); simp only; omega, by simp only; rw [see_get hl3]; exact hg3, fun r r1 r2 => by
      by_cases e : r = j
      · subst e; exact see_v
      · exact see_or (hF3 r r1 (by omega)), fun w hw => see_or (hW3 w hw)⟩, by first | omega | (simp only; omega), st_.to ⟨rfl, rfl, rfl, rfl, rfl, rfl, rfl, rfl, rfl, trivial⟩ (fun hh => (hh.pk [6, 0, 0, 2, 1]))⟩
        · have hnz : s.load (O2[i] + 1 + j) = 0 := by simpa using h62
          refine g_skip ?_; refine g_region ?_
          first | refine p_val rfl (ev_add rfl rfl (wr64 (by omega))) .free rfl rfl ?_ | refine p_val rfl (ev_add rfl rfl rfl) .free rfl rfl ?_
          refine kPm rfl rfl ?_; refine p_nil ?_
          exact fun a w st_ => ⟨(j + 1, _, O3), ⟨rfl, by first | omega | (simp only; omega), hR3, hl3, hg3, fun r r1 r2 => by
      by_cases e : r = j
      · subst e; exact .inl hnz
      · exact hF3 r r1 (by omega), hW3⟩, by first | omega | (simp only; omega), st_.to ⟨rfl, rfl, rfl, rfl, rfl, rfl, rfl, rfl, rfl, trivial⟩ (fun hh => (hh.pk [1, 1]))⟩
      · have hj : (j : Int) = orf s.load O2[i] := by simp at h50; omega
        refine g_exit ?_; refine g_region ?_; refine kPm rfl rfl ?_
        first | refine p_val rfl (ev_add rfl rfl (wr64 (by omega))) .free rfl rfl ?_ | refine p_val rfl (ev_add rfl rfl rfl) .free rfl rfl ?_
        refine kPa rfl rfl ?_; refine p_nil ?_
        exact fun a w st_ => ⟨(i + 1, sv3, O3), ⟨hsv3, hR3.next hl3 (fun r r1 r2 => by rw [hg3] at r2 ⊢; exact hF3 r r1 (by omega)), hW3⟩, by first | omega | (simp only; omega), st_.to ⟨rfl, rfl, rfl, rfl, rfl, rfl, rfl, trivial⟩ (fun hh => (hh.dp [0]))⟩
    · have hi : i = O2.length := by simp at h32; have := hR2.le; omega
      have hdone : ∀ x, x ∈ O2 ↔ Rch s.load ws x := RcI.done (by rw [← hi]; exact hR2) hW2
      refine g_exit ?_; refine g_seq ?_; refine g_region ?_; refine kPv (ev_load Tryz.isAgg34 rfl rfl) rfl ?_; refine kPa rfl rfl ?_; refine p_nil ?_; refine go_sub (σ' := [(8, _)]) ⟨rfl, trivial⟩ ?_; refine g_ret ?_
      exact ret_tmp Tryz.results50 rfl (fun w hw => ⟨_, ⟨O2, hsv2, hR2.nd, hdone, hR2.inL, rfl⟩, (hw.dp [1, 1, 1, 1])⟩)
end Go.Proofs.YtbfheafpecgphaaGreat
namespace Go.Proofs.YtbfheafpecgphaaGreat
open Go
def compR (R S : List (Int × Int)) : List (Int × Int) := R.filterMap fun p => (S.find? fun q => q.1 == p.2).map fun q => (p.1, q.2)
theorem comp_len {R S : List (Int × Int)} : (compR R S).length ≤ R.length := List.length_filterMap_le ..
theorem comp_of {R S : List (Int × Int)} {p : Int × Int} (h : p ∈ compR R S) : ∃ y, (p.1, y) ∈ R ∧ (y, p.2) ∈ S := by
  obtain ⟨r, hr, e⟩ := List.mem_filterMap.1 h
  cases hf : S.find? fun q => q.1 == r.2 with
  | none => rw [hf] at e; cases e
  | some q =>
    rw [hf] at e
    cases e
    have h1 := List.find?_some hf
    have h2 := List.mem_of_find?_eq_some hf
    have h3 : q.1 = r.2 := by simpa using h1
    exact ⟨r.2, hr, by rw [← h3]; exact h2⟩
theorem comp_mk {R S : List (Int × Int)} (hS : ∀ p ∈ S, ∀ q ∈ S, p.1 = q.1 → p = q) {x y z : Int} (h1 : (x, y) ∈ R) (h2 : (y, z) ∈ S) : (x, z) ∈ compR R S := by
  refine List.mem_filterMap.2 ⟨_, h1, ?_⟩
  cases hf : S.find? fun q => q.1 == y with
  | none =>
    have := List.find?_eq_none.1 hf _ h2
    simp at this
  | some q =>
    have h3 : q.1 = y := by have := List.find?_some hf; simpa using this
    have h4 := hS q (List.mem_of_find?_eq_some hf) _ h2 h3
    simp only [hf]
    rw [h4]; rfl
theorem iso_comp {c : Cfg} {a b d : Blk} {s t u : Dev} {R S : List (Int × Int)} (h : IsoR c a s b t R) (g : IsoR c b t d u S) : IsoR c a s d u (compR R S) := by
  refine ⟨fun p hp => ?_, fun p hp q hq e => ?_, fun p hp q hq e => ?_, fun p hp => ?_⟩
  · obtain ⟨y, h1, h2⟩ := comp_of hp
    exact ⟨(h.nz _ h1).1, (g.nz _ h2).2⟩
  · obtain ⟨y, h1, h2⟩ := comp_of hp
    obtain ⟨z, h3, h4⟩ := comp_of hq
    have e1 := h.i1 _ h1 _ h3 e
    have e2 : y = z := congrArg Prod.snd e1
    have e3 := g.i1 _ h2 _ h4 e2
    exact Prod.ext e (by have := congrArg Prod.snd e3; exact this)
  · obtain ⟨y, h1, h2⟩ := comp_of hp
    obtain ⟨z, h3, h4⟩ := comp_of hq
    have e1 := g.i2 _ h2 _ h4 e
    have e2 : y = z := congrArg Prod.fst e1
    have e3 := h.i2 _ h1 _ h3 e2
    exact Prod.ext (by have := congrArg Prod.fst e3; exact this) e
  · obtain ⟨y, h1, h2⟩ := comp_of hp
    obtain ⟨w, r, o1, o2, o3, o4, o5⟩ := h.of _ h1
    obtain ⟨w', r', p1, p2, p3, p4, p5⟩ := g.of _ h2
    simp only at o1 o2 p1 p2
    rw [o2] at p1
    cases p1
    refine ⟨w, r, o1, p2, o3, o4, fun i hi => ?_⟩
    have k1 := o5 i hi
    have k2 := p5 i hi
    simp only at k1 k2
    by_cases hr : (i : Int) < r
    · rw [if_pos hr] at k1 k2 ⊢
      rcases k1 with ⟨e1, e2⟩ | k1
      · rcases k2 with ⟨e3, e4⟩ | k2
        · exact .inl ⟨e1, e4⟩
        · have := (g.nz _ k2).1
          simp only [e2] at this; omega
      · rcases k2 with ⟨e3, e4⟩ | k2
        · have := (h.nz _ k1).2
          simp only [e3] at this; omega
        · exact .inr (comp_mk g.i1 k1 k2)
    · rw [if_neg hr] at k1 k2 ⊢
      rw [k1, k2]
structure KI (c : Cfg) (N bd : Nat) (b0 : Blk) (t0 : Dev) (fs : List Int) (sz : Int) (n : Nat) (k : Nat) (S : SecS) (s : Dev) (b : Blk) (L ws : List Int) (R : List (Int × Int)) : Prop where
  hi : HI c N bd S s b L
  act : b.act = (k : Int) % 2
  wl : ws.length = n
  win : ∀ w ∈ ws, w = 0 ∨ w ∈ L
  iso : IsoR c b0 t0 b s R
  rl : R.length ≤ 1000000
  fl : fs.length = (b.rts ++ ws).length
  pr : ∀ i (h : i < fs.length), PrR R fs[i] ((b.rts ++ ws)[i]'(by omega))
  sz : ∀ X s1, DI c b s.load L (c.frm (1 - b.act)) (b.rts ++ ws) X s1 → X.block.used = sz
theorem ki_step {c : Cfg} (hc : CfgW c) {N bd : Nat} {b0 : Blk} {t0 : Dev} {fs : List Int} {sz : Int} {n k : Nat} {S : SecS} {s : Dev} {b : Blk} {L ws : List Int} {R : List (Int × Int)} (h : KI c N bd b0 t0 fs sz n k S s b L ws R) :
    ∃ X S' s', collectM bd c S s ws = .ok (some X, 0, S') s' ∧ s'.block c = (X.block, 0) ∧ BlkW c X.block ∧ X.block.used = sz ∧ s'.check c = 0 ∧ ColW X ∧ KI c N bd b0 t0 fs sz n (k + 1) S' s' X.block (X.went.map Prod.snd) (ws.map fun w => (mget X.went w).getD 0) (compR R X.went) := by
  have hi := h.hi
  obtain ⟨X, S', s', e1, e2, eX, e4, G, s1, hD, e5⟩ := collect_run hc hi.sk hi.bl hi.heap h.win
  have hb := hD.block G
  have hu := hD.used G
  have hm : ∀ j, c.frm (1 - b.act) ≤ j → j < X.free → s'.load j = s1.load j := fun j h1 _ => e5 j (by have := G.lo0; omega)
  have hheap := hD.heap G (fun w hw => List.mem_append_left _ hw) hm
  have hbX : BlkW c X.block := by have h9 := block_w (s := s') hc e2.u; rw [e4] at h9; exact h9
  have hbw : BlkW c b := by have h9 := block_w (s := s) hc hi.sk.u; rw [hi.bl] at h9; exact h9
  have hiso := iso_went hc G hD hbX hheap hm
  have hba := hbw.act
  have hpar := h.act
  have hwt : (ws.map fun w => (mget X.went w).getD 0) = ws.map (tr X.went) := rfl
  have hall : X.block.rts ++ (ws.map fun w => (mget X.went w).getD 0) = (b.rts ++ ws).map (tr X.went) := by rw [hwt, hb, List.map_append]
  refine ⟨X, S', s', e1, e4, hbX, h.sz _ _ hD, heap_check hc e2.u e4 hheap, eX, ⟨⟨e2, e4, hheap⟩, by rw [hb]; simp only; omega, by rw [List.length_map]; exact h.wl, fun w' hw' => ?_, iso_comp h.iso hiso, Nat.le_trans comp_len h.rl, by rw [hall, List.length_map]; exact h.fl, fun i hi => ?_, fun X2 s2 hD2 => ?_⟩⟩
  · rw [hwt] at hw'
    obtain ⟨w, hw, e⟩ := List.mem_map.1 hw'
    rw [← e]
    rcases hD.ws w (List.mem_append_right _ hw) with hz | hz
    · exact .inl (by rw [hz]; exact tr_not (hD.ci.zero G))
    · exact .inr (hD.trm hz).1
  · have hfl := h.fl
    have hil : i < (b.rts ++ ws).length := by omega
    have e : (X.block.rts ++ (ws.map fun w => (mget X.went w).getD 0))[i]'(by rw [hall, List.length_map]; omega) = tr X.went (b.rts ++ ws)[i] := by
      simp only [hall, List.getElem_map]
    rw [e]
    have hw := hD.ws _ (List.getElem_mem hil)
    rcases h.pr i hi with ⟨e3, e4⟩ | h4
    · exact .inl ⟨e3, by rw [e4]; exact tr_not (hD.ci.zero G)⟩
    · have hnz := (h.iso.nz _ h4).2
      simp only at hnz
      have hk := hw.resolve_left (by omega)
      exact .inr (comp_mk hiso.i1 h4 (hD.trm hk).2)
  · have G2 : GcH c X.block s'.load (X.went.map Prod.snd) (c.frm (1 - X.block.act)) (c.frm (1 - X.block.act) + c.space) := ⟨hc, hbX, hheap, rfl, rfl, fun x => e2.u.load x⟩
    rw [← h.sz _ _ hD]
    exact hD2.again G2 fun k' hk' => by rw [hall]; exact hD.all G hm hk'
theorem di_size {c : Cfg} {b : Blk} {m0 : Int → Int} {L ws O : List Int} {lo hi : Int} {X : ColS} {s1 : Dev} (G : GcH c b m0 L lo hi) (h : DI c b m0 L lo ws X s1) (hn : O.Nodup) (ho : ∀ x, x ∈ O ↔ Rch m0 ws x) : X.block.used = sumI (osz m0) O := by
  have hf : ∀ x, 0 ≤ osz m0 x := fun x => by have := osz_b m0 x; omega
  have h1 := sumI_sub hf h.ci.nd (l' := O) fun x hx => (ho x).2 (h.keys.1 hx)
  have h2 := sumI_sub hf hn (l' := X.went.map Prod.fst) fun x hx => h.keys.2 ((ho x).1 hx)
  have h3 := (h.used G).1
  omega
theorem ki_zero {c : Cfg} (hc : CfgW c) {N bd : Nat} {S : SecS} {s t0 : Dev} {b : Blk} {L ws O : List Int} (hi : HI c N bd S s b L) (hb0 : b.act = 0) (hw : ∀ w ∈ ws, w = 0 ∨ w ∈ L) (hn : O.Nodup) (ho : ∀ x, x ∈ O ↔ Rch s.load (b.rts ++ ws) x) (ht : t0.load = s.load) :
    KI c N bd b t0 (b.rts ++ ws) (sumI (osz s.load) O) ws.length 0 S s b L ws (L.map fun k => (k, k)) := by
  have hbw : BlkW c b := by have h9 := block_w (s := s) hc hi.sk.u; rw [hi.bl] at h9; exact h9
  have hl := hi.heap.tile.len
  have h1 := hbw.used; have h2 := hc.s2
  unfold Blk.place at hl
  refine ⟨hi, by rw [hb0]; rfl, rfl, hw, iso_refl hc hbw (s := t0) (t := s) (by rw [ht]; exact hi.heap) (fun j _ _ => by rw [ht]), by rw [List.length_map]; omega, rfl, fun i h => ?_, fun X s1 hD => di_size ⟨hc, hbw, hi.heap, rfl, rfl, fun x => hi.sk.u.load x⟩ hD hn ho⟩
  rcases List.mem_append.1 (List.getElem_mem h) with hm | hm
  · exact (hi.heap.roots _ hm).elim (fun e => .inl ⟨e, e⟩) fun e => .inr (List.mem_map.2 ⟨_, e, rfl⟩)
  · exact (hw _ hm).elim (fun e => .inl ⟨e, e⟩) fun e => .inr (List.mem_map.2 ⟨_, e, rfl⟩)
end Go.Proofs.YtbfheafpecgphaaGreat
