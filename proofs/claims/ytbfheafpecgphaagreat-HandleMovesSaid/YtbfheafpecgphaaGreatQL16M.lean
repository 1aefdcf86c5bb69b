/- The law HandleMoves. Conditions: none. -/
import Derived.Test.YtbfheafpecgphaaGreatQL16Mo
set_option linter.unusedSimpArgs false
set_option linter.unusedVariables false
set_option linter.unnecessarySimpa false
set_option linter.unusedSectionVars false
namespace Go.Proofs.YtbfheafpecgphaaGreat
set_option linter.unusedSimpArgs false
set_option linter.unusedVariables false
open Go

theorem mv1_ok (B : World) (Fr : List HP) (bb : Nat) (by_ p : Int) (hby : 0 ≤ by_ ∧ by_ ≤ 255) (hp : 0 ≤ p ∧ p ≤ 1000) :
    ∀ w, Holds B (row bb [u8 by_] 5 :: Fr) w → Calls Tryz.prog 59 [i64 p, ptr bb].toArray w (PureR B (row bb [u8 by_] 5 :: Fr) (i64 (p + 1 + by_))) := by
  refine fn_enter Tryz.func59 rfl Tryz.ntmps59 rfl ?_; refine g_seq ?_; refine g_region ?_; refine kPa rfl rfl ?_; refine p_nil ?_; refine g_seq ?_; refine g_region ?_; refine kPm rfl rfl ?_
  first | refine p_val rfl (ev_add rfl rfl (wr64 (by omega))) .free rfl rfl ?_ | refine p_val rfl (ev_add rfl rfl rfl) .free rfl rfl ?_
  refine kPv (ev_load Tryz.isAgg5 rfl rfl) rfl ?_
  first | refine p_val rfl (ev_conv Tryz.runUnderlying5 Tryz.runUnderlying3 rfl (wr64 (by omega))) .free rfl rfl ?_ | refine p_val rfl (ev_conv Tryz.runUnderlying5 Tryz.runUnderlying3 rfl rfl) .free rfl rfl ?_
  first | refine p_val rfl (ev_add rfl rfl (wr64 (by omega))) .free rfl rfl ?_ | refine p_val rfl (ev_add rfl rfl rfl) .free rfl rfl ?_
  refine kPa rfl rfl ?_; refine p_nil ?_; refine go_sub (σ' := [(3, _)]) ⟨rfl, trivial⟩ ?_; refine g_ret ?_
  exact ret_tmp Tryz.results59 rfl (fun w hh => ⟨rfl, hh⟩)

theorem mv2_ok (B : World) (Fr : List HP) (bb : Nat) (by_ p : Int) (hby : 0 ≤ by_ ∧ by_ ≤ 255) (hp : 0 ≤ p ∧ p ≤ 1000) :
    ∀ w, Holds B (row bb [u8 by_] 5 :: Fr) w → Calls Tryz.prog 60 [i64 p, ptr bb].toArray w (PureR B (row bb [u8 by_] 5 :: Fr) (i64 (p - 1 - by_))) := by
  refine fn_enter Tryz.func60 rfl Tryz.ntmps60 rfl ?_; refine g_seq ?_; refine g_region ?_; refine kPa rfl rfl ?_; refine p_nil ?_; refine g_seq ?_; refine g_region ?_; refine kPm rfl rfl ?_
  first | refine p_val rfl (ev_sub rfl rfl (wr64 (by omega))) .free rfl rfl ?_ | refine p_val rfl (ev_sub rfl rfl rfl) .free rfl rfl ?_
  refine kPv (ev_load Tryz.isAgg5 rfl rfl) rfl ?_
  first | refine p_val rfl (ev_conv Tryz.runUnderlying5 Tryz.runUnderlying3 rfl (wr64 (by omega))) .free rfl rfl ?_ | refine p_val rfl (ev_conv Tryz.runUnderlying5 Tryz.runUnderlying3 rfl rfl) .free rfl rfl ?_
  first | refine p_val rfl (ev_sub rfl rfl (wr64 (by omega))) .free rfl rfl ?_ | refine p_val rfl (ev_sub rfl rfl rfl) .free rfl rfl ?_
  refine kPa rfl rfl ?_; refine p_nil ?_; refine go_sub (σ' := [(3, _)]) ⟨rfl, trivial⟩ ?_; refine g_ret ?_
  exact ret_tmp Tryz.results60 rfl (fun w hh => ⟨rfl, hh⟩)

theorem mv3_ok (B : World) (Fr : List HP) (bb : Nat) (by_ p : Int) (hby : 0 ≤ by_ ∧ by_ ≤ 255) (hp : 0 ≤ p ∧ p ≤ 1000) :
    ∀ w, Holds B (row bb [u8 by_] 5 :: Fr) w → Calls Tryz.prog 63 [i64 p, ptr bb].toArray w (PureR B (row bb [u8 by_] 5 :: Fr) (i64 (if p = 1 + by_ then 0 else p))) := by
  refine fn_enter Tryz.func63 rfl Tryz.ntmps63 rfl ?_; refine g_seq ?_; refine g_region ?_; refine kPa rfl rfl ?_; refine p_nil ?_; refine g_seq ?_; refine g_seq ?_; refine g_region ?_; refine kPm rfl rfl ?_; refine kPv (ev_load Tryz.isAgg5 rfl rfl) rfl ?_
  first | refine p_val rfl (ev_conv Tryz.runUnderlying5 Tryz.runUnderlying3 rfl (wr64 (by omega))) .free rfl rfl ?_ | refine p_val rfl (ev_conv Tryz.runUnderlying5 Tryz.runUnderlying3 rfl rfl) .free rfl rfl ?_
  first | refine p_val rfl (ev_add rfl rfl (wr64 (by omega))) .free rfl rfl ?_ | refine p_val rfl (ev_add rfl rfl rfl) .free rfl rfl ?_
  refine kPv (ev_cmp rfl rfl rfl) rfl ?_; refine p_nil ?_
  refine g_if rfl (fun h8 => ?_) (fun h8 => ?_)
  · have h8' : p = 1 + by_ := by simpa using h8
    refine g_seq ?_; refine g_region ?_; refine kPa rfl rfl ?_; refine p_nil ?_; refine g_ret ?_
    exact ret_tmp Tryz.results63 rfl (fun w hh => ⟨by rw [if_pos h8'], hh⟩)
  · have h8' : ¬ p = 1 + by_ := by simpa using h8
    refine g_skip ?_; refine g_seq ?_; refine g_region ?_; refine kPm rfl rfl ?_; refine kPa rfl rfl ?_; refine p_nil ?_; refine go_sub (σ' := [(3, _)]) ⟨rfl, trivial⟩ ?_; refine g_ret ?_
    exact ret_tmp Tryz.results63 rfl (fun w hh => ⟨by rw [if_neg h8'], hh⟩)

theorem mvF1 (B : World) (bb : Nat) (by_ : Int) (hby : 0 ≤ by_ ∧ by_ ≤ 255) : MoveF B 59 [] [ptr bb] Unit (fun _ => [row bb [u8 by_] 5]) (fun p => 0 ≤ p ∧ p ≤ 1000) (fun p => p + 1 + by_) (fun _ _ => ()) where
  enter := Tryz.call59
  says := fun Fr p e hp w hh => (mv1_ok B Fr bb by_ p hby hp w hh).mono fun en w' h => by obtain ⟨rfl, h⟩ := h; exact ⟨_, ⟨rfl, rfl⟩, h⟩

theorem mvF2 (B : World) (bb : Nat) (by_ : Int) (hby : 0 ≤ by_ ∧ by_ ≤ 255) : MoveF B 60 [] [ptr bb] Unit (fun _ => [row bb [u8 by_] 5]) (fun p => 0 ≤ p ∧ p ≤ 1000) (fun p => p - 1 - by_) (fun _ _ => ()) where
  enter := Tryz.call60
  says := fun Fr p e hp w hh => (mv2_ok B Fr bb by_ p hby hp w hh).mono fun en w' h => by obtain ⟨rfl, h⟩ := h; exact ⟨_, ⟨rfl, rfl⟩, h⟩

theorem mvF3 (B : World) (bb : Nat) (by_ : Int) (hby : 0 ≤ by_ ∧ by_ ≤ 255) : MoveF B 63 [] [ptr bb] Unit (fun _ => [row bb [u8 by_] 5]) (fun p => 0 ≤ p ∧ p ≤ 1000) (fun p => if p = 1 + by_ then 0 else p) (fun _ _ => ()) where
  enter := Tryz.call63
  says := fun Fr p e hp w hh => (mv3_ok B Fr bb by_ p hby hp w hh).mono fun en w' h => by obtain ⟨rfl, h⟩ := h; exact ⟨_, ⟨rfl, rfl⟩, h⟩


/-- What stands behind the first loop. -/
structure MoI (T : TabS) (M : List (Int × Int)) (m : Nat) : Prop where
  r : RiI T M m
  n : (M.map Prod.fst).Nodup
  p : ∀ k, (mget M k).isSome = true → 1 ≤ k ∧ k ≤ 256
theorem mo_take {T : TabS} {M : List (Int × Int)} {m : Nat} (h : MoI T M m) {p : Int} (hp : 1 ≤ p ∧ p ≤ 256) : ∃ m', m ≤ m' ∧ m' ≤ m + 1 ∧ MoI (T.take p).2 (mset M p (T.take p).1) m' := by
  have hM : ∀ a k, (mget (mset M p a) k).isSome = true → 1 ≤ k ∧ k ≤ 256 := fun a k hk => by
    rw [mget_mset] at hk
    split at hk
    · omega
    · exact h.p k hk
  cases hk : mget M p with
  | some k =>
    have e := ri_old h.r (by omega) hk
    rw [e]
    refine ⟨m, Nat.le_refl _, by omega, ⟨h.r.w, h.r.last, h.r.keys, fun q => ?_⟩, mset_nodup h.n, hM _⟩
    rw [h.r.same, mget_mset]; split
    · rename_i e; subst e; exact hk
    · rfl
  | none =>
    have e := ri_new h.r (by omega) hk
    rw [e.1]
    exact ⟨m + 1, by omega, by omega, e.2, mset_nodup h.n, hM _⟩
theorem MoI.at_ {T : TabS} {M : List (Int × Int)} {m : Nat} (h : MoI T M m) : ∀ q ∈ T.at_, 1 ≤ q.2 ∧ q.2 ≤ 256 := fun q hq => by
  have h1 := (h.r.w.fwd q.1 q.2 (mget_of h.r.w.n1 hq)).1
  exact h.p q.2 (by rw [← h.r.same, h1]; rfl)
/-- There and back. -/
theorem mo_back {T : TabS} {M : List (Int × Int)} {m : Nat} (h : MoI T M m) {by_ : Int} (hb : 0 ≤ by_) {o1 o2 : List (Int × Int)} (h1 : o1.Perm T.at_) (h2 : o2.Perm (TabS.moved (fun p => p + 1 + by_) T.last o1).at_) :
    TabW (TabS.moved (fun p => p - 1 - by_) (TabS.moved (fun p => p + 1 + by_) T.last o1).last o2) ∧ (∀ n, mget (TabS.moved (fun p => p - 1 - by_) (TabS.moved (fun p => p + 1 + by_) T.last o1).last o2).at_ n = mget T.at_ n) ∧ sortI ((TabS.moved (fun p => p - 1 - by_) (TabS.moved (fun p => p + 1 + by_) T.last o1).last o2).at_.map Prod.fst) = sortI (T.at_.map Prod.fst) := by
  have hp := h.at_
  obtain ⟨w1, g1, e1⟩ := h.r.w.moved (to_ := fun p => p + 1 + by_) (fun p _ q _ e _ => by (try simp only at e); omega) h1
  have k1 := mvA_keys (to_ := fun p => p + 1 + by_) (o := o1) (fun p hpp => by have := hp p (h1.mem_iff.1 hpp); (try simp only); omega)
  generalize hT1 : TabS.moved (fun p => p + 1 + by_) T.last o1 = T1 at *
  have a1 : ∀ q ∈ T1.at_, ∃ p, mget T.at_ q.1 = some p ∧ q.2 = p + 1 + by_ ∧ 1 ≤ p := fun q hq => by
    have e := mget_of w1.n1 hq
    rw [g1] at e
    cases hx : mget T.at_ q.1 with
    | none => rw [hx] at e; cases e
    | some p =>
      rw [hx] at e
      have := hp (q.1, p) (mget_in hx)
      simp only at e this
      rw [if_neg (by omega)] at e
      injection e with e; exact ⟨p, rfl, e.symm, this.1⟩
  obtain ⟨w2, g2, e2⟩ := w1.moved (to_ := fun p => p - 1 - by_) (fun p _ q _ e _ => by (try simp only at e); omega) h2
  have k2 := mvA_keys (to_ := fun p => p - 1 - by_) (o := o2) (fun q hq => by obtain ⟨p, _, e, _⟩ := a1 q (h2.mem_iff.1 hq); (try simp only); omega)
  refine ⟨w2, fun n => ?_, ?_⟩
  · rw [g2, g1]
    cases hx : mget T.at_ n with
    | none => rfl
    | some p =>
      have := hp (n, p) (mget_in hx)
      simp only at this ⊢
      rw [if_neg (by omega)]
      simp only
      rw [if_neg (by omega)]
      congr 1; omega
  · rw [e2, k2]
    refine sortI_perm ((h2.map _).trans ?_)
    rw [e1, k1]; exact h1.map _
/-- One that goes. -/
theorem mo_gone {T : TabS} (w : TabW T) {g : Int} {o : List (Int × Int)} (h : o.Perm T.at_) (hg : g ≠ 0) {k : Int} (hk : mget T.no g = some k) :
    mget (TabS.moved (fun p => if p = g then 0 else p) T.last o).at_ k = none ∧ ((TabS.moved (fun p => if p = g then 0 else p) T.last o).take g).1 = T.last + 1 := by
  have h0 := w.bwd g k hk
  obtain ⟨w1, g1, e1⟩ := w.moved (to_ := fun p => if p = g then 0 else p) (fun p hp q hq e hz => by
    (try simp only at e hz)
    by_cases h1 : p.2 = g
    · rw [if_pos h1] at hz; exact absurd rfl hz
    · rw [if_neg h1] at e hz
      by_cases h2 : q.2 = g
      · rw [if_pos h2] at e; exact absurd e hz
      · rw [if_neg h2] at e; exact e) h
  refine ⟨by rw [g1, h0]; simp, ?_⟩
  have hn : mget (TabS.moved (fun p => if p = g then 0 else p) T.last o).no g = none := by
    cases hx : mget (TabS.moved (fun p => if p = g then 0 else p) T.last o).no g with
    | none => rfl
    | some n =>
      have h2 := w1.bwd g n hx
      rw [g1] at h2
      cases hy : mget T.at_ n with
      | none => rw [hy] at h2; cases h2
      | some q =>
        rw [hy] at h2
        simp only at h2
        by_cases e : q = g
        · rw [if_pos e, if_pos rfl] at h2; cases h2
        · rw [if_neg e] at h2
          split at h2
          · cases h2
          · cases h2; exact absurd rfl e
  unfold TabS.take
  rw [if_neg hg, hn]; rfl


theorem hmovedK (B : World) (Fr : List HP) (b : Nat) (T : TabS) (f : FuncId) (ca : List Value) (R : HP) (okp : Int → Prop) (to_ : Int → Int) (hM : MoveF B f [] ca Unit (fun _ => [R]) okp to_ (fun _ _ => ())) (hok : ∀ p ∈ T.at_, okp p.2) :
    ∀ w, Holds B (TabA b T :: R :: Fr) w → Calls Tryz.prog 58 [ptr b, .func (.func f) #[] ca.toArray].toArray w (Ret B (fun _ H' => ∃ ord : List (Int × Int), ord.Perm T.at_ ∧ H' = TabA b (TabS.moved to_ T.last ord) :: R :: Fr) (fun _ _ => False)) :=
  fun w hh => hmoved_ok B Fr b T f [] ca Unit _ okp to_ _ hM hok () w hh
theorem MoI.ok1 {T : TabS} {M : List (Int × Int)} {m : Nat} (h : MoI T M m) {by_ : Int} (hb : 0 ≤ by_ ∧ by_ ≤ 255) {o1 : List (Int × Int)} (h1 : o1.Perm T.at_) : ∀ p ∈ (TabS.moved (fun p => p + 1 + by_) T.last o1).at_, 0 ≤ p.2 ∧ p.2 ≤ 1000 := fun p hp => by
  have hq := h.at_
  obtain ⟨w1, g1, e1⟩ := h.r.w.moved (to_ := fun p => p + 1 + by_) (fun p _ q _ e _ => by (try simp only at e); omega) h1
  rw [e1] at hp
  obtain ⟨q, hq2, rfl⟩ := List.mem_map.1 hp
  have := hq q (h1.mem_iff.1 (List.mem_filter.1 hq2).1)
  simp only; omega

theorem handleMoves_ok (B : World) (Fr : List HP) (q : Option Addr) (cap : Nat) (xs : List Int) (hxb : ∀ x ∈ xs, 0 ≤ x ∧ x ≤ 255) (hx : xs.length ≤ 9223372036854775807) (hq : ∀ i, i < xs.length → ∃ b off, q = some ⟨b, off, none⟩) (hsl : SlR B Fr (.slice q xs.length cap) (xs.map u8)) (by_ g : Int) (hby : 0 ≤ by_ ∧ by_ ≤ 255) (hg : 0 ≤ g ∧ g ≤ 255) :
    ∀ w, Holds B Fr w → Calls Tryz.prog 9 [.slice q xs.length cap, u8 by_, u8 g].toArray w (PureR B Fr (.bool true)) := by
  refine fn_enter Tryz.func9 rfl Tryz.ntmps9 rfl ?_; refine g_seq ?_; refine g_region ?_; refine p_chg rfl (ch_box1 rfl rfl) .free rfl rfl ?_
  rintro _ _ ⟨b4, rfl, rfl⟩
  refine p_chg rfl (ch_box1 rfl rfl) .free rfl rfl ?_
  rintro _ _ ⟨b5, rfl, rfl⟩
  refine kPa rfl rfl ?_; refine p_nil ?_; refine g_seq ?_; refine g_seq ?_; refine g_region ?_; refine p_callq rfl (en_f Tryz.call29 rfl) (awake16_ok _ _) .free rfl rfl ?_; refine kPv (ev_not rfl) rfl ?_; refine p_nil ?_; refine g_iff rfl (rfl) ?_; refine g_skip ?_; refine g_seq ?_; refine g_seq ?_; refine g_region ?_; refine kPm rfl rfl ?_; refine kPv (ev_len rfl Tryz.runUnderlying66 ⟨_, rfl⟩ rfl) rfl ?_; refine kPv (ev_cmp rfl rfl rfl) rfl ?_; refine p_nil ?_
  refine g_if rfl (fun h24 => ?_) (fun h24 => ?_)
  · try simp only [decide_eq_true_eq, decide_eq_false_iff_not, Bool.not_eq_true', Bool.not_eq_false', Bool.or_eq_true, Bool.and_eq_true, Bool.and_eq_false_iff, Bool.or_eq_false_iff, beq_iff_eq, bne_iff_ne, beq_eq_false_iff_ne, bne_eq_false_iff_eq, ge_iff_le, gt_iff_lt, ne_eq] at h24
    refine g_seq ?_; refine g_region ?_; refine kPa rfl rfl ?_; refine p_nil ?_; refine go_sub (σ' := [(6, _), (5, _), (4, _), (0, _)]) ⟨rfl, rfl, rfl, rfl, trivial⟩ ?_; refine g_ret ?_
    exact ret_tmp Tryz.results9 rfl (fun w hh => ⟨rfl, (hh.dp [0, 0])⟩)
  · have hx40 : xs.length ≤ 40 := by simp at h24; omega
    refine g_skip ?_; refine g_seq ?_; refine g_region ?_
    refine p_call rfl (en_f Tryz.call30 rfl) (hnew_ok _ _) .free rfl rfl ?_ ?_
    rotate_left
    · rintro _ _ ⟨⟩
    rintro _ _ ⟨tb, rfl, rfl⟩
    refine kPa rfl rfl ?_; refine p_nil ?_; refine go_sub (σ' := [(7, _), (6, _), (5, _), (4, _), (0, _)]) ⟨rfl, rfl, rfl, rfl, rfl, trivial⟩ ?_; refine g_seq ?_; refine g_region ?_; refine p_chg rfl (ch_makeMap .i64 i64) .free rfl rfl ?_
    rintro _ _ ⟨mr, rfl, rfl⟩
    refine kPa rfl rfl ?_; refine p_nil ?_; refine g_seq ?_; refine g_seq ?_; refine g_region ?_; refine kPm rfl rfl ?_; refine kPv (ev_len rfl Tryz.runUnderlying66 ⟨_, rfl⟩ rfl) rfl ?_; refine kPm rfl rfl ?_; refine p_nil ?_; refine g_block ?_
    refine g_loopk (ι := Nat × TabS × List (Int × Int) × Nat) [28, 27, 8, 7, 6, 5, 4] (fun (k, T, M, m) => (k ≤ xs.length) ∧ (m ≤ k) ∧ (MoI T M m)) (fun (k, T, M, m) => [(29, i64 k)]) (fun (k, T, M, m) => TabA tb T :: mapA .i64 i64 mr M :: row b5 [u8 g] 5 :: row b4 [u8 by_] 5 :: Fr) (fun (k, T, M, m) => xs.length - k) (0, ⟨[], [], 0⟩, [], 0) (⟨Nat.zero_le _, Nat.le_refl _, ⟨tab_w0, rfl, rfl, fun _ => rfl⟩, List.nodup_nil, fun _ h => by cases h⟩) (fun a w st => st.to ⟨rfl, trivial⟩ (fun hh => (hh.pk [1]))) ?_
    rintro ⟨k, T, M, m⟩ ⟨hk0, hm, hR⟩
    try simp only at hk0 hm hR ⊢
    refine go_sub (σ' := [(29, i64 k), (28, _), (27, _), (8, _), (7, _), (6, _), (5, _), (4, _)]) ⟨rfl, rfl, rfl, rfl, rfl, rfl, rfl, rfl, trivial⟩ ?_; refine g_seq ?_; refine g_region ?_; refine kPv (ev_cmp rfl rfl rfl) rfl ?_; refine p_nil ?_; refine g_seq ?_
    refine g_if rfl (fun h30 => ?_) (fun h30 => ?_)
    · have hk : k < xs.length := by simp at h30; omega
      obtain ⟨bq, oq, rfl⟩ := hq k hk
      have hxk := hxb _ (List.getElem_mem hk)
      obtain ⟨m', hm1, hm2, hR'⟩ := mo_take hR (p := 1 + xs[k]) (by omega)
      refine g_skip ?_; refine g_seq ?_; refine g_block ?_; refine g_seq ?_; refine g_region ?_; refine kPv (ev_iaS Tryz.runUnderlying66 Tryz.sizeOf5 rfl rfl (by omega) (by omega)) rfl ?_
      refine kPv (ev_loadS (v := u8 xs[k]) Tryz.isAgg5 hsl.up rfl (by rw [Int.toNat_natCast, List.getElem?_map, List.getElem?_eq_getElem hk]; rfl)) rfl ?_
      refine kPa rfl rfl ?_; refine p_nil ?_; refine g_region ?_; refine kPm rfl rfl ?_; refine kPm rfl rfl ?_
      first | refine p_val rfl (ev_conv Tryz.runUnderlying5 Tryz.runUnderlying3 rfl (wr64 (by omega))) .free rfl rfl ?_ | refine p_val rfl (ev_conv Tryz.runUnderlying5 Tryz.runUnderlying3 rfl rfl) .free rfl rfl ?_
      first | refine p_val rfl (ev_add rfl rfl (wr64 (by omega))) .free rfl rfl ?_ | refine p_val rfl (ev_add rfl rfl rfl) .free rfl rfl ?_
      refine kPm rfl rfl ?_; refine kPm rfl rfl ?_
      first | refine p_val rfl (ev_conv Tryz.runUnderlying5 Tryz.runUnderlying3 rfl (wr64 (by omega))) .free rfl rfl ?_ | refine p_val rfl (ev_conv Tryz.runUnderlying5 Tryz.runUnderlying3 rfl rfl) .free rfl rfl ?_
      first | refine p_val rfl (ev_add rfl rfl (wr64 (by omega))) .free rfl rfl ?_ | refine p_val rfl (ev_add rfl rfl rfl) .free rfl rfl ?_
      refine p_call rfl (en_f Tryz.call31 rfl) (htake_ok B _ tb T (1 + xs[k]) (by have := hR.r.last; omega)) .free rfl rfl ?_ ?_
      rotate_left
      · rintro _ _ ⟨⟩
      rintro _ _ ⟨rfl, rfl⟩
      refine p_chg0 rfl (ch_mapset (enc := i64) Tryz.runUnderlying69 Tryz.runUnderlying3 rfl rfl rfl rfl) .free rfl ?_
      rintro _ _ rfl
      refine p_nil ?_; refine go_sub (σ' := [(29, _), (28, _), (27, _), (8, _), (7, _), (6, _), (5, _), (4, _)]) ⟨rfl, rfl, rfl, rfl, rfl, rfl, rfl, rfl, trivial⟩ ?_; refine g_region ?_
      first | refine p_val rfl (ev_add rfl rfl (wr64 (by omega))) .free rfl rfl ?_ | refine p_val rfl (ev_add rfl rfl rfl) .free rfl rfl ?_
      refine kPm rfl rfl ?_; refine p_nil ?_
      exact fun a w st_ => ⟨(k + 1, (T.take (1 + xs[k])).2, mset M (1 + xs[k]) (T.take (1 + xs[k])).1, m'), ⟨by first | omega | (simp only; omega), by first | omega | (simp only; omega), hR'⟩, by simp only; omega, st_.to ⟨rfl, rfl, rfl, rfl, rfl, rfl, rfl, rfl, trivial⟩ (fun hh => hh)⟩
    · have hk : ¬ k < xs.length := by simp at h30; omega
      have hlast := hR.r.last
      refine g_exit ?_; refine g_seq ?_; refine g_region ?_; refine kPm rfl rfl ?_
      refine p_call rfl (en_f Tryz.call56 rfl) (hnumbers_ok B _ tb T (by have := hR.r.w.len; omega)) .free rfl rfl ?_ ?_
      rotate_left
      · rintro _ _ ⟨⟩
      rintro rv _ rfl
      rw [ri_sorted hR.r]
      refine go_conv (fun w hh => accv_vec hh) ?_; refine go_vecq fun q1 c1 hq1 hqi1 => ?_
      subst hq1
      refine kPa rfl rfl ?_; refine p_nil ?_; refine g_seq ?_; refine g_region ?_; refine kPm rfl rfl ?_; refine kPv (ev_mkf rfl rfl) rfl ?_; refine go_pk [1, 3] ?_
      refine p_call rfl (en_f Tryz.call58 rfl) (hmovedK B _ tb T _ _ _ _ _ (mvF1 B b4 by_ hby) (fun p hp => by have := hR.at_ p hp; omega)) .free rfl rfl ?_ ?_
      rotate_left
      · rintro _ _ ⟨⟩
      rintro _ _ ⟨o1, ho1, rfl⟩
      refine p_nil ?_; refine go_sub (σ' := [(11, _), (8, _), (7, _), (6, _), (5, _), (4, _)]) ⟨rfl, rfl, rfl, rfl, rfl, rfl, trivial⟩ ?_; refine g_seq ?_; refine g_region ?_; refine kPm rfl rfl ?_; refine kPv (ev_mkf rfl rfl) rfl ?_
      refine p_call rfl (en_f Tryz.call58 rfl) (hmovedK B _ tb _ _ _ _ _ _ (mvF2 B b4 by_ hby) (hR.ok1 hby ho1)) .free rfl rfl ?_ ?_
      rotate_left
      · rintro _ _ ⟨⟩
      rintro _ _ ⟨o2, ho2, rfl⟩
      obtain ⟨w2, g2, s2⟩ := mo_back hR hby.1 ho1 ho2
      have n2 := hR.r.w.same w2 g2
      have l2 : (TabS.moved (fun p => p - 1 - by_) (TabS.moved (fun p => p + 1 + by_) T.last o1).last o2).last = T.last := rfl
      generalize TabS.moved (fun p => p - 1 - by_) (TabS.moved (fun p => p + 1 + by_) T.last o1).last o2 = T2 at *
      refine p_nil ?_; refine g_seq ?_; refine g_seq ?_; refine g_region ?_; refine kPm rfl rfl ?_; refine go_pk [0, 2] ?_; refine p_chg rfl (ch_range Tryz.runUnderlying69 rfl) .free rfl rfl ?_
      rintro _ _ ⟨it, rfl, rfl⟩
      refine p_nil ?_; refine g_block ?_
      refine g_loopk (ι := List (Int × Int)) [52, 11, 8, 7, 6, 5] (fun done => (done.length ≤ M.length)) (fun done => []) (fun done => TabA tb T2 :: iterA .i64 i64 mr it M done :: VecA 3 i64 0 (.slice q1 ((List.range m).map fun (i : Nat) => (i : Int) + 1).length c1, ((List.range m).map fun (i : Nat) => (i : Int) + 1)) :: row b5 [u8 g] 5 :: row b4 [u8 by_] 5 :: Fr) (fun done => M.length - done.length) ([]) (Nat.zero_le _) (fun a w st => st.to trivial (fun hh => (hh.pk [0, 0, 1, 1]))) ?_
      rintro done hdl
      try simp only at hdl ⊢
      refine go_sub (σ' := [(52, _), (11, _), (8, _), (7, _), (6, _), (5, _)]) ⟨rfl, rfl, rfl, rfl, rfl, rfl, trivial⟩ ?_; refine g_seq ?_; refine g_region ?_; refine p_chg rfl (ch_next rfl) .free rfl rfl ?_
      rintro _ _ ⟨bb0, vs, done', rfl, hvs, rfl, hno, hyes⟩
      refine kPv (ev_ext rfl hvs) rfl ?_; refine p_nil ?_; refine g_seq ?_
      refine g_if rfl (fun h54 => ?_) (fun h54 => ?_)
      · obtain ⟨pp, hpl, hpn, rfl⟩ := hyes h54
        refine go_iter it fun hl hd hsub => ?_
        have hle := iter_le hd hsub
        have hgM := mget_of hl hpl
        have hpp := hR.p pp.1 (by rw [hgM]; rfl)
        have hno2 : mget T2.no pp.1 = some pp.2 := by rw [n2, hR.r.same]; exact hgM
        have hat2 := w2.bwd _ _ hno2
        have htk2 : T2.take pp.1 = (pp.2, T2) := by unfold TabS.take; rw [if_neg (by omega), hno2]; rfl
        refine g_skip ?_; refine g_block ?_; refine g_seq ?_; refine g_region ?_; refine kPv (ev_entry (p0 := pp) (dn := done) rfl) rfl ?_; refine kPv (ev_ext rfl rfl) rfl ?_; refine kPv (ev_ext rfl rfl) rfl ?_; refine kPa rfl rfl ?_; refine kPa rfl rfl ?_; refine p_nil ?_; refine g_seq ?_; refine g_region ?_; refine kPm rfl rfl ?_; refine kPm rfl rfl ?_; refine p_callq rfl (en_f Tryz.call61 rfl) (hplace_ok B _ tb T2 pp.2) .free rfl rfl ?_; refine kPm rfl rfl ?_
        refine kPv (ev_ext rfl rfl) rfl ?_; refine kPv (ev_ext rfl rfl) rfl ?_; refine kPa rfl rfl ?_; refine kPa rfl rfl ?_; refine p_nil ?_; refine go_sub (σ' := [(15, _), (14, _), (13, _), (12, _), (52, _), (11, _), (8, _), (7, _), (6, _), (5, _)]) ⟨rfl, rfl, rfl, rfl, rfl, rfl, rfl, rfl, rfl, rfl, trivial⟩ ?_; refine g_seq ?_; refine g_region ?_; refine kPm rfl rfl ?_; refine kPv (ev_not rfl) rfl ?_; refine kPm rfl rfl ?_
        refine p_val rfl (ev_move rfl) (.on rfl rfl (beq_eq (by rw [hat2]; rfl))) rfl rfl ?_
        refine p_val rfl (ev_move rfl) (.on rfl rfl (beq_eq (by rw [hat2]; rfl))) rfl rfl ?_
        refine p_val rfl (ev_cmp rfl rfl rfl) (.on rfl rfl (beq_eq (by rw [hat2]; rfl))) rfl rfl ?_
        refine kPv (ev_pick_f rfl (by rw [hat2]; rfl) rfl) rfl ?_
        refine kPm rfl rfl ?_; refine p_val rfl (ev_move rfl) (.on rfl rfl (beq_eq (by rw [hat2]; simp))) rfl rfl ?_
        refine p_val rfl (ev_move rfl) (.on rfl rfl (beq_eq (by rw [hat2]; simp))) rfl rfl ?_
        refine p_call rfl (en_f Tryz.call31 rfl) ((htake_ok B _ tb T2 pp.1 (by rw [l2]; have := hR.r.last; omega))) (.on rfl rfl (beq_eq (by rw [hat2]; simp))) rfl rfl ?_ ?_
        rotate_left
        · rintro _ _ ⟨⟩
        rintro _ _ ⟨rfl, rfl⟩
        rw [htk2]
        refine p_val rfl (ev_move rfl) (.on rfl rfl (beq_eq (by rw [hat2]; simp))) rfl rfl ?_
        refine p_val rfl (ev_cmp rfl rfl rfl) (.on rfl rfl (beq_eq (by rw [hat2]; simp))) rfl rfl ?_
        refine kPv (ev_pick_f rfl (by rw [hat2]; simp) rfl) rfl ?_
        refine p_nil ?_; refine go_sub (σ' := [(77, _), (52, _), (11, _), (8, _), (7, _), (6, _), (5, _)]) ⟨rfl, rfl, rfl, rfl, rfl, rfl, rfl, trivial⟩ ?_; refine g_iff rfl ((by simp)) ?_; refine g_skip ?_
        exact fun a w st_ => ⟨done ++ [pp], by simp; omega, by simp; omega, st_.to ⟨rfl, rfl, rfl, rfl, rfl, rfl, trivial⟩ (fun hh => hh)⟩
      · obtain ⟨rfl, hall⟩ := hno h54
        refine go_conv (fun w hh => hh.iter_end it) ?_; refine g_exit ?_; refine g_seq ?_; refine g_seq ?_; refine g_region ?_; refine kPm rfl rfl ?_
        refine p_call rfl (en_f Tryz.call56 rfl) (hnumbers_ok B _ tb T2 (by have := w2.len; omega)) .free rfl rfl ?_ ?_
        rotate_left
        · rintro _ _ ⟨⟩
        rintro rv _ rfl
        rw [s2, ri_sorted hR.r]
        refine go_conv (fun w hh => accv_vec hh) ?_; refine go_vecq fun q2 c2 hq2 hqi2 => ?_
        subst hq2
        refine kPm rfl rfl ?_; refine p_callq rfl (en_f Tryz.call62 rfl) (equali_ok _ _ q2 q1 c2 c1 _ _ (by simp; omega) (by simp; omega) hqi2 hqi1 (vec_slr 0 rfl) (vec_slr 3 rfl)) .free rfl rfl ?_
        refine kPv (ev_not rfl) rfl ?_; refine p_nil ?_; refine go_sub (σ' := [(82, _), (11, _), (8, _), (7, _), (6, _), (5, _)]) ⟨rfl, rfl, rfl, rfl, rfl, rfl, trivial⟩ ?_; refine g_iff rfl ((by simp)) ?_; refine g_skip ?_; refine g_seq ?_; refine g_region ?_; refine kPm rfl rfl ?_; refine kPv (ev_mkf rfl rfl) rfl ?_; refine go_pk [1, 3] ?_
        refine p_call rfl (en_f Tryz.call58 rfl) (hmovedK B _ tb T2 _ _ _ _ _ (mvF3 B b5 g hg) (fun p hp => by have h9 := mget_of w2.n1 hp; rw [g2] at h9; have := hR.at_ _ (mget_in h9); simp only at this; omega)) .free rfl rfl ?_ ?_
        rotate_left
        · rintro _ _ ⟨⟩
        rintro _ _ ⟨o3, ho3, rfl⟩
        refine p_nil ?_; refine g_seq ?_; refine g_region ?_; refine kPm rfl rfl ?_; refine kPv (ev_load Tryz.isAgg5 rfl rfl) rfl ?_
        first | refine p_val rfl (ev_conv Tryz.runUnderlying5 Tryz.runUnderlying3 rfl (wr64 (by omega))) .free rfl rfl ?_ | refine p_val rfl (ev_conv Tryz.runUnderlying5 Tryz.runUnderlying3 rfl rfl) .free rfl rfl ?_
        first | refine p_val rfl (ev_add rfl rfl (wr64 (by omega))) .free rfl rfl ?_ | refine p_val rfl (ev_add rfl rfl rfl) .free rfl rfl ?_
        refine kPv ((ev_lookup2 Tryz.runUnderlying69 Tryz.runUnderlying3 Tryz.zeroValue3 rfl rfl).eq (congrArg (fun v => Value.tuple #[v, .bool _]) (mval_i _))) rfl ?_; refine kPm rfl rfl ?_; refine kPv (ev_ext rfl rfl) rfl ?_; refine kPv (ev_ext rfl rfl) rfl ?_; refine kPa rfl rfl ?_; refine kPa rfl rfl ?_; refine p_nil ?_; refine go_sub (σ' := [(17, _), (16, _), (11, _), (7, _), (6, _), (5, _)]) ⟨rfl, rfl, rfl, rfl, rfl, rfl, trivial⟩ ?_; refine g_seq ?_; refine g_region ?_
        refine kPm rfl rfl ?_; refine kPm rfl rfl ?_; refine p_callq rfl (en_f Tryz.call61 rfl) (hplace_ok B _ tb _ _) .free rfl rfl ?_; refine kPm rfl rfl ?_; refine kPv (ev_ext rfl rfl) rfl ?_; refine kPv (ev_ext rfl rfl) rfl ?_; refine kPa rfl rfl ?_; refine kPa rfl rfl ?_; refine p_nil ?_; refine go_sub (σ' := [(19, _), (17, _), (11, _), (7, _), (6, _), (5, _)]) ⟨rfl, rfl, rfl, rfl, rfl, rfl, trivial⟩ ?_; refine g_seq ?_
        rcases Bool.eq_false_or_eq_true (!(mget M (1 + g)).isSome) with hw | hw
        · skip
          refine g_region ?_; refine kPm rfl rfl ?_; refine kPv (ev_not rfl) rfl ?_; refine kPm rfl rfl ?_; refine p_skip rfl (.on rfl rfl (beq_ne hw)) rfl ?_; refine p_skip rfl (.on rfl rfl (beq_ne hw)) rfl ?_; refine p_skip rfl (.on rfl rfl (beq_ne hw)) rfl ?_; refine p_skip rfl (.und rfl rfl) rfl ?_; refine p_skip rfl (.und rfl rfl) rfl ?_; refine p_skip rfl (.und rfl rfl) rfl ?_; refine p_skip rfl (.und rfl rfl) rfl ?_; refine p_skip rfl (.und rfl rfl) rfl ?_
          refine p_skip rfl (.und rfl rfl) rfl ?_; refine p_skip rfl (.und rfl rfl) rfl ?_; refine p_skip rfl (.und rfl rfl) rfl ?_; refine p_skip rfl (.und rfl rfl) rfl ?_; refine p_skip rfl (.on rfl rfl (beq_ne hw)) rfl ?_; refine kPv (ev_pick_t rfl hw rfl) rfl ?_; refine kPa rfl rfl ?_; refine p_nil ?_; refine go_sub (σ' := [(6, _)]) ⟨rfl, trivial⟩ ?_; refine g_ret ?_
          exact ret_tmp Tryz.results9 rfl (fun w hh => ⟨rfl, (hh.dp [0, 0, 0, 0, 0, 0])⟩)
        · skip
          obtain ⟨kk, hkk⟩ := Option.isSome_iff_exists.1 (show (mget M (1 + g)).isSome = true by simpa using hw)
          have hgo := mo_gone w2 (g := 1 + g) ho3 (by omega) (k := (mget M (1 + g)).getD 0) (by rw [n2, hR.r.same, hkk]; rfl)
          refine g_region ?_; refine kPm rfl rfl ?_; refine kPv (ev_not rfl) rfl ?_; refine kPm rfl rfl ?_; refine p_val rfl (ev_move rfl) (.on rfl rfl (beq_eq hw)) rfl rfl ?_; refine p_val rfl (ev_not rfl) (.on rfl rfl (beq_eq hw)) rfl rfl ?_; refine p_val rfl (ev_move rfl) (.on rfl rfl (beq_eq hw)) rfl rfl ?_; refine p_val rfl (ev_move rfl) (.on rfl rfl (beq_eq (by rw [hgo.1]; rfl))) rfl rfl ?_
          refine p_val rfl (ev_load Tryz.isAgg5 rfl rfl) (.on rfl rfl (beq_eq (by rw [hgo.1]; rfl))) rfl rfl ?_
          first | refine p_val rfl (ev_conv Tryz.runUnderlying5 Tryz.runUnderlying3 rfl (wr64 (by omega))) (.on rfl rfl (beq_eq (by rw [hgo.1]; rfl))) rfl rfl ?_ | refine p_val rfl (ev_conv Tryz.runUnderlying5 Tryz.runUnderlying3 rfl rfl) (.on rfl rfl (beq_eq (by rw [hgo.1]; rfl))) rfl rfl ?_
          first | refine p_val rfl (ev_add rfl rfl (wr64 (by omega))) (.on rfl rfl (beq_eq (by rw [hgo.1]; rfl))) rfl rfl ?_ | refine p_val rfl (ev_add rfl rfl rfl) (.on rfl rfl (beq_eq (by rw [hgo.1]; rfl))) rfl rfl ?_
          refine p_call rfl (en_f Tryz.call31 rfl) (htake_ok B _ tb _ (1 + g) (by simp only [TabS.moved]; omega)) (.on rfl rfl (beq_eq (by rw [hgo.1]; rfl))) rfl rfl ?_ ?_
          rotate_left
          · rintro _ _ ⟨⟩
          rintro _ _ ⟨rfl, rfl⟩
          refine p_val rfl (ev_move rfl) (.on rfl rfl (beq_eq (by rw [hgo.1]; rfl))) rfl rfl ?_
          refine p_val rfl (ev_len rfl Tryz.runUnderlying34 ⟨_, rfl⟩ rfl) (.on rfl rfl (beq_eq (by rw [hgo.1]; rfl))) rfl rfl ?_
          first | refine p_val rfl (ev_add rfl rfl (wr64 (by omega))) (.on rfl rfl (beq_eq (by rw [hgo.1]; rfl))) rfl rfl ?_ | refine p_val rfl (ev_add rfl rfl rfl) (.on rfl rfl (beq_eq (by rw [hgo.1]; rfl))) rfl rfl ?_
          refine p_val rfl (ev_cmp rfl rfl rfl) (.on rfl rfl (beq_eq (by rw [hgo.1]; rfl))) rfl rfl ?_
          refine p_val rfl (ev_pick_t rfl (by rw [hgo.1]; rfl) rfl) (.on rfl rfl (beq_eq hw)) rfl rfl ?_
          refine kPv (ev_pick_f rfl hw rfl) rfl ?_; refine kPa rfl rfl ?_; refine p_nil ?_; refine go_sub (σ' := [(6, _)]) ⟨rfl, trivial⟩ ?_; refine g_ret ?_
          exact ret_tmp Tryz.results9 rfl (fun w hh => ⟨by rw [hgo.2, l2, hR.r.last, wr64 (by simp; omega)]; simp, (hh.dp [0, 0, 0, 0, 0, 0])⟩)


theorem handleMoves_walk (W : World) {l : Option Addr} {len cap : Nat} {xs : List Int} (w0 : len = xs.length ∧ len ≤ 9223372036854775807 ∧ ArgRow W l len 1 (fun i => [u8 (xs.getD i 0)]) ∧ ∀ x ∈ xs, 0 ≤ x ∧ x ≤ 255) (b : Int) (wb : (Lit.int .u8 b).wf = true) (d : Int) (wd : (Lit.int .u8 d).wf = true) :
    Calls Tryz.prog 9 #[.slice l len cap, .int .u8 b, .int .u8 d] W fun e w' => e = .returned (.bool true) ∧ RowKit.Below W.heap.size W w' := by
  obtain ⟨rfl, w2, w3, w4⟩ := w0
  exact law_of (handleMoves_ok W [old W] l cap xs w4 w2 (some_u8 w3) (slr_u8 w3) b d (bounds_u8 wb) (bounds_u8 wd))

namespace handleMoves
open Go.ChangeShapes Go.WideShapes Go.ChangeAt Go.RowKit
set_option maxRecDepth 100000 in
theorem lifted (os : Os) (started : os.Started) (H : Type) (enc : TypeId × Value → H) :
    ReturnsInHanded {} Tryz.checked os 9 .any (Rows.handleMovesSpec.pre6 enc Tryz.prog Tryz.f9 Rows.handleMovesRow.domain false) (Rows.handleMovesSpec.post enc Tryz.prog Tryz.f9 false true false false) := by
  refine returnsInHanded_of_change (C := Tryz.checked) Tryz.ownKnobs started (by kernel_rfl) Tryz.func9
    (ChangeSpec.witness6 (enc := enc) (C := Tryz.checked) false ⟨#[], #[.slice none 0 0, .int .u8 0, .int .u8 0], []⟩ 8 (by kernel_rfl) (by kernel_rfl) (by kernel_rfl) (by kernel_rfl)) ?_
  intro W base args ds gs before hval0 hW hcnd _
  have hval : ∀ (j : Nat) t v, Tryz.f9.params[j]? = some t → args[j]? = some v → Value.okWide Tryz.prog W .any base t v := hval0
  have hW' := hW
  obtain ⟨p, q, hA0, hV, rfl, hfz, hnd⟩ := hW
  have hA : DataW.TrodAll enc Tryz.prog W 0 (fun _ => true) true Tryz.f9.params.toList args.toList ds p := hA0
  rw [Tryz.params9] at hA hval
  obtain ⟨v0, vs0, d0, ds0, p0, q0, hargs, rfl, rfl, h0, r0⟩ := trodAll_cons hA
  obtain ⟨v1, vs1, d1, ds1, p1, q1, rfl, rfl, rfl, h1, r1⟩ := trodAll_cons r0
  obtain ⟨v2, vs2, d2, ds2, p2, q2, rfl, rfl, rfl, h2, r2⟩ := trodAll_cons r1
  obtain ⟨rfl, rfl, rfl⟩ := trodAll_nil r2
  obtain rfl : args = #[v0, v1, v2] := by cases args; simp_all
  obtain ⟨rfl, rfl⟩ := trodVars_none hV
  obtain ⟨a0, len0, cap0, rfl⟩ := okWide_slice Tryz.underlying66 (hval 0 66 v0 rfl rfl)
  have k0 := h0
  have lt0 : ∀ x ∈ p0, x.block < W.heap.size := by obtain ⟨m, hm⟩ := k0; exact DataW.trod_lt m _ _ _ hm
  obtain ⟨z0, w0⟩ := arg_sl_u8 h0
  have k1 := h1
  have lt1 : ∀ x ∈ p1, x.block < W.heap.size := by obtain ⟨m, hm⟩ := k1; exact DataW.trod_lt m _ _ _ hm
  obtain ⟨a1, rfl, w1⟩ : ∃ a, v1 = .int .u8 a ∧ (Lit.int .u8 a).wf = true := by
    obtain ⟨a, e, _, _, wa⟩ := open_int Tryz.underlying5 (hval 1 5 v1 rfl rfl) h1
    exact ⟨a, e, wa⟩
  have k2 := h2
  have lt2 : ∀ x ∈ p2, x.block < W.heap.size := by obtain ⟨m, hm⟩ := k2; exact DataW.trod_lt m _ _ _ hm
  obtain ⟨a2, rfl, w2⟩ : ∃ a, v2 = .int .u8 a ∧ (Lit.int .u8 a).wf = true := by
    obtain ⟨a, e, _, _, wa⟩ := open_int Tryz.underlying5 (hval 2 5 v2 rfl rfl) h2
    exact ⟨a, e, wa⟩
  clear hA0 hval0
  refine (handleMoves_walk W w0 a1 w1 a2 w2).mono fun e W' ⟨he, bel⟩ => ?_
  subst he
  exact ⟨_, rfl, _, _, _, [], _, [], hW', trodAll_mk1 (shut_bool Tryz.underlying4 _), (trodAll_cons_mk (Below.trod Tryz.laidOut (by kernel_rfl) (of_decide_eq_true (by kernel_rfl)) k0 bel lt0) (trodAll_cons_mk (Below.trod Tryz.laidOut (by kernel_rfl) (of_decide_eq_true (by kernel_rfl)) k1 bel lt1) (trodAll_cons_mk (Below.trod Tryz.laidOut (by kernel_rfl) (of_decide_eq_true (by kernel_rfl)) k2 bel lt2) trodAll_mk0))), rfl, bel.frame _, fun h => by cases h⟩
theorem over : Rows.handleMovesRow.holds Tryz.pinned (OpenSpec.ofChange Rows.handleMovesSpec) :=
  OpenClaim.holds_of_wide 9 Tryz.f9 rfl rfl rfl rfl rfl rfl rfl ⟨rfl, rfl, rfl, rfl, rfl⟩ rfl rfl rfl rfl rfl (by kernel_rfl) Tryz.func9 (by kernel_rfl)
    (of_decide_eq_true (by kernel_rfl)) (by unfold Func.isWrapper; first | (rw [if_pos (by decide +kernel)]; kernel_rfl) | (rw [if_neg (by decide +kernel)]; exact ⟨rfl, rfl⟩))
    (fun os started H enc _ => lifted os started H enc)
/-- The statement. -/
theorem proved : Rows.HandleMovesSaid := over
end handleMoves

end Go.Proofs.YtbfheafpecgphaaGreat
