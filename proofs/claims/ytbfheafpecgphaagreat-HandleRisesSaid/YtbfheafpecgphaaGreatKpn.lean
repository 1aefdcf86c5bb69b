/- What a collection and a section leave as it was: words that are words, how many there are. Conditions: none. -/
import Derived.Test.YtbfheafpecgphaaGreatFlp
set_option linter.unusedSimpArgs false
set_option linter.unusedVariables false
set_option linter.unnecessarySimpa false
set_option linter.unusedSectionVars false
namespace Go.Proofs.YtbfheafpecgphaaGreat
open Go
theorem truncate_k {L L' : LogS} {s s' : Dev} (hL : LogW L) (e : L.truncate s = .ok L' s') : (U64 s → U64 s') ∧ s'.n = s.n ∧ LogW L' ∧ L'.d = L.d ∧ L'.c = L.c ∧ L'.n = 0 := by
  unfold LogS.truncate at e
  split at e
  · rename_i h; cases e; exact ⟨id, rfl, hL, rfl, rfl, h⟩
  obtain ⟨_, s1, e1, e⟩ := then_inv e
  obtain ⟨_, s2, e2, e⟩ := then_inv e
  obtain ⟨_, s3, e3, e⟩ := then_inv e
  cases e
  have h1 := hL.c.l1; have h2 := hL.c.r1
  refine ⟨fun hu => ?_, ((fence_n e3).trans (flush_n e2)).trans (store_n e1), ⟨hL.c, by simp only; omega, by simp only; omega, Int.le_refl 0, by simp only; omega⟩, rfl, rfl, rfl⟩
  exact (fence_u64 (flush_u64 (store_u64 hu (by omega) e1).1 e2).1 e3).1
theorem recN_k {c : Cfg} : ∀ (k : Nat) (s s' : Dev), recN undoS c k s = .ok () s' → (U64 s → U64 s') ∧ s'.n = s.n
  | 0, s, s', e => by cases e; exact ⟨id, rfl⟩
  | k + 1, s, s', e => by
    unfold recN at e
    obtain ⟨_, s1, e1, e⟩ := then_inv e
    unfold undoS at e1
    obtain ⟨_, s2, e2, e1⟩ := then_inv e1
    obtain ⟨_, s3, e3, e1⟩ := then_inv e1
    cases e1
    obtain ⟨g1, g2⟩ := recN_k k s1 s' e
    exact ⟨fun hu => g1 (flush_u64 (store_u64 hu (hu.load _) e2).1 e3).1, g2.trans ((flush_n e3).trans (store_n e2))⟩
theorem undo_k {L L' : LogS} {s s' : Dev} (hL : LogW L) (e : L.undo s = .ok L' s') : (U64 s → U64 s') ∧ s'.n = s.n ∧ LogW L' ∧ L'.d = L.d ∧ L'.c = L.c ∧ L'.n = 0 := by
  unfold LogS.undo at e
  obtain ⟨_, s1, e1, e⟩ := then_inv e
  obtain ⟨_, s2, e2, e⟩ := then_inv e
  obtain ⟨g1, g2⟩ := recN_k _ _ _ e1
  obtain ⟨h1, h2, h3, h4, h5, h6⟩ := truncate_k hL e
  have k : (U64 s1 → U64 s2) ∧ s2.n = s1.n := by
    split at e2
    · exact ⟨fun hu => (fence_u64 hu e2).1, fence_n e2⟩
    · cases e2; exact ⟨id, rfl⟩
  exact ⟨fun hu => h1 (k.1 (g1 hu)), (h2.trans k.2).trans g2, h3, h4, h5, h6⟩
theorem flushAll_k : ∀ (l : List Int) (s s' : Dev), flushAll l s = .ok () s' → (U64 s → U64 s') ∧ s'.n = s.n
  | [], s, s', e => by cases e; exact ⟨id, rfl⟩
  | k :: ks, s, s', e => by
    unfold flushAll at e
    obtain ⟨_, s1, e1, e⟩ := then_inv e
    obtain ⟨g1, g2⟩ := flushAll_k ks s1 s' e
    exact ⟨fun hu => g1 (flush_u64 hu e1).1, g2.trans (flush_n e1)⟩
theorem commit_k {S S' : SecS} {s s' : Dev} (hL : LogW S.L) (e : S.commit s = .ok S' s') : (U64 s → U64 s') ∧ s'.n = s.n ∧ LogW S'.L ∧ S'.L.d = S.L.d ∧ S'.L.c = S.L.c ∧ S'.L.n = 0 := by
  unfold SecS.commit at e
  obtain ⟨_, s1, e1, e⟩ := then_inv e
  obtain ⟨_, s2, e2, e⟩ := then_inv e
  obtain ⟨_, s3, e3, e⟩ := then_inv e
  cases e
  obtain ⟨g1, g2⟩ := flushAll_k _ _ _ e1
  obtain ⟨h1, h2, h3, h4, h5, h6⟩ := truncate_k hL e3
  have k : (U64 s1 → U64 s2) ∧ s2.n = s1.n := by
    split at e2
    · exact ⟨fun hu => (fence_u64 hu e2).1, fence_n e2⟩
    · cases e2; exact ⟨id, rfl⟩
  exact ⟨fun hu => h1 (k.1 (g1 hu)), (h2.trans k.2).trans g2, h3, h4, h5, h6⟩
theorem abort_k {S S' : SecS} {s s' : Dev} (hL : LogW S.L) (e : S.abort s = .ok S' s') : (U64 s → U64 s') ∧ s'.n = s.n ∧ LogW S'.L ∧ S'.L.d = S.L.d ∧ S'.L.c = S.L.c ∧ S'.L.n = 0 := by
  unfold SecS.abort at e
  obtain ⟨_, s1, e1, e⟩ := then_inv e
  cases e
  exact undo_k hL e1
theorem writeN_k : ∀ (l : List Int) (i : Int) (S S' : SecS) (s s' : Dev) (a : Int), (∀ v ∈ l, 0 ≤ v ∧ v < 18446744073709551616) → SecW S → U64 s → s.n ≤ 1000000 → writeN secOp l i s S = .ok (a, S') s' → U64 s' ∧ s'.n = s.n ∧ LogW S'.L ∧ S'.L.d = S.L.d ∧ S'.L.c = S.L.c
  | [], i, S, S', s, s', a, _, hS, hu, _, e => by cases e; exact ⟨hu, rfl, hS.L, rfl, rfl⟩
  | v :: vs, i, S, S', s, s', a, hv, hS, hu, hn, e => by
    unfold writeN at e
    split at e
    · exact writeN_k vs _ _ _ _ _ _ (fun v hv' => hv v (List.mem_cons_of_mem _ hv')) hS hu hn e
    · obtain ⟨⟨x, S1⟩, s1, e1, e⟩ := then_inv e
      have h1 := sstore_u64 hS hu hn (hv v (List.mem_cons_self ..)) e1
      have h2 := store_lw hS.L e1
      have h3 := store_dc e1
      have h4 : SecW S1 := store_w hS hn (by have := (act_b hS.L.c).1; omega) e1 h2
      split at e
      · cases e; exact ⟨h1.1, h1.2, h2, h3.1, h3.2.1⟩
      · obtain ⟨g1, g2, g3, g4, g5⟩ := writeN_k vs _ _ _ _ _ _ (fun v hv' => hv v (List.mem_cons_of_mem _ hv')) h4 h1.1 (by rw [h1.2]; exact hn) e
        exact ⟨g1, g2.trans h1.2, g3, g4.trans h3.1, g5.trans h3.2.1⟩
theorem fresh_w {S : SecS} (h : LogW S.L) (f t : Int) : SecW (S.fresh f t) := ⟨h, fun p hp => (List.not_mem_nil (show p ∈ ([] : List (Int × Unit)) from hp)).elim⟩
theorem flip_k {c : Cfg} {b : Blk} {S S' : SecS} {s s' : Dev} {a : Int} (hb : ∀ v ∈ b.act :: b.used :: b.rts, 0 ≤ v ∧ v < 18446744073709551616) (hL : LogW S.L) (hu : U64 s) (hn : s.n ≤ 1000000) (e : flipM c b S s = .ok (a, S') s') : U64 s' ∧ s'.n = s.n ∧ LogW S'.L ∧ S'.L.d = S.L.d ∧ S'.L.c = S.L.c ∧ S'.L.n = 0 := by
  unfold flipM writeM at e
  obtain ⟨⟨x, S1⟩, s1, e1, e⟩ := then_inv e
  obtain ⟨g1, g2, g3, g4, g5⟩ := writeN_k _ _ _ _ _ _ _ hb (fresh_w hL 0 0) hu hn e1
  split at e
  · obtain ⟨S2, s2, e2, e⟩ := then_inv e
    cases e
    obtain ⟨h1, h2, h3, h4, h5, h6⟩ := abort_k g3 e2
    exact ⟨h1 g1, h2.trans g2, h3, h4.trans g4, h5.trans g5, h6⟩
  · obtain ⟨S2, s2, e2, e⟩ := then_inv e
    cases e
    obtain ⟨h1, h2, h3, h4, h5, h6⟩ := commit_k g3 e2
    exact ⟨h1 g1, h2.trans g2, h3, h4.trans g4, h5.trans g5, h6⟩
theorem colblk_w {X : ColS} (h : ColW X) : ∀ v ∈ X.block.act :: X.block.used :: X.block.rts, 0 ≤ v ∧ v < 18446744073709551616 := fun v hv => by
  have h1 := h.b.act; have h2 := h.free; have h3 := h.fb; have h4 := h.to_
  simp only [List.mem_cons] at hv
  rcases hv with rfl | rfl | hv
  · simp only [ColS.block]; omega
  · simp only [ColS.block]; omega
  · obtain ⟨u, _, rfl⟩ := List.mem_map.1 hv
    have := h.vb u
    omega
theorem collect_k {bd : Nat} {c : Cfg} {S : SecS} {s s' : Dev} {ws : List Int} {r : Option ColS × Int × SecS} (hc : CfgW c) (hw : ∀ v ∈ ws, 0 ≤ v ∧ v < 18446744073709551616) (hL : LogW S.L) (hu : U64 s) (hn : s.n ≤ 1000000) (hL0 : S.L.n = 0) (e : collectM bd c S s ws = .ok r s') : U64 s' ∧ s'.n = s.n ∧ LogW r.2.2.L ∧ r.2.2.L.d = S.L.d ∧ r.2.2.L.c = S.L.c ∧ r.2.2.L.n = 0 ∧ (∀ X, r.1 = some X → ColW X) := by
  unfold collectM at e
  split at e
  · cases e; exact ⟨hu, rfl, hL, rfl, rfl, hL0, fun _ h => by cases h⟩
  obtain ⟨X, s1, e1, e⟩ := then_inv e
  have hX0 : ColW (newCol bd c (s.block c).1 ((s.block c).1.rts ++ ws)) := newCol_w hc (block_w hc hu) (block_len hc) (block_rts hu) fun v hv => by
    rcases List.mem_append.1 hv with hv | hv
    · exact block_rts hu v hv
    · exact hw v hv
  obtain ⟨hX, u1, _⟩ := runN_w _ _ _ _ _ hX0 hu e1
  have n1 := run_n e1
  obtain ⟨⟨a, S2⟩, s2, e2, e⟩ := then_inv e
  obtain ⟨g1, g2, g3, g4, g5, g6⟩ := flip_k (colblk_w hX) hL u1 (by rw [n1]; exact hn) e2
  split at e
  · cases e; exact ⟨g1, g2.trans n1, g3, g4, g5, g6, fun _ h => by cases h⟩
  · cases e; exact ⟨g1, g2.trans n1, g3, g4, g5, g6, fun X' h => by cases h; exact hX⟩
end Go.Proofs.YtbfheafpecgphaaGreat
