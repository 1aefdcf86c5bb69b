/- Part of the texts beneath a law: what its proof names. Conditions: none. -/
import Derived.Test.YtbfheafpecgphaaGreatQL15Ck
set_option linter.unusedSimpArgs false
set_option linter.unusedVariables false
set_option linter.unnecessarySimpa false
set_option linter.unusedSectionVars false
namespace Go.Proofs.YtbfheafpecgphaaGreat
open Go
theorem truncate_k {L L' : LogS} {s s' : Dev} (hL : LogW L) (e : L.truncate s = .ok L' s') : (U64 s → U64 s') ∧ s'.n = s.n ∧ LogW L' ∧ L'.d = L.d ∧ L'.c = L.c ∧ L'.n = 0 := by
  unfold LogS.truncate at e
  split at e
  · rename_i h; cases e; exact ⟨id, rfl, hL, rfl, rfl, h⟩
  obtain ⟨_, s1, e1, e⟩ := then_inv e
  obtain ⟨_, s2, e2, e⟩ := then_inv e
  obtain ⟨_, s3, e3, e⟩ := then_inv e
  cases e
  have h1 := hL.c.l1; have h2 := hL.c.r1
  refine ⟨fun hu => ?_, ((fence_n e3).trans (flush_n e2)).trans (store_n e1), ⟨hL.c, by simp only; omega, by simp only; omega, Int.le_refl 0, by simp only; omega⟩, rfl, rfl, rfl⟩
  exact (fence_u64 (flush_u64 (store_u64 hu (by omega) e1).1 e2).1 e3).1
theorem recN_k {c : Cfg} : ∀ (k : Nat) (s s' : Dev), recN undoS c k s = .ok () s' → (U64 s → U64 s') ∧ s'.n = s.n
  | 0, s, s', e => by cases e; exact ⟨id, rfl⟩
  | k + 1, s, s', e => by
    unfold recN at e
    obtain ⟨_, s1, e1, e⟩ := then_inv e
    unfold undoS at e1
    obtain ⟨_, s2, e2, e1⟩ := then_inv e1
    obtain ⟨_, s3, e3, e1⟩ := then_inv e1
    cases e1
    obtain ⟨g1, g2⟩ := recN_k k s1 s' e
    exact ⟨fun hu => g1 (flush_u64 (store_u64 hu (hu.load _) e2).1 e3).1, g2.trans ((flush_n e3).trans (store_n e2))⟩
theorem undo_k {L L' : LogS} {s s' : Dev} (hL : LogW L) (e : L.undo s = .ok L' s') : (U64 s → U64 s') ∧ s'.n = s.n ∧ LogW L' ∧ L'.d = L.d ∧ L'.c = L.c ∧ L'.n = 0 := by
  unfold LogS.undo at e
  obtain ⟨_, s1, e1, e⟩ := then_inv e
  obtain ⟨_, s2, e2, e⟩ := then_inv e
  obtain ⟨g1, g2⟩ := recN_k _ _ _ e1
  obtain ⟨h1, h2, h3, h4, h5, h6⟩ := truncate_k hL e
  have k : (U64 s1 → U64 s2) ∧ s2.n = s1.n := by
    split at e2
    · exact ⟨fun hu => (fence_u64 hu e2).1, fence_n e2⟩
    · cases e2; exact ⟨id, rfl⟩
  exact ⟨fun hu => h1 (k.1 (g1 hu)), (h2.trans k.2).trans g2, h3, h4, h5, h6⟩
theorem flushAll_k : ∀ (l : List Int) (s s' : Dev), flushAll l s = .ok () s' → (U64 s → U64 s') ∧ s'.n = s.n
  | [], s, s', e => by cases e; exact ⟨id, rfl⟩
  | k :: ks, s, s', e => by
    unfold flushAll at e
    obtain ⟨_, s1, e1, e⟩ := then_inv e
    obtain ⟨g1, g2⟩ := flushAll_k ks s1 s' e
    exact ⟨fun hu => g1 (flush_u64 hu e1).1, g2.trans (flush_n e1)⟩
theorem commit_k {S S' : SecS} {s s' : Dev} (hL : LogW S.L) (e : S.commit s = .ok S' s') : (U64 s → U64 s') ∧ s'.n = s.n ∧ LogW S'.L ∧ S'.L.d = S.L.d ∧ S'.L.c = S.L.c ∧ S'.L.n = 0 := by
  unfold SecS.commit at e
  obtain ⟨_, s1, e1, e⟩ := then_inv e
  obtain ⟨_, s2, e2, e⟩ := then_inv e
  obtain ⟨_, s3, e3, e⟩ := then_inv e
  cases e
  obtain ⟨g1, g2⟩ := flushAll_k _ _ _ e1
  obtain ⟨h1, h2, h3, h4, h5, h6⟩ := truncate_k hL e3
  have k : (U64 s1 → U64 s2) ∧ s2.n = s1.n := by
    split at e2
    · exact ⟨fun hu => (fence_u64 hu e2).1, fence_n e2⟩
    · cases e2; exact ⟨id, rfl⟩
  exact ⟨fun hu => h1 (k.1 (g1 hu)), (h2.trans k.2).trans g2, h3, h4, h5, h6⟩
theorem abort_k {S S' : SecS} {s s' : Dev} (hL : LogW S.L) (e : S.abort s = .ok S' s') : (U64 s → U64 s') ∧ s'.n = s.n ∧ LogW S'.L ∧ S'.L.d = S.L.d ∧ S'.L.c = S.L.c ∧ S'.L.n = 0 := by
  unfold SecS.abort at e
  obtain ⟨_, s1, e1, e⟩ := then_inv e
  cases e
  exact undo_k hL e1
theorem writeN_k : ∀ (l : List Int) (i : Int) (S S' : SecS) (s s' : Dev) (a : Int), (∀ v ∈ l, 0 ≤ v ∧ v < 18446744073709551616) → SecW S → U64 s → s.n ≤ 1000000 → writeN secOp l i s S = .ok (a, S') s' → U64 s' ∧ s'.n = s.n ∧ LogW S'.L ∧ S'.L.d = S.L.d ∧ S'.L.c = S.L.c
  | [], i, S, S', s, s', a, _, hS, hu, _, e => by cases e; exact ⟨hu, rfl, hS.L, rfl, rfl⟩
  | v :: vs, i, S, S', s, s', a, hv, hS, hu, hn, e => by
    unfold writeN at e
    split at e
    · exact writeN_k vs _ _ _ _ _ _ (fun v hv' => hv v (List.mem_cons_of_mem _ hv')) hS hu hn e
    · obtain ⟨⟨x, S1⟩, s1, e1, e⟩ := then_inv e
      have h1 := sstore_u64 hS hu hn (hv v (List.mem_cons_self ..)) e1
      have h2 := store_lw hS.L e1
      have h3 := store_dc e1
      have h4 : SecW S1 := store_w hS hn (by have := (act_b hS.L.c).1; omega) e1 h2
      split at e
      · cases e; exact ⟨h1.1, h1.2, h2, h3.1, h3.2.1⟩
      · obtain ⟨g1, g2, g3, g4, g5⟩ := writeN_k vs _ _ _ _ _ _ (fun v hv' => hv v (List.mem_cons_of_mem _ hv')) h4 h1.1 (by rw [h1.2]; exact hn) e
        exact ⟨g1, g2.trans h1.2, g3, g4.trans h3.1, g5.trans h3.2.1⟩
theorem fresh_w {S : SecS} (h : LogW S.L) (f t : Int) : SecW (S.fresh f t) := ⟨h, fun p hp => (List.not_mem_nil (show p ∈ ([] : List (Int × Unit)) from hp)).elim⟩
theorem flip_k {c : Cfg} {b : Blk} {S S' : SecS} {s s' : Dev} {a : Int} (hb : ∀ v ∈ b.act :: b.used :: b.rts, 0 ≤ v ∧ v < 18446744073709551616) (hL : LogW S.L) (hu : U64 s) (hn : s.n ≤ 1000000) (e : flipM c b S s = .ok (a, S') s') : U64 s' ∧ s'.n = s.n ∧ LogW S'.L ∧ S'.L.d = S.L.d ∧ S'.L.c = S.L.c ∧ S'.L.n = 0 := by
  unfold flipM writeM at e
  obtain ⟨⟨x, S1⟩, s1, e1, e⟩ := then_inv e
  obtain ⟨g1, g2, g3, g4, g5⟩ := writeN_k _ _ _ _ _ _ _ hb (fresh_w hL 0 0) hu hn e1
  split at e
  · obtain ⟨S2, s2, e2, e⟩ := then_inv e
    cases e
    obtain ⟨h1, h2, h3, h4, h5, h6⟩ := abort_k g3 e2
    exact ⟨h1 g1, h2.trans g2, h3, h4.trans g4, h5.trans g5, h6⟩
  · obtain ⟨S2, s2, e2, e⟩ := then_inv e
    cases e
    obtain ⟨h1, h2, h3, h4, h5, h6⟩ := commit_k g3 e2
    exact ⟨h1 g1, h2.trans g2, h3, h4.trans g4, h5.trans g5, h6⟩
theorem colblk_w {X : ColS} (h : ColW X) : ∀ v ∈ X.block.act :: X.block.used :: X.block.rts, 0 ≤ v ∧ v < 18446744073709551616 := fun v hv => by
  have h1 := h.b.act; have h2 := h.free; have h3 := h.fb; have h4 := h.to_
  simp only [List.mem_cons] at hv
  rcases hv with rfl | rfl | hv
  · simp only [ColS.block]; omega
  · simp only [ColS.block]; omega
  · obtain ⟨u, _, rfl⟩ := List.mem_map.1 hv
    have := h.vb u
    omega
theorem collect_k {bd : Nat} {c : Cfg} {S : SecS} {s s' : Dev} {ws : List Int} {r : Option ColS × Int × SecS} (hc : CfgW c) (hw : ∀ v ∈ ws, 0 ≤ v ∧ v < 18446744073709551616) (hL : LogW S.L) (hu : U64 s) (hn : s.n ≤ 1000000) (hL0 : S.L.n = 0) (e : collectM bd c S s ws = .ok r s') : U64 s' ∧ s'.n = s.n ∧ LogW r.2.2.L ∧ r.2.2.L.d = S.L.d ∧ r.2.2.L.c = S.L.c ∧ r.2.2.L.n = 0 ∧ (∀ X, r.1 = some X → ColW X) := by
  unfold collectM at e
  split at e
  · cases e; exact ⟨hu, rfl, hL, rfl, rfl, hL0, fun _ h => by cases h⟩
  obtain ⟨X, s1, e1, e⟩ := then_inv e
  have hX0 : ColW (newCol bd c (s.block c).1 ((s.block c).1.rts ++ ws)) := newCol_w hc (block_w hc hu) (block_len hc) (block_rts hu) fun v hv => by
    rcases List.mem_append.1 hv with hv | hv
    · exact block_rts hu v hv
    · exact hw v hv
  obtain ⟨hX, u1, _⟩ := runN_w _ _ _ _ _ hX0 hu e1
  have n1 := run_n e1
  obtain ⟨⟨a, S2⟩, s2, e2, e⟩ := then_inv e
  obtain ⟨g1, g2, g3, g4, g5, g6⟩ := flip_k (colblk_w hX) hL u1 (by rw [n1]; exact hn) e2
  split at e
  · cases e; exact ⟨g1, g2.trans n1, g3, g4, g5, g6, fun _ h => by cases h⟩
  · cases e; exact ⟨g1, g2.trans n1, g3, g4, g5, g6, fun X' h => by cases h; exact hX⟩
end Go.Proofs.YtbfheafpecgphaaGreat
namespace Go.Proofs.YtbfheafpecgphaaGreat
open Go
structure Still (s : Dev) : Prop where
  lim : s.pow.lim < 0
  q : s.q = fun _ => none
@[irreducible] def Dev.sv (s : Dev) (i : Nat) (v : Int) : Dev := s.up.st i v
@[irreducible] def Dev.ff (s : Dev) (i : Nat) : Dev := (s.up.fl i).up.fe
theorem sv_then {α : Type} {s : Dev} {i v : Int} {k : Int → Dev → Out α} (h : s.pow.lim < 0) (hi : 0 ≤ i ∧ i < s.n) : (s.store i v).then k = k 0 (s.sv i.toNat v) := by rw [store_ne h hi, then_ok]; unfold Dev.sv; rfl
theorem ff_then {α : Type} {s : Dev} {i : Int} {k : Unit → Dev → Out α} (h : s.pow.lim < 0) (hi : 0 ≤ i ∧ i < s.n) : ((s.flush i).then fun _ s => s.fence.then k) = k () (s.ff i.toNat) := by rw [flush_ne h hi, then_ok, fence_ne (s := s.up.fl i.toNat) h, then_ok]; unfold Dev.ff; rfl
theorem sv_lim (s : Dev) (i : Nat) (v : Int) : (s.sv i v).pow.lim = s.pow.lim := by unfold Dev.sv; rfl
theorem sv_n (s : Dev) (i : Nat) (v : Int) : (s.sv i v).n = s.n := by unfold Dev.sv; rfl
theorem sv_now (s : Dev) (i : Nat) (v : Int) : (s.sv i v).now = upd s.now i v := by unfold Dev.sv; rfl
theorem ff_n (s : Dev) (i : Nat) : (s.ff i).n = s.n := by unfold Dev.ff; rfl
theorem ff_now (s : Dev) (i : Nat) : (s.ff i).now = s.now := by unfold Dev.ff; rfl
@[irreducible] def Dev.fq (s : Dev) (i : Nat) : Dev := s.up.fl i
@[irreducible] def Dev.fn (s : Dev) : Dev := s.up.fe
theorem fq_then {α : Type} {s : Dev} {i : Int} {k : Int → Dev → Out α} (h : s.pow.lim < 0) (hi : 0 ≤ i ∧ i < s.n) : (s.flush i).then k = k 0 (s.fq i.toNat) := by rw [flush_ne h hi, then_ok]; unfold Dev.fq; rfl
theorem fn_then {α : Type} {s : Dev} {k : Unit → Dev → Out α} (h : s.pow.lim < 0) : s.fence.then k = k () s.fn := by rw [fence_ne h, then_ok]; unfold Dev.fn; rfl
theorem fq_lim (s : Dev) (i : Nat) : (s.fq i).pow.lim = s.pow.lim := by unfold Dev.fq; rfl
theorem fq_n (s : Dev) (i : Nat) : (s.fq i).n = s.n := by unfold Dev.fq; rfl
theorem fq_now (s : Dev) (i : Nat) : (s.fq i).now = s.now := by unfold Dev.fq; rfl
theorem fq_pk (s : Dev) (i x : Nat) : (s.fq i).pk x = if x / 8 = i / 8 then s.now x else s.pk x := by unfold Dev.fq; exact pk_flush s i x
theorem sv_pk (s : Dev) (i : Nat) (v : Int) (x : Nat) : (s.sv i v).pk x = s.pk x := by unfold Dev.sv; rfl
theorem fn_lim (s : Dev) : s.fn.pow.lim = s.pow.lim := by unfold Dev.fn; rfl
theorem fn_n (s : Dev) : s.fn.n = s.n := by unfold Dev.fn; rfl
theorem fn_now (s : Dev) : s.fn.now = s.now := by unfold Dev.fn; rfl
theorem still_pk {s : Dev} (h : s.q = fun _ => none) (x : Nat) : s.pk x = s.kept x := by simp only [Dev.pk, fkept, h]
theorem load_nat {s : Dev} {i : Int} {k : Nat} (h : (k : Int) = i) (hk : k < s.n) : s.load i = s.now k := by
  subst h
  have : s.has (k : Int) = true := by simp [Dev.has, hk]
  simp only [Dev.load, this, if_true, Int.toNat_natCast]
theorem trunc_ne {L : LogS} {s : Dev} (hl : s.pow.lim < 0) (hn : 16 ≤ s.n) (h0 : L.n ≠ 0) : L.truncate s = .ok { L with epoch := (L.epoch + 1) % 4294967296, n := 0 } ((s.sv 8 ((L.epoch + 1) % 4294967296)).ff 8) := by
  unfold LogS.truncate
  rw [if_neg h0, sv_then hl (by omega)]
  rw [ff_then (by rw [sv_lim]; exact hl) (by rw [sv_n]; omega)]
  rfl
theorem recN_ne {c : Cfg} {js : Nat → Nat} {old : Nat → Int} (hc : CfgW c) : ∀ (k : Nat) (s : Dev), s.pow.lim < 0 → s.n ≤ 1000000 → (k : Int) ≤ c.log → c.active ≤ s.n →
    (∀ j, j < k → s.now (16 + 4 * j + 1) = js j ∧ s.now (16 + 4 * j + 2) = old (js j) ∧ c.active ≤ js j ∧ js j < s.n) →
    ∃ s', recN undoS c k s = .ok () s' ∧ s'.pow.lim < 0 ∧ s'.n = s.n ∧ (∀ x, s'.now x = if (∃ j, j < k ∧ js j = x) then old x else s.now x) ∧ (∀ x, s'.pk x = if (∃ j, j < k ∧ js j / 8 = x / 8) then s'.now x else s.pk x)
  | 0, s, hl, _, _, _, _ => ⟨s, rfl, hl, rfl, fun x => by rw [if_neg (by rintro ⟨j, h, _⟩; omega)], fun x => by rw [if_neg (by rintro ⟨j, h, _⟩; omega)]⟩
  | k + 1, s, hl, hN, hk, hA, hr => by
    have hact := hc.act
    obtain ⟨r1, r2, r3, r4⟩ := hr k (by omega)
    have l1 : s.load (c.record k + 1) = js k := by rw [load_nat (k := 16 + 4 * k + 1) (by simp only [Cfg.record]; omega) (by omega), r1]
    have l2 : s.load (c.record k + 2) = old (js k) := by rw [load_nat (k := 16 + 4 * k + 2) (by simp only [Cfg.record]; omega) (by omega), r2]
    have e : recN undoS c (k + 1) s = recN undoS c k ((s.sv (js k) (old (js k))).fq (js k)) := by
      simp only [recN]
      rw [l1, l2, wr64 (by omega)]
      unfold undoS
      rw [sv_then hl (by omega), fq_then (by rw [sv_lim]; exact hl) (by rw [sv_n]; omega)]
      rfl
    rw [e]
    obtain ⟨s', e1, e2, e3, e4, e5⟩ := recN_ne (js := js) (old := old) hc k ((s.sv (js k) (old (js k))).fq (js k)) (by rw [fq_lim, sv_lim]; exact hl) (by rw [fq_n, sv_n]; exact hN) (by omega) (by rw [fq_n, sv_n]; exact hA) (fun j hj => by
      obtain ⟨q1, q2, q3, q4⟩ := hr j (by omega)
      rw [fq_now, sv_now, fq_n, sv_n]
      simp only [upd]
      rw [if_neg (by omega), if_neg (by omega)]
      exact ⟨q1, q2, q3, q4⟩)
    refine ⟨s', e1, e2, by rw [e3, fq_n, sv_n], fun x => ?_, fun x => ?_⟩
    · rw [e4, fq_now, sv_now]
      by_cases h1 : ∃ j, j < k ∧ js j = x
      · obtain ⟨j, hj, hx⟩ := h1
        rw [if_pos ⟨j, hj, hx⟩, if_pos ⟨j, by omega, hx⟩]
      · rw [if_neg h1]
        by_cases h2 : x = js k
        · rw [if_pos ⟨k, by omega, h2.symm⟩]; simp only [upd, if_pos h2]; rw [h2]
        · rw [if_neg]
          · simp only [upd, if_neg h2]
          · rintro ⟨j, hj, hx⟩
            rcases Nat.lt_succ_iff_lt_or_eq.1 hj with h | h
            · exact h1 ⟨j, h, hx⟩
            · subst h; exact h2 hx.symm
    · rw [e5, fq_pk, sv_pk]
      by_cases h1 : ∃ j, j < k ∧ js j / 8 = x / 8
      · obtain ⟨j, hj, hx⟩ := h1
        rw [if_pos ⟨j, hj, hx⟩, if_pos ⟨j, by omega, hx⟩]
      · rw [if_neg h1]
        by_cases h2 : x / 8 = js k / 8
        · rw [if_pos h2, if_pos ⟨k, by omega, h2.symm⟩, e4, fq_now, if_neg]
          rintro ⟨j, hj, hx⟩
          exact h1 ⟨j, hj, by rw [hx]⟩
        · rw [if_neg h2, if_neg]
          rintro ⟨j, hj, hx⟩
          rcases Nat.lt_succ_iff_lt_or_eq.1 hj with h | h
          · exact h1 ⟨j, h, hx⟩
          · subst h; exact h2 hx.symm
def LogS.shut (L : LogS) : LogS := if L.n = 0 then L else { L with epoch := (L.epoch + 1) % 4294967296, n := 0 }
def Shut0 (L : LogS) (s : Dev) : Prop := s.now 8 = L.epoch ∧ s.now 16 ≠ stampI L.epoch 0
theorem shut0_open {L : LogS} {s : Dev} {d : Nat} (h : Shut0 L s) (hL : LogW L) (hn : 24 ≤ s.n) : openL d L.c s = ⟨d, L.c, L.epoch, 0⟩ := by
  have e8 : s.load 8 = L.epoch := by rw [load_nat (i := 8) (k := 8) rfl (by omega), h.1]
  have e16 : s.load (L.c.record 0) = s.now 16 := load_nat (i := L.c.record 0) (k := 16) rfl (by omega)
  have e1 := hL.e1
  have e2 := hL.e2
  unfold openL
  rw [e8, Int.emod_eq_of_lt e1 e2, openN_zero (by rw [e16]; exact h.2)]
theorem mset_keyI {α : Type} {k k' : Int} {a : α} : ∀ {l : List (Int × α)}, k' ∈ (mset l k a).map Prod.fst ↔ k' = k ∨ k' ∈ l.map Prod.fst
  | [] => by simp [mset]
  | p :: l => by
    simp only [mset]
    split
    · rename_i h
      simp only [List.map_cons, List.mem_cons, h]
      constructor
      · rintro (h1 | h1)
        · exact .inl h1
        · exact .inr (.inr h1)
      · rintro (h1 | h1 | h1)
        · exact .inl h1
        · exact .inl h1
        · exact .inr h1
    · simp only [List.map_cons, List.mem_cons, mset_keyI (l := l)]
      constructor
      · rintro (h1 | h1 | h1)
        · exact .inr (.inl h1)
        · exact .inl h1
        · exact .inr (.inr h1)
      · rintro (h1 | h1 | h1)
        · exact .inr (.inl h1)
        · exact .inl h1
        · exact .inr (.inr h1)
theorem act_le {c : Cfg} (hc : CfgW c) : c.active ≤ c.words := by
  have hact := hc.act
  have hc1 := hc.r1
  have hc3 := hc.l1
  have h1 := lines_b (n := c.root c.roots) (by simp only [Cfg.root]; omega)
  have h2 := lines_b (n := c.space) (by have := hc.s1; omega)
  have := hc.s1
  simp only [Cfg.words, Cfg.frm, Cfg.root] at *
  omega
theorem act_w {c : Cfg} (hc : CfgW c) : 24 ≤ c.active ∧ c.active < c.words ∧ c.words ≤ 20000 := by
  have h1 := hc.act
  have h2 := words_b hc
  have := hc.r1
  have := hc.l1
  have h3 := lines_b (n := c.root c.roots) (by simp only [Cfg.root]; omega)
  have h4 := lines_b (n := c.space) (by have := hc.s1; omega)
  have := hc.s1
  refine ⟨by omega, ?_, by omega⟩
  simp only [Cfg.words, Cfg.frm, Cfg.root] at *
  omega
end Go.Proofs.YtbfheafpecgphaaGreat
namespace Go.Proofs.YtbfheafpecgphaaGreat
open Go
structure SK (c : Cfg) (N bd : Nat) (S : SecS) (s : Dev) : Prop where
  still : Still s
  u : U64 s
  n : s.n = N
  hN : (N : Int) = c.words
  lc : S.L.c = c
  lw : LogW S.L
  ln : S.L.n = 0
  ld : S.L.d = bd
  sh : Shut0 S.L s
theorem flip_block {c : Cfg} (hc : CfgW c) {N : Nat} {s s' : Dev} {b : Blk} (hn : s'.n = N) (hN : (N : Int) = c.words) (hl : (b.rts.length : Int) = c.roots) (hb : BlkW c b) (h : ∀ x : Nat, c.active ≤ x → s'.now x = if (x : Int) < c.active + 2 + c.roots then (b.act :: b.used :: b.rts).getD (x - c.active.toNat) 0 else s.now x) : s'.block c = (b, 0) := by
  have hA := act_w hc
  have hf := frm_b hc (k := 0) (by omega)
  have hr := hc.r1
  have hld : ∀ k : Nat, (k : Int) < 2 + c.roots → s'.load (c.active + k) = (b.act :: b.used :: b.rts).getD k 0 := fun k hk => by
    rw [load_nat (k := c.active.toNat + k) (by omega) (by omega), h _ (by omega), if_pos (by omega)]
    congr 1; omega
  have h0 := hld 0 (by omega)
  have h1 := hld 1 (by omega)
  simp only [Int.ofNat_zero, Int.add_zero] at h0
  have hba := hb.act; have hbu := hb.used
  unfold Dev.block
  rw [show c.active + 1 = c.active + ((1 : Nat) : Int) from rfl, h1, show s'.load c.active = b.act from by simpa using h0]
  have e1 : (b.act :: b.used :: b.rts).getD 1 0 = b.used := rfl
  rw [e1, if_neg (by omega)]
  congr 1
  cases b with
  | mk a u r =>
    congr 1
    simp only at hl hld
    apply List.ext_getElem
    · rw [tab_len]; omega
    · intro i h2 h3
      rw [tab_len] at h2
      have h4 := hld (i + 2) (by omega)
      have h5 : (tab c.roots.toNat fun i => s'.load (c.root i))[i] = s'.load (c.root i) := by
        have : (tab c.roots.toNat fun i => s'.load (c.root i)) = (List.range c.roots.toNat).map fun (i : Nat) => s'.load (c.root i) := rfl
        simp [this]
      rw [h5]
      simp only [Cfg.root]
      rw [show c.active + 2 + (i : Int) = c.active + ((i + 2 : Nat) : Int) by omega, h4]
      simp [List.getD_eq_getElem?_getD, List.getElem?_eq_getElem h3]
theorem GcH.lo0 {c : Cfg} {b : Blk} {m0 : Int → Int} {L : List Int} {lo hi : Int} (G : GcH c b m0 L lo hi) : c.frm 0 ≤ lo := by
  have h1 := G.hb.act
  have hs1 := G.hc.s1
  have h5 := lines_b (n := c.space) (by omega)
  rw [G.lo_]
  rcases (by omega : b.act = 0 ∨ b.act = 1) with e | e
  · rw [e]; simp [Cfg.frm]; omega
  · rw [e]; simp
theorem linked_sk {c : Cfg} (hc : CfgW c) {N : Nat} (hN : (N : Int) = c.words) {s0 sF s1 s2 : Dev} (h : Fmt c N s0) (hu : U64 s0) {hs : List (Int × Int)} (hhs : ∀ h ∈ hs, (0 ≤ h.1 ∧ h.1 < 256) ∧ (0 ≤ h.2 ∧ h.2 < 256)) {out : List Int} (e : fillN c hs s0 [] = .ok out sF) (l : List Int) {n1 n2 : Nat}
    (e1 : linkObjs c (sF.block c).1 (pickL l out 0) out 0 sF = .ok (some n1) s1) (e2 : linkRoots c (pickL l out 0) c.roots.toNat n1 0 s1 = .ok n2 s2) (bd : Nat) : (∃ u, Fi c N s0.kept s2 out u) ∧ SK c N bd ⟨openL bd c s2, 0, 0, [], []⟩ s2 := by
  obtain ⟨u, m1, m2, t1, t2, k1, k2, k3⟩ := linked_heap hc hN h hu hhs e l
  rw [e1] at k1
  cases k1
  rw [e2] at k2
  cases k2
  have hA := act_w hc
  have hlw : LogW ⟨bd, c, 1, 0⟩ := ⟨hc, by show (0 : Int) ≤ 1; omega, by show (1 : Int) < 4294967296; omega, by show (0 : Int) ≤ 0; omega, by show (0 : Int) ≤ c.log; have := hc.l1; have := hc.r1; omega⟩
  have hsh : Shut0 ⟨bd, c, 1, 0⟩ s2 := ⟨by rw [k3.h.low 8 (by omega), h.calm.kept]; exact h.ep.1, by rw [k3.h.low 16 (by omega), h.calm.kept, h.ep.2]; show (0 : Int) ≠ stampI 1 0; decide⟩
  have ho := shut0_open (d := bd) hsh hlw (by rw [k3.h.n]; omega)
  simp only at ho
  refine ⟨⟨u, k3⟩, ?_⟩
  rw [ho]
  exact ⟨⟨k3.h.lim, k3.h.q⟩, k3.h.u, k3.h.n, hN, rfl, hlw, rfl, rfl, hsh⟩
theorem linked_not {c : Cfg} (hc : CfgW c) {N : Nat} (hN : (N : Int) = c.words) {s0 sF s1 : Dev} (h : Fmt c N s0) (hu : U64 s0) {hs : List (Int × Int)} (hhs : ∀ h ∈ hs, (0 ≤ h.1 ∧ h.1 < 256) ∧ (0 ≤ h.2 ∧ h.2 < 256)) {out : List Int} (e : fillN c hs s0 [] = .ok out sF) (l : List Int)
    (e1 : linkObjs c (sF.block c).1 (pickL l out 0) out 0 sF = .ok none s1) : False := by
  obtain ⟨u, m1, m2, t1, t2, k1, k2, k3⟩ := linked_heap hc hN h hu hhs e l
  rw [e1] at k1; cases k1
theorem OutP.lim {α : Type} {m : Out α} {ok : α → Dev → Prop} {J : Dev → Prop} (h : OutP m ok (OffJ J)) (hl : ∀ s, J s → s.pow.lim < 0) : ∃ a s, m = .ok a s ∧ ok a s := by
  cases m with
  | ok a s => exact ⟨a, s, rfl, h⟩
  | off s =>
    have h1 := hl s h.1
    have h2 := h.2
    unfold Pow.out at h2
    simp at h2; omega
end Go.Proofs.YtbfheafpecgphaaGreat
namespace Go.Proofs.YtbfheafpecgphaaGreat
open Go
def namesM (c : Cfg) (b : Blk) (ml : List (Int × Obj3)) (v : Int) : Bool := v == 0 || (b.has c v && (mget ml v).isSome)
def refsM (s : Dev) (nf : Int → Bool) (o : Obj3) : Bool := (List.range o.2.1.toNat).all fun k => nf (s.load (o.2.2 + 1 + (k : Int)))
def stC (s : Dev) (nf : Int → Bool) (p : Obj3 × Int) (x : Int) : Bool × Int := if refsM s nf p.1 = true then (true, x) else (false, 9)
def Dev.check (s : Dev) (c : Cfg) : Int :=
  if (s.block c).2 ≠ 0 then (s.block c).2
  else if (s.starts c (s.block c).1).2 ≠ 0 then (s.starts c (s.block c).1).2
  else if (s.block c).1.rts.all (namesM c (s.block c).1 (s.starts c (s.block c).1).1) = true then
    (itl (stC s (namesM c (s.block c).1 (s.starts c (s.block c).1).1)) (s.objs c (s.block c).1 ((s.block c).1.used.toNat + 1) ((s.block c).1.place c 0)) 0).2
  else 9
theorem mval_o (o : Option Obj3) : mval objV (.agg #[i64 0, i64 0, i64 0]) o = objV (o.getD (0, 0, 0)) := by cases o <;> rfl
theorem take_succ_all {α : Type} {l : List α} {f : α → Bool} {k : Nat} (hk : k < l.length) (h : (l.take k).all f = true) (h2 : f l[k] = true) : (l.take (k + 1)).all f = true := by
  rw [List.take_succ_eq_append_getElem hk, List.all_append, h]; simp [h2]
theorem range_succ_all {f : Nat → Bool} {k : Nat} (h : (List.range k).all f = true) (h2 : f k = true) : (List.range (k + 1)).all f = true := by
  rw [List.range_succ, List.all_append, h]; simp [h2]
theorem cnames_ok (B : World) (Fr : List HP) (b1 b2 b3 mb : Nat) (c : Cfg) (hc : CfgW c) (b : Blk) (sv : Value) (hb : BlkW c b) (hsv : cell1 sv = true) (ml : List (Int × Obj3)) (v : Int) (hv : 0 ≤ v ∧ v < 18446744073709551616) :
    ∀ w, Holds B (row b1 [i64 b.act, i64 b.used, sv] 33 :: row b2 [i64 c.log, i64 c.roots, i64 c.space] 30 :: row b3 [.map (some mb)] 124 :: mapA .i64 objV mb ml :: Fr) w → Calls Tryz.prog 81 [w64 v, ptr b1, ptr b2, ptr b3].toArray w (PureR B (row b1 [i64 b.act, i64 b.used, sv] 33 :: row b2 [i64 c.log, i64 c.roots, i64 c.space] 30 :: row b3 [.map (some mb)] 124 :: mapA .i64 objV mb ml :: Fr) (.bool (namesM c b ml v))) := by
  refine fn_enter Tryz.func81 rfl Tryz.ntmps81 rfl ?_; refine g_seq ?_; refine g_region ?_; refine kPa rfl rfl ?_; refine p_nil ?_; refine g_seq ?_; refine g_seq ?_; refine g_region ?_; refine kPm rfl rfl ?_; refine kPv (ev_cmp rfl rfl rfl) rfl ?_; refine p_nil ?_
  refine g_if rfl (fun h9 => ?_) (fun h9 => ?_)
  · have hres : namesM c b ml v = true := by unfold namesM; simp [show v = 0 by simpa using h9]
    refine g_seq ?_; refine g_region ?_; refine kPa rfl rfl ?_; refine p_nil ?_; refine g_ret ?_
    exact ret_tmp Tryz.results81 rfl (fun w hh => ⟨by rw [hres], hh⟩)
  · have hne : ¬ v = 0 := by simpa using h9
    refine g_skip ?_; refine g_seq ?_; refine g_seq ?_; refine g_region ?_; refine kPv (ev_loadA Tryz.isAgg33 Tryz.sizeOf33 rfl rfl) rfl ?_; refine kPv (ev_loadA Tryz.isAgg30 Tryz.sizeOf30 rfl rfl) rfl ?_; refine kPm rfl rfl ?_; refine p_callq rfl (en_f Tryz.call82 rfl) (has_ok _ _ c hc b sv hb hsv _ hv) .free rfl rfl ?_; refine kPv (ev_not rfl) rfl ?_; refine p_nil ?_; refine go_sub (σ' := [(14, _), (5, _), (0, _), (3, _)]) ⟨rfl, rfl, rfl, rfl, trivial⟩ ?_
    refine g_if rfl (fun h14 => ?_) (fun h14 => ?_)
    · have hh0 : b.has c v = false := by simpa using h14
      have hres : namesM c b ml v = false := by unfold namesM; simp [hne, hh0]
      refine g_seq ?_; refine g_region ?_; refine kPa rfl rfl ?_; refine p_nil ?_; refine g_ret ?_
      exact ret_tmp Tryz.results81 rfl (fun w hh => ⟨by rw [hres], hh⟩)
    · have hh0 : b.has c v = true := by simpa using h14
      have hvb := bhas_b hc hb hh0
      have hres : namesM c b ml v = (mget ml v).isSome := by unfold namesM; simp [hne, hh0]
      refine g_skip ?_; refine g_seq ?_; refine g_region ?_; refine kPv (ev_load Tryz.isAgg124 rfl rfl) rfl ?_; refine kPm rfl rfl ?_
      first | refine p_val rfl (ev_conv Tryz.runUnderlying52 Tryz.runUnderlying3 rfl (wr64 (by omega))) .free rfl rfl ?_ | refine p_val rfl (ev_conv Tryz.runUnderlying52 Tryz.runUnderlying3 rfl rfl) .free rfl rfl ?_
      refine kPv ((ev_lookup2 Tryz.runUnderlying124 Tryz.runUnderlying3 Tryz.zeroValue89 rfl rfl).eq (congrArg (fun v => Value.tuple #[v, .bool _]) (mval_o _))) rfl ?_; refine kPm rfl rfl ?_; refine kPv (ev_ext rfl rfl) rfl ?_; refine kPv (ev_ext rfl rfl) rfl ?_; refine p_chg rfl (ch_allocA Tryz.zeroValue89 rfl) .free rfl rfl ?_
      rintro _ _ ⟨b6, rfl, rfl⟩
      refine p_chg0 rfl (ch_storeA (vs := [i64 _, i64 _, i64 _]) Tryz.sizeOf89 rfl rfl rfl rfl rfl) .free rfl ?_
      rintro _ _ rfl
      refine kPa rfl rfl ?_; refine p_nil ?_; refine go_sub (σ' := [(7, _), (5, _)]) ⟨rfl, rfl, trivial⟩ ?_; refine g_seq ?_; refine g_region ?_; refine kPm rfl rfl ?_; refine kPa rfl rfl ?_; refine p_nil ?_; refine g_ret ?_
      exact ret_tmp Tryz.results81 rfl (fun w hh => ⟨by rw [hres]; rfl, hh.tail⟩)
theorem ccheck_ok (B : World) (Fr : List HP) (bd : Nat) (s : Dev) (c : Cfg) (hc : CfgW c) (hu : U64 s) :
    ∀ w, Holds B (DevA bd s :: Fr) w → Calls Tryz.prog 27 [ptr bd, cfgV c].toArray w (PureR B (DevA bd s :: Fr) (i64 (s.check c))) := by
  refine fn_enter_m Tryz.func27 rfl Tryz.ntmps27 rfl ?_
  have hrl := block_len (s := s) hc
  refine g_seq ?_; refine g_region ?_; refine p_chg rfl (ch_box1 rfl rfl) .free rfl rfl ?_
  rintro _ _ ⟨b2, rfl, rfl⟩
  refine p_chg rfl (ch_boxA rfl) .free rfl rfl ?_
  rintro _ _ ⟨b3, rfl, rfl⟩
  refine kPa rfl rfl ?_; refine p_nil ?_; refine g_scope ?_; refine g_seq ?_; refine g_region ?_; refine kPv (ev_load Tryz.isAgg28 rfl rfl) rfl ?_; refine kPv (ev_loadA Tryz.isAgg30 Tryz.sizeOf30 rfl rfl) rfl ?_; refine go_pk [2] ?_
  refine p_call rfl (en_f Tryz.call15 rfl) (rread_ok _ _ _ _ c hc hu) .free rfl rfl ?_ ?_
  rotate_left
  · rintro _ _ ⟨⟩
  rintro _ _ ⟨sv, hsv, rfl, rfl⟩
  have hbk := block_w (s := s) hc hu
  refine kPm rfl rfl ?_; refine kPv (ev_ext rfl rfl) rfl ?_; refine kPv (ev_ext rfl rfl) rfl ?_; refine p_chg rfl (ch_allocA Tryz.zeroValue33 rfl) .free rfl rfl ?_
  rintro _ _ ⟨b5, rfl, rfl⟩
  refine p_chg0 rfl (ch_storeA (vs := [i64 _, i64 _, sv]) Tryz.sizeOf33 rfl rfl rfl (all3 hsv) rfl) .free rfl ?_
  rintro _ _ rfl
  refine kPa rfl rfl ?_; refine p_nil ?_; refine go_sub (σ' := [(6, _), (5, _), (4, _), (3, _), (2, _)]) ⟨rfl, rfl, rfl, rfl, rfl, trivial⟩ ?_; refine g_seq ?_; refine g_seq ?_; refine g_region ?_; refine kPm rfl rfl ?_; refine kPv (ev_cmp rfl rfl rfl) rfl ?_; refine p_nil ?_
  refine g_if rfl (fun h21 => ?_) (fun h21 => ?_)
  · have he : (s.block c).2 ≠ 0 := by simpa using h21
    have hres : s.check c = (s.block c).2 := by unfold Dev.check; rw [if_pos he]
    refine g_seq ?_; refine g_region ?_; refine kPm rfl rfl ?_; refine kPa rfl rfl ?_; refine p_nil ?_; refine g_ret ?_
    exact ret_tmp_m Tryz.results27 rfl (.nil) (fun w hh => ⟨by rw [hres] <;> rfl, (hh.dp [0, 0, 1, 1])⟩)
  · have he : (s.block c).2 = 0 := by simpa using h21
    refine g_skip ?_; refine g_seq ?_; refine g_region ?_; refine kPv (ev_load Tryz.isAgg28 rfl rfl) rfl ?_; refine kPv (ev_loadA Tryz.isAgg30 Tryz.sizeOf30 rfl rfl) rfl ?_; refine kPv (ev_loadA Tryz.isAgg33 Tryz.sizeOf33 rfl rfl) rfl ?_; refine go_pk [2] ?_
    refine p_call rfl (en_f Tryz.call80 rfl) (wstarts_ok _ _ bd s c hc (s.block c).1 sv hbk hsv) .free rfl rfl ?_ ?_
    rotate_left
    · rintro _ _ ⟨⟩
    rintro _ _ ⟨mb, rfl, rfl⟩
    refine kPm rfl rfl ?_; refine kPv (ev_ext rfl rfl) rfl ?_; refine kPv (ev_ext rfl rfl) rfl ?_; refine p_chg rfl (ch_alloc1 Tryz.zeroValue124 rfl) .free rfl rfl ?_
    rintro _ _ ⟨b7, rfl, rfl⟩
    refine p_chg0 rfl (ch_store Tryz.sizeOf124 rfl rfl rfl rfl) .free rfl ?_
    rintro _ _ rfl
    refine kPa rfl rfl ?_; refine p_nil ?_; refine go_sub (σ' := [(6, _), (7, _), (5, _), (4, _), (3, _), (2, _)]) ⟨rfl, rfl, rfl, rfl, rfl, rfl, trivial⟩ ?_; refine g_seq ?_; refine g_seq ?_; refine g_region ?_; refine kPm rfl rfl ?_; refine kPv (ev_cmp rfl rfl rfl) rfl ?_; refine p_nil ?_
    refine g_if rfl (fun h31 => ?_) (fun h31 => ?_)
    · have he2 : (s.starts c (s.block c).1).2 ≠ 0 := by simpa using h31
      have hres : s.check c = (s.starts c (s.block c).1).2 := by unfold Dev.check; rw [if_neg (by omega), if_pos he2]
      refine g_seq ?_; refine g_region ?_; refine kPm rfl rfl ?_; refine kPa rfl rfl ?_; refine p_nil ?_; refine g_ret ?_
      exact ret_tmp_m Tryz.results27 rfl (.nil) (fun w hh => ⟨by rw [hres] <;> rfl, (hh.dp [0, 0, 1, 1, 1, 1])⟩)
    · have he2 : (s.starts c (s.block c).1).2 = 0 := by simpa using h31
      refine g_skip ?_; refine g_seq ?_; refine g_region ?_; refine p_chg rfl (ch_alloc1 Tryz.zeroValue46 rfl) .free rfl rfl ?_
      rintro _ _ ⟨b8, rfl, rfl⟩
      refine p_chg0 rfl (ch_store Tryz.sizeOf46 rfl rfl rfl rfl) .free rfl ?_
      rintro _ _ rfl
      refine p_nil ?_; refine g_seq ?_; refine g_region ?_; refine kPv (ev_mkf rfl rfl) rfl ?_; refine p_chg rfl (ch_alloc1 Tryz.zeroValue129 rfl) .free rfl rfl ?_
      rintro _ _ ⟨b9, rfl, rfl⟩
      refine p_chg0 rfl (ch_store Tryz.sizeOf129 rfl rfl rfl rfl) .free rfl ?_
      rintro _ _ rfl
      refine go_pk [6] ?_; refine go_vecq fun qo co hqe hqo => ?_
      subst hqe
      refine p_nil ?_; refine g_seq ?_; refine g_seq ?_; refine g_region ?_; refine kPv (ev_fa (m := _) fa_33_2 rfl rfl) rfl ?_; refine kPv (ev_load Tryz.isAgg31 rfl rfl) rfl ?_; refine kPv (ev_len rfl Tryz.runUnderlying31 ⟨_, rfl⟩ rfl) rfl ?_; refine kPm rfl rfl ?_; refine p_nil ?_; refine g_block ?_
      refine g_loopk (ι := Nat) [36, 35, 9, 8, 5, 4, 3, 2] (fun k => (k ≤ (s.block c).1.rts.length) ∧ (((s.block c).1.rts.take k).all (namesM c (s.block c).1 (s.starts c (s.block c).1).1) = true)) (fun k => [(37, i64 k)]) (fun k => row b5 [i64 (s.block c).1.act, i64 (s.block c).1.used, .slice qo (s.block c).1.rts.length co] 33 :: row b3 [i64 c.log, i64 c.roots, i64 c.space] 30 :: row b7 [.map (some mb)] 124 :: mapA .i64 objV mb (s.starts c (s.block c).1).1 :: VecU 0 (.slice qo (s.block c).1.rts.length co, (s.block c).1.rts) :: DevA bd s :: row b8 [i64 0] 46 :: row b9 [.func (.func 81) #[] #[ptr b5, ptr b3, ptr b7]] 129 :: row b2 [ptr bd] 28 :: Fr) (fun k => (s.block c).1.rts.length - k) (0) (⟨Nat.zero_le _, rfl⟩) (fun a w st => st.to ⟨rfl, trivial⟩ (fun hh => (hh.pk [6, 6, 3, 3, 0, 2, 1]))) ?_
      rintro k ⟨hk0, hkr⟩
      try simp only at hk0 hkr ⊢
      refine go_sub (σ' := [(37, i64 k), (36, _), (35, _), (9, _), (8, _), (5, _), (4, _), (3, _), (2, _)]) ⟨rfl, rfl, rfl, rfl, rfl, rfl, rfl, rfl, rfl, trivial⟩ ?_; refine g_seq ?_; refine g_region ?_; refine kPv (ev_cmp rfl rfl rfl) rfl ?_; refine p_nil ?_; refine g_seq ?_
      refine g_if rfl (fun h38 => ?_) (fun h38 => ?_)
      · have hk : k < (s.block c).1.rts.length := by simp at h38; omega
        obtain ⟨bq, oq, rfl⟩ := hqo k hk
        have hul : 0 ≤ (s.block c).1.rts[k] ∧ (s.block c).1.rts[k] < 18446744073709551616 := block_rts hu _ (List.getElem_mem hk)
        refine g_skip ?_; refine g_seq ?_; refine g_block ?_; refine g_seq ?_; refine g_region ?_; refine kPv (ev_iaS Tryz.runUnderlying31 Tryz.sizeOf52 rfl rfl (by omega) (by omega)) rfl ?_
        refine kPv (ev_loadS (v := w64 (s.block c).1.rts[k]) Tryz.isAgg52 (vec_slr 4 rfl) rfl (by rw [Int.toNat_natCast, List.getElem?_map, List.getElem?_eq_getElem hk]; rfl)) rfl ?_
        refine kPa rfl rfl ?_; refine p_nil ?_; refine g_seq ?_; refine g_region ?_; refine kPv (ev_load Tryz.isAgg129 rfl rfl) rfl ?_; refine kPm rfl rfl ?_; refine p_callq rfl (en_c Tryz.call81 rfl rfl) (cnames_ok B _ b5 b3 b7 mb c hc (s.block c).1 _ hbk rfl (s.starts c (s.block c).1).1 (s.block c).1.rts[k] hul) .free rfl rfl ?_; refine kPv (ev_not rfl) rfl ?_; refine p_nil ?_
        refine go_sub (σ' := [(44, _), (37, _), (36, _), (35, _), (9, _), (8, _), (5, _), (4, _), (3, _), (2, _)]) ⟨rfl, rfl, rfl, rfl, rfl, rfl, rfl, rfl, rfl, rfl, trivial⟩ ?_
        refine g_if rfl (fun h44 => ?_) (fun h44 => ?_)
        · have hnr : ¬ (namesM c (s.block c).1 (s.starts c (s.block c).1).1) (s.block c).1.rts[k] = true := by simpa using h44
          have hres : s.check c = 9 := by unfold Dev.check; rw [if_neg (by omega), if_neg (by omega), if_neg (fun hh => hnr (List.all_eq_true.1 hh _ (List.getElem_mem hk)))]
          refine g_seq ?_; refine g_region ?_; refine kPa rfl rfl ?_; refine p_nil ?_; refine g_ret ?_
          exact ret_tmp_m Tryz.results27 rfl (.nil) (fun w hh => ⟨by rw [hres] <;> rfl, (hh.dp [0, 0, 0, 0, 0, 1, 1, 1])⟩)
        · have hnr : (namesM c (s.block c).1 (s.starts c (s.block c).1).1) (s.block c).1.rts[k] = true := by simpa using h44
          refine g_skip ?_; refine g_region ?_
          first | refine p_val rfl (ev_add rfl rfl (wr64 (by omega))) .free rfl rfl ?_ | refine p_val rfl (ev_add rfl rfl rfl) .free rfl rfl ?_
          refine kPm rfl rfl ?_; refine p_nil ?_
          exact fun a w st_ => ⟨k + 1, ⟨by first | omega | (simp only; omega), take_succ_all hk hkr hnr⟩, by first | omega | (simp only; omega), st_.to ⟨rfl, rfl, rfl, rfl, rfl, rfl, rfl, rfl, rfl, trivial⟩ (fun hh => hh)⟩
      · have hk : ¬ k < (s.block c).1.rts.length := by simp at h38; omega
        obtain rfl : k = (s.block c).1.rts.length := by omega
        have hres : s.check c = (itl (stC s (namesM c (s.block c).1 (s.starts c (s.block c).1).1)) (s.objs c (s.block c).1 ((s.block c).1.used.toNat + 1) ((s.block c).1.place c 0)) 0).2 := by unfold Dev.check; rw [if_neg (by omega), if_neg (by omega), if_pos (by rw [List.take_length] at hkr; exact hkr)]
        refine g_exit ?_; refine g_seq ?_; refine g_label ?_; refine g_seq ?_; refine g_seq ?_; refine g_region ?_; refine kPv (ev_load Tryz.isAgg28 rfl rfl) rfl ?_; refine kPv (ev_loadA Tryz.isAgg30 Tryz.sizeOf30 rfl rfl) rfl ?_; refine kPv (ev_loadA Tryz.isAgg33 Tryz.sizeOf33 rfl rfl) rfl ?_
        refine p_call rfl (en_f Tryz.call83 rfl) (wobjs_ok _ _ bd c (s.block c).1 (.slice qo (s.block c).1.rts.length co) rfl) .free rfl rfl ?_ ?_
        rotate_left
        · rintro _ _ ⟨⟩
        rintro _ _ ⟨c3, c4, c5, rfl, rfl⟩
        refine p_nil ?_; refine go_sub (σ' := [(49, _), (9, _), (8, _), (4, _), (2, _)]) ⟨rfl, rfl, rfl, rfl, rfl, trivial⟩ ?_; refine g_block ?_; refine g_range rfl Tryz.call109 ?_
        intro l m tmps hts hkn w hh
        have hk9 := hkn 9 _ rfl
        have hk2 := hkn 2 _ rfl
        have hk8 := hkn 8 _ rfl
        refine (wobj1_ok B (blk m (.deferred (some [])) :: VecU 0 (.slice qo (s.block c).1.rts.length co, (s.block c).1.rts) :: Fr) l 27 c3 c4 c5 bd c hc (s.block c).1 _ hbk rfl s Int _ rfl rfl (fun x => True) (fun x => [row b8 [i64 x] 46, row b5 [i64 (s.block c).1.act, i64 (s.block c).1.used, .slice qo (s.block c).1.rts.length co] 33, row b3 [i64 c.log, i64 c.roots, i64 c.space] 30, row b7 [.map (some mb)] 124, mapA .i64 objV mb (s.starts c (s.block c).1).1, row b9 [.func (.func 81) #[] #[ptr b5, ptr b3, ptr b7]] 129, row b2 [ptr bd] 28]) (fun _ => .exit 2) (stC s (namesM c (s.block c).1 (s.starts c (s.block c).1).1)) 0 trivial ?_ w (hh.pk [0, 1, 1, 1, 6, 6, 1, 1, 1, 1, 2, 2])).mono (Ret.mono ?_ fun _ _ h => h.elim)
        · intro p x hpw _
          have hp2 := hpw.r
          have hp1 := hpw.w
          have hp3 := hpw.at_
          refine ⟨trivial, fun E => ?_⟩
          simp only [List.cons_append, List.nil_append]
          refine round_go (n := 70) (σ := [(50, objV p.1), (51, i64 p.2), (9, ptr b9), (2, ptr b2), (8, ptr b8)]) Tryz.func27 (by simp [lrec, hts]) (KnA.knows (by simp [KnA, lrec, hts]; exact ⟨(Array.getElem?_eq_some_iff.1 hk9).2, (Array.getElem?_eq_some_iff.1 hk2).2, (Array.getElem?_eq_some_iff.1 hk8).2⟩)) rfl ?_
          refine g_region ?_; refine p_chg rfl (ch_allocA Tryz.zeroValue89 rfl) .free rfl rfl ?_
          rintro _ _ ⟨b12, rfl, rfl⟩
          refine p_chg0 rfl (ch_storeA (vs := [i64 p.1.1, i64 p.1.2.1, i64 p.1.2.2]) Tryz.sizeOf89 rfl rfl rfl rfl rfl) .free rfl ?_
          rintro _ _ rfl
          refine p_nil ?_; refine go_pk [1] ?_; refine go_mid ?_; refine g_block ?_; refine g_seq ?_
          generalize hrec : ({ state := LoopState.busy, .. } : Loop) = rec
          refine g_region ?_; refine kPv (ev_fa (m := _) fa_89_0 rfl rfl) rfl ?_; refine kPv (ev_fa (m := _) fa_87_1 rfl rfl) rfl ?_; refine kPv (ev_load Tryz.isAgg3 rfl rfl) rfl ?_; refine kPm rfl rfl ?_; refine p_nil ?_; refine g_block ?_
          refine g_loopk (ι := Nat) [54, 12, 9, 2, 8] (fun j => ((j : Int) ≤ p.1.2.1) ∧ ((List.range j).all (fun k => (namesM c (s.block c).1 (s.starts c (s.block c).1).1) (s.load (p.1.2.2 + 1 + (k : Int)))) = true)) (fun j => [(55, i64 j)]) (fun j => row b5 [i64 (s.block c).1.act, i64 (s.block c).1.used, .slice qo (s.block c).1.rts.length co] 33 :: row b3 [i64 c.log, i64 c.roots, i64 c.space] 30 :: row b7 [.map (some mb)] 124 :: mapA .i64 objV mb (s.starts c (s.block c).1).1 :: row b12 [i64 p.1.1, i64 p.1.2.1, i64 p.1.2.2] 89 :: blk l (.loop rec) :: row c5 [i64 (s.block c).1.act, i64 (s.block c).1.used, .slice qo (s.block c).1.rts.length co] 33 :: row c4 [i64 c.log, i64 c.roots, i64 c.space] 30 :: row c3 [ptr bd] 28 :: DevA bd s :: row b8 [i64 x] 46 :: row b9 [.func (.func 81) #[] #[ptr b5, ptr b3, ptr b7]] 129 :: row b2 [ptr bd] 28 :: E) (fun j => p.1.2.1.toNat - j) (0) (⟨by first | omega | (simp only; omega), rfl⟩) (fun a w st => st.to ⟨rfl, trivial⟩ (fun hh => (hh.pk [7, 7, 7, 7, 1]))) ?_
          rintro j ⟨hj0, hall⟩
          try simp only at hj0 hall ⊢
          refine go_sub (σ' := [(55, i64 j), (54, _), (12, _), (9, _), (2, _), (8, _)]) ⟨rfl, rfl, rfl, rfl, rfl, rfl, trivial⟩ ?_; refine g_seq ?_; refine g_region ?_; refine kPv (ev_cmp rfl rfl rfl) rfl ?_; refine p_nil ?_; refine g_seq ?_
          refine g_if rfl (fun h56 => ?_) (fun h56 => ?_)
          · have hj : (j : Int) < p.1.2.1 := by simpa using h56
            refine g_skip ?_; refine g_seq ?_; refine g_block ?_; refine g_seq ?_; refine g_region ?_; refine kPm rfl rfl ?_; refine kPa rfl rfl ?_; refine p_nil ?_; refine g_seq ?_; refine g_draw Tryz.mixed (by kernel_rfl) (by kernel_rfl) ?_; refine kQv (ev_load Tryz.isAgg129 rfl rfl) rfl ?_; refine kQv (ev_load Tryz.isAgg28 rfl rfl) rfl ?_; refine kQv (ev_fa (m := _) fa_89_1 rfl rfl) rfl ?_; refine kQv (ev_load Tryz.isAgg3 rfl rfl) rfl ?_
            first | refine q_val rfl (ev_add rfl rfl (wr64 (by omega))) .free rfl ?_ | refine q_val rfl (ev_add rfl rfl rfl) .free rfl ?_
            refine kQm rfl rfl ?_
            first | refine q_val rfl (ev_add rfl rfl (wr64 (by omega))) .free rfl ?_ | refine q_val rfl (ev_add rfl rfl rfl) .free rfl ?_
            refine q_call rfl (en_f Tryz.call72 rfl) (ro_at (q := DevA) (fun Fr => nload_ok _ Fr _ _ _)) .free rfl ?_; refine q_call rfl (en_c Tryz.call81 rfl rfl) (cnames_ok B _ b5 b3 b7 mb c hc (s.block c).1 _ hbk rfl (s.starts c (s.block c).1).1 (s.load (p.1.2.2 + 1 + (j : Int))) (hu.load _)) .free rfl ?_; refine kQv (ev_not rfl) rfl ?_; refine q_nil ?_; refine go_sub (σ' := [(67, _), (55, _), (54, _), (12, _), (9, _), (2, _), (8, _)]) ⟨rfl, rfl, rfl, rfl, rfl, rfl, rfl, trivial⟩ ?_
            refine g_if rfl (fun h67 => ?_) (fun h67 => ?_)
            · have hnall : ¬ (namesM c (s.block c).1 (s.starts c (s.block c).1).1) (s.load (p.1.2.2 + 1 + (j : Int))) = true := by simpa using h67
              subst hrec
              refine g_seq ?_; refine g_region ?_; refine p_chg0 rfl (ch_store Tryz.sizeOf46 rfl rfl rfl rfl) .free rfl ?_
              rintro _ _ rfl
              refine p_nil ?_; refine g_exit ?_
              have hst : stC s (namesM c (s.block c).1 (s.starts c (s.block c).1).1) p x = (false, 9) := by unfold stC; rw [if_neg (show ¬ refsM s (namesM c (s.block c).1 (s.starts c (s.block c).1).1) p.1 = true from fun hh => hnall (List.all_eq_true.1 hh j (List.mem_range.2 (by omega))))]
              refine go_pk [5] ?_
              exact go_rJ fun w hh => ⟨_, ⟨by rw [hst], rfl⟩, by rw [hst]; exact ((hh.dp [5]).pk [0, 4, 4, 4, 4, 4])⟩
            · have hnm : (namesM c (s.block c).1 (s.starts c (s.block c).1).1) (s.load (p.1.2.2 + 1 + (j : Int))) = true := by simpa using h67
              refine g_skip ?_; refine g_region ?_
              first | refine p_val rfl (ev_add rfl rfl (wr64 (by omega))) .free rfl rfl ?_ | refine p_val rfl (ev_add rfl rfl rfl) .free rfl rfl ?_
              refine kPm rfl rfl ?_; refine p_nil ?_
              exact fun a w st_ => ⟨j + 1, ⟨by first | omega | (simp only; omega), range_succ_all hall hnm⟩, by first | omega | (simp only; omega), st_.to ⟨rfl, rfl, rfl, rfl, rfl, rfl, trivial⟩ (fun hh => hh)⟩
          · have hj : ¬ (j : Int) < p.1.2.1 := by simpa using h56
            have hall2 : refsM s (namesM c (s.block c).1 (s.starts c (s.block c).1).1) p.1 = true := by unfold refsM; rw [show p.1.2.1.toNat = j by omega]; exact hall
            subst hrec
            refine g_exit ?_
            have hst : stC s (namesM c (s.block c).1 (s.starts c (s.block c).1).1) p x = (true, x) := by unfold stC; rw [if_pos hall2]
            refine go_pk [5] ?_
            exact go_rK fun w hh => ⟨_, ⟨by rw [hst], rfl⟩, by rw [hst]; exact ((hh.dp [5]).pk [0, 4, 4, 4, 4, 4])⟩
        rintro _ _ ⟨_, rfl⟩
        simp only [List.cons_append, List.nil_append]
        refine ⟨_, _, fun w hh => hh, lst_busy (by simp [lrec]), fun hp => ?_, fun c' hc' => ?_⟩
        rotate_left
        · obtain ⟨h1, rfl⟩ := lst_some rfl hc'
          refine g_exit ?_; refine g_seq ?_; refine g_region ?_; refine kPv (ev_load Tryz.isAgg46 rfl rfl) rfl ?_; refine kPa rfl rfl ?_; refine p_nil ?_; refine g_ret ?_
          exact ret_tmp_m Tryz.results27 rfl (.at 12 (.nil)) (fun w hh => ⟨by rw [hres] <;> rfl, (hh.dp [0, 0, 0, 0, 1, 1, 1, 1, 1, 1, 1, 1, 1])⟩)
        refine g_seq ?_; refine g_region ?_; refine kPv (ev_load Tryz.isAgg46 rfl rfl) rfl ?_; refine kPa rfl rfl ?_; refine p_nil ?_; refine g_ret ?_
        exact ret_tmp_m Tryz.results27 rfl (.at 12 (.nil)) (fun w hh => ⟨by rw [hres] <;> rfl, (hh.dp [0, 0, 0, 0, 1, 1, 1, 1, 1, 1, 1, 1, 1])⟩)
end Go.Proofs.YtbfheafpecgphaaGreat
namespace Go.Proofs.YtbfheafpecgphaaGreat
open Go
def blkIs (x : Blk × Int) (b : Blk) (e : Int) : Bool := x.1.act == b.act && x.1.used == b.used && x.1.rts == b.rts && x.2 == e
theorem blkIs_eq {x : Blk × Int} {b : Blk} {e : Int} (h : blkIs x b e = true) : x = (b, e) := by
  obtain ⟨⟨a1, a2, a3⟩, a4⟩ := x
  obtain ⟨b1, b2, b3⟩ := b
  simp only [blkIs, Bool.and_eq_true, beq_iff_eq] at h
  obtain ⟨⟨⟨rfl, rfl⟩, rfl⟩, rfl⟩ := h
  rfl
def prIs (x : Int × Int) (a e : Int) : Bool := x.1 == a && x.2 == e
theorem prIs_eq {x : Int × Int} {a e : Int} (h : prIs x a e = true) : x = (a, e) := by
  simp only [prIs, Bool.and_eq_true, beq_iff_eq] at h
  exact Prod.ext h.1 h.2
def obIs (x : Obj3 × Int) (o : Obj3) (e : Int) : Bool := x.1.1 == o.1 && x.1.2.1 == o.2.1 && x.1.2.2 == o.2.2 && x.2 == e
theorem obIs_eq {x : Obj3 × Int} {o : Obj3} {e : Int} (h : obIs x o e = true) : x = (o, e) := by
  simp only [obIs, Bool.and_eq_true, beq_iff_eq] at h
  exact Prod.ext (Prod.ext h.1.1.1 (Prod.ext h.1.1.2 h.1.2)) h.2
theorem cfg48 : CfgW ⟨3, 1, 48⟩ := ⟨by decide, by decide, by decide, by decide, by decide, by decide⟩
theorem mkC48 : (⟨3, 1, 48⟩ : Cfg) = mkC 0 0 40 := rfl
abbrev c8 : Cfg := ⟨3, 1, 8⟩
abbrev c48 : Cfg := ⟨3, 1, 48⟩
theorem n48 {N : Nat} (h : (N : Int) = c48.words) : N = 136 := by have : (N : Int) = 136 := h.trans (by decide); omega
theorem owriteD_ok (B : World) (Fr : List HP) (bd : Nat) (o : Obj3) (ho : ObjW o) (i v : Int) (hv : 0 ≤ v ∧ v < 18446744073709551616) (s : Dev) (hl : s.pow.lim < 0) (hu : U64 s) :
    ∀ w_, Holds B (DevA bd s :: Fr) w_ → Calls Tryz.prog 150 [objV o, i64 i, w64 v, .func (.func 70) [ptr bd].toArray #[]].toArray w_ (Ret B (fun rv H' => ∃ x s', setM devOp o i false v s () = .ok (x, ()) s' ∧ rv = i64 x ∧ s'.pow.lim < 0 ∧ s'.n = s.n ∧ U64 s' ∧ H' = DevA bd s' :: Fr) (fun _ _ => False)) := fun w_ hh => by
  obtain ⟨y, s2, hg, _, hg2, hg3⟩ := good_set (o := o) (i := i) (v := v) (r := false) hl
  refine (owrite_ok B Fr _ [ptr bd] bd 0 Unit (fun _ _ => pr True) devOp _ (storeD B bd 0) o ho i v hv s () hu w_ ((hh.unpr (p := True) trivial).back 1 (by simp))).mono fun en w' h => ?_
  cases en with
  | returned rv =>
    obtain ⟨H, ⟨x, e', s', hm, rfl, hok, rfl⟩, hh⟩ := h
    obtain ⟨rfl, rfl⟩ : y = (x, e') ∧ s2 = s' := by rw [hg] at hm; cases hm; exact ⟨rfl, rfl⟩
    exact ⟨_, ⟨x, s2, hm, rfl, hg2, hg3, hok, rfl⟩, (hh.front 1 rfl).tail⟩
  | panicked c =>
    obtain ⟨H, ⟨s', hm, _⟩, _⟩ := h
    rw [hg] at hm; cases hm
  | outgrown => exact h
theorem d8_eval (pa : Nat) : okB ((dev0 pa [] 56).format c8) (fun _ s => blkIs (s.block c8) ⟨0, 0, [0]⟩ 0) = true := by kernel_rfl
theorem d9_eval (pa : Nat) : okB ((dev0 pa [] 56).format c8) (fun _ s => okB (allocM devOp c8 2 0 s ()) fun x s1 => prIs x.1 40 0 && okB (allocM devOp c8 5 0 s1 ()) fun y _ => prIs y.1 0 4) = true := by kernel_rfl
theorem d10_eval (pa : Nat) : okB ((dev0 pa [] 136).format c48) (fun _ s => okB (fillN c48 [(1, 2)] s []) fun out sF => out == [40] && blkIs (sF.block c48) ⟨0, 3, [0]⟩ 0 && obIs (sF.objOf c48 ⟨0, 3, [0]⟩ 40) (2, 1, 40) 0 && prIs (sF.objRead (2, 1, 40) 0) 0 5 && okB (setM devOp (2, 1, 40) 1 false 9 sF ()) fun a s2 => a.1 == 0 && prIs (s2.objRead (2, 1, 40) 1) 9 0) = true := by kernel_rfl
theorem d11_eval (pa : Nat) : okB ((dev0 pa [] 136).format c48) (fun _ s => okB (fillN c48 [(0, 1)] s []) fun out sF => out == [40] && blkIs (sF.block c48) ⟨0, 2, [0]⟩ 0 && okB (linkObjs c48 ⟨0, 2, [0]⟩ (pickL [] [40] 0) [40] 0 sF) fun n1 s1 => n1 == some 0 && okB (linkRoots c48 (pickL [] [40] 0) 1 0 0 s1) fun _ s2 => blkIs (s2.block c48) ⟨0, 2, [0]⟩ 0 && (s2.starts c48 ⟨0, 2, [0]⟩).1 == [(40, (1, 0, 40))] && (s2.starts c48 ⟨0, 2, [0]⟩).2 == 0) = true := by kernel_rfl
theorem d12_eval (pa : Nat) : okB ((dev0 pa [] 56).format c8) (fun _ s => s.check c8 == 0 && okB (s.store 34 5) fun _ s1 => s1.check c8 == 9) = true := by kernel_rfl
theorem awake8_ok (B : World) (Fr : List HP) :
    ∀ w, Holds B Fr w → Calls Tryz.prog 152 [].toArray w (PureR B Fr (.bool true)) := by
  refine fn_enter Tryz.func152 rfl Tryz.ntmps152 rfl ?_; refine g_seq ?_; refine g_region ?_; refine kPa rfl rfl ?_; refine p_nil ?_; refine g_seq ?_; refine g_seq ?_; refine g_region ?_; refine p_callq rfl (en_f Tryz.call153 rfl) (awake7_ok _ _) .free rfl rfl ?_; refine kPv (ev_not rfl) rfl ?_; refine p_nil ?_; refine g_iff rfl (rfl) ?_; refine g_skip ?_; refine g_seq ?_; refine g_region ?_; refine kPv (ev_build rfl (bld_30_0_1_2 _ _ _ rfl rfl rfl)) rfl ?_
  refine p_chg rfl (ch_allocA Tryz.zeroValue30 rfl) .free rfl rfl ?_
  rintro _ _ ⟨b1, rfl, rfl⟩
  refine p_chg0 rfl (ch_storeA (vs := _) Tryz.sizeOf30 rfl rfl rfl rfl rfl) .free rfl ?_
  rintro _ _ rfl
  refine p_nil ?_; refine g_seq ?_; refine g_region ?_; refine kPv (ev_loadA Tryz.isAgg30 Tryz.sizeOf30 rfl rfl) rfl ?_
  refine p_call rfl (en_f Tryz.call101 rfl) (formatted_ok _ _ ⟨3, 1, 8⟩ cfg1 none 0 [] (by decide) (fun _ h => absurd h (Nat.not_lt_zero _)) SlR.nil) .free rfl rfl ?_ ?_
  rotate_left
  · rintro _ _ ⟨⟩
  rintro _ _ ⟨bd, pa, N, s0, hN, hf, rfl, rfl⟩
  obtain rfl : N = 56 := by have : (N : Int) = 56 := hN.trans (by decide); omega
  have hfm := fmt_of cfg1 hN hf
  have hu0 := format_u64 (dev0_u64 pa 56) cfg1 hf
  refine kPm rfl rfl ?_; refine kPv (ev_ext rfl rfl) rfl ?_; refine kPv (ev_ext rfl rfl) rfl ?_; refine kPa rfl rfl ?_; refine kPa rfl rfl ?_; refine p_nil ?_; refine go_sub (σ' := [(3, _), (2, _), (1, _), (0, _)]) ⟨rfl, rfl, rfl, rfl, trivial⟩ ?_; refine g_seq ?_; refine g_seq ?_; refine g_region ?_; refine kPm rfl rfl ?_; refine kPv (ev_not rfl) rfl ?_; refine p_nil ?_; refine g_iff rfl (rfl) ?_; refine g_skip ?_; refine g_seq ?_; refine g_region ?_; refine kPm rfl rfl ?_
  refine kPv (ev_loadA Tryz.isAgg30 Tryz.sizeOf30 rfl rfl) rfl ?_
  refine p_call rfl (en_f Tryz.call15 rfl) (rread_ok _ _ _ _ ⟨3, 1, 8⟩ cfg1 hu0) .free rfl rfl ?_ ?_
  rotate_left
  · rintro _ _ ⟨⟩
  rintro _ _ ⟨sv, hsv, rfl, rfl⟩
  rw [blkIs_eq (okB_ok (d8_eval pa) hf)]
  refine go_vecq fun qv cv hqv hqi => ?_
  subst hqv
  refine kPm rfl rfl ?_; refine kPv (ev_ext rfl rfl) rfl ?_; refine kPv (ev_ext rfl rfl) rfl ?_; refine p_chg rfl (ch_allocA Tryz.zeroValue33 rfl) .free rfl rfl ?_
  rintro _ _ ⟨b4, rfl, rfl⟩
  refine p_chg0 rfl (ch_storeA (vs := _) Tryz.sizeOf33 rfl rfl rfl (by first | rfl | exact all3 (by assumption)) rfl) .free rfl ?_
  rintro _ _ rfl
  refine kPa rfl rfl ?_; refine p_nil ?_; refine go_sub (σ' := [(5, _), (4, _), (1, _), (0, _)]) ⟨rfl, rfl, rfl, rfl, trivial⟩ ?_; refine g_seq ?_; refine g_region ?_; refine kPm rfl rfl ?_; refine kPv (ev_cmp rfl rfl rfl) rfl ?_; refine kPm rfl rfl ?_; refine p_val rfl (ev_fa (m := _) fa_33_0 rfl rfl) (.on rfl rfl (beq_eq rfl)) rfl rfl ?_; refine p_val rfl (ev_load Tryz.isAgg3 rfl rfl) (.on rfl rfl (beq_eq rfl)) rfl rfl ?_
  refine p_val rfl (ev_cmp rfl rfl rfl) (.on rfl rfl (beq_eq rfl)) rfl rfl ?_; refine kPv (ev_pick_t rfl rfl rfl) rfl ?_; refine kPm rfl rfl ?_; refine p_val rfl (ev_fa (m := _) fa_33_1 rfl rfl) (.on rfl rfl (beq_eq rfl)) rfl rfl ?_; refine p_val rfl (ev_load Tryz.isAgg3 rfl rfl) (.on rfl rfl (beq_eq rfl)) rfl rfl ?_; refine p_val rfl (ev_cmp rfl rfl rfl) (.on rfl rfl (beq_eq rfl)) rfl rfl ?_; refine kPv (ev_pick_t rfl rfl rfl) rfl ?_; refine kPm rfl rfl ?_
  refine p_val rfl (ev_fa (m := _) fa_33_2 rfl rfl) (.on rfl rfl (beq_eq rfl)) rfl rfl ?_; refine p_val rfl (ev_load Tryz.isAgg31 rfl rfl) (.on rfl rfl (beq_eq rfl)) rfl rfl ?_; refine p_val rfl (ev_len rfl Tryz.runUnderlying31 ⟨_, rfl⟩ rfl) (.on rfl rfl (beq_eq rfl)) rfl rfl ?_; refine p_val rfl (ev_cmp rfl rfl rfl) (.on rfl rfl (beq_eq rfl)) rfl rfl ?_; refine kPv (ev_pick_t rfl rfl rfl) rfl ?_; refine kPm rfl rfl ?_
  refine p_val rfl (ev_loadA Tryz.isAgg33 Tryz.sizeOf33 rfl rfl) (.on rfl rfl (beq_eq rfl)) rfl rfl ?_; refine p_val rfl (ev_loadA Tryz.isAgg30 Tryz.sizeOf30 rfl rfl) (.on rfl rfl (beq_eq rfl)) rfl rfl ?_; refine p_callq rfl (en_f Tryz.call94 rfl) (place_ok _ _ ⟨3, 1, 8⟩ cfg1 ⟨0, 0, [0]⟩ _ ⟨⟨by decide, by decide⟩, ⟨by decide, by decide⟩⟩ hsv 3 (by decide)) (.on rfl rfl (beq_eq rfl)) rfl rfl ?_; refine p_val rfl (ev_cmp rfl rfl rfl) (.on rfl rfl (beq_eq rfl)) rfl rfl ?_
  refine kPv (ev_pick_t rfl rfl rfl) rfl ?_; refine kPa rfl rfl ?_; refine p_nil ?_; refine go_sub (σ' := [(0, _)]) ⟨rfl, trivial⟩ ?_; refine g_ret ?_
  exact ret_tmp Tryz.results152 rfl (fun w hh => ⟨rfl, (hh.dp [0, 0, 0, 0])⟩)
theorem awake9_ok (B : World) (Fr : List HP) :
    ∀ w, Holds B Fr w → Calls Tryz.prog 148 [].toArray w (PureR B Fr (.bool true)) := by
  refine fn_enter Tryz.func148 rfl Tryz.ntmps148 rfl ?_; refine g_seq ?_; refine g_region ?_; refine kPa rfl rfl ?_; refine p_nil ?_; refine g_seq ?_; refine g_seq ?_; refine g_region ?_; refine p_callq rfl (en_f Tryz.call152 rfl) (awake8_ok _ _) .free rfl rfl ?_; refine kPv (ev_not rfl) rfl ?_; refine p_nil ?_; refine g_iff rfl (rfl) ?_; refine g_skip ?_; refine g_seq ?_; refine g_region ?_; refine kPv (ev_build rfl (bld_30_0_1_2 _ _ _ rfl rfl rfl)) rfl ?_
  refine p_chg rfl (ch_allocA Tryz.zeroValue30 rfl) .free rfl rfl ?_
  rintro _ _ ⟨b1, rfl, rfl⟩
  refine p_chg0 rfl (ch_storeA (vs := _) Tryz.sizeOf30 rfl rfl rfl rfl rfl) .free rfl ?_
  rintro _ _ rfl
  refine p_nil ?_; refine g_seq ?_; refine g_region ?_; refine kPv (ev_loadA Tryz.isAgg30 Tryz.sizeOf30 rfl rfl) rfl ?_
  refine p_call rfl (en_f Tryz.call101 rfl) (formatted_ok _ _ ⟨3, 1, 8⟩ cfg1 none 0 [] (by decide) (fun _ h => absurd h (Nat.not_lt_zero _)) SlR.nil) .free rfl rfl ?_ ?_
  rotate_left
  · rintro _ _ ⟨⟩
  rintro _ _ ⟨bd, pa, N, s0, hN, hf, rfl, rfl⟩
  obtain rfl : N = 56 := by have : (N : Int) = 56 := hN.trans (by decide); omega
  have hfm := fmt_of cfg1 hN hf
  have hu0 := format_u64 (dev0_u64 pa 56) cfg1 hf
  refine kPm rfl rfl ?_; refine kPv (ev_ext rfl rfl) rfl ?_; refine kPv (ev_ext rfl rfl) rfl ?_; refine kPa rfl rfl ?_; refine kPa rfl rfl ?_; refine p_nil ?_; refine go_sub (σ' := [(3, _), (2, _), (1, _), (0, _)]) ⟨rfl, rfl, rfl, rfl, trivial⟩ ?_; refine g_seq ?_; refine g_seq ?_; refine g_region ?_; refine kPm rfl rfl ?_; refine kPv (ev_not rfl) rfl ?_; refine p_nil ?_; refine g_iff rfl (rfl) ?_; refine g_skip ?_; refine g_seq ?_; refine g_region ?_; refine kPm rfl rfl ?_
  refine kPv (ev_loadA Tryz.isAgg30 Tryz.sizeOf30 rfl rfl) rfl ?_; refine kPv (ev_build rfl (bld_87_0 _ rfl)) rfl ?_; refine kPm rfl rfl ?_; refine kPv (ev_mkf rfl rfl) rfl ?_
  refine p_call rfl (en_f Tryz.call102 rfl) (allocD_ok _ _ bd ⟨3, 1, 8⟩ cfg1 2 0 s0 hfm.lim hu0) .free rfl rfl ?_ ?_
  rotate_left
  · rintro _ _ ⟨⟩
  rintro _ _ ⟨x1, s1, hm1, rfl, hl1, hn1, hu1, rfl⟩
  have hev := okB_ok (okB_ok (d9_eval pa) hf) hm1
  simp only [Bool.and_eq_true] at hev
  rw [prIs_eq hev.1]
  refine kPm rfl rfl ?_; refine kPv (ev_ext rfl rfl) rfl ?_; refine kPv (ev_ext rfl rfl) rfl ?_; refine kPa rfl rfl ?_; refine kPa rfl rfl ?_; refine p_nil ?_; refine go_sub (σ' := [(5, _), (4, _), (2, _), (1, _), (0, _)]) ⟨rfl, rfl, rfl, rfl, rfl, trivial⟩ ?_; refine g_seq ?_; refine g_region ?_; refine kPm rfl rfl ?_; refine kPv (ev_loadA Tryz.isAgg30 Tryz.sizeOf30 rfl rfl) rfl ?_; refine kPv (ev_build rfl (bld_87_0 _ rfl)) rfl ?_; refine kPm rfl rfl ?_; refine kPv (ev_mkf rfl rfl) rfl ?_
  refine p_call rfl (en_f Tryz.call102 rfl) (allocD_ok _ _ bd ⟨3, 1, 8⟩ cfg1 5 0 s1 hl1 hu1) .free rfl rfl ?_ ?_
  rotate_left
  · rintro _ _ ⟨⟩
  rintro _ _ ⟨x2, s2, hm2, rfl, hl2, hn2, hu2, rfl⟩
  rw [show x2 = ((0 : Int), (4 : Int)) from prIs_eq (okB_ok hev.2 hm2)]
  refine kPm rfl rfl ?_; refine kPv (ev_ext rfl rfl) rfl ?_; refine kPv (ev_ext rfl rfl) rfl ?_; refine kPa rfl rfl ?_; refine kPa rfl rfl ?_; refine p_nil ?_; refine go_sub (σ' := [(7, _), (5, _), (4, _), (1, _), (0, _)]) ⟨rfl, rfl, rfl, rfl, rfl, trivial⟩ ?_; refine g_seq ?_; refine g_region ?_; refine kPm rfl rfl ?_; refine kPv (ev_loadA Tryz.isAgg30 Tryz.sizeOf30 rfl rfl) rfl ?_; refine p_callq rfl (en_f Tryz.call46 rfl) (from_ok _ _ ⟨3, 1, 8⟩ cfg1 0 (by decide) (by decide)) .free rfl rfl ?_
  refine kPv (ev_cmp rfl rfl rfl) rfl ?_; refine kPm rfl rfl ?_; refine p_val rfl (ev_move rfl) (.on rfl rfl (beq_eq rfl)) rfl rfl ?_; refine p_val rfl (ev_cmp rfl rfl rfl) (.on rfl rfl (beq_eq rfl)) rfl rfl ?_; refine kPv (ev_pick_t rfl rfl rfl) rfl ?_; refine kPm rfl rfl ?_; refine p_val rfl (ev_move rfl) (.on rfl rfl (beq_eq rfl)) rfl rfl ?_; refine p_val rfl (ev_cmp rfl rfl rfl) (.on rfl rfl (beq_eq rfl)) rfl rfl ?_; refine kPv (ev_pick_t rfl rfl rfl) rfl ?_; refine kPa rfl rfl ?_
  refine p_nil ?_; refine go_sub (σ' := [(0, _)]) ⟨rfl, trivial⟩ ?_; refine g_ret ?_
  exact ret_tmp Tryz.results148 rfl (fun w hh => ⟨rfl, (hh.dp [0, 0])⟩)
abbrev encH (h : Int × Int) : List Value := [u8 h.1, u8 h.2]
theorem encH_w : EncW 2 encH := ⟨fun _ => rfl, fun _ => rfl⟩
theorem hh1 {a b : Int} (h1 : 0 ≤ a ∧ a < 256) (h2 : 0 ≤ b ∧ b < 256) : ∀ h ∈ [(a, b)], (0 ≤ h.1 ∧ h.1 < 256) ∧ (0 ≤ h.2 ∧ h.2 < 256) := fun h hm => by rw [List.mem_singleton.1 hm]; exact ⟨h1, h2⟩
theorem sln1 {B : World} {H : List HP} {b : Nat} {x y : Value} {T1 : TypeId} {U : List Value → List HP} [RowU H b [x, y] T1 U] {cap : Nat} : SlN B H (.slice (some ⟨b, 0, none⟩) 1 cap) 2 [[x, y]] :=
  SlN.row (cs := [[x, y]]) fun i c h => by
    cases i with
    | zero => cases h; exact ⟨rfl, fun j _ => by rw [Nat.zero_mul, Nat.zero_add, Nat.zero_add]⟩
    | succ i => cases h
theorem awake10_ok (B : World) (Fr : List HP) :
    ∀ w, Holds B Fr w → Calls Tryz.prog 141 [].toArray w (PureR B Fr (.bool true)) := by
  refine fn_enter Tryz.func141 rfl Tryz.ntmps141 rfl ?_; refine g_seq ?_; refine g_region ?_; refine kPa rfl rfl ?_; refine p_nil ?_; refine g_seq ?_; refine g_seq ?_; refine g_region ?_; refine p_callq rfl (en_f Tryz.call148 rfl) (awake9_ok _ _) .free rfl rfl ?_; refine kPv (ev_not rfl) rfl ?_; refine p_nil ?_; refine g_iff rfl (rfl) ?_; refine g_skip ?_; refine g_seq ?_; refine g_region ?_; refine kPv (ev_build rfl (bld_24_2 _ rfl)) rfl ?_
  refine kPv (ev_build rfl (bld_107_0_1 _ _ rfl rfl)) rfl ?_; refine p_chg rfl (ch_bsG encH_w (v := (1, 2)) Tryz.runUnderlying25 Tryz.sizeOf107 Tryz.zeroValue107 ⟨⟨by decide, by decide⟩, rfl⟩ rfl rfl) .free rfl rfl ?_
  rintro _ _ ⟨b17, rfl, rfl⟩
  refine p_call rfl (en_f Tryz.call67 rfl) (filled_ok _ _ 0 0 40 ⟨by decide, by decide, by decide⟩ ⟨3, 1, 48⟩ mkC48 [(1, 2)] (hh1 ⟨by decide, by decide⟩ ⟨by decide, by decide⟩) (by decide) (some ⟨b17, 0, none⟩) 1 sln1) .free rfl rfl ?_ ?_
  rotate_left
  · rintro _ _ ⟨⟩
  rintro _ _ ⟨bd, pa, N, s0, sF, out, ov, sv, hfm, hN, ⟨hus0, hf⟩, hfill, huF, hlF, hnF, hov, hsv, rfl, rfl⟩
  obtain rfl := n48 hN
  have hev := okB_ok (okB_ok (d10_eval pa) hf) hfill
  simp only [Bool.and_eq_true, beq_iff_eq] at hev
  obtain ⟨⟨⟨⟨rfl, e1⟩, e2⟩, e3⟩, e4⟩ := hev
  rw [blkIs_eq e1]
  refine go_pk [2] ?_; refine go_vecq fun qo co hqo hqi => ?_
  subst hqo
  obtain ⟨bO, oO, rfl⟩ := hqi 0 (by decide)
  have ho : ObjW (2, 1, 40) := ⟨⟨by decide, by decide⟩, ⟨by decide, by decide⟩, ⟨by decide, by decide⟩⟩
  refine kPm rfl rfl ?_; refine kPv (ev_ext rfl rfl) rfl ?_; refine kPv (ev_ext rfl rfl) rfl ?_; refine kPv (ev_ext rfl rfl) rfl ?_; refine kPv (ev_ext rfl rfl) rfl ?_; refine p_chg rfl (ch_allocA Tryz.zeroValue30 rfl) .free rfl rfl ?_
  rintro _ _ ⟨b2, rfl, rfl⟩
  refine p_chg rfl (ch_allocA Tryz.zeroValue33 rfl) .free rfl rfl ?_
  rintro _ _ ⟨b3, rfl, rfl⟩
  refine kPa rfl rfl ?_; refine p_chg0 rfl (ch_storeA (vs := _) Tryz.sizeOf30 rfl rfl rfl rfl rfl) .free rfl ?_
  rintro _ _ rfl
  refine p_chg0 rfl (ch_storeA (vs := _) Tryz.sizeOf33 rfl rfl rfl (by first | rfl | exact all3 (by assumption)) rfl) .free rfl ?_
  rintro _ _ rfl
  refine kPa rfl rfl ?_; refine p_nil ?_; refine go_sub (σ' := [(4, _), (1, _), (3, _), (2, _), (0, _)]) ⟨rfl, rfl, rfl, rfl, rfl, trivial⟩ ?_; refine g_seq ?_; refine g_seq ?_; refine g_region ?_; refine kPm rfl rfl ?_; refine kPv (ev_eqp Tryz.runUnderlying28 rfl rfl rfl) rfl ?_; refine kPm rfl rfl ?_; refine p_val rfl (ev_move rfl) (.on rfl rfl (beq_eq rfl)) rfl rfl ?_; refine p_val rfl (ev_len rfl Tryz.runUnderlying34 ⟨_, rfl⟩ rfl) (.on rfl rfl (beq_eq rfl)) rfl rfl ?_
  refine p_val rfl (ev_cmp rfl rfl rfl) (.on rfl rfl (beq_eq rfl)) rfl rfl ?_; refine kPv (ev_pick_f rfl rfl rfl) rfl ?_; refine p_nil ?_; refine g_iff rfl (rfl) ?_; refine g_skip ?_; refine g_seq ?_; refine go_conv (H' := VecA 3 i64 0 (.slice (some ⟨bO, oO, none⟩) 1 co, [40]) :: row b3 [i64 0, i64 3, sv] 33 :: row b2 [i64 3, i64 1, i64 48] 30 :: VecU 0 (sv, [0]) :: DevA bd sF :: Fr) (fun w hh => by have h := ((hh.dp [5]).pk [2]); exact h) ?_
  refine g_drawT (.br [0, 1, 2, 3, 4, 5] 6 (.fin [7, 8, 9, 10, 11, 12]) 10 (.fin [6, 7, 8, 9, 11, 12])) [6, 10, 11] [0, 1, 2, 3, 4, 5, 7, 8, 9] [10, 11] [row b2 [i64 3, i64 1, i64 48] 30, row b3 [i64 0, i64 3, sv] 33, VecA 3 i64 0 (.slice (some ⟨bO, oO, none⟩) 1 co, [40])] [1, 0] (G := Nat) (fun b5 => [(5, ptr b5), (6, i64 (sF.objOf ⟨3, 1, 48⟩ ⟨0, 3, [0]⟩ 40).2)]) (fun b5 => row b5 [i64 (sF.objOf ⟨3, 1, 48⟩ ⟨0, 3, [0]⟩ 40).1.1, i64 (sF.objOf ⟨3, 1, 48⟩ ⟨0, 3, [0]⟩ 40).1.2.1, i64 (sF.objOf ⟨3, 1, 48⟩ ⟨0, 3, [0]⟩ 40).1.2.2] 89 :: VecA 3 i64 0 (.slice (some ⟨bO, oO, none⟩) 1 co, [40]) :: row b3 [i64 0, i64 3, sv] 33 :: row b2 [i64 3, i64 1, i64 48] 30 :: VecU 0 (sv, [0]) :: DevA bd sF :: Fr) Tryz.mixed (by kernel_rfl) ?_ ?_
  · skip
    refine t_br ?_; refine v_hoist rfl rfl rfl (ev_move rfl) .free rfl ?_; refine v_hoist rfl rfl rfl (ev_loadA Tryz.isAgg30 Tryz.sizeOf30 rfl rfl) .free rfl ?_; refine v_hoist rfl rfl rfl (ev_loadA Tryz.isAgg33 Tryz.sizeOf33 rfl rfl) .free rfl ?_; refine v_hoist rfl rfl rfl (ev_move rfl) .free rfl ?_; refine v_hoist rfl rfl rfl (ev_iaS Tryz.runUnderlying34 Tryz.sizeOf3 rfl rfl (by decide) (by decide)) .free rfl ?_
    refine v_hoist rfl rfl rfl (ev_loadS (v := i64 40) Tryz.isAgg3 (vec_slr 2 rfl) rfl rfl) .free rfl ?_; refine v_nil ?_
    refine t_two rfl rfl ?_ ?_
    · skip
      refine p_callq rfl (en_f Tryz.call51 rfl) (ro_at (q := DevA) (fun Fr => obj_ok _ Fr _ _ ⟨3, 1, 48⟩ cfg48 ⟨0, 3, [0]⟩ sv ⟨⟨by decide, by decide⟩, ⟨by decide, by decide⟩⟩ hsv 40 (by decide))) .free rfl rfl ?_; refine p_nil ?_; refine t_off rfl ?_; refine t_fin ?_; refine v_hoist rfl rfl rfl (ev_move rfl) .free rfl ?_; refine v_hoist rfl rfl rfl (ev_ext rfl rfl) .free rfl ?_; refine v_hoist rfl rfl rfl (ev_ext rfl rfl) .free rfl ?_; refine v_mark rfl rfl ?_
      refine p_chg rfl (ch_allocA Tryz.zeroValue89 rfl) .free rfl rfl ?_
      rintro _ _ ⟨b5, rfl, rfl⟩
      refine p_nil ?_; refine v_on ?_; refine v_mark rfl rfl ?_; refine p_chg0 rfl (ch_storeA (vs := _) Tryz.sizeOf89 rfl rfl rfl rfl rfl) .free rfl ?_
      rintro _ _ rfl
      refine p_nil ?_; refine v_on ?_; refine v_val rfl rfl rfl (ev_assign rfl) .free rfl ?_; refine v_nil ?_
      exact fun a w st_ => ⟨b5, st_.to ⟨rfl, rfl, rfl, rfl, trivial⟩ (fun hh => hh)⟩
    · skip
      refine p_chg rfl (ch_allocA Tryz.zeroValue89 rfl) .free rfl rfl ?_
      rintro _ _ ⟨b5, rfl, rfl⟩
      refine p_nil ?_; refine t_on ?_; refine t_fin ?_; refine v_mark rfl rfl ?_; refine p_callq rfl (en_f Tryz.call51 rfl) (ro_at (q := DevA) (fun Fr => obj_ok _ Fr _ _ ⟨3, 1, 48⟩ cfg48 ⟨0, 3, [0]⟩ sv ⟨⟨by decide, by decide⟩, ⟨by decide, by decide⟩⟩ hsv 40 (by decide))) .free rfl rfl ?_; refine p_nil ?_; refine v_off rfl ?_; refine v_hoist rfl rfl rfl (ev_move rfl) .free rfl ?_; refine v_hoist rfl rfl rfl (ev_ext rfl rfl) .free rfl ?_; refine v_hoist rfl rfl rfl (ev_ext rfl rfl) .free rfl ?_
      refine v_mark rfl rfl ?_; refine p_chg0 rfl (ch_storeA (vs := _) Tryz.sizeOf89 rfl rfl rfl rfl rfl) .free rfl ?_
      rintro _ _ rfl
      refine p_nil ?_; refine v_on ?_; refine v_val rfl rfl rfl (ev_assign rfl) .free rfl ?_; refine v_nil ?_
      exact fun a w st_ => ⟨b5, st_.to ⟨rfl, rfl, rfl, rfl, trivial⟩ (fun hh => hh)⟩
  intro b5
  refine go_sub (σ' := [(5, ptr b5), (6, i64 (sF.objOf ⟨3, 1, 48⟩ ⟨0, 3, [0]⟩ 40).2), (1, _), (0, _)]) ⟨rfl, rfl, rfl, rfl, trivial⟩ ?_; refine g_seq ?_
  rw [show sF.objOf ⟨3, 1, 48⟩ ⟨0, 3, [0]⟩ 40 = (((2 : Int), (1 : Int), (40 : Int)), (0 : Int)) from obIs_eq e2]
  refine g_region ?_; refine kPv (ev_loadA Tryz.isAgg89 Tryz.sizeOf89 rfl rfl) rfl ?_; refine kPm rfl rfl ?_; refine p_callq rfl (en_f Tryz.call149 rfl) (ro_at (q := DevA) (fun Fr => oread_ok _ Fr _ _ (2, 1, 40) ho 0)) .free rfl rfl ?_; refine kPm rfl rfl ?_; refine kPv (ev_ext rfl rfl) rfl ?_; refine kPv (ev_ext rfl rfl) rfl ?_; refine kPa rfl rfl ?_; refine kPa rfl rfl ?_; refine p_nil ?_; refine go_sub (σ' := [(8, _), (5, _), (6, _), (1, _), (0, _)]) ⟨rfl, rfl, rfl, rfl, rfl, trivial⟩ ?_
  refine g_seq ?_; refine g_region ?_; refine kPv (ev_loadA Tryz.isAgg89 Tryz.sizeOf89 rfl rfl) rfl ?_; refine kPm rfl rfl ?_; refine kPv (ev_mkf rfl rfl) rfl ?_; refine go_pk [5] ?_
  refine p_call rfl (en_f Tryz.call150 rfl) (owriteD_ok B _ bd (2, 1, 40) ho 1 9 (by decide) sF hlF huF) .free rfl rfl ?_ ?_
  rotate_left
  · rintro _ _ ⟨⟩
  rintro _ _ ⟨x2, s2, hm2, rfl, hl2, hn2, hu2, rfl⟩
  have hev2 := okB_ok e4 hm2
  simp only [Bool.and_eq_true, beq_iff_eq] at hev2
  obtain ⟨f1, f2⟩ := hev2
  obtain rfl : x2 = 0 := f1
  refine kPa rfl rfl ?_; refine p_nil ?_; refine g_seq ?_; refine g_region ?_; refine kPv (ev_loadA Tryz.isAgg89 Tryz.sizeOf89 rfl rfl) rfl ?_; refine kPm rfl rfl ?_; refine p_callq rfl (en_f Tryz.call149 rfl) (ro_at (q := DevA) (fun Fr => oread_ok _ Fr _ _ (2, 1, 40) ho 1)) .free rfl rfl ?_; refine kPm rfl rfl ?_; refine kPv (ev_ext rfl rfl) rfl ?_; refine kPv (ev_ext rfl rfl) rfl ?_; refine kPa rfl rfl ?_; refine kPa rfl rfl ?_; refine p_nil ?_
  refine go_sub (σ' := [(11, _), (10, _), (9, _), (8, _), (5, _), (6, _), (1, _), (0, _)]) ⟨rfl, rfl, rfl, rfl, rfl, rfl, rfl, rfl, trivial⟩ ?_; refine g_seq ?_
  rw [show sF.objRead (2, 1, 40) 0 = ((0 : Int), (5 : Int)) from prIs_eq e3, show s2.objRead (2, 1, 40) 1 = ((9 : Int), (0 : Int)) from prIs_eq f2]
  refine g_region ?_; refine kPm rfl rfl ?_; refine kPv (ev_cmp rfl rfl rfl) rfl ?_; refine kPm rfl rfl ?_; refine p_val rfl (ev_move rfl) (.on rfl rfl (beq_eq rfl)) rfl rfl ?_; refine p_val rfl (ev_cmp rfl rfl rfl) (.on rfl rfl (beq_eq rfl)) rfl rfl ?_; refine kPv (ev_pick_t rfl rfl rfl) rfl ?_; refine kPm rfl rfl ?_; refine p_val rfl (ev_move rfl) (.on rfl rfl (beq_eq rfl)) rfl rfl ?_; refine p_val rfl (ev_cmp rfl rfl rfl) (.on rfl rfl (beq_eq rfl)) rfl rfl ?_
  refine kPv (ev_pick_t rfl rfl rfl) rfl ?_; refine kPm rfl rfl ?_; refine p_val rfl (ev_move rfl) (.on rfl rfl (beq_eq rfl)) rfl rfl ?_; refine p_val rfl (ev_cmp rfl rfl rfl) (.on rfl rfl (beq_eq rfl)) rfl rfl ?_; refine kPv (ev_pick_t rfl rfl rfl) rfl ?_; refine kPm rfl rfl ?_; refine p_val rfl (ev_move rfl) (.on rfl rfl (beq_eq rfl)) rfl rfl ?_; refine p_val rfl (ev_cmp rfl rfl rfl) (.on rfl rfl (beq_eq rfl)) rfl rfl ?_; refine kPv (ev_pick_t rfl rfl rfl) rfl ?_; refine kPm rfl rfl ?_
  refine p_val rfl (ev_loadA Tryz.isAgg89 Tryz.sizeOf89 rfl rfl) (.on rfl rfl (beq_eq rfl)) rfl rfl ?_; refine p_val rfl (ev_move rfl) (.on rfl rfl (beq_eq rfl)) rfl rfl ?_
  refine p_call rfl (en_f Tryz.call129 rfl) (onames_ok _ _ (2, 1, 40) bd) (.on rfl rfl (beq_eq rfl)) rfl rfl ?_ ?_
  rotate_left
  · rintro _ _ ⟨⟩
  rintro _ _ ⟨n1, n2, rfl, rfl⟩
  refine p_val rfl (ev_eqfn Tryz.runUnderlying188 ⟨_, _, _, rfl⟩ rfl rfl rfl) (.on rfl rfl (beq_eq rfl)) rfl rfl ?_; refine kPv (ev_pick_t rfl rfl rfl) rfl ?_; refine kPa rfl rfl ?_; refine p_nil ?_; refine go_sub (σ' := [(0, _)]) ⟨rfl, trivial⟩ ?_; refine g_ret ?_
  exact ret_tmp Tryz.results141 rfl (fun w hh => ⟨rfl, (hh.dp [0, 0, 0, 0, 0, 0, 0, 0])⟩)
theorem awake11_ok (B : World) (Fr : List HP) :
    ∀ w, Holds B Fr w → Calls Tryz.prog 126 [].toArray w (PureR B Fr (.bool true)) := by
  refine fn_enter Tryz.func126 rfl Tryz.ntmps126 rfl ?_; refine g_seq ?_; refine g_region ?_; refine kPa rfl rfl ?_; refine p_nil ?_; refine g_seq ?_; refine g_seq ?_; refine g_region ?_; refine p_callq rfl (en_f Tryz.call141 rfl) (awake10_ok _ _) .free rfl rfl ?_; refine kPv (ev_not rfl) rfl ?_; refine p_nil ?_; refine g_iff rfl (rfl) ?_; refine g_skip ?_; refine g_seq ?_; refine g_region ?_; refine kPv (ev_build rfl (bld_24_2 _ rfl)) rfl ?_; refine kPv (ev_build rfl (bld_107_1 _ rfl)) rfl ?_
  refine p_chg rfl (ch_bsG encH_w (v := (0, 1)) Tryz.runUnderlying25 Tryz.sizeOf107 Tryz.zeroValue107 ⟨⟨by decide, by decide⟩, rfl⟩ rfl rfl) .free rfl rfl ?_
  rintro _ _ ⟨b12, rfl, rfl⟩
  refine p_call rfl (en_f Tryz.call12 rfl) (linked_ok _ _ 0 0 40 ⟨by decide, by decide, by decide⟩ ⟨3, 1, 48⟩ mkC48 [(0, 1)] (hh1 ⟨by decide, by decide⟩ ⟨by decide, by decide⟩) (by decide) (some ⟨b12, 0, none⟩) _ sln1 none 0 [] SlR.nil (fun _ h => (by cases h)) (by decide) (fun _ h => absurd h (Nat.not_lt_zero _)) 0 (by decide)) .free rfl rfl ?_ ?_
  rotate_left
  · rintro _ _ ⟨⟩
  rintro _ _ ⟨bd, pa, N, s0, sF, out, hfm, hN, ⟨hus0, hf⟩, hfill, hor⟩
  obtain rfl := n48 hN
  have hev := okB_ok (okB_ok (d11_eval pa) hf) hfill
  simp only [Bool.and_eq_true, beq_iff_eq] at hev
  obtain ⟨⟨rfl, e1⟩, e2⟩ := hev
  rw [blkIs_eq e1] at hor
  rcases hor with ⟨n1, n2, s1, s2, ov, sv, hl1, hl2, hu2, hlm2, hn2, hov, hsv, rfl, rfl⟩ | ⟨s1, hl1, _⟩
  rotate_left
  · have e3 := okB_ok e2 hl1
    simp only [Bool.and_eq_true, beq_iff_eq] at e3
    exact absurd e3.1 (by simp)
  have e3 := okB_ok e2 hl1
  simp only [Bool.and_eq_true, beq_iff_eq] at e3
  obtain ⟨e4, e5⟩ := e3
  obtain rfl : n1 = 0 := by injection e4
  have e6 := okB_ok e5 hl2
  simp only [Bool.and_eq_true, beq_iff_eq] at e6
  obtain ⟨⟨e7, e8⟩, e9⟩ := e6
  rw [blkIs_eq e7]
  refine go_pk [2] ?_; refine go_vecq fun qo co hqo hqi => ?_
  subst hqo
  obtain ⟨bO, oO, rfl⟩ := hqi 0 (by decide)
  refine kPm rfl rfl ?_; refine kPv (ev_ext rfl rfl) rfl ?_; refine kPv (ev_ext rfl rfl) rfl ?_; refine kPv (ev_ext rfl rfl) rfl ?_; refine kPv (ev_ext rfl rfl) rfl ?_; refine p_chg rfl (ch_allocA Tryz.zeroValue30 rfl) .free rfl rfl ?_
  rintro _ _ ⟨b2, rfl, rfl⟩
  refine p_chg rfl (ch_allocA Tryz.zeroValue33 rfl) .free rfl rfl ?_
  rintro _ _ ⟨b3, rfl, rfl⟩
  refine kPa rfl rfl ?_; refine p_chg0 rfl (ch_storeA (vs := _) Tryz.sizeOf30 rfl rfl rfl rfl rfl) .free rfl ?_
  rintro _ _ rfl
  refine p_chg0 rfl (ch_storeA (vs := _) Tryz.sizeOf33 rfl rfl rfl (by first | rfl | exact all3 (by assumption)) rfl) .free rfl ?_
  rintro _ _ rfl
  refine kPa rfl rfl ?_; refine p_nil ?_; refine go_sub (σ' := [(4, _), (1, _), (3, _), (2, _), (0, _)]) ⟨rfl, rfl, rfl, rfl, rfl, trivial⟩ ?_; refine g_seq ?_; refine g_seq ?_; refine g_region ?_; refine kPm rfl rfl ?_; refine kPv (ev_eqp Tryz.runUnderlying28 rfl rfl rfl) rfl ?_; refine kPm rfl rfl ?_; refine p_val rfl (ev_move rfl) (.on rfl rfl (beq_eq rfl)) rfl rfl ?_; refine p_val rfl (ev_loadA Tryz.isAgg30 Tryz.sizeOf30 rfl rfl) (.on rfl rfl (beq_eq rfl)) rfl rfl ?_
  refine p_val rfl (ev_loadA Tryz.isAgg33 Tryz.sizeOf33 rfl rfl) (.on rfl rfl (beq_eq rfl)) rfl rfl ?_
  refine p_call rfl (en_f Tryz.call83 rfl) (wobjs_ok _ _ bd ⟨3, 1, 48⟩ ⟨0, 2, [0]⟩ sv hsv) (.on rfl rfl (beq_eq rfl)) rfl rfl ?_ ?_
  rotate_left
  · rintro _ _ ⟨⟩
  rintro _ _ ⟨c3, c4, c5, rfl, rfl⟩
  refine p_val rfl (ev_eqfn Tryz.runUnderlying131 ⟨_, _, _, rfl⟩ rfl rfl rfl) (.on rfl rfl (beq_eq rfl)) rfl rfl ?_; refine kPv (ev_pick_f rfl rfl rfl) rfl ?_; refine p_nil ?_; refine go_sub (σ' := [(26, _), (4, _), (1, _), (3, _), (2, _), (0, _)]) ⟨rfl, rfl, rfl, rfl, rfl, rfl, trivial⟩ ?_; refine g_iff rfl (rfl) ?_; refine g_skip ?_; refine g_seq ?_; refine g_region ?_; refine kPm rfl rfl ?_; refine kPv (ev_loadA Tryz.isAgg30 Tryz.sizeOf30 rfl rfl) rfl ?_
  refine kPv (ev_loadA Tryz.isAgg33 Tryz.sizeOf33 rfl rfl) rfl ?_; refine go_pk [7] ?_
  refine p_call rfl (en_f Tryz.call80 rfl) (wstarts_ok _ _ bd s2 ⟨3, 1, 48⟩ cfg48 ⟨0, 2, [0]⟩ sv ⟨⟨by decide, by decide⟩, ⟨by decide, by decide⟩⟩ hsv) .free rfl rfl ?_ ?_
  rotate_left
  · rintro _ _ ⟨⟩
  rintro _ _ ⟨mb, rfl, rfl⟩
  rw [e8, e9]
  refine kPm rfl rfl ?_; refine kPv (ev_ext rfl rfl) rfl ?_; refine kPv (ev_ext rfl rfl) rfl ?_; refine kPa rfl rfl ?_; refine kPa rfl rfl ?_; refine p_nil ?_; refine go_sub (σ' := [(6, _), (5, _), (4, _), (0, _)]) ⟨rfl, rfl, rfl, rfl, trivial⟩ ?_; refine g_seq ?_; refine g_region ?_; refine kPm rfl rfl ?_; refine kPv (ev_cmp rfl rfl rfl) rfl ?_; refine kPm rfl rfl ?_; refine p_val rfl (ev_move rfl) (.on rfl rfl (beq_eq rfl)) rfl rfl ?_
  refine p_val rfl (ev_lenM rfl Tryz.runUnderlying124 rfl) (.on rfl rfl (beq_eq rfl)) rfl rfl ?_; refine p_val rfl (ev_cmp rfl rfl rfl) (.on rfl rfl (beq_eq rfl)) rfl rfl ?_; refine kPv (ev_pick_t rfl rfl rfl) rfl ?_; refine kPm rfl rfl ?_; refine p_val rfl (ev_move rfl) (.on rfl rfl (beq_eq rfl)) rfl rfl ?_; refine p_val rfl (ev_len rfl Tryz.runUnderlying34 ⟨_, rfl⟩ rfl) (.on rfl rfl (beq_eq rfl)) rfl rfl ?_; refine p_val rfl (ev_cmp rfl rfl rfl) (.on rfl rfl (beq_eq rfl)) rfl rfl ?_
  refine kPv (ev_pick_t rfl rfl rfl) rfl ?_; refine kPm rfl rfl ?_; refine p_val rfl (ev_move rfl) (.on rfl rfl (beq_eq rfl)) rfl rfl ?_; refine p_val rfl (ev_move rfl) (.on rfl rfl (beq_eq rfl)) rfl rfl ?_; refine p_val rfl (ev_iaS Tryz.runUnderlying34 Tryz.sizeOf3 rfl rfl (by decide) (by decide)) (.on rfl rfl (beq_eq rfl)) rfl rfl ?_; refine p_val rfl (ev_loadS (v := i64 40) Tryz.isAgg3 (vec_slr 7 rfl) rfl rfl) (.on rfl rfl (beq_eq rfl)) rfl rfl ?_
  refine p_val rfl ((ev_lookup1 Tryz.runUnderlying124 Tryz.runUnderlying3 Tryz.zeroValue89 rfl rfl).eq (mval_o _)) (.on rfl rfl (beq_eq rfl)) rfl rfl ?_; refine p_val rfl (ev_fieldA Tryz.runUnderlying89 (t := 87) (off := 0) rfl Tryz.isAgg87 Tryz.sizeOf87 rfl) (.on rfl rfl (beq_eq rfl)) rfl rfl ?_; refine p_val rfl (ev_field1 Tryz.runUnderlying87 (t := 3) (off := 0) rfl Tryz.isAgg3 rfl rfl) (.on rfl rfl (beq_eq rfl)) rfl rfl ?_
  refine p_val rfl (ev_cmp rfl rfl rfl) (.on rfl rfl (beq_eq rfl)) rfl rfl ?_; refine kPv (ev_pick_t rfl rfl rfl) rfl ?_; refine kPa rfl rfl ?_; refine p_nil ?_; refine go_sub (σ' := [(0, _)]) ⟨rfl, trivial⟩ ?_; refine g_ret ?_
  exact ret_tmp Tryz.results126 rfl (fun w hh => ⟨rfl, (hh.dp [0, 0, 0, 0, 0, 0, 0, 0, 0, 0])⟩)
end Go.Proofs.YtbfheafpecgphaaGreat
namespace Go.Proofs.YtbfheafpecgphaaGreat
open Go
structure TabS where
  at_ : List (Int × Int)
  no : List (Int × Int)
  last : Int
def TabS.take (T : TabS) (p : Int) : Int × TabS :=
  if p = 0 then (0, T) else if (mget T.no p).isSome = true then ((mget T.no p).getD 0, T)
  else (T.last + 1, ⟨mset T.at_ (T.last + 1) p, mset T.no p (T.last + 1), T.last + 1⟩)
end Go.Proofs.YtbfheafpecgphaaGreat
namespace Go.Proofs.YtbfheafpecgphaaGreat
open Go
def hs2 : List (Int × Int) := [(0, 1), (0, 2)]
theorem hh2 : ∀ h ∈ [((0 : Int), (1 : Int)), (0, 2)], (0 ≤ h.1 ∧ h.1 < 256) ∧ (0 ≤ h.2 ∧ h.2 < 256) := fun h hm => by
  simp only [List.mem_cons, List.not_mem_nil, or_false] at hm
  rcases hm with rfl | rfl <;> exact ⟨by decide, by decide⟩
theorem sln2 {B : World} {H : List HP} {b : Nat} {x y z u : Value} {T1 : TypeId} {U : List Value → List HP} [RowU H b [x, y, z, u] T1 U] {cap : Nat} : SlN B H (.slice (some ⟨b, 0, none⟩) 2 cap) 2 [[x, y], [z, u]] :=
  SlN.row (cs := [[x, y], [z, u]]) fun i c h => by
    cases i with
    | zero =>
      cases h
      refine ⟨rfl, fun j hj => ?_⟩
      rcases j with _ | _ | j
      · rfl
      · rfl
      · omega
    | succ i =>
      cases i with
      | zero =>
        cases h
        refine ⟨rfl, fun j hj => ?_⟩
        rcases j with _ | _ | j
        · rfl
        · rfl
        · omega
      | succ i => cases h
theorem ch_bsG2 {α : Type} {B : World} {σ : Env} {H : List HP} {P : Program} {m : Nat} {enc : α → List Value} (he : EncW m enc) {d : Option Tmp} {ty : TypeId} {p : String} {af : Array Edge} {g : Option (Nat × Bool)} {t e : TypeId} {x y : Operand} {v u : α} {xv yv z : Value} (ht : ∀ w, (underlying t).run P w = .ok (.slice e) w) (hs : ∀ w, (sizeOf e).run P w = .ok m w) (hz : ∀ w, (zeroValue e).run P w = .ok z w) (hm0 : (0 < m ∧ m ≤ 1000) ∧ z.cells.size = m) (hx : evO σ x = some xv) (hv : xv.cells = (enc v).toArray) (hy : evO σ y = some yv) (hu : yv.cells = (enc u).toArray) :
    Chg P B σ H ⟨d, .buildSlice t 2 #[(0, x), (1, y)], ty, p, af, g⟩ (fun r H' => ∃ b, r = .slice (some ⟨b, 0, none⟩) 2 2 ∧ H' = row b (enc v ++ enc u) e :: H) := by
  intro a w kn hh
  refine ⟨.value (.slice (some ⟨w.heap.size, 0, none⟩) 2 2), { w with heap := w.heap.push (.cells (enc v ++ enc u).toArray e) }, ?_, _, .inl rfl, _, ⟨_, rfl, rfl⟩, by simpa [row] using hh.new _⟩
  have h1 : m ≠ 0 := by omega
  have h2 : ¬ 16777216 < 2 * m := by omega
  have hl : (enc v).length = m := he.len v
  have hl2 : (enc u).length = m := he.len u
  have key : ∀ (k : Nat) (vs : List Value) (a : Array Value) (j : Nat), k + vs.length ≤ a.size → (List.foldl (fun (cs : Array Value) (x : Value × Nat) => cs.setIfInBounds (k + x.2) x.1) a vs.zipIdx)[j]? = if k ≤ j ∧ j < k + vs.length then vs[j - k]? else a[j]? := by
    intro k vs a j h
    have := foldl_get vs k a h j
    rw [← this]
    congr 1
    have hz : vs.zipIdx k = vs.zipIdx.map fun x => (x.1, k + x.2) := by
      apply List.ext_getElem?
      intro i
      simp [List.getElem?_zipIdx]
      cases vs[i]? <;> simp
    rw [hz, List.foldl_map]
  have hsz : ∀ (g : Nat → Nat) (l : List (Value × Nat)) (a : Array Value), (List.foldl (fun (cs : Array Value) (x : Value × Nat) => cs.setIfInBounds (g x.2) x.1) a l).size = a.size := by
    intro g l
    induction l with
    | nil => intro a; rfl
    | cons x l ih => intro a; rw [List.foldl_cons, ih]; simp
  simp [execOp, Instr.buildSlice, ht, hs, Instr.fill, run_newRow, hz, kn.eval hx, hv, kn.eval hy, hu, h1, h2, hl, hl2]
  generalize hA : Array.map (fun x => z.cells[x % z.cells.size]!) (Array.range (2 * m)) = A
  have hAs : A.size = 2 * m := by rw [← hA]; simp
  rw [if_neg (by omega), if_neg (by omega), if_neg (by rw [hsz (fun x => x) _ A]; omega)]
  generalize hF : List.foldl (fun (cs : Array Value) (x : Value × Nat) => cs.setIfInBounds x.snd x.fst) A (enc v).zipIdx = F
  have hFs : F.size = 2 * m := by rw [← hF, hsz (fun x => x) _ A]; exact hAs
  have hF2 : ∀ j, F[j]? = if j < m then (enc v)[j]? else A[j]? := fun j => by
    have := foldl_get (enc v) 0 A (by omega) j
    rw [← hF, this]
    simp [hl]
  have e9 : List.foldl (fun (cs : Array Value) (x : Value × Nat) => cs.setIfInBounds (m + x.snd) x.fst) F (enc u).zipIdx = (enc v ++ enc u).toArray := by
    apply Array.ext_getElem?
    intro j
    rw [key m (enc u) F j (by omega), hF2, show (enc v ++ enc u).toArray[j]? = (enc v ++ enc u)[j]? by simp, List.getElem?_append, hl, hl2]
    by_cases h3 : j < m
    · rw [if_neg (by omega), if_pos h3, if_pos h3]
    · rw [if_neg h3]
      by_cases h4 : j < m + m
      · rw [if_pos (by omega), if_neg h3]
      · rw [if_neg (by omega), if_neg h3, List.getElem?_eq_none (by omega), Array.getElem?_eq_none (by omega)]
  simp only [e9]
  rfl
theorem d13_eval (pa : Nat) : okB ((dev0 pa [] 136).format c48) (fun _ s => okB (fillN c48 [(0, 1), (0, 2)] s []) fun out sF => out == [40, 42] && blkIs (sF.block c48) ⟨0, 5, [0]⟩ 0 && okB (linkObjs c48 ⟨0, 5, [0]⟩ (pickL [] [40, 42] 0) [40, 42] 0 sF) fun n1 s1 => n1 == some 0 && okB (linkRoots c48 (pickL [] [40, 42] 0) 1 0 0 s1) fun _ s2 => blkIs (s2.block c48) ⟨0, 5, [0]⟩ 0 && s2.reachSize c48 ⟨0, 5, [0]⟩ [] == 0 && s2.reachSize c48 ⟨0, 5, [0]⟩ [42] == 3) = true := by kernel_rfl
theorem d14_eval (pa bd : Nat) : okB ((dev0 pa [] 136).format c48) (fun _ s => okB (fillN c48 [(0, 1)] s []) fun out sF => out == [40] && blkIs (sF.block c48) ⟨0, 2, [0]⟩ 0 && okB (linkObjs c48 ⟨0, 2, [0]⟩ (pickL [] [40] 0) [40] 0 sF) fun n1 s1 => n1 == some 0 && okB (linkRoots c48 (pickL [] [40] 0) 1 0 0 s1) fun _ s2 => blkIs (s2.block c48) ⟨0, 2, [0]⟩ 0 && okB ((newCol bd c48 ⟨0, 2, [0]⟩ [0]).step s2) fun r s3 => !r.1 && okB (r.2.step s3) fun r2 _ => r2.1 && blkIs (r2.2.block, 0) ⟨1, 0, [0]⟩ 0) = true := by kernel_rfl
def went1 (o : Option ColS) (w v : Int) : Bool := match o with
  | some X => (mget X.went w).getD 0 == v
  | none => false
theorem d15_eval (pa bd : Nat) : okB ((dev0 pa [] 136).format c48) (fun _ s => okB (fillN c48 [(0, 1), (0, 2)] s []) fun out sF => out == [40, 42] && blkIs (sF.block c48) ⟨0, 5, [0]⟩ 0 && okB (linkObjs c48 ⟨0, 5, [0]⟩ (pickL [] [40, 42] 0) [40, 42] 0 sF) fun n1 s1 => n1 == some 0 && okB (linkRoots c48 (pickL [] [40, 42] 0) 1 0 0 s1) fun _ s2 => blkIs (s2.block c48) ⟨0, 5, [0]⟩ 0 && (openL bd c48 s2).n == 0 && okB (collectM bd c48 ⟨openL bd c48 s2, 0, 0, [], []⟩ s2 [42]) fun r s3 => r.2.1 == 0 && went1 r.1 42 88 && blkIs (s3.block c48) ⟨1, 3, [0]⟩ 0) = true := by kernel_rfl
theorem awake12_ok (B : World) (Fr : List HP) :
    ∀ w, Holds B Fr w → Calls Tryz.prog 118 [].toArray w (PureR B Fr (.bool true)) := by
  refine fn_enter Tryz.func118 rfl Tryz.ntmps118 rfl ?_; refine g_seq ?_; refine g_region ?_; refine kPa rfl rfl ?_; refine p_nil ?_; refine g_seq ?_; refine g_seq ?_; refine g_region ?_; refine p_callq rfl (en_f Tryz.call126 rfl) (awake11_ok _ _) .free rfl rfl ?_; refine kPv (ev_not rfl) rfl ?_; refine p_nil ?_; refine g_iff rfl (rfl) ?_; refine g_skip ?_; refine g_seq ?_; refine g_region ?_; refine kPv (ev_build rfl (bld_30_0_1_2 _ _ _ rfl rfl rfl)) rfl ?_
  refine p_chg rfl (ch_allocA Tryz.zeroValue30 rfl) .free rfl rfl ?_
  rintro _ _ ⟨b1, rfl, rfl⟩
  refine p_chg0 rfl (ch_storeA (vs := _) Tryz.sizeOf30 rfl rfl rfl rfl rfl) .free rfl ?_
  rintro _ _ rfl
  refine p_nil ?_; refine g_seq ?_; refine g_region ?_; refine kPv (ev_loadA Tryz.isAgg30 Tryz.sizeOf30 rfl rfl) rfl ?_
  refine p_call rfl (en_f Tryz.call101 rfl) (formatted_ok _ _ ⟨3, 1, 8⟩ cfg1 none 0 [] (by decide) (fun _ h => absurd h (Nat.not_lt_zero _)) SlR.nil) .free rfl rfl ?_ ?_
  rotate_left
  · rintro _ _ ⟨⟩
  rintro _ _ ⟨bd, pa, N, s0, hN, hf, rfl, rfl⟩
  obtain rfl : N = 56 := by have : (N : Int) = 56 := hN.trans (by decide); omega
  have hfm := fmt_of cfg1 hN hf
  have hu0 := format_u64 (dev0_u64 pa 56) cfg1 hf
  have hev := okB_ok (d12_eval pa) hf
  simp only [Bool.and_eq_true, beq_iff_eq] at hev
  refine kPm rfl rfl ?_; refine kPv (ev_ext rfl rfl) rfl ?_; refine kPv (ev_ext rfl rfl) rfl ?_; refine kPa rfl rfl ?_; refine kPa rfl rfl ?_; refine p_nil ?_; refine go_sub (σ' := [(3, _), (2, _), (1, _), (0, _)]) ⟨rfl, rfl, rfl, rfl, trivial⟩ ?_; refine g_seq ?_; refine g_seq ?_; refine g_region ?_; refine kPm rfl rfl ?_; refine kPv (ev_not rfl) rfl ?_; refine kPm rfl rfl ?_; refine p_val rfl (ev_move rfl) (.on rfl rfl (beq_eq rfl)) rfl rfl ?_
  refine p_val rfl (ev_loadA Tryz.isAgg30 Tryz.sizeOf30 rfl rfl) (.on rfl rfl (beq_eq rfl)) rfl rfl ?_; refine p_callq rfl (en_f Tryz.call27 rfl) (ro_at (q := DevA) (fun Fr => ccheck_ok _ Fr _ s0 ⟨3, 1, 8⟩ cfg1 hu0)) (.on rfl rfl (beq_eq rfl)) rfl rfl ?_; refine p_val rfl (ev_cmp rfl rfl rfl) (.on rfl rfl (beq_eq rfl)) rfl rfl ?_; refine kPv (ev_pick_f rfl rfl rfl) rfl ?_; refine p_nil ?_; refine go_sub (σ' := [(19, _), (2, _), (1, _), (0, _)]) ⟨rfl, rfl, rfl, rfl, trivial⟩ ?_
  refine g_iff rfl (by rw [hev.1]; rfl) ?_
  refine g_skip ?_; refine g_seq ?_; refine g_region ?_; refine kPm rfl rfl ?_; refine kPv (ev_loadA Tryz.isAgg30 Tryz.sizeOf30 rfl rfl) rfl ?_; refine p_callq rfl (en_f Tryz.call71 rfl) (root_ok _ _ ⟨3, 1, 8⟩ cfg1 0 (by decide) (by decide)) .free rfl rfl ?_
  refine p_call rfl (en_f Tryz.call70 rfl) (nstoreL_ok _ _ bd s0 34 5 hfm.lim hu0 (by decide)) .free rfl rfl ?_ ?_
  rotate_left
  · rintro _ _ ⟨⟩
  rintro _ _ ⟨x1, s1, hm1, rfl, hl1, hn1, hu1, rfl⟩
  have hev2 := okB_ok hev.2 hm1
  simp only [beq_iff_eq] at hev2
  refine p_nil ?_; refine g_seq ?_; refine g_region ?_; refine kPm rfl rfl ?_; refine kPv (ev_loadA Tryz.isAgg30 Tryz.sizeOf30 rfl rfl) rfl ?_; refine p_callq rfl (en_f Tryz.call27 rfl) (ro_at (q := DevA) (fun Fr => ccheck_ok _ Fr _ s1 ⟨3, 1, 8⟩ cfg1 hu1)) .free rfl rfl ?_; refine kPv (ev_cmp rfl rfl rfl) rfl ?_; refine kPa rfl rfl ?_; refine p_nil ?_; refine go_sub (σ' := [(0, _)]) ⟨rfl, trivial⟩ ?_; refine g_ret ?_
  exact ret_tmp Tryz.results118 rfl (fun w hh => ⟨by rw [hev2]; rfl, (hh.dp [0, 0])⟩)
theorem awake13_ok (B : World) (Fr : List HP) :
    ∀ w, Holds B Fr w → Calls Tryz.prog 99 [].toArray w (PureR B Fr (.bool true)) := by
  refine fn_enter Tryz.func99 rfl Tryz.ntmps99 rfl ?_; refine g_seq ?_; refine g_region ?_; refine kPa rfl rfl ?_; refine p_nil ?_; refine g_seq ?_; refine g_seq ?_; refine g_region ?_; refine p_callq rfl (en_f Tryz.call118 rfl) (awake12_ok _ _) .free rfl rfl ?_; refine kPv (ev_not rfl) rfl ?_; refine p_nil ?_; refine g_iff rfl (rfl) ?_; refine g_skip ?_; refine g_seq ?_; refine g_region ?_; refine kPv (ev_build rfl (bld_24_2 _ rfl)) rfl ?_; refine kPv (ev_build rfl (bld_107_1 _ rfl)) rfl ?_
  refine kPv (ev_build rfl (bld_107_1 _ rfl)) rfl ?_; refine p_chg rfl (ch_bsG2 encH_w (v := (0, 1)) (u := (0, 2)) Tryz.runUnderlying25 Tryz.sizeOf107 Tryz.zeroValue107 ⟨⟨by decide, by decide⟩, rfl⟩ rfl rfl rfl rfl) .free rfl rfl ?_
  rintro _ _ ⟨b11, rfl, rfl⟩
  refine p_call rfl (en_f Tryz.call12 rfl) (linked_ok _ _ 0 0 40 ⟨by decide, by decide, by decide⟩ ⟨3, 1, 48⟩ mkC48 [(0, 1), (0, 2)] (hh2) (by decide) (some ⟨b11, 0, none⟩) _ sln2 none 0 [] SlR.nil (fun _ h => (by cases h)) (by decide) (fun _ h => absurd h (Nat.not_lt_zero _)) 0 (by decide)) .free rfl rfl ?_ ?_
  rotate_left
  · rintro _ _ ⟨⟩
  rintro _ _ ⟨bd, pa, N, s0, sF, out, hfm, hN, ⟨hus0, hf⟩, hfill, hor⟩
  obtain rfl := n48 hN
  have hev := okB_ok (okB_ok (d13_eval pa) hf) hfill
  simp only [Bool.and_eq_true, beq_iff_eq] at hev
  obtain ⟨⟨rfl, e1⟩, e2⟩ := hev
  rw [blkIs_eq e1] at hor
  rcases hor with ⟨n1, n2, s1, s2, ov, sv, hl1, hl2, hu2, hlm2, hn2, hov, hsv, rfl, rfl⟩ | ⟨s1, hl1, _⟩
  rotate_left
  · have e3 := okB_ok e2 hl1
    simp only [Bool.and_eq_true, beq_iff_eq] at e3
    exact absurd e3.1 (by simp)
  have e3 := okB_ok e2 hl1
  simp only [Bool.and_eq_true, beq_iff_eq] at e3
  obtain ⟨e4, e5⟩ := e3
  obtain rfl : n1 = 0 := by injection e4
  have e6 := okB_ok e5 hl2
  simp only [Bool.and_eq_true, beq_iff_eq] at e6
  obtain ⟨⟨e7, e8⟩, e9⟩ := e6
  rw [blkIs_eq e7]
  refine go_pk [2] ?_; refine go_vecq fun qo co hqo hqi => ?_
  subst hqo
  obtain ⟨bO, oO, rfl⟩ := hqi 0 (by decide)
  refine kPm rfl rfl ?_; refine kPv (ev_ext rfl rfl) rfl ?_; refine kPv (ev_ext rfl rfl) rfl ?_; refine kPv (ev_ext rfl rfl) rfl ?_; refine kPv (ev_ext rfl rfl) rfl ?_; refine p_chg rfl (ch_allocA Tryz.zeroValue30 rfl) .free rfl rfl ?_
  rintro _ _ ⟨b2, rfl, rfl⟩
  refine p_chg rfl (ch_allocA Tryz.zeroValue33 rfl) .free rfl rfl ?_
  rintro _ _ ⟨b3, rfl, rfl⟩
  refine kPa rfl rfl ?_; refine p_chg0 rfl (ch_storeA (vs := _) Tryz.sizeOf30 rfl rfl rfl rfl rfl) .free rfl ?_
  rintro _ _ rfl
  refine p_chg0 rfl (ch_storeA (vs := _) Tryz.sizeOf33 rfl rfl rfl (by first | rfl | exact all3 (by assumption)) rfl) .free rfl ?_
  rintro _ _ rfl
  refine kPa rfl rfl ?_; refine p_nil ?_; refine go_sub (σ' := [(4, _), (1, _), (3, _), (2, _), (0, _)]) ⟨rfl, rfl, rfl, rfl, rfl, trivial⟩ ?_; refine g_seq ?_; refine g_seq ?_; refine g_region ?_; refine kPm rfl rfl ?_; refine kPv (ev_eqp Tryz.runUnderlying28 rfl rfl rfl) rfl ?_; refine kPm rfl rfl ?_; refine p_val rfl (ev_move rfl) (.on rfl rfl (beq_eq rfl)) rfl rfl ?_; refine p_val rfl (ev_len rfl Tryz.runUnderlying34 ⟨_, rfl⟩ rfl) (.on rfl rfl (beq_eq rfl)) rfl rfl ?_
  refine p_val rfl (ev_cmp rfl rfl rfl) (.on rfl rfl (beq_eq rfl)) rfl rfl ?_; refine kPv (ev_pick_f rfl rfl rfl) rfl ?_; refine kPm rfl rfl ?_; refine p_val rfl (ev_move rfl) (.on rfl rfl (beq_eq rfl)) rfl rfl ?_; refine p_val rfl (ev_loadA Tryz.isAgg30 Tryz.sizeOf30 rfl rfl) (.on rfl rfl (beq_eq rfl)) rfl rfl ?_; refine p_val rfl (ev_loadA Tryz.isAgg33 Tryz.sizeOf33 rfl rfl) (.on rfl rfl (beq_eq rfl)) rfl rfl ?_
  refine p_call rfl (en_f Tryz.call119 rfl) (wfrom_ok _ _ bd ⟨3, 1, 48⟩ ⟨0, 5, [0]⟩ sv hsv (.slice none 0 0) rfl) (.on rfl rfl (beq_eq rfl)) rfl rfl ?_ ?_
  rotate_left
  · rintro _ _ ⟨⟩
  rintro _ _ ⟨c1, c2, c3, c4, rfl, rfl⟩
  refine p_val rfl (ev_eqfn Tryz.runUnderlying178 ⟨_, _, _, rfl⟩ rfl rfl rfl) (.on rfl rfl (beq_eq rfl)) rfl rfl ?_; refine kPv (ev_pick_f rfl rfl rfl) rfl ?_; refine p_nil ?_; refine go_sub (σ' := [(30, _), (4, _), (1, _), (3, _), (2, _), (0, _)]) ⟨rfl, rfl, rfl, rfl, rfl, rfl, trivial⟩ ?_; refine g_iff rfl (rfl) ?_; refine g_skip ?_; refine g_seq ?_
  refine go_conv (H' := DevA bd s2 :: VecA 3 i64 0 (.slice (some ⟨bO, oO, none⟩) 2 co, [40, 42]) :: row b3 [i64 0, i64 5, sv] 33 :: row b2 [i64 3, i64 1, i64 48] 30 :: VecU 0 (sv, [0]) :: Fr) (fun w hh => by have h := ((hh.dp [0, 0, 0, 0, 5]).pk [4, 2]); exact h) ?_
  refine g_drawv [0, 1, 2, 3, 4, 5, 6, 7, 8, 9, 10, 11, 12, 13, 14, 15, 16, 17] [3, 13, 14] [6, 7, 8] [13] [row b2 [i64 3, i64 1, i64 48] 30, row b3 [i64 0, i64 5, sv] 33, VecA 3 i64 0 (.slice (some ⟨bO, oO, none⟩) 2 co, [40, 42])] Tryz.mixed (by kernel_rfl) ?_; refine v_val rfl rfl rfl (ev_move rfl) .free rfl ?_; refine v_val rfl rfl rfl (ev_loadA Tryz.isAgg30 Tryz.sizeOf30 rfl rfl) .free rfl ?_; refine v_val rfl rfl rfl (ev_loadA Tryz.isAgg33 Tryz.sizeOf33 rfl rfl) .free rfl ?_
  refine v_mark rfl rfl ?_; refine p_callq rfl (en_f Tryz.call120 rfl) (wsize_ok B _ bd ⟨3, 1, 48⟩ cfg48 ⟨0, 5, [0]⟩ sv ⟨⟨by decide, by decide⟩, ⟨by decide, by decide⟩⟩ hsv s2 none 0 [] (fun _ h => (by cases h)) (by decide) (fun _ h => absurd h (Nat.not_lt_zero _)) SlR.nil) .free rfl rfl ?_; refine p_nil ?_; refine v_off rfl ?_; refine v_val rfl rfl rfl (ev_cmp rfl rfl rfl) .free rfl ?_; refine v_val rfl rfl rfl (ev_move rfl) .free rfl ?_
  refine v_hoist rfl rfl rfl (ev_move rfl) (.on rfl rfl (beq_eq (by rw [e8]; rfl))) rfl ?_
  refine v_hoist rfl rfl rfl (ev_loadA Tryz.isAgg30 Tryz.sizeOf30 rfl rfl) (.on rfl rfl (beq_eq (by rw [e8]; rfl))) rfl ?_
  refine v_hoist rfl rfl rfl (ev_loadA Tryz.isAgg33 Tryz.sizeOf33 rfl rfl) (.on rfl rfl (beq_eq (by rw [e8]; rfl))) rfl ?_
  refine v_val rfl rfl rfl (ev_move rfl) (.on rfl rfl (beq_eq (by rw [e8]; rfl))) rfl ?_
  refine v_val rfl rfl rfl (ev_iaS Tryz.runUnderlying34 Tryz.sizeOf3 rfl rfl (by decide) (by decide)) (.on rfl rfl (beq_eq (by rw [e8]; rfl))) rfl ?_
  refine v_val rfl rfl rfl (ev_loadS (v := i64 42) Tryz.isAgg3 (vec_slr 1 rfl) rfl rfl) (.on rfl rfl (beq_eq (by rw [e8]; rfl))) rfl ?_
  refine v_val rfl rfl rfl (ev_conv (c := 42) Tryz.runUnderlying3 Tryz.runUnderlying52 rfl (by decide)) (.on rfl rfl (beq_eq (by rw [e8]; rfl))) rfl ?_
  refine v_mark rfl rfl ?_; refine p_chg rfl (ch_bs1 Tryz.runUnderlying31 Tryz.sizeOf52 Tryz.zeroValue52 rfl rfl rfl) (.on rfl rfl (beq_eq (by rw [e8]; rfl))) rfl rfl ?_
  rintro _ _ ⟨b44, rfl, rfl⟩
  refine p_nil ?_; refine v_on ?_; refine go_pk [1] ?_; refine v_mark rfl rfl ?_; refine p_callq rfl (en_f Tryz.call120 rfl) (wsize_ok B _ bd ⟨3, 1, 48⟩ cfg48 ⟨0, 5, [0]⟩ sv ⟨⟨by decide, by decide⟩, ⟨by decide, by decide⟩⟩ hsv s2 (some ⟨b44, 0, none⟩) 1 [42] (fun v h => by rw [List.mem_singleton.1 h]; decide) (by decide) (fun _ _ => ⟨_, _, rfl⟩) (SlR.row (b := b44) rfl rfl)) (.on rfl rfl (beq_eq (by rw [e8]; rfl))) rfl rfl ?_
  refine p_nil ?_; refine v_off rfl ?_; refine v_val rfl rfl rfl (ev_cmp rfl rfl rfl) (.on rfl rfl (beq_eq (by rw [e8]; rfl))) rfl ?_
  refine v_val rfl rfl rfl (ev_pick_t rfl (by rw [e8]; rfl) rfl) .free rfl ?_
  refine v_val rfl rfl rfl (ev_assign rfl) .free rfl ?_; refine v_nil ?_; refine go_sub (σ' := [(0, _)]) ⟨rfl, trivial⟩ ?_; refine g_ret ?_
  exact ret_tmp Tryz.results99 rfl (fun w hh => ⟨by rw [e9]; rfl, (hh.dp [0, 0, 0, 0, 0, 0])⟩)
theorem awake14_ok (B : World) (Fr : List HP) :
    ∀ w, Holds B Fr w → Calls Tryz.prog 66 [].toArray w (PureR B Fr (.bool true)) := by
  refine fn_enter Tryz.func66 rfl Tryz.ntmps66 rfl ?_; refine g_seq ?_; refine g_region ?_; refine kPa rfl rfl ?_; refine p_nil ?_; refine g_seq ?_; refine g_seq ?_; refine g_region ?_; refine p_callq rfl (en_f Tryz.call99 rfl) (awake13_ok _ _) .free rfl rfl ?_; refine kPv (ev_not rfl) rfl ?_; refine p_nil ?_; refine g_iff rfl (rfl) ?_; refine g_skip ?_; refine g_seq ?_; refine g_region ?_; refine kPv (ev_build rfl (bld_24_2 _ rfl)) rfl ?_; refine kPv (ev_build rfl (bld_107_1 _ rfl)) rfl ?_
  refine p_chg rfl (ch_bsG encH_w (v := (0, 1)) Tryz.runUnderlying25 Tryz.sizeOf107 Tryz.zeroValue107 ⟨⟨by decide, by decide⟩, rfl⟩ rfl rfl) .free rfl rfl ?_
  rintro _ _ ⟨b13, rfl, rfl⟩
  refine p_call rfl (en_f Tryz.call12 rfl) (linked_ok _ _ 0 0 40 ⟨by decide, by decide, by decide⟩ ⟨3, 1, 48⟩ mkC48 [(0, 1)] (hh1 ⟨by decide, by decide⟩ ⟨by decide, by decide⟩) (by decide) (some ⟨b13, 0, none⟩) _ sln1 none 0 [] SlR.nil (fun _ h => (by cases h)) (by decide) (fun _ h => absurd h (Nat.not_lt_zero _)) 0 (by decide)) .free rfl rfl ?_ ?_
  rotate_left
  · rintro _ _ ⟨⟩
  rintro _ _ ⟨bd, pa, N, s0, sF, out, hfm, hN, ⟨hus0, hf⟩, hfill, hor⟩
  obtain rfl := n48 hN
  have hev := okB_ok (okB_ok (d14_eval pa bd) hf) hfill
  simp only [Bool.and_eq_true, beq_iff_eq] at hev
  obtain ⟨⟨rfl, e1⟩, e2⟩ := hev
  rw [blkIs_eq e1] at hor
  rcases hor with ⟨n1, n2, s1, s2, ov, sv, hl1, hl2, hu2, hlm2, hn2, hov, hsv, rfl, rfl⟩ | ⟨s1, hl1, _⟩
  rotate_left
  · have e3 := okB_ok e2 hl1
    simp only [Bool.and_eq_true, beq_iff_eq] at e3
    exact absurd e3.1 (by simp)
  have e3 := okB_ok e2 hl1
  simp only [Bool.and_eq_true, beq_iff_eq] at e3
  obtain ⟨e4, e5⟩ := e3
  obtain rfl : n1 = 0 := by injection e4
  have e6 := okB_ok e5 hl2
  simp only [Bool.and_eq_true, beq_iff_eq] at e6
  obtain ⟨e7, e8⟩ := e6
  rw [blkIs_eq e7]
  refine go_pk [2] ?_; refine go_vecq fun qo co hqo hqi => ?_
  subst hqo
  obtain ⟨bO, oO, rfl⟩ := hqi 0 (by decide)
  refine kPm rfl rfl ?_; refine kPv (ev_ext rfl rfl) rfl ?_; refine kPv (ev_ext rfl rfl) rfl ?_; refine kPv (ev_ext rfl rfl) rfl ?_; refine kPv (ev_ext rfl rfl) rfl ?_; refine p_chg rfl (ch_allocA Tryz.zeroValue30 rfl) .free rfl rfl ?_
  rintro _ _ ⟨b2, rfl, rfl⟩
  refine p_chg rfl (ch_allocA Tryz.zeroValue33 rfl) .free rfl rfl ?_
  rintro _ _ ⟨b3, rfl, rfl⟩
  refine kPa rfl rfl ?_; refine p_chg0 rfl (ch_storeA (vs := _) Tryz.sizeOf30 rfl rfl rfl rfl rfl) .free rfl ?_
  rintro _ _ rfl
  refine p_chg0 rfl (ch_storeA (vs := _) Tryz.sizeOf33 rfl rfl rfl (by first | rfl | exact all3 (by assumption)) rfl) .free rfl ?_
  rintro _ _ rfl
  refine kPa rfl rfl ?_; refine p_nil ?_; refine go_sub (σ' := [(4, _), (1, _), (3, _), (2, _), (0, _)]) ⟨rfl, rfl, rfl, rfl, rfl, trivial⟩ ?_; refine g_seq ?_; refine g_seq ?_; refine g_region ?_; refine kPm rfl rfl ?_; refine kPv (ev_eqp Tryz.runUnderlying28 rfl rfl rfl) rfl ?_; refine kPm rfl rfl ?_; refine p_val rfl (ev_move rfl) (.on rfl rfl (beq_eq rfl)) rfl rfl ?_; refine p_val rfl (ev_len rfl Tryz.runUnderlying34 ⟨_, rfl⟩ rfl) (.on rfl rfl (beq_eq rfl)) rfl rfl ?_
  refine p_val rfl (ev_cmp rfl rfl rfl) (.on rfl rfl (beq_eq rfl)) rfl rfl ?_; refine kPv (ev_pick_f rfl rfl rfl) rfl ?_; refine p_nil ?_; refine go_sub (σ' := [(25, _), (1, _), (3, _), (2, _), (0, _)]) ⟨rfl, rfl, rfl, rfl, rfl, trivial⟩ ?_; refine g_iff rfl (rfl) ?_; refine g_skip ?_; refine g_seq ?_; refine g_region ?_; refine kPm rfl rfl ?_; refine kPv (ev_loadA Tryz.isAgg30 Tryz.sizeOf30 rfl rfl) rfl ?_; refine kPv (ev_loadA Tryz.isAgg33 Tryz.sizeOf33 rfl rfl) rfl ?_
  refine p_chg rfl (ch_bs1 Tryz.runUnderlying31 Tryz.sizeOf52 Tryz.zeroValue52 rfl rfl rfl) .free rfl rfl ?_
  rintro _ _ ⟨b29, rfl, rfl⟩
  refine go_pk [4] ?_
  refine p_call rfl (en_f Tryz.call16 rfl) (cnew_ok B _ bd ⟨3, 1, 48⟩ cfg48 ⟨0, 2, [0]⟩ ⟨⟨by decide, by decide⟩, ⟨by decide, by decide⟩⟩ sv hsv (some ⟨b29, 0, none⟩) 1 [0] (by decide) (fun h => by cases h) (SlR.row (b := b29) rfl rfl)) .free rfl rfl ?_ ?_
  rotate_left
  · rintro _ _ ⟨⟩
  rintro _ _ ⟨x, rfl, rfl⟩
  have hX0 : ColW (newCol bd ⟨3, 1, 48⟩ ⟨0, 2, [0]⟩ [0]) := newCol_w cfg48 ⟨⟨by decide, by decide⟩, ⟨by decide, by decide⟩⟩ (by decide) (fun v h => by rw [List.mem_singleton.1 h]; decide) (fun v h => by rw [List.mem_singleton.1 h]; decide)
  refine kPa rfl rfl ?_; refine p_nil ?_; refine go_sub (σ' := [(5, _), (0, _)]) ⟨rfl, rfl, trivial⟩ ?_; refine g_seq ?_; refine g_seq ?_; refine g_region ?_; refine kPm rfl rfl ?_; refine kPv (ev_eqp Tryz.runUnderlying45 rfl rfl rfl) rfl ?_; refine p_nil ?_; refine g_iff rfl (rfl) ?_; refine g_skip ?_; refine g_seq ?_; refine g_region ?_; refine kPm rfl rfl ?_; refine go_pk [0, 4] ?_
  refine p_call rfl (en_f Tryz.call74 rfl) (cstep_ok B _ x (newCol bd ⟨3, 1, 48⟩ ⟨0, 2, [0]⟩ [0]) hX0 s2 hu2) .free rfl rfl ?_ ?_
  rotate_left
  · rintro _ _ ⟨s9, hm9, _⟩
    exact (okB_off e8 hm9).elim
  rintro _ _ ⟨r1, s3, hm1, rfl, rfl⟩
  have e9 := okB_ok e8 hm1
  simp only [Bool.and_eq_true, Bool.not_eq_true'] at e9
  obtain ⟨e10, e11⟩ := e9
  obtain ⟨hX1, hu3, _, hbd1, _⟩ := step_w hX0 hu2 hm1
  refine go_conv (H' := ColA x r1.2 :: DevA r1.2.bd s3 :: _) (fun w hh => by rw [hbd1]; exact hh) ?_
  refine kPm rfl rfl ?_
  refine p_call rfl (en_f Tryz.call74 rfl) (cstep_ok B _ x r1.2 hX1 s3 hu3) .free rfl rfl ?_ ?_
  rotate_left
  · rintro _ _ ⟨s9, hm9, _⟩
    exact (okB_off e11 hm9).elim
  rintro _ _ ⟨r2, s4, hm2, rfl, rfl⟩
  have e12 := okB_ok e11 hm2
  simp only [Bool.and_eq_true] at e12
  obtain ⟨hX2, hu4, _⟩ := step_w hX1 hu3 hm2
  have hbl : r2.2.block = ⟨1, 0, [0]⟩ := congrArg Prod.fst (blkIs_eq e12.2)
  rw [e10, e12.1]
  refine kPa rfl rfl ?_; refine kPa rfl rfl ?_; refine p_nil ?_; refine g_seq ?_; refine g_region ?_; refine kPm rfl rfl ?_; refine kPv (ev_not rfl) rfl ?_; refine kPm rfl rfl ?_; refine p_val rfl (ev_move rfl) (.on rfl rfl (beq_eq rfl)) rfl rfl ?_; refine kPv (ev_pick_t rfl rfl rfl) rfl ?_; refine kPm rfl rfl ?_; refine p_val rfl (ev_move rfl) (.on rfl rfl (beq_eq rfl)) rfl rfl ?_
  refine p_call rfl (en_f Tryz.call76 rfl) (cblock_ok B _ x r2.2 hX2) (.on rfl rfl (beq_eq rfl)) rfl rfl ?_ ?_
  rotate_left
  · rintro _ _ ⟨⟩
  rintro _ _ ⟨bv5, hbv5, rfl, rfl⟩
  rw [hbl]
  refine p_val rfl (ev_field1 Tryz.runUnderlying33 (t := 3) (off := 1) rfl Tryz.isAgg3 rfl rfl) (.on rfl rfl (beq_eq rfl)) rfl rfl ?_; refine p_val rfl (ev_cmp rfl rfl rfl) (.on rfl rfl (beq_eq rfl)) rfl rfl ?_; refine kPv (ev_pick_t rfl rfl rfl) rfl ?_; refine kPm rfl rfl ?_; refine p_val rfl (ev_move rfl) (.on rfl rfl (beq_eq rfl)) rfl rfl ?_; refine go_pk [1] ?_
  refine p_call rfl (en_f Tryz.call76 rfl) (cblock_ok B _ x r2.2 hX2) (.on rfl rfl (beq_eq rfl)) rfl rfl ?_ ?_
  rotate_left
  · rintro _ _ ⟨⟩
  rintro _ _ ⟨bv6, hbv6, rfl, rfl⟩
  rw [hbl]
  refine p_val rfl (ev_field1 Tryz.runUnderlying33 (t := 3) (off := 0) rfl Tryz.isAgg3 rfl rfl) (.on rfl rfl (beq_eq rfl)) rfl rfl ?_; refine p_val rfl (ev_cmp rfl rfl rfl) (.on rfl rfl (beq_eq rfl)) rfl rfl ?_; refine kPv (ev_pick_t rfl rfl rfl) rfl ?_; refine kPa rfl rfl ?_; refine p_nil ?_; refine go_sub (σ' := [(0, _)]) ⟨rfl, trivial⟩ ?_; refine g_ret ?_
  exact ret_tmp Tryz.results66 rfl (fun w hh => ⟨rfl, (hh.dp [0, 0, 0, 0, 0, 0, 0, 0, 0])⟩)
theorem awake15_ok (B : World) (Fr : List HP) :
    ∀ w, Holds B Fr w → Calls Tryz.prog 11 [].toArray w (PureR B Fr (.bool true)) := by
  refine fn_enter Tryz.func11 rfl Tryz.ntmps11 rfl ?_; refine g_seq ?_; refine g_region ?_; refine kPa rfl rfl ?_; refine p_nil ?_; refine g_seq ?_; refine g_seq ?_; refine g_region ?_; refine p_callq rfl (en_f Tryz.call66 rfl) (awake14_ok _ _) .free rfl rfl ?_; refine kPv (ev_not rfl) rfl ?_; refine p_nil ?_; refine g_iff rfl (rfl) ?_; refine g_skip ?_; refine g_seq ?_; refine g_region ?_; refine kPv (ev_build rfl (bld_24_2 _ rfl)) rfl ?_; refine kPv (ev_build rfl (bld_107_1 _ rfl)) rfl ?_
  refine kPv (ev_build rfl (bld_107_1 _ rfl)) rfl ?_; refine p_chg rfl (ch_bsG2 encH_w (v := (0, 1)) (u := (0, 2)) Tryz.runUnderlying25 Tryz.sizeOf107 Tryz.zeroValue107 ⟨⟨by decide, by decide⟩, rfl⟩ rfl rfl rfl rfl) .free rfl rfl ?_
  rintro _ _ ⟨b16, rfl, rfl⟩
  refine p_call rfl (en_f Tryz.call12 rfl) (linked_ok _ _ 0 0 40 ⟨by decide, by decide, by decide⟩ ⟨3, 1, 48⟩ mkC48 [(0, 1), (0, 2)] (hh2) (by decide) (some ⟨b16, 0, none⟩) _ sln2 none 0 [] SlR.nil (fun _ h => (by cases h)) (by decide) (fun _ h => absurd h (Nat.not_lt_zero _)) 0 (by decide)) .free rfl rfl ?_ ?_
  rotate_left
  · rintro _ _ ⟨⟩
  rintro _ _ ⟨bd, pa, N, s0, sF, out, hfm, hN, ⟨hus0, hf⟩, hfill, hor⟩
  obtain rfl := n48 hN
  have hev := okB_ok (okB_ok (d15_eval pa bd) hf) hfill
  simp only [Bool.and_eq_true, beq_iff_eq] at hev
  obtain ⟨⟨rfl, e1⟩, e2⟩ := hev
  rw [blkIs_eq e1] at hor
  rcases hor with ⟨n1, n2, s1, s2, ov, sv, hl1, hl2, hu2, hlm2, hn2, hov, hsv, rfl, rfl⟩ | ⟨s1, hl1, _⟩
  rotate_left
  · have e3 := okB_ok e2 hl1
    simp only [Bool.and_eq_true, beq_iff_eq] at e3
    exact absurd e3.1 (by simp)
  have e3 := okB_ok e2 hl1
  simp only [Bool.and_eq_true, beq_iff_eq] at e3
  obtain ⟨e4, e5⟩ := e3
  obtain rfl : n1 = 0 := by injection e4
  have e6 := okB_ok e5 hl2
  simp only [Bool.and_eq_true, beq_iff_eq] at e6
  obtain ⟨⟨e7, e14⟩, e8⟩ := e6
  rw [blkIs_eq e7]
  refine go_pk [2] ?_; refine go_vecq fun qo co hqo hqi => ?_
  subst hqo
  obtain ⟨bO, oO, rfl⟩ := hqi 0 (by decide)
  refine kPm rfl rfl ?_; refine kPv (ev_ext rfl rfl) rfl ?_; refine kPv (ev_ext rfl rfl) rfl ?_; refine kPv (ev_ext rfl rfl) rfl ?_; refine kPv (ev_ext rfl rfl) rfl ?_; refine p_chg rfl (ch_allocA Tryz.zeroValue30 rfl) .free rfl rfl ?_
  rintro _ _ ⟨b2, rfl, rfl⟩
  refine p_chg rfl (ch_allocA Tryz.zeroValue33 rfl) .free rfl rfl ?_
  rintro _ _ ⟨b3, rfl, rfl⟩
  refine kPa rfl rfl ?_; refine p_chg0 rfl (ch_storeA (vs := _) Tryz.sizeOf30 rfl rfl rfl rfl rfl) .free rfl ?_
  rintro _ _ rfl
  refine p_chg0 rfl (ch_storeA (vs := _) Tryz.sizeOf33 rfl rfl rfl (by first | rfl | exact all3 (by assumption)) rfl) .free rfl ?_
  rintro _ _ rfl
  refine kPa rfl rfl ?_; refine p_nil ?_; refine go_sub (σ' := [(4, _), (1, _), (3, _), (2, _), (0, _)]) ⟨rfl, rfl, rfl, rfl, rfl, trivial⟩ ?_; refine g_seq ?_; refine g_seq ?_; refine g_region ?_; refine kPm rfl rfl ?_; refine kPv (ev_eqp Tryz.runUnderlying28 rfl rfl rfl) rfl ?_; refine kPm rfl rfl ?_; refine p_val rfl (ev_move rfl) (.on rfl rfl (beq_eq rfl)) rfl rfl ?_; refine p_val rfl (ev_len rfl Tryz.runUnderlying34 ⟨_, rfl⟩ rfl) (.on rfl rfl (beq_eq rfl)) rfl rfl ?_
  refine p_val rfl (ev_cmp rfl rfl rfl) (.on rfl rfl (beq_eq rfl)) rfl rfl ?_; refine kPv (ev_pick_f rfl rfl rfl) rfl ?_; refine kPm rfl rfl ?_; refine p_val rfl (ev_fa (m := _) fa_33_1 rfl rfl) (.on rfl rfl (beq_eq rfl)) rfl rfl ?_; refine p_val rfl (ev_load Tryz.isAgg3 rfl rfl) (.on rfl rfl (beq_eq rfl)) rfl rfl ?_; refine p_val rfl (ev_cmp rfl rfl rfl) (.on rfl rfl (beq_eq rfl)) rfl rfl ?_; refine kPv (ev_pick_f rfl rfl rfl) rfl ?_; refine p_nil ?_
  refine go_sub (σ' := [(33, _), (4, _), (1, _), (2, _), (0, _)]) ⟨rfl, rfl, rfl, rfl, rfl, trivial⟩ ?_; refine g_iff rfl (rfl) ?_; refine g_skip ?_; refine g_seq ?_; refine g_region ?_; refine kPm rfl rfl ?_; refine kPv (ev_loadA Tryz.isAgg30 Tryz.sizeOf30 rfl rfl) rfl ?_; refine go_pk [4] ?_
  refine p_call rfl (en_f Tryz.call13 rfl) (snew_ok _ _ bd s2 ⟨3, 1, 48⟩ cfg48) .free rfl rfl ?_ ?_
  rotate_left
  · rintro _ _ ⟨⟩
  rintro _ _ ⟨bs, rfl, rfl⟩
  refine kPa rfl rfl ?_; refine p_nil ?_; refine g_seq ?_; refine g_seq ?_; refine g_region ?_; refine go_secC fun bl o1 o2 => ?_; refine kPm rfl rfl ?_; refine kPv (ev_eqp Tryz.runUnderlying37 rfl rfl rfl) rfl ?_; refine kPm rfl rfl ?_; refine p_val rfl (ev_move rfl) (.on rfl rfl (beq_eq rfl)) rfl rfl ?_
  first | refine p_val rfl (ev_nil rfl) (.on rfl rfl (beq_eq rfl)) rfl rfl ?_ | refine p_val rfl (ev_nilf rfl) (.on rfl rfl (beq_eq rfl)) rfl rfl ?_
  refine p_val rfl (ev_fa (m := _) fa_44_0 rfl rfl) (.on rfl rfl (beq_eq rfl)) rfl rfl ?_; refine p_val rfl (ev_load Tryz.isAgg39 rfl rfl) (.on rfl rfl (beq_eq rfl)) rfl rfl ?_; refine p_val rfl (ev_eqp Tryz.runUnderlying39 rfl rfl rfl) (.on rfl rfl (beq_eq rfl)) rfl rfl ?_; refine kPv (ev_pick_f rfl rfl rfl) rfl ?_; refine p_nil ?_; refine go_sub (σ' := [(45, _), (5, _), (4, _), (1, _), (2, _), (0, _)]) ⟨rfl, rfl, rfl, rfl, rfl, rfl, trivial⟩ ?_; refine g_iff rfl (rfl) ?_; refine g_skip ?_
  refine g_seq ?_; refine go_conv (fun w hh => secC_holds (S := (⟨openL bd ⟨3, 1, 48⟩ s2, 0, 0, [], []⟩ : SecS)) hh) ?_; refine go_conv (H' := SecC bs (⟨openL bd ⟨3, 1, 48⟩ s2, 0, 0, [], []⟩ : SecS) :: DevA bd s2 :: row b2 [i64 3, i64 1, i64 48] 30 :: VecA 3 i64 0 (.slice (some ⟨bO, oO, none⟩) 2 co, [40, 42]) :: VecU 0 (sv, [0]) :: Fr) (fun w hh => by have h := (hh.dp [2, 5]); exact h) ?_
  refine g_drawv [0, 1, 2, 3, 4, 5, 6, 7, 8, 9, 10, 11, 12, 13] [7, 8] [0, 1, 2] [7] [row b2 [i64 3, i64 1, i64 48] 30, VecA 3 i64 0 (.slice (some ⟨bO, oO, none⟩) 2 co, [40, 42])] Tryz.mixed (by kernel_rfl) ?_; refine v_hoist rfl rfl rfl (ev_move rfl) .free rfl ?_; refine v_hoist rfl rfl rfl (ev_loadA Tryz.isAgg30 Tryz.sizeOf30 rfl rfl) .free rfl ?_; refine v_hoist rfl rfl rfl (ev_move rfl) .free rfl ?_; refine v_val rfl rfl rfl (ev_move rfl) .free rfl ?_
  refine v_val rfl rfl rfl (ev_iaS Tryz.runUnderlying34 Tryz.sizeOf3 rfl rfl (by decide) (by decide)) .free rfl ?_; refine v_val rfl rfl rfl (ev_loadS (v := i64 42) Tryz.isAgg3 (vec_slr 3 rfl) rfl rfl) .free rfl ?_; refine v_val rfl rfl rfl (ev_conv (c := 42) Tryz.runUnderlying3 Tryz.runUnderlying52 rfl (by decide)) .free rfl ?_; refine v_mark rfl rfl ?_; refine p_chg rfl (ch_bs1 Tryz.runUnderlying31 Tryz.sizeOf52 Tryz.zeroValue52 rfl rfl rfl) .free rfl rfl ?_
  rintro _ _ ⟨b54, rfl, rfl⟩
  refine p_nil ?_; refine v_on ?_; refine v_mark rfl rfl ?_; refine go_pk [1, 1] ?_
  refine p_call rfl (en_f Tryz.call14 rfl) (fcollect_ok B _ bs bd (⟨openL bd ⟨3, 1, 48⟩ s2, 0, 0, [], []⟩ : SecS) ⟨3, 1, 48⟩ cfg48 s2 hu2 ⟨openL_w cfg48, by rw [hn2]; decide, rfl, rfl⟩ (some ⟨b54, 0, none⟩) 1 [42] (by decide) (fun v h => by rw [List.mem_singleton.1 h]; decide) (SlR.row (b := b54) rfl rfl)) .free rfl rfl ?_ ?_
  rotate_left
  · rintro _ _ ⟨s9, hm9, _⟩
    exact (okB_off e8 hm9).elim
  rintro _ _ ⟨r, s3, hm3, hor⟩
  have e9 := okB_ok e8 hm3
  simp only [Bool.and_eq_true, beq_iff_eq] at e9
  obtain ⟨⟨e10, e11⟩, e12⟩ := e9
  rcases hor with ⟨h1, _⟩ | ⟨x, X, hX, h0, rfl, rfl⟩
  · rw [h1] at e11; cases e11
  rw [hX] at e11
  have e13 : (mget X.went 42).getD 0 = 88 := by simpa [went1] using e11
  have hu3 := (collect_k cfg48 (fun v h => by rw [List.mem_singleton.1 h]; decide) (openL_w cfg48) hu2 (by rw [hn2]; decide) e14 hm3).1
  refine p_nil ?_; refine v_off rfl ?_; refine v_val rfl rfl rfl (ev_move rfl) .free rfl ?_; refine v_val rfl rfl rfl (ev_ext rfl rfl) .free rfl ?_; refine v_val rfl rfl rfl (ev_ext rfl rfl) .free rfl ?_; refine v_val rfl rfl rfl (ev_assign rfl) .free rfl ?_; refine v_val rfl rfl rfl (ev_assign rfl) .free rfl ?_; refine v_nil ?_; refine go_sub (σ' := [(7, _), (6, _), (4, _), (1, _), (2, _), (0, _)]) ⟨rfl, rfl, rfl, rfl, rfl, rfl, trivial⟩ ?_; refine g_seq ?_; refine g_region ?_
  refine kPm rfl rfl ?_; refine kPv (ev_loadA Tryz.isAgg30 Tryz.sizeOf30 rfl rfl) rfl ?_; refine go_pk [2] ?_
  refine p_call rfl (en_f Tryz.call15 rfl) (rread_ok _ _ _ _ ⟨3, 1, 48⟩ cfg48 hu3) .free rfl rfl ?_ ?_
  rotate_left
  · rintro _ _ ⟨⟩
  rintro _ _ ⟨sv3, hsv3, rfl, rfl⟩
  rw [blkIs_eq e12]
  refine kPm rfl rfl ?_; refine kPv (ev_ext rfl rfl) rfl ?_; refine kPv (ev_ext rfl rfl) rfl ?_; refine p_chg rfl (ch_allocA Tryz.zeroValue33 rfl) .free rfl rfl ?_
  rintro _ _ ⟨b8, rfl, rfl⟩
  refine p_chg0 rfl (ch_storeA (vs := _) Tryz.sizeOf33 rfl rfl rfl (by first | rfl | exact all3 (by assumption)) rfl) .free rfl ?_
  rintro _ _ rfl
  refine kPa rfl rfl ?_; refine p_nil ?_; refine go_sub (σ' := [(9, _), (8, _), (7, _), (6, _), (4, _), (2, _), (0, _)]) ⟨rfl, rfl, rfl, rfl, rfl, rfl, rfl, trivial⟩ ?_; refine g_seq ?_; refine g_draw Tryz.mixed (by kernel_rfl) (by kernel_rfl) ?_; refine kQm rfl rfl ?_; refine kQv (ev_cmp rfl rfl rfl) rfl ?_; refine kQm rfl rfl ?_; refine q_val rfl (ev_move rfl) (.on rfl rfl (beq_eq rfl)) rfl ?_; refine q_val rfl (ev_eqp Tryz.runUnderlying45 rfl rfl rfl) (.on rfl rfl (beq_eq rfl)) rfl ?_
  refine kQv (ev_pick_t rfl rfl rfl) rfl ?_; refine kQm rfl rfl ?_; refine q_val rfl (ev_move rfl) (.on rfl rfl (beq_eq rfl)) rfl ?_; refine q_val rfl (ev_cmp rfl rfl rfl) (.on rfl rfl (beq_eq rfl)) rfl ?_; refine kQv (ev_pick_t rfl rfl rfl) rfl ?_; refine kQm rfl rfl ?_; refine q_val rfl (ev_fa (m := _) fa_33_0 rfl rfl) (.on rfl rfl (beq_eq rfl)) rfl ?_; refine q_val rfl (ev_load Tryz.isAgg3 rfl rfl) (.on rfl rfl (beq_eq rfl)) rfl ?_
  refine q_val rfl (ev_cmp rfl rfl rfl) (.on rfl rfl (beq_eq rfl)) rfl ?_; refine kQv (ev_pick_t rfl rfl rfl) rfl ?_; refine kQm rfl rfl ?_; refine q_val rfl (ev_fa (m := _) fa_33_1 rfl rfl) (.on rfl rfl (beq_eq rfl)) rfl ?_; refine q_val rfl (ev_load Tryz.isAgg3 rfl rfl) (.on rfl rfl (beq_eq rfl)) rfl ?_; refine q_val rfl (ev_cmp rfl rfl rfl) (.on rfl rfl (beq_eq rfl)) rfl ?_; refine kQv (ev_pick_t rfl rfl rfl) rfl ?_; refine kQm rfl rfl ?_
  refine q_val rfl (ev_move rfl) (.on rfl rfl (beq_eq rfl)) rfl ?_; refine q_val rfl (ev_move rfl) (.on rfl rfl (beq_eq rfl)) rfl ?_; refine q_val rfl (ev_iaS Tryz.runUnderlying34 Tryz.sizeOf3 rfl rfl (by decide) (by decide)) (.on rfl rfl (beq_eq rfl)) rfl ?_; refine q_val rfl (ev_loadS (v := i64 42) Tryz.isAgg3 (vec_slr 7 rfl) rfl rfl) (.on rfl rfl (beq_eq rfl)) rfl ?_; refine q_val rfl (ev_conv (c := 42) Tryz.runUnderlying3 Tryz.runUnderlying52 rfl (by decide)) (.on rfl rfl (beq_eq rfl)) rfl ?_
  refine q_call rfl (en_f Tryz.call55 rfl) (ro_at (q := ColA) (fun Fr => cwent_ok B Fr x X 42)) (.on rfl rfl (beq_eq rfl)) rfl ?_; refine q_val rfl (ev_loadA Tryz.isAgg30 Tryz.sizeOf30 rfl rfl) (.on rfl rfl (beq_eq rfl)) rfl ?_; refine q_call rfl (en_f Tryz.call46 rfl) (from_ok _ _ ⟨3, 1, 48⟩ cfg48 1 (by decide) (by decide)) (.on rfl rfl (beq_eq rfl)) rfl ?_; refine q_val rfl (ev_cmp rfl rfl rfl) (.on rfl rfl (beq_eq rfl)) rfl ?_; refine kQv (ev_pick_t rfl rfl rfl) rfl ?_; refine kQa rfl rfl ?_
  refine q_nil ?_; refine go_sub (σ' := [(0, _)]) ⟨rfl, trivial⟩ ?_; refine g_ret ?_
  exact ret_tmp Tryz.results11 rfl (fun w hh => ⟨by rw [e13]; rfl, (hh.dp [0, 0, 0, 0, 0, 0, 0, 0, 0])⟩)
end Go.Proofs.YtbfheafpecgphaaGreat
