/- Part of the texts beneath a law: what its proof names. Conditions: none. -/
import Derived.Test.YtbfheafpecgphaaGreatQL15Fk
set_option linter.unusedSimpArgs false
set_option linter.unusedVariables false
set_option linter.unnecessarySimpa false
set_option linter.unusedSectionVars false
namespace Go.Proofs.YtbfheafpecgphaaGreat
open Go
theorem truncate_k {L L' : LogS} {s s' : Dev} (hL : LogW L) (e : L.truncate s = .ok L' s') : (U64 s → U64 s') ∧ s'.n = s.n ∧ LogW L' ∧ L'.d = L.d ∧ L'.c = L.c ∧ L'.n = 0 := by
  unfold LogS.truncate at e
  split at e
  · rename_i h; cases e; exact ⟨id, rfl, hL, rfl, rfl, h⟩
  obtain ⟨_, s1, e1, e⟩ := then_inv e
  obtain ⟨_, s2, e2, e⟩ := then_inv e
  obtain ⟨_, s3, e3, e⟩ := then_inv e
  cases e
  have h1 := hL.c.l1; have h2 := hL.c.r1
  refine ⟨fun hu => ?_, ((fence_n e3).trans (flush_n e2)).trans (store_n e1), ⟨hL.c, by simp only; omega, by simp only; omega, Int.le_refl 0, by simp only; omega⟩, rfl, rfl, rfl⟩
  exact (fence_u64 (flush_u64 (store_u64 hu (by omega) e1).1 e2).1 e3).1
theorem recN_k {c : Cfg} : ∀ (k : Nat) (s s' : Dev), recN undoS c k s = .ok () s' → (U64 s → U64 s') ∧ s'.n = s.n
  | 0, s, s', e => by cases e; exact ⟨id, rfl⟩
  | k + 1, s, s', e => by
    unfold recN at e
    obtain ⟨_, s1, e1, e⟩ := then_inv e
    unfold undoS at e1
    obtain ⟨_, s2, e2, e1⟩ := then_inv e1
    obtain ⟨_, s3, e3, e1⟩ := then_inv e1
    cases e1
    obtain ⟨g1, g2⟩ := recN_k k s1 s' e
    exact ⟨fun hu => g1 (flush_u64 (store_u64 hu (hu.load _) e2).1 e3).1, g2.trans ((flush_n e3).trans (store_n e2))⟩
theorem undo_k {L L' : LogS} {s s' : Dev} (hL : LogW L) (e : L.undo s = .ok L' s') : (U64 s → U64 s') ∧ s'.n = s.n ∧ LogW L' ∧ L'.d = L.d ∧ L'.c = L.c ∧ L'.n = 0 := by
  unfold LogS.undo at e
  obtain ⟨_, s1, e1, e⟩ := then_inv e
  obtain ⟨_, s2, e2, e⟩ := then_inv e
  obtain ⟨g1, g2⟩ := recN_k _ _ _ e1
  obtain ⟨h1, h2, h3, h4, h5, h6⟩ := truncate_k hL e
  have k : (U64 s1 → U64 s2) ∧ s2.n = s1.n := by
    split at e2
    · exact ⟨fun hu => (fence_u64 hu e2).1, fence_n e2⟩
    · cases e2; exact ⟨id, rfl⟩
  exact ⟨fun hu => h1 (k.1 (g1 hu)), (h2.trans k.2).trans g2, h3, h4, h5, h6⟩
theorem flushAll_k : ∀ (l : List Int) (s s' : Dev), flushAll l s = .ok () s' → (U64 s → U64 s') ∧ s'.n = s.n
  | [], s, s', e => by cases e; exact ⟨id, rfl⟩
  | k :: ks, s, s', e => by
    unfold flushAll at e
    obtain ⟨_, s1, e1, e⟩ := then_inv e
    obtain ⟨g1, g2⟩ := flushAll_k ks s1 s' e
    exact ⟨fun hu => g1 (flush_u64 hu e1).1, g2.trans (flush_n e1)⟩
theorem commit_k {S S' : SecS} {s s' : Dev} (hL : LogW S.L) (e : S.commit s = .ok S' s') : (U64 s → U64 s') ∧ s'.n = s.n ∧ LogW S'.L ∧ S'.L.d = S.L.d ∧ S'.L.c = S.L.c ∧ S'.L.n = 0 := by
  unfold SecS.commit at e
  obtain ⟨_, s1, e1, e⟩ := then_inv e
  obtain ⟨_, s2, e2, e⟩ := then_inv e
  obtain ⟨_, s3, e3, e⟩ := then_inv e
  cases e
  obtain ⟨g1, g2⟩ := flushAll_k _ _ _ e1
  obtain ⟨h1, h2, h3, h4, h5, h6⟩ := truncate_k hL e3
  have k : (U64 s1 → U64 s2) ∧ s2.n = s1.n := by
    split at e2
    · exact ⟨fun hu => (fence_u64 hu e2).1, fence_n e2⟩
    · cases e2; exact ⟨id, rfl⟩
  exact ⟨fun hu => h1 (k.1 (g1 hu)), (h2.trans k.2).trans g2, h3, h4, h5, h6⟩
theorem abort_k {S S' : SecS} {s s' : Dev} (hL : LogW S.L) (e : S.abort s = .ok S' s') : (U64 s → U64 s') ∧ s'.n = s.n ∧ LogW S'.L ∧ S'.L.d = S.L.d ∧ S'.L.c = S.L.c ∧ S'.L.n = 0 := by
  unfold SecS.abort at e
  obtain ⟨_, s1, e1, e⟩ := then_inv e
  cases e
  exact undo_k hL e1
theorem writeN_k : ∀ (l : List Int) (i : Int) (S S' : SecS) (s s' : Dev) (a : Int), (∀ v ∈ l, 0 ≤ v ∧ v < 18446744073709551616) → SecW S → U64 s → s.n ≤ 1000000 → writeN secOp l i s S = .ok (a, S') s' → U64 s' ∧ s'.n = s.n ∧ LogW S'.L ∧ S'.L.d = S.L.d ∧ S'.L.c = S.L.c
  | [], i, S, S', s, s', a, _, hS, hu, _, e => by cases e; exact ⟨hu, rfl, hS.L, rfl, rfl⟩
  | v :: vs, i, S, S', s, s', a, hv, hS, hu, hn, e => by
    unfold writeN at e
    split at e
    · exact writeN_k vs _ _ _ _ _ _ (fun v hv' => hv v (List.mem_cons_of_mem _ hv')) hS hu hn e
    · obtain ⟨⟨x, S1⟩, s1, e1, e⟩ := then_inv e
      have h1 := sstore_u64 hS hu hn (hv v (List.mem_cons_self ..)) e1
      have h2 := store_lw hS.L e1
      have h3 := store_dc e1
      have h4 : SecW S1 := store_w hS hn (by have := (act_b hS.L.c).1; omega) e1 h2
      split at e
      · cases e; exact ⟨h1.1, h1.2, h2, h3.1, h3.2.1⟩
      · obtain ⟨g1, g2, g3, g4, g5⟩ := writeN_k vs _ _ _ _ _ _ (fun v hv' => hv v (List.mem_cons_of_mem _ hv')) h4 h1.1 (by rw [h1.2]; exact hn) e
        exact ⟨g1, g2.trans h1.2, g3, g4.trans h3.1, g5.trans h3.2.1⟩
theorem fresh_w {S : SecS} (h : LogW S.L) (f t : Int) : SecW (S.fresh f t) := ⟨h, fun p hp => (List.not_mem_nil (show p ∈ ([] : List (Int × Unit)) from hp)).elim⟩
theorem flip_k {c : Cfg} {b : Blk} {S S' : SecS} {s s' : Dev} {a : Int} (hb : ∀ v ∈ b.act :: b.used :: b.rts, 0 ≤ v ∧ v < 18446744073709551616) (hL : LogW S.L) (hu : U64 s) (hn : s.n ≤ 1000000) (e : flipM c b S s = .ok (a, S') s') : U64 s' ∧ s'.n = s.n ∧ LogW S'.L ∧ S'.L.d = S.L.d ∧ S'.L.c = S.L.c ∧ S'.L.n = 0 := by
  unfold flipM writeM at e
  obtain ⟨⟨x, S1⟩, s1, e1, e⟩ := then_inv e
  obtain ⟨g1, g2, g3, g4, g5⟩ := writeN_k _ _ _ _ _ _ _ hb (fresh_w hL 0 0) hu hn e1
  split at e
  · obtain ⟨S2, s2, e2, e⟩ := then_inv e
    cases e
    obtain ⟨h1, h2, h3, h4, h5, h6⟩ := abort_k g3 e2
    exact ⟨h1 g1, h2.trans g2, h3, h4.trans g4, h5.trans g5, h6⟩
  · obtain ⟨S2, s2, e2, e⟩ := then_inv e
    cases e
    obtain ⟨h1, h2, h3, h4, h5, h6⟩ := commit_k g3 e2
    exact ⟨h1 g1, h2.trans g2, h3, h4.trans g4, h5.trans g5, h6⟩
theorem colblk_w {X : ColS} (h : ColW X) : ∀ v ∈ X.block.act :: X.block.used :: X.block.rts, 0 ≤ v ∧ v < 18446744073709551616 := fun v hv => by
  have h1 := h.b.act; have h2 := h.free; have h3 := h.fb; have h4 := h.to_
  simp only [List.mem_cons] at hv
  rcases hv with rfl | rfl | hv
  · simp only [ColS.block]; omega
  · simp only [ColS.block]; omega
  · obtain ⟨u, _, rfl⟩ := List.mem_map.1 hv
    have := h.vb u
    omega
theorem collect_k {bd : Nat} {c : Cfg} {S : SecS} {s s' : Dev} {ws : List Int} {r : Option ColS × Int × SecS} (hc : CfgW c) (hw : ∀ v ∈ ws, 0 ≤ v ∧ v < 18446744073709551616) (hL : LogW S.L) (hu : U64 s) (hn : s.n ≤ 1000000) (hL0 : S.L.n = 0) (e : collectM bd c S s ws = .ok r s') : U64 s' ∧ s'.n = s.n ∧ LogW r.2.2.L ∧ r.2.2.L.d = S.L.d ∧ r.2.2.L.c = S.L.c ∧ r.2.2.L.n = 0 ∧ (∀ X, r.1 = some X → ColW X) := by
  unfold collectM at e
  split at e
  · cases e; exact ⟨hu, rfl, hL, rfl, rfl, hL0, fun _ h => by cases h⟩
  obtain ⟨X, s1, e1, e⟩ := then_inv e
  have hX0 : ColW (newCol bd c (s.block c).1 ((s.block c).1.rts ++ ws)) := newCol_w hc (block_w hc hu) (block_len hc) (block_rts hu) fun v hv => by
    rcases List.mem_append.1 hv with hv | hv
    · exact block_rts hu v hv
    · exact hw v hv
  obtain ⟨hX, u1, _⟩ := runN_w _ _ _ _ _ hX0 hu e1
  have n1 := run_n e1
  obtain ⟨⟨a, S2⟩, s2, e2, e⟩ := then_inv e
  obtain ⟨g1, g2, g3, g4, g5, g6⟩ := flip_k (colblk_w hX) hL u1 (by rw [n1]; exact hn) e2
  split at e
  · cases e; exact ⟨g1, g2.trans n1, g3, g4, g5, g6, fun _ h => by cases h⟩
  · cases e; exact ⟨g1, g2.trans n1, g3, g4, g5, g6, fun X' h => by cases h; exact hX⟩
end Go.Proofs.YtbfheafpecgphaaGreat
namespace Go.Proofs.YtbfheafpecgphaaGreat
open Go
structure Still (s : Dev) : Prop where
  lim : s.pow.lim < 0
  q : s.q = fun _ => none
theorem fl_fe {s : Dev} {i : Nat} (hq : s.q = fun _ => none) : (s.up.fl i).up.fe.now = s.now ∧ (s.up.fl i).up.fe.q = (fun _ => none) ∧ (s.up.fl i).up.fe.n = s.n ∧ ∀ x, (s.up.fl i).up.fe.kept x = if x / 8 = i / 8 then s.now x else s.kept x := by
  refine ⟨rfl, rfl, rfl, fun x => ?_⟩
  have h := pk_flush s i x
  rw [show s.pk x = s.kept x by simp only [Dev.pk, fkept, hq]] at h
  exact h
@[irreducible] def Dev.sv (s : Dev) (i : Nat) (v : Int) : Dev := s.up.st i v
@[irreducible] def Dev.ff (s : Dev) (i : Nat) : Dev := (s.up.fl i).up.fe
theorem sv_then {α : Type} {s : Dev} {i v : Int} {k : Int → Dev → Out α} (h : s.pow.lim < 0) (hi : 0 ≤ i ∧ i < s.n) : (s.store i v).then k = k 0 (s.sv i.toNat v) := by rw [store_ne h hi, then_ok]; unfold Dev.sv; rfl
theorem ff_then {α : Type} {s : Dev} {i : Int} {k : Unit → Dev → Out α} (h : s.pow.lim < 0) (hi : 0 ≤ i ∧ i < s.n) : ((s.flush i).then fun _ s => s.fence.then k) = k () (s.ff i.toNat) := by rw [flush_ne h hi, then_ok, fence_ne (s := s.up.fl i.toNat) h, then_ok]; unfold Dev.ff; rfl
theorem sv_lim (s : Dev) (i : Nat) (v : Int) : (s.sv i v).pow.lim = s.pow.lim := by unfold Dev.sv; rfl
theorem sv_n (s : Dev) (i : Nat) (v : Int) : (s.sv i v).n = s.n := by unfold Dev.sv; rfl
theorem sv_q (s : Dev) (i : Nat) (v : Int) : (s.sv i v).q = s.q := by unfold Dev.sv; rfl
theorem sv_now (s : Dev) (i : Nat) (v : Int) : (s.sv i v).now = upd s.now i v := by unfold Dev.sv; rfl
theorem sv_kept (s : Dev) (i : Nat) (v : Int) : (s.sv i v).kept = s.kept := by unfold Dev.sv; rfl
theorem ff_lim (s : Dev) (i : Nat) : (s.ff i).pow.lim = s.pow.lim := by unfold Dev.ff; rfl
theorem ff_n (s : Dev) (i : Nat) : (s.ff i).n = s.n := by unfold Dev.ff; rfl
theorem ff_q (s : Dev) (i : Nat) : (s.ff i).q = fun _ => none := by unfold Dev.ff; rfl
theorem ff_now (s : Dev) (i : Nat) : (s.ff i).now = s.now := by unfold Dev.ff; rfl
theorem ff_kept {s : Dev} {i : Nat} (hq : s.q = fun _ => none) (x : Nat) : (s.ff i).kept x = if x / 8 = i / 8 then s.now x else s.kept x := by unfold Dev.ff; exact (fl_fe hq).2.2.2 x
theorem append_ne {L : LogS} {s : Dev} {i : Int} (hL : LogW L) (hs : Still s) (hi : 0 ≤ i ∧ i < s.n) (hc : L.c.active ≤ s.n) (hn : L.n < L.c.log) {r : Nat} (hr : (r : Int) = L.c.record L.n) :
    ∃ s', L.append s i = .ok (0, { L with n := L.n + 1 }) s' ∧ Still s' ∧ s'.n = s.n ∧ s'.now = upd (upd (upd s.now (r + 1) i) (r + 2) (upd s.now (r + 1) i i.toNat)) r (stampI L.epoch L.n) ∧ ∀ x, s'.kept x = if x / 8 = r / 8 then s'.now x else s.kept x := by
  have hact := hL.c.act
  have h0 := hL.n1
  have hr' : (r : Int) = 16 + 4 * L.n := hr
  have b0 : 0 ≤ L.c.record L.n ∧ L.c.record L.n + 3 < s.n := by rw [← hr]; omega
  have e0 : (L.c.record L.n).toNat = r := by omega
  have e1 : (L.c.record L.n + 1).toNat = r + 1 := by omega
  have e2 : (L.c.record L.n + 2).toNat = r + 2 := by omega
  have hl := hs.lim
  have hld : ∀ v, (s.sv (r + 1) v).load i = upd s.now (r + 1) v i.toNat := fun v => by
    have : (s.sv (r + 1) v).has i = true := by simp [Dev.has, hi, sv_n]
    simp only [Dev.load, this, if_true, sv_now]
  unfold LogS.append
  rw [if_neg (by omega), if_neg (by omega)]
  rw [sv_then hl (by omega), e1, hld]
  rw [sv_then (by rw [sv_lim]; exact hl) (by rw [sv_n]; omega), e2]
  rw [ff_then (by rw [sv_lim, sv_lim]; exact hl) (by rw [sv_n, sv_n]; omega), e0]
  rw [sv_then (by rw [ff_lim, sv_lim, sv_lim]; exact hl) (by rw [ff_n, sv_n, sv_n]; omega), e0]
  rw [ff_then (by rw [sv_lim, ff_lim, sv_lim, sv_lim]; exact hl) (by rw [sv_n, ff_n, sv_n, sv_n]; omega), e0]
  refine ⟨_, rfl, ⟨by simp only [ff_lim, sv_lim]; exact hl, by rw [ff_q]⟩, by simp only [ff_n, sv_n], by simp only [ff_now, sv_now], fun x => ?_⟩
  rw [ff_kept (by rw [sv_q, ff_q]), ff_now, sv_kept, ff_kept (by rw [sv_q, sv_q, hs.q]), sv_kept, sv_kept]
  split <;> rfl
@[irreducible] def Dev.fq (s : Dev) (i : Nat) : Dev := s.up.fl i
@[irreducible] def Dev.fn (s : Dev) : Dev := s.up.fe
theorem fq_then {α : Type} {s : Dev} {i : Int} {k : Int → Dev → Out α} (h : s.pow.lim < 0) (hi : 0 ≤ i ∧ i < s.n) : (s.flush i).then k = k 0 (s.fq i.toNat) := by rw [flush_ne h hi, then_ok]; unfold Dev.fq; rfl
theorem fn_then {α : Type} {s : Dev} {k : Unit → Dev → Out α} (h : s.pow.lim < 0) : s.fence.then k = k () s.fn := by rw [fence_ne h, then_ok]; unfold Dev.fn; rfl
theorem fq_lim (s : Dev) (i : Nat) : (s.fq i).pow.lim = s.pow.lim := by unfold Dev.fq; rfl
theorem fq_n (s : Dev) (i : Nat) : (s.fq i).n = s.n := by unfold Dev.fq; rfl
theorem fq_now (s : Dev) (i : Nat) : (s.fq i).now = s.now := by unfold Dev.fq; rfl
theorem fq_pk (s : Dev) (i x : Nat) : (s.fq i).pk x = if x / 8 = i / 8 then s.now x else s.pk x := by unfold Dev.fq; exact pk_flush s i x
theorem fn_lim (s : Dev) : s.fn.pow.lim = s.pow.lim := by unfold Dev.fn; rfl
theorem fn_n (s : Dev) : s.fn.n = s.n := by unfold Dev.fn; rfl
theorem fn_now (s : Dev) : s.fn.now = s.now := by unfold Dev.fn; rfl
theorem fn_q (s : Dev) : s.fn.q = fun _ => none := by unfold Dev.fn; rfl
theorem fn_kept (s : Dev) (x : Nat) : s.fn.kept x = s.pk x := by unfold Dev.fn; rfl
theorem still_pk {s : Dev} (h : s.q = fun _ => none) (x : Nat) : s.pk x = s.kept x := by simp only [Dev.pk, fkept, h]
theorem load_nat {s : Dev} {i : Int} {k : Nat} (h : (k : Int) = i) (hk : k < s.n) : s.load i = s.now k := by
  subst h
  have : s.has (k : Int) = true := by simp [Dev.has, hk]
  simp only [Dev.load, this, if_true, Int.toNat_natCast]
theorem trunc_ne {L : LogS} {s : Dev} (hl : s.pow.lim < 0) (hn : 16 ≤ s.n) (h0 : L.n ≠ 0) : L.truncate s = .ok { L with epoch := (L.epoch + 1) % 4294967296, n := 0 } ((s.sv 8 ((L.epoch + 1) % 4294967296)).ff 8) := by
  unfold LogS.truncate
  rw [if_neg h0, sv_then hl (by omega)]
  rw [ff_then (by rw [sv_lim]; exact hl) (by rw [sv_n]; omega)]
  rfl
theorem flushAll_ne : ∀ (ks : List Int) (s : Dev), s.pow.lim < 0 → (∀ k ∈ ks, 0 ≤ k ∧ k * 8 < s.n) →
    ∃ s', flushAll ks s = .ok () s' ∧ s'.pow.lim < 0 ∧ s'.n = s.n ∧ s'.now = s.now ∧ ∀ x, s'.pk x = if ((x / 8 : Nat) : Int) ∈ ks then s.now x else s.pk x
  | [], s, hl, _ => ⟨s, rfl, hl, rfl, rfl, fun x => by rw [if_neg (by simp)]⟩
  | k :: ks, s, hl, hk => by
    obtain ⟨k1, k2⟩ := hk k (by simp)
    have e : flushAll (k :: ks) s = flushAll ks (s.fq (k * 8).toNat) := by
      simp only [flushAll]
      rw [fq_then hl (by omega)]
    rw [e]
    obtain ⟨s', e1, e2, e3, e4, e5⟩ := flushAll_ne ks (s.fq (k * 8).toNat) (by rw [fq_lim]; exact hl) (fun j hj => by rw [fq_n]; exact hk j (by simp [hj]))
    refine ⟨s', e1, e2, by rw [e3, fq_n], by rw [e4, fq_now], fun x => ?_⟩
    rw [e5, fq_now, fq_pk]
    by_cases h1 : ((x / 8 : Nat) : Int) ∈ ks
    · rw [if_pos h1, if_pos (List.mem_cons_of_mem _ h1)]
    · rw [if_neg h1]
      by_cases h2 : x / 8 = (k * 8).toNat / 8
      · rw [if_pos h2, if_pos]
        have : ((x / 8 : Nat) : Int) = k := by omega
        rw [this]; exact List.mem_cons_self
      · rw [if_neg h2, if_neg]
        have : ((x / 8 : Nat) : Int) ≠ k := by omega
        exact fun h => (List.mem_cons.1 h).elim this h1
def LogS.shut (L : LogS) : LogS := if L.n = 0 then L else { L with epoch := (L.epoch + 1) % 4294967296, n := 0 }
def LogS.shutNow (L : LogS) (f : Nat → Int) : Nat → Int := if L.n = 0 then f else upd f 8 ((L.epoch + 1) % 4294967296)
theorem trunc_still {L : LogS} {s : Dev} (hs : Still s) (hn : 16 ≤ s.n) : ∃ s', L.truncate s = .ok L.shut s' ∧ Still s' ∧ s'.n = s.n ∧ s'.now = L.shutNow s.now ∧ (s.kept = s.now → s'.kept = s'.now) := by
  by_cases h0 : L.n = 0
  · refine ⟨s, ?_, hs, rfl, ?_, fun h => h⟩
    · unfold LogS.truncate LogS.shut; rw [if_pos h0, if_pos h0]
    · unfold LogS.shutNow; rw [if_pos h0]
  · refine ⟨_, trunc_ne hs.lim hn h0 |>.trans (by unfold LogS.shut; rw [if_neg h0]), ⟨by rw [ff_lim, sv_lim]; exact hs.lim, ff_q _ _⟩, by rw [ff_n, sv_n], by unfold LogS.shutNow; rw [if_neg h0, ff_now, sv_now], fun hk => funext fun x => ?_⟩
    rw [ff_kept (by rw [sv_q, hs.q]), ff_now, sv_now, sv_kept]
    by_cases c : x / 8 = 8 / 8
    · rw [if_pos c]
    · rw [if_neg c, hk]; simp only [upd]; rw [if_neg (by omega)]
theorem commit_still {S : SecS} {s : Dev} (hs : Still s) (hn : 16 ≤ s.n) (hd : ∀ k ∈ S.dirty.map Prod.fst, 0 ≤ k ∧ k * 8 < s.n) :
    ∃ s', S.commit s = .ok { S with L := S.L.shut } s' ∧ Still s' ∧ s'.n = s.n ∧ s'.now = S.L.shutNow s.now ∧ ((∀ x, ((x / 8 : Nat) : Int) ∉ S.dirty.map Prod.fst → s.kept x = s.now x) → s'.kept = s'.now) := by
  have hmem : ∀ k, k ∈ sortI (S.dirty.map Prod.fst) ↔ k ∈ S.dirty.map Prod.fst := fun k => List.mem_mergeSort
  obtain ⟨s1, e1, e2, e3, e4, e5⟩ := flushAll_ne (sortI (S.dirty.map Prod.fst)) s hs.lim (fun k h => hd k ((hmem k).1 h))
  have hpk : (∀ x, ((x / 8 : Nat) : Int) ∉ S.dirty.map Prod.fst → s.kept x = s.now x) → ∀ x, s1.pk x = s.now x := fun hk x => by
    rw [e5]
    by_cases c : ((x / 8 : Nat) : Int) ∈ S.dirty.map Prod.fst
    · rw [if_pos ((hmem _).2 c)]
    · rw [if_neg (fun h => c ((hmem _).1 h)), still_pk hs.q, hk x c]
  unfold SecS.commit
  rw [e1, then_ok]
  by_cases c : 0 < S.dirty.length
  · rw [if_pos c, fn_then e2]
    obtain ⟨s', f1, f2, f4, f5, f6⟩ := trunc_still (L := S.L) (s := s1.fn) ⟨by rw [fn_lim]; exact e2, fn_q _⟩ (by rw [fn_n, e3]; exact hn)
    exact ⟨s', by rw [f1, then_ok], f2, by rw [f4, fn_n, e3], by rw [f5, fn_now, e4], fun hk => f6 (funext fun x => by rw [fn_kept, fn_now, hpk hk, e4])⟩
  · have hd0 : S.dirty = [] := List.length_eq_zero_iff.1 (by omega)
    have hs1 : s1 = s := by
      rw [hd0] at e1
      simp [sortI, flushAll] at e1
      exact e1.symm
    subst hs1
    rw [if_neg c, then_ok]
    obtain ⟨s', f1, f2, f4, f5, f6⟩ := trunc_still (L := S.L) (s := s1) hs hn
    exact ⟨s', by rw [f1, then_ok], f2, f4, f5, fun hk => f6 (funext fun x => hk x (by rw [hd0]; simp))⟩
def Shut0 (L : LogS) (s : Dev) : Prop := s.now 8 = L.epoch ∧ s.now 16 ≠ stampI L.epoch 0
theorem shut0_open {L : LogS} {s : Dev} {d : Nat} (h : Shut0 L s) (hL : LogW L) (hn : 24 ≤ s.n) : openL d L.c s = ⟨d, L.c, L.epoch, 0⟩ := by
  have e8 : s.load 8 = L.epoch := by rw [load_nat (i := 8) (k := 8) rfl (by omega), h.1]
  have e16 : s.load (L.c.record 0) = s.now 16 := load_nat (i := L.c.record 0) (k := 16) rfl (by omega)
  have e1 := hL.e1
  have e2 := hL.e2
  unfold openL
  rw [e8, Int.emod_eq_of_lt e1 e2, openN_zero (by rw [e16]; exact h.2)]
structure In (kp : Prop) (c : Cfg) (N : Nat) (old : Nat → Int) (js : List Nat) (S : SecS) (s : Dev) : Prop where
  still : Still s
  n : s.n = N
  hN : (N : Int) = c.words
  hc : S.L.c = c
  logw : LogW S.L
  ln : S.L.n = js.length
  seen : ∀ i : Int, (mget S.seen i).isSome = true ↔ ∃ j ∈ js, (j : Int) = i
  recs : ∀ k (h : k < js.length), s.now (16 + 4 * k + 1) = js[k] ∧ s.now (16 + 4 * k + 2) = old js[k] ∧ c.active ≤ js[k] ∧ js[k] < N
  same : ∀ x, x ∉ js → c.active ≤ x → ¬(S.ff ≤ x ∧ (x : Int) < S.ft) → s.now x = old x
  keep : kp → ∀ x, ((x / 8 : Nat) : Int) ∉ S.dirty.map Prod.fst → s.kept x = s.now x
  dirty : ∀ k ∈ S.dirty.map Prod.fst, c.active ≤ k * 8 ∧ k * 8 < N
  nd : (S.dirty.map Prod.fst).Nodup
  out : ∀ j ∈ js, (j : Int) < S.ff ∨ S.ft ≤ j
  jnd : js.Nodup
  ep : s.now 8 = S.L.epoch
  st : (js = [] ∧ s.now 16 ≠ stampI S.L.epoch 0) ∨ (js ≠ [] ∧ s.now 16 = stampI S.L.epoch 0)
theorem in_begin {kp : Prop} {c : Cfg} {N : Nat} {S : SecS} {s : Dev} {f t : Int} (hs : Still s) (hk : kp → s.kept = s.now) (hn : s.n = N) (hN : (N : Int) = c.words) (hc : S.L.c = c) (hL : LogW S.L) (h0 : S.L.n = 0) (h1 : Shut0 S.L s) : In kp c N s.now [] { S with ff := f, ft := t, seen := [], dirty := [] } s :=
  ⟨hs, hn, hN, hc, hL, h0, fun i => by simp [mget], fun k h => absurd h (Nat.not_lt_zero _), fun _ _ _ _ => rfl, fun h x _ => by rw [hk h], fun k h => by simp at h, by simp, fun j h => by simp at h, by simp, h1.1, .inl ⟨rfl, h1.2⟩⟩
theorem shut0_shut {L : LogS} {f : Nat → Int} {s : Dev} (hL : LogW L) (he : f 8 = L.epoch) (hs : (L.n = 0 ∧ f 16 ≠ stampI L.epoch 0) ∨ (L.n ≠ 0 ∧ f 16 = stampI L.epoch 0)) (hn : s.now = L.shutNow f) : Shut0 L.shut s := by
  have e1 := hL.e1
  have e2 := hL.e2
  unfold Shut0
  rw [hn]
  unfold LogS.shutNow LogS.shut
  by_cases h0 : L.n = 0
  · rw [if_pos h0, if_pos h0]
    rcases hs with ⟨_, h⟩ | ⟨h, _⟩
    · exact ⟨he, h⟩
    · exact absurd h0 h
  · rw [if_neg h0, if_neg h0]
    rcases hs with ⟨h, _⟩ | ⟨_, h⟩
    · exact absurd h h0
    · refine ⟨by simp only [upd, if_true], ?_⟩
      simp only [upd]
      rw [if_neg (by decide), h]
      simp only [stampI]
      omega
theorem in_commit {kp : Prop} {c : Cfg} {N : Nat} {old : Nat → Int} {js : List Nat} {S : SecS} {s : Dev} (h : In kp c N old js S s) (hc : CfgW c) :
    ∃ s', S.commit s = .ok { S with L := S.L.shut } s' ∧ Still s' ∧ s'.n = N ∧ s'.now = S.L.shutNow s.now ∧ (kp → Calm s') ∧ Shut0 S.L.shut s' := by
  have hw := words_b hc
  have hact := hc.act
  have := h.hN
  have := hc.r1
  have := hc.l1
  obtain ⟨s', e1, e2, e4, e5, e6⟩ := commit_still (S := S) h.still (by rw [h.n]; omega) (fun k hk => by have := h.dirty k hk; rw [h.n]; omega)
  refine ⟨s', e1, e2, by rw [e4, h.n], e5, fun hk => ⟨e6 (h.keep hk), e2.q⟩, shut0_shut h.logw h.ep ?_ e5⟩
  rcases h.st with ⟨h1, h2⟩ | ⟨h1, h2⟩
  · exact .inl ⟨by rw [h.ln, h1]; rfl, h2⟩
  · exact .inr ⟨by rw [h.ln]; have := List.length_pos_iff.2 h1; omega, h2⟩
theorem mset_lenS {α : Type} {k : Int} {a : α} : ∀ {l : List (Int × α)}, (mset l k a).length ≤ l.length + 1
  | [] => by simp [mset]
  | p :: l => by
    simp only [mset]
    split
    · simp
    · have := mset_lenS (k := k) (a := a) (l := l)
      simp only [List.length_cons]; omega
theorem mset_keyI {α : Type} {k k' : Int} {a : α} : ∀ {l : List (Int × α)}, k' ∈ (mset l k a).map Prod.fst ↔ k' = k ∨ k' ∈ l.map Prod.fst
  | [] => by simp [mset]
  | p :: l => by
    simp only [mset]
    split
    · rename_i h
      simp only [List.map_cons, List.mem_cons, h]
      constructor
      · rintro (h1 | h1)
        · exact .inl h1
        · exact .inr (.inr h1)
      · rintro (h1 | h1 | h1)
        · exact .inl h1
        · exact .inl h1
        · exact .inr h1
    · simp only [List.map_cons, List.mem_cons, mset_keyI (l := l)]
      constructor
      · rintro (h1 | h1 | h1)
        · exact .inr (.inl h1)
        · exact .inl h1
        · exact .inr (.inr h1)
      · rintro (h1 | h1 | h1)
        · exact .inr (.inl h1)
        · exact .inl h1
        · exact .inr (.inr h1)
theorem mset_nodupS {α : Type} {k : Int} {a : α} : ∀ {l : List (Int × α)}, (l.map Prod.fst).Nodup → ((mset l k a).map Prod.fst).Nodup
  | [], _ => by simp [mset]
  | p :: l, h => by
    rw [List.map_cons, List.nodup_cons] at h
    simp only [mset]
    split
    · rename_i e; subst e; rw [List.map_cons, List.nodup_cons]; exact h
    · rename_i e
      rw [List.map_cons, List.nodup_cons]
      refine ⟨fun hm => ?_, mset_nodupS h.2⟩
      rcases mset_keyI.1 hm with h1 | h1
      · exact e h1
      · exact h.1 h1
theorem in_again {kp : Prop} {c : Cfg} {N : Nat} {old : Nat → Int} {js : List Nat} {S : SecS} {s : Dev} (h : In kp c N old js S s) (hc : CfgW c) {i : Nat} (v : Int) (hi : c.active ≤ i ∧ i < N) (hno : i ∈ js ∨ (S.ff ≤ i ∧ (i : Int) < S.ft)) :
    S.store s i v = .ok (0, { S with dirty := mset S.dirty ((i : Int) / 8) () }) (s.sv i v) ∧ In kp c N old js { S with dirty := mset S.dirty ((i : Int) / 8) () } (s.sv i v) := by
  have hact := hc.act
  have hn := h.n
  refine ⟨?_, ⟨⟨by rw [sv_lim]; exact h.still.lim, by rw [sv_q]; exact h.still.q⟩, by rw [sv_n, hn], h.hN, h.hc, h.logw, h.ln, h.seen, fun k hk => ?_, fun x hx hx1 hx2 => ?_, fun hkp x hx => ?_, fun k hk => ?_, mset_nodupS h.nd, h.out, h.jnd, ?_, ?_⟩⟩
  · rw [store_skip (by rw [h.hc]; omega), sv_then h.still.lim (by omega)]
    · rfl
    · rintro ⟨q1, q2⟩
      rcases hno with h1 | h1
      · rw [(h.seen i).2 ⟨i, h1, rfl⟩] at q1; cases q1
      · omega
  · obtain ⟨r1, r2, r3, r4⟩ := h.recs k hk
    have hkl : (k : Int) < c.log := by
      have := h.logw.n2
      rw [h.hc, h.ln] at this; omega
    rw [sv_now]
    simp only [upd]
    rw [if_neg (by omega), if_neg (by omega)]
    exact ⟨r1, r2, r3, r4⟩
  · rw [sv_now]
    simp only [upd]
    rw [if_neg]
    · exact h.same x hx hx1 hx2
    · intro e; subst e
      rcases hno with h1 | h1
      · exact hx h1
      · exact hx2 h1
  · rw [mset_keyI] at hx
    rw [sv_now, sv_kept]
    simp only [upd]
    rw [if_neg (by intro e; subst e; exact hx (.inl (by omega)))]
    exact h.keep hkp x fun hd => hx (.inr hd)
  · rcases mset_keyI.1 hk with e | e
    · subst e; omega
    · exact h.dirty k e
  · have := hc.l1; have := hc.r1
    rw [sv_now]; simp only [upd]; rw [if_neg (by omega)]; exact h.ep
  · have := hc.l1; have := hc.r1
    rw [sv_now]; simp only [upd]; rw [if_neg (by omega)]; exact h.st
theorem in_first {kp : Prop} {c : Cfg} {N : Nat} {old : Nat → Int} {js : List Nat} {S : SecS} {s : Dev} (h : In kp c N old js S s) (hc : CfgW c) {i : Nat} (v : Int) (hi : c.active ≤ i ∧ i < N) (hno : i ∉ js) (hf : ¬(S.ff ≤ i ∧ (i : Int) < S.ft)) (hroom : (js.length : Int) < c.log) :
    ∃ s', S.store s i v = .ok (0, { S with L := { S.L with n := S.L.n + 1 }, seen := mset S.seen i (), dirty := mset S.dirty ((i : Int) / 8) () }) s' ∧ In kp c N old (js ++ [i]) { S with L := { S.L with n := S.L.n + 1 }, seen := mset S.seen i (), dirty := mset S.dirty ((i : Int) / 8) () } s' ∧ s'.now i = v ∧ ∀ x : Nat, c.active ≤ x → x ≠ i → s'.now x = s.now x := by
  have hact := hc.act
  have hn := h.n
  have hln := h.ln
  have hcc := h.hc
  have hN := h.hN
  have hlt := hi
  obtain ⟨s1, e1, e2, e3, e4, e5⟩ := append_ne (L := S.L) (s := s) (i := i) (r := 16 + 4 * js.length) h.logw h.still (by omega) (by rw [hcc]; omega) (by rw [hcc]; omega) (by rw [hln]; simp only [Cfg.record]; omega)
  have hns : (mget S.seen i).isSome = false := by
    cases hm : (mget S.seen (i : Int)).isSome with
    | false => rfl
    | true => obtain ⟨j, hj, e⟩ := (h.seen i).1 hm; exact absurd (by rwa [show j = i by omega] at hj) hno
  have hnow : ∀ x, x ≠ 16 + 4 * js.length → x ≠ 16 + 4 * js.length + 1 → x ≠ 16 + 4 * js.length + 2 → s1.now x = s.now x := fun x h1 h2 h3 => by
    rw [e4]; simp only [upd]; rw [if_neg h1, if_neg h3, if_neg h2]
  refine ⟨s1.sv i v, ?_, ⟨⟨by rw [sv_lim]; exact e2.lim, by rw [sv_q]; exact e2.q⟩, by rw [sv_n, e3, hn], hN, hcc, ⟨h.logw.c, h.logw.e1, h.logw.e2, ?_, ?_⟩, ?_, fun x => ?_, fun k hk => ?_, fun x hx hx1 hx2 => ?_, fun hkp x hx => ?_, fun k hk => ?_, mset_nodupS h.nd, fun j hj => ?_, List.nodup_append.2 ⟨h.jnd, by simp, fun a ha b hb => by simp at hb; subst hb; rintro rfl; exact hno ha⟩, ?_, .inr ⟨by simp, ?_⟩⟩, ?_, fun x hx hx1 => ?_⟩
  · unfold SecS.store
    rw [if_neg (by rw [hcc]; omega), if_pos ⟨hns, by omega⟩, e1, then_ok]
    simp only [ne_eq, not_true_eq_false, if_false]
    rw [sv_then e2.lim (by rw [e3]; omega)]
    rfl
  · show 0 ≤ S.L.n + 1
    omega
  · show S.L.n + 1 ≤ S.L.c.log
    rw [hcc]; omega
  · show S.L.n + 1 = _
    rw [List.length_append, hln]; simp
  · rw [mget_mset]
    by_cases c1 : x = i
    · rw [if_pos c1]; simp [c1]
    · rw [if_neg c1, h.seen x]
      constructor
      · rintro ⟨j, hj, e⟩; exact ⟨j, List.mem_append_left _ hj, e⟩
      · rintro ⟨j, hj, e⟩
        rcases List.mem_append.1 hj with h1 | h1
        · exact ⟨j, h1, e⟩
        · have : j = i := by simpa using h1
          subst this; exact absurd e.symm c1
  · rw [sv_now]
    simp only [upd]
    rw [List.length_append, List.length_singleton] at hk
    rw [if_neg (by omega), if_neg (by omega)]
    by_cases c1 : k < js.length
    · obtain ⟨r1, r2, r3, r4⟩ := h.recs k c1
      rw [hnow _ (by omega) (by omega) (by omega), hnow _ (by omega) (by omega) (by omega)]
      simp only [List.getElem_append_left c1]
      exact ⟨r1, r2, r3, r4⟩
    · have : k = js.length := by omega
      subst this
      simp only [List.getElem_concat_length]
      refine ⟨?_, ?_, hi.1, hi.2⟩
      · rw [e4]; simp only [upd]; rw [if_neg (by omega), if_neg (by omega)]; simp only [if_true]
      · rw [e4]; simp only [upd, Int.toNat_natCast]; rw [if_neg (by omega)]; simp only [if_true]; rw [if_neg (by omega)]
        exact h.same i hno hi.1 hf
  · have h1 : x ∉ js := fun hh => hx (List.mem_append_left _ hh)
    have h2 : x ≠ i := fun e => hx (by simp [e])
    rw [sv_now]; simp only [upd]
    rw [if_neg h2, hnow _ (by omega) (by omega) (by omega)]
    exact h.same x h1 hx1 hx2
  · rw [mset_keyI] at hx
    rw [sv_now, sv_kept]
    simp only [upd]
    rw [if_neg (by intro e; subst e; exact hx (.inl (by omega))), e5]
    by_cases c1 : x / 8 = (16 + 4 * js.length) / 8
    · rw [if_pos c1]
    · rw [if_neg c1, hnow _ (by omega) (by omega) (by omega)]
      exact h.keep hkp x fun hd => hx (.inr hd)
  · rcases mset_keyI.1 hk with e | e
    · subst e; omega
    · exact h.dirty k e
  · rcases List.mem_append.1 hj with h1 | h1
    · exact h.out j h1
    · have : j = i := by simpa using h1
      subst this
      show (j : Int) < S.ff ∨ S.ft ≤ j
      omega
  · have := hc.l1; have := hc.r1
    rw [sv_now]; simp only [upd]; rw [if_neg (by omega), hnow _ (by omega) (by omega) (by omega)]; exact h.ep
  · have := hc.l1; have := hc.r1
    rw [sv_now]; simp only [upd]; rw [if_neg (by omega)]
    rcases h.st with ⟨h1, _⟩ | ⟨h1, h2⟩
    · rw [e4, hln, h1]; simp only [upd, List.length_nil]; rfl
    · have := List.length_pos_iff.2 h1
      rw [hnow _ (by omega) (by omega) (by omega)]; exact h2
  · rw [sv_now]; simp only [upd, if_pos]
  · rw [sv_now]; simp only [upd]; rw [if_neg hx1, hnow _ (by omega) (by omega) (by omega)]
theorem act_w {c : Cfg} (hc : CfgW c) : 24 ≤ c.active ∧ c.active < c.words ∧ c.words ≤ 20000 := by
  have h1 := hc.act
  have h2 := words_b hc
  have := hc.r1
  have := hc.l1
  have h3 := lines_b (n := c.root c.roots) (by simp only [Cfg.root]; omega)
  have h4 := lines_b (n := c.space) (by have := hc.s1; omega)
  have := hc.s1
  refine ⟨by omega, ?_, by omega⟩
  simp only [Cfg.words, Cfg.frm, Cfg.root] at *
  omega
def NoF (js : List Nat) (S : SecS) : Prop := ∀ k ∈ S.dirty.map Prod.fst, ∃ j ∈ js, ((j / 8 : Nat) : Int) = k
theorem in_store {kp : Prop} {c : Cfg} {N : Nat} {old : Nat → Int} {js : List Nat} {S : SecS} {s : Dev} (h : In kp c N old js S s) (hc : CfgW c) (hd : NoF js S) (hf : S.ff = 0 ∧ S.ft = 0) {i : Nat} (v : Int) (hi : c.active ≤ i ∧ i < N) (hroom : (js.length : Int) < c.log) :
    ∃ S' s' js', S.store s i v = .ok (0, S') s' ∧ In kp c N old js' S' s' ∧ NoF js' S' ∧ S'.ff = 0 ∧ S'.ft = 0 ∧ js'.length ≤ js.length + 1 ∧ S'.dirty.length ≤ S.dirty.length + 1 ∧ S'.L.d = S.L.d ∧ s'.now i = v ∧ ∀ x : Nat, c.active ≤ x → x ≠ i → s'.now x = s.now x := by
  by_cases c1 : i ∈ js
  · obtain ⟨e1, e2⟩ := in_again h hc v hi (.inl c1)
    refine ⟨_, _, js, e1, e2, fun k hk => ?_, hf.1, hf.2, by omega, mset_lenS, rfl, by rw [sv_now]; simp only [upd, if_true], fun x hx hx1 => by rw [sv_now]; simp only [upd]; rw [if_neg hx1]⟩
    rcases mset_keyI.1 hk with e | e
    · exact ⟨i, c1, by omega⟩
    · exact hd k e
  · obtain ⟨s', e1, e2, e3, e4⟩ := in_first h hc v hi c1 (by rw [hf.1, hf.2]; omega) hroom
    refine ⟨_, s', js ++ [i], e1, e2, fun k hk => ?_, hf.1, hf.2, by simp, mset_lenS, rfl, e3, e4⟩
    rcases mset_keyI.1 hk with e | e
    · exact ⟨i, by simp, by omega⟩
    · obtain ⟨j, hj, e5⟩ := hd k e
      exact ⟨j, List.mem_append_left _ hj, e5⟩
theorem shut_w {L : LogS} (h : LogW L) : LogW L.shut ∧ L.shut.n = 0 ∧ L.shut.c = L.c ∧ L.shut.d = L.d := by
  have := h.c.l1
  have := h.c.r1
  unfold LogS.shut
  by_cases c : L.n = 0
  · rw [if_pos c]; exact ⟨h, c, rfl, rfl⟩
  · rw [if_neg c]
    exact ⟨⟨h.c, by show 0 ≤ (L.epoch + 1) % 4294967296; omega, by show (L.epoch + 1) % 4294967296 < 4294967296; omega, show (0 : Int) ≤ 0 by decide, by show (0 : Int) ≤ L.c.log; omega⟩, rfl, rfl, rfl⟩
theorem shutNow_at {L : LogS} {f : Nat → Int} {x : Nat} (hx : x ≠ 8) : L.shutNow f x = f x := by
  unfold LogS.shutNow; split
  · rfl
  · simp only [upd]; rw [if_neg hx]
end Go.Proofs.YtbfheafpecgphaaGreat
namespace Go.Proofs.YtbfheafpecgphaaGreat
open Go
theorem store_q {s s' : Dev} {i v a : Int} (e : s.store i v = .ok a s') : s'.q = s.q := by
  unfold Dev.store at e
  split at e
  · cases e; rfl
  · split at e
    · cases e
    · cases e; rfl
theorem cpyN_q : ∀ (k : Nat) (i a f : Int) (s s' : Dev), cpyN k i a f s = .ok () s' → s'.q = s.q
  | 0, _, _, _, s, s', e => by cases e; rfl
  | k + 1, i, a, f, s, s', e => by
    rw [cpyN_succ] at e
    obtain ⟨_, s1, e1, e⟩ := then_inv e
    exact (cpyN_q k _ _ _ s1 s' e).trans (store_q e1)
theorem copied_q {S : ColS} {s s' : Dev} {w : Int} {r : Int × ColS} (e : S.copied s w = .ok r s') : s'.q = s.q := by
  unfold ColS.copied at e
  split at e
  · cases e; rfl
  split at e
  · cases e; rfl
  split at e
  · cases e; rfl
  obtain ⟨_, s1, e1, e⟩ := then_inv e
  cases e; exact cpyN_q _ _ _ _ _ _ e1
theorem refsN_q : ∀ (k : Nat) (i : Int) (S S' : ColS) (s s' : Dev), refsN k i S s = .ok S' s' → s'.q = s.q
  | 0, _, S, S', s, s', e => by cases e; rfl
  | k + 1, i, S, S', s, s', e => by
    rw [refsN_succ] at e
    split at e
    · exact refsN_q k _ S S' s s' e
    · obtain ⟨r, s1, e1, e⟩ := then_inv e
      obtain ⟨_, s2, e2, e⟩ := then_inv e
      exact ((refsN_q k _ _ S' s2 s' e).trans (store_q e2)).trans (copied_q e1)
theorem keep_q {S : ColS} {s s' : Dev} {a : Unit} (h : s.q = fun _ => none) (e : S.keep s = .ok a s') : s'.q = fun _ => none := by
  unfold ColS.keep at e
  obtain ⟨_, s1, e1, e⟩ := then_inv e
  split at e
  · unfold Dev.fence at e
    split at e
    · cases e
    · cases e; rfl
  · rename_i hn
    rw [keepN_succ, if_neg hn] at e1
    cases e1; cases e; exact h
theorem step_q {S : ColS} {s s' : Dev} {r : Bool × ColS} (h : s.q = fun _ => none) (e : S.step s = .ok r s') : s'.q = fun _ => none := by
  unfold ColS.step at e
  split at e
  · cases e; exact h
  split at e
  · obtain ⟨r1, s1, e1, e⟩ := then_inv e
    cases e; exact (copied_q e1).trans h
  · split at e
    · obtain ⟨S1, s1, e1, e⟩ := then_inv e
      cases e; exact (refsN_q _ _ _ _ _ _ e1).trans h
    · obtain ⟨_, s1, e1, e⟩ := then_inv e
      cases e; exact keep_q h e1
theorem runN_q : ∀ (f : Nat) (S S' : ColS) (s s' : Dev), (s.q = fun _ => none) → runN f S s = .ok S' s' → s'.q = fun _ => none
  | 0, S, S', s, s', h, e => by cases e; exact h
  | f + 1, S, S', s, s', h, e => by
    rw [runN_succ] at e
    obtain ⟨r, s1, e1, e⟩ := then_inv e
    have h1 := step_q h e1
    split at e
    · cases e; exact h1
    · exact runN_q f _ S' s1 s' h1 e
structure SK (c : Cfg) (N bd : Nat) (S : SecS) (s : Dev) : Prop where
  still : Still s
  u : U64 s
  n : s.n = N
  hN : (N : Int) = c.words
  lc : S.L.c = c
  lw : LogW S.L
  ln : S.L.n = 0
  ld : S.L.d = bd
  sh : Shut0 S.L s
theorem SK.secK {c : Cfg} {N bd : Nat} {S : SecS} {s : Dev} (h : SK c N bd S s) (hc : CfgW c) : SecK S bd c s := ⟨h.lw, by have := (act_w hc).2.2; have := h.hN; rw [h.n]; omega, h.ld, h.lc⟩
theorem writeN_run {c : Cfg} (hc : CfgW c) {N : Nat} {old : Nat → Int} : ∀ (l : List Int) (i : Nat) (S : SecS) (s : Dev) (js : List Nat), In False c N old js S s → NoF js S → S.ff = 0 ∧ S.ft = 0 → c.active ≤ i → i + l.length ≤ N → (js.length : Int) + l.length ≤ c.log →
    ∃ S' s' js', writeN secOp l i s S = .ok (0, S') s' ∧ In False c N old js' S' s' ∧ NoF js' S' ∧ (S'.ff = 0 ∧ S'.ft = 0) ∧ S'.L.d = S.L.d ∧ ∀ x : Nat, c.active ≤ x → s'.now x = if i ≤ x ∧ x < i + l.length then l.getD (x - i) 0 else s.now x
  | [], i, S, s, js, h, h1, h2, _, _, _ => ⟨S, s, js, rfl, h, h1, h2, rfl, fun x _ => by rw [if_neg (by simp only [List.length_nil]; omega)]⟩
  | v :: t, i, S, s, js, h, h1, h2, h3, h4, h5 => by
    simp only [List.length_cons] at h4 h5
    have hld : s.load i = s.now i := load_nat rfl (by rw [h.n]; omega)
    unfold writeN
    have fin : ∀ (s1 s' : Dev), (∀ x : Nat, c.active ≤ x → s1.now x = if x = i then v else s.now x) → (∀ x : Nat, c.active ≤ x → s'.now x = if i + 1 ≤ x ∧ x < i + 1 + t.length then t.getD (x - (i + 1)) 0 else s1.now x) → ∀ x : Nat, c.active ≤ x → s'.now x = if i ≤ x ∧ x < i + (v :: t).length then (v :: t).getD (x - i) 0 else s.now x := fun s1 s' g1 g2 x hx => by
      rw [g2 x hx, List.length_cons]
      by_cases e : x = i
      · subst e
        rw [if_neg (by omega), g1 x hx, if_pos rfl, if_pos (by omega), Nat.sub_self]; rfl
      · by_cases hr : i + 1 ≤ x ∧ x < i + 1 + t.length
        · rw [if_pos hr, if_pos (by omega), show x - i = (x - (i + 1)) + 1 by omega]; rfl
        · rw [if_neg hr, g1 x hx, if_neg e, if_neg (by omega)]
    by_cases he : s.load i = v
    · rw [if_pos he]
      obtain ⟨S', s', js', e1, e2, e3, e4, e5, e6⟩ := writeN_run hc t (i + 1) S s js h h1 h2 (by omega) (by omega) (by omega)
      refine ⟨S', s', js', e1, e2, e3, e4, e5, fin s s' (fun x hx => ?_) e6⟩
      split
      · rename_i e; rw [e, ← hld, he]
      · rfl
    · rw [if_neg he]
      obtain ⟨S1, s1, js1, e1, e2, e3, e4, e5, e6, _, e7, e8, e9⟩ := in_store h hc h1 h2 (i := i) v ⟨h3, by omega⟩ (by omega)
      rw [show secOp (i : Int) v s S = .ok (0, S1) s1 from e1]
      simp only [then_ok]
      rw [if_neg (by simp)]
      obtain ⟨S', s', js', k1, k2, k3, k4, k5, k6⟩ := writeN_run hc t (i + 1) S1 s1 js1 e2 e3 ⟨e4, e5⟩ (by omega) (by omega) (by omega)
      refine ⟨S', s', js', k1, k2, k3, k4, k5.trans e7, fin s1 s' (fun x hx => ?_) k6⟩
      split
      · rename_i e; rw [e]; exact e8
      · rename_i e; exact e9 x hx e
theorem flip_run {c : Cfg} (hc : CfgW c) {N bd : Nat} {S : SecS} {s : Dev} (h : SK c N bd S s) {b : Blk} (hl : (b.rts.length : Int) = c.roots) (hb : ∀ v ∈ b.act :: b.used :: b.rts, 0 ≤ v ∧ v < 18446744073709551616) :
    ∃ S' s', flipM c b S s = .ok (0, S') s' ∧ SK c N bd S' s' ∧ ∀ x : Nat, c.active ≤ x → s'.now x = if (x : Int) < c.active + 2 + c.roots then (b.act :: b.used :: b.rts).getD (x - c.active.toNat) 0 else s.now x := by
  have hA := act_w hc
  have hf := frm_b hc (k := 0) (by omega)
  have hN := h.hN
  have hr := hc.r1
  have hlog := hc.l1
  obtain ⟨S1, s1, js, e1, e2, e3, e4, e5, e6⟩ := writeN_run hc (b.act :: b.used :: b.rts) c.active.toNat (S.fresh 0 0) s [] (in_begin h.still (fun h => h.elim) h.n h.hN h.lc h.lw h.ln h.sh) (fun k hk => by cases hk) ⟨rfl, rfl⟩ (by omega) (by simp only [List.length_cons]; omega) (by simp only [List.length_cons, List.length_nil]; omega)
  obtain ⟨s2, k1, k2, k3, k4, _, k6⟩ := in_commit e2 hc
  have hk := shut_w e2.logw
  have hfl : flipM c b S s = .ok (0, { S1 with L := S1.L.shut }) s2 := by
    unfold flipM writeM
    rw [show (c.active : Int) = ((c.active.toNat : Nat) : Int) by omega, e1]
    simp only [then_ok]
    rw [if_neg (by simp), k1]; rfl
  refine ⟨_, s2, hfl, ⟨k2, ?_, k3, hN, hk.2.2.1.trans e2.hc, hk.1, hk.2.1, ?_, k6⟩, fun x hx => ?_⟩
  · exact (flip_k hb h.lw h.u (by rw [h.n]; omega) hfl).1
  · exact hk.2.2.2.trans (e5.trans h.ld)
  · rw [k4, shutNow_at (by omega), e6 x (by omega)]
    simp only [List.length_cons]
    by_cases hx2 : (x : Int) < c.active + 2 + c.roots
    · rw [if_pos (by omega), if_pos hx2]
    · rw [if_neg (by omega), if_neg hx2]
theorem flip_block {c : Cfg} (hc : CfgW c) {N : Nat} {s s' : Dev} {b : Blk} (hn : s'.n = N) (hN : (N : Int) = c.words) (hl : (b.rts.length : Int) = c.roots) (hb : BlkW c b) (h : ∀ x : Nat, c.active ≤ x → s'.now x = if (x : Int) < c.active + 2 + c.roots then (b.act :: b.used :: b.rts).getD (x - c.active.toNat) 0 else s.now x) : s'.block c = (b, 0) := by
  have hA := act_w hc
  have hf := frm_b hc (k := 0) (by omega)
  have hr := hc.r1
  have hld : ∀ k : Nat, (k : Int) < 2 + c.roots → s'.load (c.active + k) = (b.act :: b.used :: b.rts).getD k 0 := fun k hk => by
    rw [load_nat (k := c.active.toNat + k) (by omega) (by omega), h _ (by omega), if_pos (by omega)]
    congr 1; omega
  have h0 := hld 0 (by omega)
  have h1 := hld 1 (by omega)
  simp only [Int.ofNat_zero, Int.add_zero] at h0
  have hba := hb.act; have hbu := hb.used
  unfold Dev.block
  rw [show c.active + 1 = c.active + ((1 : Nat) : Int) from rfl, h1, show s'.load c.active = b.act from by simpa using h0]
  have e1 : (b.act :: b.used :: b.rts).getD 1 0 = b.used := rfl
  rw [e1, if_neg (by omega)]
  congr 1
  cases b with
  | mk a u r =>
    congr 1
    simp only at hl hld
    apply List.ext_getElem
    · rw [tab_len]; omega
    · intro i h2 h3
      rw [tab_len] at h2
      have h4 := hld (i + 2) (by omega)
      have h5 : (tab c.roots.toNat fun i => s'.load (c.root i))[i] = s'.load (c.root i) := by
        have : (tab c.roots.toNat fun i => s'.load (c.root i)) = (List.range c.roots.toNat).map fun (i : Nat) => s'.load (c.root i) := rfl
        simp [this]
      rw [h5]
      simp only [Cfg.root]
      rw [show c.active + 2 + (i : Int) = c.active + ((i + 2 : Nat) : Int) by omega, h4]
      simp [List.getD_eq_getElem?_getD, List.getElem?_eq_getElem h3]
theorem GcH.lo0 {c : Cfg} {b : Blk} {m0 : Int → Int} {L : List Int} {lo hi : Int} (G : GcH c b m0 L lo hi) : c.frm 0 ≤ lo := by
  have h1 := G.hb.act
  have hs1 := G.hc.s1
  have h5 := lines_b (n := c.space) (by omega)
  rw [G.lo_]
  rcases (by omega : b.act = 0 ∨ b.act = 1) with e | e
  · rw [e]; simp [Cfg.frm]; omega
  · rw [e]; simp
theorem linked_sk {c : Cfg} (hc : CfgW c) {N : Nat} (hN : (N : Int) = c.words) {s0 sF s1 s2 : Dev} (h : Fmt c N s0) (hu : U64 s0) {hs : List (Int × Int)} (hhs : ∀ h ∈ hs, (0 ≤ h.1 ∧ h.1 < 256) ∧ (0 ≤ h.2 ∧ h.2 < 256)) {out : List Int} (e : fillN c hs s0 [] = .ok out sF) (l : List Int) {n1 n2 : Nat}
    (e1 : linkObjs c (sF.block c).1 (pickL l out 0) out 0 sF = .ok (some n1) s1) (e2 : linkRoots c (pickL l out 0) c.roots.toNat n1 0 s1 = .ok n2 s2) (bd : Nat) : (∃ u, Fi c N s0.kept s2 out u) ∧ SK c N bd ⟨openL bd c s2, 0, 0, [], []⟩ s2 := by
  obtain ⟨u, m1, m2, t1, t2, k1, k2, k3⟩ := linked_heap hc hN h hu hhs e l
  rw [e1] at k1
  cases k1
  rw [e2] at k2
  cases k2
  have hA := act_w hc
  have hlw : LogW ⟨bd, c, 1, 0⟩ := ⟨hc, by show (0 : Int) ≤ 1; omega, by show (1 : Int) < 4294967296; omega, by show (0 : Int) ≤ 0; omega, by show (0 : Int) ≤ c.log; have := hc.l1; have := hc.r1; omega⟩
  have hsh : Shut0 ⟨bd, c, 1, 0⟩ s2 := ⟨by rw [k3.h.low 8 (by omega), h.calm.kept]; exact h.ep.1, by rw [k3.h.low 16 (by omega), h.calm.kept, h.ep.2]; show (0 : Int) ≠ stampI 1 0; decide⟩
  have ho := shut0_open (d := bd) hsh hlw (by rw [k3.h.n]; omega)
  simp only at ho
  refine ⟨⟨u, k3⟩, ?_⟩
  rw [ho]
  exact ⟨⟨k3.h.lim, k3.h.q⟩, k3.h.u, k3.h.n, hN, rfl, hlw, rfl, rfl, hsh⟩
theorem linked_not {c : Cfg} (hc : CfgW c) {N : Nat} (hN : (N : Int) = c.words) {s0 sF s1 : Dev} (h : Fmt c N s0) (hu : U64 s0) {hs : List (Int × Int)} (hhs : ∀ h ∈ hs, (0 ≤ h.1 ∧ h.1 < 256) ∧ (0 ≤ h.2 ∧ h.2 < 256)) {out : List Int} (e : fillN c hs s0 [] = .ok out sF) (l : List Int)
    (e1 : linkObjs c (sF.block c).1 (pickL l out 0) out 0 sF = .ok none s1) : False := by
  obtain ⟨u, m1, m2, t1, t2, k1, k2, k3⟩ := linked_heap hc hN h hu hhs e l
  rw [e1] at k1; cases k1
abbrev RunJ (c : Cfg) (N : Nat) (s0 s : Dev) : Prop := U64 s ∧ s.pow.lim < 0 ∧ s.n = N ∧ s.now 8 = s0.now 8 ∧ s.now 16 = s0.now 16
theorem runJ_stab {c : Cfg} {N : Nat} {s0 : Dev} {lo hi : Int} (h0 : 24 < lo) (h1 : hi ≤ N) : Stab lo hi (RunJ c N s0) where
  n := fun s h => ⟨by omega, by rw [h.2.2.1]; exact h1⟩
  st := fun s i v ⟨g1, g2, g3, g4, g5⟩ a1 a2 a3 a4 => ⟨fun x => by
      show 0 ≤ upd s.now i.toNat v x ∧ upd s.now i.toNat v x < _
      unfold upd; split
      · exact ⟨a3, a4⟩
      · exact g1 x, g2, g3, by show upd s.now i.toNat v 8 = _; unfold upd; rw [if_neg (by omega)]; exact g4, by show upd s.now i.toNat v 16 = _; unfold upd; rw [if_neg (by omega)]; exact g5⟩
  fl := fun s i h _ _ => h
  fe := fun s h => h
theorem OutP.lim {α : Type} {m : Out α} {ok : α → Dev → Prop} {J : Dev → Prop} (h : OutP m ok (OffJ J)) (hl : ∀ s, J s → s.pow.lim < 0) : ∃ a s, m = .ok a s ∧ ok a s := by
  cases m with
  | ok a s => exact ⟨a, s, rfl, h⟩
  | off s =>
    have h1 := hl s h.1
    have h2 := h.2
    unfold Pow.out at h2
    simp at h2; omega
theorem collect_run {c : Cfg} (hc : CfgW c) {N bd : Nat} {S : SecS} {s : Dev} (h : SK c N bd S s) {b : Blk} (hb : s.block c = (b, 0)) {L : List Int} (hh : HeapW c b s.load L) {ws : List Int} (hws : ∀ w ∈ ws, w = 0 ∨ w ∈ L) :
    ∃ X S' s', collectM bd c S s ws = .ok (some X, 0, S') s' ∧ SK c N bd S' s' ∧ ColW X ∧ s'.block c = (X.block, 0) ∧ GcH c b s.load L (c.frm (1 - b.act)) (c.frm (1 - b.act) + c.space) ∧ (∃ s1, DI c b s.load L (c.frm (1 - b.act)) (b.rts ++ ws) X s1 ∧ ∀ j, c.frm 0 ≤ j → s'.load j = s1.load j) := by
  have hA := act_w hc
  have hb0 : b = (s.block c).1 := by rw [hb]
  have hbw : BlkW c b := by rw [hb0]; exact block_w hc h.u
  have G : GcH c b s.load L (c.frm (1 - b.act)) (c.frm (1 - b.act) + c.space) := ⟨hc, hbw, hh, rfl, rfl, fun x => h.u.load x⟩
  have hap := G.apart
  have hN := h.hN
  have hwl : ∀ w ∈ b.rts ++ ws, w = 0 ∨ w ∈ L := fun w hw => by
    rcases List.mem_append.1 hw with hw | hw
    · exact hh.roots w hw
    · exact hws w hw
  have hwb : ∀ v ∈ b.rts ++ ws, 0 ≤ v ∧ v < 18446744073709551616 := fun v hv => by
    rcases hwl v hv with rfl | hv
    · decide
    · have := heap_b hc hbw hh hv; omega
  have hrl : (b.rts.length : Int) = c.roots := by
    have : (s.block c).2 = 0 := by rw [hb]
    rw [hb0]
    unfold Dev.block at this ⊢
    split at this
    · cases this
    · rename_i hne
      rw [if_neg hne, tab_len]; have := hc.r1; omega
  have hW : ColW (newCol bd c b (b.rts ++ ws)) := newCol_w hc hbw (by have := hc.r2; omega) (fun v hv => hwb v (List.mem_append_left _ hv)) hwb
  obtain ⟨X, s1, e1, ⟨j1, j2, j3, j4, j5⟩, hD, hdn⟩ := (SI.run G (runJ_stab (c := c) (N := N) (s0 := s) hap.2.1 (by omega)) (fun s h => h.1) hwl _ _ s (si_new (bd := bd) G rfl _) ⟨h.u, h.still.lim, h.n, rfl, rfl⟩ hW (Nat.lt_succ_self _)).lim (fun s h => h.2.1)
  have hX := (runN_w _ _ _ _ _ hW h.u e1)
  have hq := runN_q _ _ _ _ _ h.still.q e1
  have hbl := hD.block G
  have hus := hD.used G
  have hsk : SK c N bd S s1 := ⟨⟨j2, hq⟩, j1, j3, hN, h.lc, h.lw, h.ln, h.ld, by unfold Shut0; rw [j4, j5]; exact h.sh⟩
  have hlx : (X.block.rts.length : Int) = c.roots := by rw [hbl]; simp only [List.length_map]; exact hrl
  have hbX : BlkW c X.block := ⟨by rw [hbl]; have := hbw.act; simp only; omega, ⟨hus.2.1, by have := hbw.used; omega⟩⟩
  obtain ⟨S', s', e2, h2, e3⟩ := flip_run hc hsk hlx (colblk_w hX.1)
  have hblk := flip_block hc h2.n hN hlx hbX e3
  refine ⟨X, S', s', ?_, h2, hX.1, hblk, G, s1, hD, fun j hj => ?_⟩
  · unfold collectM
    rw [hb]
    rw [if_neg (by simp)]
    show ((newCol bd c b (b.rts ++ ws)).run s).then _ = _
    rw [show (newCol bd c b (b.rts ++ ws)).run s = .ok X s1 from e1]
    simp only [then_ok]
    rw [e2]
    rfl
  · have hf := frm_b hc (k := 0) (by omega)
    unfold Dev.load Dev.has
    rw [h2.n, j3]
    split
    · rw [e3 _ (by omega), if_neg (by omega)]
    · rfl
end Go.Proofs.YtbfheafpecgphaaGreat
namespace Go.Proofs.YtbfheafpecgphaaGreat
open Go
def namesM (c : Cfg) (b : Blk) (ml : List (Int × Obj3)) (v : Int) : Bool := v == 0 || (b.has c v && (mget ml v).isSome)
def refsM (s : Dev) (nf : Int → Bool) (o : Obj3) : Bool := (List.range o.2.1.toNat).all fun k => nf (s.load (o.2.2 + 1 + (k : Int)))
def stC (s : Dev) (nf : Int → Bool) (p : Obj3 × Int) (x : Int) : Bool × Int := if refsM s nf p.1 = true then (true, x) else (false, 9)
def Dev.check (s : Dev) (c : Cfg) : Int :=
  if (s.block c).2 ≠ 0 then (s.block c).2
  else if (s.starts c (s.block c).1).2 ≠ 0 then (s.starts c (s.block c).1).2
  else if (s.block c).1.rts.all (namesM c (s.block c).1 (s.starts c (s.block c).1).1) = true then
    (itl (stC s (namesM c (s.block c).1 (s.starts c (s.block c).1).1)) (s.objs c (s.block c).1 ((s.block c).1.used.toNat + 1) ((s.block c).1.place c 0)) 0).2
  else 9
theorem mval_o (o : Option Obj3) : mval objV (.agg #[i64 0, i64 0, i64 0]) o = objV (o.getD (0, 0, 0)) := by cases o <;> rfl
theorem take_succ_all {α : Type} {l : List α} {f : α → Bool} {k : Nat} (hk : k < l.length) (h : (l.take k).all f = true) (h2 : f l[k] = true) : (l.take (k + 1)).all f = true := by
  rw [List.take_succ_eq_append_getElem hk, List.all_append, h]; simp [h2]
theorem range_succ_all {f : Nat → Bool} {k : Nat} (h : (List.range k).all f = true) (h2 : f k = true) : (List.range (k + 1)).all f = true := by
  rw [List.range_succ, List.all_append, h]; simp [h2]
theorem cnames_ok (B : World) (Fr : List HP) (b1 b2 b3 mb : Nat) (c : Cfg) (hc : CfgW c) (b : Blk) (sv : Value) (hb : BlkW c b) (hsv : cell1 sv = true) (ml : List (Int × Obj3)) (v : Int) (hv : 0 ≤ v ∧ v < 18446744073709551616) :
    ∀ w, Holds B (row b1 [i64 b.act, i64 b.used, sv] 33 :: row b2 [i64 c.log, i64 c.roots, i64 c.space] 30 :: row b3 [.map (some mb)] 124 :: mapA .i64 objV mb ml :: Fr) w → Calls Tryz.prog 81 [w64 v, ptr b1, ptr b2, ptr b3].toArray w (PureR B (row b1 [i64 b.act, i64 b.used, sv] 33 :: row b2 [i64 c.log, i64 c.roots, i64 c.space] 30 :: row b3 [.map (some mb)] 124 :: mapA .i64 objV mb ml :: Fr) (.bool (namesM c b ml v))) := by
  refine fn_enter Tryz.func81 rfl Tryz.ntmps81 rfl ?_; refine g_seq ?_; refine g_region ?_; refine kPa rfl rfl ?_; refine p_nil ?_; refine g_seq ?_; refine g_seq ?_; refine g_region ?_; refine kPm rfl rfl ?_; refine kPv (ev_cmp rfl rfl rfl) rfl ?_; refine p_nil ?_
  refine g_if rfl (fun h9 => ?_) (fun h9 => ?_)
  · have hres : namesM c b ml v = true := by unfold namesM; simp [show v = 0 by simpa using h9]
    refine g_seq ?_; refine g_region ?_; refine kPa rfl rfl ?_; refine p_nil ?_; refine g_ret ?_
    exact ret_tmp Tryz.results81 rfl (fun w hh => ⟨by rw [hres], hh⟩)
  · have hne : ¬ v = 0 := by simpa using h9
    refine g_skip ?_; refine g_seq ?_; refine g_seq ?_; refine g_region ?_; refine kPv (ev_loadA Tryz.isAgg33 Tryz.sizeOf33 rfl rfl) rfl ?_; refine kPv (ev_loadA Tryz.isAgg30 Tryz.sizeOf30 rfl rfl) rfl ?_; refine kPm rfl rfl ?_; refine p_callq rfl (en_f Tryz.call82 rfl) (has_ok _ _ c hc b sv hb hsv _ hv) .free rfl rfl ?_; refine kPv (ev_not rfl) rfl ?_; refine p_nil ?_; refine go_sub (σ' := [(14, _), (5, _), (0, _), (3, _)]) ⟨rfl, rfl, rfl, rfl, trivial⟩ ?_
    refine g_if rfl (fun h14 => ?_) (fun h14 => ?_)
    · have hh0 : b.has c v = false := by simpa using h14
      have hres : namesM c b ml v = false := by unfold namesM; simp [hne, hh0]
      refine g_seq ?_; refine g_region ?_; refine kPa rfl rfl ?_; refine p_nil ?_; refine g_ret ?_
      exact ret_tmp Tryz.results81 rfl (fun w hh => ⟨by rw [hres], hh⟩)
    · have hh0 : b.has c v = true := by simpa using h14
      have hvb := bhas_b hc hb hh0
      have hres : namesM c b ml v = (mget ml v).isSome := by unfold namesM; simp [hne, hh0]
      refine g_skip ?_; refine g_seq ?_; refine g_region ?_; refine kPv (ev_load Tryz.isAgg124 rfl rfl) rfl ?_; refine kPm rfl rfl ?_
      first | refine p_val rfl (ev_conv Tryz.runUnderlying52 Tryz.runUnderlying3 rfl (wr64 (by omega))) .free rfl rfl ?_ | refine p_val rfl (ev_conv Tryz.runUnderlying52 Tryz.runUnderlying3 rfl rfl) .free rfl rfl ?_
      refine kPv ((ev_lookup2 Tryz.runUnderlying124 Tryz.runUnderlying3 Tryz.zeroValue89 rfl rfl).eq (congrArg (fun v => Value.tuple #[v, .bool _]) (mval_o _))) rfl ?_; refine kPm rfl rfl ?_; refine kPv (ev_ext rfl rfl) rfl ?_; refine kPv (ev_ext rfl rfl) rfl ?_; refine p_chg rfl (ch_allocA Tryz.zeroValue89 rfl) .free rfl rfl ?_
      rintro _ _ ⟨b6, rfl, rfl⟩
      refine p_chg0 rfl (ch_storeA (vs := [i64 _, i64 _, i64 _]) Tryz.sizeOf89 rfl rfl rfl rfl rfl) .free rfl ?_
      rintro _ _ rfl
      refine kPa rfl rfl ?_; refine p_nil ?_; refine go_sub (σ' := [(7, _), (5, _)]) ⟨rfl, rfl, trivial⟩ ?_; refine g_seq ?_; refine g_region ?_; refine kPm rfl rfl ?_; refine kPa rfl rfl ?_; refine p_nil ?_; refine g_ret ?_
      exact ret_tmp Tryz.results81 rfl (fun w hh => ⟨by rw [hres]; rfl, hh.tail⟩)
theorem ccheck_ok (B : World) (Fr : List HP) (bd : Nat) (s : Dev) (c : Cfg) (hc : CfgW c) (hu : U64 s) :
    ∀ w, Holds B (DevA bd s :: Fr) w → Calls Tryz.prog 27 [ptr bd, cfgV c].toArray w (PureR B (DevA bd s :: Fr) (i64 (s.check c))) := by
  refine fn_enter_m Tryz.func27 rfl Tryz.ntmps27 rfl ?_
  have hrl := block_len (s := s) hc
  refine g_seq ?_; refine g_region ?_; refine p_chg rfl (ch_box1 rfl rfl) .free rfl rfl ?_
  rintro _ _ ⟨b2, rfl, rfl⟩
  refine p_chg rfl (ch_boxA rfl) .free rfl rfl ?_
  rintro _ _ ⟨b3, rfl, rfl⟩
  refine kPa rfl rfl ?_; refine p_nil ?_; refine g_scope ?_; refine g_seq ?_; refine g_region ?_; refine kPv (ev_load Tryz.isAgg28 rfl rfl) rfl ?_; refine kPv (ev_loadA Tryz.isAgg30 Tryz.sizeOf30 rfl rfl) rfl ?_; refine go_pk [2] ?_
  refine p_call rfl (en_f Tryz.call15 rfl) (rread_ok _ _ _ _ c hc hu) .free rfl rfl ?_ ?_
  rotate_left
  · rintro _ _ ⟨⟩
  rintro _ _ ⟨sv, hsv, rfl, rfl⟩
  have hbk := block_w (s := s) hc hu
  refine kPm rfl rfl ?_; refine kPv (ev_ext rfl rfl) rfl ?_; refine kPv (ev_ext rfl rfl) rfl ?_; refine p_chg rfl (ch_allocA Tryz.zeroValue33 rfl) .free rfl rfl ?_
  rintro _ _ ⟨b5, rfl, rfl⟩
  refine p_chg0 rfl (ch_storeA (vs := [i64 _, i64 _, sv]) Tryz.sizeOf33 rfl rfl rfl (all3 hsv) rfl) .free rfl ?_
  rintro _ _ rfl
  refine kPa rfl rfl ?_; refine p_nil ?_; refine go_sub (σ' := [(6, _), (5, _), (4, _), (3, _), (2, _)]) ⟨rfl, rfl, rfl, rfl, rfl, trivial⟩ ?_; refine g_seq ?_; refine g_seq ?_; refine g_region ?_; refine kPm rfl rfl ?_; refine kPv (ev_cmp rfl rfl rfl) rfl ?_; refine p_nil ?_
  refine g_if rfl (fun h21 => ?_) (fun h21 => ?_)
  · have he : (s.block c).2 ≠ 0 := by simpa using h21
    have hres : s.check c = (s.block c).2 := by unfold Dev.check; rw [if_pos he]
    refine g_seq ?_; refine g_region ?_; refine kPm rfl rfl ?_; refine kPa rfl rfl ?_; refine p_nil ?_; refine g_ret ?_
    exact ret_tmp_m Tryz.results27 rfl (.nil) (fun w hh => ⟨by rw [hres] <;> rfl, (hh.dp [0, 0, 1, 1])⟩)
  · have he : (s.block c).2 = 0 := by simpa using h21
    refine g_skip ?_; refine g_seq ?_; refine g_region ?_; refine kPv (ev_load Tryz.isAgg28 rfl rfl) rfl ?_; refine kPv (ev_loadA Tryz.isAgg30 Tryz.sizeOf30 rfl rfl) rfl ?_; refine kPv (ev_loadA Tryz.isAgg33 Tryz.sizeOf33 rfl rfl) rfl ?_; refine go_pk [2] ?_
    refine p_call rfl (en_f Tryz.call80 rfl) (wstarts_ok _ _ bd s c hc (s.block c).1 sv hbk hsv) .free rfl rfl ?_ ?_
    rotate_left
    · rintro _ _ ⟨⟩
    rintro _ _ ⟨mb, rfl, rfl⟩
    refine kPm rfl rfl ?_; refine kPv (ev_ext rfl rfl) rfl ?_; refine kPv (ev_ext rfl rfl) rfl ?_; refine p_chg rfl (ch_alloc1 Tryz.zeroValue124 rfl) .free rfl rfl ?_
    rintro _ _ ⟨b7, rfl, rfl⟩
    refine p_chg0 rfl (ch_store Tryz.sizeOf124 rfl rfl rfl rfl) .free rfl ?_
    rintro _ _ rfl
    refine kPa rfl rfl ?_; refine p_nil ?_; refine go_sub (σ' := [(6, _), (7, _), (5, _), (4, _), (3, _), (2, _)]) ⟨rfl, rfl, rfl, rfl, rfl, rfl, trivial⟩ ?_; refine g_seq ?_; refine g_seq ?_; refine g_region ?_; refine kPm rfl rfl ?_; refine kPv (ev_cmp rfl rfl rfl) rfl ?_; refine p_nil ?_
    refine g_if rfl (fun h31 => ?_) (fun h31 => ?_)
    · have he2 : (s.starts c (s.block c).1).2 ≠ 0 := by simpa using h31
      have hres : s.check c = (s.starts c (s.block c).1).2 := by unfold Dev.check; rw [if_neg (by omega), if_pos he2]
      refine g_seq ?_; refine g_region ?_; refine kPm rfl rfl ?_; refine kPa rfl rfl ?_; refine p_nil ?_; refine g_ret ?_
      exact ret_tmp_m Tryz.results27 rfl (.nil) (fun w hh => ⟨by rw [hres] <;> rfl, (hh.dp [0, 0, 1, 1, 1, 1])⟩)
    · have he2 : (s.starts c (s.block c).1).2 = 0 := by simpa using h31
      refine g_skip ?_; refine g_seq ?_; refine g_region ?_; refine p_chg rfl (ch_alloc1 Tryz.zeroValue46 rfl) .free rfl rfl ?_
      rintro _ _ ⟨b8, rfl, rfl⟩
      refine p_chg0 rfl (ch_store Tryz.sizeOf46 rfl rfl rfl rfl) .free rfl ?_
      rintro _ _ rfl
      refine p_nil ?_; refine g_seq ?_; refine g_region ?_; refine kPv (ev_mkf rfl rfl) rfl ?_; refine p_chg rfl (ch_alloc1 Tryz.zeroValue129 rfl) .free rfl rfl ?_
      rintro _ _ ⟨b9, rfl, rfl⟩
      refine p_chg0 rfl (ch_store Tryz.sizeOf129 rfl rfl rfl rfl) .free rfl ?_
      rintro _ _ rfl
      refine go_pk [6] ?_; refine go_vecq fun qo co hqe hqo => ?_
      subst hqe
      refine p_nil ?_; refine g_seq ?_; refine g_seq ?_; refine g_region ?_; refine kPv (ev_fa (m := _) fa_33_2 rfl rfl) rfl ?_; refine kPv (ev_load Tryz.isAgg31 rfl rfl) rfl ?_; refine kPv (ev_len rfl Tryz.runUnderlying31 ⟨_, rfl⟩ rfl) rfl ?_; refine kPm rfl rfl ?_; refine p_nil ?_; refine g_block ?_
      refine g_loopk (ι := Nat) [36, 35, 9, 8, 5, 4, 3, 2] (fun k => (k ≤ (s.block c).1.rts.length) ∧ (((s.block c).1.rts.take k).all (namesM c (s.block c).1 (s.starts c (s.block c).1).1) = true)) (fun k => [(37, i64 k)]) (fun k => row b5 [i64 (s.block c).1.act, i64 (s.block c).1.used, .slice qo (s.block c).1.rts.length co] 33 :: row b3 [i64 c.log, i64 c.roots, i64 c.space] 30 :: row b7 [.map (some mb)] 124 :: mapA .i64 objV mb (s.starts c (s.block c).1).1 :: VecU 0 (.slice qo (s.block c).1.rts.length co, (s.block c).1.rts) :: DevA bd s :: row b8 [i64 0] 46 :: row b9 [.func (.func 81) #[] #[ptr b5, ptr b3, ptr b7]] 129 :: row b2 [ptr bd] 28 :: Fr) (fun k => (s.block c).1.rts.length - k) (0) (⟨Nat.zero_le _, rfl⟩) (fun a w st => st.to ⟨rfl, trivial⟩ (fun hh => (hh.pk [6, 6, 3, 3, 0, 2, 1]))) ?_
      rintro k ⟨hk0, hkr⟩
      try simp only at hk0 hkr ⊢
      refine go_sub (σ' := [(37, i64 k), (36, _), (35, _), (9, _), (8, _), (5, _), (4, _), (3, _), (2, _)]) ⟨rfl, rfl, rfl, rfl, rfl, rfl, rfl, rfl, rfl, trivial⟩ ?_; refine g_seq ?_; refine g_region ?_; refine kPv (ev_cmp rfl rfl rfl) rfl ?_; refine p_nil ?_; refine g_seq ?_
      refine g_if rfl (fun h38 => ?_) (fun h38 => ?_)
      · have hk : k < (s.block c).1.rts.length := by simp at h38; omega
        obtain ⟨bq, oq, rfl⟩ := hqo k hk
        have hul : 0 ≤ (s.block c).1.rts[k] ∧ (s.block c).1.rts[k] < 18446744073709551616 := block_rts hu _ (List.getElem_mem hk)
        refine g_skip ?_; refine g_seq ?_; refine g_block ?_; refine g_seq ?_; refine g_region ?_; refine kPv (ev_iaS Tryz.runUnderlying31 Tryz.sizeOf52 rfl rfl (by omega) (by omega)) rfl ?_
        refine kPv (ev_loadS (v := w64 (s.block c).1.rts[k]) Tryz.isAgg52 (vec_slr 4 rfl) rfl (by rw [Int.toNat_natCast, List.getElem?_map, List.getElem?_eq_getElem hk]; rfl)) rfl ?_
        refine kPa rfl rfl ?_; refine p_nil ?_; refine g_seq ?_; refine g_region ?_; refine kPv (ev_load Tryz.isAgg129 rfl rfl) rfl ?_; refine kPm rfl rfl ?_; refine p_callq rfl (en_c Tryz.call81 rfl rfl) (cnames_ok B _ b5 b3 b7 mb c hc (s.block c).1 _ hbk rfl (s.starts c (s.block c).1).1 (s.block c).1.rts[k] hul) .free rfl rfl ?_; refine kPv (ev_not rfl) rfl ?_; refine p_nil ?_
        refine go_sub (σ' := [(44, _), (37, _), (36, _), (35, _), (9, _), (8, _), (5, _), (4, _), (3, _), (2, _)]) ⟨rfl, rfl, rfl, rfl, rfl, rfl, rfl, rfl, rfl, rfl, trivial⟩ ?_
        refine g_if rfl (fun h44 => ?_) (fun h44 => ?_)
        · have hnr : ¬ (namesM c (s.block c).1 (s.starts c (s.block c).1).1) (s.block c).1.rts[k] = true := by simpa using h44
          have hres : s.check c = 9 := by unfold Dev.check; rw [if_neg (by omega), if_neg (by omega), if_neg (fun hh => hnr (List.all_eq_true.1 hh _ (List.getElem_mem hk)))]
          refine g_seq ?_; refine g_region ?_; refine kPa rfl rfl ?_; refine p_nil ?_; refine g_ret ?_
          exact ret_tmp_m Tryz.results27 rfl (.nil) (fun w hh => ⟨by rw [hres] <;> rfl, (hh.dp [0, 0, 0, 0, 0, 1, 1, 1])⟩)
        · have hnr : (namesM c (s.block c).1 (s.starts c (s.block c).1).1) (s.block c).1.rts[k] = true := by simpa using h44
          refine g_skip ?_; refine g_region ?_
          first | refine p_val rfl (ev_add rfl rfl (wr64 (by omega))) .free rfl rfl ?_ | refine p_val rfl (ev_add rfl rfl rfl) .free rfl rfl ?_
          refine kPm rfl rfl ?_; refine p_nil ?_
          exact fun a w st_ => ⟨k + 1, ⟨by first | omega | (simp only; omega), take_succ_all hk hkr hnr⟩, by first | omega | (simp only; omega), st_.to ⟨rfl, rfl, rfl, rfl, rfl, rfl, rfl, rfl, rfl, trivial⟩ (fun hh => hh)⟩
      · have hk : ¬ k < (s.block c).1.rts.length := by simp at h38; omega
        obtain rfl : k = (s.block c).1.rts.length := by omega
        have hres : s.check c = (itl (stC s (namesM c (s.block c).1 (s.starts c (s.block c).1).1)) (s.objs c (s.block c).1 ((s.block c).1.used.toNat + 1) ((s.block c).1.place c 0)) 0).2 := by unfold Dev.check; rw [if_neg (by omega), if_neg (by omega), if_pos (by rw [List.take_length] at hkr; exact hkr)]
        refine g_exit ?_; refine g_seq ?_; refine g_label ?_; refine g_seq ?_; refine g_seq ?_; refine g_region ?_; refine kPv (ev_load Tryz.isAgg28 rfl rfl) rfl ?_; refine kPv (ev_loadA Tryz.isAgg30 Tryz.sizeOf30 rfl rfl) rfl ?_; refine kPv (ev_loadA Tryz.isAgg33 Tryz.sizeOf33 rfl rfl) rfl ?_
        refine p_call rfl (en_f Tryz.call83 rfl) (wobjs_ok _ _ bd c (s.block c).1 (.slice qo (s.block c).1.rts.length co) rfl) .free rfl rfl ?_ ?_
        rotate_left
        · rintro _ _ ⟨⟩
        rintro _ _ ⟨c3, c4, c5, rfl, rfl⟩
        refine p_nil ?_; refine go_sub (σ' := [(49, _), (9, _), (8, _), (4, _), (2, _)]) ⟨rfl, rfl, rfl, rfl, rfl, trivial⟩ ?_; refine g_block ?_; refine g_range rfl Tryz.call109 ?_
        intro l m tmps hts hkn w hh
        have hk9 := hkn 9 _ rfl
        have hk2 := hkn 2 _ rfl
        have hk8 := hkn 8 _ rfl
        refine (wobj1_ok B (blk m (.deferred (some [])) :: VecU 0 (.slice qo (s.block c).1.rts.length co, (s.block c).1.rts) :: Fr) l 27 c3 c4 c5 bd c hc (s.block c).1 _ hbk rfl s Int _ rfl rfl (fun x => True) (fun x => [row b8 [i64 x] 46, row b5 [i64 (s.block c).1.act, i64 (s.block c).1.used, .slice qo (s.block c).1.rts.length co] 33, row b3 [i64 c.log, i64 c.roots, i64 c.space] 30, row b7 [.map (some mb)] 124, mapA .i64 objV mb (s.starts c (s.block c).1).1, row b9 [.func (.func 81) #[] #[ptr b5, ptr b3, ptr b7]] 129, row b2 [ptr bd] 28]) (fun _ => .exit 2) (stC s (namesM c (s.block c).1 (s.starts c (s.block c).1).1)) 0 trivial ?_ w (hh.pk [0, 1, 1, 1, 6, 6, 1, 1, 1, 1, 2, 2])).mono (Ret.mono ?_ fun _ _ h => h.elim)
        · intro p x hpw _
          have hp2 := hpw.r
          have hp1 := hpw.w
          have hp3 := hpw.at_
          refine ⟨trivial, fun E => ?_⟩
          simp only [List.cons_append, List.nil_append]
          refine round_go (n := 70) (σ := [(50, objV p.1), (51, i64 p.2), (9, ptr b9), (2, ptr b2), (8, ptr b8)]) Tryz.func27 (by simp [lrec, hts]) (KnA.knows (by simp [KnA, lrec, hts]; exact ⟨(Array.getElem?_eq_some_iff.1 hk9).2, (Array.getElem?_eq_some_iff.1 hk2).2, (Array.getElem?_eq_some_iff.1 hk8).2⟩)) rfl ?_
          refine g_region ?_; refine p_chg rfl (ch_allocA Tryz.zeroValue89 rfl) .free rfl rfl ?_
          rintro _ _ ⟨b12, rfl, rfl⟩
          refine p_chg0 rfl (ch_storeA (vs := [i64 p.1.1, i64 p.1.2.1, i64 p.1.2.2]) Tryz.sizeOf89 rfl rfl rfl rfl rfl) .free rfl ?_
          rintro _ _ rfl
          refine p_nil ?_; refine go_pk [1] ?_; refine go_mid ?_; refine g_block ?_; refine g_seq ?_
          generalize hrec : ({ state := LoopState.busy, .. } : Loop) = rec
          refine g_region ?_; refine kPv (ev_fa (m := _) fa_89_0 rfl rfl) rfl ?_; refine kPv (ev_fa (m := _) fa_87_1 rfl rfl) rfl ?_; refine kPv (ev_load Tryz.isAgg3 rfl rfl) rfl ?_; refine kPm rfl rfl ?_; refine p_nil ?_; refine g_block ?_
          refine g_loopk (ι := Nat) [54, 12, 9, 2, 8] (fun j => ((j : Int) ≤ p.1.2.1) ∧ ((List.range j).all (fun k => (namesM c (s.block c).1 (s.starts c (s.block c).1).1) (s.load (p.1.2.2 + 1 + (k : Int)))) = true)) (fun j => [(55, i64 j)]) (fun j => row b5 [i64 (s.block c).1.act, i64 (s.block c).1.used, .slice qo (s.block c).1.rts.length co] 33 :: row b3 [i64 c.log, i64 c.roots, i64 c.space] 30 :: row b7 [.map (some mb)] 124 :: mapA .i64 objV mb (s.starts c (s.block c).1).1 :: row b12 [i64 p.1.1, i64 p.1.2.1, i64 p.1.2.2] 89 :: blk l (.loop rec) :: row c5 [i64 (s.block c).1.act, i64 (s.block c).1.used, .slice qo (s.block c).1.rts.length co] 33 :: row c4 [i64 c.log, i64 c.roots, i64 c.space] 30 :: row c3 [ptr bd] 28 :: DevA bd s :: row b8 [i64 x] 46 :: row b9 [.func (.func 81) #[] #[ptr b5, ptr b3, ptr b7]] 129 :: row b2 [ptr bd] 28 :: E) (fun j => p.1.2.1.toNat - j) (0) (⟨by first | omega | (simp only; omega), rfl⟩) (fun a w st => st.to ⟨rfl, trivial⟩ (fun hh => (hh.pk [7, 7, 7, 7, 1]))) ?_
          rintro j ⟨hj0, hall⟩
          try simp only at hj0 hall ⊢
          refine go_sub (σ' := [(55, i64 j), (54, _), (12, _), (9, _), (2, _), (8, _)]) ⟨rfl, rfl, rfl, rfl, rfl, rfl, trivial⟩ ?_; refine g_seq ?_; refine g_region ?_; refine kPv (ev_cmp rfl rfl rfl) rfl ?_; refine p_nil ?_; refine g_seq ?_
          refine g_if rfl (fun h56 => ?_) (fun h56 => ?_)
          · have hj : (j : Int) < p.1.2.1 := by simpa using h56
            refine g_skip ?_; refine g_seq ?_; refine g_block ?_; refine g_seq ?_; refine g_region ?_; refine kPm rfl rfl ?_; refine kPa rfl rfl ?_; refine p_nil ?_; refine g_seq ?_; refine g_draw Tryz.mixed (by kernel_rfl) (by kernel_rfl) ?_; refine kQv (ev_load Tryz.isAgg129 rfl rfl) rfl ?_; refine kQv (ev_load Tryz.isAgg28 rfl rfl) rfl ?_; refine kQv (ev_fa (m := _) fa_89_1 rfl rfl) rfl ?_; refine kQv (ev_load Tryz.isAgg3 rfl rfl) rfl ?_
            first | refine q_val rfl (ev_add rfl rfl (wr64 (by omega))) .free rfl ?_ | refine q_val rfl (ev_add rfl rfl rfl) .free rfl ?_
            refine kQm rfl rfl ?_
            first | refine q_val rfl (ev_add rfl rfl (wr64 (by omega))) .free rfl ?_ | refine q_val rfl (ev_add rfl rfl rfl) .free rfl ?_
            refine q_call rfl (en_f Tryz.call72 rfl) (ro_at (q := DevA) (fun Fr => nload_ok _ Fr _ _ _)) .free rfl ?_; refine q_call rfl (en_c Tryz.call81 rfl rfl) (cnames_ok B _ b5 b3 b7 mb c hc (s.block c).1 _ hbk rfl (s.starts c (s.block c).1).1 (s.load (p.1.2.2 + 1 + (j : Int))) (hu.load _)) .free rfl ?_; refine kQv (ev_not rfl) rfl ?_; refine q_nil ?_; refine go_sub (σ' := [(67, _), (55, _), (54, _), (12, _), (9, _), (2, _), (8, _)]) ⟨rfl, rfl, rfl, rfl, rfl, rfl, rfl, trivial⟩ ?_
            refine g_if rfl (fun h67 => ?_) (fun h67 => ?_)
            · have hnall : ¬ (namesM c (s.block c).1 (s.starts c (s.block c).1).1) (s.load (p.1.2.2 + 1 + (j : Int))) = true := by simpa using h67
              subst hrec
              refine g_seq ?_; refine g_region ?_; refine p_chg0 rfl (ch_store Tryz.sizeOf46 rfl rfl rfl rfl) .free rfl ?_
              rintro _ _ rfl
              refine p_nil ?_; refine g_exit ?_
              have hst : stC s (namesM c (s.block c).1 (s.starts c (s.block c).1).1) p x = (false, 9) := by unfold stC; rw [if_neg (show ¬ refsM s (namesM c (s.block c).1 (s.starts c (s.block c).1).1) p.1 = true from fun hh => hnall (List.all_eq_true.1 hh j (List.mem_range.2 (by omega))))]
              refine go_pk [5] ?_
              exact go_rJ fun w hh => ⟨_, ⟨by rw [hst], rfl⟩, by rw [hst]; exact ((hh.dp [5]).pk [0, 4, 4, 4, 4, 4])⟩
            · have hnm : (namesM c (s.block c).1 (s.starts c (s.block c).1).1) (s.load (p.1.2.2 + 1 + (j : Int))) = true := by simpa using h67
              refine g_skip ?_; refine g_region ?_
              first | refine p_val rfl (ev_add rfl rfl (wr64 (by omega))) .free rfl rfl ?_ | refine p_val rfl (ev_add rfl rfl rfl) .free rfl rfl ?_
              refine kPm rfl rfl ?_; refine p_nil ?_
              exact fun a w st_ => ⟨j + 1, ⟨by first | omega | (simp only; omega), range_succ_all hall hnm⟩, by first | omega | (simp only; omega), st_.to ⟨rfl, rfl, rfl, rfl, rfl, rfl, trivial⟩ (fun hh => hh)⟩
          · have hj : ¬ (j : Int) < p.1.2.1 := by simpa using h56
            have hall2 : refsM s (namesM c (s.block c).1 (s.starts c (s.block c).1).1) p.1 = true := by unfold refsM; rw [show p.1.2.1.toNat = j by omega]; exact hall
            subst hrec
            refine g_exit ?_
            have hst : stC s (namesM c (s.block c).1 (s.starts c (s.block c).1).1) p x = (true, x) := by unfold stC; rw [if_pos hall2]
            refine go_pk [5] ?_
            exact go_rK fun w hh => ⟨_, ⟨by rw [hst], rfl⟩, by rw [hst]; exact ((hh.dp [5]).pk [0, 4, 4, 4, 4, 4])⟩
        rintro _ _ ⟨_, rfl⟩
        simp only [List.cons_append, List.nil_append]
        refine ⟨_, _, fun w hh => hh, lst_busy (by simp [lrec]), fun hp => ?_, fun c' hc' => ?_⟩
        rotate_left
        · obtain ⟨h1, rfl⟩ := lst_some rfl hc'
          refine g_exit ?_; refine g_seq ?_; refine g_region ?_; refine kPv (ev_load Tryz.isAgg46 rfl rfl) rfl ?_; refine kPa rfl rfl ?_; refine p_nil ?_; refine g_ret ?_
          exact ret_tmp_m Tryz.results27 rfl (.at 12 (.nil)) (fun w hh => ⟨by rw [hres] <;> rfl, (hh.dp [0, 0, 0, 0, 1, 1, 1, 1, 1, 1, 1, 1, 1])⟩)
        refine g_seq ?_; refine g_region ?_; refine kPv (ev_load Tryz.isAgg46 rfl rfl) rfl ?_; refine kPa rfl rfl ?_; refine p_nil ?_; refine g_ret ?_
        exact ret_tmp_m Tryz.results27 rfl (.at 12 (.nil)) (fun w hh => ⟨by rw [hres] <;> rfl, (hh.dp [0, 0, 0, 0, 1, 1, 1, 1, 1, 1, 1, 1, 1])⟩)
end Go.Proofs.YtbfheafpecgphaaGreat
namespace Go.Proofs.YtbfheafpecgphaaGreat
open Go
abbrev PrR (R : List (Int × Int)) (v w : Int) : Prop := (v = 0 ∧ w = 0) ∨ (v, w) ∈ R
structure IsoR (c : Cfg) (a : Blk) (s : Dev) (b : Blk) (t : Dev) (R : List (Int × Int)) : Prop where
  nz : ∀ p ∈ R, (1 ≤ p.1 ∧ p.1 < 20000) ∧ (1 ≤ p.2 ∧ p.2 < 20000)
  i1 : ∀ p ∈ R, ∀ q ∈ R, p.1 = q.1 → p = q
  i2 : ∀ p ∈ R, ∀ q ∈ R, p.2 = q.2 → p = q
  of : ∀ p ∈ R, ∃ w r, s.objOf c a p.1 = ((w, r, p.1), 0) ∧ t.objOf c b p.2 = ((w, r, p.2), 0) ∧ (0 ≤ w ∧ w ≤ 64) ∧ (0 ≤ r ∧ r ≤ w) ∧ ∀ i : Nat, (i : Int) < w → if (i : Int) < r then PrR R (s.load (p.1 + 1 + i)) (t.load (p.2 + 1 + i)) else s.load (p.1 + 1 + i) = t.load (p.2 + 1 + i)
theorem nodup_leP {α : Type} [BEq α] [LawfulBEq α] : ∀ {d l : List α}, d.Nodup → (∀ x ∈ d, x ∈ l) → d.length ≤ l.length
  | [], _, _, _ => Nat.zero_le _
  | x :: d, l, hn, h => by
    rw [List.nodup_cons] at hn
    have h1 := h x (List.mem_cons_self ..)
    have h2 := nodup_leP (l := l.erase x) hn.2 (fun y hy => (List.mem_erase_of_ne (by intro e; subst e; exact hn.1 hy)).2 (h y (List.mem_cons_of_mem _ hy)))
    have h3 := List.length_erase_of_mem h1
    have h4 := List.length_pos_of_mem h1
    simp only [List.length_cons]; omega
abbrev encP (p : Int × Int) : List Value := [w64 p.1, w64 p.2]
theorem encP_w : EncW 2 encP := ⟨fun _ => rfl, fun _ => rfl⟩
theorem mval_w (o : Option Int) : mval w64 (w64 0) o = w64 (o.getD 0) := by cases o <;> rfl
theorem smget_in {k v : Int} : ∀ {l : List (Int × Int)}, mget l k = some v → (k, v) ∈ l
  | [], h => by cases h
  | q :: l, h => by
    unfold mget at h
    split at h
    · rename_i e; cases h; subst e; exact List.mem_cons_self ..
    · exact List.mem_cons_of_mem _ (smget_in h)
theorem smget_of {k v : Int} : ∀ {l : List (Int × Int)}, (k, v) ∈ l → ∃ u, mget l k = some u
  | [], h => by cases h
  | q :: l, h => by
    unfold mget
    by_cases e : q.1 = k
    · rw [if_pos e]; exact ⟨_, rfl⟩
    · rw [if_neg e]
      rcases List.mem_cons.1 h with rfl | h
      · exact absurd rfl e
      · exact smget_of h
theorem same_to {R M : List (Int × Int)} (hi : ∀ p ∈ R, ∀ q ∈ R, p.1 = q.1 → p = q) (hM : ∀ p ∈ M, p ∈ R) {p : Int × Int} (hp : p ∈ R) {x : Int} (h : mget M p.1 = some x) : x = p.2 ∧ p ∈ M := by
  have h1 := smget_in h
  have h2 := hi _ (hM _ h1) p hp rfl
  exact ⟨congrArg Prod.snd h2, h2 ▸ h1⟩
theorem same_swap {M : List (Int × Int)} {p : Int × Int} : (p.2, p.1) ∈ M.map Prod.swap ↔ p ∈ M := by
  rw [List.mem_map]
  exact ⟨fun ⟨q, hq, e⟩ => by cases q; cases p; cases e; exact hq, fun h => ⟨p, h, rfl⟩⟩
theorem same_from {R M : List (Int × Int)} (hi : ∀ p ∈ R, ∀ q ∈ R, p.2 = q.2 → p = q) (hM : ∀ p ∈ M, p ∈ R) {p : Int × Int} (hp : p ∈ R) {x : Int} (h : mget (M.map Prod.swap) p.2 = some x) : x = p.1 ∧ p ∈ M := by
  have h1 := smget_in h
  have h3 : ((x, p.2) : Int × Int) ∈ M := (same_swap (p := (x, p.2))).1 h1
  have h2 := hi _ (hM _ h3) p hp rfl
  exact ⟨congrArg Prod.fst h2, h2 ▸ h3⟩
theorem same_ok (B : World) (Fr : List HP) (bd be : Nat) (s t : Dev) (c : Cfg) (hc : CfgW c) (a b : Blk) (sva svb : Value) (hba : BlkW c a) (hbb : BlkW c b) (hsva : cell1 sva = true) (hsvb : cell1 svb = true) (hus : U64 s) (hut : U64 t) (R : List (Int × Int)) (hR : IsoR c a s b t R) (hRl : R.length ≤ 1000000) (vs ws : List Int) (hvw : vs.length = ws.length) (hvl : vs.length ≤ 1000000) (hpr : ∀ i (h : i < vs.length), PrR R vs[i] (ws[i]'(by omega))) (qv qw : Option Addr) (cv cw : Nat) (hqv : ∀ i, i < vs.length → ∃ b off, qv = some ⟨b, off, none⟩) (hqw : ∀ i, i < ws.length → ∃ b off, qw = some ⟨b, off, none⟩) (hv : SlR B Fr (.slice qv vs.length cv) (vs.map w64)) (hw : SlR B Fr (.slice qw ws.length cw) (ws.map w64)) :
    ∀ w, Holds B (DevA bd s :: DevA be t :: Fr) w → Calls Tryz.prog 28 [ptr bd, cfgV c, blkV a sva, .slice qv vs.length cv, ptr be, blkV b svb, .slice qw ws.length cw].toArray w (PureR B (DevA bd s :: DevA be t :: Fr) (.bool true)) := by
  refine fn_enter Tryz.func28 rfl Tryz.ntmps28 rfl ?_; refine g_seq ?_; refine g_region ?_; refine p_chg rfl (ch_boxA rfl) .free rfl rfl ?_
  rintro _ _ ⟨b8, rfl, rfl⟩
  refine p_chg rfl (ch_boxA rfl) .free rfl rfl ?_
  rintro _ _ ⟨b9, rfl, rfl⟩
  refine p_chg rfl (ch_boxA rfl) .free rfl rfl ?_
  rintro _ _ ⟨b12, rfl, rfl⟩
  refine kPa rfl rfl ?_; refine p_nil ?_; refine g_seq ?_; refine g_seq ?_; refine g_region ?_; refine kPm rfl rfl ?_; refine kPv (ev_len rfl Tryz.runUnderlying31 ⟨_, rfl⟩ rfl) rfl ?_; refine kPm rfl rfl ?_; refine kPv (ev_len rfl Tryz.runUnderlying31 ⟨_, rfl⟩ rfl) rfl ?_; refine kPv (ev_cmp rfl rfl rfl) rfl ?_; refine p_nil ?_; refine go_sub (σ' := [(35, _), (14, _), (12, _), (9, _), (8, _), (0, _), (3, _), (4, _), (6, _)]) ⟨rfl, rfl, rfl, rfl, rfl, rfl, rfl, rfl, rfl, trivial⟩ ?_
  refine g_iff rfl ((by rw [hvw]; simp)) ?_
  refine g_skip ?_; refine g_seq ?_; refine g_region ?_; refine p_chg rfl (ch_makeMap .u64 w64) .free rfl rfl ?_
  rintro _ _ ⟨m1, rfl, rfl⟩
  refine p_chg rfl (ch_makeMap .u64 w64) .free rfl rfl ?_
  rintro _ _ ⟨m2, rfl, rfl⟩
  refine kPa rfl rfl ?_; refine kPa rfl rfl ?_; refine p_nil ?_; refine g_seq ?_; refine g_region ?_; refine kPa rfl rfl ?_; refine p_nil ?_; refine g_seq ?_; refine g_seq ?_; refine go_conv (fun w hh => vecg_nil (α := Int × Int) (T := 136) (m := 2) (enc := encP) hh) ?_; refine g_region ?_; refine kPm rfl rfl ?_; refine kPv (ev_len rfl Tryz.runUnderlying31 ⟨_, rfl⟩ rfl) rfl ?_; refine kPm rfl rfl ?_; refine p_nil ?_; refine g_block ?_
  refine g_loopk (ι := Nat × List (Int × Int) × Value) [39, 16, 15, 14, 12, 9, 8, 0, 3, 4, 6] (fun (k, TD, tv) => (k ≤ vs.length) ∧ (∀ x ∈ TD, PrR R x.1 x.2) ∧ (TD.length ≤ k) ∧ (cell1 tv = true)) (fun (k, TD, tv) => [(40, i64 k), (17, tv)]) (fun (k, TD, tv) => VecG 136 2 encP 0 (tv, TD) :: mapA .u64 w64 m1 [] :: mapA .u64 w64 m2 [] :: row b8 [i64 c.log, i64 c.roots, i64 c.space] 30 :: row b9 [i64 a.act, i64 a.used, sva] 33 :: row b12 [i64 b.act, i64 b.used, svb] 33 :: DevA bd s :: DevA be t :: Fr) (fun (k, TD, tv) => vs.length - k) (0, [], .slice none 0 0) (⟨Nat.zero_le _, fun _ h => (by cases h), Nat.zero_le _, rfl⟩) (fun a w st => st.to ⟨rfl, rfl, trivial⟩ (fun hh => (hh.pk [0, 1, 0, 2, 1]))) ?_
  rintro ⟨k, TD, tv⟩ ⟨hk0, hT, htl, htv⟩
  try simp only at hk0 hT htl htv ⊢
  refine go_sub (σ' := [(40, i64 k), (17, tv), (39, _), (16, _), (15, _), (14, _), (12, _), (9, _), (8, _), (0, _), (3, _), (4, _), (6, _)]) ⟨rfl, rfl, rfl, rfl, rfl, rfl, rfl, rfl, rfl, rfl, rfl, rfl, rfl, trivial⟩ ?_; refine g_seq ?_; refine g_region ?_; refine kPv (ev_cmp rfl rfl rfl) rfl ?_; refine p_nil ?_; refine g_seq ?_
  refine g_if rfl (fun h41 => ?_) (fun h41 => ?_)
  · have hk : k < vs.length := by simp at h41; omega
    have hk' : k < ws.length := by omega
    obtain ⟨b1, o1, rfl⟩ := hqv k hk
    obtain ⟨b2, o2, rfl⟩ := hqw k (by omega)
    refine g_skip ?_; refine g_seq ?_; refine g_block ?_; refine g_seq ?_; refine g_region ?_; refine kPm rfl rfl ?_; refine kPa rfl rfl ?_; refine p_nil ?_; refine g_drawv [0, 1, 2, 3, 4, 5, 6, 7, 8, 9, 10, 11, 12] [10, 11] [0] [10] [] Tryz.mixed (by kernel_rfl) ?_; refine v_hoist rfl rfl rfl (ev_move rfl) .free rfl ?_; refine v_val rfl rfl rfl (ev_move rfl) .free rfl ?_; refine v_val rfl rfl rfl (ev_move rfl) .free rfl ?_
    refine v_val rfl rfl rfl (ev_iaS Tryz.runUnderlying31 Tryz.sizeOf52 rfl rfl (by omega) (by omega)) .free rfl ?_
    refine v_val rfl rfl rfl (ev_loadS (v := w64 vs[k]) Tryz.isAgg52 hv.up rfl (by rw [Int.toNat_natCast, List.getElem?_map, List.getElem?_eq_getElem (by omega)]; rfl)) .free rfl ?_
    refine v_val rfl rfl rfl (ev_move rfl) .free rfl ?_; refine v_val rfl rfl rfl (ev_move rfl) .free rfl ?_; refine v_val rfl rfl rfl (ev_iaS Tryz.runUnderlying31 Tryz.sizeOf52 rfl rfl (by omega) (by omega)) .free rfl ?_
    refine v_val rfl rfl rfl (ev_loadS (v := w64 (ws[k]'hk')) Tryz.isAgg52 hw.up rfl (by rw [Int.toNat_natCast, List.getElem?_map, List.getElem?_eq_getElem (by omega)]; rfl)) .free rfl ?_
    refine v_val rfl rfl rfl (ev_build rfl (bld_136_0_1 _ _ rfl rfl)) .free rfl ?_; refine v_mark rfl rfl ?_; refine p_chg rfl (ch_bsG encP_w (v := (vs[k], ws[k]'hk')) Tryz.runUnderlying134 Tryz.sizeOf136 Tryz.zeroValue136 ⟨⟨by decide, by decide⟩, rfl⟩ rfl rfl) .free rfl rfl ?_
    rintro _ _ ⟨b53, rfl, rfl⟩
    refine p_nil ?_; refine v_on ?_; refine v_mark rfl rfl ?_; refine go_pk [1, 0] ?_; refine p_chg rfl (ch_append_vecg encP_w (ys := [(vs[k], ws[k]'hk')]) rfl rfl Tryz.runUnderlying134 Tryz.runUnderlying134 ⟨_, rfl⟩ Tryz.sizeOf136 Tryz.zeroValue136 rfl tb_136 rfl rfl (SlM.row (b := b53) rfl rfl) (Nat.succ_pos _) (by simp; omega)) .free rfl rfl ?_
    rintro tv2 _ ⟨htv2, rfl⟩
    refine p_nil ?_; refine v_off rfl ?_; refine v_val rfl rfl rfl (ev_assign rfl) .free rfl ?_; refine v_nil ?_; refine go_sub (σ' := [(17, _), (40, _), (39, _), (16, _), (15, _), (14, _), (12, _), (9, _), (8, _), (0, _), (3, _), (4, _), (6, _)]) ⟨rfl, rfl, rfl, rfl, rfl, rfl, rfl, rfl, rfl, rfl, rfl, rfl, rfl, trivial⟩ ?_; refine g_region ?_
    first | refine p_val rfl (ev_add rfl rfl (wr64 (by omega))) .free rfl rfl ?_ | refine p_val rfl (ev_add rfl rfl rfl) .free rfl rfl ?_
    refine kPm rfl rfl ?_; refine p_nil ?_
    exact fun a w st_ => ⟨(k + 1, TD ++ [(vs[k], ws[k]'hk')], tv2), ⟨by omega, fun x hx => (List.mem_append.1 hx).elim (hT x) (fun h => by rw [List.mem_singleton.1 h]; exact hpr k hk), by simp only [List.length_append, List.length_cons, List.length_nil]; omega, htv2⟩, by simp only; omega, st_.to ⟨rfl, rfl, rfl, rfl, rfl, rfl, rfl, rfl, rfl, rfl, rfl, rfl, rfl, trivial⟩ (fun hh => (hh.dp [1]))⟩
  · have hk : ¬ k < vs.length := by simp at h41; omega
    refine g_exit ?_; refine g_seq ?_; refine g_block ?_
    refine g_loopk (ι := List (Int × Int) × List (Int × Int) × Value) [16, 15, 14, 12, 9, 8, 0, 4] (fun (M, TD, tv) => (∀ x ∈ M, x ∈ R) ∧ (M.Nodup) ∧ (∀ x ∈ TD, PrR R x.1 x.2) ∧ (66 * (R.length - M.length) + TD.length ≤ 66 * R.length + vs.length) ∧ (cell1 tv = true)) (fun (M, TD, tv) => [(17, tv)]) (fun (M, TD, tv) => VecG 136 2 encP 0 (tv, TD) :: mapA .u64 w64 m1 M :: mapA .u64 w64 m2 (M.map Prod.swap) :: row b8 [i64 c.log, i64 c.roots, i64 c.space] 30 :: row b9 [i64 a.act, i64 a.used, sva] 33 :: row b12 [i64 b.act, i64 b.used, svb] 33 :: DevA bd s :: DevA be t :: Fr) (fun (M, TD, tv) => 66 * (R.length - M.length) + TD.length) ([], TD, tv) (⟨fun _ h => (by cases h), List.nodup_nil, hT, by simp only [List.length_nil]; omega, htv⟩) (fun a w st => st.to ⟨rfl, trivial⟩ (fun hh => hh)) ?_
    rintro ⟨M, TD, tv⟩ ⟨hM, hnd, hT, hms, htv⟩
    try simp only at hM hnd hT hms htv ⊢
    refine go_sub (σ' := [(17, tv), (16, _), (15, _), (14, _), (12, _), (9, _), (8, _), (0, _), (4, _)]) ⟨rfl, rfl, rfl, rfl, rfl, rfl, rfl, rfl, rfl, trivial⟩ ?_; refine g_seq ?_; refine g_seq ?_; refine go_vecgq fun q2 cap2 hq2 hqi => ?_
    subst hq2
    refine g_region ?_; refine kPm rfl rfl ?_; refine kPv (ev_len rfl Tryz.runUnderlying134 ⟨_, rfl⟩ rfl) rfl ?_; refine kPv (ev_cmp rfl rfl rfl) rfl ?_; refine p_nil ?_
    refine g_if rfl (fun h58 => ?_) (fun h58 => ?_)
    · obtain ⟨p, TD', rfl⟩ : ∃ p TD', TD = p :: TD' := by
        cases TD with
        | nil => simp at h58
        | cons p t => exact ⟨p, t, rfl⟩
      obtain ⟨bq2, oq2, rfl⟩ := hqi 0 (Nat.succ_pos _)
      have hpp := hT p (List.mem_cons_self ..)
      have hT' : ∀ x ∈ TD', PrR R x.1 x.2 := fun x hx => hT x (List.mem_cons_of_mem _ hx)
      simp only [List.length_cons] at hms
      refine g_skip ?_; refine g_block ?_; refine g_seq ?_; refine g_region ?_; refine kPm rfl rfl ?_; refine kPv (ev_ia (m := oq2 + 0 * 2) Tryz.runUnderlying134 Tryz.sizeOf136 rfl rfl (by decide) (by simp only [List.length_cons]; omega) rfl) rfl ?_
      refine kPv (ev_loadN (i := 0) Tryz.isAgg136 Tryz.sizeOf136 (vecg_sln encP_w 0 rfl) rfl rfl) rfl ?_; refine p_chg rfl (ch_allocA Tryz.zeroValue136 rfl) .free rfl rfl ?_
      rintro _ _ ⟨b19, rfl, rfl⟩
      refine p_chg0 rfl (ch_storeA (vs := [w64 p.1, w64 p.2]) Tryz.sizeOf136 rfl rfl rfl rfl rfl) .free rfl ?_
      rintro _ _ rfl
      refine go_conv (H' := row b19 [w64 p.1, w64 p.2] 136 :: _) (fun w hh => hh) ?_; refine p_nil ?_; refine g_seq ?_; refine g_region ?_; refine kPm rfl rfl ?_; refine go_pk [1] ?_; refine p_chg rfl (ch_tail_vecg encP_w (v := p) (xs := TD') Tryz.runUnderlying134 Tryz.sizeOf136 rfl rfl) .free rfl rfl ?_
      rintro tv3 _ ⟨htv3, rfl⟩
      refine kPa rfl rfl ?_; refine p_nil ?_; refine go_sub (σ' := [(17, _), (19, _), (16, _), (15, _), (14, _), (12, _), (9, _), (8, _), (0, _), (4, _)]) ⟨rfl, rfl, rfl, rfl, rfl, rfl, rfl, rfl, rfl, rfl, trivial⟩ ?_; refine g_seq ?_; refine g_seq ?_
      rcases Bool.eq_false_or_eq_true (p.1 == 0) with hz | hz
      · skip
        have hp1 : p.1 = 0 := by simpa using hz
        have hp2 : p.2 = 0 := hpp.elim (fun h => h.2) (fun h => absurd hp1 (by have := (hR.nz _ h).1; simp only at this; omega))
        refine g_region ?_; refine kPv (ev_fa (m := _) fa_136_0 rfl rfl) rfl ?_; refine kPv (ev_load Tryz.isAgg52 rfl rfl) rfl ?_; refine kPv (ev_cmp rfl rfl rfl) rfl ?_; refine kPm rfl rfl ?_; refine p_skip rfl (.on rfl rfl (beq_ne hz)) rfl ?_; refine p_skip rfl (.on rfl rfl (beq_ne hz)) rfl ?_; refine p_skip rfl (.on rfl rfl (beq_ne hz)) rfl ?_; refine kPv (ev_pick_t rfl hz rfl) rfl ?_; refine p_nil ?_
        refine go_sub (σ' := [(71, _), (17, _), (19, _), (16, _), (15, _), (14, _), (12, _), (9, _), (8, _), (0, _), (4, _)]) ⟨rfl, rfl, rfl, rfl, rfl, rfl, rfl, rfl, rfl, rfl, rfl, trivial⟩ ?_; refine g_ift rfl (rfl) ?_; refine g_seq ?_; refine g_seq ?_; refine g_region ?_; refine kPv (ev_fa (m := _) fa_136_0 rfl rfl) rfl ?_; refine kPv (ev_load Tryz.isAgg52 rfl rfl) rfl ?_; refine kPv (ev_fa (m := _) fa_136_1 rfl rfl) rfl ?_; refine kPv (ev_load Tryz.isAgg52 rfl rfl) rfl ?_
        refine kPv (ev_cmp rfl rfl rfl) rfl ?_; refine p_nil ?_; refine g_iff rfl ((by rw [hp1, hp2]; rfl)) ?_
        refine g_skip ?_; refine g_exit ?_
        exact fun a w st_ => ⟨(M, TD', tv3), ⟨hM, hnd, hT', by simp only; omega, htv3⟩, by simp only [List.length_cons]; omega, st_.to ⟨rfl, rfl, rfl, rfl, rfl, rfl, rfl, rfl, rfl, trivial⟩ (fun hh => (by have h9 := (hh.dp [1]); first | exact h9 | (simp only [List.map_append]; exact h9)))⟩
      · skip
        have hp1 : p.1 ≠ 0 := by simpa using hz
        have hpR : p ∈ R := hpp.resolve_left (fun h => hp1 h.1)
        have hnz := hR.nz p hpR
        have hms' := hms
        refine g_region ?_; refine kPv (ev_fa (m := _) fa_136_0 rfl rfl) rfl ?_; refine kPv (ev_load Tryz.isAgg52 rfl rfl) rfl ?_; refine kPv (ev_cmp rfl rfl rfl) rfl ?_; refine kPm rfl rfl ?_; refine p_val rfl (ev_fa (m := _) fa_136_1 rfl rfl) (.on rfl rfl (beq_eq hz)) rfl rfl ?_; refine p_val rfl (ev_load Tryz.isAgg52 rfl rfl) (.on rfl rfl (beq_eq hz)) rfl rfl ?_; refine p_val rfl (ev_cmp rfl rfl rfl) (.on rfl rfl (beq_eq hz)) rfl rfl ?_; refine kPv (ev_pick_f rfl hz rfl) rfl ?_
        refine p_nil ?_; refine go_sub (σ' := [(71, _), (17, _), (19, _), (16, _), (15, _), (14, _), (12, _), (9, _), (8, _), (0, _), (4, _)]) ⟨rfl, rfl, rfl, rfl, rfl, rfl, rfl, rfl, rfl, rfl, rfl, trivial⟩ ?_; refine g_iff rfl ((by simp; omega)) ?_
        refine g_skip ?_; refine g_seq ?_; refine g_region ?_; refine kPm rfl rfl ?_; refine kPv (ev_fa (m := _) fa_136_0 rfl rfl) rfl ?_; refine kPv (ev_load Tryz.isAgg52 rfl rfl) rfl ?_; refine kPv ((ev_lookup2 Tryz.runUnderlying133 Tryz.runUnderlying52 Tryz.zeroValue52 rfl rfl).eq (congrArg (fun v => Value.tuple #[v, .bool _]) (mval_w _))) rfl ?_; refine kPm rfl rfl ?_; refine kPv (ev_ext rfl rfl) rfl ?_; refine kPv (ev_ext rfl rfl) rfl ?_; refine kPa rfl rfl ?_; refine kPa rfl rfl ?_
        refine p_nil ?_; refine go_sub (σ' := [(21, _), (20, _), (17, _), (19, _), (16, _), (15, _), (14, _), (12, _), (9, _), (8, _), (0, _), (4, _)]) ⟨rfl, rfl, rfl, rfl, rfl, rfl, rfl, rfl, rfl, rfl, rfl, rfl, trivial⟩ ?_; refine g_seq ?_; refine g_region ?_; refine kPm rfl rfl ?_; refine kPv (ev_fa (m := _) fa_136_1 rfl rfl) rfl ?_; refine kPv (ev_load Tryz.isAgg52 rfl rfl) rfl ?_
        refine kPv ((ev_lookup2 Tryz.runUnderlying133 Tryz.runUnderlying52 Tryz.zeroValue52 rfl rfl).eq (congrArg (fun v => Value.tuple #[v, .bool _]) (mval_w _))) rfl ?_; refine kPm rfl rfl ?_; refine kPv (ev_ext rfl rfl) rfl ?_; refine kPv (ev_ext rfl rfl) rfl ?_; refine kPa rfl rfl ?_; refine kPa rfl rfl ?_; refine p_nil ?_
        refine go_sub (σ' := [(23, _), (22, _), (21, _), (20, _), (17, _), (19, _), (16, _), (15, _), (14, _), (12, _), (9, _), (8, _), (0, _), (4, _)]) ⟨rfl, rfl, rfl, rfl, rfl, rfl, rfl, rfl, rfl, rfl, rfl, rfl, rfl, rfl, trivial⟩ ?_; refine g_seq ?_; refine g_seq ?_
        rcases Bool.eq_false_or_eq_true ((mget M p.1).isSome) with ho | ho
        · skip
          obtain ⟨x, hx⟩ := Option.isSome_iff_exists.1 ho
          obtain ⟨rfl, hpM⟩ := same_to hR.i1 hM hpR hx
          have hx1 := hx
          obtain ⟨y, hy⟩ := smget_of ((same_swap (p := p)).2 hpM)
          obtain ⟨rfl, _⟩ := same_from hR.i2 hM hpR hy
          have hx2 := hy
          refine g_region ?_; refine kPm rfl rfl ?_; refine kPm rfl rfl ?_; refine p_skip rfl (.on rfl rfl (beq_ne ho)) rfl ?_; refine kPv (ev_pick_t rfl ho rfl) rfl ?_; refine p_nil ?_; refine g_ift rfl (rfl) ?_; refine g_seq ?_; refine g_seq ?_; refine g_region ?_; refine kPm rfl rfl ?_; refine kPv (ev_not rfl) rfl ?_; refine kPm rfl rfl ?_; refine p_val rfl (ev_move rfl) (.on rfl rfl (beq_eq (by rw [hx1]; rfl))) rfl rfl ?_
          refine p_val rfl (ev_not rfl) (.on rfl rfl (beq_eq (by rw [hx1]; rfl))) rfl rfl ?_
          refine kPv (ev_pick_f rfl (by rw [hx1]; rfl) rfl) rfl ?_
          refine kPm rfl rfl ?_; refine p_val rfl (ev_move rfl) (.on rfl rfl (beq_eq (by rw [hx2]; rfl))) rfl rfl ?_
          refine p_val rfl (ev_fa (m := _) fa_136_1 rfl rfl) (.on rfl rfl (beq_eq (by rw [hx2]; rfl))) rfl rfl ?_
          refine p_val rfl (ev_load Tryz.isAgg52 rfl rfl) (.on rfl rfl (beq_eq (by rw [hx2]; rfl))) rfl rfl ?_
          refine p_val rfl (ev_cmp rfl rfl rfl) (.on rfl rfl (beq_eq (by rw [hx2]; rfl))) rfl rfl ?_
          refine kPv (ev_pick_f rfl (by rw [hx2]; rfl) rfl) rfl ?_
          refine kPm rfl rfl ?_; refine p_val rfl (ev_move rfl) (.on rfl rfl (beq_eq (by rw [hx1]; simp))) rfl rfl ?_
          refine p_val rfl (ev_fa (m := _) fa_136_0 rfl rfl) (.on rfl rfl (beq_eq (by rw [hx1]; simp))) rfl rfl ?_
          refine p_val rfl (ev_load Tryz.isAgg52 rfl rfl) (.on rfl rfl (beq_eq (by rw [hx1]; simp))) rfl rfl ?_
          refine p_val rfl (ev_cmp rfl rfl rfl) (.on rfl rfl (beq_eq (by rw [hx1]; simp))) rfl rfl ?_
          refine kPv (ev_pick_f rfl (by rw [hx1]; simp) rfl) rfl ?_
          refine p_nil ?_; refine go_sub (σ' := [(112, _), (17, _), (19, _), (16, _), (15, _), (14, _), (12, _), (9, _), (8, _), (0, _), (4, _)]) ⟨rfl, rfl, rfl, rfl, rfl, rfl, rfl, rfl, rfl, rfl, rfl, trivial⟩ ?_; refine g_iff rfl ((by rw [hx2]; simp)) ?_
          refine g_skip ?_; refine g_exit ?_
          exact fun a w st_ => ⟨(M, TD', tv3), ⟨hM, hnd, hT', by simp only; omega, htv3⟩, by simp only [List.length_cons]; omega, st_.to ⟨rfl, rfl, rfl, rfl, rfl, rfl, rfl, rfl, rfl, trivial⟩ (fun hh => (by have h9 := (hh.dp [1]); first | exact h9 | (simp only [List.map_append]; exact h9)))⟩
        · skip
          have hno : mget M p.1 = none := by simpa using ho
          have hpM : p ∉ M := fun hm => by
            obtain ⟨u, hu⟩ := smget_of (k := p.1) (v := p.2) hm
            rw [hno] at hu; cases hu
          have hno2 : mget (M.map Prod.swap) p.2 = none := by
            cases hy : mget (M.map Prod.swap) p.2 with
            | none => rfl
            | some y => exact absurd (same_from hR.i2 hM hpR hy).2 hpM
          obtain ⟨w_, r_, ho1, ho2, hw_, hr_, hfl⟩ := hR.of p hpR
          have hnd' : (M ++ [p]).Nodup := by rw [List.nodup_append]; exact ⟨hnd, by simp, fun a ha b' hb' => by simp at hb'; subst hb'; intro e; subst e; exact hpM ha⟩
          have hM' : ∀ x ∈ M ++ [p], x ∈ R := fun x hx => (List.mem_append.1 hx).elim (hM x) (fun h => by rw [List.mem_singleton.1 h]; exact hpR)
          have hle' := nodup_leP hnd' hM'
          simp only [List.length_append, List.length_cons, List.length_nil] at hle'
          refine g_region ?_; refine kPm rfl rfl ?_; refine kPm rfl rfl ?_; refine p_val rfl (ev_move rfl) (.on rfl rfl (beq_eq ho)) rfl rfl ?_; refine kPv (ev_pick_f rfl ho rfl) rfl ?_; refine p_nil ?_; refine g_iff rfl ((by rw [hno2]; rfl)) ?_
          refine g_skip ?_; refine g_seq ?_; refine g_drawv [0, 1, 2, 3, 4, 5, 6, 7, 8, 9, 10, 11] [10, 11] [3, 4, 5, 8, 9] [10] [row b19 [w64 p.1, w64 p.2] 136] Tryz.mixed (by kernel_rfl) ?_; refine v_val rfl rfl rfl (ev_move rfl) .free rfl ?_; refine v_val rfl rfl rfl (ev_fa (m := _) fa_136_0 rfl rfl) .free rfl ?_; refine v_val rfl rfl rfl (ev_load Tryz.isAgg52 rfl rfl) .free rfl ?_; refine v_hoist rfl rfl rfl (ev_move rfl) .free rfl ?_
          refine v_hoist rfl rfl rfl (ev_fa (m := _) fa_136_1 rfl rfl) .free rfl ?_; refine v_hoist rfl rfl rfl (ev_load Tryz.isAgg52 rfl rfl) .free rfl ?_; refine v_val rfl rfl rfl (ev_fa (m := _) fa_136_1 rfl rfl) .free rfl ?_; refine v_val rfl rfl rfl (ev_load Tryz.isAgg52 rfl rfl) .free rfl ?_; refine v_hoist rfl rfl rfl (ev_fa (m := _) fa_136_0 rfl rfl) .free rfl ?_; refine v_hoist rfl rfl rfl (ev_load Tryz.isAgg52 rfl rfl) .free rfl ?_; refine v_mark rfl rfl ?_
          refine p_chg0 rfl (ch_mapset (enc := w64) Tryz.runUnderlying133 Tryz.runUnderlying52 rfl rfl rfl rfl) .free rfl ?_
          rintro _ _ rfl
          refine p_nil ?_; refine v_on ?_; refine v_mark rfl rfl ?_; refine p_chg0 rfl (ch_mapset (enc := w64) Tryz.runUnderlying133 Tryz.runUnderlying52 rfl rfl rfl rfl) .free rfl ?_
          rintro _ _ rfl
          refine p_nil ?_; refine v_off rfl ?_; refine v_nil ?_; refine go_sub (σ' := [(17, _), (19, _), (16, _), (15, _), (14, _), (12, _), (9, _), (8, _), (0, _), (4, _)]) ⟨rfl, rfl, rfl, rfl, rfl, rfl, rfl, rfl, rfl, rfl, trivial⟩ ?_; refine g_seq ?_
          rw [mset_none hno, mset_none hno2]
          refine g_region ?_; refine kPm rfl rfl ?_; refine kPv (ev_loadA Tryz.isAgg30 Tryz.sizeOf30 rfl rfl) rfl ?_; refine kPv (ev_loadA Tryz.isAgg33 Tryz.sizeOf33 rfl rfl) rfl ?_; refine kPv (ev_fa (m := _) fa_136_0 rfl rfl) rfl ?_; refine kPv (ev_load Tryz.isAgg52 rfl rfl) rfl ?_
          first | refine p_val rfl (ev_conv Tryz.runUnderlying52 Tryz.runUnderlying3 rfl (wr64 (by omega))) .free rfl rfl ?_ | refine p_val rfl (ev_conv Tryz.runUnderlying52 Tryz.runUnderlying3 rfl rfl) .free rfl rfl ?_
          refine p_callq rfl (en_f Tryz.call51 rfl) (ro_at (q := DevA) (fun Fr => obj_ok _ Fr bd s c hc a sva hba hsva p.1 (by omega))) .free rfl rfl ?_; refine kPm rfl rfl ?_; refine kPv (ev_ext rfl rfl) rfl ?_; refine kPv (ev_ext rfl rfl) rfl ?_; refine p_chg rfl (ch_allocA Tryz.zeroValue89 rfl) .free rfl rfl ?_
          rintro _ _ ⟨b24, rfl, rfl⟩
          rw [ho1]
          refine p_chg0 rfl (ch_storeA (vs := [i64 w_, i64 r_, i64 p.1]) Tryz.sizeOf89 rfl rfl rfl rfl rfl) .free rfl ?_
          rintro _ _ rfl
          refine go_conv (H' := row b24 [i64 w_, i64 r_, i64 p.1] 89 :: _) (fun w hh => hh) ?_; refine kPa rfl rfl ?_; refine p_nil ?_; refine go_sub (σ' := [(25, _), (24, _), (17, _), (19, _), (16, _), (15, _), (14, _), (12, _), (9, _), (8, _), (0, _), (4, _)]) ⟨rfl, rfl, rfl, rfl, rfl, rfl, rfl, rfl, rfl, rfl, rfl, rfl, trivial⟩ ?_; refine g_seq ?_; refine g_region ?_; refine kPm rfl rfl ?_; refine kPv (ev_loadA Tryz.isAgg30 Tryz.sizeOf30 rfl rfl) rfl ?_
          refine kPv (ev_loadA Tryz.isAgg33 Tryz.sizeOf33 rfl rfl) rfl ?_; refine kPv (ev_fa (m := _) fa_136_1 rfl rfl) rfl ?_; refine kPv (ev_load Tryz.isAgg52 rfl rfl) rfl ?_
          first | refine p_val rfl (ev_conv Tryz.runUnderlying52 Tryz.runUnderlying3 rfl (wr64 (by omega))) .free rfl rfl ?_ | refine p_val rfl (ev_conv Tryz.runUnderlying52 Tryz.runUnderlying3 rfl rfl) .free rfl rfl ?_
          refine p_callq rfl (en_f Tryz.call51 rfl) (ro_at (q := DevA) (fun Fr => obj_ok _ Fr be t c hc b svb hbb hsvb p.2 (by omega))) .free rfl rfl ?_; refine kPm rfl rfl ?_; refine kPv (ev_ext rfl rfl) rfl ?_; refine kPv (ev_ext rfl rfl) rfl ?_; refine p_chg rfl (ch_allocA Tryz.zeroValue89 rfl) .free rfl rfl ?_
          rintro _ _ ⟨b26, rfl, rfl⟩
          rw [ho2]
          refine p_chg0 rfl (ch_storeA (vs := [i64 w_, i64 r_, i64 p.2]) Tryz.sizeOf89 rfl rfl rfl rfl rfl) .free rfl ?_
          rintro _ _ rfl
          refine go_conv (H' := row b26 [i64 w_, i64 r_, i64 p.2] 89 :: _) (fun w hh => hh) ?_; refine kPa rfl rfl ?_; refine p_nil ?_; refine go_sub (σ' := [(27, _), (26, _), (25, _), (24, _), (17, _), (16, _), (15, _), (14, _), (12, _), (9, _), (8, _), (0, _), (4, _)]) ⟨rfl, rfl, rfl, rfl, rfl, rfl, rfl, rfl, rfl, rfl, rfl, rfl, rfl, trivial⟩ ?_; refine g_seq ?_; refine g_seq ?_; refine g_region ?_; refine kPm rfl rfl ?_; refine kPv (ev_cmp rfl rfl rfl) rfl ?_; refine kPm rfl rfl ?_
          refine p_val rfl (ev_move rfl) (.on rfl rfl (beq_eq rfl)) rfl rfl ?_; refine p_val rfl (ev_cmp rfl rfl rfl) (.on rfl rfl (beq_eq rfl)) rfl rfl ?_; refine kPv (ev_pick_f rfl rfl rfl) rfl ?_; refine kPm rfl rfl ?_; refine p_val rfl (ev_fa (m := _) fa_89_0 rfl rfl) (.on rfl rfl (beq_eq rfl)) rfl rfl ?_; refine p_val rfl (ev_fa (m := _) fa_87_0 rfl rfl) (.on rfl rfl (beq_eq rfl)) rfl rfl ?_; refine p_val rfl (ev_load Tryz.isAgg3 rfl rfl) (.on rfl rfl (beq_eq rfl)) rfl rfl ?_
          refine p_val rfl (ev_fa (m := _) fa_89_0 rfl rfl) (.on rfl rfl (beq_eq rfl)) rfl rfl ?_; refine p_val rfl (ev_fa (m := _) fa_87_0 rfl rfl) (.on rfl rfl (beq_eq rfl)) rfl rfl ?_; refine p_val rfl (ev_load Tryz.isAgg3 rfl rfl) (.on rfl rfl (beq_eq rfl)) rfl rfl ?_; refine p_val rfl (ev_cmp rfl rfl rfl) (.on rfl rfl (beq_eq rfl)) rfl rfl ?_; refine kPv (ev_pick_f rfl rfl rfl) rfl ?_; refine kPm rfl rfl ?_
          refine p_val rfl (ev_fa (m := _) fa_89_0 rfl rfl) (.on rfl rfl (beq_eq (by simp))) rfl rfl ?_; refine p_val rfl (ev_fa (m := _) fa_87_1 rfl rfl) (.on rfl rfl (beq_eq (by simp))) rfl rfl ?_; refine p_val rfl (ev_load Tryz.isAgg3 rfl rfl) (.on rfl rfl (beq_eq (by simp))) rfl rfl ?_; refine p_val rfl (ev_fa (m := _) fa_89_0 rfl rfl) (.on rfl rfl (beq_eq (by simp))) rfl rfl ?_; refine p_val rfl (ev_fa (m := _) fa_87_1 rfl rfl) (.on rfl rfl (beq_eq (by simp))) rfl rfl ?_
          refine p_val rfl (ev_load Tryz.isAgg3 rfl rfl) (.on rfl rfl (beq_eq (by simp))) rfl rfl ?_; refine p_val rfl (ev_cmp rfl rfl rfl) (.on rfl rfl (beq_eq (by simp))) rfl rfl ?_; refine kPv (ev_pick_f rfl (by simp) rfl) rfl ?_; refine p_nil ?_; refine go_sub (σ' := [(166, _), (26, _), (24, _), (17, _), (16, _), (15, _), (14, _), (12, _), (9, _), (8, _), (0, _), (4, _)]) ⟨rfl, rfl, rfl, rfl, rfl, rfl, rfl, rfl, rfl, rfl, rfl, rfl, trivial⟩ ?_; refine g_iff rfl ((by simp)) ?_
          refine g_skip ?_; refine g_seq ?_; refine g_region ?_; refine kPv (ev_fa (m := _) fa_89_0 rfl rfl) rfl ?_; refine kPv (ev_fa (m := _) fa_87_0 rfl rfl) rfl ?_; refine kPv (ev_load Tryz.isAgg3 rfl rfl) rfl ?_; refine kPm rfl rfl ?_; refine p_nil ?_; refine g_block ?_
          refine g_loopk (ι := Nat × List (Int × Int) × Value) [169, 26, 24, 16, 15, 14, 12, 9, 8, 0, 4] (fun (j, TD2, tv4) => ((j : Int) ≤ w_) ∧ (∀ x ∈ TD2, PrR R x.1 x.2) ∧ (TD2.length ≤ TD'.length + j) ∧ (cell1 tv4 = true)) (fun (j, TD2, tv4) => [(170, i64 j), (17, tv4)]) (fun (j, TD2, tv4) => VecG 136 2 encP 0 (tv4, TD2) :: mapA .u64 w64 m1 (M ++ [p]) :: mapA .u64 w64 m2 (M.map Prod.swap ++ [(p.2, p.1)]) :: row b24 [i64 w_, i64 r_, i64 p.1] 89 :: row b26 [i64 w_, i64 r_, i64 p.2] 89 :: row b19 [w64 p.1, w64 p.2] 136 :: row b8 [i64 c.log, i64 c.roots, i64 c.space] 30 :: row b9 [i64 a.act, i64 a.used, sva] 33 :: row b12 [i64 b.act, i64 b.used, svb] 33 :: DevA bd s :: DevA be t :: Fr) (fun (j, TD2, tv4) => (w_ - j).toNat) (0, TD', tv3) (⟨by omega, hT', Nat.le_refl _, htv3⟩) (fun a w st => st.to ⟨rfl, rfl, trivial⟩ (fun hh => (hh.pk [2, 3, 3, 1]))) ?_
          rintro ⟨j, TD2, tv4⟩ ⟨hj0, hT2, htl2, htv4⟩
          try simp only at hj0 hT2 htl2 htv4 ⊢
          refine go_sub (σ' := [(170, i64 j), (17, tv4), (169, _), (26, _), (24, _), (16, _), (15, _), (14, _), (12, _), (9, _), (8, _), (0, _), (4, _)]) ⟨rfl, rfl, rfl, rfl, rfl, rfl, rfl, rfl, rfl, rfl, rfl, rfl, rfl, trivial⟩ ?_; refine g_seq ?_; refine g_region ?_; refine kPv (ev_cmp rfl rfl rfl) rfl ?_; refine p_nil ?_; refine g_seq ?_
          refine g_if rfl (fun h171 => ?_) (fun h171 => ?_)
          · have hj : (j : Int) < w_ := by simpa using h171
            refine g_skip ?_; refine g_seq ?_; refine g_block ?_; refine g_seq ?_; refine g_region ?_; refine kPm rfl rfl ?_; refine kPa rfl rfl ?_; refine p_nil ?_; refine g_seq ?_; refine g_draw Tryz.mixed (by kernel_rfl) (by kernel_rfl) ?_; refine kQm rfl rfl ?_; refine kQv (ev_fa (m := _) fa_89_1 rfl rfl) rfl ?_; refine kQv (ev_load Tryz.isAgg3 rfl rfl) rfl ?_
            first | refine q_val rfl (ev_add rfl rfl (wr64 (by omega))) .free rfl ?_ | refine q_val rfl (ev_add rfl rfl rfl) .free rfl ?_
            refine kQm rfl rfl ?_
            first | refine q_val rfl (ev_add rfl rfl (wr64 (by omega))) .free rfl ?_ | refine q_val rfl (ev_add rfl rfl rfl) .free rfl ?_
            refine q_call rfl (en_f Tryz.call72 rfl) (ro_at (q := DevA) (fun Fr => nload_ok _ Fr bd s _)) .free rfl ?_; refine kQm rfl rfl ?_; refine kQv (ev_fa (m := _) fa_89_1 rfl rfl) rfl ?_; refine kQv (ev_load Tryz.isAgg3 rfl rfl) rfl ?_
            first | refine q_val rfl (ev_add rfl rfl (wr64 (by omega))) .free rfl ?_ | refine q_val rfl (ev_add rfl rfl rfl) .free rfl ?_
            refine kQm rfl rfl ?_
            first | refine q_val rfl (ev_add rfl rfl (wr64 (by omega))) .free rfl ?_ | refine q_val rfl (ev_add rfl rfl rfl) .free rfl ?_
            refine q_call rfl (en_f Tryz.call72 rfl) (ro_at (q := DevA) (fun Fr => nload_ok _ Fr be t _)) .free rfl ?_; refine kQa rfl rfl ?_; refine kQa rfl rfl ?_; refine q_nil ?_; refine go_sub (σ' := [(30, _), (29, _), (28, _), (170, _), (17, _), (169, _), (26, _), (24, _), (16, _), (15, _), (14, _), (12, _), (9, _), (8, _), (0, _), (4, _)]) ⟨rfl, rfl, rfl, rfl, rfl, rfl, rfl, rfl, rfl, rfl, rfl, rfl, rfl, rfl, rfl, rfl, trivial⟩ ?_; refine g_seq ?_; refine g_region ?_; refine kPm rfl rfl ?_
            refine kPv (ev_fa (m := _) fa_89_0 rfl rfl) rfl ?_; refine kPv (ev_fa (m := _) fa_87_1 rfl rfl) rfl ?_; refine kPv (ev_load Tryz.isAgg3 rfl rfl) rfl ?_; refine kPv (ev_cmp rfl rfl rfl) rfl ?_; refine p_nil ?_
            refine g_if rfl (fun h191 => ?_) (fun h191 => ?_)
            · have hjr : (j : Int) < r_ := by simpa using h191
              have hfj := hfl j hj
              rw [if_pos hjr] at hfj
              refine g_region ?_; refine kPm rfl rfl ?_; refine kPm rfl rfl ?_; refine kPm rfl rfl ?_; refine kPv (ev_build rfl (bld_136_0_1 _ _ rfl rfl)) rfl ?_; refine p_chg rfl (ch_bsG encP_w (v := (s.load (p.1 + 1 + j), t.load (p.2 + 1 + j))) Tryz.runUnderlying134 Tryz.sizeOf136 Tryz.zeroValue136 ⟨⟨by decide, by decide⟩, rfl⟩ rfl rfl) .free rfl rfl ?_
              rintro _ _ ⟨b196, rfl, rfl⟩
              refine go_pk [1, 0] ?_; refine p_chg rfl (ch_append_vecg encP_w (ys := [(s.load (p.1 + 1 + j), t.load (p.2 + 1 + j))]) rfl rfl Tryz.runUnderlying134 Tryz.runUnderlying134 ⟨_, rfl⟩ Tryz.sizeOf136 Tryz.zeroValue136 rfl tb_136 rfl rfl (SlM.row (b := b196) rfl rfl) (Nat.succ_pos _) (by simp; omega)) .free rfl rfl ?_
              rintro tv5 _ ⟨htv5, rfl⟩
              refine kPa rfl rfl ?_; refine p_nil ?_; refine go_sub (σ' := [(17, _), (170, _), (169, _), (26, _), (24, _), (16, _), (15, _), (14, _), (12, _), (9, _), (8, _), (0, _), (4, _)]) ⟨rfl, rfl, rfl, rfl, rfl, rfl, rfl, rfl, rfl, rfl, rfl, rfl, rfl, trivial⟩ ?_; refine g_region ?_
              first | refine p_val rfl (ev_add rfl rfl (wr64 (by omega))) .free rfl rfl ?_ | refine p_val rfl (ev_add rfl rfl rfl) .free rfl rfl ?_
              refine kPm rfl rfl ?_; refine p_nil ?_
              exact fun a w st_ => ⟨(j + 1, TD2 ++ [(s.load (p.1 + 1 + j), t.load (p.2 + 1 + j))], tv5), ⟨by simp only; omega, fun x hx => (List.mem_append.1 hx).elim (hT2 x) (fun h => by rw [List.mem_singleton.1 h]; exact hfj), by simp only [List.length_append, List.length_cons, List.length_nil]; omega, htv5⟩, by simp only; omega, st_.to ⟨rfl, rfl, rfl, rfl, rfl, rfl, rfl, rfl, rfl, rfl, rfl, rfl, rfl, trivial⟩ (fun hh => (hh.dp [1]))⟩
            · have hjr : ¬ (j : Int) < r_ := by simpa using h191
              have hfj := hfl j hj
              rw [if_neg hjr] at hfj
              refine g_seq ?_; refine g_region ?_; refine kPm rfl rfl ?_; refine kPm rfl rfl ?_; refine kPv (ev_cmp rfl rfl rfl) rfl ?_; refine p_nil ?_; refine go_sub (σ' := [(200, _), (170, _), (17, _), (169, _), (26, _), (24, _), (16, _), (15, _), (14, _), (12, _), (9, _), (8, _), (0, _), (4, _)]) ⟨rfl, rfl, rfl, rfl, rfl, rfl, rfl, rfl, rfl, rfl, rfl, rfl, rfl, rfl, trivial⟩ ?_; refine g_iff rfl ((by rw [hfj]; simp)) ?_
              refine g_skip ?_; refine g_region ?_
              first | refine p_val rfl (ev_add rfl rfl (wr64 (by omega))) .free rfl rfl ?_ | refine p_val rfl (ev_add rfl rfl rfl) .free rfl rfl ?_
              refine kPm rfl rfl ?_; refine p_nil ?_
              exact fun a w st_ => ⟨(j + 1, TD2, tv4), ⟨by simp only; omega, hT2, by simp only; omega, htv4⟩, by simp only; omega, st_.to ⟨rfl, rfl, rfl, rfl, rfl, rfl, rfl, rfl, rfl, rfl, rfl, rfl, rfl, trivial⟩ (fun hh => hh)⟩
          · have hj : ¬ (j : Int) < w_ := by simpa using h171
            refine g_exit ?_
            exact fun a w st_ => ⟨(M ++ [p], TD2, tv4), ⟨hM', hnd', hT2, by simp only [List.length_append, List.length_cons, List.length_nil]; omega, htv4⟩, by simp only [List.length_append, List.length_cons, List.length_nil]; omega, st_.to ⟨rfl, rfl, rfl, rfl, rfl, rfl, rfl, rfl, rfl, trivial⟩ (fun hh => (by have h9 := (hh.dp [3, 3, 3]); first | exact h9 | (simp only [List.map_append]; exact h9)))⟩
    · try simp only [decide_eq_true_eq, decide_eq_false_iff_not, Bool.not_eq_true', Bool.not_eq_false', Bool.or_eq_true, Bool.and_eq_true, Bool.and_eq_false_iff, Bool.or_eq_false_iff, beq_iff_eq, bne_iff_ne, beq_eq_false_iff_ne, bne_eq_false_iff_eq, ge_iff_le, gt_iff_lt, ne_eq] at h58
      refine g_exit ?_; refine g_seq ?_; refine g_region ?_; refine kPa rfl rfl ?_; refine p_nil ?_; refine go_sub (σ' := [(14, _)]) ⟨rfl, trivial⟩ ?_; refine g_ret ?_
      exact ret_tmp Tryz.results28 rfl (fun w hh => ⟨rfl, (hh.dp [0, 0, 0, 0, 0, 0])⟩)
end Go.Proofs.YtbfheafpecgphaaGreat
namespace Go.Proofs.YtbfheafpecgphaaGreat
open Go
theorem Tile.len {m : Int → Int} : ∀ {L : List Int} {a e : Int}, Tile m a L e → (L.length : Int) ≤ e - a
  | [], a, e, h => by cases h; simp
  | x :: t, a, e, h => by have := h.2.2.len; have := osz_b m a; simp only [List.length_cons]; omega
section
variable {c : Cfg} {b : Blk} {L : List Int} {s : Dev}
def hobj (s : Dev) (k : Int) : Obj3 := (osz s.load k - 1, orf s.load k, k)
theorem objs_heap (hc : CfgW c) (hb : BlkW c b) (h : HeapW c b s.load L) : ∀ (t : List Int) (a : Int) (f : Nat), Tile s.load a t (b.place c b.used) → (∀ k ∈ t, k ∈ L) → t.length < f → s.objs c b f a = t.map fun k => (hobj s k, 0)
  | [], a, f + 1, ht, _, _ => by
    unfold Dev.objs
    rw [if_pos (by rw [show a = b.place c b.used from ht]; exact Int.le_refl _)]; rfl
  | k :: t, a, f + 1, ht, hl, hf => by
    obtain ⟨rfl, h2, h3⟩ := ht
    have hz := osz_b s.load k
    have hle := h3.le
    have ho := (heap_of hc hb h (hl k (List.mem_cons_self ..))).1
    simp only [List.length_cons] at hf
    unfold Dev.objs
    rw [if_neg (by omega), ho, if_neg (by simp)]
    simp only [List.map_cons]
    rw [show k + (osz s.load k - 1 + 1) = k + osz s.load k by omega, objs_heap hc hb h t _ f h3 (fun x hx => hl x (List.mem_cons_of_mem _ hx)) (by omega)]
    rfl
  | _, _, 0, _, _, hf => absurd hf (Nat.not_lt_zero _)
theorem heap_objs (hc : CfgW c) (hb : BlkW c b) (h : HeapW c b s.load L) : s.objs c b (b.used.toNat + 1) (b.place c 0) = L.map fun k => (hobj s k, 0) := by
  have h1 := h.tile.len
  have h2 := hb.used
  exact objs_heap hc hb h L _ _ h.tile (fun _ h => h) (by unfold Blk.place at h1; omega)
theorem itl_all {α ι : Type} {st : α → ι → Bool × ι} {g : ι → α → ι} : ∀ (l : List α) (x : ι), (∀ a ∈ l, ∀ x, st a x = (true, g x a)) → itl st l x = (true, l.foldl g x)
  | [], x, _ => rfl
  | a :: t, x, h => by
    have e := h a (List.mem_cons_self ..) x
    unfold itl
    rw [if_pos (by rw [e]), e]
    exact itl_all t _ fun b hb => h b (List.mem_cons_of_mem _ hb)
theorem fold_keys {β : Type} (f : Int → β) : ∀ (l : List Int) (x : List (Int × β) × Int) (k : Int), (k ∈ l ∨ (mget x.1 k).isSome = true) → (mget (l.foldl (fun y k => (mset y.1 k (f k), y.2)) x).1 k).isSome = true
  | [], x, k, h => h.resolve_left (by simp)
  | a :: t, x, k, h => by
    refine fold_keys f t _ k ?_
    by_cases e : k = a
    · right; simp only; rw [mget_mset, if_pos e]; rfl
    · rcases h with h | h
      · exact .inl ((List.mem_cons.1 h).resolve_left e)
      · right; simp only; rw [mget_mset, if_neg e]; exact h
theorem fold_snd {β : Type} (f : Int → β) : ∀ (l : List Int) (x : List (Int × β) × Int), (l.foldl (fun y k => (mset y.1 k (f k), y.2)) x).2 = x.2
  | [], _ => rfl
  | a :: t, x => fold_snd f t _
theorem heap_starts (hc : CfgW c) (hb : BlkW c b) (h : HeapW c b s.load L) : (s.starts c b).2 = 0 ∧ ∀ k ∈ L, (mget (s.starts c b).1 k).isSome = true := by
  have e : s.starts c b = L.foldl (fun y k => (mset y.1 k (hobj s k), y.2)) ([], 0) := by
    unfold Dev.starts Dev.startsI
    rw [heap_objs hc hb h, itl_all (g := fun y (p : Obj3 × Int) => (mset y.1 p.1.2.2 p.1, y.2)) _ _ (fun p hp x => by
      obtain ⟨k, _, rfl⟩ := List.mem_map.1 hp
      unfold stS
      rw [if_neg (by simp)]), List.foldl_map]
    rfl
  rw [e]
  exact ⟨fold_snd _ _ _, fun k hk => fold_keys _ _ _ _ (.inl hk)⟩
theorem heap_check (hc : CfgW c) (hu : U64 s) (hbl : s.block c = (b, 0)) (h : HeapW c b s.load L) : s.check c = 0 := by
  have hb0 : b = (s.block c).1 := by rw [hbl]
  have hb : BlkW c b := by rw [hb0]; exact block_w hc hu
  obtain ⟨h1, h2⟩ := heap_starts hc hb h
  have hn : ∀ v, v = 0 ∨ v ∈ L → namesM c b (s.starts c b).1 v = true := fun v hv => by
    unfold namesM
    rcases hv with rfl | hv
    · simp
    · rw [(heap_of hc hb h hv).2, h2 v hv]; simp
  unfold Dev.check
  rw [hbl]
  simp only
  rw [if_neg (by simp), if_neg (by rw [h1]; simp), if_pos]
  · rw [heap_objs hc hb h, itl_all (g := fun y _ => y)]
    · have : ∀ (l : List (Obj3 × Int)) (x : Int), l.foldl (fun y _ => y) x = x := fun l => by
        induction l with
        | nil => intro x; rfl
        | cons a t ih => intro x; exact ih x
      rw [this]
    · intro p hp x
      obtain ⟨k, hk, rfl⟩ := List.mem_map.1 hp
      unfold stC
      rw [if_pos]
      unfold refsM
      rw [List.all_eq_true]
      intro j hj
      have := List.mem_range.1 hj
      simp only [hobj] at this ⊢
      exact hn _ (h.names k hk j (by omega) (by omega))
  · rw [List.all_eq_true]
    exact fun v hv => hn v (h.roots v hv)
theorem HeapW.congr {m m' : Int → Int} (h : HeapW c b m L) (e : ∀ j, b.place c 0 ≤ j → j < b.place c b.used → m' j = m j) : HeapW c b m' L := by
  have hm : ∀ k ∈ L, ∀ j, 0 ≤ j → j < osz m k → m' (k + j) = m (k + j) := fun k hk j h0 h1 => by
    have := h.tile.mem hk
    exact e _ (by omega) (by omega)
  have h0 : ∀ k ∈ L, m' k = m k := fun k hk => by
    have := hm k hk 0 (Int.le_refl 0) (by have := osz_b m k; omega)
    simpa using this
  refine ⟨h.tile.congr h0, fun k hk i g0 g1 => ?_, h.roots⟩
  have eo : orf m' k = orf m k := by unfold orf; rw [h0 k hk]
  rw [eo] at g1
  have hz := osz_b m k
  have := hm k hk (1 + i) (by omega) (by omega)
  rw [← Int.add_assoc] at this
  rw [this]; exact h.names k hk i g0 g1
theorem iso_refl (hc : CfgW c) (hb : BlkW c b) {t : Dev} (h : HeapW c b s.load L) (e : ∀ j, b.place c 0 ≤ j → j < b.place c b.used → t.load j = s.load j) : IsoR c b s b t (L.map fun k => (k, k)) := by
  have ht := h.congr e
  have hp : ∀ p ∈ L.map (fun k => (k, k)), ∃ k ∈ L, p = (k, k) := fun p hp => by obtain ⟨k, hk, rfl⟩ := List.mem_map.1 hp; exact ⟨k, hk, rfl⟩
  refine ⟨fun p h1 => ?_, fun p h1 q h2 e => ?_, fun p h1 q h2 e => ?_, fun p h1 => ?_⟩
  · obtain ⟨k, hk, rfl⟩ := hp p h1
    have := heap_b hc hb h hk
    simp only; omega
  · obtain ⟨k, hk, rfl⟩ := hp p h1
    obtain ⟨k', hk', rfl⟩ := hp q h2
    simp only at e; rw [e]
  · obtain ⟨k, hk, rfl⟩ := hp p h1
    obtain ⟨k', hk', rfl⟩ := hp q h2
    simp only at e; rw [e]
  · obtain ⟨k, hk, rfl⟩ := hp p h1
    have hm := h.tile.mem hk
    have hz := osz_b s.load k
    have hl : ∀ j, 0 ≤ j → j < osz s.load k → t.load (k + j) = s.load (k + j) := fun j h0 h1 => e _ (by omega) (by omega)
    have e0 : t.load k = s.load k := by have := hl 0 (Int.le_refl 0) (by omega); simpa using this
    refine ⟨osz s.load k - 1, orf s.load k, (heap_of hc hb h hk).1, ?_, by omega, by omega, fun i hi => ?_⟩
    · have := (heap_of hc hb ht hk).1
      simp only
      rw [this]; unfold osz orf; rw [e0]
    · simp only
      have e1 := hl (1 + i) (by omega) (by omega)
      rw [← Int.add_assoc] at e1
      rw [e1]
      split
      · rename_i hr
        rcases h.names k hk i (by omega) hr with hz | hz
        · exact .inl ⟨hz, hz⟩
        · exact .inr (List.mem_map.2 ⟨_, hz, rfl⟩)
      · rfl
end
end Go.Proofs.YtbfheafpecgphaaGreat
