/- The section's plain law: its words under a power without an end. Conditions: none. -/
import Derived.Test.YtbhpbnedocdneaaPln
set_option linter.unusedSimpArgs false
set_option linter.unusedVariables false
set_option linter.unnecessarySimpa false
set_option linter.unusedSectionVars false
namespace Go.Proofs.Ytbhpbnedocdneaa
open Go
/-- A power without an end, nothing waits. -/
structure Still (s : Dev) : Prop where
  lim : s.pow.lim < 0
  q : s.q = fun _ => none
theorem crash_calm {s : Dev} (h : Calm s) (c : Nat → Int) : (s.crash c).now = s.now ∧ (s.crash c).n = s.n := by
  refine ⟨funext fun i => ?_, rfl⟩
  show (if c i % 3 = 1 then fkept s.kept s.q i else if c i % 3 = 2 then s.now i else s.kept i) = s.now i
  have e1 : fkept s.kept s.q i = s.now i := by rw [fkept, h.q, h.kept]
  have e2 : s.kept i = s.now i := by rw [h.kept]
  split
  · exact e1
  · split
    · rfl
    · exact e2
/-- A line, flushed and fenced. -/
theorem fl_fe {s : Dev} {i : Nat} (hq : s.q = fun _ => none) : (s.up.fl i).up.fe.now = s.now ∧ (s.up.fl i).up.fe.q = (fun _ => none) ∧ (s.up.fl i).up.fe.n = s.n ∧ ∀ x, (s.up.fl i).up.fe.kept x = if x / 8 = i / 8 then s.now x else s.kept x := by
  refine ⟨rfl, rfl, rfl, fun x => ?_⟩
  have h := pk_flush s i x
  rw [show s.pk x = s.kept x by simp only [Dev.pk, fkept, hq]] at h
  exact h
/-- A word stored; a line flushed and fenced: as steps of their own. -/
@[irreducible] def Dev.sv (s : Dev) (i : Nat) (v : Int) : Dev := s.up.st i v
@[irreducible] def Dev.ff (s : Dev) (i : Nat) : Dev := (s.up.fl i).up.fe
theorem sv_then {α : Type} {s : Dev} {i v : Int} {k : Int → Dev → Out α} (h : s.pow.lim < 0) (hi : 0 ≤ i ∧ i < s.n) : (s.store i v).then k = k 0 (s.sv i.toNat v) := by rw [store_ne h hi, then_ok]; unfold Dev.sv; rfl
theorem ff_then {α : Type} {s : Dev} {i : Int} {k : Unit → Dev → Out α} (h : s.pow.lim < 0) (hi : 0 ≤ i ∧ i < s.n) : ((s.flush i).then fun _ s => s.fence.then k) = k () (s.ff i.toNat) := by rw [flush_ne h hi, then_ok, fence_ne (s := s.up.fl i.toNat) h, then_ok]; unfold Dev.ff; rfl
theorem sv_lim (s : Dev) (i : Nat) (v : Int) : (s.sv i v).pow.lim = s.pow.lim := by unfold Dev.sv; rfl
theorem sv_n (s : Dev) (i : Nat) (v : Int) : (s.sv i v).n = s.n := by unfold Dev.sv; rfl
theorem sv_q (s : Dev) (i : Nat) (v : Int) : (s.sv i v).q = s.q := by unfold Dev.sv; rfl
theorem sv_now (s : Dev) (i : Nat) (v : Int) : (s.sv i v).now = upd s.now i v := by unfold Dev.sv; rfl
theorem sv_kept (s : Dev) (i : Nat) (v : Int) : (s.sv i v).kept = s.kept := by unfold Dev.sv; rfl
theorem ff_lim (s : Dev) (i : Nat) : (s.ff i).pow.lim = s.pow.lim := by unfold Dev.ff; rfl
theorem ff_n (s : Dev) (i : Nat) : (s.ff i).n = s.n := by unfold Dev.ff; rfl
theorem ff_q (s : Dev) (i : Nat) : (s.ff i).q = fun _ => none := by unfold Dev.ff; rfl
theorem ff_now (s : Dev) (i : Nat) : (s.ff i).now = s.now := by unfold Dev.ff; rfl
theorem ff_kept {s : Dev} {i : Nat} (hq : s.q = fun _ => none) (x : Nat) : (s.ff i).kept x = if x / 8 = i / 8 then s.now x else s.kept x := by unfold Dev.ff; exact (fl_fe hq).2.2.2 x
theorem append_ne {L : LogS} {s : Dev} {i : Int} (hL : LogW L) (hs : Still s) (hi : 0 ≤ i ∧ i < s.n) (hc : L.c.active ≤ s.n) (hn : L.n < L.c.log) {r : Nat} (hr : (r : Int) = L.c.record L.n) :
    ∃ s', L.append s i = .ok (0, { L with n := L.n + 1 }) s' ∧ Still s' ∧ s'.n = s.n ∧ s'.now = upd (upd (upd s.now (r + 1) i) (r + 2) (upd s.now (r + 1) i i.toNat)) r (stampI L.epoch L.n) ∧ ∀ x, s'.kept x = if x / 8 = r / 8 then s'.now x else s.kept x := by
  have hact := hL.c.act
  have h0 := hL.n1
  have hr' : (r : Int) = 16 + 4 * L.n := hr
  have b0 : 0 ≤ L.c.record L.n ∧ L.c.record L.n + 3 < s.n := by rw [← hr]; omega
  have e0 : (L.c.record L.n).toNat = r := by omega
  have e1 : (L.c.record L.n + 1).toNat = r + 1 := by omega
  have e2 : (L.c.record L.n + 2).toNat = r + 2 := by omega
  have hl := hs.lim
  have hld : ∀ v, (s.sv (r + 1) v).load i = upd s.now (r + 1) v i.toNat := fun v => by
    have : (s.sv (r + 1) v).has i = true := by simp [Dev.has, hi, sv_n]
    simp only [Dev.load, this, if_true, sv_now]
  unfold LogS.append
  rw [if_neg (by omega), if_neg (by omega)]
  rw [sv_then hl (by omega), e1, hld]
  rw [sv_then (by rw [sv_lim]; exact hl) (by rw [sv_n]; omega), e2]
  rw [ff_then (by rw [sv_lim, sv_lim]; exact hl) (by rw [sv_n, sv_n]; omega), e0]
  rw [sv_then (by rw [ff_lim, sv_lim, sv_lim]; exact hl) (by rw [ff_n, sv_n, sv_n]; omega), e0]
  rw [ff_then (by rw [sv_lim, ff_lim, sv_lim, sv_lim]; exact hl) (by rw [sv_n, ff_n, sv_n, sv_n]; omega), e0]
  refine ⟨_, rfl, ⟨by simp only [ff_lim, sv_lim]; exact hl, by rw [ff_q]⟩, by simp only [ff_n, sv_n], by simp only [ff_now, sv_now], fun x => ?_⟩
  rw [ff_kept (by rw [sv_q, ff_q]), ff_now, sv_kept, ff_kept (by rw [sv_q, sv_q, hs.q]), sv_kept, sv_kept]
  split <;> rfl
@[irreducible] def Dev.fq (s : Dev) (i : Nat) : Dev := s.up.fl i
@[irreducible] def Dev.fn (s : Dev) : Dev := s.up.fe
theorem fq_then {α : Type} {s : Dev} {i : Int} {k : Int → Dev → Out α} (h : s.pow.lim < 0) (hi : 0 ≤ i ∧ i < s.n) : (s.flush i).then k = k 0 (s.fq i.toNat) := by rw [flush_ne h hi, then_ok]; unfold Dev.fq; rfl
theorem fn_then {α : Type} {s : Dev} {k : Unit → Dev → Out α} (h : s.pow.lim < 0) : s.fence.then k = k () s.fn := by rw [fence_ne h, then_ok]; unfold Dev.fn; rfl
theorem fq_lim (s : Dev) (i : Nat) : (s.fq i).pow.lim = s.pow.lim := by unfold Dev.fq; rfl
theorem fq_n (s : Dev) (i : Nat) : (s.fq i).n = s.n := by unfold Dev.fq; rfl
theorem fq_now (s : Dev) (i : Nat) : (s.fq i).now = s.now := by unfold Dev.fq; rfl
theorem fq_pk (s : Dev) (i x : Nat) : (s.fq i).pk x = if x / 8 = i / 8 then s.now x else s.pk x := by unfold Dev.fq; exact pk_flush s i x
theorem sv_pk (s : Dev) (i : Nat) (v : Int) (x : Nat) : (s.sv i v).pk x = s.pk x := by unfold Dev.sv; rfl
theorem fn_lim (s : Dev) : s.fn.pow.lim = s.pow.lim := by unfold Dev.fn; rfl
theorem fn_n (s : Dev) : s.fn.n = s.n := by unfold Dev.fn; rfl
theorem fn_now (s : Dev) : s.fn.now = s.now := by unfold Dev.fn; rfl
theorem fn_q (s : Dev) : s.fn.q = fun _ => none := by unfold Dev.fn; rfl
theorem fn_kept (s : Dev) (x : Nat) : s.fn.kept x = s.pk x := by unfold Dev.fn; rfl
theorem still_pk {s : Dev} (h : s.q = fun _ => none) (x : Nat) : s.pk x = s.kept x := by simp only [Dev.pk, fkept, h]
theorem load_nat {s : Dev} {i : Int} {k : Nat} (h : (k : Int) = i) (hk : k < s.n) : s.load i = s.now k := by
  subst h
  have : s.has (k : Int) = true := by simp [Dev.has, hk]
  simp only [Dev.load, this, if_true, Int.toNat_natCast]
theorem trunc_ne {L : LogS} {s : Dev} (hl : s.pow.lim < 0) (hn : 16 ≤ s.n) (h0 : L.n ≠ 0) : L.truncate s = .ok { L with epoch := (L.epoch + 1) % 4294967296, n := 0 } ((s.sv 8 ((L.epoch + 1) % 4294967296)).ff 8) := by
  unfold LogS.truncate
  rw [if_neg h0, sv_then hl (by omega)]
  rw [ff_then (by rw [sv_lim]; exact hl) (by rw [sv_n]; omega)]
  rfl
/-- The undo: what the records say, back again. -/
theorem recN_ne {c : Cfg} {js : Nat → Nat} {old : Nat → Int} (hc : CfgW c) : ∀ (k : Nat) (s : Dev), s.pow.lim < 0 → s.n ≤ 1000000 → (k : Int) ≤ c.log → c.active ≤ s.n →
    (∀ j, j < k → s.now (16 + 4 * j + 1) = js j ∧ s.now (16 + 4 * j + 2) = old (js j) ∧ c.active ≤ js j ∧ js j < s.n) →
    ∃ s', recN undoS c k s = .ok () s' ∧ s'.pow.lim < 0 ∧ s'.n = s.n ∧ (∀ x, s'.now x = if (∃ j, j < k ∧ js j = x) then old x else s.now x) ∧ (∀ x, s'.pk x = if (∃ j, j < k ∧ js j / 8 = x / 8) then s'.now x else s.pk x)
  | 0, s, hl, _, _, _, _ => ⟨s, rfl, hl, rfl, fun x => by rw [if_neg (by rintro ⟨j, h, _⟩; omega)], fun x => by rw [if_neg (by rintro ⟨j, h, _⟩; omega)]⟩
  | k + 1, s, hl, hN, hk, hA, hr => by
    have hact := hc.act
    obtain ⟨r1, r2, r3, r4⟩ := hr k (by omega)
    have l1 : s.load (c.record k + 1) = js k := by rw [load_nat (k := 16 + 4 * k + 1) (by simp only [Cfg.record]; omega) (by omega), r1]
    have l2 : s.load (c.record k + 2) = old (js k) := by rw [load_nat (k := 16 + 4 * k + 2) (by simp only [Cfg.record]; omega) (by omega), r2]
    have e : recN undoS c (k + 1) s = recN undoS c k ((s.sv (js k) (old (js k))).fq (js k)) := by
      simp only [recN]
      rw [l1, l2, wr64 (by omega)]
      unfold undoS
      rw [sv_then hl (by omega), fq_then (by rw [sv_lim]; exact hl) (by rw [sv_n]; omega)]
      rfl
    rw [e]
    obtain ⟨s', e1, e2, e3, e4, e5⟩ := recN_ne (js := js) (old := old) hc k ((s.sv (js k) (old (js k))).fq (js k)) (by rw [fq_lim, sv_lim]; exact hl) (by rw [fq_n, sv_n]; exact hN) (by omega) (by rw [fq_n, sv_n]; exact hA) (fun j hj => by
      obtain ⟨q1, q2, q3, q4⟩ := hr j (by omega)
      rw [fq_now, sv_now, fq_n, sv_n]
      simp only [upd]
      rw [if_neg (by omega), if_neg (by omega)]
      exact ⟨q1, q2, q3, q4⟩)
    refine ⟨s', e1, e2, by rw [e3, fq_n, sv_n], fun x => ?_, fun x => ?_⟩
    · rw [e4, fq_now, sv_now]
      by_cases h1 : ∃ j, j < k ∧ js j = x
      · obtain ⟨j, hj, hx⟩ := h1
        rw [if_pos ⟨j, hj, hx⟩, if_pos ⟨j, by omega, hx⟩]
      · rw [if_neg h1]
        by_cases h2 : x = js k
        · rw [if_pos ⟨k, by omega, h2.symm⟩]; simp only [upd, if_pos h2]; rw [h2]
        · rw [if_neg]
          · simp only [upd, if_neg h2]
          · rintro ⟨j, hj, hx⟩
            rcases Nat.lt_succ_iff_lt_or_eq.1 hj with h | h
            · exact h1 ⟨j, h, hx⟩
            · subst h; exact h2 hx.symm
    · rw [e5, fq_pk, sv_pk]
      by_cases h1 : ∃ j, j < k ∧ js j / 8 = x / 8
      · obtain ⟨j, hj, hx⟩ := h1
        rw [if_pos ⟨j, hj, hx⟩, if_pos ⟨j, by omega, hx⟩]
      · rw [if_neg h1]
        by_cases h2 : x / 8 = js k / 8
        · rw [if_pos h2, if_pos ⟨k, by omega, h2.symm⟩, e4, fq_now, if_neg]
          rintro ⟨j, hj, hx⟩
          exact h1 ⟨j, hj, by rw [hx]⟩
        · rw [if_neg h2, if_neg]
          rintro ⟨j, hj, hx⟩
          rcases Nat.lt_succ_iff_lt_or_eq.1 hj with h | h
          · exact h1 ⟨j, h, hx⟩
          · subst h; exact h2 hx.symm
theorem flushAll_ne : ∀ (ks : List Int) (s : Dev), s.pow.lim < 0 → (∀ k ∈ ks, 0 ≤ k ∧ k * 8 < s.n) →
    ∃ s', flushAll ks s = .ok () s' ∧ s'.pow.lim < 0 ∧ s'.n = s.n ∧ s'.now = s.now ∧ ∀ x, s'.pk x = if ((x / 8 : Nat) : Int) ∈ ks then s.now x else s.pk x
  | [], s, hl, _ => ⟨s, rfl, hl, rfl, rfl, fun x => by rw [if_neg (by simp)]⟩
  | k :: ks, s, hl, hk => by
    obtain ⟨k1, k2⟩ := hk k (by simp)
    have e : flushAll (k :: ks) s = flushAll ks (s.fq (k * 8).toNat) := by
      simp only [flushAll]
      rw [fq_then hl (by omega)]
    rw [e]
    obtain ⟨s', e1, e2, e3, e4, e5⟩ := flushAll_ne ks (s.fq (k * 8).toNat) (by rw [fq_lim]; exact hl) (fun j hj => by rw [fq_n]; exact hk j (by simp [hj]))
    refine ⟨s', e1, e2, by rw [e3, fq_n], by rw [e4, fq_now], fun x => ?_⟩
    rw [e5, fq_now, fq_pk]
    by_cases h1 : ((x / 8 : Nat) : Int) ∈ ks
    · rw [if_pos h1, if_pos (List.mem_cons_of_mem _ h1)]
    · rw [if_neg h1]
      by_cases h2 : x / 8 = (k * 8).toNat / 8
      · rw [if_pos h2, if_pos]
        have : ((x / 8 : Nat) : Int) = k := by omega
        rw [this]; exact List.mem_cons_self
      · rw [if_neg h2, if_neg]
        have : ((x / 8 : Nat) : Int) ≠ k := by omega
        exact fun h => (List.mem_cons.1 h).elim this h1
/-- What closes a section. -/
def LogS.shut (L : LogS) : LogS := if L.n = 0 then L else { L with epoch := (L.epoch + 1) % 4294967296, n := 0 }
def LogS.shutNow (L : LogS) (f : Nat → Int) : Nat → Int := if L.n = 0 then f else upd f 8 ((L.epoch + 1) % 4294967296)
theorem trunc_calm {L : LogS} {s : Dev} (hs : Calm s) (hl : s.pow.lim < 0) (hn : 16 ≤ s.n) : ∃ s', L.truncate s = .ok L.shut s' ∧ Calm s' ∧ s'.pow.lim < 0 ∧ s'.n = s.n ∧ s'.now = L.shutNow s.now := by
  by_cases h0 : L.n = 0
  · refine ⟨s, ?_, hs, hl, rfl, ?_⟩
    · unfold LogS.truncate LogS.shut; rw [if_pos h0, if_pos h0]
    · unfold LogS.shutNow; rw [if_pos h0]
  · refine ⟨_, trunc_ne hl hn h0 |>.trans (by unfold LogS.shut; rw [if_neg h0]), ⟨funext fun x => ?_, ff_q _ _⟩, by rw [ff_lim, sv_lim]; exact hl, by rw [ff_n, sv_n], by unfold LogS.shutNow; rw [if_neg h0, ff_now, sv_now]⟩
    rw [ff_kept (by rw [sv_q, hs.q]), ff_now, sv_now, sv_kept]
    by_cases c : x / 8 = 8 / 8
    · rw [if_pos c]
    · rw [if_neg c, hs.kept]; simp only [upd]; rw [if_neg (by omega)]
theorem trunc_still {L : LogS} {s : Dev} (hs : Still s) (hn : 16 ≤ s.n) : ∃ s', L.truncate s = .ok L.shut s' ∧ Still s' ∧ s'.n = s.n ∧ s'.now = L.shutNow s.now ∧ (s.kept = s.now → s'.kept = s'.now) := by
  by_cases h0 : L.n = 0
  · refine ⟨s, ?_, hs, rfl, ?_, fun h => h⟩
    · unfold LogS.truncate LogS.shut; rw [if_pos h0, if_pos h0]
    · unfold LogS.shutNow; rw [if_pos h0]
  · refine ⟨_, trunc_ne hs.lim hn h0 |>.trans (by unfold LogS.shut; rw [if_neg h0]), ⟨by rw [ff_lim, sv_lim]; exact hs.lim, ff_q _ _⟩, by rw [ff_n, sv_n], by unfold LogS.shutNow; rw [if_neg h0, ff_now, sv_now], fun hk => funext fun x => ?_⟩
    rw [ff_kept (by rw [sv_q, hs.q]), ff_now, sv_now, sv_kept]
    by_cases c : x / 8 = 8 / 8
    · rw [if_pos c]
    · rw [if_neg c, hk]; simp only [upd]; rw [if_neg (by omega)]
theorem commit_still {S : SecS} {s : Dev} (hs : Still s) (hn : 16 ≤ s.n) (hd : ∀ k ∈ S.dirty.map Prod.fst, 0 ≤ k ∧ k * 8 < s.n) :
    ∃ s', S.commit s = .ok { S with L := S.L.shut } s' ∧ Still s' ∧ s'.n = s.n ∧ s'.now = S.L.shutNow s.now ∧ ((∀ x, ((x / 8 : Nat) : Int) ∉ S.dirty.map Prod.fst → s.kept x = s.now x) → s'.kept = s'.now) := by
  have hmem : ∀ k, k ∈ sortI (S.dirty.map Prod.fst) ↔ k ∈ S.dirty.map Prod.fst := fun k => List.mem_mergeSort
  obtain ⟨s1, e1, e2, e3, e4, e5⟩ := flushAll_ne (sortI (S.dirty.map Prod.fst)) s hs.lim (fun k h => hd k ((hmem k).1 h))
  have hpk : (∀ x, ((x / 8 : Nat) : Int) ∉ S.dirty.map Prod.fst → s.kept x = s.now x) → ∀ x, s1.pk x = s.now x := fun hk x => by
    rw [e5]
    by_cases c : ((x / 8 : Nat) : Int) ∈ S.dirty.map Prod.fst
    · rw [if_pos ((hmem _).2 c)]
    · rw [if_neg (fun h => c ((hmem _).1 h)), still_pk hs.q, hk x c]
  unfold SecS.commit
  rw [e1, then_ok]
  by_cases c : 0 < S.dirty.length
  · rw [if_pos c, fn_then e2]
    obtain ⟨s', f1, f2, f4, f5, f6⟩ := trunc_still (L := S.L) (s := s1.fn) ⟨by rw [fn_lim]; exact e2, fn_q _⟩ (by rw [fn_n, e3]; exact hn)
    exact ⟨s', by rw [f1, then_ok], f2, by rw [f4, fn_n, e3], by rw [f5, fn_now, e4], fun hk => f6 (funext fun x => by rw [fn_kept, fn_now, hpk hk, e4])⟩
  · have hd0 : S.dirty = [] := List.length_eq_zero_iff.1 (by omega)
    have hs1 : s1 = s := by
      rw [hd0] at e1
      simp [sortI, flushAll] at e1
      exact e1.symm
    subst hs1
    rw [if_neg c, then_ok]
    obtain ⟨s', f1, f2, f4, f5, f6⟩ := trunc_still (L := S.L) (s := s1) hs hn
    exact ⟨s', by rw [f1, then_ok], f2, f4, f5, fun hk => f6 (funext fun x => hk x (by rw [hd0]; simp))⟩
/-- The section given up: what the records say is back. -/
theorem abort_ne {S : SecS} {s : Dev} {js : Nat → Nat} {old : Nat → Int} {k : Nat} (hc : CfgW S.L.c) (hs : Still s) (hN : s.n ≤ 1000000) (hk : (k : Int) = S.L.n) (hk1 : (k : Int) ≤ S.L.c.log) (hA : S.L.c.active ≤ s.n)
    (hr : ∀ j, j < k → s.now (16 + 4 * j + 1) = js j ∧ s.now (16 + 4 * j + 2) = old (js j) ∧ S.L.c.active ≤ js j ∧ js j < s.n) :
    ∃ s', S.abort s = .ok { S with L := S.L.shut } s' ∧ Still s' ∧ s'.n = s.n ∧ s'.now = S.L.shutNow (fun x => if (∃ j, j < k ∧ js j = x) then old x else s.now x) ∧
      ∀ x, s'.kept x = if (0 < k ∧ x / 8 = 1) ∨ (∃ j, j < k ∧ js j / 8 = x / 8) then s'.now x else s.kept x := by
  have hact := hc.act
  obtain ⟨s1, e1, e2, e3, e4, e5⟩ := recN_ne (js := js) (old := old) hc k s hs.lim hN hk1 hA hr
  have hkn : S.L.n.toNat = k := by omega
  have hnow : s1.now = fun x => if (∃ j, j < k ∧ js j = x) then old x else s.now x := funext e4
  unfold SecS.abort LogS.undo
  rw [hkn, e1, then_ok]
  by_cases h0 : S.L.n = 0
  · have k0 : k = 0 := by omega
    subst k0
    simp only [recN] at e1
    have hs1 : s1 = s := by injection e1 with _ h; exact h.symm
    subst hs1
    refine ⟨s1, ?_, hs, rfl, ?_, fun x => ?_⟩
    · rw [if_neg (by omega), then_ok]; unfold LogS.truncate LogS.shut; rw [if_pos h0, if_pos h0, then_ok]
    · unfold LogS.shutNow; rw [if_pos h0]; exact hnow
    · rw [if_neg]
      rintro (⟨h, _⟩ | ⟨j, h, _⟩)
      · omega
      · omega
  · rw [if_pos (by omega), fn_then e2, trunc_ne (by rw [fn_lim]; exact e2) (by rw [fn_n, e3]; have := hc.l1; have := hc.r1; omega) h0, then_ok]
    refine ⟨_, by unfold LogS.shut; rw [if_neg h0], ⟨by rw [ff_lim, sv_lim, fn_lim]; exact e2, ff_q _ _⟩, by rw [ff_n, sv_n, fn_n, e3], ?_, fun x => ?_⟩
    · unfold LogS.shutNow; rw [if_neg h0, ff_now, sv_now, fn_now, hnow]
    · rw [ff_kept (by rw [sv_q, fn_q]), ff_now, sv_now, sv_kept, fn_now, fn_kept, e5]
      by_cases c1 : x / 8 = 1
      · rw [if_pos (show x / 8 = 8 / 8 from c1), if_pos (.inl ⟨by omega, c1⟩)]
      · rw [if_neg (show ¬ x / 8 = 8 / 8 from c1)]
        have hx : upd s1.now 8 ((S.L.epoch + 1) % 4294967296) x = s1.now x := by simp only [upd]; rw [if_neg (by omega)]
        rw [hx]
        by_cases c2 : ∃ j, j < k ∧ js j / 8 = x / 8
        · rw [if_pos c2, if_pos (.inr c2)]
        · rw [if_neg c2, if_neg, still_pk hs.q]
          rintro (⟨_, h⟩ | h)
          · exact c1 h
          · exact c2 h
/-- A log without records, as it stands. -/
def Shut0 (L : LogS) (s : Dev) : Prop := s.now 8 = L.epoch ∧ s.now 16 ≠ stampI L.epoch 0
theorem shut0_open {L : LogS} {s : Dev} {d : Nat} (h : Shut0 L s) (hL : LogW L) (hn : 24 ≤ s.n) : openL d L.c s = ⟨d, L.c, L.epoch, 0⟩ := by
  have e8 : s.load 8 = L.epoch := by rw [load_nat (i := 8) (k := 8) rfl (by omega), h.1]
  have e16 : s.load (L.c.record 0) = s.now 16 := load_nat (i := L.c.record 0) (k := 16) rfl (by omega)
  have e1 := hL.e1
  have e2 := hL.e2
  unfold openL
  rw [e8, Int.emod_eq_of_lt e1 e2, openN_zero (by rw [e16]; exact h.2)]
/-- An open section: 'js' are the words with a record, in order; 'old' are the words at its beginning; if kp: what no dirty line holds is kept. -/
structure In (kp : Prop) (c : Cfg) (N : Nat) (old : Nat → Int) (js : List Nat) (S : SecS) (s : Dev) : Prop where
  still : Still s
  n : s.n = N
  hN : (N : Int) = c.words
  hc : S.L.c = c
  logw : LogW S.L
  ln : S.L.n = js.length
  seen : ∀ i : Int, (mget S.seen i).isSome = true ↔ ∃ j ∈ js, (j : Int) = i
  recs : ∀ k (h : k < js.length), s.now (16 + 4 * k + 1) = js[k] ∧ s.now (16 + 4 * k + 2) = old js[k] ∧ c.active ≤ js[k] ∧ js[k] < N
  same : ∀ x, x ∉ js → c.active ≤ x → ¬(S.ff ≤ x ∧ (x : Int) < S.ft) → s.now x = old x
  keep : kp → ∀ x, ((x / 8 : Nat) : Int) ∉ S.dirty.map Prod.fst → s.kept x = s.now x
  dirty : ∀ k ∈ S.dirty.map Prod.fst, c.active ≤ k * 8 ∧ k * 8 < N
  nd : (S.dirty.map Prod.fst).Nodup
  out : ∀ j ∈ js, (j : Int) < S.ff ∨ S.ft ≤ j
  jnd : js.Nodup
  ep : s.now 8 = S.L.epoch
  st : (js = [] ∧ s.now 16 ≠ stampI S.L.epoch 0) ∨ (js ≠ [] ∧ s.now 16 = stampI S.L.epoch 0)
theorem in_begin {kp : Prop} {c : Cfg} {N : Nat} {S : SecS} {s : Dev} {f t : Int} (hs : Still s) (hk : kp → s.kept = s.now) (hn : s.n = N) (hN : (N : Int) = c.words) (hc : S.L.c = c) (hL : LogW S.L) (h0 : S.L.n = 0) (h1 : Shut0 S.L s) : In kp c N s.now [] { S with ff := f, ft := t, seen := [], dirty := [] } s :=
  ⟨hs, hn, hN, hc, hL, h0, fun i => by simp [mget], fun k h => absurd h (Nat.not_lt_zero _), fun _ _ _ _ => rfl, fun h x _ => by rw [hk h], fun k h => by simp at h, by simp, fun j h => by simp at h, by simp, h1.1, .inl ⟨rfl, h1.2⟩⟩
theorem shut0_shut {L : LogS} {f : Nat → Int} {s : Dev} (hL : LogW L) (he : f 8 = L.epoch) (hs : (L.n = 0 ∧ f 16 ≠ stampI L.epoch 0) ∨ (L.n ≠ 0 ∧ f 16 = stampI L.epoch 0)) (hn : s.now = L.shutNow f) : Shut0 L.shut s := by
  have e1 := hL.e1
  have e2 := hL.e2
  unfold Shut0
  rw [hn]
  unfold LogS.shutNow LogS.shut
  by_cases h0 : L.n = 0
  · rw [if_pos h0, if_pos h0]
    rcases hs with ⟨_, h⟩ | ⟨h, _⟩
    · exact ⟨he, h⟩
    · exact absurd h0 h
  · rw [if_neg h0, if_neg h0]
    rcases hs with ⟨h, _⟩ | ⟨_, h⟩
    · exact absurd h h0
    · refine ⟨by simp only [upd, if_true], ?_⟩
      simp only [upd]
      rw [if_neg (by decide), h]
      simp only [stampI]
      omega
theorem in_commit {kp : Prop} {c : Cfg} {N : Nat} {old : Nat → Int} {js : List Nat} {S : SecS} {s : Dev} (h : In kp c N old js S s) (hc : CfgW c) :
    ∃ s', S.commit s = .ok { S with L := S.L.shut } s' ∧ Still s' ∧ s'.n = N ∧ s'.now = S.L.shutNow s.now ∧ (kp → Calm s') ∧ Shut0 S.L.shut s' := by
  have hw := words_b hc
  have hact := hc.act
  have := h.hN
  have := hc.r1
  have := hc.l1
  obtain ⟨s', e1, e2, e4, e5, e6⟩ := commit_still (S := S) h.still (by rw [h.n]; omega) (fun k hk => by have := h.dirty k hk; rw [h.n]; omega)
  refine ⟨s', e1, e2, by rw [e4, h.n], e5, fun hk => ⟨e6 (h.keep hk), e2.q⟩, shut0_shut h.logw h.ep ?_ e5⟩
  rcases h.st with ⟨h1, h2⟩ | ⟨h1, h2⟩
  · exact .inl ⟨by rw [h.ln, h1]; rfl, h2⟩
  · exact .inr ⟨by rw [h.ln]; have := List.length_pos_iff.2 h1; omega, h2⟩
theorem mset_len {α : Type} {k : Int} {a : α} : ∀ {l : List (Int × α)}, (mset l k a).length ≤ l.length + 1
  | [] => by simp [mset]
  | p :: l => by
    simp only [mset]
    split
    · simp
    · have := mset_len (k := k) (a := a) (l := l)
      simp only [List.length_cons]; omega
theorem mset_keyI {α : Type} {k k' : Int} {a : α} : ∀ {l : List (Int × α)}, k' ∈ (mset l k a).map Prod.fst ↔ k' = k ∨ k' ∈ l.map Prod.fst
  | [] => by simp [mset]
  | p :: l => by
    simp only [mset]
    split
    · rename_i h
      simp only [List.map_cons, List.mem_cons, h]
      constructor
      · rintro (h1 | h1)
        · exact .inl h1
        · exact .inr (.inr h1)
      · rintro (h1 | h1 | h1)
        · exact .inl h1
        · exact .inl h1
        · exact .inr h1
    · simp only [List.map_cons, List.mem_cons, mset_keyI (l := l)]
      constructor
      · rintro (h1 | h1 | h1)
        · exact .inr (.inl h1)
        · exact .inl h1
        · exact .inr (.inr h1)
      · rintro (h1 | h1 | h1)
        · exact .inr (.inl h1)
        · exact .inl h1
        · exact .inr (.inr h1)
theorem mset_nodup {α : Type} {k : Int} {a : α} : ∀ {l : List (Int × α)}, (l.map Prod.fst).Nodup → ((mset l k a).map Prod.fst).Nodup
  | [], _ => by simp [mset]
  | p :: l, h => by
    rw [List.map_cons, List.nodup_cons] at h
    simp only [mset]
    split
    · rename_i e; subst e; rw [List.map_cons, List.nodup_cons]; exact h
    · rename_i e
      rw [List.map_cons, List.nodup_cons]
      refine ⟨fun hm => ?_, mset_nodup h.2⟩
      rcases mset_keyI.1 hm with h1 | h1
      · exact e h1
      · exact h.1 h1
/-- A word written whose record is there, or that wants none. -/
theorem in_again {kp : Prop} {c : Cfg} {N : Nat} {old : Nat → Int} {js : List Nat} {S : SecS} {s : Dev} (h : In kp c N old js S s) (hc : CfgW c) {i : Nat} (v : Int) (hi : c.active ≤ i ∧ i < N) (hno : i ∈ js ∨ (S.ff ≤ i ∧ (i : Int) < S.ft)) :
    S.store s i v = .ok (0, { S with dirty := mset S.dirty ((i : Int) / 8) () }) (s.sv i v) ∧ In kp c N old js { S with dirty := mset S.dirty ((i : Int) / 8) () } (s.sv i v) := by
  have hact := hc.act
  have hn := h.n
  refine ⟨?_, ⟨⟨by rw [sv_lim]; exact h.still.lim, by rw [sv_q]; exact h.still.q⟩, by rw [sv_n, hn], h.hN, h.hc, h.logw, h.ln, h.seen, fun k hk => ?_, fun x hx hx1 hx2 => ?_, fun hkp x hx => ?_, fun k hk => ?_, mset_nodup h.nd, h.out, h.jnd, ?_, ?_⟩⟩
  · rw [store_skip (by rw [h.hc]; omega), sv_then h.still.lim (by omega)]
    · rfl
    · rintro ⟨q1, q2⟩
      rcases hno with h1 | h1
      · rw [(h.seen i).2 ⟨i, h1, rfl⟩] at q1; cases q1
      · omega
  · obtain ⟨r1, r2, r3, r4⟩ := h.recs k hk
    have hkl : (k : Int) < c.log := by
      have := h.logw.n2
      rw [h.hc, h.ln] at this; omega
    rw [sv_now]
    simp only [upd]
    rw [if_neg (by omega), if_neg (by omega)]
    exact ⟨r1, r2, r3, r4⟩
  · rw [sv_now]
    simp only [upd]
    rw [if_neg]
    · exact h.same x hx hx1 hx2
    · intro e; subst e
      rcases hno with h1 | h1
      · exact hx h1
      · exact hx2 h1
  · rw [mset_keyI] at hx
    rw [sv_now, sv_kept]
    simp only [upd]
    rw [if_neg (by intro e; subst e; exact hx (.inl (by omega)))]
    exact h.keep hkp x fun hd => hx (.inr hd)
  · rcases mset_keyI.1 hk with e | e
    · subst e; omega
    · exact h.dirty k e
  · have := hc.l1; have := hc.r1
    rw [sv_now]; simp only [upd]; rw [if_neg (by omega)]; exact h.ep
  · have := hc.l1; have := hc.r1
    rw [sv_now]; simp only [upd]; rw [if_neg (by omega)]; exact h.st
/-- A word written for the first time: its record first. -/
theorem in_first {kp : Prop} {c : Cfg} {N : Nat} {old : Nat → Int} {js : List Nat} {S : SecS} {s : Dev} (h : In kp c N old js S s) (hc : CfgW c) {i : Nat} (v : Int) (hi : c.active ≤ i ∧ i < N) (hno : i ∉ js) (hf : ¬(S.ff ≤ i ∧ (i : Int) < S.ft)) (hroom : (js.length : Int) < c.log) :
    ∃ s', S.store s i v = .ok (0, { S with L := { S.L with n := S.L.n + 1 }, seen := mset S.seen i (), dirty := mset S.dirty ((i : Int) / 8) () }) s' ∧ In kp c N old (js ++ [i]) { S with L := { S.L with n := S.L.n + 1 }, seen := mset S.seen i (), dirty := mset S.dirty ((i : Int) / 8) () } s' ∧ s'.now i = v ∧ ∀ x : Nat, c.active ≤ x → x ≠ i → s'.now x = s.now x := by
  have hact := hc.act
  have hn := h.n
  have hln := h.ln
  have hcc := h.hc
  have hN := h.hN
  have hlt := hi
  obtain ⟨s1, e1, e2, e3, e4, e5⟩ := append_ne (L := S.L) (s := s) (i := i) (r := 16 + 4 * js.length) h.logw h.still (by omega) (by rw [hcc]; omega) (by rw [hcc]; omega) (by rw [hln]; simp only [Cfg.record]; omega)
  have hns : (mget S.seen i).isSome = false := by
    cases hm : (mget S.seen (i : Int)).isSome with
    | false => rfl
    | true => obtain ⟨j, hj, e⟩ := (h.seen i).1 hm; exact absurd (by rwa [show j = i by omega] at hj) hno
  have hnow : ∀ x, x ≠ 16 + 4 * js.length → x ≠ 16 + 4 * js.length + 1 → x ≠ 16 + 4 * js.length + 2 → s1.now x = s.now x := fun x h1 h2 h3 => by
    rw [e4]; simp only [upd]; rw [if_neg h1, if_neg h3, if_neg h2]
  refine ⟨s1.sv i v, ?_, ⟨⟨by rw [sv_lim]; exact e2.lim, by rw [sv_q]; exact e2.q⟩, by rw [sv_n, e3, hn], hN, hcc, ⟨h.logw.c, h.logw.e1, h.logw.e2, ?_, ?_⟩, ?_, fun x => ?_, fun k hk => ?_, fun x hx hx1 hx2 => ?_, fun hkp x hx => ?_, fun k hk => ?_, mset_nodup h.nd, fun j hj => ?_, List.nodup_append.2 ⟨h.jnd, by simp, fun a ha b hb => by simp at hb; subst hb; rintro rfl; exact hno ha⟩, ?_, .inr ⟨by simp, ?_⟩⟩, ?_, fun x hx hx1 => ?_⟩
  · unfold SecS.store
    rw [if_neg (by rw [hcc]; omega), if_pos ⟨hns, by omega⟩, e1, then_ok]
    simp only [ne_eq, not_true_eq_false, if_false]
    rw [sv_then e2.lim (by rw [e3]; omega)]
    rfl
  · show 0 ≤ S.L.n + 1
    omega
  · show S.L.n + 1 ≤ S.L.c.log
    rw [hcc]; omega
  · show S.L.n + 1 = _
    rw [List.length_append, hln]; simp
  · rw [mget_mset]
    by_cases c1 : x = i
    · rw [if_pos c1]; simp [c1]
    · rw [if_neg c1, h.seen x]
      constructor
      · rintro ⟨j, hj, e⟩; exact ⟨j, List.mem_append_left _ hj, e⟩
      · rintro ⟨j, hj, e⟩
        rcases List.mem_append.1 hj with h1 | h1
        · exact ⟨j, h1, e⟩
        · have : j = i := by simpa using h1
          subst this; exact absurd e.symm c1
  · rw [sv_now]
    simp only [upd]
    rw [List.length_append, List.length_singleton] at hk
    rw [if_neg (by omega), if_neg (by omega)]
    by_cases c1 : k < js.length
    · obtain ⟨r1, r2, r3, r4⟩ := h.recs k c1
      rw [hnow _ (by omega) (by omega) (by omega), hnow _ (by omega) (by omega) (by omega)]
      simp only [List.getElem_append_left c1]
      exact ⟨r1, r2, r3, r4⟩
    · have : k = js.length := by omega
      subst this
      simp only [List.getElem_concat_length]
      refine ⟨?_, ?_, hi.1, hi.2⟩
      · rw [e4]; simp only [upd]; rw [if_neg (by omega), if_neg (by omega)]; simp only [if_true]
      · rw [e4]; simp only [upd, Int.toNat_natCast]; rw [if_neg (by omega)]; simp only [if_true]; rw [if_neg (by omega)]
        exact h.same i hno hi.1 hf
  · have h1 : x ∉ js := fun hh => hx (List.mem_append_left _ hh)
    have h2 : x ≠ i := fun e => hx (by simp [e])
    rw [sv_now]; simp only [upd]
    rw [if_neg h2, hnow _ (by omega) (by omega) (by omega)]
    exact h.same x h1 hx1 hx2
  · rw [mset_keyI] at hx
    rw [sv_now, sv_kept]
    simp only [upd]
    rw [if_neg (by intro e; subst e; exact hx (.inl (by omega))), e5]
    by_cases c1 : x / 8 = (16 + 4 * js.length) / 8
    · rw [if_pos c1]
    · rw [if_neg c1, hnow _ (by omega) (by omega) (by omega)]
      exact h.keep hkp x fun hd => hx (.inr hd)
  · rcases mset_keyI.1 hk with e | e
    · subst e; omega
    · exact h.dirty k e
  · rcases List.mem_append.1 hj with h1 | h1
    · exact h.out j h1
    · have : j = i := by simpa using h1
      subst this
      show (j : Int) < S.ff ∨ S.ft ≤ j
      omega
  · have := hc.l1; have := hc.r1
    rw [sv_now]; simp only [upd]; rw [if_neg (by omega), hnow _ (by omega) (by omega) (by omega)]; exact h.ep
  · have := hc.l1; have := hc.r1
    rw [sv_now]; simp only [upd]; rw [if_neg (by omega)]
    rcases h.st with ⟨h1, _⟩ | ⟨h1, h2⟩
    · rw [e4, hln, h1]; simp only [upd, List.length_nil]; rfl
    · have := List.length_pos_iff.2 h1
      rw [hnow _ (by omega) (by omega) (by omega)]; exact h2
  · rw [sv_now]; simp only [upd, if_pos]
  · rw [sv_now]; simp only [upd]; rw [if_neg hx1, hnow _ (by omega) (by omega) (by omega)]
theorem act_le {c : Cfg} (hc : CfgW c) : c.active ≤ c.words := by
  have hact := hc.act
  have hc1 := hc.r1
  have hc3 := hc.l1
  have h1 := lines_b (n := c.root c.roots) (by simp only [Cfg.root]; omega)
  have h2 := lines_b (n := c.space) (by have := hc.s1; omega)
  have := hc.s1
  simp only [Cfg.words, Cfg.frm, Cfg.root] at *
  omega
theorem act_w {c : Cfg} (hc : CfgW c) : 24 ≤ c.active ∧ c.active < c.words ∧ c.words ≤ 20000 := by
  have h1 := hc.act
  have h2 := words_b hc
  have := hc.r1
  have := hc.l1
  have h3 := lines_b (n := c.root c.roots) (by simp only [Cfg.root]; omega)
  have h4 := lines_b (n := c.space) (by have := hc.s1; omega)
  have := hc.s1
  refine ⟨by omega, ?_, by omega⟩
  simp only [Cfg.words, Cfg.frm, Cfg.root] at *
  omega
/-- A section given up: its recorded words are as they were. -/
theorem in_abort {kp : Prop} {c : Cfg} {N : Nat} {old : Nat → Int} {js : List Nat} {S : SecS} {s : Dev} (h : In kp c N old js S s) (hc : CfgW c) :
    ∃ s', S.abort s = .ok { S with L := S.L.shut } s' ∧ Still s' ∧ s'.n = N ∧ (∀ x : Nat, c.active ≤ x → ¬(x ∉ js ∧ S.ff ≤ x ∧ (x : Int) < S.ft) → s'.now x = old x) ∧
      (kp → (∀ k ∈ S.dirty.map Prod.fst, ∃ j ∈ js, ((j / 8 : Nat) : Int) = k) → Calm s') ∧ Shut0 S.L.shut s' := by
  have hact := hc.act
  have hw := words_b hc
  have hN := h.hN
  have hn := h.n
  have hcc := h.hc
  have hal := act_le hc
  have hget : ∀ k (hk : k < js.length), js.getD k 0 = js[k] := fun k hk => by simp [hk]
  have hlog := h.logw.n2
  rw [hcc, h.ln] at hlog
  obtain ⟨s', e1, e2, e3, e4, e5⟩ := abort_ne (S := S) (s := s) (js := fun k => js.getD k 0) (old := old) (k := js.length) (by rw [hcc]; exact hc) h.still (by rw [hn]; omega) h.ln.symm (by rw [hcc]; exact hlog) (by rw [hcc]; omega) (fun k hk => by
    obtain ⟨r1, r2, r3, r4⟩ := h.recs k hk
    simp only [hget k hk]
    rw [hcc, hn]
    exact ⟨r1, r2, r3, r4⟩)
  have hex : ∀ x, (∃ j, j < js.length ∧ js.getD j 0 = x) ↔ x ∈ js := fun x => by
    constructor
    · rintro ⟨j, hj, e⟩
      rw [hget j hj] at e
      rw [← e]; exact List.getElem_mem hj
    · intro hx
      obtain ⟨j, hj, e⟩ := List.mem_iff_getElem.1 hx
      exact ⟨j, hj, by rw [hget j hj]; exact e⟩
  have hsh : ∀ (f : Nat → Int) (x : Nat), x ≠ 8 → S.L.shutNow f x = f x := fun f x hx => by
    unfold LogS.shutNow; split
    · rfl
    · simp only [upd]; rw [if_neg hx]
  refine ⟨s', e1, e2, by rw [e3, hn], fun x hx hf => ?_, fun hkp hd => ⟨funext fun x => ?_, e2.q⟩, ?_⟩
  · rw [e4, hsh _ _ (by omega)]
    by_cases c1 : x ∈ js
    · rw [if_pos ((hex x).2 c1)]
    · rw [if_neg (fun hh => c1 ((hex x).1 hh))]
      exact h.same x c1 hx (fun hh => hf ⟨c1, hh⟩)
  · rw [e5]
    by_cases c0 : (0 < js.length ∧ x / 8 = 1) ∨ (∃ j, j < js.length ∧ js.getD j 0 / 8 = x / 8)
    · rw [if_pos c0]
    · rw [if_neg c0]
      have hx8 : S.L.shutNow (fun x => if (∃ j, j < js.length ∧ js.getD j 0 = x) then old x else s.now x) x = s.now x := by
        have hnj : ¬ ∃ j, j < js.length ∧ js.getD j 0 = x := fun ⟨j, hj, e⟩ => c0 (.inr ⟨j, hj, by rw [e]⟩)
        unfold LogS.shutNow
        by_cases c1 : S.L.n = 0
        · rw [if_pos c1, if_neg hnj]
        · rw [if_neg c1]
          simp only [upd]
          rw [if_neg, if_neg hnj]
          intro e
          refine c0 (.inl ⟨?_, by omega⟩)
          have := h.ln; omega
      rw [e4, hx8]
      refine h.keep hkp x fun hd1 => c0 (.inr ?_)
      obtain ⟨j, hj, e⟩ := hd _ hd1
      obtain ⟨m, hm, e2⟩ := List.mem_iff_getElem.1 hj
      exact ⟨m, hm, by rw [hget m hm, e2]; omega⟩
  · have hno : ∀ x : Nat, x < 24 → ¬ ∃ j, j < js.length ∧ js.getD j 0 = x := fun x hx ⟨j, hj, e⟩ => by
      have h1 := (h.recs j hj).2.2.1
      rw [hget j hj] at e
      have := hc.l1; have := hc.r1
      omega
    refine shut0_shut h.logw ?_ ?_ e4
    · simp only [if_neg (hno 8 (by omega))]; exact h.ep
    · simp only [if_neg (hno 16 (by omega))]
      rcases h.st with ⟨h1, h2⟩ | ⟨h1, h2⟩
      · exact .inl ⟨by rw [h.ln, h1]; rfl, h2⟩
      · exact .inr ⟨by rw [h.ln]; have := List.length_pos_iff.2 h1; omega, h2⟩
/-- No room for a record: nothing changes. -/
theorem in_full {kp : Prop} {c : Cfg} {N : Nat} {old : Nat → Int} {js : List Nat} {S : SecS} {s : Dev} (h : In kp c N old js S s) {i : Nat} (v : Int) (hi : c.active ≤ i ∧ i < N) (hno : i ∉ js) (hf : ¬(S.ff ≤ i ∧ (i : Int) < S.ft)) (hfull : (js.length : Int) = c.log) :
    S.store s i v = .ok (3, { S with L := S.L }) s := by
  have hn := h.n
  have hns : (mget S.seen i).isSome = false := by
    cases hm : (mget S.seen (i : Int)).isSome with
    | false => rfl
    | true => obtain ⟨j, hj, e⟩ := (h.seen i).1 hm; exact absurd (by rwa [show j = i by omega] at hj) hno
  unfold SecS.store
  rw [if_neg (by rw [h.hc]; omega), if_pos ⟨hns, by omega⟩]
  unfold LogS.append
  rw [if_neg (by omega), if_pos (by rw [h.hc, h.ln]; exact hfull), then_ok]
  rfl
/-- Each dirty line holds a recorded word. -/
def NoF (js : List Nat) (S : SecS) : Prop := ∀ k ∈ S.dirty.map Prod.fst, ∃ j ∈ js, ((j / 8 : Nat) : Int) = k
/-- A word written in a section without a fresh span, with room in the log. -/
theorem in_store {kp : Prop} {c : Cfg} {N : Nat} {old : Nat → Int} {js : List Nat} {S : SecS} {s : Dev} (h : In kp c N old js S s) (hc : CfgW c) (hd : NoF js S) (hf : S.ff = 0 ∧ S.ft = 0) {i : Nat} (v : Int) (hi : c.active ≤ i ∧ i < N) (hroom : (js.length : Int) < c.log) :
    ∃ S' s' js', S.store s i v = .ok (0, S') s' ∧ In kp c N old js' S' s' ∧ NoF js' S' ∧ S'.ff = 0 ∧ S'.ft = 0 ∧ js'.length ≤ js.length + 1 ∧ S'.dirty.length ≤ S.dirty.length + 1 ∧ S'.L.d = S.L.d ∧ s'.now i = v ∧ ∀ x : Nat, c.active ≤ x → x ≠ i → s'.now x = s.now x := by
  by_cases c1 : i ∈ js
  · obtain ⟨e1, e2⟩ := in_again h hc v hi (.inl c1)
    refine ⟨_, _, js, e1, e2, fun k hk => ?_, hf.1, hf.2, by omega, mset_len, rfl, by rw [sv_now]; simp only [upd, if_true], fun x hx hx1 => by rw [sv_now]; simp only [upd]; rw [if_neg hx1]⟩
    rcases mset_keyI.1 hk with e | e
    · exact ⟨i, c1, by omega⟩
    · exact hd k e
  · obtain ⟨s', e1, e2, e3, e4⟩ := in_first h hc v hi c1 (by rw [hf.1, hf.2]; omega) hroom
    refine ⟨_, s', js ++ [i], e1, e2, fun k hk => ?_, hf.1, hf.2, by simp, mset_len, rfl, e3, e4⟩
    rcases mset_keyI.1 hk with e | e
    · exact ⟨i, by simp, by omega⟩
    · obtain ⟨j, hj, e5⟩ := hd k e
      exact ⟨j, List.mem_append_left _ hj, e5⟩
theorem shut_w {L : LogS} (h : LogW L) : LogW L.shut ∧ L.shut.n = 0 ∧ L.shut.c = L.c ∧ L.shut.d = L.d := by
  have := h.c.l1
  have := h.c.r1
  unfold LogS.shut
  by_cases c : L.n = 0
  · rw [if_pos c]; exact ⟨h, c, rfl, rfl⟩
  · rw [if_neg c]
    exact ⟨⟨h.c, by show 0 ≤ (L.epoch + 1) % 4294967296; omega, by show (L.epoch + 1) % 4294967296 < 4294967296; omega, show (0 : Int) ≤ 0 by decide, by show (0 : Int) ≤ L.c.log; omega⟩, rfl, rfl, rfl⟩
theorem shutNow_at {L : LogS} {f : Nat → Int} {x : Nat} (hx : x ≠ 8) : L.shutNow f x = f x := by
  unfold LogS.shutNow; split
  · rfl
  · simp only [upd]; rw [if_neg hx]
theorem in_secw {kp : Prop} {c : Cfg} {N : Nat} {old : Nat → Int} {js : List Nat} {S : SecS} {s : Dev} (h : In kp c N old js S s) (hc : CfgW c) (hN : N ≤ 1000000) : SecW S := ⟨h.logw, fun p hp => by
  have := h.dirty p.1 (List.mem_map_of_mem hp)
  have := hc.act
  have := hc.r1
  have := hc.l1
  omega⟩
theorem dirty_len {kp : Prop} {c : Cfg} {N : Nat} {old : Nat → Int} {js : List Nat} {S : SecS} {s : Dev} (h : In kp c N old js S s) (hc : CfgW c) (hN : N ≤ 1000000) : S.dirty.length ≤ 1000000 := by
  have hact := hc.act
  have := hc.r1
  have := hc.l1
  have h1 := nodup_le (d := S.dirty.map Prod.fst) (l := (List.range 1000000).map fun (i : Nat) => (i : Int)) h.nd fun x hx => by
    have := h.dirty x hx
    exact List.mem_map.2 ⟨x.toNat, List.mem_range.2 (by omega), by omega⟩
  simpa using h1
end Go.Proofs.Ytbhpbnedocdneaa
