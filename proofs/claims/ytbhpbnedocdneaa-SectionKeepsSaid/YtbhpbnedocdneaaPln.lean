/- What a device is behind Format: plain laws. Conditions: none. -/
import Derived.Test.YtbhpbnedocdneaaAw2
set_option linter.unusedSimpArgs false
set_option linter.unusedVariables false
set_option linter.unnecessarySimpa false
set_option linter.unusedSectionVars false
namespace Go.Proofs.Ytbhpbnedocdneaa
open Go
/-- What a fence would keep. -/
def Dev.pk (s : Dev) (x : Nat) : Int := fkept s.kept s.q x
def Run {α : Type} (m : Out α) (R : Dev → Prop) : Prop := ∃ a s, m = .ok a s ∧ R s
theorem run_then {α β : Type} {m : Out α} {f : α → Dev → Out β} {R Q : Dev → Prop} (h : Run m R) (g : ∀ a s, R s → Run (f a s) Q) : Run (m.then f) Q := by
  obtain ⟨a, s, rfl, h1⟩ := h
  exact g a s h1
/-- A power without an end; words in number; what stands is what would be kept, but in some lines; some words. -/
structure FI (N : Nat) (D : Nat → Prop) (vals : List (Nat × Int)) (s : Dev) : Prop where
  lim : s.pow.lim < 0
  n : s.n = N
  p : ∀ x, ¬ D (x / 8) → s.pk x = s.now x
  v : ∀ p ∈ vals, s.now p.1 = p.2
theorem pk_flush (s : Dev) (i x : Nat) : (s.up.fl i).pk x = if x / 8 = i / 8 then s.now x else s.pk x := by
  simp only [Dev.pk, Dev.fl, Dev.up, fkept, upd]
  by_cases e : x / 8 = i / 8
  · rw [if_pos e, if_pos e]
    simp only
    congr 1; omega
  · rw [if_neg e, if_neg e]
theorem pk_fence (s : Dev) (x : Nat) : s.up.fe.pk x = s.pk x := rfl
theorem run_store {N : Nat} {D : Nat → Prop} {vals vals' : List (Nat × Int)} {s : Dev} {i v : Int} (h : FI N D vals s) (hi : 0 ≤ i ∧ i < N) (hv : ∀ p ∈ vals', (p.1 = i.toNat ∧ p.2 = v) ∨ (p.1 ≠ i.toNat ∧ p ∈ vals)) :
    Run (s.store i v) (FI N (fun l => D l ∨ l = i.toNat / 8) vals') := by
  refine ⟨0, _, store_ne h.lim ⟨hi.1, by rw [h.n]; exact hi.2⟩, ?_⟩
  refine ⟨h.lim, h.n, fun x hx => ?_, fun p hp => ?_⟩
  · have hne : x ≠ i.toNat := fun e => hx (.inr (by rw [e]))
    show s.pk x = upd s.now i.toNat v x
    simp only [upd, if_neg hne]
    exact h.p x fun hd => hx (.inl hd)
  · show upd s.now i.toNat v p.1 = p.2
    rcases hv p hp with ⟨e1, e2⟩ | ⟨e1, e2⟩
    · simp only [upd, if_pos e1, e2]
    · simp only [upd, if_neg e1]; exact h.v p e2
theorem run_flush {N : Nat} {D D' : Nat → Prop} {vals : List (Nat × Int)} {s : Dev} {i : Int} (h : FI N D vals s) (hi : 0 ≤ i ∧ i < N) (hD : ∀ l, D l → D' l ∨ l = i.toNat / 8) :
    Run (s.flush i) (FI N D' vals) := by
  refine ⟨0, _, flush_ne h.lim ⟨hi.1, by rw [h.n]; exact hi.2⟩, ?_⟩
  refine ⟨h.lim, h.n, fun x hx => ?_, h.v⟩
  rw [pk_flush]
  by_cases e : x / 8 = i.toNat / 8
  · rw [if_pos e]; rfl
  · rw [if_neg e]
    exact h.p x fun hd => (hD _ hd).elim hx e
theorem run_fence {N : Nat} {D : Nat → Prop} {vals : List (Nat × Int)} {s : Dev} (h : FI N D vals s) : Run s.fence (fun s' => FI N D vals s' ∧ s'.kept = s'.pk ∧ s'.q = fun _ => none) := by
  refine ⟨(), _, fence_ne h.lim, ⟨h.lim, h.n, fun x hx => ?_, h.v⟩, rfl, rfl⟩
  rw [pk_fence]; exact h.p x hx
theorem run_zero {N : Nat} {D : Nat → Prop} {vals : List (Nat × Int)} (f : Int → Int) (hv : ∀ p ∈ vals, p.2 = 0 ∨ ∀ i, 0 ≤ i → p.1 ≠ (f i).toNat) : ∀ (k : Nat) (i : Int) (s : Dev), FI N D vals s → 0 ≤ i → (∀ j : Int, i ≤ j → j < i + k → 0 ≤ f j ∧ f j < N) → Run (zeroN f k i s) (FI N D vals)
  | 0, i, s, h, _, _ => ⟨(), s, rfl, h⟩
  | k + 1, i, s, h, h0, hf => by
    have hfi := hf i (Int.le_refl _) (by omega)
    refine run_then (run_store (vals' := vals) h hfi fun p hp => ?_) fun _ s1 h1 => run_then (run_flush (D' := D) h1 hfi fun l hl => hl) fun _ s2 h2 => run_zero f hv k (i + 1) s2 h2 (by omega) fun j h3 h4 => hf j (by omega) (by omega)
    rcases hv p hp with e | e
    · by_cases q : p.1 = (f i).toNat
      · exact .inl ⟨q, e⟩
      · exact .inr ⟨q, hp⟩
    · exact .inr ⟨e i h0, hp⟩
theorem run_st3 {N : Nat} {vals : List (Nat × Int)} (l : List Int) (hN : 40 ≤ N) (hv : ∀ p ∈ vals, 8 ≤ p.1) : ∀ (k i : Nat) (s : Dev), i + k ≤ 3 → FI N (fun l => l = 0) vals s → Run (st3 l k i s) (FI N (fun l => l = 0) vals)
  | 0, _, s, _, h => ⟨(), s, rfl, h⟩
  | k + 1, i, s, hk, h => by
    refine run_then (run_store (vals' := vals) h ⟨by omega, by omega⟩ fun p hp => .inr ⟨by have := hv p hp; omega, hp⟩) fun _ s1 h1 => run_st3 l hN hv k (i + 1) s1 (by omega) ⟨h1.lim, h1.n, fun x hx => h1.p x fun hd => ?_, h1.v⟩
    rcases hd with h2 | h2
    · exact hx h2
    · exact hx (by rw [h2]; omega)
theorem FI.weak {N : Nat} {D D' : Nat → Prop} {vals vals' : List (Nat × Int)} {s : Dev} (h : FI N D vals s) (hD : ∀ l, D l → D' l) (hv : ∀ p ∈ vals', p ∈ vals) : FI N D' vals' s := ⟨h.lim, h.n, fun x hx => h.p x fun hd => hx (hD _ hd), fun p hp => h.v p (hv p hp)⟩
/-- A device whose words are all kept; no line waits. -/
structure Calm (s : Dev) : Prop where
  kept : s.kept = s.now
  q : s.q = fun _ => none
theorem format_run {s : Dev} {c : Cfg} {N : Nat} (hc : CfgW c) (hn : (s.n : Int) = c.words) (hN : s.n = N) (hl : s.pow.lim < 0) (hs : Calm s) : Run (s.format c) (fun s' => Calm s' ∧ s'.pow.lim < 0 ∧ s'.n = N ∧ s'.now 8 = 1 ∧ s'.now 16 = 0) := by
  have hw := words_b hc
  have hact := hc.act
  have := hc.r1; have := hc.r2; have := hc.l1; have := hc.l2; have := hc.s1; have := hc.s2
  have hroot : c.active ≤ c.root c.roots ∧ c.root c.roots ≤ c.words := by
    have h1 := lines_b (n := c.root c.roots) (by simp only [Cfg.root]; omega)
    have h2 := lines_b (n := c.space) (by omega)
    refine ⟨by simp only [Cfg.root]; omega, ?_⟩
    simp only [Cfg.words, Cfg.frm]
    omega
  have hN40 : 40 ≤ N := by omega
  have h0 : FI N (fun _ => False) [] s := ⟨hl, hN, fun x _ => by rw [Dev.pk, hs.q]; show s.kept x = _; rw [hs.kept], by simp⟩
  unfold Dev.format
  rw [if_neg (format_ok hc hn)]
  refine run_then (run_store (vals' := []) h0 ⟨by omega, by omega⟩ (by simp)) fun _ s1 h1 => ?_
  refine run_then (run_flush (D' := fun _ => False) h1 ⟨by omega, by omega⟩ fun l hl => hl) fun _ s2 h2 => ?_
  refine run_then (run_fence h2) fun _ s3 h3 => ?_
  refine run_then (run_st3 (vals := []) _ hN40 (by simp) 3 0 s3 (by omega) (h3.1.weak (fun _ h => h.elim) (by simp))) fun _ s4 h4 => ?_
  refine run_then (run_store (vals' := [(8, 1)]) h4 ⟨by omega, by omega⟩ (by simp)) fun _ s5 h5 => ?_
  refine run_then (run_flush (D' := fun l => l = 0) h5 ⟨by omega, by omega⟩ fun l hl => hl) fun _ s6 h6 => ?_
  -- the records: the first one at 16
  have hz : Run (zeroN c.record c.log.toNat 0 s6) (FI N (fun l => l = 0) [(8, 1), (16, 0)]) := by
    obtain ⟨k, hk⟩ : ∃ k, c.log.toNat = k + 1 := ⟨c.log.toNat - 1, by omega⟩
    rw [hk]
    refine run_then (run_store (vals' := [(8, 1), (16, 0)]) h6 ⟨by simp only [Cfg.record]; omega, by simp only [Cfg.record]; omega⟩ fun p hp => ?_) fun _ t1 g1 => ?_
    · simp only [List.mem_cons, List.not_mem_nil, or_false] at hp
      rcases hp with rfl | rfl
      · exact .inr ⟨by simp [Cfg.record], by simp⟩
      · exact .inl ⟨by simp [Cfg.record], rfl⟩
    refine run_then (run_flush (D' := fun l => l = 0) g1 ⟨by simp only [Cfg.record]; omega, by simp only [Cfg.record]; omega⟩ fun l hl => hl) fun _ t2 g2 => ?_
    refine run_zero c.record (fun p hp => ?_) k (0 + 1) t2 g2 (by omega) fun j h3 h4 => ⟨by simp only [Cfg.record]; omega, by simp only [Cfg.record]; omega⟩
    simp only [List.mem_cons, List.not_mem_nil, or_false] at hp
    rcases hp with rfl | rfl
    · right; intro i hi; simp only [Cfg.record]; omega
    · left; rfl
  refine run_then hz fun _ s7 h7 => ?_
  have hz2 : Run (zeroN id (c.root c.roots - c.active).toNat c.active s7) (FI N (fun l => l = 0) [(8, 1), (16, 0)]) := by
    have key : ∀ (k : Nat) (i : Int) (t : Dev), FI N (fun l => l = 0) [(8, 1), (16, 0)] t → 9 ≤ i → i + k ≤ N → Run (zeroN id k i t) (FI N (fun l => l = 0) [(8, 1), (16, 0)]) := by
      intro k
      induction k with
      | zero => intro i t h _ _; exact ⟨(), t, rfl, h⟩
      | succ k ih =>
        intro i t h h9 hk
        refine run_then (run_store (vals' := [(8, 1), (16, 0)]) h ⟨by simp only [id]; omega, by simp only [id]; omega⟩ fun p hp => ?_) fun _ t1 g1 => ?_
        · simp only [List.mem_cons, List.not_mem_nil, or_false] at hp
          rcases hp with rfl | rfl
          · exact .inr ⟨by simp only [id]; omega, by simp⟩
          · by_cases e : i = 16
            · exact .inl ⟨by simp only [id]; omega, rfl⟩
            · exact .inr ⟨by simp only [id]; omega, by simp⟩
        refine run_then (run_flush (D' := fun l => l = 0) g1 ⟨by simp only [id]; omega, by simp only [id]; omega⟩ fun l hl => hl) fun _ t2 g2 => ?_
        exact ih (i + 1) t2 g2 (by omega) (by omega)
    exact key _ _ _ h7 (by omega) (by omega)
  refine run_then hz2 fun _ s8 h8 => ?_
  refine run_then (run_flush (D' := fun _ => False) h8 ⟨by omega, by omega⟩ fun l hl => .inr (by simpa using hl)) fun _ s9 h9 => ?_
  refine run_then (run_fence h9) fun _ s10 h10 => ?_
  refine run_then (run_store (vals' := [(8, 1), (16, 0)]) h10.1 ⟨by omega, by omega⟩ fun p hp => .inr ⟨by
    simp only [List.mem_cons, List.not_mem_nil, or_false] at hp
    rcases hp with rfl | rfl <;> simp, hp⟩) fun _ s11 h11 => ?_
  refine run_then (run_flush (D' := fun _ => False) h11 ⟨by omega, by omega⟩ fun l hl => hl) fun _ s12 h12 => ?_
  refine run_then (run_fence h12) fun _ s13 h13 => ?_
  refine ⟨0, s13, rfl, ⟨?_, h13.2.2⟩, h13.1.lim, h13.1.n, h13.1.v (8, 1) (by simp), h13.1.v (16, 0) (by simp)⟩
  rw [h13.2.1]; funext x; exact h13.1.p x (fun h => h)
/-- A device that was formatted: calm, its log empty, of epoch 1. -/
structure Fmt (c : Cfg) (N : Nat) (s : Dev) : Prop where
  calm : Calm s
  lim : s.pow.lim < 0
  n : s.n = N
  log : ∀ d, openL d c s = ⟨d, c, 1, 0⟩
  ep : s.now 8 = 1 ∧ s.now 16 = 0
theorem openN_zero {s : Dev} {c : Cfg} {e : Int} (h : s.load (c.record 0) ≠ stampI e 0) : ∀ f, openN s c e f 0 = 0
  | 0 => rfl
  | f + 1 => by simp only [openN]; rw [if_neg h]
theorem fmt_of {pa N : Nat} {xs : List Int} {c : Cfg} {s : Dev} (hc : CfgW c) (hN : (N : Int) = c.words) (h : (dev0 pa xs N).format c = .ok 0 s) : Fmt c N s := by
  have hw := words_b hc
  obtain ⟨a, t, e, h1, h2, h3, h4, h5⟩ := format_run (s := dev0 pa xs N) hc hN rfl (show (-1 : Int) < 0 by decide) ⟨rfl, rfl⟩
  rw [h] at e; cases e
  have h3 : s.n = N := h3
  refine ⟨h1, h2, h3, fun d => ?_, h4, h5⟩
  have e8 : s.load 8 = 1 := by
    have : s.has 8 = true := by simp [Dev.has, h3]; omega
    simp [Dev.load, this, h4]
  have e16 : s.load (c.record 0) = 0 := by
    have : s.has 16 = true := by simp [Dev.has, h3]; omega
    show s.load 16 = 0
    simp [Dev.load, this, h5]
  unfold openL
  rw [e8]
  have : openN s c (1 % 4294967296) c.log.toNat 0 = 0 := openN_zero (by rw [e16]; decide) _
  rw [this]; rfl
end Go.Proofs.Ytbhpbnedocdneaa
