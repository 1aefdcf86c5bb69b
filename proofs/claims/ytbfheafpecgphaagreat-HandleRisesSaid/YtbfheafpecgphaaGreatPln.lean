/- What a device is behind Format: plain laws. Conditions: none. -/
import Derived.Test.YtbfheafpecgphaaGreatAw2
set_option linter.unusedSimpArgs false
set_option linter.unusedVariables false
set_option linter.unnecessarySimpa false
set_option linter.unusedSectionVars false
namespace Go.Proofs.YtbfheafpecgphaaGreat
open Go
/-- What a fence would keep. -/
def Dev.pk (s : Dev) (x : Nat) : Int := fkept s.kept s.q x
def Run {α : Type} (m : Out α) (R : Dev → Prop) : Prop := ∃ a s, m = .ok a s ∧ R s
theorem run_then {α β : Type} {m : Out α} {f : α → Dev → Out β} {R Q : Dev → Prop} (h : Run m R) (g : ∀ a s, R s → Run (f a s) Q) : Run (m.then f) Q := by
  obtain ⟨a, s, rfl, h1⟩ := h
  exact g a s h1
/-- A power without an end; words in number; what stands is what would be kept, but in some lines; some words. -/
structure FI (N : Nat) (D : Nat → Prop) (V : Nat → Int → Prop) (s : Dev) : Prop where
  lim : s.pow.lim < 0
  n : s.n = N
  p : ∀ x, ¬ D (x / 8) → s.pk x = s.now x
  v : ∀ x y, V x y → s.now x = y
theorem pk_flush (s : Dev) (i x : Nat) : (s.up.fl i).pk x = if x / 8 = i / 8 then s.now x else s.pk x := by
  simp only [Dev.pk, Dev.fl, Dev.up, fkept, upd]
  by_cases e : x / 8 = i / 8
  · rw [if_pos e, if_pos e]
    simp only
    congr 1; omega
  · rw [if_neg e, if_neg e]
theorem pk_fence (s : Dev) (x : Nat) : s.up.fe.pk x = s.pk x := rfl
theorem run_store {N : Nat} {D : Nat → Prop} {V V' : Nat → Int → Prop} {s : Dev} {i v : Int} (h : FI N D V s) (hi : 0 ≤ i ∧ i < N) (hv : ∀ x y, V' x y → (x = i.toNat ∧ y = v) ∨ (x ≠ i.toNat ∧ V x y)) :
    Run (s.store i v) (FI N (fun l => D l ∨ l = i.toNat / 8) V') := by
  refine ⟨0, _, store_ne h.lim ⟨hi.1, by rw [h.n]; exact hi.2⟩, ?_⟩
  refine ⟨h.lim, h.n, fun x hx => ?_, fun x y hp => ?_⟩
  · have hne : x ≠ i.toNat := fun e => hx (.inr (by rw [e]))
    show s.pk x = upd s.now i.toNat v x
    simp only [upd, if_neg hne]
    exact h.p x fun hd => hx (.inl hd)
  · show upd s.now i.toNat v x = y
    rcases hv x y hp with ⟨e1, e2⟩ | ⟨e1, e2⟩
    · simp only [upd, if_pos e1, e2]
    · simp only [upd, if_neg e1]; exact h.v x y e2
theorem run_flush {N : Nat} {D D' : Nat → Prop} {V : Nat → Int → Prop} {s : Dev} {i : Int} (h : FI N D V s) (hi : 0 ≤ i ∧ i < N) (hD : ∀ l, D l → D' l ∨ l = i.toNat / 8) :
    Run (s.flush i) (FI N D' V) := by
  refine ⟨0, _, flush_ne h.lim ⟨hi.1, by rw [h.n]; exact hi.2⟩, ?_⟩
  refine ⟨h.lim, h.n, fun x hx => ?_, h.v⟩
  rw [pk_flush]
  by_cases e : x / 8 = i.toNat / 8
  · rw [if_pos e]; rfl
  · rw [if_neg e]
    exact h.p x fun hd => (hD _ hd).elim hx e
theorem run_fence {N : Nat} {D : Nat → Prop} {V : Nat → Int → Prop} {s : Dev} (h : FI N D V s) : Run s.fence (fun s' => FI N D V s' ∧ s'.kept = s'.pk ∧ s'.q = fun _ => none) := by
  refine ⟨(), _, fence_ne h.lim, ⟨h.lim, h.n, fun x hx => ?_, h.v⟩, rfl, rfl⟩
  rw [pk_fence]; exact h.p x hx
/-- Words that are made nought. -/
def VZ (V : Nat → Int → Prop) (f : Int → Int) (i : Int) (k : Nat) (x : Nat) (y : Int) : Prop := (V x y ∧ ∀ j : Int, i ≤ j → j < i + k → x ≠ (f j).toNat) ∨ (y = 0 ∧ ∃ j : Int, i ≤ j ∧ j < i + k ∧ x = (f j).toNat)
theorem run_zero {N : Nat} {D : Nat → Prop} (f : Int → Int) : ∀ (k : Nat) (V : Nat → Int → Prop) (i : Int) (s : Dev), FI N D V s → (∀ j : Int, i ≤ j → j < i + k → 0 ≤ f j ∧ f j < N) → Run (zeroN f k i s) (FI N D (VZ V f i k))
  | 0, V, i, s, h, _ => ⟨(), s, rfl, h.lim, h.n, h.p, fun x y hv => by
    rcases hv with ⟨h1, _⟩ | ⟨_, j, h1, h2, _⟩
    · exact h.v x y h1
    · omega⟩
  | k + 1, V, i, s, h, hf => by
    have hfi := hf i (Int.le_refl _) (by omega)
    refine run_then (run_store (V' := fun x y => (V x y ∧ x ≠ (f i).toNat) ∨ (y = 0 ∧ x = (f i).toNat)) h hfi fun x y hp => ?_) fun _ s1 h1 => run_then (run_flush (D' := D) h1 hfi fun l hl => hl) fun _ s2 h2 => ?_
    · rcases hp with ⟨h1, h2⟩ | ⟨h1, h2⟩
      · exact .inr ⟨h2, h1⟩
      · exact .inl ⟨h2, h1⟩
    · obtain ⟨a, s3, e, h3⟩ := run_zero f k _ (i + 1) s2 h2 (fun j h3 h4 => hf j (by omega) (by omega))
      refine ⟨a, s3, e, h3.lim, h3.n, h3.p, fun x y hv => h3.v x y ?_⟩
      rcases hv with ⟨g1, g2⟩ | ⟨g1, j, g2, g3, g4⟩
      · exact .inl ⟨.inl ⟨g1, g2 i (by omega) (by omega)⟩, fun j h5 h6 => g2 j (by omega) (by omega)⟩
      · by_cases hx : ∃ j : Int, i + 1 ≤ j ∧ j < i + 1 + k ∧ x = (f j).toNat
        · exact .inr ⟨g1, hx⟩
        · refine .inl ⟨.inr ⟨g1, ?_⟩, fun j' h5 h6 h7 => hx ⟨j', h5, h6, h7⟩⟩
          by_cases hj : j = i
          · rw [g4, hj]
          · exact absurd ⟨j, by omega, by omega, g4⟩ hx
theorem run_st3 {N : Nat} (l : List Int) (hN : 40 ≤ N) : ∀ (k i : Nat) (V : Nat → Int → Prop) (s : Dev), i + k ≤ 3 → FI N (fun l => l = 0) V s → Run (st3 l k i s) (FI N (fun l => l = 0) (fun x y => (V x y ∧ (x < 1 + i ∨ 1 + i + k ≤ x)) ∨ (1 + i ≤ x ∧ x < 1 + i + k ∧ y = l.getD (x - 1) 0)))
  | 0, i, V, s, _, h => ⟨(), s, rfl, h.lim, h.n, h.p, fun x y hv => by
    rcases hv with ⟨h1, _⟩ | ⟨h1, h2, _⟩
    · exact h.v x y h1
    · omega⟩
  | k + 1, i, V, s, hk, h => by
    refine run_then (run_store (V' := fun x y => (V x y ∧ x ≠ 1 + i) ∨ (x = 1 + i ∧ y = l.getD i 0)) h ⟨by omega, by omega⟩ fun x y hp => ?_) fun _ s1 h1 => ?_
    · have e : (1 + (i : Int)).toNat = 1 + i := by omega
      rw [e]
      rcases hp with ⟨h1, h2⟩ | ⟨h1, h2⟩
      · exact .inr ⟨h2, h1⟩
      · exact .inl ⟨h1, h2⟩
    · obtain ⟨a, s3, e, h3⟩ := run_st3 l hN k (i + 1) _ s1 (by omega) ⟨h1.lim, h1.n, fun x hx => h1.p x fun hd => by
        rcases hd with h2 | h2
        · exact hx h2
        · exact hx (by rw [h2]; omega), h1.v⟩
      refine ⟨a, s3, e, h3.lim, h3.n, h3.p, fun x y hv => h3.v x y ?_⟩
      rcases hv with ⟨g1, g2⟩ | ⟨g1, g2, g3⟩
      · exact .inl ⟨.inl ⟨g1, by omega⟩, by omega⟩
      · by_cases hx : x = 1 + i
        · exact .inl ⟨.inr ⟨hx, by rw [g3, hx]; congr 1; omega⟩, by omega⟩
        · exact .inr ⟨by omega, by omega, g3⟩
theorem FI.weak {N : Nat} {D D' : Nat → Prop} {V V' : Nat → Int → Prop} {s : Dev} (h : FI N D V s) (hD : ∀ l, D l → D' l) (hv : ∀ x y, V' x y → V x y) : FI N D' V' s := ⟨h.lim, h.n, fun x hx => h.p x fun hd => hx (hD _ hd), fun x y hp => h.v x y (hv x y hp)⟩
/-- A device whose words are all kept; no line waits. -/
structure Calm (s : Dev) : Prop where
  kept : s.kept = s.now
  q : s.q = fun _ => none
/-- What stands behind Format. -/
structure Stood (c : Cfg) (s : Dev) : Prop where
  ep : s.now 8 = 1
  recs : ∀ k : Nat, (k : Int) < c.log → s.now (16 + 4 * k) = 0
  block : ∀ x : Nat, c.active ≤ x → x < c.root c.roots → s.now x = 0
  magic : s.now 0 = magicI
  cfg : s.now 1 = c.log ∧ s.now 2 = c.roots ∧ s.now 3 = c.space
theorem format_run {s : Dev} {c : Cfg} {N : Nat} (hc : CfgW c) (hn : (s.n : Int) = c.words) (hN : s.n = N) (hl : s.pow.lim < 0) (hs : Calm s) : Run (s.format c) (fun s' => Calm s' ∧ s'.pow.lim < 0 ∧ s'.n = N ∧ Stood c s') := by
  have hw := words_b hc
  have hact := hc.act
  have := hc.r1; have := hc.r2; have := hc.l1; have := hc.l2; have := hc.s1; have := hc.s2
  have hroot : c.active ≤ c.root c.roots ∧ c.root c.roots ≤ c.words := by
    have h1 := lines_b (n := c.root c.roots) (by simp only [Cfg.root]; omega)
    have h2 := lines_b (n := c.space) (by omega)
    refine ⟨by simp only [Cfg.root]; omega, ?_⟩
    simp only [Cfg.words, Cfg.frm]
    omega
  have hN40 : 40 ≤ N := by omega
  have h0 : FI N (fun _ => False) (fun _ _ => False) s := ⟨hl, hN, fun x _ => by rw [Dev.pk, hs.q]; show s.kept x = _; rw [hs.kept], fun _ _ h => h.elim⟩
  unfold Dev.format
  rw [if_neg (format_ok hc hn)]
  refine run_then (run_store (V' := fun _ _ => False) h0 ⟨by omega, by omega⟩ fun _ _ h => h.elim) fun _ s1 h1 => ?_
  refine run_then (run_flush (D' := fun _ => False) h1 ⟨by omega, by omega⟩ fun l hl => hl) fun _ s2 h2 => ?_
  refine run_then (run_fence h2) fun _ s3 h3 => ?_
  refine run_then (run_st3 _ hN40 3 0 _ s3 (by omega) (h3.1.weak (V' := fun _ _ => False) (fun _ h => h.elim) fun _ _ h => h)) fun _ s4 h4 => ?_
  refine run_then (run_store (V' := fun x y => (x = 8 ∧ y = 1) ∨ (x = 1 ∧ y = c.log) ∨ (x = 2 ∧ y = c.roots) ∨ (x = 3 ∧ y = c.space)) h4 ⟨by omega, by omega⟩ fun x y hp => ?_) fun _ s5 h5 => ?_
  · rcases hp with ⟨e1, e2⟩ | ⟨e1, e2⟩ | ⟨e1, e2⟩ | ⟨e1, e2⟩
    · exact .inl ⟨e1, e2⟩
    · exact .inr ⟨by rw [e1]; decide, .inr ⟨by omega, by omega, by rw [e2, e1]; rfl⟩⟩
    · exact .inr ⟨by rw [e1]; decide, .inr ⟨by omega, by omega, by rw [e2, e1]; rfl⟩⟩
    · exact .inr ⟨by rw [e1]; decide, .inr ⟨by omega, by omega, by rw [e2, e1]; rfl⟩⟩
  refine run_then (run_flush (D' := fun l => l = 0) h5 ⟨by omega, by omega⟩ fun l hl => hl) fun _ s6 h6 => ?_
  refine run_then (run_zero c.record c.log.toNat _ 0 s6 h6 fun j h3 h4 => ⟨by simp only [Cfg.record]; omega, by simp only [Cfg.record]; omega⟩) fun _ s7 h7 => ?_
  refine run_then (run_zero id (c.root c.roots - c.active).toNat _ c.active s7 h7 fun j h3 h4 => ⟨by simp only [id]; omega, by simp only [id]; omega⟩) fun _ s8 h8 => ?_
  refine run_then (run_flush (D' := fun _ => False) h8 ⟨by omega, by omega⟩ fun l hl => .inr (by simpa using hl)) fun _ s9 h9 => ?_
  refine run_then (run_fence h9) fun _ s10 h10 => ?_
  have hold : ∀ x y, x ≠ 0 → VZ (VZ (fun x y => (x = 8 ∧ y = 1) ∨ (x = 1 ∧ y = c.log) ∨ (x = 2 ∧ y = c.roots) ∨ (x = 3 ∧ y = c.space)) c.record 0 c.log.toNat) id c.active (c.root c.roots - c.active).toNat x y → True := fun _ _ _ _ => trivial
  refine run_then (run_store (V' := fun x y => (x = 0 ∧ y = magicI) ∨ (x ≠ 0 ∧ VZ (VZ (fun x y => (x = 8 ∧ y = 1) ∨ (x = 1 ∧ y = c.log) ∨ (x = 2 ∧ y = c.roots) ∨ (x = 3 ∧ y = c.space)) c.record 0 c.log.toNat) id c.active (c.root c.roots - c.active).toNat x y)) h10.1 ⟨by omega, by omega⟩ fun x y hp => ?_) fun _ s11 h11 => ?_
  · rcases hp with ⟨e1, e2⟩ | ⟨e1, e2⟩
    · exact .inl ⟨e1, e2⟩
    · exact .inr ⟨e1, e2⟩
  refine run_then (run_flush (D' := fun _ => False) h11 ⟨by omega, by omega⟩ fun l hl => hl) fun _ s12 h12 => ?_
  refine run_then (run_fence h12) fun _ s13 h13 => ?_
  have hkeep : ∀ x y, x ≠ 0 → x < 16 → ((x = 8 ∧ y = 1) ∨ (x = 1 ∧ y = c.log) ∨ (x = 2 ∧ y = c.roots) ∨ (x = 3 ∧ y = c.space)) → s13.now x = y := fun x y h1 h2 h3 => h13.1.v x y (.inr ⟨h1, .inl ⟨.inl ⟨h3, fun j _ _ => by simp only [Cfg.record]; omega⟩, fun j _ _ => by simp only [id]; omega⟩⟩)
  refine ⟨0, s13, rfl, ⟨?_, h13.2.2⟩, h13.1.lim, h13.1.n, hkeep 8 1 (by decide) (by decide) (.inl ⟨rfl, rfl⟩), fun k hk => ?_, fun x hx1 hx2 => ?_, h13.1.v 0 _ (.inl ⟨rfl, rfl⟩), hkeep 1 _ (by decide) (by decide) (.inr (.inl ⟨rfl, rfl⟩)), hkeep 2 _ (by decide) (by decide) (.inr (.inr (.inl ⟨rfl, rfl⟩))), hkeep 3 _ (by decide) (by decide) (.inr (.inr (.inr ⟨rfl, rfl⟩)))⟩
  · rw [h13.2.1]; funext x; exact h13.1.p x (fun h => h)
  · exact h13.1.v _ _ (.inr ⟨by omega, .inl ⟨.inr ⟨rfl, k, by omega, by omega, by simp only [Cfg.record]; omega⟩, fun j h1 _ => by simp only [id]; omega⟩⟩)
  · exact h13.1.v _ _ (.inr ⟨by omega, .inr ⟨rfl, x, by omega, by omega, by simp⟩⟩)
/-- A device that was formatted: calm, its log empty, of epoch 1. -/
structure Fmt (c : Cfg) (N : Nat) (s : Dev) : Prop where
  calm : Calm s
  lim : s.pow.lim < 0
  n : s.n = N
  log : ∀ d, openL d c s = ⟨d, c, 1, 0⟩
  ep : s.now 8 = 1 ∧ s.now 16 = 0
  st : Stood c s
theorem Fmt.recs {c : Cfg} {N : Nat} {s : Dev} (h : Fmt c N s) (k : Nat) (hk : (k : Int) < c.log) : s.now (16 + 4 * k) ≤ 1 * 4294967296 := by
  rw [h.st.recs k hk]; decide
theorem openN_zero {s : Dev} {c : Cfg} {e : Int} (h : s.load (c.record 0) ≠ stampI e 0) : ∀ f, openN s c e f 0 = 0
  | 0 => rfl
  | f + 1 => by simp only [openN]; rw [if_neg h]
theorem fmt_of {pa N : Nat} {xs : List Int} {c : Cfg} {s : Dev} (hc : CfgW c) (hN : (N : Int) = c.words) (h : (dev0 pa xs N).format c = .ok 0 s) : Fmt c N s := by
  have hw := words_b hc
  obtain ⟨a, t, e, h1, h2, h3, hst⟩ := format_run (s := dev0 pa xs N) hc hN rfl (show (-1 : Int) < 0 by decide) ⟨rfl, rfl⟩
  rw [h] at e; cases e
  have h3 : s.n = N := h3
  have h4 := hst.ep
  have h5 : s.now 16 = 0 := hst.recs 0 (by have := hc.l1; have := hc.r1; omega)
  refine ⟨h1, h2, h3, fun d => ?_, ⟨h4, h5⟩, hst⟩
  have e8 : s.load 8 = 1 := by
    have : s.has 8 = true := by simp [Dev.has, h3]; omega
    simp [Dev.load, this, h4]
  have e16 : s.load (c.record 0) = 0 := by
    have : s.has 16 = true := by simp [Dev.has, h3]; omega
    show s.load 16 = 0
    simp [Dev.load, this, h5]
  unfold openL
  rw [e8]
  have : openN s c (1 % 4294967296) c.log.toNat 0 = 0 := openN_zero (by rw [e16]; decide) _
  rw [this]; rfl
end Go.Proofs.YtbfheafpecgphaaGreat
