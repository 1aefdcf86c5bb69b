/- Part of the texts beneath a law: what its proof names. Conditions: none. -/
import Derived.Test.YtlcibdhmgclfjaaGreatQL17Cm
set_option linter.unusedSimpArgs false
set_option linter.unusedVariables false
set_option linter.unnecessarySimpa false
set_option linter.unusedSectionVars false
namespace Go.Proofs.YtlcibdhmgclfjaaGreat
open Go
structure HM (c : Cfg) (m : Int → Int) (a u : Int) (L : List Int) : Prop where
  act : m c.active = a
  a01 : 0 ≤ a ∧ a ≤ 1
  used : m (c.active + 1) = u
  u0 : 0 ≤ u ∧ u ≤ c.space
  tile : Tile m (c.frm a) L (c.frm a + u)
  names : ∀ k ∈ L, ∀ i, 0 ≤ i → i < orf m k → m (k + 1 + i) = 0 ∨ m (k + 1 + i) ∈ L
  roots : ∀ i : Nat, (i : Int) < c.roots → m (c.root i) = 0 ∨ m (c.root i) ∈ L
abbrev blkM (c : Cfg) (m : Int → Int) (a u : Int) : Blk := ⟨a, u, tab c.roots.toNat fun i => m (c.root i)⟩
theorem HM.block {c : Cfg} {s : Dev} {a u : Int} {L : List Int} (h : HM c s.load a u L) : s.block c = (blkM c s.load a u, 0) := by
  have h1 := h.u0; have h2 := h.a01
  unfold Dev.block
  rw [h.act, h.used, if_neg (by omega)]
theorem HM.heap {c : Cfg} {m : Int → Int} {a u : Int} {L : List Int} (h : HM c m a u L) : HeapW c (blkM c m a u) m L := by
  refine ⟨by unfold Blk.place; simp only; rw [Int.add_zero]; exact h.tile, h.names, fun w hw => ?_⟩
  obtain ⟨i, hi, rfl⟩ := List.mem_map.1 (show w ∈ (List.range c.roots.toNat).map fun (i : Nat) => m (c.root i) from hw)
  have := List.mem_range.1 hi
  exact h.roots i (by omega)
theorem HM.bw {c : Cfg} {m : Int → Int} {a u : Int} {L : List Int} (h : HM c m a u L) : BlkW c (blkM c m a u) := ⟨h.a01, h.u0⟩
theorem frmA {c : Cfg} (hc : CfgW c) {a : Int} (ha : 0 ≤ a ∧ a ≤ 1) : c.frm a + c.space ≤ c.words ∧ c.active + 2 + c.roots ≤ c.frm a ∧ 24 ≤ c.active ∧ c.frm a + c.space ≤ 20000 := by
  have h1 := frm_b hc (k := 0) (by omega)
  have h2 := frm_b hc (k := 1) (by omega)
  have h3 := hc.act; have h4 := hc.l1; have h5 := hc.r1; have h6 := hc.s1
  rcases (by omega : a = 0 ∨ a = 1) with rfl | rfl <;> omega
theorem HM.congr {c : Cfg} (hc : CfgW c) {m m' : Int → Int} {a u : Int} {L : List Int} (h : HM c m a u L) (e : ∀ j, c.active ≤ j → m' j = m j) : HM c m' a u L := by
  have hf := frmA hc h.a01
  have hr := hc.r1
  have e0 : ∀ k ∈ L, m' k = m k := fun k hk => e k (by have := h.tile.mem hk; omega)
  have eo : ∀ k ∈ L, orf m' k = orf m k := fun k hk => by unfold orf; rw [e0 k hk]
  refine ⟨by rw [e _ (Int.le_refl _)]; exact h.act, h.a01, by rw [e _ (by omega)]; exact h.used, h.u0, h.tile.congr e0, fun k hk i h1 h2 => ?_, fun i hi => ?_⟩
  · have := h.tile.mem hk
    rw [eo k hk] at h2
    rw [e _ (by omega)]; exact h.names k hk i h1 h2
  · rw [e _ (by simp only [Cfg.root]; omega)]; exact h.roots i hi
theorem HM.alloc {c : Cfg} (hc : CfgW c) {m m' : Int → Int} {a u : Int} {L : List Int} (h : HM c m a u L) {w r : Int} (hw : 0 ≤ r ∧ r ≤ w ∧ w ≤ 64) (hroom : ¬ c.space - u < w + 1)
    (hm : ∀ j, c.active ≤ j → m' j = if c.frm a + u ≤ j ∧ j < c.frm a + u + (w + 1) then (if j = c.frm a + u then packI w r else 0) else if j = c.active + 1 then u + (w + 1) else m j) : HM c m' a (u + (w + 1)) (L ++ [c.frm a + u]) := by
  have hf := frmA hc h.a01
  have hu := h.u0
  have hr1 := hc.r1
  have hold : ∀ k ∈ L, ∀ j, 0 ≤ j → j < osz m k → m' (k + j) = m (k + j) := fun k hk j h0 h1 => by
    have := h.tile.mem hk
    rw [hm _ (by omega), if_neg (by omega), if_neg (by omega)]
  have hold0 : ∀ k ∈ L, m' k = m k := fun k hk => by
    have := hold k hk 0 (Int.le_refl 0) (by have := osz_b m k; omega)
    simpa using this
  have hnew : m' (c.frm a + u) = packI w r := by rw [hm _ (by omega), if_pos (by omega), if_pos rfl]
  have hun : unp (m' (c.frm a + u)) = (w, r, true) := by rw [hnew]; exact unp_pack hw
  refine ⟨by rw [hm _ (Int.le_refl _), if_neg (by omega), if_neg (by omega)]; exact h.act, h.a01, by rw [hm _ (by omega), if_neg (by omega), if_pos rfl], by omega, ?_, fun k hk i h0 h1 => ?_, fun i hi => ?_⟩
  · have h1 := (h.tile.congr hold0).snoc (by rw [hun])
    have h2 : osz m' (c.frm a + u) = w + 1 := by unfold osz; rw [hun]
    rw [h2, Int.add_assoc] at h1
    exact h1
  · rcases List.mem_append.1 hk with hk | hk
    · have e : orf m' k = orf m k := by unfold orf; rw [hold0 k hk]
      rw [e] at h1
      have hz := osz_b m k
      have := hold k hk (1 + i) (by omega) (by omega)
      rw [← Int.add_assoc] at this
      rw [this]
      exact (h.names k hk i h0 h1).imp id (List.mem_append_left _)
    · rw [List.mem_singleton.1 hk] at h1 ⊢
      have : orf m' (c.frm a + u) = r := by unfold orf; rw [hun]
      rw [this] at h1
      left
      rw [hm _ (by omega), if_pos (by omega), if_neg (by omega)]
  · have : m' (c.root i) = m (c.root i) := by
      simp only [Cfg.root]
      rw [hm _ (by omega), if_neg (by omega), if_neg (by omega)]
    rw [this]
    exact (h.roots i hi).imp id (List.mem_append_left _)
theorem HM.set {c : Cfg} (hc : CfgW c) {m m' : Int → Int} {a u : Int} {L : List Int} (h : HM c m a u L) {i v : Int} (hm : ∀ j, c.active ≤ j → m' j = if j = i then v else m j)
    (hi : (∃ k ∈ L, ∃ j, orf m k ≤ j ∧ j + 1 < osz m k ∧ i = k + 1 + j) ∨ ((v = 0 ∨ v ∈ L) ∧ ((∃ k ∈ L, ∃ j, 0 ≤ j ∧ j < orf m k ∧ i = k + 1 + j) ∨ ∃ r : Nat, (r : Int) < c.roots ∧ i = c.root r))) : HM c m' a u L := by
  have hf := frmA hc h.a01
  have hu := h.u0
  have hr1 := hc.r1
  have hin : (∃ k ∈ L, ∃ j, 0 ≤ j ∧ j + 1 < osz m k ∧ i = k + 1 + j) ∨ ∃ r : Nat, (r : Int) < c.roots ∧ i = c.root r := by
    rcases hi with ⟨k, hk, j, h1, h2, h3⟩ | ⟨_, ⟨k, hk, j, h1, h2, h3⟩ | hr⟩
    · exact .inl ⟨k, hk, j, by have := osz_b m k; omega, h2, h3⟩
    · exact .inl ⟨k, hk, j, h1, by have := osz_b m k; omega, h3⟩
    · exact .inr hr
  have hnh : ∀ k ∈ L, k ≠ i := fun k hk e => by
    have h1 := h.tile.mem hk
    rcases hin with ⟨k', hk', j, h2, h3, h4⟩ | ⟨r, h2, h3⟩
    · rcases Int.lt_trichotomy k k' with hl | he | hl
      · omega
      · omega
      · have := h.tile.disj hk' hk hl; omega
    · simp only [Cfg.root] at h3; omega
  have hlow : c.active + 2 ≤ i := by
    rcases hin with ⟨k', hk', j, h2, h3, h4⟩ | ⟨r, h2, h3⟩
    · have h1 := h.tile.mem hk'; omega
    · simp only [Cfg.root] at h3; omega
  have hLa : ∀ k ∈ L, c.active ≤ k := fun k hk => by have := h.tile.mem hk; omega
  have e0 : ∀ k ∈ L, m' k = m k := fun k hk => by rw [hm k (hLa k hk), if_neg (hnh k hk)]
  have eo : ∀ k ∈ L, orf m' k = orf m k := fun k hk => by unfold orf; rw [e0 k hk]
  refine ⟨by rw [hm _ (Int.le_refl _), if_neg (by omega)]; exact h.act, h.a01, by rw [hm _ (by omega), if_neg (by omega)]; exact h.used, h.u0, h.tile.congr e0, fun k hk j h1 h2 => ?_, fun r hr => ?_⟩
  · rw [eo k hk] at h2
    have hka := hLa k hk
    rw [hm _ (by omega)]
    by_cases hx : k + 1 + j = i
    · rw [if_pos hx]
      rcases hi with ⟨k', hk', j', g1, g2, g3⟩ | ⟨hv, _⟩
      · exfalso
        have hz := osz_b m k; have hz' := osz_b m k'
        rcases Int.lt_trichotomy k k' with hl | he | hl
        · have := h.tile.disj hk hk' hl; omega
        · subst he; omega
        · have := h.tile.disj hk' hk hl; omega
      · exact hv
    · rw [if_neg hx]; exact h.names k hk j h1 h2
  · rw [hm _ (by simp only [Cfg.root]; omega)]
    by_cases hx : c.root r = i
    · rw [if_pos hx]
      rcases hi with ⟨k', hk', j', g1, g2, g3⟩ | ⟨hv, _⟩
      · exfalso
        have h1 := h.tile.mem hk'
        have hz' := osz_b m k'
        simp only [Cfg.root] at hx; omega
      · exact hv
    · rw [if_neg hx]; exact h.roots r hr
theorem in_put {kp : Prop} {c : Cfg} {N : Nat} {old : Nat → Int} {js : List Nat} {S : SecS} {s : Dev} (h : In kp c N old js S s) (hc : CfgW c) {i : Nat} (v : Int) (hi : c.active ≤ i ∧ i < N) (hv : 0 ≤ v ∧ v < 18446744073709551616) (hu : U64 s) (hr : (S.ff ≤ i ∧ (i : Int) < S.ft) ∨ i ∈ js ∨ (js.length : Int) < c.log) :
    ∃ S' s' js', S.store s i v = .ok (0, S') s' ∧ In kp c N old js' S' s' ∧ U64 s' ∧ (S'.ff = S.ff ∧ S'.ft = S.ft ∧ S'.L.d = S.L.d ∧ S'.L.c = S.L.c) ∧ (js' = js ∨ (js' = js ++ [i] ∧ ¬ (S.ff ≤ i ∧ (i : Int) < S.ft))) ∧ ∀ j : Int, c.active ≤ j → s'.load j = if j = i then v else s.load j := by
  have hA := act_w hc
  have hN := h.hN
  have hn := h.n
  have hsw := in_secw h hc (by omega)
  have ldf : ∀ s' : Dev, s'.n = N → s'.now i = v → (∀ x : Nat, c.active ≤ x → x ≠ i → s'.now x = s.now x) → ∀ j : Int, c.active ≤ j → s'.load j = if j = i then v else s.load j := fun s' hn' h1 h2 j hj => by
    by_cases hr : j < N
    · rw [load_nat (s := s') (k := j.toNat) (by omega) (by omega), load_nat (s := s) (k := j.toNat) (by omega) (by omega)]
      by_cases e : j = i
      · rw [if_pos e, show j.toNat = i by omega]; exact h1
      · rw [if_neg e]; exact h2 _ (by omega) (by omega)
    · have z : ∀ t : Dev, t.n = N → t.load j = 0 := fun t ht => by
        unfold Dev.load Dev.has
        rw [if_neg (by simp; omega)]
      rw [z s' hn', z s hn, if_neg (by omega)]
  by_cases hno : i ∈ js ∨ (S.ff ≤ i ∧ (i : Int) < S.ft)
  · obtain ⟨e1, e2⟩ := in_again h hc v hi hno
    have hu' := (sstore_u64 hsw hu (by omega) hv e1).1
    refine ⟨_, _, js, e1, e2, hu', ⟨rfl, rfl, rfl, rfl⟩, .inl rfl, ldf _ e2.n ?_ fun x _ hx => ?_⟩
    · rw [sv_now]; unfold upd; rw [if_pos rfl]
    · rw [sv_now]; unfold upd; rw [if_neg hx]
  · have hroom : (js.length : Int) < c.log := by
      rcases hr with hr | hr | hr
      · exact absurd (.inr hr) hno
      · exact absurd (.inl hr) hno
      · exact hr
    obtain ⟨s', e1, e2, e3, e4⟩ := in_first h hc v hi (fun hx => hno (.inl hx)) (fun hx => hno (.inr hx)) hroom
    have hu' := (sstore_u64 hsw hu (by omega) hv e1).1
    exact ⟨_, s', _, e1, e2, hu', ⟨rfl, rfl, rfl, rfl⟩, .inr ⟨rfl, fun hx => hno (.inr hx)⟩, ldf s' e2.n e3 e4⟩
theorem in_fill {kp : Prop} {c : Cfg} {N : Nat} {old : Nat → Int} {js : List Nat} (hc : CfgW c) {a h0 : Int} (hh : 0 ≤ h0 ∧ h0 < 18446744073709551616) : ∀ (f : Nat) (i : Int) (S : SecS) (s : Dev), In kp c N old js S s → U64 s → 0 ≤ i → c.active ≤ a → a + i + f ≤ N → S.ff ≤ a → a + i + f ≤ S.ft →
    ∃ S' s', fillM secOp a h0 f i s S = .ok ((a, 0), S') s' ∧ In kp c N old js S' s' ∧ U64 s' ∧ (S'.ff = S.ff ∧ S'.ft = S.ft ∧ S'.L.d = S.L.d ∧ S'.L.c = S.L.c) ∧ ∀ j : Int, c.active ≤ j → s'.load j = if a + i ≤ j ∧ j < a + i + f then (if j = a then h0 else 0) else s.load j
  | 0, i, S, s, h, hu, hi, ha, hf, _, _ => ⟨S, s, rfl, h, hu, ⟨rfl, rfl, rfl, rfl⟩, fun j _ => by rw [if_neg (by omega)]⟩
  | f + 1, i, S, s, h, hu, hi, ha, hf, h1, h2 => by
    have hA := act_w hc
    obtain ⟨v, hvd⟩ : ∃ v, v = if i = 0 then h0 else 0 := ⟨_, rfl⟩
    have hv : 0 ≤ v ∧ v < 18446744073709551616 := by rw [hvd]; split <;> first | exact hh | decide
    obtain ⟨S1, s1, js1, e1, e2, e3, e4, e5, e6⟩ := in_put h hc (i := (a + i).toNat) v (by omega) hv hu (.inl (by omega))
    have hjs : js1 = js := by
      rcases e5 with e5 | ⟨_, e5⟩
      · exact e5
      · exact absurd (show S.ff ≤ ((a + i).toNat : Int) ∧ ((a + i).toNat : Int) < S.ft by omega) e5
    subst hjs
    obtain ⟨S', s', g1, g2, g3, g4, g5⟩ := in_fill hc hh f (i + 1) S1 s1 e2 e3 (by omega) ha (by omega) (by rw [e4.1]; exact h1) (by rw [e4.2.1]; omega)
    refine ⟨S', s', ?_, g2, g3, ⟨g4.1.trans e4.1, g4.2.1.trans e4.2.1, g4.2.2.1.trans e4.2.2.1, g4.2.2.2.trans e4.2.2.2⟩, fun j hj => ?_⟩
    · unfold fillM
      rw [← hvd, show secOp (a + i) v s S = .ok (0, S1) s1 from by rw [show (a + i) = (((a + i).toNat : Nat) : Int) by omega]; exact e1]
      simp only [then_ok]
      rw [if_neg (by decide)]
      exact g1
    · rw [g5 j hj]
      by_cases hj2 : j = a + i
      · rw [if_neg (by omega), e6 j hj, if_pos (by omega), if_pos (by omega), hvd]
        by_cases h0 : i = 0
        · rw [if_pos h0, if_pos (by omega)]
        · rw [if_neg h0, if_neg (by omega)]
      · by_cases hr : a + (i + 1) ≤ j ∧ j < a + (i + 1) + f
        · rw [if_pos hr, if_pos (c := a + i ≤ j ∧ j < a + i + ((f + 1 : Nat) : Int)) (by omega)]
        · rw [if_neg hr, if_neg (c := a + i ≤ j ∧ j < a + i + ((f + 1 : Nat) : Int)) (by omega), e6 j hj, if_neg (by omega)]
theorem in_alloc {kp : Prop} {c : Cfg} (hc : CfgW c) {N : Nat} {old : Nat → Int} {js : List Nat} {S : SecS} {s : Dev} (h : In kp c N old js S s) (hu : U64 s) {a u : Int} {L : List Int} (hm : HM c s.load a u L) {w r : Int} (hw : 0 ≤ r ∧ r ≤ w ∧ w ≤ 64) (hroom : ¬ c.space - u < w + 1) (hff : S.ff ≤ c.frm a + u) (hft : S.ft = c.frm a + c.space) (hff2 : c.frm a ≤ S.ff)
    (hr : (c.active + 1).toNat ∈ js ∨ (js.length : Int) < c.log) :
    ∃ S' s' js', allocM secOp c w r s S = .ok ((c.frm a + u, 0), S') s' ∧ In kp c N old js' S' s' ∧ U64 s' ∧ (S'.ff = S.ff ∧ S'.ft = S.ft ∧ S'.L.d = S.L.d ∧ S'.L.c = S.L.c) ∧ js'.length ≤ js.length + 1 ∧ (∀ x ∈ js, x ∈ js') ∧ HM c s'.load a (u + (w + 1)) (L ++ [c.frm a + u]) ∧
      ∀ j, c.active ≤ j → s'.load j = if c.frm a + u ≤ j ∧ j < c.frm a + u + (w + 1) then (if j = c.frm a + u then packI w r else 0) else if j = c.active + 1 then u + (w + 1) else s.load j := by
  have hA := act_w hc
  have hf := frmA hc hm.a01
  have hu0 := hm.u0
  have hr1 := hc.r1
  have hN := h.hN
  obtain ⟨S1, s1, js1, e1, e2, e3, e4, e5, e6⟩ := in_put h hc (i := (c.active + 1).toNat) (u + (w + 1)) (by omega) (by omega) hu (.inr hr)
  obtain ⟨S', s', g1, g2, g3, g4, g5⟩ := in_fill hc (a := c.frm a + u) (packI_b w r) (w + 1).toNat 0 S1 s1 e2 e3 (Int.le_refl 0) (by omega) (by omega) (by rw [e4.1]; omega) (by rw [e4.2.1]; omega)
  have hld : ∀ j, c.active ≤ j → s'.load j = if c.frm a + u ≤ j ∧ j < c.frm a + u + (w + 1) then (if j = c.frm a + u then packI w r else 0) else if j = c.active + 1 then u + (w + 1) else s.load j := fun j hj => by
    rw [g5 j hj, e6 j hj]
    by_cases hj2 : c.frm a + u ≤ j ∧ j < c.frm a + u + (w + 1)
    · rw [if_pos hj2, if_pos (by omega)]
    · rw [if_neg hj2, if_neg (by omega)]
      by_cases e : j = c.active + 1
      · rw [if_pos e, if_pos (by omega)]
      · rw [if_neg e, if_neg (by omega)]
  refine ⟨S', s', js1, ?_, g2, g3, ⟨g4.1.trans e4.1, g4.2.1.trans e4.2.1, g4.2.2.1.trans e4.2.2.1, g4.2.2.2.trans e4.2.2.2⟩, ?_, fun x hx => ?_, hm.alloc hc hw hroom hld, hld⟩
  · have hk : chkH w r = 0 := by unfold chkH; rw [if_pos (by omega)]
    unfold allocM
    rw [if_neg (by rw [hk]; decide), hm.block, if_neg (by simp)]
    simp only
    rw [if_neg hroom, show secOp (c.active + 1) (u + (w + 1)) s S = .ok (0, S1) s1 from by rw [show (c.active + 1) = (((c.active + 1).toNat : Nat) : Int) by omega]; exact e1]
    simp only [then_ok]
    rw [if_neg (by decide)]
    exact g1
  · rcases e5 with e5 | ⟨e5, _⟩ <;> rw [e5] <;> simp
  · rcases e5 with e5 | ⟨e5, _⟩ <;> rw [e5]
    · exact hx
    · exact List.mem_append_left _ hx
end Go.Proofs.YtlcibdhmgclfjaaGreat
namespace Go.Proofs.YtlcibdhmgclfjaaGreat
open Go
theorem Tile.len {m : Int → Int} : ∀ {L : List Int} {a e : Int}, Tile m a L e → (L.length : Int) ≤ e - a
  | [], a, e, h => by cases h; simp
  | x :: t, a, e, h => by have := h.2.2.len; have := osz_b m a; simp only [List.length_cons]; omega
section
variable {c : Cfg} {b : Blk} {L : List Int} {s : Dev}
def hobj (s : Dev) (k : Int) : Obj3 := (osz s.load k - 1, orf s.load k, k)
theorem objs_heap (hc : CfgW c) (hb : BlkW c b) (h : HeapW c b s.load L) : ∀ (t : List Int) (a : Int) (f : Nat), Tile s.load a t (b.place c b.used) → (∀ k ∈ t, k ∈ L) → t.length < f → s.objs c b f a = t.map fun k => (hobj s k, 0)
  | [], a, f + 1, ht, _, _ => by
    unfold Dev.objs
    rw [if_pos (by rw [show a = b.place c b.used from ht]; exact Int.le_refl _)]; rfl
  | k :: t, a, f + 1, ht, hl, hf => by
    obtain ⟨rfl, h2, h3⟩ := ht
    have hz := osz_b s.load k
    have hle := h3.le
    have ho := (heap_of hc hb h (hl k (List.mem_cons_self ..))).1
    simp only [List.length_cons] at hf
    unfold Dev.objs
    rw [if_neg (by omega), ho, if_neg (by simp)]
    simp only [List.map_cons]
    rw [show k + (osz s.load k - 1 + 1) = k + osz s.load k by omega, objs_heap hc hb h t _ f h3 (fun x hx => hl x (List.mem_cons_of_mem _ hx)) (by omega)]
    rfl
  | _, _, 0, _, _, hf => absurd hf (Nat.not_lt_zero _)
theorem heap_objs (hc : CfgW c) (hb : BlkW c b) (h : HeapW c b s.load L) : s.objs c b (b.used.toNat + 1) (b.place c 0) = L.map fun k => (hobj s k, 0) := by
  have h1 := h.tile.len
  have h2 := hb.used
  exact objs_heap hc hb h L _ _ h.tile (fun _ h => h) (by unfold Blk.place at h1; omega)
theorem itl_all {α ι : Type} {st : α → ι → Bool × ι} {g : ι → α → ι} : ∀ (l : List α) (x : ι), (∀ a ∈ l, ∀ x, st a x = (true, g x a)) → itl st l x = (true, l.foldl g x)
  | [], x, _ => rfl
  | a :: t, x, h => by
    have e := h a (List.mem_cons_self ..) x
    unfold itl
    rw [if_pos (by rw [e]), e]
    exact itl_all t _ fun b hb => h b (List.mem_cons_of_mem _ hb)
theorem fold_keys {β : Type} (f : Int → β) : ∀ (l : List Int) (x : List (Int × β) × Int) (k : Int), (k ∈ l ∨ (mget x.1 k).isSome = true) → (mget (l.foldl (fun y k => (mset y.1 k (f k), y.2)) x).1 k).isSome = true
  | [], x, k, h => h.resolve_left (by simp)
  | a :: t, x, k, h => by
    refine fold_keys f t _ k ?_
    by_cases e : k = a
    · right; simp only; rw [mget_mset, if_pos e]; rfl
    · rcases h with h | h
      · exact .inl ((List.mem_cons.1 h).resolve_left e)
      · right; simp only; rw [mget_mset, if_neg e]; exact h
theorem fold_snd {β : Type} (f : Int → β) : ∀ (l : List Int) (x : List (Int × β) × Int), (l.foldl (fun y k => (mset y.1 k (f k), y.2)) x).2 = x.2
  | [], _ => rfl
  | a :: t, x => fold_snd f t _
theorem heap_starts (hc : CfgW c) (hb : BlkW c b) (h : HeapW c b s.load L) : (s.starts c b).2 = 0 ∧ ∀ k ∈ L, (mget (s.starts c b).1 k).isSome = true := by
  have e : s.starts c b = L.foldl (fun y k => (mset y.1 k (hobj s k), y.2)) ([], 0) := by
    unfold Dev.starts Dev.startsI
    rw [heap_objs hc hb h, itl_all (g := fun y (p : Obj3 × Int) => (mset y.1 p.1.2.2 p.1, y.2)) _ _ (fun p hp x => by
      obtain ⟨k, _, rfl⟩ := List.mem_map.1 hp
      unfold stS
      rw [if_neg (by simp)]), List.foldl_map]
    rfl
  rw [e]
  exact ⟨fold_snd _ _ _, fun k hk => fold_keys _ _ _ _ (.inl hk)⟩
theorem heap_check (hc : CfgW c) (hu : U64 s) (hbl : s.block c = (b, 0)) (h : HeapW c b s.load L) : s.check c = 0 := by
  have hb0 : b = (s.block c).1 := by rw [hbl]
  have hb : BlkW c b := by rw [hb0]; exact block_w hc hu
  obtain ⟨h1, h2⟩ := heap_starts hc hb h
  have hn : ∀ v, v = 0 ∨ v ∈ L → namesM c b (s.starts c b).1 v = true := fun v hv => by
    unfold namesM
    rcases hv with rfl | hv
    · simp
    · rw [(heap_of hc hb h hv).2, h2 v hv]; simp
  unfold Dev.check
  rw [hbl]
  simp only
  rw [if_neg (by simp), if_neg (by rw [h1]; simp), if_pos]
  · rw [heap_objs hc hb h, itl_all (g := fun y _ => y)]
    · have : ∀ (l : List (Obj3 × Int)) (x : Int), l.foldl (fun y _ => y) x = x := fun l => by
        induction l with
        | nil => intro x; rfl
        | cons a t ih => intro x; exact ih x
      rw [this]
    · intro p hp x
      obtain ⟨k, hk, rfl⟩ := List.mem_map.1 hp
      unfold stC
      rw [if_pos]
      unfold refsM
      rw [List.all_eq_true]
      intro j hj
      have := List.mem_range.1 hj
      simp only [hobj] at this ⊢
      exact hn _ (h.names k hk j (by omega) (by omega))
  · rw [List.all_eq_true]
    exact fun v hv => hn v (h.roots v hv)
theorem HeapW.congr {m m' : Int → Int} (h : HeapW c b m L) (e : ∀ j, b.place c 0 ≤ j → j < b.place c b.used → m' j = m j) : HeapW c b m' L := by
  have hm : ∀ k ∈ L, ∀ j, 0 ≤ j → j < osz m k → m' (k + j) = m (k + j) := fun k hk j h0 h1 => by
    have := h.tile.mem hk
    exact e _ (by omega) (by omega)
  have h0 : ∀ k ∈ L, m' k = m k := fun k hk => by
    have := hm k hk 0 (Int.le_refl 0) (by have := osz_b m k; omega)
    simpa using this
  refine ⟨h.tile.congr h0, fun k hk i g0 g1 => ?_, h.roots⟩
  have eo : orf m' k = orf m k := by unfold orf; rw [h0 k hk]
  rw [eo] at g1
  have hz := osz_b m k
  have := hm k hk (1 + i) (by omega) (by omega)
  rw [← Int.add_assoc] at this
  rw [this]; exact h.names k hk i g0 g1
end
end Go.Proofs.YtlcibdhmgclfjaaGreat
namespace Go.Proofs.YtlcibdhmgclfjaaGreat
open Go
theorem undo_nought {L : LogS} {s : Dev} (h : L.n = 0) : L.undo s = .ok L s := by
  unfold LogS.undo
  rw [show L.n.toNat = 0 by omega]
  simp [recN, LogS.truncate, h, Out.then]
theorem readC_of {c : Cfg} (hc : CfgW c) {s : Dev} (hn : (s.n : Int) = c.words) (h0 : s.load 0 = magicI) (h1 : s.load 1 = c.log) (h2 : s.load 2 = c.roots) (h3 : s.load 3 = c.space) : s.readC = (c, 0) := by
  have l1 := hc.l1; have l2 := hc.l2; have r1 := hc.r1; have r2 := hc.r2; have s1 := hc.s1; have s2 := hc.s2
  have e : ∀ x : Int, 0 ≤ x ∧ x ≤ 4096 → IntKind.i64.wrap x = x := fun x hx => wr64 (by omega)
  have e1 : readW s 0 = c.log := by unfold readW; rw [show (1 + ((0 : Nat) : Int)) = 1 from rfl, h1]; exact e _ (by omega)
  have e2 : readW s 1 = c.roots := by unfold readW; rw [show (1 + ((1 : Nat) : Int)) = 2 from rfl, h2]; exact e _ (by omega)
  have e3 : readW s 2 = c.space := by unfold readW; rw [show (1 + ((2 : Nat) : Int)) = 3 from rfl, h3]; exact e _ (by omega)
  have hcc : (⟨c.log, c.roots, c.space⟩ : Cfg) = c := rfl
  unfold Dev.readC
  rw [if_neg (by rw [h0]; simp), if_neg (by omega), e1, e2, e3, hcc, if_neg (by rintro (h | h); exact h hc; exact h hn)]
theorem openN_cong {s t : Dev} (h : t.load = s.load) (c : Cfg) (e : Int) : ∀ f n, openN t c e f n = openN s c e f n
  | 0, _ => rfl
  | f + 1, n => by unfold openN; rw [h, openN_cong h c e f]
theorem openL_cong {s t : Dev} (h : t.load = s.load) (d : Nat) (c : Cfg) : openL d c t = openL d c s := by unfold openL; rw [h, openN_cong h]
theorem cp_load (s : Dev) (pa : Nat) : (cpD s pa).load = s.load := by
  funext j
  unfold Dev.load Dev.has
  show (if (decide (0 ≤ j) && decide (j < (s.n : Int))) = true then (tab s.n s.now).getD j.toNat 0 else 0) = _
  split
  · rename_i h
    simp only [Bool.and_eq_true, decide_eq_true_eq] at h
    have e : tab s.n s.now = (List.range s.n).map s.now := rfl
    rw [e, List.getD_eq_getElem?_getD]
    simp [show j.toNat < s.n by omega]
  · rfl
theorem load_of_now {s t : Dev} (hn : t.n = s.n) (h : t.now = s.now) : t.load = s.load := by
  funext j
  unfold Dev.load Dev.has
  rw [hn, h]
structure OkD (c : Cfg) (N : Nat) (s : Dev) (e : Int) (a u : Int) (L : List Int) : Prop where
  n : s.n = N
  hN : (N : Int) = c.words
  uu : U64 s
  rc : s.readC = (c, 0)
  lg : ∀ d, openL d c s = ⟨d, c, e, 0⟩
  hm : HM c s.load a u L
theorem OkD.open_ {c : Cfg} (hc : CfgW c) {N : Nat} {s : Dev} {e a u : Int} {L : List Int} (h : OkD c N s e a u L) {bd : Nat} {x : Int} (hx : openE bd s x) : x = 0 := by
  have e0 : s.readC.2 = 0 := by rw [h.rc]
  have e1 : s.readC.1 = c := by rw [h.rc]
  rcases hx with ⟨h1, _⟩ | ⟨_, h1, _⟩ | ⟨_, _, bc, pa, L1, t1, h2, h3⟩
  · exact absurd e0 h1
  · rw [e1, h.lg] at h1
    exact absurd h1 (show ¬ (0 : Int) ≤ -1 by decide)
  · rw [e1, openL_cong (cp_load s pa), h.lg, undo_nought rfl] at h2
    cases h2
    rw [h3, e1]
    have hm : HM c (cpD s pa).load a u L := by rw [cp_load]; exact h.hm
    exact heap_check hc (cpD_u h.uu pa) hm.block hm.heap
theorem OkD.undo {c : Cfg} {N : Nat} {s : Dev} {e a u : Int} {L : List Int} (h : OkD c N s e a u L) {bd : Nat} {L' : LogS} {s' : Dev} (hx : (openL bd s.readC.1 s).undo s = .ok L' s') : s' = s := by
  rw [show s.readC.1 = c by rw [h.rc], h.lg, undo_nought rfl] at hx
  cases hx; rfl
theorem OkD.noff {c : Cfg} {N : Nat} {s : Dev} {e a u : Int} {L : List Int} (h : OkD c N s e a u L) {bd : Nat} {s' : Dev} (hx : (openL bd s.readC.1 s).undo s = .off s') : False := by
  rw [show s.readC.1 = c by rw [h.rc], h.lg, undo_nought rfl] at hx
  cases hx
structure HC (kp : Prop) (c : Cfg) (N bd : Nat) (h : HpS) (s : Dev) (a u : Int) (L : List Int) : Prop where
  hbd : h.bd = bd
  hcc : h.c = c
  ho : h.o = false
  sk : SK c N bd h.S s
  hm : HM c s.load a u L
  rc : s.readC = (c, 0)
  hw : HepW h s
  hkp : kp → s.kept = s.now
theorem SK.lg {c : Cfg} (hc : CfgW c) {N bd : Nat} {S : SecS} {s : Dev} (h : SK c N bd S s) (d : Nat) : openL d c s = ⟨d, c, S.L.epoch, 0⟩ := by
  have h1 := shut0_open (d := d) h.sh h.lw (by have := act_w hc; have := h.hN; rw [h.n]; omega)
  rw [h.lc] at h1
  exact h1
theorem HC.okd {kp : Prop} {c : Cfg} (hc : CfgW c) {N bd : Nat} {h : HpS} {s : Dev} {a u : Int} {L : List Int} (H : HC kp c N bd h s a u L) : OkD c N s h.S.L.epoch a u L := ⟨H.sk.n, H.sk.hN, H.sk.u, H.rc, H.sk.lg hc, H.hm⟩
theorem hc_open {c : Cfg} (hc : CfgW c) {N : Nat} {s : Dev} {e a u : Int} {L : List Int} (h : OkD c N s e a u L) (hs : Still s) (he : 0 ≤ e ∧ e < 4294967296) (hsh : s.now 8 = e ∧ s.now 16 ≠ stampI e 0) (bd : Nat) {kp : Prop} (hk : kp → s.kept = s.now) : HC kp c N bd (heapOf bd c s) s a u L := by
  have hA := act_w hc
  have hN := h.hN
  have hlog : 0 ≤ c.log := by have := hc.l1; have := hc.r1; omega
  have hlw : LogW ⟨bd, c, e, 0⟩ := ⟨hc, he.1, he.2, Int.le_refl _, hlog⟩
  have hS : (heapOf bd c s).S = ⟨⟨bd, c, e, 0⟩, 0, 0, [], []⟩ := by unfold heapOf; rw [h.lg]
  have hsk : SK c N bd (heapOf bd c s).S s := by
    rw [hS]
    exact ⟨hs, h.uu, h.n, h.hN, rfl, hlw, rfl, rfl, hsh⟩
  refine ⟨rfl, rfl, rfl, hsk, h.hm, h.rc, ⟨hc, hsk.secK hc, fun x => (by cases x), h.uu, ⟨Int.le_refl _, by show (0 : Int) ≤ 1000000000; decide⟩, Nat.zero_le _, fun p hp => (by cases hp), fun X hX => (by cases hX)⟩, hk⟩
theorem Fmt.okd {c : Cfg} (hc : CfgW c) {N : Nat} {s : Dev} (h : Fmt c N s) (hN : (N : Int) = c.words) (hu : U64 s) : OkD c N s 1 0 0 [] := by
  have hA := act_w hc
  have hld : ∀ k : Nat, k < 24 → s.load k = s.now k := fun k hk => load_nat rfl (by rw [h.n]; omega)
  have hF := fi_fmt hc hN h hu
  refine ⟨h.n, hN, hu, readC_of hc (by rw [h.n]; exact hN) ?_ ?_ ?_ ?_, h.log, ⟨hF.act, by omega, hF.used, hF.u0, hF.tile, hF.names, hF.roots⟩⟩
  · rw [show (0 : Int) = ((0 : Nat) : Int) from rfl, hld 0 (by omega)]; exact h.st.magic
  · rw [show (1 : Int) = ((1 : Nat) : Int) from rfl, hld 1 (by omega)]; exact h.st.cfg.1
  · rw [show (2 : Int) = ((2 : Nat) : Int) from rfl, hld 2 (by omega)]; exact h.st.cfg.2.1
  · rw [show (3 : Int) = ((3 : Nat) : Int) from rfl, hld 3 (by omega)]; exact h.st.cfg.2.2
theorem Fmt.hc {c : Cfg} (hc : CfgW c) {N : Nat} {s : Dev} (h : Fmt c N s) (hN : (N : Int) = c.words) (hu : U64 s) (bd : Nat) : HC True c N bd (heapOf bd c s) s 0 0 [] :=
  hc_open hc (h.okd hc hN hu) ⟨h.lim, h.calm.q⟩ ⟨by decide, by decide⟩ ⟨h.ep.1, by rw [h.ep.2]; decide⟩ bd fun _ => h.calm.kept
structure K8 (s s' : Dev) : Prop where
  n : s'.n = s.n
  now : ∀ x : Nat, x < 8 → s'.now x = s.now x
theorem K8.refl {s : Dev} : K8 s s := ⟨rfl, fun _ _ => rfl⟩
theorem K8.trans {s s' s'' : Dev} (h : K8 s s') (g : K8 s' s'') : K8 s s'' := ⟨g.n.trans h.n, fun x hx => (g.now x hx).trans (h.now x hx)⟩
theorem k8_store {s s' : Dev} {i v a : Int} (hi : 8 ≤ i) (e : s.store i v = .ok a s') : K8 s s' := by
  unfold Dev.store at e
  split at e
  · cases e; exact .refl
  · split at e
    · cases e
    · cases e
      exact ⟨rfl, fun x hx => by show upd s.now i.toNat v x = _; unfold upd; rw [if_neg (by omega)]⟩
theorem k8_flush {s s' : Dev} {i a : Int} (e : s.flush i = .ok a s') : K8 s s' := by
  unfold Dev.flush at e
  split at e
  · cases e; exact .refl
  · split at e
    · cases e
    · cases e; exact ⟨rfl, fun _ _ => rfl⟩
theorem k8_fence {s s' : Dev} {a : Unit} (e : s.fence = .ok a s') : K8 s s' := by
  unfold Dev.fence at e
  split at e
  · cases e
  · cases e; exact ⟨rfl, fun _ _ => rfl⟩
theorem k8_append {L : LogS} {s s' : Dev} {i : Int} {r : Int × LogS} (hL : LogW L) (e : L.append s i = .ok r s') : K8 s s' := by
  unfold LogS.append at e
  split at e
  · cases e; exact .refl
  split at e
  · cases e; exact .refl
  have hr : 16 ≤ L.c.record L.n := by have := hL.n1; simp only [Cfg.record]; omega
  obtain ⟨_, s1, e1, e⟩ := then_inv e
  obtain ⟨_, s2, e2, e⟩ := then_inv e
  obtain ⟨_, s3, e3, e⟩ := then_inv e
  obtain ⟨_, s4, e4, e⟩ := then_inv e
  obtain ⟨_, s5, e5, e⟩ := then_inv e
  obtain ⟨_, s6, e6, e⟩ := then_inv e
  obtain ⟨_, s7, e7, e⟩ := then_inv e
  cases e
  exact ((((((k8_store (by omega) e1).trans (k8_store (by omega) e2)).trans (k8_flush e3)).trans (k8_fence e4)).trans (k8_store (by omega) e5)).trans (k8_flush e6)).trans (k8_fence e7)
theorem k8_sstore {S : SecS} {s s' : Dev} {i v : Int} {r : Int × SecS} (hL : LogW S.L) (e : S.store s i v = .ok r s') : K8 s s' := by
  have hA := act_w hL.c
  unfold SecS.store at e
  split at e
  · cases e; exact .refl
  rename_i hi
  split at e
  · obtain ⟨x, t, e1, e⟩ := then_inv e
    have h1 := k8_append hL e1
    split at e
    · cases e; exact h1
    · obtain ⟨y, u, e2, e⟩ := then_inv e
      cases e; exact h1.trans (k8_store (by omega) e2)
  · obtain ⟨y, u, e2, e⟩ := then_inv e
    cases e; exact k8_store (by omega) e2
theorem k8_fill {a h0 : Int} : ∀ (f : Nat) (i : Int) (S : SecS) (s : Dev) (r : (Int × Int) × SecS) (s' : Dev), LogW S.L → fillM secOp a h0 f i s S = .ok r s' → K8 s s'
  | 0, i, S, s, r, s', _, e => by cases e; exact .refl
  | f + 1, i, S, s, r, s', hL, e => by
    unfold fillM at e
    obtain ⟨⟨x, S1⟩, s1, e1, e⟩ := then_inv e
    have h1 := k8_sstore hL e1
    split at e
    · cases e; exact h1
    · exact h1.trans (k8_fill f _ _ _ _ _ (store_lw hL e1) e)
theorem k8_alloc {c : Cfg} {w r : Int} {S : SecS} {s : Dev} {x : (Int × Int) × SecS} {s' : Dev} (hL : LogW S.L) (e : allocM secOp c w r s S = .ok x s') : K8 s s' := by
  unfold allocM at e
  split at e
  · cases e; exact .refl
  split at e
  · cases e; exact .refl
  split at e
  · cases e; exact .refl
  · obtain ⟨⟨y, S1⟩, s1, e1, e⟩ := then_inv e
    have h1 := k8_sstore hL e1
    split at e
    · cases e; exact h1
    · exact h1.trans (k8_fill _ _ _ _ _ _ (store_lw hL e1) e)
theorem K8.readC {c : Cfg} (hc : CfgW c) {s s' : Dev} (h : K8 s s') (hn : (s.n : Int) = c.words) (hr : s.readC = (c, 0)) : s'.readC = (c, 0) := by
  have hA := act_w hc
  have hl : ∀ k : Nat, k < 8 → s'.load k = s.load k := fun k hk => by
    rw [load_nat (k := k) rfl (by rw [h.n]; omega), load_nat (k := k) rfl (by omega)]; exact h.now k hk
  have hw : ∀ k : Nat, k < 3 → readW s' k = readW s k := fun k hk => by
    have := hl (1 + k) (by omega)
    unfold readW
    rw [show (1 + (k : Int)) = ((1 + k : Nat) : Int) by omega, this]
  have k0 : s'.load 0 = s.load 0 := hl 0 (by omega)
  have k1 : s'.load 1 = s.load 1 := hl 1 (by omega)
  have k2 : s'.load 2 = s.load 2 := hl 2 (by omega)
  have k3 : s'.load 3 = s.load 3 := hl 3 (by omega)
  rw [← hr]
  unfold Dev.readC
  rw [h.n, k0, k1, k2, k3, hw 0 (by omega), hw 1 (by omega), hw 2 (by omega)]
end Go.Proofs.YtlcibdhmgclfjaaGreat
namespace Go.Proofs.YtlcibdhmgclfjaaGreat
open Go
theorem take_w {T : TabS} {k : Int} (h1 : 0 ≤ T.last ∧ T.last + 1 ≤ 1000000000) (h2 : T.at_.length + 1 ≤ 800000) (h3 : ∀ p ∈ T.at_, 0 ≤ p.2 ∧ p.2 ≤ 1000000) (hk : 0 ≤ k ∧ k ≤ 1000000) :
    (0 ≤ (T.take k).2.last ∧ (T.take k).2.last ≤ 1000000000) ∧ (T.take k).2.at_.length ≤ 800000 ∧ (∀ p ∈ (T.take k).2.at_, 0 ≤ p.2 ∧ p.2 ≤ 1000000) := by
  unfold TabS.take
  split
  · exact ⟨by simp only; omega, by simp only; omega, h3⟩
  split
  · exact ⟨by simp only; omega, by simp only; omega, h3⟩
  · refine ⟨by simp only; omega, ?_, fun p hp => ?_⟩
    · have := mset_len T.at_ (T.last + 1) k
      simp only; omega
    · rcases mset_v hp with e | e
      · rw [e]; exact hk
      · exact h3 p e
structure HO (kp : Prop) (c : Cfg) (N bd : Nat) (old : Nat → Int) (js : List Nat) (h : HpS) (s : Dev) (a u u0 : Int) (L : List Int) : Prop where
  hbd : h.bd = bd
  hcc : h.c = c
  ho : h.o = true
  ss : In kp c N old js h.S s
  dd : h.S.L.d = bd
  hm : HM c s.load a u L
  rc : s.readC = (c, 0)
  hw : HepW h s
  ff : h.S.ff = c.frm a + u0
  ft : h.S.ft = c.frm a + c.space
  ule : 0 ≤ u0 ∧ u0 ≤ u
theorem hepw_open {kp : Prop} {c : Cfg} (hc : CfgW c) {N bd : Nat} {old : Nat → Int} {js : List Nat} {h : HpS} {s : Dev} (hcc : h.c = c) (hbd : h.bd = bd) (hi : In kp c N old js h.S s) (hd : h.S.L.d = bd) (hu : U64 s) (hx : h.X = none) (t1 : 0 ≤ h.T.last ∧ h.T.last ≤ 1000000000) (t2 : h.T.at_.length ≤ 800000) (t3 : ∀ p ∈ h.T.at_, 0 ≤ p.2 ∧ p.2 ≤ 1000000) : HepW h s := by
  have hA := act_w hc
  have hN := hi.hN
  exact ⟨by rw [hcc]; exact hc, ⟨hi.logw, by rw [hi.n]; omega, by rw [hbd]; exact hd, by rw [hcc]; exact hi.hc⟩, fun _ => ⟨in_secw hi hc (by omega), dirty_len hi hc (by omega)⟩, hu, t1, t2, t3, fun X hX => by rw [hx] at hX; cases hX⟩
theorem HC.blk {kp : Prop} {c : Cfg} {N bd : Nat} {h : HpS} {s : Dev} {a u : Int} {L : List Int} (H : HC kp c N bd h s a u L) : h.blk s = blkM c s.load a u := by
  show (s.block h.c).1 = _
  rw [H.hcc, H.hm.block]
theorem HO.blk {kp : Prop} {c : Cfg} {N bd : Nat} {old : Nat → Int} {js : List Nat} {h : HpS} {s : Dev} {a u u0 : Int} {L : List Int} (H : HO kp c N bd old js h s a u u0 L) : h.blk s = blkM c s.load a u := by
  show (s.block h.c).1 = _
  rw [H.hcc, H.hm.block]
theorem HC.bok {kp : Prop} {c : Cfg} {N bd : Nat} {h : HpS} {s : Dev} {a u : Int} {L : List Int} (H : HC kp c N bd h s a u L) : (s.block h.c).2 = 0 := by rw [H.hcc, H.hm.block]
theorem HC.begin {kp : Prop} {c : Cfg} (hc : CfgW c) {N bd : Nat} {h : HpS} {s : Dev} {a u : Int} {L : List Int} (H : HC kp c N bd h s a u L) {room : Int} (h0 : 0 ≤ room) (hr : ¬ c.space - u < room) {x : Int} {h' : HpS} {s' : Dev} (hb : h.begR s room x h' s') :
    x = 0 ∧ s' = s ∧ h'.T = h.T ∧ HO kp c N bd s.now [] h' s a u u L := by
  have hbl := H.blk
  rcases hb with ⟨h1, _⟩ | ⟨_, h1, _⟩ | ⟨_, _, a1, h1, s1, hor, hor2⟩
  · rw [H.ho] at h1; cases h1
  · omega
  rcases hor with ⟨h2, _⟩ | ⟨h2, rfl, rfl, rfl⟩
  · rw [hbl, H.hcc] at h2; exact absurd h2 hr
  rcases hor2 with ⟨h3, _⟩ | ⟨_, h3, _⟩ | ⟨_, h3, rfl, rfl, rfl⟩
  · exact absurd rfl h3
  · rw [show HpS.blk { h with X := none } s1 = h.blk s1 from rfl, hbl, H.hcc] at h3; exact absurd h3 hr
  have hS := H.sk
  have hi : In kp c N s'.now [] (h.S.fresh ((h.blk s').place h.c (h.blk s').used) ((h.blk s').place h.c h.c.space)) s' := in_begin hS.still H.hkp hS.n hS.hN hS.lc hS.lw hS.ln hS.sh
  refine ⟨rfl, rfl, rfl, ⟨H.hbd, H.hcc, rfl, hi, ?_, H.hm, H.rc, hepw_open hc H.hcc H.hbd hi ?_ hS.u rfl H.hw.t1 H.hw.tl H.hw.tp, ?_, ?_, H.hm.u0.1, Int.le_refl _⟩⟩
  · exact hS.ld
  · exact hS.ld
  · show (h.blk s').place h.c (h.blk s').used = _
    rw [hbl, H.hcc]; rfl
  · show (h.blk s').place h.c h.c.space = _
    rw [hbl, H.hcc]; rfl
section
variable {kp : Prop} {c : Cfg} {N bd : Nat} {old : Nat → Int} {js : List Nat} {h : HpS} {s : Dev} {a u u0 : Int} {L : List Int}
theorem HO.uu (H : HO kp c N bd old js h s a u u0 L) : U64 s := H.hw.u
theorem HO.nc (H : HO kp c N bd old js h s a u u0 L) : (s.n : Int) = c.words := by rw [H.ss.n]; exact H.ss.hN
theorem HO.put (hc : CfgW c) (H : HO kp c N bd old js h s a u u0 L) (hx : h.X = none) {i v : Int} (hv : 0 ≤ v ∧ v < 18446744073709551616) (hi : c.active ≤ i ∧ i < N)
    (hk : (∃ k ∈ L, ∃ j, orf s.load k ≤ j ∧ j + 1 < osz s.load k ∧ i = k + 1 + j) ∨ ((v = 0 ∨ v ∈ L) ∧ ((∃ k ∈ L, ∃ j, 0 ≤ j ∧ j < orf s.load k ∧ i = k + 1 + j) ∨ ∃ r : Nat, (r : Int) < c.roots ∧ i = c.root r)))
    (hr : (h.S.ff ≤ i ∧ i < h.S.ft) ∨ i.toNat ∈ js ∨ (js.length : Int) < c.log) :
    ∃ S' s' js', h.S.store s i v = .ok (0, S') s' ∧ HO kp c N bd old js' { h with S := S' } s' a u u0 L ∧ (∀ x ∈ js, x ∈ js') ∧ js'.length ≤ js.length + 1 ∧ (¬ (h.S.ff ≤ i ∧ i < h.S.ft) ∨ js' = js) ∧ ∀ j : Int, c.active ≤ j → s'.load j = if j = i then v else s.load j := by
  have hA := act_w hc
  have hN := H.ss.hN
  obtain ⟨S', s', js', e1, e2, e3, e4, e5, e6⟩ := in_put H.ss hc (i := i.toNat) v (by omega) hv H.uu (hr.imp (fun h => by omega) id)
  rw [show ((i.toNat : Nat) : Int) = i by omega] at e1 e5 e6
  have hm' := H.hm.set hc e6 hk
  refine ⟨S', s', js', e1, ⟨H.hbd, H.hcc, H.ho, e2, e4.2.2.1.trans H.dd, hm', (k8_sstore H.ss.logw e1).readC hc H.nc H.rc, hepw_open hc H.hcc H.hbd e2 (e4.2.2.1.trans H.dd) e3 hx H.hw.t1 H.hw.tl H.hw.tp, e4.1.trans H.ff, e4.2.1.trans H.ft, H.ule⟩, fun x hx => ?_, ?_, ?_, e6⟩
  · rcases e5 with e5 | ⟨e5, _⟩ <;> rw [e5]
    · exact hx
    · exact List.mem_append_left _ hx
  · rcases e5 with e5 | ⟨e5, _⟩ <;> rw [e5] <;> simp
  · rcases e5 with e5 | ⟨_, e5⟩
    · exact .inr e5
    · exact .inl (by simpa using e5)
theorem HO.alloc (hc : CfgW c) (H : HO kp c N bd old js h s a u u0 L) (hx : h.X = none) {w r : Int} (hw : 0 ≤ r ∧ r ≤ w ∧ w ≤ 64) (hroom : ¬ c.space - u < w + 1) (hr : (c.active + 1).toNat ∈ js ∨ (js.length : Int) < c.log) (hl : h.T.last + 1 ≤ 1000000000) (htl : h.T.at_.length + 1 ≤ 800000) :
    ∃ h' s' js', h.alloc s w r = .ok (((h.T.take (c.frm a + u)).1, 0), h') s' ∧ HO kp c N bd old js' h' s' a (u + (w + 1)) u0 (L ++ [c.frm a + u]) ∧ h'.X = none ∧ h'.T = (h.T.take (c.frm a + u)).2 ∧ (∀ x ∈ js, x ∈ js') ∧ js'.length ≤ js.length + 1 ∧
      ∀ j, c.active ≤ j → s'.load j = if c.frm a + u ≤ j ∧ j < c.frm a + u + (w + 1) then (if j = c.frm a + u then packI w r else 0) else if j = c.active + 1 then u + (w + 1) else s.load j := by
  have hu0 := H.hm.u0
  have hf := frmA hc H.hm.a01
  have hr1' := hc.r1
  have hle := H.ule
  obtain ⟨S', s', js', e1, e2, e3, e4, e5, e5', e6, e7⟩ := in_alloc hc H.ss H.uu H.hm hw hroom (by rw [H.ff]; omega) H.ft (by rw [H.ff]; omega) hr
  have hT := take_w (T := h.T) (k := c.frm a + u) ⟨H.hw.t1.1, hl⟩ htl H.hw.tp (by omega)
  refine ⟨{ h with S := S', T := (h.T.take (c.frm a + u)).2 }, s', js', ?_, ⟨H.hbd, H.hcc, H.ho, e2, e4.2.2.1.trans H.dd, e6, (k8_alloc H.ss.logw e1).readC hc H.nc H.rc, hepw_open hc H.hcc H.hbd e2 (e4.2.2.1.trans H.dd) e3 hx hT.1 hT.2.1 hT.2.2, e4.1.trans H.ff, e4.2.1.trans H.ft, by omega⟩, hx, rfl, e5', e5, e7⟩
  unfold HpS.alloc
  rw [if_pos H.ho, H.hcc, e1]
  simp only [then_ok]
  rw [if_neg (by simp)]
theorem HO.noroom (H : HO kp c N bd old js h s a u u0 L) {w r : Int} (hw : 0 ≤ r ∧ r ≤ w ∧ w ≤ 64) (hroom : c.space - u < w + 1) : h.alloc s w r = .ok ((0, 4), h) s := by
  obtain rfl := H.hcc
  unfold HpS.alloc allocM
  rw [if_pos H.ho, if_neg (by unfold chkH; rw [if_pos (by omega)]; decide), H.hm.block, if_neg (by simp)]
  simp only
  rw [if_pos hroom]
  simp only [then_ok]
  rw [if_pos (by decide)]
theorem HO.obj (hc : CfgW c) (H : HO kp c N bd old js h s a u u0 L) {n k : Int} (hn : mget h.T.at_ n = some k) (hk : k ∈ L) : h.obj s n = ((osz s.load k - 1, orf s.load k, k), 0) := by
  unfold HpS.obj
  rw [hn, if_pos (show (some k).isSome = true from rfl), H.blk, H.hcc]
  show s.objOf c _ k = _
  exact (heap_of hc H.hm.bw H.hm.heap hk).1
theorem HC.obj (hc : CfgW c) (H : HC kp c N bd h s a u L) {n k : Int} (hn : mget h.T.at_ n = some k) (hk : k ∈ L) : h.obj s n = ((osz s.load k - 1, orf s.load k, k), 0) := by
  unfold HpS.obj
  rw [hn, if_pos (show (some k).isSome = true from rfl), H.blk, H.hcc]
  show s.objOf c _ k = _
  exact (heap_of hc H.hm.bw H.hm.heap hk).1
theorem HpS.plc_of {n k : Int} (hn : mget h.T.at_ n = some k) : h.plc n = (k, 0) := by
  unfold HpS.plc
  rw [hn, if_pos (.inl (show (some k).isSome = true from rfl))]; rfl
theorem HO.write (hc : CfgW c) (H : HO kp c N bd old js h s a u u0 L) (hx : h.X = none) {n k i v : Int} (hn : mget h.T.at_ n = some k) (hk : k ∈ L) (hi : orf s.load k ≤ i ∧ i + 1 < osz s.load k) (hv : 0 ≤ v ∧ v < 18446744073709551616) (hr : (h.S.ff ≤ k + 1 + i ∧ k + 1 + i < h.S.ft) ∨ (k + 1 + i).toNat ∈ js ∨ (js.length : Int) < c.log) :
    ∃ h' s' js', h.write s n i v = .ok (0, h') s' ∧ HO kp c N bd old js' h' s' a u u0 L ∧ h'.X = none ∧ h'.T = h.T ∧ (∀ x ∈ js, x ∈ js') ∧ js'.length ≤ js.length + 1 ∧ (¬ (h.S.ff ≤ k + 1 + i ∧ k + 1 + i < h.S.ft) ∨ js' = js) ∧ ∀ j : Int, c.active ≤ j → s'.load j = if j = k + 1 + i then v else s.load j := by
  have hz := osz_b s.load k
  have hf := frmA hc H.hm.a01
  have hr1' := hc.r1
  have ht := H.hm.tile.mem hk
  have hu0 := H.hm.u0
  have hN := H.ss.hN
  obtain ⟨S', s', js', e1, e2, e3, e4, e5, e6⟩ := H.put hc hx (i := k + 1 + i) hv (by omega) (.inl ⟨k, hk, i, hi.1, hi.2, rfl⟩) hr
  refine ⟨_, s', js', ?_, e2, hx, rfl, e3, e4, e5, e6⟩
  have ho : objField (osz s.load k - 1, orf s.load k, k) i false = (k + 1 + i, 0) := by
    unfold objField
    rw [if_neg (by simp only; omega), if_neg (by simp; omega)]
  unfold HpS.write
  rw [if_pos H.ho, H.obj hc hn hk, if_neg (by simp)]
  unfold setM
  simp only
  rw [ho, if_neg (by simp), show secOp (k + 1 + i) v s h.S = .ok (0, S') s' from e1]
  rfl
theorem HO.setRoot (hc : CfgW c) (H : HO kp c N bd old js h s a u u0 L) (hx : h.X = none) {i : Nat} {m p : Int} (hi : (i : Int) < c.roots) (hm : h.plc m = (p, 0)) (hp : p = 0 ∨ p ∈ L) (hr : (c.root i).toNat ∈ js ∨ (js.length : Int) < c.log) :
    ∃ h' s' js', h.setRoot s i m = .ok (0, h') s' ∧ HO kp c N bd old js' h' s' a u u0 L ∧ h'.X = none ∧ h'.T = h.T ∧ (∀ x ∈ js, x ∈ js') ∧ js'.length ≤ js.length + 1 ∧ ∀ j : Int, c.active ≤ j → s'.load j = if j = c.root i then p else s.load j := by
  have hf := frmA hc H.hm.a01
  have hr1' := hc.r1
  have hu0 := H.hm.u0
  have hN := H.ss.hN
  have hr1 := hc.r1
  have hpb : 0 ≤ p ∧ p < 18446744073709551616 := by
    rcases hp with rfl | hp
    · decide
    · have := H.hm.tile.mem hp; have := osz_b s.load p; omega
  have hri : c.active + 2 ≤ c.root i ∧ c.root i < c.active + 2 + c.roots := by simp only [Cfg.root]; omega
  obtain ⟨S', s', js', e1, e2, e3, e4, e5, e6⟩ := H.put hc hx (i := c.root i) hpb (by have := hc.s1; omega) (.inr ⟨hp, .inr ⟨i, hi, rfl⟩⟩) (.inr hr)
  refine ⟨_, s', js', ?_, e2, hx, rfl, e3, e4, e6⟩
  unfold HpS.setRoot
  rw [if_pos H.ho, H.hcc, if_neg (by omega), hm, if_neg (by simp)]
  simp only
  rw [e1]
  rfl
theorem HO.commit (hc : CfgW c) (H : HO kp c N bd old js h s a u u0 L) (hx : h.X = none) :
    ∃ h' s', h.commit s = .ok (0, h') s' ∧ HC kp c N bd h' s' a u L ∧ h'.X = none ∧ h'.T = h.T ∧ (kp → Calm s') ∧ ∀ j : Int, c.active ≤ j → s'.load j = s.load j := by
  have hA := act_w hc
  have hN := H.ss.hN
  obtain ⟨s', e1, e2, e3, e4, e5, e6⟩ := in_commit H.ss hc
  have hk := shut_w H.ss.logw
  have hck := commit_k H.ss.logw e1
  have hu' := hck.1 H.uu
  have hld : ∀ j : Int, c.active ≤ j → s'.load j = s.load j := fun j hj => by
    unfold Dev.load Dev.has
    rw [e3, H.ss.n]
    split
    · rw [e4, shutNow_at (by omega)]
    · rfl
  have h8 : K8 s s' := ⟨by rw [e3, H.ss.n], fun x hx => by rw [e4, shutNow_at (by omega)]⟩
  have hsk : SK c N bd { h.S with L := h.S.L.shut } s' := ⟨e2, hu', e3, hN, hk.2.2.1.trans H.ss.hc, hk.1, hk.2.1, hk.2.2.2.trans H.dd, e6⟩
  refine ⟨{ h with o := false, S := { h.S with L := h.S.L.shut } }, s', ?_, ⟨H.hbd, H.hcc, rfl, hsk, H.hm.congr hc hld, h8.readC hc H.nc H.rc, ⟨H.hw.c, ⟨hsk.lw, by rw [e3]; omega, by rw [H.hbd]; exact hsk.ld, by rw [H.hcc]; exact hsk.lc⟩, fun x => (by cases x), hu', H.hw.t1, H.hw.tl, H.hw.tp, fun X hX => by rw [show h.X = some X from hX] at hx; cases hx⟩, fun hp => (e5 hp).kept⟩, hx, rfl, e5, hld⟩
  unfold HpS.commit
  rw [if_pos H.ho, e1]
  rfl
end
theorem HC.crash {c : Cfg} (hc : CfgW c) {N bd : Nat} {h : HpS} {s : Dev} {a u : Int} {L : List Int} (H : HC True c N bd h s a u L) (ch : Nat → Int) : OkD c N (s.crash ch) h.S.L.epoch a u L ∧ HC True c N bd (heapOf bd c (s.crash ch)) (s.crash ch) a u L ∧ (s.crash ch).load = s.load := by
  obtain ⟨e1, e2⟩ := crash_calm (s := s) ⟨H.hkp trivial, H.sk.still.q⟩ ch
  have hld := load_of_now e2 e1
  have h1 := H.okd hc
  have ho : OkD c N (s.crash ch) h.S.L.epoch a u L := ⟨e2.trans h1.n, h1.hN, fun x => by rw [e1]; exact h1.uu x, (K8.mk e2 fun x _ => by rw [e1]).readC hc (by rw [h1.n]; exact h1.hN) h1.rc, fun d => by rw [openL_cong hld]; exact h1.lg d, by rw [hld]; exact h1.hm⟩
  refine ⟨ho, hc_open hc ho ⟨H.sk.still.lim, rfl⟩ ⟨H.sk.lw.e1, H.sk.lw.e2⟩ ⟨by rw [e1]; exact H.sk.sh.1, by rw [e1]; exact H.sk.sh.2⟩ bd fun _ => rfl, hld⟩
end Go.Proofs.YtlcibdhmgclfjaaGreat
namespace Go.Proofs.YtlcibdhmgclfjaaGreat
open Go
theorem opened_ok (B : World) (Fr : List HP) (x0 x1 x2 : Int) (hx : 0 ≤ x0 ∧ 0 ≤ x1 ∧ 0 ≤ x2) (c : Cfg) (hcm : c = mkC x0 x1 x2) :
    ∀ w, Holds B Fr w → Calls Tryz.prog 10 [.agg #[u16 x0, u16 x1, u16 x2], .slice none 0 0].toArray w (Ret B (fun rv H' => ∃ (bd bh bm br N : Nat) (s : Dev), (N : Int) = c.words ∧ HC True c N bd (heapOf bd c s) s 0 0 [] ∧ rv = .tuple #[ptr bd, ptr bh, ptr bm] ∧ H' = HepA bh (heapOf bd c s) :: DevA bd s :: mdlRow bm br c.roots.toNat c :: nilRow br c.roots.toNat :: Fr) (fun _ _ => False)) := by
  refine fn_enter Tryz.func10 rfl Tryz.ntmps10 rfl ?_
  have hc : CfgW c := by rw [hcm]; exact mkC_w hx.1 hx.2.1 hx.2.2
  have hA := act_w hc
  have hr1 := hc.r1
  refine g_seq (g_region (p_chg rfl (ch_boxA rfl) .free rfl rfl ?_))
  rintro _ _ ⟨b2, rfl, rfl⟩
  refine kPa rfl rfl (kPa rfl rfl (kPa rfl rfl (p_nil (g_seq (g_region (kPv (ev_loadA Tryz.isAgg24 Tryz.sizeOf24 rfl rfl) rfl ?_))))))
  refine p_callq rfl (en_f Tryz.call48 rfl) (make_ok _ _ x0 x1 x2 hx.1 hx.2.1 hx.2.2) .free rfl rfl ?_
  refine p_chg rfl (ch_allocA Tryz.zeroValue40 rfl) .free rfl rfl ?_
  rintro _ _ ⟨b7, rfl, rfl⟩
  refine p_chg0 rfl (ch_storeA (vs := _) Tryz.sizeOf40 rfl rfl rfl rfl rfl) .free rfl ?_
  rintro _ _ rfl
  refine p_nil (g_seq ?_)
  rw [← hcm]
  refine g_region (kPv (ev_loadA Tryz.isAgg40 Tryz.sizeOf40 rfl rfl) rfl ?_)
  refine kPm rfl rfl ?_
  refine p_call rfl (en_f Tryz.call49 rfl) (formatted_ok _ _ c hc none 0 [] (by decide) (fun _ h => absurd h (Nat.not_lt_zero _)) SlR.nil) .free rfl rfl ?_ ?_
  rotate_left
  · rintro _ _ ⟨⟩
  rintro _ _ ⟨bd, pa, N, s0, hN, hf, rfl, rfl⟩
  have hfm := fmt_of hc hN hf
  have hu0 := format_u64 (dev0_u64 pa N) hc hf
  have hOk := hfm.okd hc hN hu0
  have hHC := hfm.hc hc hN hu0 bd
  have hsn := hfm.n
  refine kPm rfl rfl (kPv (ev_ext rfl rfl) rfl (kPv (ev_ext rfl rfl) rfl (kPa rfl rfl (kPa rfl rfl (p_nil (go_sb [9, 8, 7, 6, 5, 4] rfl (g_seq (g_seq (g_region (kPm rfl rfl (kPv (ev_not rfl) rfl ?_)))))))))))
  refine p_nil (g_iff rfl (rfl) (g_skip (g_seq (g_region (kPm rfl rfl ?_)))))
  refine p_call rfl (en_f Tryz.call19 rfl) (hpopen_ok B _ bd s0 hu0 (by omega)) .free rfl rfl ?_ ?_
  rotate_left
  · rintro _ _ ⟨s9, hE, hun, rfl, rfl⟩
    exact (hOk.noff hun).elim
  rintro _ _ hor
  rcases hor with ⟨e, he, hE, _, _⟩ | ⟨bh, L', s', hE, hun, rfl, rfl⟩
  · exact absurd (hOk.open_ hc hE) he
  obtain rfl := hOk.undo hun
  rw [show s'.readC.1 = c by rw [hOk.rc]]
  refine kPm rfl rfl (kPv (ev_ext rfl rfl) rfl (kPv (ev_ext rfl rfl) rfl (kPa rfl rfl (kPa rfl rfl (p_nil (go_sb [11, 10, 8, 7, 6, 5, 4] rfl (g_seq (g_seq (g_region (kPm rfl rfl (kPv (ev_cmp rfl rfl rfl) rfl ?_)))))))))))
  refine kPm rfl rfl ?_
  apply p_or (tp := 32) (t := 29) (σ1 := [(29, _), (10, _), (8, _), (7, _), (6, _), (5, _), (4, _)]) 3 rfl (sub_r rfl)
  · intro hg1
    refine p_val rfl (ev_move rfl) (.on rfl rfl (beq_eq hg1)) rfl rfl (p_val rfl (ev_eqp Tryz.runUnderlying29 rfl rfl rfl) (.on rfl rfl (beq_eq hg1)) rfl rfl (kPv (ev_pick_f rfl hg1 rfl) rfl ?_))
    exact p_seg rfl (sub_r rfl) (or_f hg1)
  · intro hg1
    refine p_skip rfl (.on rfl rfl (beq_ne hg1)) rfl (p_skip rfl (.on rfl rfl (beq_ne hg1)) rfl (kPv (ev_pick_t rfl hg1 rfl) rfl ?_))
    exact p_seg rfl (sub_r rfl) (or_t hg1)
  refine p_nil (g_iff rfl (rfl) (g_skip (g_seq (g_region (kPm rfl rfl (kPm rfl rfl (kPv (ev_loadA Tryz.isAgg40 Tryz.sizeOf40 rfl rfl) rfl ?_)))))))
  refine p_call rfl (en_f Tryz.call50 rfl) (mnew_ok B _ c hc c.roots.toNat (by omega)) .free rfl rfl ?_ ?_
  rotate_left
  · rintro _ _ ⟨⟩
  rintro _ _ ⟨bm, br, rfl, rfl⟩
  refine kPa rfl rfl (kPa rfl rfl (kPa rfl rfl (p_nil (go_sb [6, 5, 4] rfl (g_ret ?_)))))
  exact ret_3 Tryz.results10 (.tmp rfl) (.tmp rfl) (.tmp rfl) (fun w hw => ⟨_, ⟨bd, bh, bm, br, N, _, hN, hHC, rfl, rfl⟩, ((hw.dp [4, 4]).pk [2, 2])⟩)
end Go.Proofs.YtlcibdhmgclfjaaGreat
namespace Go.Proofs.YtlcibdhmgclfjaaGreat
open Go
theorem calls_out {B : World} {P : Program} {f : FuncId} {vs : Array Value} {bh bd : Nat} {Fr : List HP} {α : Type} {m : Out (α × HpS)} {enc : α → Value} {a : α} {h' : HpS} {s' : Dev} (e : m = .ok (a, h') s') {w : World} (h : Calls P f vs w (Ret B (fun rv H' => ∃ a h' s', m = .ok (a, h') s' ∧ rv = enc a ∧ H' = HepA bh h' :: DevA bd s' :: Fr) (fun ch H' => ∃ s', m = .off s' ∧ ch = offc ∧ H' = DevA bd s' :: Fr))) :
    Calls P f vs w (Ret B (fun rv H' => rv = enc a ∧ H' = HepA bh h' :: DevA bd s' :: Fr) (fun _ _ => False)) :=
  h.mono (Ret.mono (fun rv H' ⟨a1, h1, s1, e1, e2, e3⟩ => by rw [e] at e1; cases e1; exact ⟨e2, e3⟩) (fun ch H' ⟨s1, e1, _⟩ => by rw [e] at e1; cases e1))
theorem begin_x {h h' : HpS} {s s' : Dev} {room : Int} (ho : h.o = false) (hb : h.begR s room 0 h' s') : h'.X = none := by
  rcases hb with ⟨h1, _⟩ | ⟨_, _, h1, _⟩ | ⟨_, _, a1, h1, s1, hor, hor2⟩
  · rw [ho] at h1; cases h1
  · cases h1
  rcases hor2 with ⟨h3, h4, _⟩ | ⟨_, _, h4, _⟩ | ⟨rfl, _, _, rfl, _⟩
  · exact absurd h4.symm h3
  · cases h4
  · rcases hor with ⟨_, h2⟩ | ⟨_, _, rfl, _⟩
    · rcases h2 with ⟨h5, _⟩ | ⟨_, X, s2, _, S', _, hor3⟩
      · rw [show h.o = true from h5] at ho; cases ho
      · rcases hor3 with ⟨_, rfl⟩ | ⟨_, ord, _, rfl⟩ <;> rfl
    · rfl
section
variable {B : World} {Fr : List HP} {bh bd : Nat} {h h' : HpS} {s s' : Dev}
theorem writeW (hW : HepW h s) (hb : h.bd = bd) {n i v x : Int} (hv : 0 ≤ v ∧ v < 18446744073709551616) (e : h.write s n i v = .ok (x, h') s') : ∀ w, Holds B (HepA bh h :: DevA bd s :: Fr) w → Calls Tryz.prog 14 [ptr bh, i64 n, i64 i, w64 v].toArray w (Ret B (fun rv H' => rv = i64 x ∧ H' = HepA bh h' :: DevA bd s' :: Fr) (fun _ _ => False)) := by
  subst hb; exact fun w hw => calls_out e (hwrite_ok B Fr bh h s hW n i v hv w hw)
theorem setW (hW : HepW h s) (hb : h.bd = bd) {i t x : Int} (e : h.setRoot s i t = .ok (x, h') s') : ∀ w, Holds B (HepA bh h :: DevA bd s :: Fr) w → Calls Tryz.prog 13 [ptr bh, i64 i, i64 t].toArray w (Ret B (fun rv H' => rv = i64 x ∧ H' = HepA bh h' :: DevA bd s' :: Fr) (fun _ _ => False)) := by
  subst hb; exact fun w hw => calls_out e (hset_ok B Fr bh h s hW i t w hw)
theorem commitW (hW : HepW h s) (hb : h.bd = bd) {x : Int} (e : h.commit s = .ok (x, h') s') : ∀ w, Holds B (HepA bh h :: DevA bd s :: Fr) w → Calls Tryz.prog 15 [ptr bh].toArray w (Ret B (fun rv H' => rv = i64 x ∧ H' = HepA bh h' :: DevA bd s' :: Fr) (fun _ _ => False)) := by
  subst hb; exact fun w hw => calls_out e (hcommit_ok B Fr bh h s hW  w hw)
theorem allocW (hW : HepW h s) (hb : h.bd = bd) {w_ r at_ x : Int} (e : h.alloc s w_ r = .ok ((at_, x), h') s') : ∀ w, Holds B (HepA bh h :: DevA bd s :: Fr) w → Calls Tryz.prog 12 [ptr bh, .agg #[i64 w_, i64 r]].toArray w (Ret B (fun rv H' => rv = .tuple #[i64 at_, i64 x] ∧ H' = HepA bh h' :: DevA bd s' :: Fr) (fun _ _ => False)) := by
  subst hb; exact fun w hw => calls_out (enc := fun a : Int × Int => .tuple #[i64 a.1, i64 a.2]) e (hpalloc_ok B Fr bh h s hW w_ r w hw)
theorem statsW (hW : HepW h s) (hb : h.bd = bd) : ∀ w, Holds B (HepA bh h :: DevA bd s :: Fr) w → Calls Tryz.prog 22 [ptr bh].toArray w (PureR B (HepA bh h :: DevA bd s :: Fr) (statV (h.stats s))) := by
  subst hb; exact hstats_ok B Fr bh h s hW
theorem readW_ (hW : HepW h s) (hb : h.bd = bd) (n i : Int) : ∀ w, Holds B (HepA bh h :: DevA bd s :: Fr) w → Calls Tryz.prog 21 [ptr bh, i64 n, i64 i].toArray w (PureR B (HepA bh h :: DevA bd s :: Fr) (.tuple #[w64 (h.read s n i).1, i64 (h.read s n i).2])) := by
  subst hb; exact hread_ok B Fr bh h s hW n i
theorem rootW (hW : HepW h s) (hb : h.bd = bd) (i : Int) : ∀ w, Holds B (HepA bh h :: DevA bd s :: Fr) w → Calls Tryz.prog 20 [ptr bh, i64 i].toArray w (Ret B (fun rv H' => rv = .tuple #[i64 (h.root s i).1.1, i64 (h.root s i).1.2] ∧ H' = HepA bh (h.root s i).2 :: DevA bd s :: Fr) (fun _ _ => False)) := by
  subst hb; exact hroot_ok B Fr bh h s hW i
theorem beginW {kp : Prop} {c : Cfg} (hc : CfgW c) {N : Nat} {a u : Int} {L : List Int} (H : HC kp c N bd h s a u L) {room : Int} (h0 : 0 ≤ room) (hr : ¬ c.space - u < room) : ∀ w, Holds B (HepA bh h :: DevA bd s :: Fr) w → Calls Tryz.prog 11 [ptr bh, i64 room].toArray w (Ret B (fun rv H' => ∃ h', h'.X = none ∧ h'.T = h.T ∧ HO kp c N bd s.now [] h' s a u u L ∧ rv = i64 0 ∧ H' = HepA bh h' :: DevA bd s :: Fr) (fun _ _ => False)) := by
  have hb := H.hbd
  subst hb
  refine fun w hw => (hbegin_ok B Fr bh h s H.hw H.bok room w hw).mono (Ret.mono ?_ ?_)
  · rintro rv H' ⟨x, h', s', hb, rfl, rfl⟩
    obtain ⟨rfl, rfl, hT, HO'⟩ := H.begin hc h0 hr hb
    have hx : h'.X = none := begin_x H.ho hb
    exact ⟨h', hx, hT, HO', rfl, rfl⟩
  · rintro ch H' ⟨s', ⟨_, h1, _⟩, _⟩
    rw [H.blk, H.hcc] at h1
    exact absurd h1 hr
end
end Go.Proofs.YtlcibdhmgclfjaaGreat
namespace Go.Proofs.YtlcibdhmgclfjaaGreat
open Go
theorem seeN {s : Dev} {c : Cfg} {b : Blk} (h0 : b.has c 0 = false) : ∀ (ws : List Int) (x : SeenS), (∀ v ∈ ws, v = 0) → ws.foldl (s.see c b) x = x
  | [], _, _ => rfl
  | v :: t, x, h => by
    have hv := h v (List.mem_cons_self ..)
    subst hv
    simp only [List.foldl_cons]
    rw [show s.see c b x 0 = x from by unfold Dev.see; rw [if_pos (.inr h0)]]
    exact seeN h0 t x fun v hv => h v (List.mem_cons_of_mem _ hv)
theorem reach_nought {s : Dev} {c : Cfg} (hc : CfgW c) {b : Blk} (hb : BlkW c b) {ws : List Int} (h : ∀ v ∈ ws, v = 0) : s.reachSize c b ws = 0 := by
  have h1 := hb.act
  have h4 := frm_b hc (k := b.act) (by omega)
  have h0 : b.has c 0 = false := by unfold Blk.has; simp; omega
  unfold Dev.reachSize Dev.reach
  rw [seeN h0 ws _ h]
  unfold Dev.reachL
  rfl
theorem hc_stats0 {kp : Prop} {c : Cfg} (hc : CfgW c) {N bd : Nat} {h : HpS} {s : Dev} {a : Int} (H : HC kp c N bd h s a 0 []) (hT : h.T.at_ = []) : h.stats s = ⟨0, 0, 0, 0, false⟩ := by
  have hz : ∀ v ∈ h.words ++ (h.blk s).rts, v = 0 := fun v hv => by
    rcases List.mem_append.1 hv with hv | hv
    · unfold HpS.words at hv
      rw [hT] at hv
      simp [sortI] at hv
    · rw [H.blk] at hv
      exact (H.hm.heap.roots v hv).resolve_right fun h => by cases h
  unfold HpS.stats
  rw [hT, H.sk.ln, H.ho, reach_nought H.hw.c (block_w H.hw.c H.hw.u) hz, H.blk]
  rfl
theorem isW {B : World} {Fr : List HP} {bm br n bh bd : Nat} {c : Cfg} {h : HpS} {s : Dev} (hn : n ≤ 1000) (hW : HepW h s) (hb : h.bd = bd) (hst : h.stats s = ⟨0, 0, 0, 0, false⟩) (hck : s.check h.c = 0) : ∀ w, Holds B (HepA bh h :: DevA bd s :: mdlRow bm br n c :: nilRow br n :: Fr) w → Calls Tryz.prog 47 [ptr bm, ptr bh].toArray w (PureR B (HepA bh h :: DevA bd s :: mdlRow bm br n c :: nilRow br n :: Fr) (.bool true)) := by
  subst hb; exact mis0_ok B Fr bm br n c hn bh h s hW hst hck
theorem HC.check {kp : Prop} {c : Cfg} (hc : CfgW c) {N bd : Nat} {h : HpS} {s : Dev} {a u : Int} {L : List Int} (H : HC kp c N bd h s a u L) : s.check h.c = 0 := by
  rw [H.hcc]; exact heap_check hc H.hw.u H.hm.block H.hm.heap
theorem take_first {p : Int} (hp : p ≠ 0) : (⟨[], [], 0⟩ : TabS).take p = (1, ⟨[(1, p)], [(p, 1)], 1⟩) := by
  unfold TabS.take
  rw [if_neg hp, if_neg (by simp [mget])]
  rfl
theorem new_obj {m : Int → Int} {k w r : Int} (h : 0 ≤ r ∧ r ≤ w ∧ w ≤ 64) (e : m k = packI w r) : orf m k = r ∧ osz m k = w + 1 := by
  unfold orf osz
  rw [e, unp_pack h]; exact ⟨rfl, rfl⟩
theorem awake17_ok (B : World) (Fr : List HP) :
    ∀ w, Holds B Fr w → Calls Tryz.prog 9 [].toArray w (PureR B Fr (.bool true)) := by
  refine fn_enter Tryz.func9 rfl Tryz.ntmps9 rfl ?_
  obtain ⟨c, hcm, hcs, hcl, hcr⟩ : ∃ c, c = mkC 0 0 40 ∧ c.space = 48 ∧ c.log = 3 ∧ c.roots = 1 := ⟨_, rfl, rfl, rfl, rfl⟩
  have hc : CfgW c := by rw [hcm]; exact mkC_w (by decide) (by decide) (by decide)
  have hA := act_w hc
  have hf0 := frmA hc (a := 0) (by decide)
  refine g_seq (g_region (kPa rfl rfl (p_nil (g_seq (g_seq (g_region (p_callq rfl (en_f Tryz.call46 rfl) (awake16_ok _ _) .free rfl rfl ?_)))))))
  refine kPv (ev_not rfl) rfl (p_nil (g_iff rfl (rfl) (g_skip (g_seq (g_region (kPv (ev_build rfl (bld_24_2 _ rfl)) rfl ?_))))))
  refine p_call rfl (en_f Tryz.call10 rfl) (opened_ok B _ 0 0 40 (by decide) c hcm) .free rfl rfl ?_ ?_
  rotate_left
  · rintro _ _ ⟨⟩
  rintro _ _ ⟨bd, bh, bm, br, N, s, hN, H0, rfl, rfl⟩
  obtain ⟨h0, hh0⟩ : ∃ h0 : HpS, h0 = heapOf bd c s := ⟨_, rfl⟩
  rw [← hh0] at H0 ⊢
  have hT0 : h0.T = ⟨[], [], 0⟩ := by rw [hh0]; rfl
  refine kPm rfl rfl (kPv (ev_ext rfl rfl) rfl (kPv (ev_ext rfl rfl) rfl (kPv (ev_ext rfl rfl) rfl (kPa rfl rfl (kPa rfl rfl (kPa rfl rfl (p_nil (go_sb [3, 2, 0] rfl (g_seq (g_seq (g_region ?_)))))))))))
  refine kPm rfl rfl (kPv (ev_eqp Tryz.runUnderlying29 rfl rfl rfl) rfl (kPm rfl rfl (p_val rfl (ev_move rfl) (.on rfl rfl (beq_eq rfl)) rfl rfl (p_val rfl (ev_move rfl) (.on rfl rfl (beq_eq rfl)) rfl rfl (p_callq rfl (en_f Tryz.call47 rfl) (isW (by omega) H0.hw H0.hbd (hc_stats0 hc H0 (by rw [hT0])) (H0.check hc)) (.on rfl rfl (beq_eq rfl)) rfl rfl ?_)))))
  refine p_val rfl (ev_not rfl) (.on rfl rfl (beq_eq rfl)) rfl rfl (kPv (ev_pick_f rfl rfl rfl) rfl (p_nil (go_sb [22, 2, 0] rfl (g_iff rfl (rfl) (g_skip (g_seq (g_region (kPm rfl rfl ?_))))))))
  refine p_call rfl (en_f Tryz.call11 rfl) (beginW hc H0 (by decide) (by omega)) .free rfl rfl ?_ ?_
  rotate_left
  · rintro _ _ ⟨⟩
  rintro _ _ ⟨h1, hx1, hT1, H1, rfl, rfl⟩
  have hk1 : h1.T.take (c.frm 0 + 0) = (1, ⟨[(1, c.frm 0 + 0)], [(c.frm 0 + 0, 1)], 1⟩) := by rw [hT1, hT0]; exact take_first (by omega)
  obtain ⟨h2, s2, js2, e2, H2, hx2, hT2, _, hjl2, hl2⟩ := H1.alloc hc hx1 (w := 2) (r := 1) ⟨by decide, by decide, by decide⟩ (by omega) (.inr (by simp; omega)) (by rw [hT1, hT0]; decide) (by rw [hT1, hT0]; decide)
  rw [hk1] at e2 hT2
  have hk2 := new_obj (m := s2.load) (k := c.frm 0 + 0) (w := 2) (r := 1) ⟨by decide, by decide, by decide⟩ (by rw [hl2 _ (by omega), if_pos (by omega), if_pos rfl])
  obtain ⟨h3, s3, js3, e3, H3, hx3, hT3, _⟩ := H2.write hc hx2 (n := 1) (k := c.frm 0 + 0) (i := 1) (v := 7) (by rw [hT2]; rfl) (by simp) (by omega) (by decide) (.inl (by rw [H2.ff, H2.ft]; omega))
  obtain ⟨h4, s4, e4, H4, hx4, hT4, _⟩ := H3.commit hc hx3
  have hu4 : (h4.stats s4).used = 3 := by
    show (h4.blk s4).used = 3
    rw [H4.blk]; rfl
  refine kPa rfl rfl (p_nil (g_seq (g_region (kPm rfl rfl (kPv (ev_build rfl (bld_38_0_1 _ _ rfl rfl)) rfl ?_)))))
  refine p_call rfl (en_f Tryz.call12 rfl) (allocW H1.hw H1.hbd e2) .free rfl rfl ?_ ?_
  rotate_left
  · rintro _ _ ⟨⟩
  rintro _ _ ⟨rfl, rfl⟩
  refine kPm rfl rfl (kPv (ev_ext rfl rfl) rfl (kPv (ev_ext rfl rfl) rfl (kPa rfl rfl (kPa rfl rfl (p_nil (go_sb [6, 5, 4, 2, 0] rfl (g_seq (g_region (kPm rfl rfl (kPv (ev_cmp rfl rfl rfl) rfl (kPm rfl rfl ?_)))))))))))
  refine p_val rfl (ev_move rfl) (.on rfl rfl (beq_eq rfl)) rfl rfl (p_val rfl (ev_cmp rfl rfl rfl) (.on rfl rfl (beq_eq rfl)) rfl rfl (kPv (ev_pick_t rfl rfl rfl) rfl (kPm rfl rfl (p_val rfl (ev_move rfl) (.on rfl rfl (beq_eq rfl)) rfl rfl (p_val rfl (ev_cmp rfl rfl rfl) (.on rfl rfl (beq_eq rfl)) rfl rfl (kPv (ev_pick_t rfl rfl rfl) rfl (kPm rfl rfl (p_val rfl (ev_move rfl) (.on rfl rfl (beq_eq rfl)) rfl rfl ?_))))))))
  refine p_call rfl (en_f Tryz.call14 rfl) (writeW H2.hw H2.hbd (by decide) e3) (.on rfl rfl (beq_eq rfl)) rfl rfl ?_ ?_
  rotate_left
  · rintro _ _ ⟨⟩
  rintro _ _ ⟨rfl, rfl⟩
  refine p_val rfl (ev_cmp rfl rfl rfl) (.on rfl rfl (beq_eq rfl)) rfl rfl (kPv (ev_pick_t rfl rfl rfl) rfl (kPm rfl rfl (p_val rfl (ev_move rfl) (.on rfl rfl (beq_eq rfl)) rfl rfl ?_)))
  refine p_call rfl (en_f Tryz.call15 rfl) (commitW H3.hw H3.hbd e4) (.on rfl rfl (beq_eq rfl)) rfl rfl ?_ ?_
  rotate_left
  · rintro _ _ ⟨⟩
  rintro _ _ ⟨rfl, rfl⟩
  refine p_val rfl (ev_cmp rfl rfl rfl) (.on rfl rfl (beq_eq rfl)) rfl rfl (kPv (ev_pick_t rfl rfl rfl) rfl (kPm rfl rfl (p_val rfl (ev_move rfl) (.on rfl rfl (beq_eq rfl)) rfl rfl (p_callq rfl (en_f Tryz.call22 rfl) (statsW H4.hw H4.hbd) (.on rfl rfl (beq_eq rfl)) rfl rfl ?_))))
  refine p_val rfl (ev_field1 Tryz.runUnderlying58 (t := 3) (off := 0) rfl Tryz.isAgg3 rfl rfl) (.on rfl rfl (beq_eq rfl)) rfl rfl (p_val rfl (ev_cmp rfl rfl rfl) (.on rfl rfl (beq_eq rfl)) rfl rfl (kPv (ev_pick_t rfl rfl rfl) rfl (kPa rfl rfl (p_nil (go_sb [0] rfl (g_ret ?_))))))
  exact ret_tmp Tryz.results9 rfl (fun w hw => ⟨by simp [hu4], (hw.dp [0, 0, 0, 0])⟩)
end Go.Proofs.YtlcibdhmgclfjaaGreat
namespace Go.Proofs.YtlcibdhmgclfjaaGreat
open Go
def chc (bits : Int) (i : Nat) : Int := IntKind.u8.wrap (bitI .and .u64 (bits.fdiv (2 ^ min (2 * ((i : Int) % 32)).toNat IntKind.u64.bits)) 3)
theorem chc_pos (bits : Int) (i : Nat) : 0 ≤ chc bits i := by
  unfold chc
  simp only [IntKind.wrap, IntKind.bits, IntKind.signed]; simp; omega
theorem choice_ok (B : World) (H : List HP) (bits : Int) (i : Nat) (hi : i ≤ 1000000) :
    ∀ w, Holds B H w → Calls Tryz.prog 18 [w64 bits, i64 i].toArray w (PureR B H (.int .u8 (chc bits i))) := by
  refine fn_enter Tryz.func18 rfl Tryz.ntmps18 rfl (g_seq (g_region (kPa rfl rfl (p_nil (g_seq (g_region (kPm rfl rfl (kPm rfl rfl (kPv (ev_rem (c := (i : Int) % 32) rfl rfl (by decide) (rem_e 32 (by omega))) rfl ?_)))))))))
  first | refine p_val rfl (ev_mul rfl rfl (wr64 (by omega))) .free rfl rfl ?_ | refine p_val rfl (ev_mul rfl rfl rfl) .free rfl rfl ?_
  refine kPv (ev_shr rfl rfl (by omega) rfl) rfl (kPv (ev_and rfl rfl rfl) rfl ?_)
  first | refine p_val rfl (ev_conv Tryz.runUnderlying26 Tryz.runUnderlying5 rfl (wru8 (by omega))) .free rfl rfl ?_ | refine p_val rfl (ev_conv Tryz.runUnderlying26 Tryz.runUnderlying5 rfl rfl) .free rfl rfl ?_
  refine kPa rfl rfl (p_nil (go_sb [4] rfl (g_ret ?_)))
  exact ret_tmp Tryz.results18 rfl (fun w hw => ⟨rfl, hw⟩)
theorem ins_ers {α : Type} {x : α} : ∀ {l : List α} {i : Nat}, l[i]? = some x → (l.eraseIdx i).insertIdx i x = l
  | [], _, h => by simp at h
  | y :: l, 0, h => by simp at h; subst h; rfl
  | y :: l, i + 1, h => by
    have h1 : l[i]? = some x := by simpa using h
    show (y :: l.eraseIdx i).insertIdx (i + 1) x = y :: l
    rw [List.insertIdx_succ_cons, ins_ers h1]
theorem pure_front {B : World} {P : Program} {f : FuncId} {vs : Array Value} {v : Value} {H : List HP} {A : HP} (i : Nat) (e : H[i]? = some A) (h : ∀ w, Holds B (A :: H.eraseIdx i) w → Calls P f vs w (PureR B (A :: H.eraseIdx i) v)) : ∀ w, Holds B H w → Calls P f vs w (PureR B H v) :=
  fun w hw => (h w (hw.front i e)).mono fun _ _ ⟨h1, h2⟩ => ⟨h1, by
    have hi : i < H.length := (List.getElem?_eq_some_iff.1 e).1
    have h3 := h2.back i (by rw [List.length_eraseIdx]; split <;> omega)
    rwa [ins_ers e] at h3⟩
theorem hcomCh_ok (B : World) (H : List HP) (bb : Nat) (bits : Int) (i : Nat) (hi : i ≤ 1000000) :
    ∀ w, Holds B (row bb [w64 bits] 26 :: H) w → Calls Tryz.prog 17 [i64 i, ptr bb].toArray w (PureR B (row bb [w64 bits] 26 :: H) (.int .u8 (chc bits i))) := by
  refine fn_enter Tryz.func17 rfl Tryz.ntmps17 rfl (g_seq (g_region (kPa rfl rfl (p_nil (g_seq (g_region (kPv (ev_load Tryz.isAgg26 rfl rfl) rfl (kPm rfl rfl (p_callq rfl (en_f Tryz.call18 rfl) (choice_ok _ _ bits i hi) .free rfl rfl ?_)))))))))
  refine kPa rfl rfl (p_nil (g_ret ?_))
  exact ret_tmp Tryz.results17 rfl (fun w hw => ⟨rfl, hw⟩)
theorem hcomCh_c (B : World) (Fr : List HP) (j n bb : Nat) (bits : Int) (hn : n ≤ 1000000) (hj : Fr[j]? = some (row bb [w64 bits] 26)) : Chooses B Fr 17 [ptr bb] n (chc bits) where
  enter := Tryz.call17
  pos := chc_pos bits
  says := fun H hF i hi => by
    obtain ⟨l, rfl⟩ := hF.ex
    exact pure_front (l.length + j) (by rw [List.getElem?_append_right (by omega), Nat.add_sub_cancel_left]; exact hj) (hcomCh_ok B _ bb bits i (by omega))
end Go.Proofs.YtlcibdhmgclfjaaGreat
