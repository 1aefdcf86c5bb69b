/- Part of the texts beneath a law: what its proof names. Conditions: none. -/
import Derived.Test.YtlcibdhmgclfjaaGreatQL17Nn
set_option linter.unusedSimpArgs false
set_option linter.unusedVariables false
set_option linter.unnecessarySimpa false
set_option linter.unusedSectionVars false
namespace Go.Proofs.YtlcibdhmgclfjaaGreat
open Go
structure HM (c : Cfg) (m : Int → Int) (a u : Int) (L : List Int) : Prop where
  act : m c.active = a
  a01 : 0 ≤ a ∧ a ≤ 1
  used : m (c.active + 1) = u
  u0 : 0 ≤ u ∧ u ≤ c.space
  tile : Tile m (c.frm a) L (c.frm a + u)
  names : ∀ k ∈ L, ∀ i, 0 ≤ i → i < orf m k → m (k + 1 + i) = 0 ∨ m (k + 1 + i) ∈ L
  roots : ∀ i : Nat, (i : Int) < c.roots → m (c.root i) = 0 ∨ m (c.root i) ∈ L
abbrev blkM (c : Cfg) (m : Int → Int) (a u : Int) : Blk := ⟨a, u, tab c.roots.toNat fun i => m (c.root i)⟩
theorem HM.block {c : Cfg} {s : Dev} {a u : Int} {L : List Int} (h : HM c s.load a u L) : s.block c = (blkM c s.load a u, 0) := by
  have h1 := h.u0; have h2 := h.a01
  unfold Dev.block
  rw [h.act, h.used, if_neg (by omega)]
theorem HM.heap {c : Cfg} {m : Int → Int} {a u : Int} {L : List Int} (h : HM c m a u L) : HeapW c (blkM c m a u) m L := by
  refine ⟨by unfold Blk.place; simp only; rw [Int.add_zero]; exact h.tile, h.names, fun w hw => ?_⟩
  obtain ⟨i, hi, rfl⟩ := List.mem_map.1 (show w ∈ (List.range c.roots.toNat).map fun (i : Nat) => m (c.root i) from hw)
  have := List.mem_range.1 hi
  exact h.roots i (by omega)
theorem HM.bw {c : Cfg} {m : Int → Int} {a u : Int} {L : List Int} (h : HM c m a u L) : BlkW c (blkM c m a u) := ⟨h.a01, h.u0⟩
theorem hm_of {c : Cfg} {s : Dev} {b : Blk} {L : List Int} (hbw : BlkW c b) (hb : s.block c = (b, 0)) (h : HeapW c b s.load L) : HM c s.load b.act b.used L := by
  unfold Dev.block at hb
  split at hb
  · cases hb
  · rename_i hne
    cases hb
    refine ⟨rfl, hbw.act, rfl, hbw.used, ?_, h.names, fun i hi => h.roots _ ?_⟩
    · have h1 := h.tile
      unfold Blk.place at h1
      simp only [Int.add_zero] at h1
      exact h1
    · show s.load (c.root i) ∈ tab c.roots.toNat fun i => s.load (c.root i)
      exact List.mem_map.2 ⟨i, List.mem_range.2 (by omega), rfl⟩
theorem frmA {c : Cfg} (hc : CfgW c) {a : Int} (ha : 0 ≤ a ∧ a ≤ 1) : c.frm a + c.space ≤ c.words ∧ c.active + 2 + c.roots ≤ c.frm a ∧ 24 ≤ c.active ∧ c.frm a + c.space ≤ 20000 := by
  have h1 := frm_b hc (k := 0) (by omega)
  have h2 := frm_b hc (k := 1) (by omega)
  have h3 := hc.act; have h4 := hc.l1; have h5 := hc.r1; have h6 := hc.s1
  rcases (by omega : a = 0 ∨ a = 1) with rfl | rfl <;> omega
theorem HM.congr {c : Cfg} (hc : CfgW c) {m m' : Int → Int} {a u : Int} {L : List Int} (h : HM c m a u L) (e : ∀ j, c.active ≤ j → m' j = m j) : HM c m' a u L := by
  have hf := frmA hc h.a01
  have hr := hc.r1
  have e0 : ∀ k ∈ L, m' k = m k := fun k hk => e k (by have := h.tile.mem hk; omega)
  have eo : ∀ k ∈ L, orf m' k = orf m k := fun k hk => by unfold orf; rw [e0 k hk]
  refine ⟨by rw [e _ (Int.le_refl _)]; exact h.act, h.a01, by rw [e _ (by omega)]; exact h.used, h.u0, h.tile.congr e0, fun k hk i h1 h2 => ?_, fun i hi => ?_⟩
  · have := h.tile.mem hk
    rw [eo k hk] at h2
    rw [e _ (by omega)]; exact h.names k hk i h1 h2
  · rw [e _ (by simp only [Cfg.root]; omega)]; exact h.roots i hi
theorem HM.alloc {c : Cfg} (hc : CfgW c) {m m' : Int → Int} {a u : Int} {L : List Int} (h : HM c m a u L) {w r : Int} (hw : 0 ≤ r ∧ r ≤ w ∧ w ≤ 64) (hroom : ¬ c.space - u < w + 1)
    (hm : ∀ j, c.active ≤ j → m' j = if c.frm a + u ≤ j ∧ j < c.frm a + u + (w + 1) then (if j = c.frm a + u then packI w r else 0) else if j = c.active + 1 then u + (w + 1) else m j) : HM c m' a (u + (w + 1)) (L ++ [c.frm a + u]) := by
  have hf := frmA hc h.a01
  have hu := h.u0
  have hr1 := hc.r1
  have hold : ∀ k ∈ L, ∀ j, 0 ≤ j → j < osz m k → m' (k + j) = m (k + j) := fun k hk j h0 h1 => by
    have := h.tile.mem hk
    rw [hm _ (by omega), if_neg (by omega), if_neg (by omega)]
  have hold0 : ∀ k ∈ L, m' k = m k := fun k hk => by
    have := hold k hk 0 (Int.le_refl 0) (by have := osz_b m k; omega)
    simpa using this
  have hnew : m' (c.frm a + u) = packI w r := by rw [hm _ (by omega), if_pos (by omega), if_pos rfl]
  have hun : unp (m' (c.frm a + u)) = (w, r, true) := by rw [hnew]; exact unp_pack hw
  refine ⟨by rw [hm _ (Int.le_refl _), if_neg (by omega), if_neg (by omega)]; exact h.act, h.a01, by rw [hm _ (by omega), if_neg (by omega), if_pos rfl], by omega, ?_, fun k hk i h0 h1 => ?_, fun i hi => ?_⟩
  · have h1 := (h.tile.congr hold0).snoc (by rw [hun])
    have h2 : osz m' (c.frm a + u) = w + 1 := by unfold osz; rw [hun]
    rw [h2, Int.add_assoc] at h1
    exact h1
  · rcases List.mem_append.1 hk with hk | hk
    · have e : orf m' k = orf m k := by unfold orf; rw [hold0 k hk]
      rw [e] at h1
      have hz := osz_b m k
      have := hold k hk (1 + i) (by omega) (by omega)
      rw [← Int.add_assoc] at this
      rw [this]
      exact (h.names k hk i h0 h1).imp id (List.mem_append_left _)
    · rw [List.mem_singleton.1 hk] at h1 ⊢
      have : orf m' (c.frm a + u) = r := by unfold orf; rw [hun]
      rw [this] at h1
      left
      rw [hm _ (by omega), if_pos (by omega), if_neg (by omega)]
  · have : m' (c.root i) = m (c.root i) := by
      simp only [Cfg.root]
      rw [hm _ (by omega), if_neg (by omega), if_neg (by omega)]
    rw [this]
    exact (h.roots i hi).imp id (List.mem_append_left _)
theorem HM.set {c : Cfg} (hc : CfgW c) {m m' : Int → Int} {a u : Int} {L : List Int} (h : HM c m a u L) {i v : Int} (hm : ∀ j, c.active ≤ j → m' j = if j = i then v else m j)
    (hi : (∃ k ∈ L, ∃ j, orf m k ≤ j ∧ j + 1 < osz m k ∧ i = k + 1 + j) ∨ ((v = 0 ∨ v ∈ L) ∧ ((∃ k ∈ L, ∃ j, 0 ≤ j ∧ j < orf m k ∧ i = k + 1 + j) ∨ ∃ r : Nat, (r : Int) < c.roots ∧ i = c.root r))) : HM c m' a u L := by
  have hf := frmA hc h.a01
  have hu := h.u0
  have hr1 := hc.r1
  have hin : (∃ k ∈ L, ∃ j, 0 ≤ j ∧ j + 1 < osz m k ∧ i = k + 1 + j) ∨ ∃ r : Nat, (r : Int) < c.roots ∧ i = c.root r := by
    rcases hi with ⟨k, hk, j, h1, h2, h3⟩ | ⟨_, ⟨k, hk, j, h1, h2, h3⟩ | hr⟩
    · exact .inl ⟨k, hk, j, by have := osz_b m k; omega, h2, h3⟩
    · exact .inl ⟨k, hk, j, h1, by have := osz_b m k; omega, h3⟩
    · exact .inr hr
  have hnh : ∀ k ∈ L, k ≠ i := fun k hk e => by
    have h1 := h.tile.mem hk
    rcases hin with ⟨k', hk', j, h2, h3, h4⟩ | ⟨r, h2, h3⟩
    · rcases Int.lt_trichotomy k k' with hl | he | hl
      · omega
      · omega
      · have := h.tile.disj hk' hk hl; omega
    · simp only [Cfg.root] at h3; omega
  have hlow : c.active + 2 ≤ i := by
    rcases hin with ⟨k', hk', j, h2, h3, h4⟩ | ⟨r, h2, h3⟩
    · have h1 := h.tile.mem hk'; omega
    · simp only [Cfg.root] at h3; omega
  have hLa : ∀ k ∈ L, c.active ≤ k := fun k hk => by have := h.tile.mem hk; omega
  have e0 : ∀ k ∈ L, m' k = m k := fun k hk => by rw [hm k (hLa k hk), if_neg (hnh k hk)]
  have eo : ∀ k ∈ L, orf m' k = orf m k := fun k hk => by unfold orf; rw [e0 k hk]
  refine ⟨by rw [hm _ (Int.le_refl _), if_neg (by omega)]; exact h.act, h.a01, by rw [hm _ (by omega), if_neg (by omega)]; exact h.used, h.u0, h.tile.congr e0, fun k hk j h1 h2 => ?_, fun r hr => ?_⟩
  · rw [eo k hk] at h2
    have hka := hLa k hk
    rw [hm _ (by omega)]
    by_cases hx : k + 1 + j = i
    · rw [if_pos hx]
      rcases hi with ⟨k', hk', j', g1, g2, g3⟩ | ⟨hv, _⟩
      · exfalso
        have hz := osz_b m k; have hz' := osz_b m k'
        rcases Int.lt_trichotomy k k' with hl | he | hl
        · have := h.tile.disj hk hk' hl; omega
        · subst he; omega
        · have := h.tile.disj hk' hk hl; omega
      · exact hv
    · rw [if_neg hx]; exact h.names k hk j h1 h2
  · rw [hm _ (by simp only [Cfg.root]; omega)]
    by_cases hx : c.root r = i
    · rw [if_pos hx]
      rcases hi with ⟨k', hk', j', g1, g2, g3⟩ | ⟨hv, _⟩
      · exfalso
        have h1 := h.tile.mem hk'
        have hz' := osz_b m k'
        simp only [Cfg.root] at hx; omega
      · exact hv
    · rw [if_neg hx]; exact h.roots r hr
theorem in_put {kp : Prop} {c : Cfg} {N : Nat} {old : Nat → Int} {js : List Nat} {S : SecS} {s : Dev} (h : In kp c N old js S s) (hc : CfgW c) {i : Nat} (v : Int) (hi : c.active ≤ i ∧ i < N) (hv : 0 ≤ v ∧ v < 18446744073709551616) (hu : U64 s) (hr : (S.ff ≤ i ∧ (i : Int) < S.ft) ∨ i ∈ js ∨ (js.length : Int) < c.log) :
    ∃ S' s' js', S.store s i v = .ok (0, S') s' ∧ In kp c N old js' S' s' ∧ U64 s' ∧ (S'.ff = S.ff ∧ S'.ft = S.ft ∧ S'.L.d = S.L.d ∧ S'.L.c = S.L.c) ∧ (js' = js ∨ (js' = js ++ [i] ∧ ¬ (S.ff ≤ i ∧ (i : Int) < S.ft))) ∧ ∀ j : Int, c.active ≤ j → s'.load j = if j = i then v else s.load j := by
  have hA := act_w hc
  have hN := h.hN
  have hn := h.n
  have hsw := in_secw h hc (by omega)
  have ldf : ∀ s' : Dev, s'.n = N → s'.now i = v → (∀ x : Nat, c.active ≤ x → x ≠ i → s'.now x = s.now x) → ∀ j : Int, c.active ≤ j → s'.load j = if j = i then v else s.load j := fun s' hn' h1 h2 j hj => by
    by_cases hr : j < N
    · rw [load_nat (s := s') (k := j.toNat) (by omega) (by omega), load_nat (s := s) (k := j.toNat) (by omega) (by omega)]
      by_cases e : j = i
      · rw [if_pos e, show j.toNat = i by omega]; exact h1
      · rw [if_neg e]; exact h2 _ (by omega) (by omega)
    · have z : ∀ t : Dev, t.n = N → t.load j = 0 := fun t ht => by
        unfold Dev.load Dev.has
        rw [if_neg (by simp; omega)]
      rw [z s' hn', z s hn, if_neg (by omega)]
  by_cases hno : i ∈ js ∨ (S.ff ≤ i ∧ (i : Int) < S.ft)
  · obtain ⟨e1, e2⟩ := in_again h hc v hi hno
    have hu' := (sstore_u64 hsw hu (by omega) hv e1).1
    refine ⟨_, _, js, e1, e2, hu', ⟨rfl, rfl, rfl, rfl⟩, .inl rfl, ldf _ e2.n ?_ fun x _ hx => ?_⟩
    · rw [sv_now]; unfold upd; rw [if_pos rfl]
    · rw [sv_now]; unfold upd; rw [if_neg hx]
  · have hroom : (js.length : Int) < c.log := by
      rcases hr with hr | hr | hr
      · exact absurd (.inr hr) hno
      · exact absurd (.inl hr) hno
      · exact hr
    obtain ⟨s', e1, e2, e3, e4⟩ := in_first h hc v hi (fun hx => hno (.inl hx)) (fun hx => hno (.inr hx)) hroom
    have hu' := (sstore_u64 hsw hu (by omega) hv e1).1
    exact ⟨_, s', _, e1, e2, hu', ⟨rfl, rfl, rfl, rfl⟩, .inr ⟨rfl, fun hx => hno (.inr hx)⟩, ldf s' e2.n e3 e4⟩
theorem in_fill {kp : Prop} {c : Cfg} {N : Nat} {old : Nat → Int} {js : List Nat} (hc : CfgW c) {a h0 : Int} (hh : 0 ≤ h0 ∧ h0 < 18446744073709551616) : ∀ (f : Nat) (i : Int) (S : SecS) (s : Dev), In kp c N old js S s → U64 s → 0 ≤ i → c.active ≤ a → a + i + f ≤ N → S.ff ≤ a → a + i + f ≤ S.ft →
    ∃ S' s', fillM secOp a h0 f i s S = .ok ((a, 0), S') s' ∧ In kp c N old js S' s' ∧ U64 s' ∧ (S'.ff = S.ff ∧ S'.ft = S.ft ∧ S'.L.d = S.L.d ∧ S'.L.c = S.L.c) ∧ ∀ j : Int, c.active ≤ j → s'.load j = if a + i ≤ j ∧ j < a + i + f then (if j = a then h0 else 0) else s.load j
  | 0, i, S, s, h, hu, hi, ha, hf, _, _ => ⟨S, s, rfl, h, hu, ⟨rfl, rfl, rfl, rfl⟩, fun j _ => by rw [if_neg (by omega)]⟩
  | f + 1, i, S, s, h, hu, hi, ha, hf, h1, h2 => by
    have hA := act_w hc
    obtain ⟨v, hvd⟩ : ∃ v, v = if i = 0 then h0 else 0 := ⟨_, rfl⟩
    have hv : 0 ≤ v ∧ v < 18446744073709551616 := by rw [hvd]; split <;> first | exact hh | decide
    obtain ⟨S1, s1, js1, e1, e2, e3, e4, e5, e6⟩ := in_put h hc (i := (a + i).toNat) v (by omega) hv hu (.inl (by omega))
    have hjs : js1 = js := by
      rcases e5 with e5 | ⟨_, e5⟩
      · exact e5
      · exact absurd (show S.ff ≤ ((a + i).toNat : Int) ∧ ((a + i).toNat : Int) < S.ft by omega) e5
    subst hjs
    obtain ⟨S', s', g1, g2, g3, g4, g5⟩ := in_fill hc hh f (i + 1) S1 s1 e2 e3 (by omega) ha (by omega) (by rw [e4.1]; exact h1) (by rw [e4.2.1]; omega)
    refine ⟨S', s', ?_, g2, g3, ⟨g4.1.trans e4.1, g4.2.1.trans e4.2.1, g4.2.2.1.trans e4.2.2.1, g4.2.2.2.trans e4.2.2.2⟩, fun j hj => ?_⟩
    · unfold fillM
      rw [← hvd, show secOp (a + i) v s S = .ok (0, S1) s1 from by rw [show (a + i) = (((a + i).toNat : Nat) : Int) by omega]; exact e1]
      simp only [then_ok]
      rw [if_neg (by decide)]
      exact g1
    · rw [g5 j hj]
      by_cases hj2 : j = a + i
      · rw [if_neg (by omega), e6 j hj, if_pos (by omega), if_pos (by omega), hvd]
        by_cases h0 : i = 0
        · rw [if_pos h0, if_pos (by omega)]
        · rw [if_neg h0, if_neg (by omega)]
      · by_cases hr : a + (i + 1) ≤ j ∧ j < a + (i + 1) + f
        · rw [if_pos hr, if_pos (c := a + i ≤ j ∧ j < a + i + ((f + 1 : Nat) : Int)) (by omega)]
        · rw [if_neg hr, if_neg (c := a + i ≤ j ∧ j < a + i + ((f + 1 : Nat) : Int)) (by omega), e6 j hj, if_neg (by omega)]
theorem in_alloc {kp : Prop} {c : Cfg} (hc : CfgW c) {N : Nat} {old : Nat → Int} {js : List Nat} {S : SecS} {s : Dev} (h : In kp c N old js S s) (hu : U64 s) {a u : Int} {L : List Int} (hm : HM c s.load a u L) {w r : Int} (hw : 0 ≤ r ∧ r ≤ w ∧ w ≤ 64) (hroom : ¬ c.space - u < w + 1) (hff : S.ff ≤ c.frm a + u) (hft : S.ft = c.frm a + c.space) (hff2 : c.frm a ≤ S.ff)
    (hr : (c.active + 1).toNat ∈ js ∨ (js.length : Int) < c.log) :
    ∃ S' s' js', allocM secOp c w r s S = .ok ((c.frm a + u, 0), S') s' ∧ In kp c N old js' S' s' ∧ U64 s' ∧ (S'.ff = S.ff ∧ S'.ft = S.ft ∧ S'.L.d = S.L.d ∧ S'.L.c = S.L.c) ∧ js'.length ≤ js.length + 1 ∧ (∀ x ∈ js, x ∈ js') ∧ HM c s'.load a (u + (w + 1)) (L ++ [c.frm a + u]) ∧
      ∀ j, c.active ≤ j → s'.load j = if c.frm a + u ≤ j ∧ j < c.frm a + u + (w + 1) then (if j = c.frm a + u then packI w r else 0) else if j = c.active + 1 then u + (w + 1) else s.load j := by
  have hA := act_w hc
  have hf := frmA hc hm.a01
  have hu0 := hm.u0
  have hr1 := hc.r1
  have hN := h.hN
  obtain ⟨S1, s1, js1, e1, e2, e3, e4, e5, e6⟩ := in_put h hc (i := (c.active + 1).toNat) (u + (w + 1)) (by omega) (by omega) hu (.inr hr)
  obtain ⟨S', s', g1, g2, g3, g4, g5⟩ := in_fill hc (a := c.frm a + u) (packI_b w r) (w + 1).toNat 0 S1 s1 e2 e3 (Int.le_refl 0) (by omega) (by omega) (by rw [e4.1]; omega) (by rw [e4.2.1]; omega)
  have hld : ∀ j, c.active ≤ j → s'.load j = if c.frm a + u ≤ j ∧ j < c.frm a + u + (w + 1) then (if j = c.frm a + u then packI w r else 0) else if j = c.active + 1 then u + (w + 1) else s.load j := fun j hj => by
    rw [g5 j hj, e6 j hj]
    by_cases hj2 : c.frm a + u ≤ j ∧ j < c.frm a + u + (w + 1)
    · rw [if_pos hj2, if_pos (by omega)]
    · rw [if_neg hj2, if_neg (by omega)]
      by_cases e : j = c.active + 1
      · rw [if_pos e, if_pos (by omega)]
      · rw [if_neg e, if_neg (by omega)]
  refine ⟨S', s', js1, ?_, g2, g3, ⟨g4.1.trans e4.1, g4.2.1.trans e4.2.1, g4.2.2.1.trans e4.2.2.1, g4.2.2.2.trans e4.2.2.2⟩, ?_, fun x hx => ?_, hm.alloc hc hw hroom hld, hld⟩
  · have hk : chkH w r = 0 := by unfold chkH; rw [if_pos (by omega)]
    unfold allocM
    rw [if_neg (by rw [hk]; decide), hm.block, if_neg (by simp)]
    simp only
    rw [if_neg hroom, show secOp (c.active + 1) (u + (w + 1)) s S = .ok (0, S1) s1 from by rw [show (c.active + 1) = (((c.active + 1).toNat : Nat) : Int) by omega]; exact e1]
    simp only [then_ok]
    rw [if_neg (by decide)]
    exact g1
  · rcases e5 with e5 | ⟨e5, _⟩ <;> rw [e5] <;> simp
  · rcases e5 with e5 | ⟨e5, _⟩ <;> rw [e5]
    · exact hx
    · exact List.mem_append_left _ hx
end Go.Proofs.YtlcibdhmgclfjaaGreat
namespace Go.Proofs.YtlcibdhmgclfjaaGreat
open Go
theorem Tile.len {m : Int → Int} : ∀ {L : List Int} {a e : Int}, Tile m a L e → (L.length : Int) ≤ e - a
  | [], a, e, h => by cases h; simp
  | x :: t, a, e, h => by have := h.2.2.len; have := osz_b m a; simp only [List.length_cons]; omega
section
variable {c : Cfg} {b : Blk} {L : List Int} {s : Dev}
def hobj (s : Dev) (k : Int) : Obj3 := (osz s.load k - 1, orf s.load k, k)
theorem objs_heap (hc : CfgW c) (hb : BlkW c b) (h : HeapW c b s.load L) : ∀ (t : List Int) (a : Int) (f : Nat), Tile s.load a t (b.place c b.used) → (∀ k ∈ t, k ∈ L) → t.length < f → s.objs c b f a = t.map fun k => (hobj s k, 0)
  | [], a, f + 1, ht, _, _ => by
    unfold Dev.objs
    rw [if_pos (by rw [show a = b.place c b.used from ht]; exact Int.le_refl _)]; rfl
  | k :: t, a, f + 1, ht, hl, hf => by
    obtain ⟨rfl, h2, h3⟩ := ht
    have hz := osz_b s.load k
    have hle := h3.le
    have ho := (heap_of hc hb h (hl k (List.mem_cons_self ..))).1
    simp only [List.length_cons] at hf
    unfold Dev.objs
    rw [if_neg (by omega), ho, if_neg (by simp)]
    simp only [List.map_cons]
    rw [show k + (osz s.load k - 1 + 1) = k + osz s.load k by omega, objs_heap hc hb h t _ f h3 (fun x hx => hl x (List.mem_cons_of_mem _ hx)) (by omega)]
    rfl
  | _, _, 0, _, _, hf => absurd hf (Nat.not_lt_zero _)
theorem heap_objs (hc : CfgW c) (hb : BlkW c b) (h : HeapW c b s.load L) : s.objs c b (b.used.toNat + 1) (b.place c 0) = L.map fun k => (hobj s k, 0) := by
  have h1 := h.tile.len
  have h2 := hb.used
  exact objs_heap hc hb h L _ _ h.tile (fun _ h => h) (by unfold Blk.place at h1; omega)
theorem itl_all {α ι : Type} {st : α → ι → Bool × ι} {g : ι → α → ι} : ∀ (l : List α) (x : ι), (∀ a ∈ l, ∀ x, st a x = (true, g x a)) → itl st l x = (true, l.foldl g x)
  | [], x, _ => rfl
  | a :: t, x, h => by
    have e := h a (List.mem_cons_self ..) x
    unfold itl
    rw [if_pos (by rw [e]), e]
    exact itl_all t _ fun b hb => h b (List.mem_cons_of_mem _ hb)
theorem fold_keys {β : Type} (f : Int → β) : ∀ (l : List Int) (x : List (Int × β) × Int) (k : Int), (k ∈ l ∨ (mget x.1 k).isSome = true) → (mget (l.foldl (fun y k => (mset y.1 k (f k), y.2)) x).1 k).isSome = true
  | [], x, k, h => h.resolve_left (by simp)
  | a :: t, x, k, h => by
    refine fold_keys f t _ k ?_
    by_cases e : k = a
    · right; simp only; rw [mget_mset, if_pos e]; rfl
    · rcases h with h | h
      · exact .inl ((List.mem_cons.1 h).resolve_left e)
      · right; simp only; rw [mget_mset, if_neg e]; exact h
theorem fold_snd {β : Type} (f : Int → β) : ∀ (l : List Int) (x : List (Int × β) × Int), (l.foldl (fun y k => (mset y.1 k (f k), y.2)) x).2 = x.2
  | [], _ => rfl
  | a :: t, x => fold_snd f t _
theorem heap_starts (hc : CfgW c) (hb : BlkW c b) (h : HeapW c b s.load L) : (s.starts c b).2 = 0 ∧ ∀ k ∈ L, (mget (s.starts c b).1 k).isSome = true := by
  have e : s.starts c b = L.foldl (fun y k => (mset y.1 k (hobj s k), y.2)) ([], 0) := by
    unfold Dev.starts Dev.startsI
    rw [heap_objs hc hb h, itl_all (g := fun y (p : Obj3 × Int) => (mset y.1 p.1.2.2 p.1, y.2)) _ _ (fun p hp x => by
      obtain ⟨k, _, rfl⟩ := List.mem_map.1 hp
      unfold stS
      rw [if_neg (by simp)]), List.foldl_map]
    rfl
  rw [e]
  exact ⟨fold_snd _ _ _, fun k hk => fold_keys _ _ _ _ (.inl hk)⟩
theorem heap_check (hc : CfgW c) (hu : U64 s) (hbl : s.block c = (b, 0)) (h : HeapW c b s.load L) : s.check c = 0 := by
  have hb0 : b = (s.block c).1 := by rw [hbl]
  have hb : BlkW c b := by rw [hb0]; exact block_w hc hu
  obtain ⟨h1, h2⟩ := heap_starts hc hb h
  have hn : ∀ v, v = 0 ∨ v ∈ L → namesM c b (s.starts c b).1 v = true := fun v hv => by
    unfold namesM
    rcases hv with rfl | hv
    · simp
    · rw [(heap_of hc hb h hv).2, h2 v hv]; simp
  unfold Dev.check
  rw [hbl]
  simp only
  rw [if_neg (by simp), if_neg (by rw [h1]; simp), if_pos]
  · rw [heap_objs hc hb h, itl_all (g := fun y _ => y)]
    · have : ∀ (l : List (Obj3 × Int)) (x : Int), l.foldl (fun y _ => y) x = x := fun l => by
        induction l with
        | nil => intro x; rfl
        | cons a t ih => intro x; exact ih x
      rw [this]
    · intro p hp x
      obtain ⟨k, hk, rfl⟩ := List.mem_map.1 hp
      unfold stC
      rw [if_pos]
      unfold refsM
      rw [List.all_eq_true]
      intro j hj
      have := List.mem_range.1 hj
      simp only [hobj] at this ⊢
      exact hn _ (h.names k hk j (by omega) (by omega))
  · rw [List.all_eq_true]
    exact fun v hv => hn v (h.roots v hv)
theorem HeapW.congr {m m' : Int → Int} (h : HeapW c b m L) (e : ∀ j, b.place c 0 ≤ j → j < b.place c b.used → m' j = m j) : HeapW c b m' L := by
  have hm : ∀ k ∈ L, ∀ j, 0 ≤ j → j < osz m k → m' (k + j) = m (k + j) := fun k hk j h0 h1 => by
    have := h.tile.mem hk
    exact e _ (by omega) (by omega)
  have h0 : ∀ k ∈ L, m' k = m k := fun k hk => by
    have := hm k hk 0 (Int.le_refl 0) (by have := osz_b m k; omega)
    simpa using this
  refine ⟨h.tile.congr h0, fun k hk i g0 g1 => ?_, h.roots⟩
  have eo : orf m' k = orf m k := by unfold orf; rw [h0 k hk]
  rw [eo] at g1
  have hz := osz_b m k
  have := hm k hk (1 + i) (by omega) (by omega)
  rw [← Int.add_assoc] at this
  rw [this]; exact h.names k hk i g0 g1
end
end Go.Proofs.YtlcibdhmgclfjaaGreat
namespace Go.Proofs.YtlcibdhmgclfjaaGreat
open Go
theorem undo_nought {L : LogS} {s : Dev} (h : L.n = 0) : L.undo s = .ok L s := by
  unfold LogS.undo
  rw [show L.n.toNat = 0 by omega]
  simp [recN, LogS.truncate, h, Out.then]
theorem readC_of {c : Cfg} (hc : CfgW c) {s : Dev} (hn : (s.n : Int) = c.words) (h0 : s.load 0 = magicI) (h1 : s.load 1 = c.log) (h2 : s.load 2 = c.roots) (h3 : s.load 3 = c.space) : s.readC = (c, 0) := by
  have l1 := hc.l1; have l2 := hc.l2; have r1 := hc.r1; have r2 := hc.r2; have s1 := hc.s1; have s2 := hc.s2
  have e : ∀ x : Int, 0 ≤ x ∧ x ≤ 4096 → IntKind.i64.wrap x = x := fun x hx => wr64 (by omega)
  have e1 : readW s 0 = c.log := by unfold readW; rw [show (1 + ((0 : Nat) : Int)) = 1 from rfl, h1]; exact e _ (by omega)
  have e2 : readW s 1 = c.roots := by unfold readW; rw [show (1 + ((1 : Nat) : Int)) = 2 from rfl, h2]; exact e _ (by omega)
  have e3 : readW s 2 = c.space := by unfold readW; rw [show (1 + ((2 : Nat) : Int)) = 3 from rfl, h3]; exact e _ (by omega)
  have hcc : (⟨c.log, c.roots, c.space⟩ : Cfg) = c := rfl
  unfold Dev.readC
  rw [if_neg (by rw [h0]; simp), if_neg (by omega), e1, e2, e3, hcc, if_neg (by rintro (h | h); exact h hc; exact h hn)]
theorem openN_cong {s t : Dev} (h : t.load = s.load) (c : Cfg) (e : Int) : ∀ f n, openN t c e f n = openN s c e f n
  | 0, _ => rfl
  | f + 1, n => by unfold openN; rw [h, openN_cong h c e f]
theorem openL_cong {s t : Dev} (h : t.load = s.load) (d : Nat) (c : Cfg) : openL d c t = openL d c s := by unfold openL; rw [h, openN_cong h]
theorem cp_load (s : Dev) (pa : Nat) : (cpD s pa).load = s.load := by
  funext j
  unfold Dev.load Dev.has
  show (if (decide (0 ≤ j) && decide (j < (s.n : Int))) = true then (tab s.n s.now).getD j.toNat 0 else 0) = _
  split
  · rename_i h
    simp only [Bool.and_eq_true, decide_eq_true_eq] at h
    have e : tab s.n s.now = (List.range s.n).map s.now := rfl
    rw [e, List.getD_eq_getElem?_getD]
    simp [show j.toNat < s.n by omega]
  · rfl
theorem load_of_now {s t : Dev} (hn : t.n = s.n) (h : t.now = s.now) : t.load = s.load := by
  funext j
  unfold Dev.load Dev.has
  rw [hn, h]
structure OkD (c : Cfg) (N : Nat) (s : Dev) (e : Int) (a u : Int) (L : List Int) : Prop where
  n : s.n = N
  hN : (N : Int) = c.words
  uu : U64 s
  rc : s.readC = (c, 0)
  lg : ∀ d, openL d c s = ⟨d, c, e, 0⟩
  hm : HM c s.load a u L
theorem OkD.open_ {c : Cfg} (hc : CfgW c) {N : Nat} {s : Dev} {e a u : Int} {L : List Int} (h : OkD c N s e a u L) {bd : Nat} {x : Int} (hx : openE bd s x) : x = 0 := by
  have e0 : s.readC.2 = 0 := by rw [h.rc]
  have e1 : s.readC.1 = c := by rw [h.rc]
  rcases hx with ⟨h1, _⟩ | ⟨_, h1, _⟩ | ⟨_, _, bc, pa, L1, t1, h2, h3⟩
  · exact absurd e0 h1
  · rw [e1, h.lg] at h1
    exact absurd h1 (show ¬ (0 : Int) ≤ -1 by decide)
  · rw [e1, openL_cong (cp_load s pa), h.lg, undo_nought rfl] at h2
    cases h2
    rw [h3, e1]
    have hm : HM c (cpD s pa).load a u L := by rw [cp_load]; exact h.hm
    exact heap_check hc (cpD_u h.uu pa) hm.block hm.heap
theorem OkD.undo {c : Cfg} {N : Nat} {s : Dev} {e a u : Int} {L : List Int} (h : OkD c N s e a u L) {bd : Nat} {L' : LogS} {s' : Dev} (hx : (openL bd s.readC.1 s).undo s = .ok L' s') : s' = s := by
  rw [show s.readC.1 = c by rw [h.rc], h.lg, undo_nought rfl] at hx
  cases hx; rfl
theorem OkD.noff {c : Cfg} {N : Nat} {s : Dev} {e a u : Int} {L : List Int} (h : OkD c N s e a u L) {bd : Nat} {s' : Dev} (hx : (openL bd s.readC.1 s).undo s = .off s') : False := by
  rw [show s.readC.1 = c by rw [h.rc], h.lg, undo_nought rfl] at hx
  cases hx
structure HC (kp : Prop) (c : Cfg) (N bd : Nat) (h : HpS) (s : Dev) (a u : Int) (L : List Int) : Prop where
  hbd : h.bd = bd
  hcc : h.c = c
  ho : h.o = false
  sk : SK c N bd h.S s
  hm : HM c s.load a u L
  rc : s.readC = (c, 0)
  hw : HepW h s
  hkp : kp → s.kept = s.now
theorem SK.lg {c : Cfg} (hc : CfgW c) {N bd : Nat} {S : SecS} {s : Dev} (h : SK c N bd S s) (d : Nat) : openL d c s = ⟨d, c, S.L.epoch, 0⟩ := by
  have h1 := shut0_open (d := d) h.sh h.lw (by have := act_w hc; have := h.hN; rw [h.n]; omega)
  rw [h.lc] at h1
  exact h1
theorem HC.okd {kp : Prop} {c : Cfg} (hc : CfgW c) {N bd : Nat} {h : HpS} {s : Dev} {a u : Int} {L : List Int} (H : HC kp c N bd h s a u L) : OkD c N s h.S.L.epoch a u L := ⟨H.sk.n, H.sk.hN, H.sk.u, H.rc, H.sk.lg hc, H.hm⟩
theorem hc_open {c : Cfg} (hc : CfgW c) {N : Nat} {s : Dev} {e a u : Int} {L : List Int} (h : OkD c N s e a u L) (hs : Still s) (he : 0 ≤ e ∧ e < 4294967296) (hsh : s.now 8 = e ∧ s.now 16 ≠ stampI e 0) (bd : Nat) {kp : Prop} (hk : kp → s.kept = s.now) : HC kp c N bd (heapOf bd c s) s a u L := by
  have hA := act_w hc
  have hN := h.hN
  have hlog : 0 ≤ c.log := by have := hc.l1; have := hc.r1; omega
  have hlw : LogW ⟨bd, c, e, 0⟩ := ⟨hc, he.1, he.2, Int.le_refl _, hlog⟩
  have hS : (heapOf bd c s).S = ⟨⟨bd, c, e, 0⟩, 0, 0, [], []⟩ := by unfold heapOf; rw [h.lg]
  have hsk : SK c N bd (heapOf bd c s).S s := by
    rw [hS]
    exact ⟨hs, h.uu, h.n, h.hN, rfl, hlw, rfl, rfl, hsh⟩
  refine ⟨rfl, rfl, rfl, hsk, h.hm, h.rc, ⟨hc, hsk.secK hc, fun x => (by cases x), h.uu, ⟨Int.le_refl _, by show (0 : Int) ≤ 1000000000; decide⟩, Nat.zero_le _, fun p hp => (by cases hp), fun X hX => (by cases hX)⟩, hk⟩
theorem Fmt.okd {c : Cfg} (hc : CfgW c) {N : Nat} {s : Dev} (h : Fmt c N s) (hN : (N : Int) = c.words) (hu : U64 s) : OkD c N s 1 0 0 [] := by
  have hA := act_w hc
  have hld : ∀ k : Nat, k < 24 → s.load k = s.now k := fun k hk => load_nat rfl (by rw [h.n]; omega)
  have hF := fi_fmt hc hN h hu
  refine ⟨h.n, hN, hu, readC_of hc (by rw [h.n]; exact hN) ?_ ?_ ?_ ?_, h.log, ⟨hF.act, by omega, hF.used, hF.u0, hF.tile, hF.names, hF.roots⟩⟩
  · rw [show (0 : Int) = ((0 : Nat) : Int) from rfl, hld 0 (by omega)]; exact h.st.magic
  · rw [show (1 : Int) = ((1 : Nat) : Int) from rfl, hld 1 (by omega)]; exact h.st.cfg.1
  · rw [show (2 : Int) = ((2 : Nat) : Int) from rfl, hld 2 (by omega)]; exact h.st.cfg.2.1
  · rw [show (3 : Int) = ((3 : Nat) : Int) from rfl, hld 3 (by omega)]; exact h.st.cfg.2.2
theorem Fmt.hc {c : Cfg} (hc : CfgW c) {N : Nat} {s : Dev} (h : Fmt c N s) (hN : (N : Int) = c.words) (hu : U64 s) (bd : Nat) : HC True c N bd (heapOf bd c s) s 0 0 [] :=
  hc_open hc (h.okd hc hN hu) ⟨h.lim, h.calm.q⟩ ⟨by decide, by decide⟩ ⟨h.ep.1, by rw [h.ep.2]; decide⟩ bd fun _ => h.calm.kept
structure K8 (s s' : Dev) : Prop where
  n : s'.n = s.n
  now : ∀ x : Nat, x < 8 → s'.now x = s.now x
theorem K8.refl {s : Dev} : K8 s s := ⟨rfl, fun _ _ => rfl⟩
theorem K8.trans {s s' s'' : Dev} (h : K8 s s') (g : K8 s' s'') : K8 s s'' := ⟨g.n.trans h.n, fun x hx => (g.now x hx).trans (h.now x hx)⟩
theorem k8_store {s s' : Dev} {i v a : Int} (hi : 8 ≤ i) (e : s.store i v = .ok a s') : K8 s s' := by
  unfold Dev.store at e
  split at e
  · cases e; exact .refl
  · split at e
    · cases e
    · cases e
      exact ⟨rfl, fun x hx => by show upd s.now i.toNat v x = _; unfold upd; rw [if_neg (by omega)]⟩
theorem k8_flush {s s' : Dev} {i a : Int} (e : s.flush i = .ok a s') : K8 s s' := by
  unfold Dev.flush at e
  split at e
  · cases e; exact .refl
  · split at e
    · cases e
    · cases e; exact ⟨rfl, fun _ _ => rfl⟩
theorem k8_fence {s s' : Dev} {a : Unit} (e : s.fence = .ok a s') : K8 s s' := by
  unfold Dev.fence at e
  split at e
  · cases e
  · cases e; exact ⟨rfl, fun _ _ => rfl⟩
theorem k8_append {L : LogS} {s s' : Dev} {i : Int} {r : Int × LogS} (hL : LogW L) (e : L.append s i = .ok r s') : K8 s s' := by
  unfold LogS.append at e
  split at e
  · cases e; exact .refl
  split at e
  · cases e; exact .refl
  have hr : 16 ≤ L.c.record L.n := by have := hL.n1; simp only [Cfg.record]; omega
  obtain ⟨_, s1, e1, e⟩ := then_inv e
  obtain ⟨_, s2, e2, e⟩ := then_inv e
  obtain ⟨_, s3, e3, e⟩ := then_inv e
  obtain ⟨_, s4, e4, e⟩ := then_inv e
  obtain ⟨_, s5, e5, e⟩ := then_inv e
  obtain ⟨_, s6, e6, e⟩ := then_inv e
  obtain ⟨_, s7, e7, e⟩ := then_inv e
  cases e
  exact ((((((k8_store (by omega) e1).trans (k8_store (by omega) e2)).trans (k8_flush e3)).trans (k8_fence e4)).trans (k8_store (by omega) e5)).trans (k8_flush e6)).trans (k8_fence e7)
theorem k8_sstore {S : SecS} {s s' : Dev} {i v : Int} {r : Int × SecS} (hL : LogW S.L) (e : S.store s i v = .ok r s') : K8 s s' := by
  have hA := act_w hL.c
  unfold SecS.store at e
  split at e
  · cases e; exact .refl
  rename_i hi
  split at e
  · obtain ⟨x, t, e1, e⟩ := then_inv e
    have h1 := k8_append hL e1
    split at e
    · cases e; exact h1
    · obtain ⟨y, u, e2, e⟩ := then_inv e
      cases e; exact h1.trans (k8_store (by omega) e2)
  · obtain ⟨y, u, e2, e⟩ := then_inv e
    cases e; exact k8_store (by omega) e2
theorem k8_fill {a h0 : Int} : ∀ (f : Nat) (i : Int) (S : SecS) (s : Dev) (r : (Int × Int) × SecS) (s' : Dev), LogW S.L → fillM secOp a h0 f i s S = .ok r s' → K8 s s'
  | 0, i, S, s, r, s', _, e => by cases e; exact .refl
  | f + 1, i, S, s, r, s', hL, e => by
    unfold fillM at e
    obtain ⟨⟨x, S1⟩, s1, e1, e⟩ := then_inv e
    have h1 := k8_sstore hL e1
    split at e
    · cases e; exact h1
    · exact h1.trans (k8_fill f _ _ _ _ _ (store_lw hL e1) e)
theorem k8_alloc {c : Cfg} {w r : Int} {S : SecS} {s : Dev} {x : (Int × Int) × SecS} {s' : Dev} (hL : LogW S.L) (e : allocM secOp c w r s S = .ok x s') : K8 s s' := by
  unfold allocM at e
  split at e
  · cases e; exact .refl
  split at e
  · cases e; exact .refl
  split at e
  · cases e; exact .refl
  · obtain ⟨⟨y, S1⟩, s1, e1, e⟩ := then_inv e
    have h1 := k8_sstore hL e1
    split at e
    · cases e; exact h1
    · exact h1.trans (k8_fill _ _ _ _ _ _ (store_lw hL e1) e)
theorem K8.readC {c : Cfg} (hc : CfgW c) {s s' : Dev} (h : K8 s s') (hn : (s.n : Int) = c.words) (hr : s.readC = (c, 0)) : s'.readC = (c, 0) := by
  have hA := act_w hc
  have hl : ∀ k : Nat, k < 8 → s'.load k = s.load k := fun k hk => by
    rw [load_nat (k := k) rfl (by rw [h.n]; omega), load_nat (k := k) rfl (by omega)]; exact h.now k hk
  have hw : ∀ k : Nat, k < 3 → readW s' k = readW s k := fun k hk => by
    have := hl (1 + k) (by omega)
    unfold readW
    rw [show (1 + (k : Int)) = ((1 + k : Nat) : Int) by omega, this]
  have k0 : s'.load 0 = s.load 0 := hl 0 (by omega)
  have k1 : s'.load 1 = s.load 1 := hl 1 (by omega)
  have k2 : s'.load 2 = s.load 2 := hl 2 (by omega)
  have k3 : s'.load 3 = s.load 3 := hl 3 (by omega)
  rw [← hr]
  unfold Dev.readC
  rw [h.n, k0, k1, k2, k3, hw 0 (by omega), hw 1 (by omega), hw 2 (by omega)]
end Go.Proofs.YtlcibdhmgclfjaaGreat
namespace Go.Proofs.YtlcibdhmgclfjaaGreat
open Go
theorem take_w {T : TabS} {k : Int} (h1 : 0 ≤ T.last ∧ T.last + 1 ≤ 1000000000) (h2 : T.at_.length + 1 ≤ 800000) (h3 : ∀ p ∈ T.at_, 0 ≤ p.2 ∧ p.2 ≤ 1000000) (hk : 0 ≤ k ∧ k ≤ 1000000) :
    (0 ≤ (T.take k).2.last ∧ (T.take k).2.last ≤ 1000000000) ∧ (T.take k).2.at_.length ≤ 800000 ∧ (∀ p ∈ (T.take k).2.at_, 0 ≤ p.2 ∧ p.2 ≤ 1000000) := by
  unfold TabS.take
  split
  · exact ⟨by simp only; omega, by simp only; omega, h3⟩
  split
  · exact ⟨by simp only; omega, by simp only; omega, h3⟩
  · refine ⟨by simp only; omega, ?_, fun p hp => ?_⟩
    · have := mset_len T.at_ (T.last + 1) k
      simp only; omega
    · rcases mset_v hp with e | e
      · rw [e]; exact hk
      · exact h3 p e
structure HO (kp : Prop) (c : Cfg) (N bd : Nat) (old : Nat → Int) (js : List Nat) (h : HpS) (s : Dev) (a u u0 : Int) (L : List Int) : Prop where
  hbd : h.bd = bd
  hcc : h.c = c
  ho : h.o = true
  ss : In kp c N old js h.S s
  dd : h.S.L.d = bd
  hm : HM c s.load a u L
  rc : s.readC = (c, 0)
  hw : HepW h s
  ff : h.S.ff = c.frm a + u0
  ft : h.S.ft = c.frm a + c.space
  ule : 0 ≤ u0 ∧ u0 ≤ u
theorem hepw_open {kp : Prop} {c : Cfg} (hc : CfgW c) {N bd : Nat} {old : Nat → Int} {js : List Nat} {h : HpS} {s : Dev} (hcc : h.c = c) (hbd : h.bd = bd) (hi : In kp c N old js h.S s) (hd : h.S.L.d = bd) (hu : U64 s) (hx : h.X = none) (t1 : 0 ≤ h.T.last ∧ h.T.last ≤ 1000000000) (t2 : h.T.at_.length ≤ 800000) (t3 : ∀ p ∈ h.T.at_, 0 ≤ p.2 ∧ p.2 ≤ 1000000) : HepW h s := by
  have hA := act_w hc
  have hN := hi.hN
  exact ⟨by rw [hcc]; exact hc, ⟨hi.logw, by rw [hi.n]; omega, by rw [hbd]; exact hd, by rw [hcc]; exact hi.hc⟩, fun _ => ⟨in_secw hi hc (by omega), dirty_len hi hc (by omega)⟩, hu, t1, t2, t3, fun X hX => by rw [hx] at hX; cases hX⟩
theorem HC.blk {kp : Prop} {c : Cfg} {N bd : Nat} {h : HpS} {s : Dev} {a u : Int} {L : List Int} (H : HC kp c N bd h s a u L) : h.blk s = blkM c s.load a u := by
  show (s.block h.c).1 = _
  rw [H.hcc, H.hm.block]
theorem HO.blk {kp : Prop} {c : Cfg} {N bd : Nat} {old : Nat → Int} {js : List Nat} {h : HpS} {s : Dev} {a u u0 : Int} {L : List Int} (H : HO kp c N bd old js h s a u u0 L) : h.blk s = blkM c s.load a u := by
  show (s.block h.c).1 = _
  rw [H.hcc, H.hm.block]
theorem HC.bok {kp : Prop} {c : Cfg} {N bd : Nat} {h : HpS} {s : Dev} {a u : Int} {L : List Int} (H : HC kp c N bd h s a u L) : (s.block h.c).2 = 0 := by rw [H.hcc, H.hm.block]
theorem HC.begin {kp : Prop} {c : Cfg} (hc : CfgW c) {N bd : Nat} {h : HpS} {s : Dev} {a u : Int} {L : List Int} (H : HC kp c N bd h s a u L) {room : Int} (h0 : 0 ≤ room) (hr : ¬ c.space - u < room) {x : Int} {h' : HpS} {s' : Dev} (hb : h.begR s room x h' s') :
    x = 0 ∧ s' = s ∧ h'.T = h.T ∧ HO kp c N bd s.now [] h' s a u u L := by
  have hbl := H.blk
  rcases hb with ⟨h1, _⟩ | ⟨_, h1, _⟩ | ⟨_, _, a1, h1, s1, hor, hor2⟩
  · rw [H.ho] at h1; cases h1
  · omega
  rcases hor with ⟨h2, _⟩ | ⟨h2, rfl, rfl, rfl⟩
  · rw [hbl, H.hcc] at h2; exact absurd h2 hr
  rcases hor2 with ⟨h3, _⟩ | ⟨_, h3, _⟩ | ⟨_, h3, rfl, rfl, rfl⟩
  · exact absurd rfl h3
  · rw [show HpS.blk { h with X := none } s1 = h.blk s1 from rfl, hbl, H.hcc] at h3; exact absurd h3 hr
  have hS := H.sk
  have hi : In kp c N s'.now [] (h.S.fresh ((h.blk s').place h.c (h.blk s').used) ((h.blk s').place h.c h.c.space)) s' := in_begin hS.still H.hkp hS.n hS.hN hS.lc hS.lw hS.ln hS.sh
  refine ⟨rfl, rfl, rfl, ⟨H.hbd, H.hcc, rfl, hi, ?_, H.hm, H.rc, hepw_open hc H.hcc H.hbd hi ?_ hS.u rfl H.hw.t1 H.hw.tl H.hw.tp, ?_, ?_, H.hm.u0.1, Int.le_refl _⟩⟩
  · exact hS.ld
  · exact hS.ld
  · show (h.blk s').place h.c (h.blk s').used = _
    rw [hbl, H.hcc]; rfl
  · show (h.blk s').place h.c h.c.space = _
    rw [hbl, H.hcc]; rfl
section
variable {kp : Prop} {c : Cfg} {N bd : Nat} {old : Nat → Int} {js : List Nat} {h : HpS} {s : Dev} {a u u0 : Int} {L : List Int}
theorem HO.uu (H : HO kp c N bd old js h s a u u0 L) : U64 s := H.hw.u
theorem HO.nc (H : HO kp c N bd old js h s a u u0 L) : (s.n : Int) = c.words := by rw [H.ss.n]; exact H.ss.hN
theorem HO.put (hc : CfgW c) (H : HO kp c N bd old js h s a u u0 L) (hx : h.X = none) {i v : Int} (hv : 0 ≤ v ∧ v < 18446744073709551616) (hi : c.active ≤ i ∧ i < N)
    (hk : (∃ k ∈ L, ∃ j, orf s.load k ≤ j ∧ j + 1 < osz s.load k ∧ i = k + 1 + j) ∨ ((v = 0 ∨ v ∈ L) ∧ ((∃ k ∈ L, ∃ j, 0 ≤ j ∧ j < orf s.load k ∧ i = k + 1 + j) ∨ ∃ r : Nat, (r : Int) < c.roots ∧ i = c.root r)))
    (hr : (h.S.ff ≤ i ∧ i < h.S.ft) ∨ i.toNat ∈ js ∨ (js.length : Int) < c.log) :
    ∃ S' s' js', h.S.store s i v = .ok (0, S') s' ∧ HO kp c N bd old js' { h with S := S' } s' a u u0 L ∧ (∀ x ∈ js, x ∈ js') ∧ js'.length ≤ js.length + 1 ∧ (¬ (h.S.ff ≤ i ∧ i < h.S.ft) ∨ js' = js) ∧ ∀ j : Int, c.active ≤ j → s'.load j = if j = i then v else s.load j := by
  have hA := act_w hc
  have hN := H.ss.hN
  obtain ⟨S', s', js', e1, e2, e3, e4, e5, e6⟩ := in_put H.ss hc (i := i.toNat) v (by omega) hv H.uu (hr.imp (fun h => by omega) id)
  rw [show ((i.toNat : Nat) : Int) = i by omega] at e1 e5 e6
  have hm' := H.hm.set hc e6 hk
  refine ⟨S', s', js', e1, ⟨H.hbd, H.hcc, H.ho, e2, e4.2.2.1.trans H.dd, hm', (k8_sstore H.ss.logw e1).readC hc H.nc H.rc, hepw_open hc H.hcc H.hbd e2 (e4.2.2.1.trans H.dd) e3 hx H.hw.t1 H.hw.tl H.hw.tp, e4.1.trans H.ff, e4.2.1.trans H.ft, H.ule⟩, fun x hx => ?_, ?_, ?_, e6⟩
  · rcases e5 with e5 | ⟨e5, _⟩ <;> rw [e5]
    · exact hx
    · exact List.mem_append_left _ hx
  · rcases e5 with e5 | ⟨e5, _⟩ <;> rw [e5] <;> simp
  · rcases e5 with e5 | ⟨_, e5⟩
    · exact .inr e5
    · exact .inl (by simpa using e5)
theorem HO.alloc (hc : CfgW c) (H : HO kp c N bd old js h s a u u0 L) (hx : h.X = none) {w r : Int} (hw : 0 ≤ r ∧ r ≤ w ∧ w ≤ 64) (hroom : ¬ c.space - u < w + 1) (hr : (c.active + 1).toNat ∈ js ∨ (js.length : Int) < c.log) (hl : h.T.last + 1 ≤ 1000000000) (htl : h.T.at_.length + 1 ≤ 800000) :
    ∃ h' s' js', h.alloc s w r = .ok (((h.T.take (c.frm a + u)).1, 0), h') s' ∧ HO kp c N bd old js' h' s' a (u + (w + 1)) u0 (L ++ [c.frm a + u]) ∧ h'.X = none ∧ h'.T = (h.T.take (c.frm a + u)).2 ∧ (∀ x ∈ js, x ∈ js') ∧ js'.length ≤ js.length + 1 ∧
      ∀ j, c.active ≤ j → s'.load j = if c.frm a + u ≤ j ∧ j < c.frm a + u + (w + 1) then (if j = c.frm a + u then packI w r else 0) else if j = c.active + 1 then u + (w + 1) else s.load j := by
  have hu0 := H.hm.u0
  have hf := frmA hc H.hm.a01
  have hr1' := hc.r1
  have hle := H.ule
  obtain ⟨S', s', js', e1, e2, e3, e4, e5, e5', e6, e7⟩ := in_alloc hc H.ss H.uu H.hm hw hroom (by rw [H.ff]; omega) H.ft (by rw [H.ff]; omega) hr
  have hT := take_w (T := h.T) (k := c.frm a + u) ⟨H.hw.t1.1, hl⟩ htl H.hw.tp (by omega)
  refine ⟨{ h with S := S', T := (h.T.take (c.frm a + u)).2 }, s', js', ?_, ⟨H.hbd, H.hcc, H.ho, e2, e4.2.2.1.trans H.dd, e6, (k8_alloc H.ss.logw e1).readC hc H.nc H.rc, hepw_open hc H.hcc H.hbd e2 (e4.2.2.1.trans H.dd) e3 hx hT.1 hT.2.1 hT.2.2, e4.1.trans H.ff, e4.2.1.trans H.ft, by omega⟩, hx, rfl, e5', e5, e7⟩
  unfold HpS.alloc
  rw [if_pos H.ho, H.hcc, e1]
  simp only [then_ok]
  rw [if_neg (by simp)]
theorem HO.obj (hc : CfgW c) (H : HO kp c N bd old js h s a u u0 L) {n k : Int} (hn : mget h.T.at_ n = some k) (hk : k ∈ L) : h.obj s n = ((osz s.load k - 1, orf s.load k, k), 0) := by
  unfold HpS.obj
  rw [hn, if_pos (show (some k).isSome = true from rfl), H.blk, H.hcc]
  show s.objOf c _ k = _
  exact (heap_of hc H.hm.bw H.hm.heap hk).1
theorem HC.obj (hc : CfgW c) (H : HC kp c N bd h s a u L) {n k : Int} (hn : mget h.T.at_ n = some k) (hk : k ∈ L) : h.obj s n = ((osz s.load k - 1, orf s.load k, k), 0) := by
  unfold HpS.obj
  rw [hn, if_pos (show (some k).isSome = true from rfl), H.blk, H.hcc]
  show s.objOf c _ k = _
  exact (heap_of hc H.hm.bw H.hm.heap hk).1
theorem HpS.plc_of {n k : Int} (hn : mget h.T.at_ n = some k) : h.plc n = (k, 0) := by
  unfold HpS.plc
  rw [hn, if_pos (.inl (show (some k).isSome = true from rfl))]; rfl
theorem HO.write (hc : CfgW c) (H : HO kp c N bd old js h s a u u0 L) (hx : h.X = none) {n k i v : Int} (hn : mget h.T.at_ n = some k) (hk : k ∈ L) (hi : orf s.load k ≤ i ∧ i + 1 < osz s.load k) (hv : 0 ≤ v ∧ v < 18446744073709551616) (hr : (h.S.ff ≤ k + 1 + i ∧ k + 1 + i < h.S.ft) ∨ (k + 1 + i).toNat ∈ js ∨ (js.length : Int) < c.log) :
    ∃ h' s' js', h.write s n i v = .ok (0, h') s' ∧ HO kp c N bd old js' h' s' a u u0 L ∧ h'.X = none ∧ h'.T = h.T ∧ (∀ x ∈ js, x ∈ js') ∧ js'.length ≤ js.length + 1 ∧ (¬ (h.S.ff ≤ k + 1 + i ∧ k + 1 + i < h.S.ft) ∨ js' = js) ∧ ∀ j : Int, c.active ≤ j → s'.load j = if j = k + 1 + i then v else s.load j := by
  have hz := osz_b s.load k
  have hf := frmA hc H.hm.a01
  have hr1' := hc.r1
  have ht := H.hm.tile.mem hk
  have hu0 := H.hm.u0
  have hN := H.ss.hN
  obtain ⟨S', s', js', e1, e2, e3, e4, e5, e6⟩ := H.put hc hx (i := k + 1 + i) hv (by omega) (.inl ⟨k, hk, i, hi.1, hi.2, rfl⟩) hr
  refine ⟨_, s', js', ?_, e2, hx, rfl, e3, e4, e5, e6⟩
  have ho : objField (osz s.load k - 1, orf s.load k, k) i false = (k + 1 + i, 0) := by
    unfold objField
    rw [if_neg (by simp only; omega), if_neg (by simp; omega)]
  unfold HpS.write
  rw [if_pos H.ho, H.obj hc hn hk, if_neg (by simp)]
  unfold setM
  simp only
  rw [ho, if_neg (by simp), show secOp (k + 1 + i) v s h.S = .ok (0, S') s' from e1]
  rfl
theorem HO.point (hc : CfgW c) (H : HO kp c N bd old js h s a u u0 L) (hx : h.X = none) {n k i m p : Int} (hn : mget h.T.at_ n = some k) (hk : k ∈ L) (hi : 0 ≤ i ∧ i < orf s.load k) (hm : h.plc m = (p, 0)) (hp : p = 0 ∨ p ∈ L) (hr : (h.S.ff ≤ k + 1 + i ∧ k + 1 + i < h.S.ft) ∨ (k + 1 + i).toNat ∈ js ∨ (js.length : Int) < c.log) :
    ∃ h' s' js', h.point s n i m = .ok (0, h') s' ∧ HO kp c N bd old js' h' s' a u u0 L ∧ h'.X = none ∧ h'.T = h.T ∧ (∀ x ∈ js, x ∈ js') ∧ js'.length ≤ js.length + 1 ∧ (¬ (h.S.ff ≤ k + 1 + i ∧ k + 1 + i < h.S.ft) ∨ js' = js) ∧ ∀ j : Int, c.active ≤ j → s'.load j = if j = k + 1 + i then p else s.load j := by
  have hz := osz_b s.load k
  have hf := frmA hc H.hm.a01
  have hr1' := hc.r1
  have ht := H.hm.tile.mem hk
  have hu0 := H.hm.u0
  have hN := H.ss.hN
  have hpb : 0 ≤ p ∧ p < 18446744073709551616 := by
    rcases hp with rfl | hp
    · decide
    · have := H.hm.tile.mem hp; have := osz_b s.load p; omega
  obtain ⟨S', s', js', e1, e2, e3, e4, e5, e6⟩ := H.put hc hx (i := k + 1 + i) hpb (by omega) (.inr ⟨hp, .inl ⟨k, hk, i, hi.1, hi.2, rfl⟩⟩) hr
  refine ⟨_, s', js', ?_, e2, hx, rfl, e3, e4, e5, e6⟩
  have ho : objField (osz s.load k - 1, orf s.load k, k) i true = (k + 1 + i, 0) := by
    unfold objField
    rw [if_neg (by simp only; omega), if_neg (by simp; omega)]
  unfold HpS.point
  rw [if_pos H.ho, H.obj hc hn hk, if_neg (by simp), hm, if_neg (by simp)]
  unfold setM
  simp only
  rw [ho, if_neg (by simp), show secOp (k + 1 + i) p s h.S = .ok (0, S') s' from e1]
  rfl
theorem HO.setRoot (hc : CfgW c) (H : HO kp c N bd old js h s a u u0 L) (hx : h.X = none) {i : Nat} {m p : Int} (hi : (i : Int) < c.roots) (hm : h.plc m = (p, 0)) (hp : p = 0 ∨ p ∈ L) (hr : (c.root i).toNat ∈ js ∨ (js.length : Int) < c.log) :
    ∃ h' s' js', h.setRoot s i m = .ok (0, h') s' ∧ HO kp c N bd old js' h' s' a u u0 L ∧ h'.X = none ∧ h'.T = h.T ∧ (∀ x ∈ js, x ∈ js') ∧ js'.length ≤ js.length + 1 ∧ ∀ j : Int, c.active ≤ j → s'.load j = if j = c.root i then p else s.load j := by
  have hf := frmA hc H.hm.a01
  have hr1' := hc.r1
  have hu0 := H.hm.u0
  have hN := H.ss.hN
  have hr1 := hc.r1
  have hpb : 0 ≤ p ∧ p < 18446744073709551616 := by
    rcases hp with rfl | hp
    · decide
    · have := H.hm.tile.mem hp; have := osz_b s.load p; omega
  have hri : c.active + 2 ≤ c.root i ∧ c.root i < c.active + 2 + c.roots := by simp only [Cfg.root]; omega
  obtain ⟨S', s', js', e1, e2, e3, e4, e5, e6⟩ := H.put hc hx (i := c.root i) hpb (by have := hc.s1; omega) (.inr ⟨hp, .inr ⟨i, hi, rfl⟩⟩) (.inr hr)
  refine ⟨_, s', js', ?_, e2, hx, rfl, e3, e4, e6⟩
  unfold HpS.setRoot
  rw [if_pos H.ho, H.hcc, if_neg (by omega), hm, if_neg (by simp)]
  simp only
  rw [e1]
  rfl
theorem HO.commit (hc : CfgW c) (H : HO kp c N bd old js h s a u u0 L) (hx : h.X = none) :
    ∃ h' s', h.commit s = .ok (0, h') s' ∧ HC kp c N bd h' s' a u L ∧ h'.X = none ∧ h'.T = h.T ∧ (kp → Calm s') ∧ ∀ j : Int, c.active ≤ j → s'.load j = s.load j := by
  have hA := act_w hc
  have hN := H.ss.hN
  obtain ⟨s', e1, e2, e3, e4, e5, e6⟩ := in_commit H.ss hc
  have hk := shut_w H.ss.logw
  have hck := commit_k H.ss.logw e1
  have hu' := hck.1 H.uu
  have hld : ∀ j : Int, c.active ≤ j → s'.load j = s.load j := fun j hj => by
    unfold Dev.load Dev.has
    rw [e3, H.ss.n]
    split
    · rw [e4, shutNow_at (by omega)]
    · rfl
  have h8 : K8 s s' := ⟨by rw [e3, H.ss.n], fun x hx => by rw [e4, shutNow_at (by omega)]⟩
  have hsk : SK c N bd { h.S with L := h.S.L.shut } s' := ⟨e2, hu', e3, hN, hk.2.2.1.trans H.ss.hc, hk.1, hk.2.1, hk.2.2.2.trans H.dd, e6⟩
  refine ⟨{ h with o := false, S := { h.S with L := h.S.L.shut } }, s', ?_, ⟨H.hbd, H.hcc, rfl, hsk, H.hm.congr hc hld, h8.readC hc H.nc H.rc, ⟨H.hw.c, ⟨hsk.lw, by rw [e3]; omega, by rw [H.hbd]; exact hsk.ld, by rw [H.hcc]; exact hsk.lc⟩, fun x => (by cases x), hu', H.hw.t1, H.hw.tl, H.hw.tp, fun X hX => by rw [show h.X = some X from hX] at hx; cases hx⟩, fun hp => (e5 hp).kept⟩, hx, rfl, e5, hld⟩
  unfold HpS.commit
  rw [if_pos H.ho, e1]
  rfl
end
theorem HC.crash {c : Cfg} (hc : CfgW c) {N bd : Nat} {h : HpS} {s : Dev} {a u : Int} {L : List Int} (H : HC True c N bd h s a u L) (ch : Nat → Int) : OkD c N (s.crash ch) h.S.L.epoch a u L ∧ HC True c N bd (heapOf bd c (s.crash ch)) (s.crash ch) a u L ∧ (s.crash ch).load = s.load := by
  obtain ⟨e1, e2⟩ := crash_calm (s := s) ⟨H.hkp trivial, H.sk.still.q⟩ ch
  have hld := load_of_now e2 e1
  have h1 := H.okd hc
  have ho : OkD c N (s.crash ch) h.S.L.epoch a u L := ⟨e2.trans h1.n, h1.hN, fun x => by rw [e1]; exact h1.uu x, (K8.mk e2 fun x _ => by rw [e1]).readC hc (by rw [h1.n]; exact h1.hN) h1.rc, fun d => by rw [openL_cong hld]; exact h1.lg d, by rw [hld]; exact h1.hm⟩
  refine ⟨ho, hc_open hc ho ⟨H.sk.still.lim, rfl⟩ ⟨H.sk.lw.e1, H.sk.lw.e2⟩ ⟨by rw [e1]; exact H.sk.sh.1, by rw [e1]; exact H.sk.sh.2⟩ bd fun _ => rfl, hld⟩
end Go.Proofs.YtlcibdhmgclfjaaGreat
namespace Go.Proofs.YtlcibdhmgclfjaaGreat
open Go
theorem mget_in {α : Type} {k : Int} {v : α} : ∀ {l : List (Int × α)}, mget l k = some v → (k, v) ∈ l
  | [], h => by cases h
  | q :: l, h => by
    unfold mget at h
    split at h
    · rename_i e; cases h; subst e; exact List.mem_cons_self ..
    · exact List.mem_cons_of_mem _ (mget_in h)
theorem mget_of {α : Type} {k : Int} {v : α} : ∀ {l : List (Int × α)}, (l.map Prod.fst).Nodup → (k, v) ∈ l → mget l k = some v
  | [], _, h => by cases h
  | q :: l, hn, h => by
    rw [List.map_cons, List.nodup_cons] at hn
    unfold mget
    rcases List.mem_cons.1 h with rfl | h
    · rw [if_pos rfl]
    · rw [if_neg (fun e => hn.1 (by rw [e]; exact List.mem_map.2 ⟨_, h, rfl⟩))]; exact mget_of hn.2 h
def mvA (to_ : Int → Int) (o : List (Int × Int)) : List (Int × Int) := (o.filter fun p => decide (to_ p.2 ≠ 0)).map fun p => (p.1, to_ p.2)
def mvN (to_ : Int → Int) (o : List (Int × Int)) : List (Int × Int) := (o.filter fun p => decide (to_ p.2 ≠ 0)).map fun p => (to_ p.2, p.1)
theorem mset_fresh {α : Type} {l : List (Int × α)} {k : Int} {a : α} (h : k ∉ l.map Prod.fst) : mset l k a = l ++ [(k, a)] := mset_none (mget_notin h)
theorem moved_fold {to_ : Int → Int} : ∀ (o A N : List (Int × Int)), (o.map Prod.fst).Nodup → (∀ p ∈ o, p.1 ∉ A.map Prod.fst) → (∀ p ∈ o, to_ p.2 ≠ 0 → to_ p.2 ∉ N.map Prod.fst) → (∀ p ∈ o, ∀ q ∈ o, to_ p.2 = to_ q.2 → to_ p.2 ≠ 0 → p = q) →
    o.foldl (mvStep to_) (A, N) = (A ++ mvA to_ o, N ++ mvN to_ o)
  | [], A, N, _, _, _, _ => by simp [mvA, mvN]
  | x :: t, A, N, h1, h2, h3, h4 => by
    rw [List.map_cons, List.nodup_cons] at h1
    by_cases hx : to_ x.2 = 0
    · have e1 : mvA to_ (x :: t) = mvA to_ t := by simp [mvA, hx]
      have e2 : mvN to_ (x :: t) = mvN to_ t := by simp [mvN, hx]
      rw [e1, e2, List.foldl_cons, show mvStep to_ (A, N) x = (A, N) from if_neg (by simpa using hx)]
      exact moved_fold t A N h1.2 (fun p hp => h2 p (List.mem_cons_of_mem _ hp)) (fun p hp => h3 p (List.mem_cons_of_mem _ hp)) (fun p hp q hq => h4 p (List.mem_cons_of_mem _ hp) q (List.mem_cons_of_mem _ hq))
    · have e1 : mvA to_ (x :: t) = (x.1, to_ x.2) :: mvA to_ t := by simp [mvA, hx]
      have e2 : mvN to_ (x :: t) = (to_ x.2, x.1) :: mvN to_ t := by simp [mvN, hx]
      rw [e1, e2, List.foldl_cons, show mvStep to_ (A, N) x = (mset A x.1 (to_ x.2), mset N (to_ x.2) x.1) from if_pos hx, mset_fresh (h2 x (List.mem_cons_self ..)), mset_fresh (h3 x (List.mem_cons_self ..) hx)]
      rw [moved_fold t _ _ h1.2 (fun p hp hm => ?_) (fun p hp hz hm => ?_) (fun p hp q hq => h4 p (List.mem_cons_of_mem _ hp) q (List.mem_cons_of_mem _ hq))]
      · simp
      · rw [List.map_append, List.mem_append] at hm
        rcases hm with hm | hm
        · exact h2 p (List.mem_cons_of_mem _ hp) hm
        · simp at hm; exact h1.1 (by rw [← hm]; exact List.mem_map_of_mem hp)
      · rw [List.map_append, List.mem_append] at hm
        rcases hm with hm | hm
        · exact h3 p (List.mem_cons_of_mem _ hp) hz hm
        · simp at hm
          have := h4 p (List.mem_cons_of_mem _ hp) x (List.mem_cons_self ..) hm hz
          subst this; exact h1.1 (List.mem_map_of_mem hp)
theorem TabW.moved {T : TabS} (h : TabW T) {to_ : Int → Int} (hi : ∀ p ∈ T.at_, ∀ q ∈ T.at_, to_ p.2 = to_ q.2 → to_ p.2 ≠ 0 → p.2 = q.2) {ord : List (Int × Int)} (ho : ord.Perm T.at_) :
    TabW (TabS.moved to_ T.last ord) ∧ (∀ n, mget (TabS.moved to_ T.last ord).at_ n = match mget T.at_ n with | some p => if to_ p = 0 then none else some (to_ p) | none => none) ∧ (TabS.moved to_ T.last ord).at_ = mvA to_ ord := by
  have hm : ∀ p : Int × Int, p ∈ ord ↔ p ∈ T.at_ := fun p => ho.mem_iff
  have n1 : (ord.map Prod.fst).Nodup := (ho.map _).nodup_iff.2 h.n1
  have hj : ∀ p ∈ T.at_, ∀ q ∈ T.at_, to_ p.2 = to_ q.2 → to_ p.2 ≠ 0 → p = q := fun p hp q hq e hz => by
    have e2 := hi p hp q hq e hz
    have a1 := (h.fwd p.1 p.2 (mget_of h.n1 hp)).1
    have a2 := (h.fwd q.1 q.2 (mget_of h.n1 hq)).1
    rw [e2, a2] at a1
    exact Prod.ext (by injection a1 with a1; exact a1.symm) e2
  have hf := moved_fold (to_ := to_) ord [] [] n1 (by simp) (by simp) (fun p hp q hq => hj p ((hm p).1 hp) q ((hm q).1 hq))
  have eA : (TabS.moved to_ T.last ord).at_ = mvA to_ ord := by unfold TabS.moved; rw [hf]; simp
  have eN : (TabS.moved to_ T.last ord).no = mvN to_ ord := by unfold TabS.moved; rw [hf]; simp
  have nA : ((mvA to_ ord).map Prod.fst).Nodup := by
    unfold mvA
    rw [List.map_map]
    have : (Prod.fst ∘ fun p : Int × Int => (p.1, to_ p.2)) = Prod.fst := rfl
    rw [this]
    exact n1.sublist (List.Sublist.map _ List.filter_sublist)
  have nN : ((mvN to_ ord).map Prod.fst).Nodup := by
    unfold mvN
    rw [List.map_map]
    refine List.Pairwise.map _ (R := fun a b : Int × Int => a ∈ ord ∧ b ∈ ord ∧ a ≠ b ∧ to_ a.2 ≠ 0) (fun a b hab e => ?_) ?_
    · exact hab.2.2.1 (hj a ((hm a).1 hab.1) b ((hm b).1 hab.2.1) e hab.2.2.2)
    · have hn : (ord.filter fun p => decide (to_ p.2 ≠ 0)).Nodup := (nodup_of n1).sublist List.filter_sublist
      refine hn.imp_of_mem fun {a b} ha hb hne => ?_
      have ha := List.mem_filter.1 ha
      have hb := List.mem_filter.1 hb
      exact ⟨ha.1, hb.1, hne, by simpa using ha.2⟩
  have iA : ∀ n q, mget (mvA to_ ord) n = some q ↔ ∃ p, mget T.at_ n = some p ∧ to_ p ≠ 0 ∧ to_ p = q := fun n q => by
    constructor
    · intro hq
      obtain ⟨p, hp, e⟩ := List.mem_map.1 (mget_in hq)
      have hp := List.mem_filter.1 hp
      cases e
      exact ⟨p.2, mget_of h.n1 ((hm _).1 hp.1), by simpa using hp.2, rfl⟩
    · rintro ⟨p, hp, hz, rfl⟩
      exact mget_of nA (List.mem_map.2 ⟨(n, p), List.mem_filter.2 ⟨(hm _).2 (mget_in hp), by simpa using hz⟩, rfl⟩)
  have iN : ∀ n q, mget (mvN to_ ord) q = some n ↔ mget (mvA to_ ord) n = some q := fun n q => by
    constructor
    · intro hq
      obtain ⟨p, hp, e⟩ := List.mem_map.1 (mget_in hq)
      cases e
      exact mget_of nA (List.mem_map.2 ⟨p, hp, rfl⟩)
    · intro hq
      obtain ⟨p, hp, e⟩ := List.mem_map.1 (mget_in hq)
      cases e
      exact mget_of nN (List.mem_map.2 ⟨p, hp, rfl⟩)
  refine ⟨⟨h.last, by rw [eA]; exact nA, by rw [eN]; exact nN, fun n q hq => ?_, fun q n hq => ?_⟩, fun n => ?_, eA⟩
  · rw [eA] at hq; rw [eN]
    obtain ⟨p, hp, hz, rfl⟩ := (iA n q).1 hq
    have h1 := h.fwd n p hp
    exact ⟨(iN n _).2 hq, h1.2.1, h1.2.2.1, hz⟩
  · rw [eN] at hq; rw [eA]; exact (iN n q).1 hq
  · rw [eA]
    cases hx : mget T.at_ n with
    | none =>
      cases hy : mget (mvA to_ ord) n with
      | none => rfl
      | some q => obtain ⟨p, hp, _⟩ := (iA n q).1 hy; rw [hx] at hp; cases hp
    | some p =>
      show _ = if to_ p = 0 then none else some (to_ p)
      split
      · rename_i hz
        cases hy : mget (mvA to_ ord) n with
        | none => rfl
        | some q => obtain ⟨p', hp, hz', _⟩ := (iA n q).1 hy; rw [hx] at hp; cases hp; exact absurd hz hz'
      · rename_i hz
        exact (iA n _).2 ⟨p, hx, hz, rfl⟩
theorem TabW.same {T T' : TabS} (h : TabW T) (h' : TabW T') (e : ∀ n, mget T'.at_ n = mget T.at_ n) : ∀ p, mget T'.no p = mget T.no p := fun p => by
  cases hx : mget T.no p with
  | none =>
    cases hy : mget T'.no p with
    | none => rfl
    | some n =>
      have h1 := h'.bwd p n hy
      rw [e] at h1
      rw [(h.fwd n p h1).1] at hx; cases hx
  | some n =>
    have h1 := h.bwd p n hx
    rw [← e] at h1
    exact (h'.fwd n p h1).1
end Go.Proofs.YtlcibdhmgclfjaaGreat
namespace Go.Proofs.YtlcibdhmgclfjaaGreat
open Go
theorem k8_flushAll : ∀ (l : List Int) (s s' : Dev) (a : Unit), flushAll l s = .ok a s' → K8 s s'
  | [], s, s', a, e => by cases e; exact .refl
  | i :: t, s, s', a, e => by
    unfold flushAll at e
    obtain ⟨_, s1, e1, e⟩ := then_inv e
    exact (k8_flush e1).trans (k8_flushAll t _ _ _ e)
theorem k8_commit {S S' : SecS} {s s' : Dev} (e : S.commit s = .ok S' s') : K8 s s' := by
  unfold SecS.commit at e
  obtain ⟨_, s1, e1, e⟩ := then_inv e
  obtain ⟨_, s2, e2, e⟩ := then_inv e
  obtain ⟨_, s3, e3, e⟩ := then_inv e
  cases e
  have h2 : K8 s1 s2 := by
    split at e2
    · exact k8_fence e2
    · cases e2; exact .refl
  have h3 : K8 s2 s' := by
    unfold LogS.truncate at e3
    split at e3
    · cases e3; exact .refl
    · obtain ⟨_, s4, e4, e3⟩ := then_inv e3
      obtain ⟨_, s5, e5, e3⟩ := then_inv e3
      obtain ⟨_, s6, e6, e3⟩ := then_inv e3
      cases e3
      exact ((k8_store (by decide) e4).trans (k8_flush e5)).trans (k8_fence e6)
  exact ((k8_flushAll _ _ _ _ e1).trans h2).trans h3
theorem k8_writeN : ∀ (l : List Int) (i : Int) (s : Dev) (S : SecS) (r : Int × SecS) (s' : Dev), LogW S.L → writeN secOp l i s S = .ok r s' → K8 s s'
  | [], i, s, S, r, s', _, e => by cases e; exact .refl
  | v :: t, i, s, S, r, s', hL, e => by
    unfold writeN at e
    split at e
    · exact k8_writeN t _ _ _ _ _ hL e
    · obtain ⟨⟨x, S1⟩, s1, e1, e⟩ := then_inv e
      have h1 := k8_sstore hL e1
      split at e
      · cases e; exact h1
      · exact h1.trans (k8_writeN t _ _ _ _ _ (store_lw hL e1) e)
theorem k8_flip {c : Cfg} {b : Blk} {S S' : SecS} {s s' : Dev} (hL : LogW S.L) (e : flipM c b S s = .ok (0, S') s') : K8 s s' := by
  unfold flipM writeM at e
  obtain ⟨⟨x, S1⟩, s1, e1, e⟩ := then_inv e
  have h1 := k8_writeN _ _ _ _ _ _ (show LogW (S.fresh 0 0).L from hL) e1
  split at e
  · rename_i hx
    obtain ⟨S2, s2, e2, e⟩ := then_inv e
    cases e; exact absurd rfl hx
  · obtain ⟨S2, s2, e2, e⟩ := then_inv e
    cases e; exact h1.trans (k8_commit e2)
theorem k8_stab {N : Nat} {s0 : Dev} {lo hi : Int} (h0 : 24 < lo) (h1 : hi ≤ N) : Stab lo hi (fun s => U64 s ∧ s.n = N ∧ ∀ x : Nat, x < 8 → s.now x = s0.now x) where
  n := fun s h => ⟨by omega, by rw [h.2.1]; exact h1⟩
  st := fun s i v ⟨g1, g2, g3⟩ a1 a2 a3 a4 => ⟨fun x => by
      show 0 ≤ upd s.now i.toNat v x ∧ upd s.now i.toNat v x < _
      unfold upd; split
      · exact ⟨a3, a4⟩
      · exact g1 x, g2, fun x hx => by show upd s.now i.toNat v x = _; unfold upd; rw [if_neg (by omega)]; exact g3 x hx⟩
  fl := fun s i h _ _ => h
  fe := fun s h => h
theorem HC.collect {kp : Prop} {c : Cfg} (hc : CfgW c) {N bd : Nat} {h : HpS} {s : Dev} {a u : Int} {L : List Int} (H : HC kp c N bd h s a u L) (hT : TabW h.T) (hTL : ∀ n p, mget h.T.at_ n = some p → p ∈ L) :
    ∃ X s1, DI c (blkM c s.load a u) s.load L (c.frm (1 - a)) ((blkM c s.load a u).rts ++ h.words) X s1 ∧ GcH c (blkM c s.load a u) s.load L (c.frm (1 - a)) (c.frm (1 - a) + c.space) ∧ (∀ s', ¬ h.colOff s s') ∧ ∀ x h' s', h.colR s x h' s' → x = 0 ∧ HC False c N bd h' s' (1 - a) X.block.used (X.went.map Prod.snd) ∧ h'.X = none ∧
      TabW h'.T ∧ h'.T.last = h.T.last ∧ (∀ n, mget h'.T.at_ n = (mget h.T.at_ n).map (tr X.went)) ∧ (∀ n p, mget h.T.at_ n = some p → p ∈ X.went.map Prod.fst) ∧ s'.block c = (X.block, 0) ∧ ∀ j, c.frm 0 ≤ j → s'.load j = s1.load j := by
  have hA := act_w hc
  have hN := H.sk.hN
  have hlog : ∀ w ∈ h.words, w = 0 ∨ w ∈ L := fun w hw => by
    obtain ⟨n, hn, rfl⟩ := List.mem_map.1 hw
    cases hm : mget h.T.at_ n with
    | none => exact .inl rfl
    | some p => exact .inr (hTL n p hm)
  obtain ⟨X, S', s', k1, k2, k3, k4, G, s1, hD, hld⟩ := collect_run hc H.sk H.hm.block H.hm.heap hlog
  have hbl := hD.block G
  have hus := hD.used G
  have hap := G.apart
  have hwin : ∀ n p, mget h.T.at_ n = some p → p ∈ h.words := fun n p hp => List.mem_map.2 ⟨n, by
    unfold sortI
    rw [List.mem_mergeSort]; exact List.mem_map.2 ⟨_, mget_in hp, rfl⟩, by rw [hp]; rfl⟩
  have hkey : ∀ n p, mget h.T.at_ n = some p → p ∈ X.went.map Prod.fst := fun n p hp =>
    (hD.ws p (List.mem_append_right _ (hwin n p hp))).resolve_left (hT.fwd n p hp).2.2.2
  have hbX : BlkW c X.block := by
    have hbw := H.hm.bw
    exact ⟨by have h1 := H.hm.a01; rw [hbl]; simp only; omega, ⟨hus.2.1, by have := hbw.used; omega⟩⟩
  have hac : X.block.act = 1 - a := by rw [hbl]
  have hcm : ∃ s2, (newCol bd c (blkM c s.load a u) ((blkM c s.load a u).rts ++ h.words)).run s = .ok X s2 ∧ flipM c X.block h.S s2 = .ok (0, S') s' := by
    unfold collectM at k1
    rw [H.hm.block, if_neg (by simp)] at k1
    obtain ⟨X1, s2, e1, k1⟩ := then_inv k1
    obtain ⟨⟨y, S2⟩, s3, e2, k1⟩ := then_inv k1
    split at k1
    · cases k1
    · rename_i hy
      simp only at k1 hy
      cases k1
      exact ⟨s2, e1, by rw [e2, show y = 0 from Classical.not_not.1 hy]⟩
  obtain ⟨s2, e1, e2⟩ := hcm
  have hcol : newCol h.bd h.c (h.blk s) ((h.blk s).rts ++ h.words) = newCol bd c (blkM c s.load a u) ((blkM c s.load a u).rts ++ h.words) := by rw [H.blk, H.hbd, H.hcc]
  have h8 : K8 s s' := by
    have hW : ColW (newCol bd c (blkM c s.load a u) ((blkM c s.load a u).rts ++ h.words)) := by
      have := H.hw.ncol
      unfold HpS.ncol at this
      rw [hcol] at this; exact this
    have hwl : ∀ w ∈ (blkM c s.load a u).rts ++ h.words, w = 0 ∨ w ∈ L := fun w hw => by
      rcases List.mem_append.1 hw with hw | hw
      · exact H.hm.heap.roots w hw
      · exact hlog w hw
    have h1 := SI.run G (k8_stab (N := N) (s0 := s) hap.2.1 (by omega)) (fun s h => h.1) hwl _ _ s (si_new (bd := bd) G rfl _) ⟨H.sk.u, H.sk.n, fun _ _ => rfl⟩ hW (Nat.lt_succ_self _)
    rw [show runN _ _ s = .ok X s2 from e1] at h1
    exact K8.trans ⟨by rw [h1.1.2.1, H.sk.n], h1.1.2.2⟩ (k8_flip H.sk.lw e2)
  refine ⟨X, s1, hD, G, ?_, ?_⟩
  · rintro s9 ⟨_, h9 | ⟨X9, t9, h9, h10⟩⟩
    · rw [hcol, e1] at h9; cases h9
    · rw [hcol, e1] at h9; cases h9
      rw [H.hcc, e2] at h10; cases h10
  · rintro x h' s9 (⟨h9, _⟩ | ⟨_, X9, t9, h9, S9, h10, hor⟩)
    · rw [H.ho] at h9; cases h9
    rw [hcol, e1] at h9; cases h9
    rw [H.hcc, e2] at h10; cases h10
    rcases hor with ⟨h11, _⟩ | ⟨_, ord, hperm, rfl⟩
    · exact absurd rfl h11
    have hwt : wentF X = tr X.went := rfl
    have htb := hT.moved (to_ := wentF X) (fun p hp q hq e hz => by
      have ep := mget_of hT.n1 (show (p.1, p.2) ∈ h.T.at_ from hp)
      have eq := mget_of hT.n1 (show (q.1, q.2) ∈ h.T.at_ from hq)
      have t1 := hD.trm (hkey _ _ ep)
      have t2 := hD.trm (hkey _ _ eq)
      have := hD.ci.offs.inj t1.2 t2.2 e
      exact congrArg Prod.fst this) hperm
    have hwz : ∀ n p, mget h.T.at_ n = some p → wentF X p ≠ 0 := fun n p hp => by
      have t1 := (hD.trm (hkey n p hp)).2
      have t2 := (hD.ci.offs.mem t1).1
      have := G.lo0; have hf := frm_b hc (k := 0) (by omega)
      rw [hwt]; omega
    refine ⟨rfl, ⟨H.hbd, H.hcc, H.ho, k2, ?_, h8.readC hc (by rw [H.sk.n]; exact hN) H.rc, ?_, fun h => h.elim⟩, rfl, htb.1, rfl, fun n => ?_, hkey, k4, hld⟩
    · have hm := hm_of hbX k4 (hD.heap G (fun w hw => List.mem_append_left _ hw) (m' := s'.load) fun j hj _ => hld j (by have := G.lo0; omega))
      rw [hac] at hm; exact hm
    · have h9 := H.hw.moved (fun p => k3.vb p) hperm k2.lw (by rw [H.hbd]; exact k2.ld) (by rw [H.hcc]; exact k2.lc) k2.u (by rw [k2.n, H.sk.n])
      rw [← H.ho] at h9; exact h9
    · rw [htb.2.1 n]
      cases hm : mget h.T.at_ n with
      | none => rfl
      | some p => simp only [Option.map_some]; rw [if_neg (hwz n p hm)]; rfl
end Go.Proofs.YtlcibdhmgclfjaaGreat
namespace Go.Proofs.YtlcibdhmgclfjaaGreat
open Go
abbrev mdlRow (bm br n : Nat) (c : Cfg) : HP := row bm [i64 c.log, i64 c.roots, i64 c.space, .slice (some ⟨br, 0, none⟩) n n, i64 0, .slice none 0 0, .bool false, .slice none 0 0, .slice none 0 0, .slice none 0 0, i64 (-1), i64 0] 45
abbrev nilRow (br n : Nat) : HP := row br (List.replicate n (.pointer none)) 136
theorem mnew_ok (B : World) (H : List HP) (c : Cfg) (hc : CfgW c) (n : Nat) (hn : (n : Int) = c.roots) :
    ∀ w, Holds B H w → Calls Tryz.prog 50 [cfgV c].toArray w (Ret B (fun rv H' => ∃ bm br, rv = ptr bm ∧ H' = mdlRow bm br n c :: nilRow br n :: H) (fun _ _ => False)) := by
  refine fn_enter Tryz.func50 rfl Tryz.ntmps50 rfl ?_
  have hr2 := hc.r2
  refine g_seq (g_region (p_chg rfl (ch_boxA rfl) .free rfl rfl ?_))
  rintro _ _ ⟨b1, rfl, rfl⟩
  refine kPa rfl rfl (p_nil (g_seq (g_drawv [0, 1, 2, 3, 4, 5, 6] [3, 5] [0] [3] [row b1 [i64 c.log, i64 c.roots, i64 c.space] 40] Tryz.mixed (by kernel_rfl) ?_)))
  refine v_hoist rfl rfl rfl (ev_loadA Tryz.isAgg40 Tryz.sizeOf40 rfl rfl) .free rfl ?_
  refine v_val rfl rfl rfl (ev_fa (m := _) fa_40_1 rfl rfl) .free rfl (v_val rfl rfl rfl (ev_load Tryz.isAgg3 rfl rfl) .free rfl (v_mark rfl rfl (p_chg rfl (ch_make (n := n) Tryz.runUnderlying41 tb_136 Tryz.sizeOf136 Tryz.zeroValue136 rfl (by rw [hn]; rfl) (by rw [hn]; rfl) (by omega)) .free rfl rfl ?_)))
  rintro _ _ ⟨br, rfl, rfl⟩
  refine p_nil (v_on ?_)
  refine v_val rfl rfl rfl (ev_build rfl (bld_45_0_1_8 _ _ _ _ _ (by first | rfl | assumption) rfl)) .free rfl ?_; refine v_mark rfl rfl ?_; refine p_chg rfl (ch_boxA rfl) .free rfl rfl ?_
  rintro _ _ ⟨b8, rfl, rfl⟩
  refine p_nil (v_off rfl (v_val rfl rfl rfl (ev_assign rfl) .free rfl (v_nil (go_sb [2] rfl (g_ret ?_)))))
  exact ret_tmp Tryz.results50 rfl (fun w hw => ⟨_, ⟨b8, br, rfl, rfl⟩, (hw.dp [2])⟩)
theorem msee0_ok (B : World) (Fr : List HP) (c3 : Nat) :
    ∀ w, Holds B (row c3 [.slice none 0 0] 41 :: Fr) w → Calls Tryz.prog 160 [.pointer none, ptr c3].toArray w (PureR B (row c3 [.slice none 0 0] 41 :: Fr) (.tuple #[])) := by
  refine fn_enter Tryz.func160 rfl Tryz.ntmps160 rfl (g_seq (g_region (kPm rfl rfl (kPv (ev_eqp Tryz.runUnderlying136 rfl rfl rfl) rfl (kPm rfl rfl ?_)))))
  apply p_and (tp := 10) (t := 5) (σ1 := [(5, _), (0, _), (1, _)]) 5 rfl (sub_r rfl)
  · intro hg1
    refine p_val rfl (ev_load Tryz.isAgg41 rfl rfl) (.on rfl rfl (beq_eq hg1)) rfl rfl (p_val rfl (ev_move rfl) (.on rfl rfl (beq_eq hg1)) rfl rfl (p_callq rfl (en_f Tryz.call147 rfl) ((False.elim (by cases hg1) : ∀ w, Holds B (row c3 [.slice none 0 0] 41 :: Fr) w → Calls Tryz.prog 147 [.slice none 0 0, .pointer none].toArray w (PureR B (row c3 [.slice none 0 0] 41 :: Fr) (.bool true)))) (.on rfl rfl (beq_eq hg1)) rfl rfl ?_))
    refine p_val rfl (ev_not rfl) (.on rfl rfl (beq_eq hg1)) rfl rfl (kPv (ev_pick_t rfl hg1 rfl) rfl ?_)
    exact p_seg rfl (sub_r rfl) (and_t hg1)
  · intro hg1
    refine p_skip rfl (.on rfl rfl (beq_ne hg1)) rfl (p_skip rfl (.on rfl rfl (beq_ne hg1)) rfl (p_skip rfl (.on rfl rfl (beq_ne hg1)) rfl (p_skip rfl (.on rfl rfl (beq_ne hg1)) rfl (kPv (ev_pick_f rfl hg1 rfl) rfl ?_))))
    exact p_seg rfl (sub_r rfl) (and_f hg1)
  refine p_nil (g_iff rfl (rfl) (g_skip ?_))
  exact end_none Tryz.results160 (fun w hw => ⟨rfl, hw⟩)
theorem mreached0_ok (B : World) (Fr : List HP) (bm br n : Nat) (c : Cfg) (hn : n ≤ 1000) :
    ∀ w, Holds B (mdlRow bm br n c :: nilRow br n :: Fr) w → Calls Tryz.prog 100 [ptr bm].toArray w (PureR B (mdlRow bm br n c :: nilRow br n :: Fr) (.slice none 0 0)) := by
  refine fn_enter Tryz.func100 rfl Tryz.ntmps100 rfl (g_seq (g_region (kPa rfl rfl (p_nil (g_seq (g_region (p_chg rfl (ch_alloc1 Tryz.zeroValue41 rfl) .free rfl rfl ?_)))))))
  rintro _ _ ⟨b3, rfl, rfl⟩
  refine p_nil (g_seq (g_region (kPv (ev_mkf rfl rfl) rfl (kPa rfl rfl (p_nil (g_seq (g_seq (g_region (kPm rfl rfl ?_)))))))))
  first | refine kPv (ev_nil rfl) rfl ?_ | refine kPv (ev_nilf rfl) rfl ?_
  refine kPv (ev_fa (m := _) fa_45_1 rfl rfl) rfl (kPv (ev_load Tryz.isAgg41 rfl rfl) rfl (kPv (ev_len rfl Tryz.runUnderlying41 ⟨_, rfl⟩ rfl) rfl (kPm rfl rfl (p_nil (g_block (g_loopk (ι := Nat) [17, 16, 4, 3, 2, 0] (fun k => (k ≤ n)) (fun k => [(18, i64 k)]) (fun k => row b3 [.slice none 0 0] 41 :: mdlRow bm br n c :: nilRow br n :: Fr) (fun k => n - k) (0) (Nat.zero_le _) (fun a w st => st.to ⟨rfl, trivial⟩ (fun hh => hh)) ?_))))))
  rintro k hk0
  try simp only at hk0 ⊢
  refine go_sub (σ' := [(18, i64 k), (17, _), (16, _), (4, _), (3, _), (2, _), (0, _)]) (sub_r rfl) (g_seq (g_region (kPv (ev_cmp rfl rfl rfl) rfl (p_nil (g_seq ?_)))))
  refine g_if rfl (fun h19 => ?_) (fun h19 => ?_)
  · have hk : k < n := by simpa using h19
    refine g_skip (g_seq (g_block (g_seq (g_region (kPv (ev_iaS Tryz.runUnderlying41 Tryz.sizeOf136 rfl rfl (by omega) (by omega)) rfl ?_)))))
    refine kPv (ev_loadS (v := .pointer none) Tryz.isAgg136 (show SlR B _ (Value.slice (some (⟨br, 0, none⟩ : Addr)) n n) (List.replicate n (Value.pointer none)) from SlR.row (b := br) (by simp) (by simp)) rfl (by simp [List.getElem?_replicate, hk])) rfl ?_
    refine kPa rfl rfl (p_nil (g_region (kPm rfl rfl (kPm rfl rfl ?_))))
    refine p_callq rfl (en_c Tryz.call160 rfl rfl) (msee0_ok B _ b3) .free rfl rfl ?_
    refine p_nil (go_sb [18, 17, 16, 4, 3, 2, 0] rfl (g_region ?_))
    first | refine p_val rfl (ev_add rfl rfl (wr64 (by omega))) .free rfl rfl ?_ | refine p_val rfl (ev_add rfl rfl rfl) .free rfl rfl ?_
    refine kPm rfl rfl (p_nil ?_)
    exact fun a w st_ => ⟨k + 1, by omega, by omega, st_.to (sub_r rfl) (fun hh => hh)⟩
  · skip
    refine g_exit (g_seq (g_seq (g_region (kPm rfl rfl ?_))))
    first | refine kPv (ev_nil rfl) rfl ?_ | refine kPv (ev_nilf rfl) rfl ?_
    refine kPv (ev_fa (m := _) fa_45_3 rfl rfl) rfl (kPv (ev_load Tryz.isAgg41 rfl rfl) rfl (kPv (ev_len rfl Tryz.runUnderlying41 ⟨_, rfl⟩ rfl) rfl (kPm rfl rfl (p_nil (go_sb [31, 30, 29, 4, 3, 2] rfl (g_block (g_loopk (ι := Nat) [30, 29, 4, 3, 2] (fun k2 => (k2 ≤ 0)) (fun k2 => [(31, i64 k2)]) (fun k2 => row b3 [.slice none 0 0] 41 :: mdlRow bm br n c :: nilRow br n :: Fr) (fun k2 => 0) (0) (Nat.zero_le _) (fun a w st => st.to ⟨rfl, trivial⟩ (fun hh => hh)) ?_)))))))
    rintro k2 hk20
    try simp only at hk20 ⊢
    refine go_sub (σ' := [(31, i64 k2), (30, _), (29, _), (4, _), (3, _), (2, _)]) (sub_r rfl) (g_seq (g_region (kPv (ev_cmp rfl rfl rfl) rfl (p_nil (g_seq (g_iff rfl ((by simp)) (g_exit (g_seq (g_seq (g_region (kPa rfl rfl ?_)))))))))))
    refine p_nil (g_block (g_loopk (ι := Nat) [4, 3, 2] (fun k3 => (k3 ≤ 0)) (fun k3 => [(9, i64 k3)]) (fun k3 => row b3 [.slice none 0 0] 41 :: mdlRow bm br n c :: nilRow br n :: Fr) (fun k3 => 0) (0) (Nat.zero_le _) (fun a w st => st.to ⟨rfl, trivial⟩ (fun hh => hh)) ?_))
    rintro k3 hk30
    try simp only at hk30 ⊢
    refine go_sub (σ' := [(9, i64 k3), (4, _), (3, _), (2, _)]) (sub_r rfl) (g_seq (g_seq (g_region (kPm rfl rfl (kPv (ev_load Tryz.isAgg41 rfl rfl) rfl (kPv (ev_len rfl Tryz.runUnderlying41 ⟨_, rfl⟩ rfl) rfl (kPv (ev_cmp rfl rfl rfl) rfl (p_nil (g_iff rfl ((by simp)) (g_exit (g_seq ?_)))))))))))
    refine g_region (kPv (ev_load Tryz.isAgg41 rfl rfl) rfl (kPa rfl rfl (p_nil (go_sb [2] rfl (g_ret ?_)))))
    exact ret_tmp Tryz.results100 rfl (fun w hw => ⟨rfl, (hw.dp [0])⟩)
theorem msize0_ok (B : World) (Fr : List HP) (bm br n : Nat) (c : Cfg) (hn : n ≤ 1000) :
    ∀ w, Holds B (mdlRow bm br n c :: nilRow br n :: Fr) w → Calls Tryz.prog 31 [ptr bm].toArray w (PureR B (mdlRow bm br n c :: nilRow br n :: Fr) (i64 0)) := by
  refine fn_enter Tryz.func31 rfl Tryz.ntmps31 rfl (g_seq (g_region (kPa rfl rfl (p_nil (g_seq (g_region (kPa rfl rfl (p_nil (g_seq (g_seq (g_region ?_)))))))))))
  refine kPm rfl rfl (p_callq rfl (en_f Tryz.call100 rfl) (mreached0_ok B _ bm br n c hn) .free rfl rfl ?_)
  refine kPv (ev_len rfl Tryz.runUnderlying41 ⟨_, rfl⟩ rfl) rfl (kPm rfl rfl (p_nil (g_block (g_loopk (ι := Nat) [8, 7, 3, 2] (fun k => (k ≤ 0)) (fun k => [(9, i64 k)]) (fun k => mdlRow bm br n c :: nilRow br n :: Fr) (fun k => 0) (0) (Nat.zero_le _) (fun a w st => st.to ⟨rfl, trivial⟩ (fun hh => hh)) ?_))))
  rintro k hk0
  try simp only at hk0 ⊢
  refine go_sub (σ' := [(9, i64 k), (8, _), (7, _), (3, _), (2, _)]) (sub_r rfl) (g_seq (g_region (kPv (ev_cmp rfl rfl rfl) rfl (p_nil (g_seq (g_iff rfl ((by simp)) (g_exit (g_seq (g_region (kPm rfl rfl (kPa rfl rfl ?_)))))))))))
  refine p_nil (g_ret ?_)
  exact ret_tmp Tryz.results31 rfl (fun w hw => ⟨rfl, hw⟩)
theorem mlive0_ok (B : World) (Fr : List HP) (bm br n : Nat) (c : Cfg) (hn : n ≤ 1000) :
    ∀ w, Holds B (mdlRow bm br n c :: nilRow br n :: Fr) w → Calls Tryz.prog 107 [ptr bm].toArray w (PureR B (mdlRow bm br n c :: nilRow br n :: Fr) (i64 0)) := by
  refine fn_enter Tryz.func107 rfl Tryz.ntmps107 rfl (g_seq (g_region (kPa rfl rfl (p_nil (g_seq (g_region (kPa rfl rfl (p_nil (g_seq (g_seq (g_region ?_)))))))))))
  refine kPm rfl rfl ?_
  first | refine kPv (ev_nil rfl) rfl ?_ | refine kPv (ev_nilf rfl) rfl ?_
  refine kPv (ev_fa (m := _) fa_45_3 rfl rfl) rfl (kPv (ev_load Tryz.isAgg41 rfl rfl) rfl (kPv (ev_len rfl Tryz.runUnderlying41 ⟨_, rfl⟩ rfl) rfl (kPm rfl rfl (p_nil (g_block (g_loopk (ι := Nat) [10, 9, 3, 2] (fun k => (k ≤ 0)) (fun k => [(11, i64 k)]) (fun k => mdlRow bm br n c :: nilRow br n :: Fr) (fun k => 0) (0) (Nat.zero_le _) (fun a w st => st.to ⟨rfl, trivial⟩ (fun hh => hh)) ?_))))))
  rintro k hk0
  try simp only at hk0 ⊢
  refine go_sub (σ' := [(11, i64 k), (10, _), (9, _), (3, _), (2, _)]) (sub_r rfl) (g_seq (g_region (kPv (ev_cmp rfl rfl rfl) rfl (p_nil (g_seq (g_iff rfl ((by simp)) (g_exit (g_seq (g_region (kPm rfl rfl (kPa rfl rfl ?_)))))))))))
  refine p_nil (g_ret ?_)
  exact ret_tmp Tryz.results107 rfl (fun w hw => ⟨rfl, hw⟩)
theorem pure_pk {B : World} {P : Program} {f : FuncId} {vs : Array Value} {v : Value} {H H1 : List HP} (is js : List Nat) [PickT is H H1] [PickT js H1 H] (h : ∀ w, Holds B H1 w → Calls P f vs w (PureR B H1 v)) : ∀ w, Holds B H w → Calls P f vs w (PureR B H v) :=
  fun w hw => (h w (hw.pk is)).mono fun _ _ ⟨h1, h2⟩ => ⟨h1, h2.pk js⟩
theorem mis0_ok (B : World) (Fr : List HP) (bm br n : Nat) (c : Cfg) (hn : n ≤ 1000) (bh : Nat) (h : HpS) (s : Dev) (hW : HepW h s) (hst : h.stats s = ⟨0, 0, 0, 0, false⟩) (hck : s.check h.c = 0) :
    ∀ w, Holds B (HepA bh h :: DevA h.bd s :: mdlRow bm br n c :: nilRow br n :: Fr) w → Calls Tryz.prog 47 [ptr bm, ptr bh].toArray w (PureR B (HepA bh h :: DevA h.bd s :: mdlRow bm br n c :: nilRow br n :: Fr) (.bool true)) := by
  refine fn_enter Tryz.func47 rfl Tryz.ntmps47 rfl (g_seq (g_region (kPa rfl rfl (p_nil (g_seq (g_region (kPm rfl rfl (p_callq rfl (en_f Tryz.call22 rfl) (hstats_ok B _ bh h s hW) .free rfl rfl ?_))))))))
  rw [hst]
  refine p_chg rfl (ch_allocA Tryz.zeroValue58 rfl) .free rfl rfl ?_
  rintro _ _ ⟨b5, rfl, rfl⟩
  refine p_chg0 rfl (ch_storeA (vs := _) Tryz.sizeOf58 rfl rfl rfl rfl rfl) .free rfl ?_
  rintro _ _ rfl
  refine p_nil (g_seq (go_conv (H' := row b5 [i64 0, i64 0, i64 0, i64 0, .bool false] 58 :: _) (fun w hh => hh) (go_pk [3, 3, 1, 1, 0] (g_draw Tryz.mixed (by kernel_rfl) (by kernel_rfl) ?_))))
  refine kQv (ev_fa (m := _) fa_58_0 rfl rfl) rfl (kQv (ev_load Tryz.isAgg3 rfl rfl) rfl (kQm rfl rfl ?_))
  first | refine kQv (ev_nil rfl) rfl ?_ | refine kQv (ev_nilf rfl) rfl ?_
  refine kQv (ev_fa (m := _) fa_45_2 rfl rfl) rfl (kQv (ev_load Tryz.isAgg3 rfl rfl) rfl (kQv (ev_cmp rfl rfl rfl) rfl (kQm rfl rfl ?_)))
  apply q_and (tp := 21) (t := 15) (σ1 := [(15, _), (5, _), (4, _), (0, _), (1, _)]) 6 rfl (sub_r rfl)
  · intro hg1
    refine q_val rfl (ev_fa (m := _) fa_58_1 rfl rfl) (.on rfl rfl (beq_eq hg1)) rfl (q_val rfl (ev_load Tryz.isAgg3 rfl rfl) (.on rfl rfl (beq_eq hg1)) rfl (q_val rfl (ev_move rfl) (.on rfl rfl (beq_eq hg1)) rfl (q_call rfl (en_f Tryz.call31 rfl) (msize0_ok B _ bm br n c hn) (.on rfl rfl (beq_eq hg1)) rfl ?_)))
    refine q_val rfl (ev_cmp rfl rfl rfl) (.on rfl rfl (beq_eq hg1)) rfl (kQv (ev_pick_t rfl hg1 rfl) rfl ?_)
    exact q_seg rfl (sub_r rfl) (and_t hg1)
  · intro hg1
    refine q_skip rfl (.on rfl rfl (beq_ne hg1)) rfl (q_skip rfl (.on rfl rfl (beq_ne hg1)) rfl (q_skip rfl (.on rfl rfl (beq_ne hg1)) rfl (q_skip rfl (.on rfl rfl (beq_ne hg1)) rfl (q_skip rfl (.on rfl rfl (beq_ne hg1)) rfl (kQv (ev_pick_f rfl hg1 rfl) rfl ?_)))))
    exact q_seg rfl (sub_r rfl) (and_f hg1)
  refine kQm rfl rfl ?_
  apply q_and (tp := 28) (t := 22) (σ1 := [(22, _), (5, _), (4, _), (0, _), (1, _)]) 6 rfl (sub_r rfl)
  · intro hg2
    refine q_val rfl (ev_fa (m := _) fa_58_2 rfl rfl) (.on rfl rfl (beq_eq hg2)) rfl (q_val rfl (ev_load Tryz.isAgg3 rfl rfl) (.on rfl rfl (beq_eq hg2)) rfl (q_val rfl (ev_move rfl) (.on rfl rfl (beq_eq hg2)) rfl (q_call rfl (en_f Tryz.call107 rfl) (mlive0_ok B _ bm br n c hn) (.on rfl rfl (beq_eq hg2)) rfl ?_)))
    refine q_val rfl (ev_cmp rfl rfl rfl) (.on rfl rfl (beq_eq hg2)) rfl (kQv (ev_pick_t rfl hg2 rfl) rfl ?_)
    exact q_seg rfl (sub_r rfl) (and_t hg2)
  · intro hg2
    refine q_skip rfl (.on rfl rfl (beq_ne hg2)) rfl (q_skip rfl (.on rfl rfl (beq_ne hg2)) rfl (q_skip rfl (.on rfl rfl (beq_ne hg2)) rfl (q_skip rfl (.on rfl rfl (beq_ne hg2)) rfl (q_skip rfl (.on rfl rfl (beq_ne hg2)) rfl (kQv (ev_pick_f rfl hg2 rfl) rfl ?_)))))
    exact q_seg rfl (sub_r rfl) (and_f hg2)
  refine kQm rfl rfl ?_
  apply q_and (tp := 38) (t := 29) (σ1 := [(29, _), (5, _), (4, _), (0, _), (1, _)]) 9 rfl (sub_r rfl)
  · intro hg3
    refine q_val rfl (ev_fa (m := _) fa_58_3 rfl rfl) (.on rfl rfl (beq_eq hg3)) rfl (q_val rfl (ev_load Tryz.isAgg3 rfl rfl) (.on rfl rfl (beq_eq hg3)) rfl (q_val rfl (ev_move rfl) (.on rfl rfl (beq_eq hg3)) rfl ?_))
    first | refine q_val rfl (ev_nil rfl) (.on rfl rfl (beq_eq hg3)) rfl ?_ | refine q_val rfl (ev_nilf rfl) (.on rfl rfl (beq_eq hg3)) rfl ?_
    refine q_val rfl (ev_fa (m := _) fa_45_5 rfl rfl) (.on rfl rfl (beq_eq hg3)) rfl (q_val rfl (ev_load Tryz.isAgg42 rfl rfl) (.on rfl rfl (beq_eq hg3)) rfl (q_val rfl (ev_len rfl Tryz.runUnderlying42 ⟨_, rfl⟩ rfl) (.on rfl rfl (beq_eq hg3)) rfl (q_val rfl (ev_cmp rfl rfl rfl) (.on rfl rfl (beq_eq hg3)) rfl (kQv (ev_pick_t rfl hg3 rfl) rfl ?_))))
    exact q_seg rfl (sub_r rfl) (and_t hg3)
  · intro hg3
    refine q_skip rfl (.on rfl rfl (beq_ne hg3)) rfl (q_skip rfl (.on rfl rfl (beq_ne hg3)) rfl (q_skip rfl (.on rfl rfl (beq_ne hg3)) rfl (q_skip rfl (.on rfl rfl (beq_ne hg3)) rfl (q_skip rfl (.on rfl rfl (beq_ne hg3)) rfl (q_skip rfl (.on rfl rfl (beq_ne hg3)) rfl (q_skip rfl (.on rfl rfl (beq_ne hg3)) rfl (q_skip rfl (.on rfl rfl (beq_ne hg3)) rfl (kQv (ev_pick_f rfl hg3 rfl) rfl ?_))))))))
    exact q_seg rfl (sub_r rfl) (and_f hg3)
  refine kQm rfl rfl ?_
  apply q_and (tp := 47) (t := 39) (σ1 := [(39, _), (4, _), (1, _)]) 8 rfl (sub_r rfl)
  · intro hg4
    refine q_val rfl (ev_fa (m := _) fa_58_4 rfl rfl) (.on rfl rfl (beq_eq hg4)) rfl (q_val rfl (ev_load Tryz.isAgg4 rfl rfl) (.on rfl rfl (beq_eq hg4)) rfl (q_val rfl (ev_move rfl) (.on rfl rfl (beq_eq hg4)) rfl ?_))
    first | refine q_val rfl (ev_nil rfl) (.on rfl rfl (beq_eq hg4)) rfl ?_ | refine q_val rfl (ev_nilf rfl) (.on rfl rfl (beq_eq hg4)) rfl ?_
    refine q_val rfl (ev_fa (m := _) fa_45_4 rfl rfl) (.on rfl rfl (beq_eq hg4)) rfl (q_val rfl (ev_load Tryz.isAgg4 rfl rfl) (.on rfl rfl (beq_eq hg4)) rfl (q_val rfl (ev_eqb Tryz.runUnderlying4 rfl rfl rfl) (.on rfl rfl (beq_eq hg4)) rfl (kQv (ev_pick_t rfl hg4 rfl) rfl ?_)))
    exact q_seg rfl (sub_r rfl) (and_t hg4)
  · intro hg4
    refine q_skip rfl (.on rfl rfl (beq_ne hg4)) rfl (q_skip rfl (.on rfl rfl (beq_ne hg4)) rfl (q_skip rfl (.on rfl rfl (beq_ne hg4)) rfl (q_skip rfl (.on rfl rfl (beq_ne hg4)) rfl (q_skip rfl (.on rfl rfl (beq_ne hg4)) rfl (q_skip rfl (.on rfl rfl (beq_ne hg4)) rfl (q_skip rfl (.on rfl rfl (beq_ne hg4)) rfl (kQv (ev_pick_f rfl hg4 rfl) rfl ?_)))))))
    exact q_seg rfl (sub_r rfl) (and_f hg4)
  refine kQm rfl rfl ?_
  apply q_and (tp := 52) (t := 48) (σ1 := [(48, _), (4, _)]) 4 rfl ⟨rfl, rfl, trivial⟩
  · intro hg5
    refine q_val rfl (ev_move rfl) (.on rfl rfl (beq_eq hg5)) rfl (q_call rfl (en_f Tryz.call39 rfl) (pure_pk [2, 2] [2, 2] (hpcheck_ok B _ bh h s hW)) (.on rfl rfl (beq_eq hg5)) rfl ?_)
    refine q_val rfl (ev_cmp rfl rfl rfl) (.on rfl rfl (beq_eq hg5)) rfl (kQv (ev_pick_t rfl hg5 rfl) rfl ?_)
    exact q_seg rfl ⟨rfl, rfl, trivial⟩ (and_t hg5)
  · intro hg5
    refine q_skip rfl (.on rfl rfl (beq_ne hg5)) rfl (q_skip rfl (.on rfl rfl (beq_ne hg5)) rfl (q_skip rfl (.on rfl rfl (beq_ne hg5)) rfl (kQv (ev_pick_f rfl hg5 rfl) rfl ?_)))
    exact q_seg rfl ⟨rfl, rfl, trivial⟩ (and_f hg5)
  refine kQa rfl rfl (q_nil (g_ret ?_))
  exact ret_tmp Tryz.results47 rfl (fun w hw => ⟨by rw [hck]; rfl, ((hw.dp [4]).pk [2, 2])⟩)
end Go.Proofs.YtlcibdhmgclfjaaGreat
namespace Go.Proofs.YtlcibdhmgclfjaaGreat
open Go
theorem opened_ok (B : World) (Fr : List HP) (x0 x1 x2 : Int) (hx : 0 ≤ x0 ∧ 0 ≤ x1 ∧ 0 ≤ x2) (c : Cfg) (hcm : c = mkC x0 x1 x2) :
    ∀ w, Holds B Fr w → Calls Tryz.prog 10 [.agg #[u16 x0, u16 x1, u16 x2], .slice none 0 0].toArray w (Ret B (fun rv H' => ∃ (bd bh bm br N : Nat) (s : Dev), (N : Int) = c.words ∧ HC True c N bd (heapOf bd c s) s 0 0 [] ∧ rv = .tuple #[ptr bd, ptr bh, ptr bm] ∧ H' = HepA bh (heapOf bd c s) :: DevA bd s :: mdlRow bm br c.roots.toNat c :: nilRow br c.roots.toNat :: Fr) (fun _ _ => False)) := by
  refine fn_enter Tryz.func10 rfl Tryz.ntmps10 rfl ?_
  have hc : CfgW c := by rw [hcm]; exact mkC_w hx.1 hx.2.1 hx.2.2
  have hA := act_w hc
  have hr1 := hc.r1
  refine g_seq (g_region (p_chg rfl (ch_boxA rfl) .free rfl rfl ?_))
  rintro _ _ ⟨b2, rfl, rfl⟩
  refine kPa rfl rfl (kPa rfl rfl (kPa rfl rfl (p_nil (g_seq (g_region (kPv (ev_loadA Tryz.isAgg24 Tryz.sizeOf24 rfl rfl) rfl ?_))))))
  refine p_callq rfl (en_f Tryz.call48 rfl) (make_ok _ _ x0 x1 x2 hx.1 hx.2.1 hx.2.2) .free rfl rfl ?_
  refine p_chg rfl (ch_allocA Tryz.zeroValue40 rfl) .free rfl rfl ?_
  rintro _ _ ⟨b7, rfl, rfl⟩
  refine p_chg0 rfl (ch_storeA (vs := _) Tryz.sizeOf40 rfl rfl rfl rfl rfl) .free rfl ?_
  rintro _ _ rfl
  refine p_nil (g_seq ?_)
  rw [← hcm]
  refine g_region (kPv (ev_loadA Tryz.isAgg40 Tryz.sizeOf40 rfl rfl) rfl ?_)
  refine kPm rfl rfl ?_
  refine p_call rfl (en_f Tryz.call49 rfl) (formatted_ok _ _ c hc none 0 [] (by decide) (fun _ h => absurd h (Nat.not_lt_zero _)) SlR.nil) .free rfl rfl ?_ ?_
  rotate_left
  · rintro _ _ ⟨⟩
  rintro _ _ ⟨bd, pa, N, s0, hN, hf, rfl, rfl⟩
  have hfm := fmt_of hc hN hf
  have hu0 := format_u64 (dev0_u64 pa N) hc hf
  have hOk := hfm.okd hc hN hu0
  have hHC := hfm.hc hc hN hu0 bd
  have hsn := hfm.n
  refine kPm rfl rfl (kPv (ev_ext rfl rfl) rfl (kPv (ev_ext rfl rfl) rfl (kPa rfl rfl (kPa rfl rfl (p_nil (go_sb [9, 8, 7, 6, 5, 4] rfl (g_seq (g_seq (g_region (kPm rfl rfl (kPv (ev_not rfl) rfl ?_)))))))))))
  refine p_nil (g_iff rfl (rfl) (g_skip (g_seq (g_region (kPm rfl rfl ?_)))))
  refine p_call rfl (en_f Tryz.call19 rfl) (hpopen_ok B _ bd s0 hu0 (by omega)) .free rfl rfl ?_ ?_
  rotate_left
  · rintro _ _ ⟨s9, hE, hun, rfl, rfl⟩
    exact (hOk.noff hun).elim
  rintro _ _ hor
  rcases hor with ⟨e, he, hE, _, _⟩ | ⟨bh, L', s', hE, hun, rfl, rfl⟩
  · exact absurd (hOk.open_ hc hE) he
  obtain rfl := hOk.undo hun
  rw [show s'.readC.1 = c by rw [hOk.rc]]
  refine kPm rfl rfl (kPv (ev_ext rfl rfl) rfl (kPv (ev_ext rfl rfl) rfl (kPa rfl rfl (kPa rfl rfl (p_nil (go_sb [11, 10, 8, 7, 6, 5, 4] rfl (g_seq (g_seq (g_region (kPm rfl rfl (kPv (ev_cmp rfl rfl rfl) rfl ?_)))))))))))
  refine kPm rfl rfl ?_
  apply p_or (tp := 32) (t := 29) (σ1 := [(29, _), (10, _), (8, _), (7, _), (6, _), (5, _), (4, _)]) 3 rfl (sub_r rfl)
  · intro hg1
    refine p_val rfl (ev_move rfl) (.on rfl rfl (beq_eq hg1)) rfl rfl (p_val rfl (ev_eqp Tryz.runUnderlying29 rfl rfl rfl) (.on rfl rfl (beq_eq hg1)) rfl rfl (kPv (ev_pick_f rfl hg1 rfl) rfl ?_))
    exact p_seg rfl (sub_r rfl) (or_f hg1)
  · intro hg1
    refine p_skip rfl (.on rfl rfl (beq_ne hg1)) rfl (p_skip rfl (.on rfl rfl (beq_ne hg1)) rfl (kPv (ev_pick_t rfl hg1 rfl) rfl ?_))
    exact p_seg rfl (sub_r rfl) (or_t hg1)
  refine p_nil (g_iff rfl (rfl) (g_skip (g_seq (g_region (kPm rfl rfl (kPm rfl rfl (kPv (ev_loadA Tryz.isAgg40 Tryz.sizeOf40 rfl rfl) rfl ?_)))))))
  refine p_call rfl (en_f Tryz.call50 rfl) (mnew_ok B _ c hc c.roots.toNat (by omega)) .free rfl rfl ?_ ?_
  rotate_left
  · rintro _ _ ⟨⟩
  rintro _ _ ⟨bm, br, rfl, rfl⟩
  refine kPa rfl rfl (kPa rfl rfl (kPa rfl rfl (p_nil (go_sb [6, 5, 4] rfl (g_ret ?_)))))
  exact ret_3 Tryz.results10 (.tmp rfl) (.tmp rfl) (.tmp rfl) (fun w hw => ⟨_, ⟨bd, bh, bm, br, N, _, hN, hHC, rfl, rfl⟩, ((hw.dp [4, 4]).pk [2, 2])⟩)
end Go.Proofs.YtlcibdhmgclfjaaGreat
namespace Go.Proofs.YtlcibdhmgclfjaaGreat
open Go
theorem calls_out {B : World} {P : Program} {f : FuncId} {vs : Array Value} {bh bd : Nat} {Fr : List HP} {α : Type} {m : Out (α × HpS)} {enc : α → Value} {a : α} {h' : HpS} {s' : Dev} (e : m = .ok (a, h') s') {w : World} (h : Calls P f vs w (Ret B (fun rv H' => ∃ a h' s', m = .ok (a, h') s' ∧ rv = enc a ∧ H' = HepA bh h' :: DevA bd s' :: Fr) (fun ch H' => ∃ s', m = .off s' ∧ ch = offc ∧ H' = DevA bd s' :: Fr))) :
    Calls P f vs w (Ret B (fun rv H' => rv = enc a ∧ H' = HepA bh h' :: DevA bd s' :: Fr) (fun _ _ => False)) :=
  h.mono (Ret.mono (fun rv H' ⟨a1, h1, s1, e1, e2, e3⟩ => by rw [e] at e1; cases e1; exact ⟨e2, e3⟩) (fun ch H' ⟨s1, e1, _⟩ => by rw [e] at e1; cases e1))
theorem begin_x {h h' : HpS} {s s' : Dev} {room : Int} (ho : h.o = false) (hb : h.begR s room 0 h' s') : h'.X = none := by
  rcases hb with ⟨h1, _⟩ | ⟨_, _, h1, _⟩ | ⟨_, _, a1, h1, s1, hor, hor2⟩
  · rw [ho] at h1; cases h1
  · cases h1
  rcases hor2 with ⟨h3, h4, _⟩ | ⟨_, _, h4, _⟩ | ⟨rfl, _, _, rfl, _⟩
  · exact absurd h4.symm h3
  · cases h4
  · rcases hor with ⟨_, h2⟩ | ⟨_, _, rfl, _⟩
    · rcases h2 with ⟨h5, _⟩ | ⟨_, X, s2, _, S', _, hor3⟩
      · rw [show h.o = true from h5] at ho; cases ho
      · rcases hor3 with ⟨_, rfl⟩ | ⟨_, ord, _, rfl⟩ <;> rfl
    · rfl
section
variable {B : World} {Fr : List HP} {bh bd : Nat} {h h' : HpS} {s s' : Dev}
theorem writeW (hW : HepW h s) (hb : h.bd = bd) {n i v x : Int} (hv : 0 ≤ v ∧ v < 18446744073709551616) (e : h.write s n i v = .ok (x, h') s') : ∀ w, Holds B (HepA bh h :: DevA bd s :: Fr) w → Calls Tryz.prog 14 [ptr bh, i64 n, i64 i, w64 v].toArray w (Ret B (fun rv H' => rv = i64 x ∧ H' = HepA bh h' :: DevA bd s' :: Fr) (fun _ _ => False)) := by
  subst hb; exact fun w hw => calls_out e (hwrite_ok B Fr bh h s hW n i v hv w hw)
theorem pointW (hW : HepW h s) (hb : h.bd = bd) {n i t x : Int} (e : h.point s n i t = .ok (x, h') s') : ∀ w, Holds B (HepA bh h :: DevA bd s :: Fr) w → Calls Tryz.prog 23 [ptr bh, i64 n, i64 i, i64 t].toArray w (Ret B (fun rv H' => rv = i64 x ∧ H' = HepA bh h' :: DevA bd s' :: Fr) (fun _ _ => False)) := by
  subst hb; exact fun w hw => calls_out e (hpoint_ok B Fr bh h s hW n i t w hw)
theorem setW (hW : HepW h s) (hb : h.bd = bd) {i t x : Int} (e : h.setRoot s i t = .ok (x, h') s') : ∀ w, Holds B (HepA bh h :: DevA bd s :: Fr) w → Calls Tryz.prog 13 [ptr bh, i64 i, i64 t].toArray w (Ret B (fun rv H' => rv = i64 x ∧ H' = HepA bh h' :: DevA bd s' :: Fr) (fun _ _ => False)) := by
  subst hb; exact fun w hw => calls_out e (hset_ok B Fr bh h s hW i t w hw)
theorem commitW (hW : HepW h s) (hb : h.bd = bd) {x : Int} (e : h.commit s = .ok (x, h') s') : ∀ w, Holds B (HepA bh h :: DevA bd s :: Fr) w → Calls Tryz.prog 15 [ptr bh].toArray w (Ret B (fun rv H' => rv = i64 x ∧ H' = HepA bh h' :: DevA bd s' :: Fr) (fun _ _ => False)) := by
  subst hb; exact fun w hw => calls_out e (hcommit_ok B Fr bh h s hW  w hw)
theorem allocW (hW : HepW h s) (hb : h.bd = bd) {w_ r at_ x : Int} (e : h.alloc s w_ r = .ok ((at_, x), h') s') : ∀ w, Holds B (HepA bh h :: DevA bd s :: Fr) w → Calls Tryz.prog 12 [ptr bh, .agg #[i64 w_, i64 r]].toArray w (Ret B (fun rv H' => rv = .tuple #[i64 at_, i64 x] ∧ H' = HepA bh h' :: DevA bd s' :: Fr) (fun _ _ => False)) := by
  subst hb; exact fun w hw => calls_out (enc := fun a : Int × Int => .tuple #[i64 a.1, i64 a.2]) e (hpalloc_ok B Fr bh h s hW w_ r w hw)
theorem statsW (hW : HepW h s) (hb : h.bd = bd) : ∀ w, Holds B (HepA bh h :: DevA bd s :: Fr) w → Calls Tryz.prog 22 [ptr bh].toArray w (PureR B (HepA bh h :: DevA bd s :: Fr) (statV (h.stats s))) := by
  subst hb; exact hstats_ok B Fr bh h s hW
theorem headW (hW : HepW h s) (hb : h.bd = bd) (n : Int) : ∀ w, Holds B (HepA bh h :: DevA bd s :: Fr) w → Calls Tryz.prog 27 [ptr bh, i64 n].toArray w (PureR B (HepA bh h :: DevA bd s :: Fr) (.tuple #[.agg #[i64 (h.obj s n).1.1, i64 (h.obj s n).1.2.1], i64 (h.obj s n).2])) := by
  subst hb; exact hhead_ok B Fr bh h s hW n
theorem rootW (hW : HepW h s) (hb : h.bd = bd) (i : Int) : ∀ w, Holds B (HepA bh h :: DevA bd s :: Fr) w → Calls Tryz.prog 20 [ptr bh, i64 i].toArray w (Ret B (fun rv H' => rv = .tuple #[i64 (h.root s i).1.1, i64 (h.root s i).1.2] ∧ H' = HepA bh (h.root s i).2 :: DevA bd s :: Fr) (fun _ _ => False)) := by
  subst hb; exact hroot_ok B Fr bh h s hW i
theorem refW (hW : HepW h s) (hb : h.bd = bd) (n i : Int) : ∀ w, Holds B (HepA bh h :: DevA bd s :: Fr) w → Calls Tryz.prog 25 [ptr bh, i64 n, i64 i].toArray w (Ret B (fun rv H' => rv = .tuple #[i64 (h.ref s n i).1.1, i64 (h.ref s n i).1.2] ∧ H' = HepA bh (h.ref s n i).2 :: DevA bd s :: Fr) (fun _ _ => False)) := by
  subst hb; exact href_ok B Fr bh h s hW n i
theorem dropW (hW : HepW h s) (hb : h.bd = bd) (n : Int) : ∀ w, Holds B (HepA bh h :: DevA bd s :: Fr) w → Calls Tryz.prog 26 [ptr bh, i64 n].toArray w (Ret B (fun rv H' => rv = i64 (if (mget h.T.at_ n).isSome = true then 0 else 6) ∧ H' = HepA bh { h with T := h.T.drop n } :: DevA bd s :: Fr) (fun _ _ => False)) := by
  subst hb; exact hpdrop_ok B Fr bh h s hW n
theorem beginW {kp : Prop} {c : Cfg} (hc : CfgW c) {N : Nat} {a u : Int} {L : List Int} (H : HC kp c N bd h s a u L) {room : Int} (h0 : 0 ≤ room) (hr : ¬ c.space - u < room) : ∀ w, Holds B (HepA bh h :: DevA bd s :: Fr) w → Calls Tryz.prog 11 [ptr bh, i64 room].toArray w (Ret B (fun rv H' => ∃ h', h'.X = none ∧ h'.T = h.T ∧ HO kp c N bd s.now [] h' s a u u L ∧ rv = i64 0 ∧ H' = HepA bh h' :: DevA bd s :: Fr) (fun _ _ => False)) := by
  have hb := H.hbd
  subst hb
  refine fun w hw => (hbegin_ok B Fr bh h s H.hw H.bok room w hw).mono (Ret.mono ?_ ?_)
  · rintro rv H' ⟨x, h', s', hb, rfl, rfl⟩
    obtain ⟨rfl, rfl, hT, HO'⟩ := H.begin hc h0 hr hb
    have hx : h'.X = none := begin_x H.ho hb
    exact ⟨h', hx, hT, HO', rfl, rfl⟩
  · rintro ch H' ⟨s', ⟨_, h1, _⟩, _⟩
    rw [H.blk, H.hcc] at h1
    exact absurd h1 hr
end
end Go.Proofs.YtlcibdhmgclfjaaGreat
namespace Go.Proofs.YtlcibdhmgclfjaaGreat
open Go
theorem seeN {s : Dev} {c : Cfg} {b : Blk} (h0 : b.has c 0 = false) : ∀ (ws : List Int) (x : SeenS), (∀ v ∈ ws, v = 0) → ws.foldl (s.see c b) x = x
  | [], _, _ => rfl
  | v :: t, x, h => by
    have hv := h v (List.mem_cons_self ..)
    subst hv
    simp only [List.foldl_cons]
    rw [show s.see c b x 0 = x from by unfold Dev.see; rw [if_pos (.inr h0)]]
    exact seeN h0 t x fun v hv => h v (List.mem_cons_of_mem _ hv)
theorem reach_nought {s : Dev} {c : Cfg} (hc : CfgW c) {b : Blk} (hb : BlkW c b) {ws : List Int} (h : ∀ v ∈ ws, v = 0) : s.reachSize c b ws = 0 := by
  have h1 := hb.act
  have h4 := frm_b hc (k := b.act) (by omega)
  have h0 : b.has c 0 = false := by unfold Blk.has; simp; omega
  unfold Dev.reachSize Dev.reach
  rw [seeN h0 ws _ h]
  unfold Dev.reachL
  rfl
theorem hc_stats0 {kp : Prop} {c : Cfg} (hc : CfgW c) {N bd : Nat} {h : HpS} {s : Dev} {a : Int} (H : HC kp c N bd h s a 0 []) (hT : h.T.at_ = []) : h.stats s = ⟨0, 0, 0, 0, false⟩ := by
  have hz : ∀ v ∈ h.words ++ (h.blk s).rts, v = 0 := fun v hv => by
    rcases List.mem_append.1 hv with hv | hv
    · unfold HpS.words at hv
      rw [hT] at hv
      simp [sortI] at hv
    · rw [H.blk] at hv
      exact (H.hm.heap.roots v hv).resolve_right fun h => by cases h
  unfold HpS.stats
  rw [hT, H.sk.ln, H.ho, reach_nought H.hw.c (block_w H.hw.c H.hw.u) hz, H.blk]
  rfl
theorem isW {B : World} {Fr : List HP} {bm br n bh bd : Nat} {c : Cfg} {h : HpS} {s : Dev} (hn : n ≤ 1000) (hW : HepW h s) (hb : h.bd = bd) (hst : h.stats s = ⟨0, 0, 0, 0, false⟩) (hck : s.check h.c = 0) : ∀ w, Holds B (HepA bh h :: DevA bd s :: mdlRow bm br n c :: nilRow br n :: Fr) w → Calls Tryz.prog 47 [ptr bm, ptr bh].toArray w (PureR B (HepA bh h :: DevA bd s :: mdlRow bm br n c :: nilRow br n :: Fr) (.bool true)) := by
  subst hb; exact mis0_ok B Fr bm br n c hn bh h s hW hst hck
theorem HC.check {kp : Prop} {c : Cfg} (hc : CfgW c) {N bd : Nat} {h : HpS} {s : Dev} {a u : Int} {L : List Int} (H : HC kp c N bd h s a u L) : s.check h.c = 0 := by
  rw [H.hcc]; exact heap_check hc H.hw.u H.hm.block H.hm.heap
theorem take_first {p : Int} (hp : p ≠ 0) : (⟨[], [], 0⟩ : TabS).take p = (1, ⟨[(1, p)], [(p, 1)], 1⟩) := by
  unfold TabS.take
  rw [if_neg hp, if_neg (by simp [mget])]
  rfl
theorem new_obj {m : Int → Int} {k w r : Int} (h : 0 ≤ r ∧ r ≤ w ∧ w ≤ 64) (e : m k = packI w r) : orf m k = r ∧ osz m k = w + 1 := by
  unfold orf osz
  rw [e, unp_pack h]; exact ⟨rfl, rfl⟩
theorem awake17_ok (B : World) (Fr : List HP) :
    ∀ w, Holds B Fr w → Calls Tryz.prog 9 [].toArray w (PureR B Fr (.bool true)) := by
  refine fn_enter Tryz.func9 rfl Tryz.ntmps9 rfl ?_
  obtain ⟨c, hcm, hcs, hcl, hcr⟩ : ∃ c, c = mkC 0 0 40 ∧ c.space = 48 ∧ c.log = 3 ∧ c.roots = 1 := ⟨_, rfl, rfl, rfl, rfl⟩
  have hc : CfgW c := by rw [hcm]; exact mkC_w (by decide) (by decide) (by decide)
  have hA := act_w hc
  have hf0 := frmA hc (a := 0) (by decide)
  refine g_seq (g_region (kPa rfl rfl (p_nil (g_seq (g_seq (g_region (p_callq rfl (en_f Tryz.call46 rfl) (awake16_ok _ _) .free rfl rfl ?_)))))))
  refine kPv (ev_not rfl) rfl (p_nil (g_iff rfl (rfl) (g_skip (g_seq (g_region (kPv (ev_build rfl (bld_24_2 _ rfl)) rfl ?_))))))
  refine p_call rfl (en_f Tryz.call10 rfl) (opened_ok B _ 0 0 40 (by decide) c hcm) .free rfl rfl ?_ ?_
  rotate_left
  · rintro _ _ ⟨⟩
  rintro _ _ ⟨bd, bh, bm, br, N, s, hN, H0, rfl, rfl⟩
  obtain ⟨h0, hh0⟩ : ∃ h0 : HpS, h0 = heapOf bd c s := ⟨_, rfl⟩
  rw [← hh0] at H0 ⊢
  have hT0 : h0.T = ⟨[], [], 0⟩ := by rw [hh0]; rfl
  refine kPm rfl rfl (kPv (ev_ext rfl rfl) rfl (kPv (ev_ext rfl rfl) rfl (kPv (ev_ext rfl rfl) rfl (kPa rfl rfl (kPa rfl rfl (kPa rfl rfl (p_nil (go_sb [3, 2, 0] rfl (g_seq (g_seq (g_region ?_)))))))))))
  refine kPm rfl rfl (kPv (ev_eqp Tryz.runUnderlying29 rfl rfl rfl) rfl (kPm rfl rfl (p_val rfl (ev_move rfl) (.on rfl rfl (beq_eq rfl)) rfl rfl (p_val rfl (ev_move rfl) (.on rfl rfl (beq_eq rfl)) rfl rfl (p_callq rfl (en_f Tryz.call47 rfl) (isW (by omega) H0.hw H0.hbd (hc_stats0 hc H0 (by rw [hT0])) (H0.check hc)) (.on rfl rfl (beq_eq rfl)) rfl rfl ?_)))))
  refine p_val rfl (ev_not rfl) (.on rfl rfl (beq_eq rfl)) rfl rfl (kPv (ev_pick_f rfl rfl rfl) rfl (p_nil (go_sb [22, 2, 0] rfl (g_iff rfl (rfl) (g_skip (g_seq (g_region (kPm rfl rfl ?_))))))))
  refine p_call rfl (en_f Tryz.call11 rfl) (beginW hc H0 (by decide) (by omega)) .free rfl rfl ?_ ?_
  rotate_left
  · rintro _ _ ⟨⟩
  rintro _ _ ⟨h1, hx1, hT1, H1, rfl, rfl⟩
  have hk1 : h1.T.take (c.frm 0 + 0) = (1, ⟨[(1, c.frm 0 + 0)], [(c.frm 0 + 0, 1)], 1⟩) := by rw [hT1, hT0]; exact take_first (by omega)
  obtain ⟨h2, s2, js2, e2, H2, hx2, hT2, _, hjl2, hl2⟩ := H1.alloc hc hx1 (w := 2) (r := 1) ⟨by decide, by decide, by decide⟩ (by omega) (.inr (by simp; omega)) (by rw [hT1, hT0]; decide) (by rw [hT1, hT0]; decide)
  rw [hk1] at e2 hT2
  have hk2 := new_obj (m := s2.load) (k := c.frm 0 + 0) (w := 2) (r := 1) ⟨by decide, by decide, by decide⟩ (by rw [hl2 _ (by omega), if_pos (by omega), if_pos rfl])
  obtain ⟨h3, s3, js3, e3, H3, hx3, hT3, _⟩ := H2.write hc hx2 (n := 1) (k := c.frm 0 + 0) (i := 1) (v := 7) (by rw [hT2]; rfl) (by simp) (by omega) (by decide) (.inl (by rw [H2.ff, H2.ft]; omega))
  obtain ⟨h4, s4, e4, H4, hx4, hT4, _⟩ := H3.commit hc hx3
  have hu4 : (h4.stats s4).used = 3 := by
    show (h4.blk s4).used = 3
    rw [H4.blk]; rfl
  refine kPa rfl rfl (p_nil (g_seq (g_region (kPm rfl rfl (kPv (ev_build rfl (bld_38_0_1 _ _ rfl rfl)) rfl ?_)))))
  refine p_call rfl (en_f Tryz.call12 rfl) (allocW H1.hw H1.hbd e2) .free rfl rfl ?_ ?_
  rotate_left
  · rintro _ _ ⟨⟩
  rintro _ _ ⟨rfl, rfl⟩
  refine kPm rfl rfl (kPv (ev_ext rfl rfl) rfl (kPv (ev_ext rfl rfl) rfl (kPa rfl rfl (kPa rfl rfl (p_nil (go_sb [6, 5, 4, 2, 0] rfl (g_seq (g_region (kPm rfl rfl (kPv (ev_cmp rfl rfl rfl) rfl (kPm rfl rfl ?_)))))))))))
  refine p_val rfl (ev_move rfl) (.on rfl rfl (beq_eq rfl)) rfl rfl (p_val rfl (ev_cmp rfl rfl rfl) (.on rfl rfl (beq_eq rfl)) rfl rfl (kPv (ev_pick_t rfl rfl rfl) rfl (kPm rfl rfl (p_val rfl (ev_move rfl) (.on rfl rfl (beq_eq rfl)) rfl rfl (p_val rfl (ev_cmp rfl rfl rfl) (.on rfl rfl (beq_eq rfl)) rfl rfl (kPv (ev_pick_t rfl rfl rfl) rfl (kPm rfl rfl (p_val rfl (ev_move rfl) (.on rfl rfl (beq_eq rfl)) rfl rfl ?_))))))))
  refine p_call rfl (en_f Tryz.call14 rfl) (writeW H2.hw H2.hbd (by decide) e3) (.on rfl rfl (beq_eq rfl)) rfl rfl ?_ ?_
  rotate_left
  · rintro _ _ ⟨⟩
  rintro _ _ ⟨rfl, rfl⟩
  refine p_val rfl (ev_cmp rfl rfl rfl) (.on rfl rfl (beq_eq rfl)) rfl rfl (kPv (ev_pick_t rfl rfl rfl) rfl (kPm rfl rfl (p_val rfl (ev_move rfl) (.on rfl rfl (beq_eq rfl)) rfl rfl ?_)))
  refine p_call rfl (en_f Tryz.call15 rfl) (commitW H3.hw H3.hbd e4) (.on rfl rfl (beq_eq rfl)) rfl rfl ?_ ?_
  rotate_left
  · rintro _ _ ⟨⟩
  rintro _ _ ⟨rfl, rfl⟩
  refine p_val rfl (ev_cmp rfl rfl rfl) (.on rfl rfl (beq_eq rfl)) rfl rfl (kPv (ev_pick_t rfl rfl rfl) rfl (kPm rfl rfl (p_val rfl (ev_move rfl) (.on rfl rfl (beq_eq rfl)) rfl rfl (p_callq rfl (en_f Tryz.call22 rfl) (statsW H4.hw H4.hbd) (.on rfl rfl (beq_eq rfl)) rfl rfl ?_))))
  refine p_val rfl (ev_field1 Tryz.runUnderlying58 (t := 3) (off := 0) rfl Tryz.isAgg3 rfl rfl) (.on rfl rfl (beq_eq rfl)) rfl rfl (p_val rfl (ev_cmp rfl rfl rfl) (.on rfl rfl (beq_eq rfl)) rfl rfl (kPv (ev_pick_t rfl rfl rfl) rfl (kPa rfl rfl (p_nil (go_sb [0] rfl (g_ret ?_))))))
  exact ret_tmp Tryz.results9 rfl (fun w hw => ⟨by simp [hu4], (hw.dp [0, 0, 0, 0])⟩)
end Go.Proofs.YtlcibdhmgclfjaaGreat
namespace Go.Proofs.YtlcibdhmgclfjaaGreat
open Go
section
variable {kp : Prop} {c : Cfg} {N bd : Nat} {h : HpS} {s : Dev} {a u : Int} {L : List Int}
theorem HC.withW (hc : CfgW c) (H : HC kp c N bd h s a u L) {T : TabS} (w : TabW T) (hl : T.last ≤ 1000) (hTL : ∀ n p, mget T.at_ n = some p → p ∈ L) : HC kp c N bd { h with T := T } s a u L :=
  ⟨H.hbd, H.hcc, H.ho, H.sk, H.hm, H.rc, ⟨H.hw.c, H.hw.k, H.hw.sw, H.hw.u, ⟨w.last, by show T.last ≤ _; omega⟩, by have := w.len; show T.at_.length ≤ _; omega, fun p hp => by
    have := heap_b hc H.hm.bw H.hm.heap (hTL _ _ (mget_of w.n1 (show (p.1, p.2) ∈ T.at_ from hp))); omega, H.hw.x⟩, H.hkp⟩
theorem HC.ref (hc : CfgW c) (H : HC kp c N bd h s a u L) {n k i v j : Int} {T' : TabS} (hn : mget h.T.at_ n = some k) (hk : k ∈ L) (hi : 0 ≤ i ∧ i < orf s.load k) (hv : s.load (k + 1 + i) = v) (hvb : v ∈ L) (ht : h.T.take v = (j, T')) : h.ref s n i = ((j, 0), { h with T := T' }) := by
  have hz := osz_b s.load k
  have hb := heap_b hc H.hm.bw H.hm.heap hvb
  have ho : objField (osz s.load k - 1, orf s.load k, k) i true = (k + 1 + i, 0) := by
    unfold objField
    rw [if_neg (by simp only; omega), if_neg (by simp; omega)]
  have hr : s.objRef (osz s.load k - 1, orf s.load k, k) i = (v, 0) := by
    unfold Dev.objRef
    rw [ho, if_neg (by simp)]
    simp only
    rw [hv, wr64 (by omega)]
  unfold HpS.ref
  rw [H.obj hc hn hk, if_neg (by simp), hr, ht]
theorem HC.root (hc : CfgW c) (H : HC kp c N bd h s a u L) {v j : Int} {T' : TabS} (hv : s.load (c.root 0) = v) (hvb : v ∈ L) (ht : h.T.take v = (j, T')) : h.root s 0 = ((j, 0), { h with T := T' }) := by
  have hb := heap_b hc H.hm.bw H.hm.heap hvb
  have hr := hc.r1
  unfold HpS.root
  rw [if_neg (by rw [H.hcc]; omega), H.hcc, hv, wr64 (by omega), ht]
end
theorem TabW.took {T : TabS} (w : TabW T) {n p : Int} (h : mget T.at_ n = some p) : T.take p = (n, T) := by
  have h1 := w.fwd n p h
  unfold TabS.take
  rw [if_neg h1.2.2.2, h1.1]; rfl
structure NS (c : Cfg) (m : Int → Int) (T : TabS) (L : List Int) (A B : Int) : Prop where
  w : TabW T
  t1 : mget T.at_ 1 = some A
  t2 : mget T.at_ 2 = some B
  last : T.last = 2
  tl : ∀ n p, mget T.at_ n = some p → p ∈ L
  oA : orf m A = 2
  oB : orf m B = 1
  fA0 : m (A + 1 + 0) = B
  fA1 : m (A + 1 + 1) = A
  fB : m (B + 1 + 0) = A
  rt : m (c.root 0) = B
theorem take_second {A B : Int} (h : A ≠ B) (hB : B ≠ 0) : (⟨[(1, A)], [(A, 1)], 1⟩ : TabS).take B = (2, ⟨[(1, A), (2, B)], [(A, 1), (B, 2)], 2⟩) := by
  unfold TabS.take
  rw [if_neg hB, if_neg (by simp [mget, h])]
  simp [mset, h]
theorem names_run {c : Cfg} (hc : CfgW c) {N bd : Nat} {old : Nat → Int} {h : HpS} {s : Dev} (H : HO True c N bd old [] h s 0 0 0 []) (hx : h.X = none) (hT : h.T = ⟨[], [], 0⟩) :
    ∃ h2 s2 h3 s3 h4 s4 h5 s5 h6 s6 h7 s7 h8 s8, h.alloc s 2 2 = .ok ((1, 0), h2) s2 ∧ (HepW h2 s2 ∧ h2.bd = bd) ∧ h2.alloc s2 1 1 = .ok ((2, 0), h3) s3 ∧ (HepW h3 s3 ∧ h3.bd = bd) ∧ h3.point s3 1 0 2 = .ok (0, h4) s4 ∧ (HepW h4 s4 ∧ h4.bd = bd) ∧ h4.point s4 1 1 1 = .ok (0, h5) s5 ∧ (HepW h5 s5 ∧ h5.bd = bd) ∧ h5.point s5 2 0 1 = .ok (0, h6) s6 ∧ (HepW h6 s6 ∧ h6.bd = bd) ∧
      h6.setRoot s6 0 2 = .ok (0, h7) s7 ∧ (HepW h7 s7 ∧ h7.bd = bd) ∧ h7.commit s7 = .ok (0, h8) s8 ∧ HC True c N bd h8 s8 0 5 [c.frm 0, c.frm 0 + 3] ∧ NS c s8.load h8.T [c.frm 0, c.frm 0 + 3] (c.frm 0) (c.frm 0 + 3) := by
  have hA := act_w hc
  have hf := frmA hc (a := 0) (by decide)
  have hs1 := hc.s1
  have hl1 := hc.l1
  have hr1 := hc.r1
  obtain ⟨h2, s2, j2, e2, H2, x2, T2, _, n2, l2⟩ := H.alloc hc hx (w := 2) (r := 2) (by decide) (by omega) (.inr (by simp; omega)) (by rw [hT]; decide) (by rw [hT]; decide)
  rw [hT, Int.add_zero, take_first (p := c.frm 0) (by omega)] at e2 T2
  simp only [List.length_nil] at n2
  simp only [List.nil_append, Int.add_zero, show (0 : Int) + (2 + 1) = 3 from rfl] at H2 l2
  simp only at T2
  obtain ⟨h3, s3, j3, e3, H3, x3, T3, _, n3, l3⟩ := H2.alloc hc x2 (w := 1) (r := 1) (by decide) (by omega) (.inr (by omega)) (by rw [T2]; show (1 : Int) + 1 ≤ 1000000000; decide) (by rw [T2]; show 1 + 1 ≤ 800000; decide)
  rw [T2, take_second (A := c.frm 0) (by omega) (by omega)] at e3 T3
  simp only at T3
  rw [show (3 : Int) + (1 + 1) = 5 from rfl, show [c.frm 0] ++ [c.frm 0 + 3] = [c.frm 0, c.frm 0 + 3] from rfl] at H3
  have g1 : ∀ T : TabS, T = ⟨[(1, c.frm 0), (2, c.frm 0 + 3)], [(c.frm 0, 1), (c.frm 0 + 3, 2)], 2⟩ → mget T.at_ 1 = some (c.frm 0) ∧ mget T.at_ 2 = some (c.frm 0 + 3) := fun T e => by subst e; exact ⟨rfl, rfl⟩
  have oA3 := new_obj (m := s3.load) (k := c.frm 0) (w := 2) (r := 2) (by decide) (by rw [l3 _ (by omega), if_neg (by omega), if_neg (by omega), l2 _ (by omega), if_pos (by omega), if_pos rfl])
  have oB3 := new_obj (m := s3.load) (k := c.frm 0 + 3) (w := 1) (r := 1) (by decide) (by rw [l3 _ (by omega), if_pos (by omega), if_pos rfl])
  have mA : c.frm 0 ∈ [c.frm 0, c.frm 0 + 3] := by simp
  have mB : c.frm 0 + 3 ∈ [c.frm 0, c.frm 0 + 3] := by simp
  obtain ⟨h4, s4, j4, e4, H4, x4, T4, _, n4, n4', l4⟩ := H3.point hc x3 (n := 1) (i := 0) (m := 2) (g1 _ T3).1 mA (by rw [oA3.1]; decide) (HpS.plc_of (g1 _ T3).2) (.inr mB) (.inl (by rw [H3.ff, H3.ft]; omega))
  have T4 := T4.trans T3
  have oA4 : orf s4.load (c.frm 0) = 2 := by unfold orf at oA3 ⊢; rw [l4 _ (by omega), if_neg (by omega)]; exact oA3.1
  obtain ⟨h5, s5, j5, e5, H5, x5, T5, _, n5, n5', l5⟩ := H4.point hc x4 (n := 1) (i := 1) (m := 1) (g1 _ T4).1 mA (by rw [oA4]; decide) (HpS.plc_of (g1 _ T4).1) (.inr mA) (.inl (by rw [H4.ff, H4.ft]; omega))
  have T5 := T5.trans T4
  have oB5 : orf s5.load (c.frm 0 + 3) = 1 := by unfold orf at oB3 ⊢; rw [l5 _ (by omega), if_neg (by omega), l4 _ (by omega), if_neg (by omega)]; exact oB3.1
  obtain ⟨h6, s6, j6, e6, H6, x6, T6, _, n6, n6', l6⟩ := H5.point hc x5 (n := 2) (i := 0) (m := 1) (g1 _ T5).2 mB (by rw [oB5]; decide) (HpS.plc_of (g1 _ T5).1) (.inr mA) (.inl (by rw [H5.ff, H5.ft]; omega))
  have T6 := T6.trans T5
  obtain rfl := n4'.resolve_left fun h => h (by rw [H3.ff, H3.ft]; omega)
  obtain rfl := n5'.resolve_left fun h => h (by rw [H4.ff, H4.ft]; omega)
  obtain rfl := n6'.resolve_left fun h => h (by rw [H5.ff, H5.ft]; omega)
  have hrt : c.root ((0 : Nat) : Int) = c.active + 2 := by simp [Cfg.root]
  obtain ⟨h7, s7, j7, e7, H7, x7, T7, _, _, l7⟩ := H6.setRoot hc x6 (i := 0) (m := 2) (p := c.frm 0 + 3) (by omega) (HpS.plc_of (g1 _ T6).2) (.inr mB) (.inr (by omega))
  have T7 := T7.trans T6
  obtain ⟨h8, s8, e8, H8, x8, T8, _, l8⟩ := H7.commit hc x7
  have T8 := T8.trans T7
  have l37 : ∀ j, c.frm 0 ≤ j → s7.load j = if j = c.frm 0 + 3 + 1 + 0 then c.frm 0 else if j = c.frm 0 + 1 + 1 then c.frm 0 else if j = c.frm 0 + 1 + 0 then c.frm 0 + 3 else s3.load j := fun j hj => by
    rw [l7 _ (by omega), if_neg (by omega), l6 _ (by omega), l5 _ (by omega), l4 _ (by omega)]
  refine ⟨h2, s2, h3, s3, h4, s4, h5, s5, h6, s6, h7, s7, h8, s8, e2, ⟨H2.hw, H2.hbd⟩, e3, ⟨H3.hw, H3.hbd⟩, e4, ⟨H4.hw, H4.hbd⟩, e5, ⟨H5.hw, H5.hbd⟩, e6, ⟨H6.hw, H6.hbd⟩, e7, ⟨H7.hw, H7.hbd⟩, e8, H8, ?_⟩
  have hw : TabW h8.T := by
    have w1 := (tab_w0.take (p := c.frm 0) (by omega)).1
    rw [take_first (by omega)] at w1
    have w2 := (w1.take (p := c.frm 0 + 3) (by omega)).1
    rw [take_second (by omega) (by omega)] at w2
    rw [T8]; exact w2
  refine ⟨hw, (g1 _ T8).1, (g1 _ T8).2, by rw [T8], fun n p hp => ?_, ?_, ?_, ?_, ?_, ?_, ?_⟩
  · have := mget_in hp
    rw [T8] at this
    simp at this
    rcases this with h | h <;> simp [h.2]
  · have := oA3.1
    unfold orf at this ⊢
    rw [l8 _ (by omega), l37 _ (by omega), if_neg (by omega), if_neg (by omega), if_neg (by omega)]; exact this
  · have := oB3.1
    unfold orf at this ⊢
    rw [l8 _ (by omega), l37 _ (by omega), if_neg (by omega), if_neg (by omega), if_neg (by omega)]; exact this
  · rw [l8 _ (by omega), l37 _ (by omega), if_neg (by omega), if_neg (by omega), if_pos rfl]
  · rw [l8 _ (by omega), l37 _ (by omega), if_neg (by omega), if_pos rfl]
  · rw [l8 _ (by omega), l37 _ (by omega), if_pos rfl]
  · have h0 : c.root 0 = c.active + 2 := hrt
    rw [h0, l8 _ (by omega), l7 _ (by omega), if_pos hrt.symm]
theorem NS.collect {kp : Prop} {c : Cfg} (hc : CfgW c) {N bd : Nat} {h : HpS} {s : Dev} {a u : Int} {L : List Int} (H : HC kp c N bd h s a u L) {A B : Int} (Q : NS c s.load h.T L A B) : (∀ s', ¬ h.colOff s s') ∧ ∀ x h' s', h.colR s x h' s' → x = 0 ∧ ∃ a' u' L' A' B', HC False c N bd h' s' a' u' L' ∧ NS c s'.load h'.T L' A' B' := by
  obtain ⟨X, s1, D, G, h0, h1⟩ := H.collect hc Q.w Q.tl
  refine ⟨h0, fun x h' s' e => ?_⟩
  obtain ⟨rfl, H', _, w', l', t', k', b', ld⟩ := h1 x h' s' e
  have hr1 := hc.r1
  have hlo := G.lo0
  have iA := k' _ _ Q.t1
  have iB := k' _ _ Q.t2
  have tA := D.trm iA
  have tB := D.trm iB
  have zA := osz_b s.load A
  have zB := osz_b s.load B
  have oA := Q.oA
  have oB := Q.oB
  have pA := (D.ci.offs.mem tA.2).1
  have pB := (D.ci.offs.mem tB.2).1
  have fd : ∀ q ∈ X.went, ∀ j, 0 ≤ j → j < orf s.load q.1 → s'.load (q.2 + 1 + j) = tr X.went (s.load (q.1 + 1 + j)) := fun q hq j g0 g1 => by
    have := osz_b s.load q.1
    have := (D.ci.offs.mem hq).1
    rw [ld _ (by omega), D.fld hq g0 (by omega), if_pos g1]
  have hd : ∀ q ∈ X.went, orf s'.load q.2 = orf s.load q.1 := fun q hq => by
    have := (D.head hq).2.2
    have h9 := (D.ci.offs.mem hq).1
    unfold orf
    rw [ld _ (by omega), this]
  refine ⟨rfl, _, _, _, tr X.went A, tr X.went B, H', w', by rw [t', Q.t1]; rfl, by rw [t', Q.t2]; rfl, l'.trans Q.last, fun n p hp => ?_, (hd _ tA.2).trans oA, (hd _ tB.2).trans oB, ?_, ?_, ?_, ?_⟩
  · rw [t'] at hp
    cases hm : mget h.T.at_ n with
    | none => rw [hm] at hp; cases hp
    | some q => rw [hm] at hp; cases hp; exact (D.trm (k' _ _ hm)).1
  · rw [fd _ tA.2 0 (by decide) (by simp only; omega)]; simp only; rw [Q.fA0]
  · rw [fd _ tA.2 1 (by decide) (by simp only; omega)]; simp only; rw [Q.fA1]
  · rw [fd _ tB.2 0 (by decide) (by simp only; omega)]; simp only; rw [Q.fB]
  · have e1 : X.block.rts = (blkM c s.load a u).rts.map (tr X.went) := by rw [D.block G]
    have e2 : X.block.rts = tab c.roots.toNat fun i => s'.load (c.root i) := by
      have := H'.hm.block
      rw [b'] at this
      rw [show X.block = _ from congrArg Prod.fst this]
    have e3 : X.block.rts[0]? = some (s'.load (c.root ((0 : Nat) : Int))) := by rw [e2, tab_get (by omega)]
    rw [e1, List.getElem?_map, show (blkM c s.load a u).rts[0]? = some (s.load (c.root ((0 : Nat) : Int))) from tab_get (by omega)] at e3
    rw [show s.load (c.root ((0 : Nat) : Int)) = B from Q.rt] at e3
    simp only [Option.map_some, Option.some.injEq] at e3
    exact e3.symm
theorem NS.told {kp : Prop} {c : Cfg} (hc : CfgW c) {N bd : Nat} {h : HpS} {s : Dev} {a u : Int} {L : List Int} (H : HC kp c N bd h s a u L) {A B : Int} (Q : NS c s.load h.T L A B) :
    h.ref s 1 0 = ((2, 0), h) ∧ h.ref s 1 1 = ((1, 0), h) ∧ h.root s 0 = ((2, 0), h) ∧ h.ref s 2 0 = ((1, 0), h) ∧ (mget h.T.at_ 2).isSome = true ∧ ∃ h9 : HpS, HC kp c N bd { h with T := h.T.drop 2 } s a u L ∧ HpS.root { h with T := h.T.drop 2 } s 0 = ((3, 0), h9) ∧ HC kp c N bd h9 s a u L ∧ h9.ref s 1 0 = ((3, 0), h9) ∧ (h9.obj s 2).2 = 6 := by
  have oA := Q.oA
  have oB := Q.oB
  have mA := Q.tl _ _ Q.t1
  have mB := Q.tl _ _ Q.t2
  have hbA := heap_b hc H.hm.bw H.hm.heap mA
  have hbB := heap_b hc H.hm.bw H.hm.heap mB
  obtain ⟨w1, d1⟩ := Q.w.drop 2
  have hnB : mget (h.T.drop 2).no B = none := by
    cases hm : mget (h.T.drop 2).no B with
    | none => rfl
    | some n =>
      have h1 := w1.bwd _ _ hm
      rw [d1] at h1
      split at h1
      · cases h1
      · rename_i hne
        have h2 := (Q.w.fwd _ _ h1).1
        rw [(Q.w.fwd _ _ Q.t2).1] at h2
        injection h2 with h2; exact absurd h2.symm hne
  have hl1 : (h.T.drop 2).last = 2 := Q.last
  have hd1 : HC kp c N bd { h with T := h.T.drop 2 } s a u L := H.withW hc w1 (by omega) fun n p hp => by
    rw [d1] at hp; split at hp
    · cases hp
    · exact Q.tl _ _ hp
  obtain ⟨w2, g2, _, g4, g5, g6⟩ := w1.take (p := B) (by omega)
  have hor := g6.resolve_left fun h9 => by rw [hnB] at h9; cases h9.1
  have h3 : ((h.T.drop 2).take B).1 = 3 := by rw [hor.2.1, hl1]; rfl
  rw [h3] at g2 g5
  have hT1 : mget ((h.T.drop 2).take B).2.at_ 1 = some A := by rw [g5 1 (by decide), d1, if_neg (by decide)]; exact Q.t1
  have hT2 : mget ((h.T.drop 2).take B).2.at_ 2 = none := by rw [g5 2 (by decide), d1, if_pos rfl]
  have hd2 : HC kp c N bd { h with T := ((h.T.drop 2).take B).2 } s a u L := H.withW hc w2 (by omega) fun n p hp => by
    by_cases hn : n = 3
    · subst hn; rw [g2] at hp; cases hp; exact mB
    · rw [g5 n hn, d1] at hp; split at hp
      · cases hp
      · exact Q.tl _ _ hp
  refine ⟨H.ref hc Q.t1 mA (by omega) Q.fA0 mB (Q.w.took Q.t2), H.ref hc Q.t1 mA (by omega) Q.fA1 mA (Q.w.took Q.t1), H.root hc Q.rt mB (Q.w.took Q.t2), H.ref hc Q.t2 mB (by omega) Q.fB mA (Q.w.took Q.t1), by rw [Q.t2]; rfl, { h with T := ((h.T.drop 2).take B).2 }, hd1, hd1.root hc Q.rt mB (Prod.ext h3 rfl), hd2, hd2.ref hc hT1 mA (by omega) Q.fA0 mB (w2.took g2), ?_⟩
  unfold HpS.obj
  rw [show mget (HpS.mk _ _ _ _ _ _).T.at_ 2 = none from hT2]; rfl
end Go.Proofs.YtlcibdhmgclfjaaGreat
