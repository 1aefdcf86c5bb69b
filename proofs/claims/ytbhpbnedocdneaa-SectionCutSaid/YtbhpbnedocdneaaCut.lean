/- The section's plain law: its words when the power goes. Conditions: none. -/
import Derived.Test.YtbhpbnedocdneaaSin
set_option linter.unusedSimpArgs false
set_option linter.unusedVariables false
set_option linter.unnecessarySimpa false
set_option linter.unusedSectionVars false
namespace Go.Proofs.Ytbhpbnedocdneaa
open Go
/-- What a word may be behind a crash. -/
def Dev.P (s : Dev) (x : Nat) (v : Int) : Prop := v = s.kept x ∨ v = s.pk x ∨ v = s.now x
theorem p_st {s : Dev} {i x : Nat} {v w : Int} (h : (s.up.st i v).P x w) : (x = i ∧ w = v) ∨ s.P x w := by
  rcases h with h | h | h
  · exact .inr (.inl h)
  · exact .inr (.inr (.inl h))
  · have h : w = upd s.now i v x := h
    simp only [upd] at h
    by_cases e : x = i
    · rw [if_pos e] at h; exact .inl ⟨e, h⟩
    · rw [if_neg e] at h; exact .inr (.inr (.inr h))
theorem p_fl {s : Dev} {i x : Nat} {w : Int} (h : (s.up.fl i).P x w) : s.P x w := by
  rcases h with h | h | h
  · exact .inl h
  · rw [pk_flush] at h
    by_cases e : x / 8 = i / 8
    · rw [if_pos e] at h; exact .inr (.inr h)
    · rw [if_neg e] at h; exact .inr (.inl h)
  · exact .inr (.inr h)
theorem p_fe {s : Dev} {x : Nat} {w : Int} (h : s.up.fe.P x w) : s.P x w := by
  rcases h with h | h | h
  · exact .inr (.inl h)
  · exact .inr (.inl h)
  · exact .inr (.inr h)
/-- A word that a crash leaves as it stands. -/
def Dev.Set (s : Dev) (x : Nat) : Prop := ∀ w, s.P x w → w = s.now x
theorem set_pk {s : Dev} {x : Nat} (h : s.pk x = s.now x) : s.up.fe.Set x := fun w hw => by
  rcases hw with h1 | h1 | h1
  · exact h1.trans h
  · exact h1.trans h
  · exact h1
theorem set_flfe {s : Dev} {i x : Nat} (h : x / 8 = i / 8) : (s.up.fl i).up.fe.Set x := set_pk (s := s.up.fl i) (by rw [pk_flush, if_pos h]; rfl)
/-- What a crash may leave. -/
structure Left (s t : Dev) : Prop where
  n : t.n = s.n
  kept : t.kept = t.now
  q : t.q = fun _ => none
  p : ∀ x, s.P x (t.now x)
theorem left_crash (s : Dev) (ch : Nat → Int) : Left s (s.crash ch) := ⟨rfl, rfl, rfl, fun x => by
  show s.P x (if ch x % 3 = 1 then fkept s.kept s.q x else if ch x % 3 = 2 then s.now x else s.kept x)
  split
  · exact .inr (.inl rfl)
  · split
    · exact .inr (.inr rfl)
    · exact .inl rfl⟩
theorem Left.one {s t : Dev} (h : Left s t) {x : Nat} {w : Int} (hw : t.P x w) : w = t.now x := by
  rcases hw with h1 | h1 | h1
  · rw [h1, h.kept]
  · rw [h1, still_pk h.q, h.kept]
  · exact h1
theorem Left.sub {s t : Dev} (h : Left s t) {x : Nat} {w : Int} (hw : t.P x w) : s.P x w := by rw [h.one hw]; exact h.p x
theorem Left.of {s s' t : Dev} (h : Left s' t) (hn : s'.n = s.n) (hp : ∀ x w, s'.P x w → s.P x w) : Left s t := ⟨h.n.trans hn, h.kept, h.q, fun x => hp x _ (h.p x)⟩
/-- Whatever a crash leaves, the records lead back to K, but for the words of F. -/
structure CutI (c : Cfg) (N : Nat) (F : Nat → Prop) (K : Nat → Int) (e : Int) (js : List Nat) (s : Dev) : Prop where
  n : s.n = N
  e1 : 0 ≤ e
  e2 : e < 4294967296
  len : (js.length : Int) ≤ c.log
  ep : ∀ v, s.P 8 v → v = e
  recs : ∀ k (h : k < js.length), (∀ v, s.P (16 + 4 * k) v → v = stampI e k) ∧ (∀ v, s.P (16 + 4 * k + 1) v → v = js[k]) ∧ (∀ v, s.P (16 + 4 * k + 2) v → v = K js[k]) ∧ c.active ≤ js[k] ∧ js[k] < N
  stale : ∀ k : Nat, js.length ≤ k → (k : Int) < c.log → ∀ v, s.P (16 + 4 * k) v → v ≤ e * 4294967296
  same : ∀ x : Nat, x ∉ js → c.active ≤ x → x < N → ¬ F x → ∀ v, s.P x v → v = K x
theorem CutI.sub {c : Cfg} {N : Nat} {F : Nat → Prop} {K : Nat → Int} {e : Int} {js : List Nat} {s s' : Dev} (h : CutI c N F K e js s) (hn : s'.n = s.n) (hp : ∀ x w, s'.P x w → s.P x w) : CutI c N F K e js s' :=
  ⟨hn.trans h.n, h.e1, h.e2, h.len, fun v hv => h.ep v (hp _ _ hv), fun k hk => ⟨fun v hv => (h.recs k hk).1 v (hp _ _ hv), fun v hv => (h.recs k hk).2.1 v (hp _ _ hv), fun v hv => (h.recs k hk).2.2.1 v (hp _ _ hv), (h.recs k hk).2.2.2⟩,
   fun k h1 h2 v hv => h.stale k h1 h2 v (hp _ _ hv), fun x h1 h2 h3 h4 v hv => h.same x h1 h2 h3 h4 v (hp _ _ hv)⟩
def RecI (c : Cfg) (N : Nat) (F : Nat → Prop) (K : Nat → Int) (s : Dev) : Prop := ∀ t, Left s t → ∃ e js, CutI c N F K e js t
def Rec2 (c : Cfg) (N : Nat) (F : Nat → Prop) (K : Nat → Int) (F' : Nat → Prop) (M : Nat → Int) (s : Dev) : Prop := ∀ t, Left s t → (∃ e js, CutI c N F K e js t) ∨ ∃ e js, CutI c N F' M e js t
theorem CutI.reci {c : Cfg} {N : Nat} {F : Nat → Prop} {K : Nat → Int} {e : Int} {js : List Nat} {s : Dev} (h : CutI c N F K e js s) : RecI c N F K s := fun _ ht => ⟨e, js, h.sub ht.n fun _ _ hw => ht.sub hw⟩
theorem RecI.two {c : Cfg} {N : Nat} {F F' : Nat → Prop} {K M : Nat → Int} {s : Dev} (h : RecI c N F K s) : Rec2 c N F K F' M s := fun t ht => .inl (h t ht)
theorem RecI.sub {c : Cfg} {N : Nat} {F : Nat → Prop} {K : Nat → Int} {s s' : Dev} (h : RecI c N F K s) (hn : s'.n = s.n) (hp : ∀ x w, s'.P x w → s.P x w) : RecI c N F K s' := fun t ht => h t (ht.of hn hp)
theorem Rec2.sub {c : Cfg} {N : Nat} {F F' : Nat → Prop} {K M : Nat → Int} {s s' : Dev} (h : Rec2 c N F K F' M s) (hn : s'.n = s.n) (hp : ∀ x w, s'.P x w → s.P x w) : Rec2 c N F K F' M s' := fun t ht => h t (ht.of hn hp)
/-- A call: what holds behind it, and where the power went. -/
def OutW {α : Type} (m : Out α) (Q : α → Dev → Prop) (I : Dev → Prop) : Prop := match m with
  | .ok a s => Q a s
  | .off s => I s
theorem outw_then {α β : Type} {m : Out α} {f : α → Dev → Out β} {Q' : α → Dev → Prop} {Q : β → Dev → Prop} {I : Dev → Prop} (h : OutW m Q' I) (g : ∀ a s, Q' a s → OutW (f a s) Q I) : OutW (m.then f) Q I := by
  cases m with
  | ok a s => exact g a s h
  | off s => exact h
theorem OutW.mono {α : Type} {m : Out α} {Q Q' : α → Dev → Prop} {I I' : Dev → Prop} (h : OutW m Q I) (f : ∀ a s, Q a s → Q' a s) (g : ∀ s, I s → I' s) : OutW m Q' I' := by
  cases m with
  | ok a s => exact f a s h
  | off s => exact g s h
theorem outw_store {β : Type} {s : Dev} {i : Int} {k : Nat} {v : Int} {f : Int → Dev → Out β} {Q : β → Dev → Prop} {I : Dev → Prop} (hk : (k : Int) = i) (hi : k < s.n) (h0 : I s) (h : OutW (f 0 (s.up.st k v)) Q I) : OutW ((s.store i v).then f) Q I := by
  subst hk
  unfold Dev.store
  rw [if_neg (by simp [Dev.has, hi])]
  split
  · exact h0
  · exact h
theorem outw_flush {β : Type} {s : Dev} {i : Int} {k : Nat} {f : Int → Dev → Out β} {Q : β → Dev → Prop} {I : Dev → Prop} (hk : (k : Int) = i) (hi : k < s.n) (h0 : I s) (h : OutW (f 0 (s.up.fl k)) Q I) : OutW ((s.flush i).then f) Q I := by
  subst hk
  unfold Dev.flush
  rw [if_neg (by simp [Dev.has, hi])]
  split
  · exact h0
  · exact h
theorem outw_fence {β : Type} {s : Dev} {f : Unit → Dev → Out β} {Q : β → Dev → Prop} {I : Dev → Prop} (h0 : I s) (h : OutW (f () s.up.fe) Q I) : OutW (s.fence.then f) Q I := by
  unfold Dev.fence
  split
  · exact h0
  · exact h
/-- A store of a word that no record and no clause speaks of. -/
theorem CutI.store {c : Cfg} {N : Nat} {F : Nat → Prop} {K : Nat → Int} {e : Int} {js : List Nat} {s : Dev} (h : CutI c N F K e js s) {y : Nat} (v : Int) (h8 : y ≠ 8) (hst : ∀ k : Nat, (k : Int) < c.log → y ≠ 16 + 4 * k) (hrec : ∀ k, k < js.length → y ≠ 16 + 4 * k + 1 ∧ y ≠ 16 + 4 * k + 2) (hdat : c.active ≤ y → y ∈ js ∨ F y) : CutI c N F K e js (s.up.st y v) := by
  have key : ∀ x w, x ≠ y → (s.up.st y v).P x w → s.P x w := fun x w hx hw => (p_st hw).resolve_left fun hh => hx hh.1
  have hlen := h.len
  refine ⟨h.n, h.e1, h.e2, h.len, fun v hv => h.ep v (key _ _ (Ne.symm h8) hv), fun k hk => ?_, fun k h1 h2 v hv => h.stale k h1 h2 v (key _ _ (Ne.symm (hst k h2)) hv), fun x h1 h2 h3 h4 v hv => h.same x h1 h2 h3 h4 v (key _ _ ?_ hv)⟩
  · obtain ⟨r1, r2, r3, r4⟩ := h.recs k hk
    exact ⟨fun v hv => r1 v (key _ _ (Ne.symm (hst k (by omega))) hv), fun v hv => r2 v (key _ _ (Ne.symm (hrec k hk).1) hv), fun v hv => r3 v (key _ _ (Ne.symm (hrec k hk).2) hv), r4⟩
  · rintro rfl
    rcases hdat h2 with h5 | h5
    · exact h1 h5
    · exact h4 h5
theorem CutI.now {c : Cfg} {N : Nat} {F : Nat → Prop} {K : Nat → Int} {e : Int} {js : List Nat} {s : Dev} (h : CutI c N F K e js s) {x : Nat} (h1 : x ∉ js) (h2 : c.active ≤ x) (h3 : x < N) (h4 : ¬ F x) : s.now x = K x := h.same x h1 h2 h3 h4 _ (.inr (.inr rfl))
/-- What holds of data words behind a call. -/
structure Kp (A : Int) (s s' : Dev) : Prop where
  now : ∀ x : Nat, A ≤ x → s'.now x = s.now x
  p : ∀ x : Nat, A ≤ x → ∀ w, s'.P x w → s.P x w
theorem Kp.set {A : Int} {s s' : Dev} (h : Kp A s s') {x : Nat} (hx : A ≤ x) (hs : s.Set x) : s'.Set x := fun w hw => by rw [h.now x hx]; exact hs w (h.p x hx w hw)
theorem Kp.refl {A : Int} {s : Dev} : Kp A s s := ⟨fun _ _ => rfl, fun _ _ _ h => h⟩
theorem Kp.trans {A : Int} {s s' s'' : Dev} (h : Kp A s s') (g : Kp A s' s'') : Kp A s s'' := ⟨fun x hx => (g.now x hx).trans (h.now x hx), fun x hx w hw => h.p x hx w (g.p x hx w hw)⟩
theorem kp_st {A : Int} {s : Dev} {y : Nat} {v : Int} (hy : (y : Int) < A) : Kp A s (s.up.st y v) := ⟨fun x hx => by show upd s.now y v x = _; simp only [upd]; rw [if_neg (by omega)], fun x hx w hw => (p_st hw).resolve_left fun hh => by omega⟩
theorem kp_fl {A : Int} {s : Dev} {y : Nat} : Kp A s (s.up.fl y) := ⟨fun _ _ => rfl, fun _ _ _ hw => p_fl hw⟩
theorem kp_fe {A : Int} {s : Dev} : Kp A s s.up.fe := ⟨fun _ _ => rfl, fun _ _ _ hw => p_fe hw⟩
theorem cut_append {c : Cfg} {N : Nat} {F : Nat → Prop} {K : Nat → Int} {e : Int} {js : List Nat} {s : Dev} {d : Nat} (h : CutI c N F K e js s) (hc : CfgW c) (hNw : (N : Int) = c.words) {i : Nat} (hi : c.active ≤ i ∧ i < N) (hno : i ∉ js) (hf : ¬ F i) (hroom : (js.length : Int) < c.log) :
    OutW (LogS.append ⟨d, c, e, js.length⟩ s i) (fun x s' => x = (0, ⟨d, c, e, js.length + 1⟩) ∧ CutI c N F K e (js ++ [i]) s' ∧ Kp c.active s s') (RecI c N F K) := by
  have hact := hc.act
  have hal := act_le hc
  have hn := h.n
  obtain ⟨r, hr⟩ : ∃ r, r = 16 + 4 * js.length := ⟨_, rfl⟩
  have hrc : (r : Int) = c.record js.length := by simp only [Cfg.record]; omega
  have hki := h.now hno hi.1 hi.2 hf
  unfold LogS.append
  rw [if_neg (by omega), if_neg (by simp only; omega)]
  simp only
  have c1 : CutI c N F K e js (s.up.st (r + 1) i) := h.store _ (by omega) (fun k hk => by omega) (fun k hk => by omega) (fun h => by omega)
  refine outw_store (k := r + 1) (by omega) (by omega) h.reci ?_
  have hld : (s.up.st (r + 1) (i : Int)).load i = K i := by
    rw [load_nat (k := i) rfl (by show i < s.n; omega)]
    show upd s.now (r + 1) (i : Int) i = _
    simp only [upd]; rw [if_neg (by omega), hki]
  rw [hld]
  have c2 : CutI c N F K e js ((s.up.st (r + 1) i).up.st (r + 2) (K i)) := c1.store _ (by omega) (fun k hk => by omega) (fun k hk => by omega) (fun h => by omega)
  refine outw_store (k := r + 2) (by omega) (by show r + 2 < s.n; omega) c1.reci ?_
  obtain ⟨s2, hs2⟩ : ∃ s2, s2 = (s.up.st (r + 1) (i : Int)).up.st (r + 2) (K i) := ⟨_, rfl⟩
  have n2 : s2.n = s.n := by rw [hs2]; rfl
  have k2 : Kp c.active s s2 := by rw [hs2]; exact (kp_st (by omega)).trans (kp_st (by omega))
  have v1 : s2.now (r + 1) = i := by rw [hs2]; show upd (upd s.now (r + 1) _) (r + 2) _ (r + 1) = _; simp only [upd]; rw [if_neg (by omega), if_pos trivial]
  have v2 : s2.now (r + 2) = K i := by rw [hs2]; show upd (upd s.now (r + 1) _) (r + 2) _ (r + 2) = _; simp only [upd]; rw [if_pos trivial]
  rw [← hs2] at c2 ⊢
  refine outw_flush (k := r) hrc (by omega) c2.reci ?_
  have c3 := c2.sub (s' := s2.up.fl r) rfl fun _ _ hw => p_fl hw
  refine outw_fence c3.reci ?_
  have c4 := c3.sub (s' := (s2.up.fl r).up.fe) rfl fun _ _ hw => p_fe hw
  have g1 : (s2.up.fl r).up.fe.Set (r + 1) := set_flfe (by omega)
  have g2 : (s2.up.fl r).up.fe.Set (r + 2) := set_flfe (by omega)
  obtain ⟨s4, hs4⟩ : ∃ s4, s4 = (s2.up.fl r).up.fe := ⟨_, rfl⟩
  have n4 : s4.n = s.n := by rw [hs4]; exact n2
  have k4 : Kp c.active s s4 := by rw [hs4]; exact k2.trans (kp_fl.trans kp_fe)
  have w1 : s4.now (r + 1) = i := by rw [hs4]; exact v1
  have w2 : s4.now (r + 2) = K i := by rw [hs4]; exact v2
  rw [← hs4] at c4 g1 g2 ⊢
  refine outw_store (k := r) hrc (by omega) c4.reci ?_
  -- the stamp stands: each crash leaves it, or not
  have key : ∀ x w, x ≠ r → (s4.up.st r (stampI e js.length)).P x w → s4.P x w := fun x w hx hw => (p_st hw).resolve_left fun hh => hx hh.1
  have full : ∀ t : Dev, t.n = s.n → (∀ x w, t.P x w → (s4.up.st r (stampI e js.length)).P x w) → (∀ w, t.P r w → w = stampI e js.length) → CutI c N F K e (js ++ [i]) t := fun t htn htp htr => by
    refine ⟨htn.trans h.n, h.e1, h.e2, by simp; omega, fun v hv => c4.ep v (key _ _ (by omega) (htp _ _ hv)), fun k hk => ?_, fun k hk1 hk2 v hv => ?_, fun x hx1 hx2 hx3 hx4 v hv => ?_⟩
    · rw [List.length_append, List.length_singleton] at hk
      by_cases hk' : k < js.length
      · obtain ⟨r1, r2, r3, r4⟩ := c4.recs k hk'
        simp only [List.getElem_append_left hk']
        exact ⟨fun v hv => r1 v (key _ _ (by omega) (htp _ _ hv)), fun v hv => r2 v (key _ _ (by omega) (htp _ _ hv)), fun v hv => r3 v (key _ _ (by omega) (htp _ _ hv)), r4⟩
      · obtain rfl : k = js.length := by omega
        simp only [List.getElem_concat_length]
        refine ⟨fun v hv => htr v (by rw [hr]; exact hv), fun v hv => ?_, fun v hv => ?_, hi.1, hi.2⟩
        · rw [← hr] at hv; rw [g1 v (key _ _ (by omega) (htp _ _ hv)), w1]
        · rw [← hr] at hv; rw [g2 v (key _ _ (by omega) (htp _ _ hv)), w2]
    · rw [List.length_append, List.length_singleton] at hk1
      exact c4.stale k (by omega) hk2 v (key _ _ (by omega) (htp _ _ hv))
    · have h1 : x ∉ js := fun hh => hx1 (List.mem_append_left _ hh)
      exact c4.same x h1 hx2 hx3 hx4 v (key _ _ (by omega) (htp _ _ hv))
  have c5 : RecI c N F K (s4.up.st r (stampI e js.length)) := fun t ht => by
    by_cases ht5 : t.now r = stampI e js.length
    · exact ⟨e, js ++ [i], full t (ht.n.trans n4) (fun x w hw => ht.sub hw) fun w hw => by rw [ht.one hw, ht5]⟩
    · refine ⟨e, js, c4.sub (ht.n.trans rfl) fun x w hw => ?_⟩
      rcases p_st (ht.sub hw) with ⟨hx, hw2⟩ | h1
      · subst hx; rw [ht.one hw] at hw2; exact absurd hw2 ht5
      · exact h1
  refine outw_flush (k := r) hrc (by show r < s4.n; omega) c5 ?_
  refine outw_fence (c5.sub rfl fun _ _ hw => p_fl hw) ?_
  refine ⟨rfl, full _ n4 (fun x w hw => p_fl (p_fe hw)) fun w hw => ?_, k4.trans ((kp_st (by omega)).trans (kp_fl.trans kp_fe))⟩
  rw [set_flfe (s := s4.up.st r (stampI e js.length)) (i := r) (x := r) rfl w hw]
  show upd s4.now r _ r = _
  simp only [upd, if_true]
/-- The log closed: another epoch. -/
theorem cut_trunc {c : Cfg} {N : Nat} {F F' : Nat → Prop} {K M : Nat → Int} {e : Int} {js : List Nat} {s : Dev} {d : Nat} (h : CutI c N F K e js s) (hc : CfgW c) (hNw : (N : Int) = c.words) (he : e + 1 < 4294967296) (hM : ∀ x : Nat, c.active ≤ x → x < N → ¬ F' x → ∀ w, s.P x w → w = M x) :
    OutW (LogS.truncate ⟨d, c, e, js.length⟩ s) (fun L' s' => L' = (⟨d, c, e, js.length⟩ : LogS).shut ∧ CutI c N F' M L'.epoch [] s' ∧ Kp c.active s s') (Rec2 c N F K F' M) := by
  have hact := hc.act
  have hal := act_w hc
  have hn := h.n
  have h1 := h.e1
  have hlog : 0 ≤ c.log := by have := hc.l1; have := hc.r1; omega
  unfold LogS.truncate LogS.shut
  by_cases h0 : (js.length : Int) = 0
  · simp only [if_pos h0]
    refine ⟨rfl, ⟨h.n, h.e1, h.e2, by simpa using hlog, h.ep, fun k hk => absurd hk (Nat.not_lt_zero _), fun k _ hk v hv => h.stale k (by omega) hk v hv, fun x _ h2 h3 h4 v hv => hM x h2 h3 h4 v hv⟩, Kp.refl⟩
  · simp only [if_neg h0]
    have hem : (e + 1) % 4294967296 = e + 1 := Int.emod_eq_of_lt (by omega) he
    rw [hem]
    refine outw_store (k := 8) rfl (by omega) h.reci.two ?_
    have key : ∀ x w, x ≠ 8 → (s.up.st 8 (e + 1)).P x w → s.P x w := fun x w hx hw => (p_st hw).resolve_left fun hh => hx hh.1
    have full : ∀ t : Dev, t.n = s.n → (∀ x w, t.P x w → (s.up.st 8 (e + 1)).P x w) → (∀ w, t.P 8 w → w = e + 1) → CutI c N F' M (e + 1) [] t := fun t htn htp ht8 => by
      refine ⟨htn.trans h.n, by omega, he, by simpa using hlog, ht8, fun k hk => absurd hk (Nat.not_lt_zero _), fun k _ hk2 v hv => ?_, fun x _ hx2 hx3 hx4 v hv => hM x hx2 hx3 hx4 v (key _ _ (by omega) (htp _ _ hv))⟩
      have hv' := key _ _ (by omega) (htp _ _ hv)
      by_cases hk' : k < js.length
      · rw [(h.recs k hk').1 v hv']
        have := h.len
        have := hc.l2
        simp only [stampI]; omega
      · have := h.stale k (by omega) hk2 v hv'
        omega
    have c1 : Rec2 c N F K F' M (s.up.st 8 (e + 1)) := fun t ht => by
      by_cases ht8 : t.now 8 = e + 1
      · exact .inr ⟨e + 1, [], full t ht.n (fun x w hw => ht.sub hw) fun w hw => by rw [ht.one hw, ht8]⟩
      · refine .inl ⟨e, js, h.sub ht.n fun x w hw => ?_⟩
        rcases p_st (ht.sub hw) with ⟨hx, hw2⟩ | h1
        · subst hx; rw [ht.one hw] at hw2; exact absurd hw2 ht8
        · exact h1
    refine outw_flush (k := 8) rfl (by show 8 < s.n; omega) c1 ?_
    refine outw_fence (c1.sub rfl fun _ _ hw => p_fl hw) ?_
    refine ⟨rfl, full _ rfl (fun x w hw => p_fl (p_fe hw)) fun w hw => ?_, (kp_st (by omega)).trans (kp_fl.trans kp_fe)⟩
    have h8 : upd s.now 8 (e + 1) 8 = e + 1 := by simp only [upd, if_true]
    exact (set_flfe (s := s.up.st 8 (e + 1)) (i := 8) (x := 8) rfl w hw).trans h8
theorem cut_flushAll {c : Cfg} {N : Nat} {F : Nat → Prop} {K : Nat → Int} {e : Int} {js : List Nat} {I : Dev → Prop} (hI : ∀ s, CutI c N F K e js s → I s) : ∀ (ks : List Int) (s : Dev), CutI c N F K e js s → (∀ k ∈ ks, 0 ≤ k ∧ k * 8 < N) →
    OutW (flushAll ks s) (fun _ s' => CutI c N F K e js s' ∧ s'.now = s.now ∧ (∀ x w, s'.P x w → s.P x w) ∧ (∀ x, s'.pk x = if ((x / 8 : Nat) : Int) ∈ ks then s.now x else s.pk x)) I
  | [], s, h, _ => ⟨h, rfl, fun _ _ hw => hw, fun x => by rw [if_neg (by simp)]⟩
  | k :: ks, s, h, hk => by
    obtain ⟨k1, k2⟩ := hk k (by simp)
    simp only [flushAll]
    have hn := h.n
    refine outw_flush (k := (k * 8).toNat) (by omega) (by omega) (hI s h) ?_
    refine (cut_flushAll hI ks (s.up.fl (k * 8).toNat) (h.sub rfl fun _ _ hw => p_fl hw) fun j hj => hk j (by simp [hj])).mono ?_ fun _ h => h
    rintro _ s' ⟨g1, g2, g3, g4⟩
    refine ⟨g1, g2, fun x w hw => p_fl (g3 x w hw), fun x => ?_⟩
    rw [g4, pk_flush]
    show (if ((x / 8 : Nat) : Int) ∈ ks then s.now x else _) = _
    by_cases h1 : ((x / 8 : Nat) : Int) ∈ ks
    · rw [if_pos h1, if_pos (List.mem_cons_of_mem _ h1)]
    · rw [if_neg h1]
      by_cases h2 : x / 8 = (k * 8).toNat / 8
      · rw [if_pos h2, if_pos]
        have : ((x / 8 : Nat) : Int) = k := by omega
        rw [this]; exact List.mem_cons_self
      · rw [if_neg h2, if_neg]
        have : ((x / 8 : Nat) : Int) ≠ k := by omega
        exact fun h => (List.mem_cons.1 h).elim this h1
/-- A section kept: the words are as they stand, or as they were. -/
theorem cut_commit {c : Cfg} {N : Nat} {F F' : Nat → Prop} {K : Nat → Int} {e : Int} {js : List Nat} {s : Dev} {S : SecS} {d : Nat} (h : CutI c N F K e js s) (hc : CfgW c) (hNw : (N : Int) = c.words) (he : e + 1 < 4294967296) (hL : S.L = ⟨d, c, e, js.length⟩) (hd : ∀ k ∈ S.dirty.map Prod.fst, 0 ≤ k ∧ k * 8 < N) (hset : ∀ x : Nat, c.active ≤ x → x < N → ((x / 8 : Nat) : Int) ∉ S.dirty.map Prod.fst → s.Set x) :
    OutW (S.commit s) (fun S' s' => S' = { S with L := S.L.shut } ∧ CutI c N F' s.now S.L.shut.epoch [] s' ∧ (∀ x : Nat, c.active ≤ x → x < N → s'.now x = s.now x)) (Rec2 c N F K F' s.now) := by
  have hmem : ∀ k, k ∈ sortI (S.dirty.map Prod.fst) ↔ k ∈ S.dirty.map Prod.fst := fun k => List.mem_mergeSort
  unfold SecS.commit
  refine outw_then (cut_flushAll (I := Rec2 c N F K F' s.now) (fun s hs => hs.reci.two) _ s h fun k hk => hd k ((hmem k).1 hk)) ?_
  rintro _ s1 ⟨g1, g2, g3, g4⟩
  have fin : ∀ s2 : Dev, CutI c N F K e js s2 → s2.now = s.now → (∀ x : Nat, c.active ≤ x → x < N → s2.Set x) → OutW ((S.L.truncate s2).then fun L s => Out.ok { S with L := L } s) (fun S' s' => S' = { S with L := S.L.shut } ∧ CutI c N F' s.now S.L.shut.epoch [] s' ∧ (∀ x : Nat, c.active ≤ x → x < N → s'.now x = s.now x)) (Rec2 c N F K F' s.now) := fun s2 h2 hn2 hs2 => by
    rw [hL]
    refine outw_then (cut_trunc (F' := F') (M := s.now) h2 hc hNw he fun x h3 h4 _ w hw => by rw [← hn2]; exact hs2 x h3 h4 w hw) ?_
    rintro L' s3 ⟨rfl, g6, g7⟩
    exact ⟨rfl, g6, fun x h3 _ => by rw [g7.now x h3, hn2]⟩
  by_cases hdl : 0 < S.dirty.length
  · rw [if_pos hdl]
    refine outw_fence g1.reci.two (fin _ (g1.sub rfl fun _ _ hw => p_fe hw) g2 fun x h3 h4 => ?_)
    by_cases hx : ((x / 8 : Nat) : Int) ∈ S.dirty.map Prod.fst
    · exact set_pk (by rw [g4, if_pos ((hmem _).2 hx), g2])
    · intro w hw
      rw [hset x h3 h4 hx w (g3 x w (p_fe hw))]
      exact (congrFun g2 x).symm
  · rw [if_neg hdl, then_ok]
    refine fin s1 g1 g2 fun x h3 h4 w hw => ?_
    have hd0 : S.dirty = [] := List.length_eq_zero_iff.1 (by omega)
    rw [hset x h3 h4 (by rw [hd0]; simp) w (g3 x w hw), g2]
theorem cut_recN {c : Cfg} {N : Nat} {F : Nat → Prop} {K : Nat → Int} {e : Int} {js : List Nat} (hc : CfgW c) (hNw : (N : Int) = c.words) : ∀ (k : Nat) (s : Dev), k ≤ js.length → CutI c N F K e js s →
    OutW (recN undoS c k s) (fun _ s' => CutI c N F K e js s' ∧ (∀ x : Nat, s'.now x = if (∃ j, ∃ h : j < js.length, j < k ∧ js[j] = x) then K x else s.now x) ∧ (∀ x : Nat, s'.pk x = if (∃ j, ∃ h : j < js.length, j < k ∧ js[j] / 8 = x / 8) then s'.now x else s.pk x)) (RecI c N F K)  := by
  intro k
  induction k with
  | zero =>
    intro s _ h
    exact ⟨h, fun x => by rw [if_neg]; rintro ⟨j, _, h1, _⟩; omega, fun x => by rw [if_neg]; rintro ⟨j, _, h1, _⟩; omega⟩
  | succ k ih =>
    intro s hk h
    have hact := hc.act
    have hal := act_w hc
    have hn := h.n
    have hlen := h.len
    obtain ⟨y, hy⟩ : ∃ y, y = js[k]'(by omega) := ⟨_, rfl⟩
    have hmem : y ∈ js := hy ▸ List.getElem_mem _
    obtain ⟨r1, r2, r3, r4, r5⟩ := h.recs k (by omega)
    rw [← hy] at r2 r3 r4 r5
    have l1 : s.load (c.record k + 1) = y := by rw [load_nat (k := 16 + 4 * k + 1) (by simp only [Cfg.record]; omega) (by omega)]; exact r2 _ (.inr (.inr rfl))
    have l2 : s.load (c.record k + 2) = K y := by rw [load_nat (k := 16 + 4 * k + 2) (by simp only [Cfg.record]; omega) (by omega)]; exact r3 _ (.inr (.inr rfl))
    simp only [recN]
    rw [l1, l2, wr64 (by omega)]
    unfold undoS
    have c1 : CutI c N F K e js (s.up.st y (K y)) := h.store _ (by omega) (fun k hk => by omega) (fun k hk => by omega) (fun _ => .inl hmem)
    have c2 := c1.sub (s' := (s.up.st y (K y)).up.fl y) rfl fun _ _ hw => p_fl hw
    have hys : y < (s.up.st y (K y)).n := by have : (s.up.st y (K y)).n = s.n := rfl; omega
    have hinner : OutW ((s.store (y : Int) (K y)).then fun _ s => (s.flush (y : Int)).then fun _ s => Out.ok () s) (fun _ s' => s' = (s.up.st y (K y)).up.fl y) (RecI c N F K) := by
      refine outw_store (k := y) rfl (by omega) h.reci ?_
      refine outw_flush (k := y) rfl hys c1.reci ?_
      exact rfl
    refine outw_then hinner ?_
    rintro _ s1 rfl
    refine (ih _ (by omega) c2).mono ?_ fun _ h => h
    rintro _ s' ⟨g1, g2, g3⟩
    have hs1 : ∀ x : Nat, ((s.up.st y (K y)).up.fl y).now x = if x = y then K x else s.now x := fun x => by
      show upd s.now y (K y) x = _
      simp only [upd]
      by_cases e : x = y
      · rw [if_pos e, if_pos e, e]
      · rw [if_neg e, if_neg e]
    refine ⟨g1, fun x => ?_, fun x => ?_⟩
    · rw [g2, hs1]
      by_cases h1 : ∃ j, ∃ h : j < js.length, j < k ∧ js[j] = x
      · obtain ⟨j, hj, hjk, hx⟩ := h1
        rw [if_pos ⟨j, hj, hjk, hx⟩, if_pos ⟨j, hj, by omega, hx⟩]
      · rw [if_neg h1]
        by_cases h2 : x = y
        · rw [if_pos h2, if_pos ⟨k, by omega, by omega, by rw [← hy]; exact h2.symm⟩]
        · rw [if_neg h2, if_neg]
          rintro ⟨j, hj, hjk, hx⟩
          rcases Nat.lt_succ_iff_lt_or_eq.1 hjk with h | h
          · exact h1 ⟨j, hj, h, hx⟩
          · subst h; rw [← hy] at hx; exact h2 hx.symm
    · rw [g3]
      by_cases h1 : ∃ j, ∃ h : j < js.length, j < k ∧ js[j] / 8 = x / 8
      · obtain ⟨j, hj, hjk, hx⟩ := h1
        rw [if_pos ⟨j, hj, hjk, hx⟩, if_pos ⟨j, hj, by omega, hx⟩]
      · rw [if_neg h1, pk_flush]
        by_cases h2 : x / 8 = y / 8
        · rw [if_pos h2, if_pos ⟨k, by omega, by omega, by rw [← hy]; exact h2.symm⟩, g2, if_neg]
          · rfl
          · rintro ⟨j, hj, hjk, hx⟩
            exact h1 ⟨j, hj, hjk, by rw [hx]⟩
        · rw [if_neg h2, if_neg]
          · rfl
          · rintro ⟨j, hj, hjk, hx⟩
            rcases Nat.lt_succ_iff_lt_or_eq.1 hjk with h | h
            · exact h1 ⟨j, hj, h, hx⟩
            · subst h; rw [← hy] at hx; exact h2 hx.symm
theorem mem_get {js : List Nat} {x : Nat} : (∃ j, ∃ h : j < js.length, j < js.length ∧ js[j] = x) ↔ x ∈ js := by
  rw [List.mem_iff_getElem]
  exact ⟨fun ⟨j, h, _, e⟩ => ⟨j, h, e⟩, fun ⟨j, h, e⟩ => ⟨j, h, h, e⟩⟩
theorem Rec2.one {c : Cfg} {N : Nat} {F : Nat → Prop} {K : Nat → Int} {s : Dev} (h : Rec2 c N F K F K s) : RecI c N F K s := fun t ht => (h t ht).elim id id
/-- The undoing: whatever comes, the words lead back to K. -/
theorem cut_undo {c : Cfg} {N : Nat} {F : Nat → Prop} {K : Nat → Int} {e : Int} {js : List Nat} {s : Dev} {d : Nat} (h : CutI c N F K e js s) (hc : CfgW c) (hNw : (N : Int) = c.words) (he : e + 1 < 4294967296) :
    OutW (LogS.undo ⟨d, c, e, js.length⟩ s) (fun L' s' => L' = (⟨d, c, e, js.length⟩ : LogS).shut ∧ CutI c N F K L'.epoch [] s' ∧ (∀ x : Nat, c.active ≤ x → x < N → s'.now x = if x ∈ js then K x else s.now x)) (RecI c N F K) := by
  unfold LogS.undo
  have hk : ((js.length : Nat) : Int).toNat = js.length := by omega
  simp only [hk]
  refine outw_then (cut_recN hc hNw js.length s (Nat.le_refl _) h) ?_
  rintro _ s1 ⟨g1, g2, g3⟩
  have hnow : ∀ x : Nat, s1.now x = if x ∈ js then K x else s.now x := fun x => by
    rw [g2]
    by_cases c1 : x ∈ js
    · rw [if_pos (mem_get.2 c1), if_pos c1]
    · rw [if_neg (fun hh => c1 (mem_get.1 hh)), if_neg c1]
  have fin : ∀ s2 : Dev, CutI c N F K e js s2 → s2.now = s1.now → (∀ x : Nat, x ∈ js → s2.Set x) → OutW (LogS.truncate ⟨d, c, e, js.length⟩ s2) (fun L' s' => L' = (⟨d, c, e, js.length⟩ : LogS).shut ∧ CutI c N F K L'.epoch [] s' ∧ (∀ x : Nat, c.active ≤ x → x < N → s'.now x = if x ∈ js then K x else s.now x)) (RecI c N F K) := fun s2 h2 hn2 hs2 => by
    refine (cut_trunc (F' := F) (M := K) h2 hc hNw he fun x h3 h4 h5 w hw => ?_).mono ?_ fun _ h => h.one
    · by_cases c1 : x ∈ js
      · rw [hs2 x c1 w hw, hn2, hnow, if_pos c1]
      · exact h2.same x c1 h3 h4 h5 w hw
    · rintro L' s3 ⟨rfl, g6, g7⟩
      exact ⟨rfl, g6, fun x h3 _ => by rw [g7.now x h3, hn2, hnow]⟩
  by_cases h0 : (0 : Int) < js.length
  · rw [if_pos h0]
    refine outw_fence g1.reci (fin _ (g1.sub rfl fun _ _ hw => p_fe hw) rfl fun x hx => set_pk ?_)
    rw [g3, if_pos]
    obtain ⟨j, hj, hx'⟩ := List.mem_iff_getElem.1 hx
    exact ⟨j, hj, hj, by rw [hx']⟩
  · rw [if_neg h0, then_ok]
    refine fin s1 g1 rfl fun x hx => ?_
    have : js = [] := List.length_eq_zero_iff.1 (by omega)
    rw [this] at hx; simp at hx
/-- A log as it is found. -/
theorem cut_open {c : Cfg} {N : Nat} {F : Nat → Prop} {K : Nat → Int} {e : Int} {js : List Nat} {s : Dev} (h : CutI c N F K e js s) (hc : CfgW c) (hNw : (N : Int) = c.words) (d : Nat) : openL d c s = ⟨d, c, e, js.length⟩ := by
  have hact := hc.act
  have hal := act_w hc
  have hn := h.n
  have e8 : s.load 8 = e := by rw [load_nat (i := 8) (k := 8) rfl (by omega)]; exact h.ep _ (.inr (.inr rfl))
  have hlen := h.len
  have h1 := h.e1
  have h2 := h.e2
  have key : ∀ (f k : Nat), k ≤ js.length → js.length ≤ k + f → (k + f : Int) = c.log → openN s c e f k = js.length := by
    intro f
    induction f with
    | zero => intro k hk hkf _; simp only [openN]; omega
    | succ f ih =>
      intro k hk hkf hkl
      have hld : s.load (c.record k) = s.now (16 + 4 * k) := load_nat (k := 16 + 4 * k) (by simp only [Cfg.record]; omega) (by omega)
      simp only [openN]
      by_cases hlt : k < js.length
      · rw [hld, (h.recs k hlt).1 _ (.inr (.inr rfl)), if_pos rfl]
        exact ih (k + 1) (by omega) (by omega) (by omega)
      · have hs := h.stale k (by omega) (by omega) _ (.inr (.inr rfl))
        rw [hld, if_neg (by simp only [stampI]; omega)]
        omega
  unfold openL
  rw [e8, Int.emod_eq_of_lt h1 h2]
  have := key c.log.toNat 0 (Nat.zero_le _) (by omega) (by omega)
  rw [show openN s c e c.log.toNat 0 = js.length from this]
theorem cut_good {c : Cfg} {N : Nat} {F : Nat → Prop} {K : Nat → Int} {e : Int} {js : List Nat} {s : Dev} (h : CutI c N F K e js s) (hc : CfgW c) (hNw : (N : Int) = c.words) : goodN s c js.length 0 = -1 := by
  have hact := hc.act
  have hal := act_w hc
  have hn := h.n
  have hlen := h.len
  have key : ∀ (f k : Nat), k + f = js.length → goodN s c f k = -1 := by
    intro f
    induction f with
    | zero => intro k _; rfl
    | succ f ih =>
      intro k hk
      obtain ⟨_, r2, _, r4, r5⟩ := h.recs k (by omega)
      have hld : s.load (c.record k + 1) = js[k] := by rw [load_nat (k := 16 + 4 * k + 1) (by simp only [Cfg.record]; omega) (by omega)]; exact r2 _ (.inr (.inr rfl))
      simp only [goodN]
      rw [hld, if_neg (by omega)]
      exact ih (k + 1) (by omega)
  exact key js.length 0 (by omega)
/-- Opened anew under a power without an end, and undone: the words are K's. -/
theorem cut_recover {c : Cfg} {N : Nat} {F : Nat → Prop} {K : Nat → Int} {e : Int} {js : List Nat} {s : Dev} {d : Nat} (h : CutI c N F K e js s) (hc : CfgW c) (hNw : (N : Int) = c.words) (hl : s.pow.lim < 0) : ∃ L' s', LogS.undo ⟨d, c, e, js.length⟩ s = .ok L' s' ∧ s'.n = N ∧ ∀ x : Nat, c.active ≤ x → x < N → ¬ F x → s'.now x = K x := by
  have hact := hc.act
  have hal := act_w hc
  have hn := h.n
  have hlen := h.len
  obtain ⟨s1, e1, e2, e3, e4, _⟩ := recN_ne (js := fun k => js.getD k 0) (old := K) hc js.length s hl (by omega) hlen (by omega) (fun k hk => by
    obtain ⟨_, r2, r3, r4, r5⟩ := h.recs k hk
    have hg : js.getD k 0 = js[k] := by simp [hk]
    simp only [hg]
    exact ⟨r2 _ (.inr (.inr rfl)), r3 _ (.inr (.inr rfl)), r4, by omega⟩)
  have hex : ∀ x, (∃ j, j < js.length ∧ js.getD j 0 = x) ↔ x ∈ js := fun x => by
    rw [List.mem_iff_getElem]
    exact ⟨fun ⟨j, hj, e⟩ => ⟨j, hj, by simpa [hj] using e⟩, fun ⟨j, hj, e⟩ => ⟨j, hj, by simpa [hj] using e⟩⟩
  have hnow : ∀ x : Nat, c.active ≤ x → x < N → ¬ F x → s1.now x = K x := fun x h1 h2 h3 => by
    rw [e4]
    by_cases c1 : x ∈ js
    · rw [if_pos ((hex x).2 c1)]
    · rw [if_neg (fun hh => c1 ((hex x).1 hh))]; exact h.now c1 h1 h2 h3
  unfold LogS.undo
  simp only [Int.toNat_natCast]
  rw [e1, then_ok]
  by_cases h0 : (0 : Int) < js.length
  · rw [if_pos h0, fn_then e2, trunc_ne (by rw [fn_lim]; exact e2) (by rw [fn_n, e3]; omega) (by show (js.length : Int) ≠ 0; omega)]
    refine ⟨_, _, rfl, by rw [ff_n, sv_n, fn_n, e3, hn], fun x h1 h2 h3 => ?_⟩
    rw [ff_now, sv_now, fn_now]
    simp only [upd]
    rw [if_neg (by omega)]
    exact hnow x h1 h2 h3
  · rw [if_neg h0, then_ok]
    refine ⟨_, s1, by unfold LogS.truncate; rw [if_pos (by show (js.length : Int) = 0; omega)], e3.trans hn, hnow⟩
end Go.Proofs.Ytbhpbnedocdneaa
