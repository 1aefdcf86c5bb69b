/- The law SectionCut: the walk. Conditions: none. -/
import Derived.Test.YtbhpbnedocdneaaCut
import Derived.Test.YtbhpbnedocdneaaSpl
import Derived.Test.YtbhpbnedocdneaaArg
set_option linter.unusedSimpArgs false
set_option linter.unusedVariables false
set_option linter.unnecessarySimpa false
set_option linter.unusedSectionVars false
namespace Go.Proofs.Ytbhpbnedocdneaa
set_option linter.unusedSimpArgs false
set_option linter.unusedVariables false
open Go
abbrev noF : Nat → Prop := fun _ => False
theorem Rec2.n {c : Cfg} {N : Nat} {F F' : Nat → Prop} {K M : Nat → Int} {s : Dev} (h : Rec2 c N F K F' M s) : s.n = N := by
  rcases h _ (left_crash s fun _ => 0) with ⟨_, _, h1⟩ | ⟨_, _, h1⟩ <;> exact h1.n
theorem RecI.n {c : Cfg} {N : Nat} {F : Nat → Prop} {K : Nat → Int} {s : Dev} (h : RecI c N F K s) : s.n = N := h.two (F' := F) (M := K) |>.n
/-- A device that was formatted: nothing is open. -/
theorem cut_fmt {c : Cfg} {s0 : Dev} {pa : Nat} {pw : Pow} (hf : Fmt c s0.n s0) (hc : CfgW c) (hn : (s0.n : Int) = c.words) : CutI c s0.n noF s0.now 1 [] { s0 with pa := pa, pow := pw } := by
  have hP : ∀ x w, ({ s0 with pa := pa, pow := pw } : Dev).P x w → w = s0.now x := fun x w hw => by
    rcases hw with h | h | h
    · rw [h]; exact congrFun hf.calm.kept x
    · have h : w = s0.pk x := h
      rw [h, still_pk hf.calm.q]; exact congrFun hf.calm.kept x
    · exact h
  have hlog : 0 ≤ c.log := by have := hc.l1; have := hc.r1; omega
  refine ⟨rfl, by decide, by decide, by simpa using hlog, fun v hv => by rw [hP _ _ hv, hf.ep.1], fun k hk => absurd hk (Nat.not_lt_zero _), fun k _ hk v hv => ?_, fun x _ _ _ _ v hv => hP x v hv⟩
  rw [hP _ _ hv]
  exact hf.recs k hk
/-- A section beside its model, under any power; K: the words behind the last section that was closed. -/
structure CP (c : Cfg) (N bd : Nat) (E : Nat) (K : Nat → Int) (M : MS) (S : SecS) (s : Dev) : Prop where
  mc : M.c = c
  nw : M.nw = N - c.active.toNat
  n : s.n = N
  hN : (N : Int) = c.words
  now : ∀ i, i < M.nw → M.now i = s.now (c.active.toNat + i)
  dl : S.dirty.length ≤ E
  eb : S.L.epoch ≤ E
  cut : ∃ e js, CutI c N noF K e js s ∧ S.L = ⟨bd, c, e, js.length⟩ ∧ (M.o = false → js = []) ∧
    (M.o = true → M.js = js.map (fun (j : Nat) => (j : Int)) ∧ (∀ i : Int, (mget S.seen i).isSome = true ↔ ∃ j ∈ js, (j : Int) = i) ∧ S.ff = c.words ∧ S.ft = c.words ∧ M.f = c.words ∧ M.t = c.words ∧
      (∃ g, M.was = some g ∧ ∀ i, i < M.nw → g i = K (c.active.toNat + i)) ∧ (∀ k ∈ S.dirty.map Prod.fst, c.active ≤ k * 8 ∧ k * 8 < N) ∧ (∀ x : Nat, c.active ≤ x → x < N → ((x / 8 : Nat) : Int) ∉ S.dirty.map Prod.fst → s.Set x))
theorem CP.up {c : Cfg} {N bd E E' : Nat} {K : Nat → Int} {M : MS} {S : SecS} {s : Dev} (h : CP c N bd E K M S s) (hE : E ≤ E') : CP c N bd E' K M S s := ⟨h.mc, h.nw, h.n, h.hN, h.now, by have := h.dl; omega, by have := h.eb; omega, h.cut⟩
theorem CP.begin {c : Cfg} {N bd E : Nat} {K : Nat → Int} {M : MS} {S : SecS} {s : Dev} (h : CP c N bd E K M S s) (ho : M.o = false) : CP c N bd E K (M.begin c.words c.words) { S with ff := c.words, ft := c.words, seen := [], dirty := [] } s := by
  obtain ⟨e, js, h1, h2, h3, _⟩ := h.cut
  obtain rfl := h3 ho
  have hnw := h.nw
  have hN := h.hN
  refine ⟨h.mc, h.nw, h.n, h.hN, h.now, Nat.zero_le _, h.eb, e, [], h1, h2, fun hh => (by cases hh), fun _ => ⟨rfl, fun i => by simp [mget], rfl, rfl, rfl, rfl, ⟨M.now, rfl, fun i hi => ?_⟩, fun k hk => by simp at hk, fun x hx1 hx2 _ w hw => ?_⟩⟩
  · have hi : i < M.nw := hi
    rw [h.now i hi]
    have h0 : 0 ≤ c.active.toNat := Nat.zero_le _
    exact h1.now (by simp) (by omega) (by omega) (fun h => h)
  · rw [h1.same x (by simp) hx1 hx2 (fun h => h) w hw, h1.now (by simp) hx1 hx2 (fun h => h)]
theorem CP.secw {c : Cfg} {N bd E : Nat} {K : Nat → Int} {M : MS} {S : SecS} {s : Dev} (h : CP c N bd E K M S s) (hc : CfgW c) (ho : M.o = true) : SecW S := by
  obtain ⟨e, js, h1, h2, _, h4⟩ := h.cut
  obtain ⟨_, _, _, _, _, _, _, h5, _⟩ := h4 ho
  have hact := act_w hc
  have hN := h.hN
  refine ⟨?_, fun p hp => ?_⟩
  · rw [h2]; exact ⟨hc, h1.e1, h1.e2, by show (0 : Int) ≤ js.length; omega, h1.len⟩
  · have := h5 p.1 (List.mem_map_of_mem hp); omega
/-- Closed: the words that stand are those that a crash leads to. -/
theorem cp_close {c : Cfg} {N bd E : Nat} {M M' : MS} {S S' : SecS} {s s' : Dev} {K K' : Nat → Int} (h : CP c N bd E K M S s) (hc : CfgW c) {L' : LogS} (hL : L' = S.L.shut) (hS : S' = { S with L := L' }) (h1 : CutI c N noF K' L'.epoch [] s') (e1 : M'.c = M.c) (e2 : M'.nw = M.nw) (e3 : M'.o = false) (hnow : ∀ i, i < M.nw → M'.now i = s'.now (c.active.toNat + i)) : CP c N bd (E + 1) K' M' S' s' := by
  obtain ⟨e, js, g1, g2, _⟩ := h.cut
  subst hS
  have hshut : L' = ⟨bd, c, L'.epoch, (([] : List Nat).length : Int)⟩ := by
    rw [hL, g2]; unfold LogS.shut
    by_cases h0 : (js.length : Int) = 0
    · simp only [if_pos h0]; rw [h0]; rfl
    · simp only [if_neg h0]; rfl
  refine ⟨by rw [e1, h.mc], by rw [e2, h.nw], h1.n, h.hN, fun i hi => hnow i (by rw [← e2]; exact hi), ?_, ?_, L'.epoch, [], h1, hshut, fun _ => rfl, fun ho => (by rw [e3] at ho; cases ho)⟩
  · have := h.dl; show S.dirty.length ≤ E + 1; omega
  · have := h.eb
    show L'.epoch ≤ ((E + 1 : Nat) : Int)
    rw [hL]
    unfold LogS.shut
    split
    · omega
    · show (S.L.epoch + 1) % 4294967296 ≤ _
      have h5 := g1.e1
      rw [g2] at this ⊢
      simp only at this ⊢
      omega
theorem outw_ok {α : Type} {m : Out α} {Q : α → Dev → Prop} {I : Dev → Prop} {a : α} {s : Dev} (h : OutW m Q I) (e : m = .ok a s) : Q a s := by subst e; exact h
theorem outw_off {α : Type} {m : Out α} {Q : α → Dev → Prop} {I : Dev → Prop} {s : Dev} (h : OutW m Q I) (e : m = .off s) : I s := by subst e; exact h
theorem CP.commit {c : Cfg} {N bd E : Nat} {K : Nat → Int} {M : MS} {S : SecS} {s : Dev} (h : CP c N bd E K M S s) (hc : CfgW c) (hE : E ≤ 1000000) (ho : M.o = true) : OutW (S.commit s) (fun S' s' => CP c N bd (E + 1) s.now { M with o := false } S' s') (Rec2 c N noF K noF s.now) := by
  obtain ⟨e, js, g1, g2, _, g4⟩ := h.cut
  obtain ⟨_, _, _, _, _, _, _, g5, g6⟩ := g4 ho
  have hact := act_w hc
  have hal := hc.act
  have heb := h.eb
  rw [g2] at heb
  refine (cut_commit (F' := noF) g1 hc h.hN (by simp only at heb; omega) g2 (fun k hk => by have := g5 k hk; omega) g6).mono ?_ fun _ h => h
  rintro S' s' ⟨rfl, e2, e3⟩
  refine cp_close (M' := { M with o := false }) h hc rfl rfl e2 rfl rfl rfl fun i hi => ?_
  have := h.nw
  have := h.hN
  show M.now i = _
  rw [e3 _ (by omega) (by omega)]; exact h.now i hi
theorem CP.abort {c : Cfg} {N bd E : Nat} {K : Nat → Int} {M : MS} {S : SecS} {s : Dev} (h : CP c N bd E K M S s) (hc : CfgW c) (hE : E ≤ 1000000) (ho : M.o = true) {g : Nat → Int} (hg : M.was = some g) : OutW (S.abort s) (fun S' s' => CP c N bd (E + 1) K (M.abort g) S' s') (RecI c N noF K) := by
  obtain ⟨e, js, g1, g2, _, g4⟩ := h.cut
  obtain ⟨_, _, _, _, g7, g8, ⟨g', g9, g10⟩, g5, g6⟩ := g4 ho
  obtain rfl : g = g' := by rw [hg] at g9; exact Option.some.inj g9
  have hact := act_w hc
  have heb := h.eb
  rw [g2] at heb
  unfold SecS.abort
  rw [g2]
  refine outw_then (cut_undo g1 hc h.hN (by simp only at heb; omega)) ?_
  rintro L' s' ⟨e1, e2, e3⟩
  refine cp_close (M' := M.abort g) h hc (by rw [g2]; exact e1) rfl e2 rfl rfl rfl fun i hi => ?_
  have hnw := h.nw
  have hN := h.hN
  show (if M.c.active + i < M.f ∨ M.t ≤ M.c.active + i then g i else M.now i) = _
  rw [if_pos (by rw [h.mc, g7]; omega), g10 i hi, e3 _ (by omega) (by omega)]
  by_cases c1 : c.active.toNat + i ∈ js
  · rw [if_pos c1]
  · rw [if_neg c1]; exact (g1.now c1 (by omega) (by omega) (fun h => h)).symm
theorem set_st {s : Dev} {y x : Nat} {v : Int} (h : s.Set x) (hx : x ≠ y) : (s.up.st y v).Set x := fun w hw => by
  rcases p_st hw with ⟨e, _⟩ | h1
  · exact absurd e hx
  · rw [h w h1]
    show s.now x = upd s.now y v x
    simp only [upd]; rw [if_neg hx]
theorem CP.put {c : Cfg} {N bd E : Nat} {K : Nat → Int} {M : MS} {S : SecS} {s : Dev} (h : CP c N bd E K M S s) (hc : CfgW c) (ho : M.o = true) (i v : Int) : OutW (S.store s i v) (fun x s' => CP c N bd (E + 1) K (M.put i v).2 x.2 s' ∧ (M.put i v).2.o = true) (RecI c N noF K) := by
  obtain ⟨e, js, g1, g2, g3, g4⟩ := h.cut
  obtain ⟨k1, k2, k3, k4, k5, k6, k7, k8, k9⟩ := g4 ho
  obtain ⟨hA1, hA2, hA3⟩ := act_w hc
  have hact := hc.act
  have hn := h.n
  have hN := h.hN
  have hmc := h.mc
  have hnw := h.nw
  have hsc : S.L.c = c := by rw [g2]
  unfold SecS.store
  rw [hsc]
  by_cases c1 : i < c.active ∨ (s.n : Int) ≤ i
  · have hp : M.put i v = (1, M) := by unfold MS.put; rw [if_pos (by rw [hmc]; omega)]
    rw [if_pos c1, hp]
    exact ⟨h.up (by omega), ho⟩
  · rw [if_neg c1]
    obtain ⟨k, rfl⟩ : ∃ k : Nat, i = k := ⟨i.toNat, by omega⟩
    have hk : c.active ≤ k ∧ k < N := by omega
    have hmem : ((k : Int) ∈ M.js) ↔ k ∈ js := by rw [k1]; exact mem_nat
    have hseen : (mget S.seen (k : Int)).isSome = true ↔ k ∈ js := by
      rw [k2]
      exact ⟨fun ⟨j, hj, e⟩ => by rwa [show k = j by omega], fun h => ⟨k, h, rfl⟩⟩
    have hnow' : ∀ (s1 : Dev), (∀ x : Nat, c.active ≤ x → s1.now x = s.now x) → ∀ j, j < M.nw → upd M.now ((k : Int) - M.c.active).toNat v j = (s1.up.st k v).now (c.active.toNat + j) := fun s1 h1 j hj => by
      show _ = upd s1.now k v (c.active.toNat + j)
      rw [hmc]
      simp only [upd]
      by_cases e : j = ((k : Int) - c.active).toNat
      · rw [if_pos e, if_pos (by omega)]
      · rw [if_neg e, if_neg (by omega), h1 _ (by omega)]; exact h.now j hj
    have hdirty : ∀ q ∈ (mset S.dirty ((k : Int) / 8) ()).map Prod.fst, c.active ≤ q * 8 ∧ q * 8 < N := fun q hq => by
      rcases mset_keyI.1 hq with e | e
      · subst e; omega
      · exact k8 q e
    have hset : ∀ (s1 : Dev), Kp c.active s s1 → ∀ x : Nat, c.active ≤ x → x < N → ((x / 8 : Nat) : Int) ∉ (mset S.dirty ((k : Int) / 8) ()).map Prod.fst → (s1.up.st k v).Set x := fun s1 hk1 x h1 h2 h3 => by
      rw [mset_keyI] at h3
      exact set_st (hk1.set h1 (k9 x h1 h2 fun hd => h3 (.inr hd))) (fun e => h3 (.inl (by subst e; omega)))
    have hdl := h.dl
    have hml : (mset S.dirty ((k : Int) / 8) ()).length ≤ S.dirty.length + 1 := mset_len
    have heb := h.eb
    by_cases c2 : k ∈ js
    · have hp : M.put k v = (0, { M with now := upd M.now ((k : Int) - M.c.active).toNat v }) := by
        unfold MS.put
        rw [if_neg (by rw [hmc]; omega), if_neg (fun hh => hh.2 (hmem.2 c2))]
      rw [if_neg (by rw [hseen.2 c2]; simp), hp]
      refine outw_store (k := k) rfl (by omega) g1.reci ?_
      exact ⟨⟨hmc, hnw, hn, hN, hnow' s (fun _ _ => rfl), by simp only; omega, by simp only; omega, e, js, g1.store v (by omega) (fun q hq => by have := hc.act; omega) (fun q hq => by have := g1.len; omega) (fun _ => .inl c2), g2, g3, fun _ => ⟨k1, k2, k3, k4, k5, k6, k7, hdirty, hset s Kp.refl⟩⟩, ho⟩
    · have hs0 : (mget S.seen (k : Int)).isSome = false := by
        cases hm : (mget S.seen (k : Int)).isSome with
        | false => rfl
        | true => exact absurd (hseen.1 hm) c2
      rw [if_pos ⟨hs0, by rw [k3]; omega⟩]
      by_cases c3 : (M.js.length : Int) = M.c.log
      · have hp : M.put k v = (3, M) := by
          unfold MS.put
          rw [if_neg (by rw [hmc]; omega), if_pos ⟨by rw [k5]; omega, fun hh => c2 (hmem.1 hh)⟩, if_pos c3]
        have hap : S.L.append s k = .ok (3, S.L) s := by
          unfold LogS.append
          rw [if_neg (by omega), if_pos (by rw [g2]; rw [k1, List.length_map, hmc] at c3; exact c3)]
        rw [hap, then_ok, hp]
        exact ⟨h.up (by omega), ho⟩
      · have hp : M.put k v = (0, { M with js := M.js ++ [(k : Int)], now := upd M.now ((k : Int) - M.c.active).toNat v }) := by
          unfold MS.put
          rw [if_neg (by rw [hmc]; omega), if_pos ⟨by rw [k5]; omega, fun hh => c2 (hmem.1 hh)⟩, if_neg c3]
        have hlen := g1.len
        rw [k1, List.length_map, hmc] at c3
        rw [hp, g2]
        refine outw_then (cut_append (d := bd) g1 hc hN hk c2 (fun h => h) (by omega)) ?_
        rintro x s1 ⟨rfl, f1, f2⟩
        simp only [ne_eq, not_true_eq_false, if_false]
        refine outw_store (k := k) rfl (by rw [f1.n]; omega) f1.reci ?_
        refine ⟨⟨hmc, hnw, f1.n, hN, hnow' s1 f2.now, by simp only; omega, by simp only; rw [g2] at heb; simp only at heb; omega, e, js ++ [k], f1.store v (by omega) (fun q hq => by omega) (fun q hq => by have := f1.len; simp at hq this; omega) (fun _ => .inl (by simp)), by simp, fun hh => (by rw [ho] at hh; cases hh), fun _ => ⟨by rw [k1]; simp, fun x => ?_, k3, k4, k5, k6, k7, hdirty, hset s1 f2⟩⟩, ho⟩
        show (mget (mset S.seen (k : Int) ()) x).isSome = true ↔ _
        rw [mget_mset]
        by_cases d1 : x = k
        · rw [if_pos d1]; simp [d1]
        · rw [if_neg d1, k2 x]
          constructor
          · rintro ⟨j, hj, e⟩; exact ⟨j, List.mem_append_left _ hj, e⟩
          · rintro ⟨j, hj, e⟩
            rcases List.mem_append.1 hj with h1 | h1
            · exact ⟨j, h1, e⟩
            · have : j = k := by simpa using h1
              subst this; exact absurd e.symm d1


theorem mdo_cp (B : World) (Fr : List HP) (bm bs bd N E : Nat) (c : Cfg) (K : Nat → Int) (M : MS) (S : SecS) (s : Dev) (hc : CfgW c) (h : CP c N bd E K M S s) (hE : E ≤ 1000000) (ki at_ v : Int) (hki : 0 ≤ ki) (hat : 0 ≤ at_ ∧ at_ ≤ 65535) :
    ∀ w, Holds B (MA bm M :: SecX M.o bs S :: DevA bd s :: Fr) w → Calls Try.prog 18 [ptr bm, ptr bs, .agg #[u8 ki, .int .u16 at_, w64 v], u8 0].toArray w (Ret B (fun rv H' => ∃ M' S' s' K', CP c N bd (E + 1) K' M' S' s' ∧ (M'.o = true → K' = K) ∧ (M'.o = false → ∀ i, i < M'.nw → M'.now i = K' (c.active.toNat + i)) ∧ H' = MA bm M' :: SecX M'.o bs S' :: DevA bd s' :: Fr)
      (fun ch H' => ch = offc ∧ ∃ s', s'.n = N ∧ (RecI c N noF K s' ∨ (ki % 8 = 1 ∧ M.o = true ∧ Rec2 c N noF K noF s.now s')) ∧ H' = MA bm M :: DevA bd s' :: Fr)) := by
  obtain ⟨e, js, g1, g2, g3, g4⟩ := h.cut
  have hd : S.L.d = bd := by rw [g2]
  obtain ⟨hA1, hA2, hA3⟩ := act_w hc
  have hN := h.hN
  have hmc := h.mc
  have hnw' := h.nw
  have hnw : M.nw = M.c.words.toNat - M.c.active.toNat := by rw [hmc, h.nw]; omega
  have hclosed : M.o = false → ∀ i, i < M.nw → M.now i = K (c.active.toNat + i) := fun ho i hi => by
    rw [h.now i hi]
    obtain rfl := g3 ho
    exact g1.now (by simp) (by omega) (by omega) (fun h => h)
  cases ho : M.o with
  | false =>
    intro w hw
    refine (mdoC_ok B (DevA bd s :: Fr) bm bs S M (by rw [hmc]; exact hc) hnw ki at_ v 0 hki hat (by decide) ho w hw).mono (Ret.mono ?_ (fun _ _ h => h.elim))
    rintro _ _ ⟨rfl, ⟨q, rfl⟩ | ⟨q, rfl⟩⟩
    · refine ⟨_, _, s, K, (h.begin ho).up (by omega), fun _ => rfl, fun hh => (by cases hh), ?_⟩
      have e0 : M.c.words - 0 % 20 = c.words := by rw [hmc]; omega
      rw [e0, hmc]; rfl
    · exact ⟨M, S, s, K, h.up (by omega), fun _ => rfl, hclosed, by rw [ho]; rfl⟩
  | true =>
    obtain ⟨k1, k2, k3, k4, k5, k6, ⟨g, k7, k7'⟩, k8, k9⟩ := g4 ho
    have hl2 := hc.l2
    have hlen := g1.len
    have hdl := h.dl
    intro w hw
    have hw' : Holds B (MA bm M :: SecO bs S :: DevA S.L.d s :: Fr) w := by rw [hd]; exact hw
    refine (mdoO_ok B Fr bm bs S M (by rw [hmc]; exact hc) hnw ki at_ v 0 hki hat (by decide) s ho (h.secw hc ho) (by omega) (by rw [k1, List.length_map]; omega) g k7 w hw').mono (Ret.mono ?_ ?_)
    · rintro _ _ (⟨q, rfl, rfl⟩ | ⟨q, rfl, S', s', hm, rfl⟩ | ⟨q, rfl, S', s', hm, rfl⟩ | ⟨q0, q1, q2, a, S', s', hm, rfl, rfl⟩)
      · exact ⟨M, S, s, K, h.up (by omega), fun _ => rfl, fun hh => (by rw [ho] at hh; cases hh), by rw [hd, ho]; rfl⟩
      · have h5 := outw_ok (h.commit hc hE ho) hm
        exact ⟨_, _, _, s.now, h5, fun hh => (by cases hh), fun _ i hi => h.now i hi, by rw [hd]; rfl⟩
      · have h5 := outw_ok (h.abort hc hE ho k7) hm
        refine ⟨_, _, _, K, h5, fun hh => (by cases hh), fun _ i hi => ?_, by rw [hd]; rfl⟩
        have hi : i < M.nw := hi
        show (if M.c.active + i < M.f ∨ M.t ≤ M.c.active + i then g i else M.now i) = _
        rw [if_pos (by rw [hmc, k5]; omega)]; exact k7' i hi
      · obtain ⟨h5, h6⟩ := outw_ok (h.put hc ho _ v) hm
        exact ⟨_, _, _, K, h5, fun _ => rfl, fun hh => (by rw [h6] at hh; cases hh), by rw [hd, h6]; rfl⟩
    · rintro _ _ ⟨s', (⟨q, hm⟩ | ⟨q, hm⟩ | ⟨q0, q1, q2, hm⟩), rfl, rfl⟩
      · have h5 := outw_off (h.commit hc hE ho) hm
        exact ⟨rfl, s', h5.n, .inr ⟨q, rfl, h5⟩, by rw [hd]⟩
      · have h5 := outw_off (h.abort hc hE ho k7) hm
        exact ⟨rfl, s', h5.n, .inl h5, by rw [hd]⟩
      · have h5 := outw_off (h.put hc ho _ v) hm
        exact ⟨rfl, s', h5.n, .inl h5, by rw [hd]⟩


/-- The slice that holds what is kept. -/
def KeptA (b nw : Nat) (g : Nat → Int) : HP := hex fun (x : Nat × List Value) => grp [row b [.slice (some ⟨x.1, 0, none⟩) nw (nw + x.2.length)] 39, row x.1 (tab nw (fun i => w64 (g i)) ++ x.2) 46]
theorem go_kept {B : World} {n : Nat} {D : List Deferred} {σ : Env} {b nw : Nat} {g : Nat → Int} {Fr : List HP} {K : Act → World → Prop} (h : ∀ bk rest, GO B n D σ (row b [.slice (some ⟨bk, 0, none⟩) nw (nw + rest.length)] 39 :: row bk (tab nw (fun i => w64 (g i)) ++ rest) 46 :: Fr) K) : GO B n D σ (KeptA b nw g :: Fr) K := fun a w st => by
  obtain ⟨⟨bk, rest⟩, hx⟩ := Holds.hex st.holds
  exact h bk rest a w ⟨st.toStA, hx.grp⟩
theorem kept_holds {B : World} {b bk n c nw : Nat} {g g' : Nat → Int} {rest : List Value} {Fr : List HP} {w : World} (hn : n = nw) (hc : c = n + rest.length) (hg : ∀ i, i < n → g i = g' i) (h : Holds B (row b [.slice (some ⟨bk, 0, none⟩) n c] 39 :: row bk (tab n (fun i => w64 (g i)) ++ rest) 46 :: Fr) w) : Holds B (KeptA b nw g' :: Fr) w := by
  subst hn; subst hc
  rw [tab_congr (f' := fun i => w64 (g' i)) fun i hi => by rw [hg i hi]] at h
  exact Holds.unhex (bk, rest) (Holds.ungrp (l := [row b [.slice (some ⟨bk, 0, none⟩) n (n + rest.length)] 39, row bk (tab n (fun i => w64 (g' i)) ++ rest) 46]) h)
/-- What stands behind the calls: whatever a crash leaves leads to K; or, cut while keeping, to what the model has. -/
structure GoodC (c : Cfg) (N : Nat) (whole cm : Bool) (K : Nat → Int) (M : MS) (s : Dev) : Prop where
  mc : M.c = c
  nw : M.nw = N - c.active.toNat
  n : s.n = N
  lft : ∀ t, Left s t → (∃ e js, CutI c N noF K e js t) ∨ (whole = false ∧ cm = true ∧ ∃ Mx e js, CutI c N noF Mx e js t ∧ ∀ i, i < M.nw → M.now i = Mx (c.active.toNat + i))
theorem CP.good {c : Cfg} {N bd E : Nat} {K : Nat → Int} {M : MS} {S : SecS} {s : Dev} (h : CP c N bd E K M S s) (cm : Bool) : GoodC c N true cm K M s := by
  obtain ⟨e, js, h1, _⟩ := h.cut
  exact ⟨h.mc, h.nw, h.n, fun t ht => .inl (h1.reci t ht)⟩
theorem cp_off {c : Cfg} {N bd E : Nat} {K : Nat → Int} {M : MS} {S : SecS} {s s' : Dev} (h : CP c N bd E K M S s) {cm p : Bool} (hn : s'.n = N) (hr : RecI c N noF K s' ∨ (p = true ∧ M.o = true ∧ Rec2 c N noF K noF s.now s')) (hcm : cm = (p && M.o)) : GoodC c N false cm K M s' := by
  refine ⟨h.mc, h.nw, hn, fun t ht => ?_⟩
  rcases hr with h1 | ⟨h1, h2, h3⟩
  · exact .inl (h1 t ht)
  · rcases h3 t ht with h4 | ⟨e, js, h4⟩
    · exact .inl h4
    · exact .inr ⟨rfl, by rw [hcm, h1, h2]; rfl, s.now, e, js, h4, h.now⟩
structure CutX where
  k : Nat
  s : Dev
  S : SecS
  M : MS
  K : Nat → Int

theorem cutDo_ok (B : World) (Fr : List HP) [HasOld Fr B] (A0 : HP) (bL bM bC bS bK bm bs bd N : Nat) (c : Cfg) (hc : CfgW c) (K0 : Nat → Int) (M0 : MS) (S0 : SecS) (s0 : Dev) (h0 : CP c N bd 1 K0 M0 S0 s0) (qa : Option Addr) (len capa : Nat) (A : Nat → Int × Int × Int) (hlen0 : len ≤ 30) (hA : ∀ i, i < len → 0 ≤ (A i).1 ∧ (A i).1 ≤ 255 ∧ 0 ≤ (A i).2.1 ∧ (A i).2.1 ≤ 65535) (ha : ArgRow B qa len 3 (fun i => [.int .u8 (A i).1, u16 (A i).2.1, w64 (A i).2.2])) :
    ∀ w, Holds B (A0 :: row bC [.bool false] 4 :: KeptA bK (N - c.active.toNat) (fun y => K0 (c.active.toNat + y)) :: MA bm M0 :: (SecX M0.o bs S0) :: DevA bd s0 :: row bL [.slice qa len capa] 54 :: row bM [ptr bm] 29 :: row bS [ptr bs] 28 :: Fr) w → Calls Try.prog 36 [ptr bL, ptr bM, ptr bC, ptr bS, ptr bK].toArray w (Ret B (fun _ H' => ∃ H1, (∃ cm K M Y s, GoodC c N true cm K M s ∧ H1 = row bC [.bool cm] 4 :: KeptA bK (N - c.active.toNat) (fun y => K (c.active.toNat + y)) :: MA bm M :: Y :: DevA bd s :: row bL [.slice qa len capa] 54 :: row bM [ptr bm] 29 :: row bS [ptr bs] 28 :: Fr) ∧ ∀ w, Holds B H' w → Holds B (A0 :: H1) w) (fun ch H' => ch = offc ∧ ∃ H1, (∃ cm K M Y s, GoodC c N false cm K M s ∧ H1 = row bC [.bool cm] 4 :: KeptA bK (N - c.active.toNat) (fun y => K (c.active.toNat + y)) :: MA bm M :: Y :: DevA bd s :: row bL [.slice qa len capa] 54 :: row bM [ptr bm] 29 :: row bS [ptr bs] 28 :: Fr) ∧ ∀ w, Holds B H' w → Holds B (A0 :: H1) w)) := by
  refine fn_enter Try.func36 rfl Try.ntmps36 rfl ?_
  obtain ⟨hA1, hA2, hA3⟩ := act_w hc
  have hNN := h0.hN
  refine g_seq ?_
  refine g_region ?_
  refine p_val rfl (ev_load Try.isAgg54 rfl rfl) .free rfl rfl ?_
  refine p_val rfl (ev_len rfl Try.runUnderlying54 ⟨_, rfl⟩ rfl) .free rfl rfl ?_
  refine p_val rfl (ev_move rfl) .free rfl rfl ?_
  refine p_nil ?_
  refine g_block ?_
  refine g_loop (ι := CutX) (fun i => i.k ≤ len ∧ CP c N bd (1 + i.k) i.K i.M i.S i.s) (fun i => [(0, ptr bL), (1, ptr bM), (2, ptr bC), (3, ptr bS), (4, ptr bK), (7, .slice qa len capa), (8, i64 len), (9, i64 i.k)]) (fun i => A0 :: row bC [.bool false] 4 :: KeptA bK (N - c.active.toNat) (fun y => i.K (c.active.toNat + y)) :: MA bm i.M :: (SecX i.M.o bs i.S) :: DevA bd i.s :: row bL [.slice qa len capa] 54 :: row bM [ptr bm] 29 :: row bS [ptr bs] 28 :: Fr) (fun i => len - i.k) ⟨0, s0, S0, M0, K0⟩ ⟨Nat.zero_le _, h0⟩ (fun a w st => st.to ⟨rfl, rfl, rfl, rfl, rfl, rfl, rfl, rfl, trivial⟩ id) ?_
  rintro ⟨k, s, S, M, K⟩ ⟨hk0, hP⟩
  simp only at hk0 hP ⊢
  refine g_seq ?_
  refine g_region ?_
  refine p_val rfl (ev_cmp rfl rfl rfl) .free rfl rfl ?_
  refine p_nil ?_
  refine g_seq ?_
  refine g_if rfl (fun h10 => ?_) (fun h10 => ?_)
  · have hk : k < len := by simpa using h10
    refine g_skip ?_
    refine g_seq ?_
    refine g_block ?_
    refine g_seq ?_
    refine g_region ?_
    obtain ⟨bq, oq, rfl, hz, hqa⟩ := ha.cell k hk
    refine p_val rfl (ev_ia Try.runUnderlying54 Try.sizeOf56 rfl rfl (by omega) (by omega) rfl) .free rfl rfl ?_
    refine p_val rfl (ev_loadOA (cs := [.int .u8 (A k).1, u16 (A k).2.1, w64 (A k).2.2]) Try.isAgg56 Try.sizeOf56 rfl rfl (fun j hj => by rw [Int.toNat_natCast, Nat.add_assoc]; exact hqa j hj)) .free rfl rfl ?_
    refine p_chg rfl (ch_allocA Try.zeroValue56 rfl) .free rfl rfl ?_
    rintro _ _ ⟨b6, rfl, rfl⟩
    refine p_chg0 rfl (ch_storeA (vs := _) Try.sizeOf56 rfl rfl rfl rfl rfl) .free rfl ?_
    rintro _ _ rfl
    refine p_nil ?_
    refine g_seq ?_
    refine g_region ?_
    refine go_pull MA bm ?_
    refine go_ma fun bc0 rest0 wv0 sv0 => ?_
    refine p_val rfl (ev_fa (m := _) fa_56_0 rfl rfl) .free rfl rfl ?_
    refine p_val rfl (ev_load Try.isAgg5 rfl rfl) .free rfl rfl ?_
    refine p_val rfl (ev_rem (c := (A k).1 % 8) rfl rfl (by decide) (rem_e 8 (hA k hk).1)) .free rfl rfl ?_
    refine p_val rfl (ev_cmp rfl rfl rfl) .free rfl rfl ?_
    refine p_val rfl (ev_move rfl) .free rfl rfl ?_
    apply p_and (tp := 22) (t := 17) (σ1 := [(17, _), (6, _), (9, _), (8, _), (7, _), (0, _), (1, _), (2, _), (3, _), (4, _)]) 5 rfl ⟨rfl, rfl, rfl, rfl, rfl, rfl, rfl, rfl, rfl, rfl, trivial⟩
    · intro hg1
      refine p_val rfl (ev_load Try.isAgg29 rfl rfl) (.on rfl rfl (beq_eq hg1)) rfl rfl ?_
      first | refine p_val rfl (ev_nil rfl) (.on rfl rfl (beq_eq hg1)) rfl rfl ?_ | refine p_val rfl (ev_nilf rfl) (.on rfl rfl (beq_eq hg1)) rfl rfl ?_
      refine p_val rfl (ev_fa (m := _) fa_42_4 rfl rfl) (.on rfl rfl (beq_eq hg1)) rfl rfl ?_
      refine p_val rfl (ev_load Try.isAgg4 rfl rfl) (.on rfl rfl (beq_eq hg1)) rfl rfl ?_
      refine p_val rfl (ev_pick_t rfl hg1 rfl) .free rfl rfl ?_
      exact p_seg rfl ⟨rfl, rfl, rfl, rfl, rfl, rfl, rfl, rfl, rfl, rfl, trivial⟩ (and_t hg1)
    · intro hg1
      refine p_skip rfl (.on rfl rfl (beq_ne hg1)) rfl ?_
      refine p_skip rfl (.on rfl rfl (beq_ne hg1)) rfl ?_
      refine p_skip rfl (.on rfl rfl (beq_ne hg1)) rfl ?_
      refine p_skip rfl (.on rfl rfl (beq_ne hg1)) rfl ?_
      refine p_val rfl (ev_pick_f rfl hg1 rfl) .free rfl rfl ?_
      exact p_seg rfl ⟨rfl, rfl, rfl, rfl, rfl, rfl, rfl, rfl, rfl, rfl, trivial⟩ (and_f hg1)
    refine p_chg0 rfl (ch_store Try.sizeOf4 rfl rfl rfl rfl) .free rfl ?_
    rintro _ _ rfl
    refine p_nil ?_
    refine g_seq ?_
    refine g_region ?_
    refine p_val rfl (ev_load Try.isAgg29 rfl rfl) .free rfl rfl ?_
    refine p_val rfl (ev_load Try.isAgg28 rfl rfl) .free rfl rfl ?_
    refine p_val rfl (ev_loadA Try.isAgg56 Try.sizeOf56 rfl rfl) .free rfl rfl ?_
    refine go_conv (H' := MA bm M :: _) (fun w hh => ma_holds (M := M) hh) ?_
    refine go_pull DevA bd ?_
    refine go_pull (SecX M.o) bs ?_
    refine go_pull MA bm ?_
    refine p_call rfl (en_f Try.call18 rfl) (mdo_cp _ _ _ _ _ _ _ c K M S s hc hP (by omega) _ _ _ (hA k hk).1 ⟨(hA k hk).2.2.1, (hA k hk).2.2.2⟩) .free rfl rfl ?_ ?_
    rotate_left
    · rintro _ _ ⟨rfl, s', hn', hr', rfl⟩
      exact pan_fn fun w hh => ⟨_, ⟨rfl, _, ⟨_, K, M, pr True, s', cp_off (p := (A k).1 % 8 == 1) hP hn' (hr'.imp id fun h => ⟨by simpa using h.1, h.2⟩) rfl, rfl⟩, fun w hh => ((((((((Holds.unpr (p := True) trivial hh).front 3 rfl).tail.front 2 rfl).front 1 rfl).front 2 rfl).front 5 rfl).front 5 rfl).front 5 rfl)⟩, hh⟩
    rintro rv _ ⟨M', S', s', K', hP', hK1, hK2, rfl⟩
    have hnw' := hP'.nw
    refine go_pull MA bm ?_
    refine go_ma fun bc1 rest1 wv1 sv1 => ?_
    refine p_nil ?_
    refine go_sub (σ' := [(9, _), (8, _), (7, _), (0, _), (1, _), (2, _), (3, _), (4, _)]) ⟨rfl, rfl, rfl, rfl, rfl, rfl, rfl, rfl, trivial⟩ ?_
    refine g_seq ?_
    refine g_seq ?_
    refine g_region ?_
    refine p_val rfl (ev_load Try.isAgg29 rfl rfl) .free rfl rfl ?_
    first | refine p_val rfl (ev_nil rfl) .free rfl rfl ?_ | refine p_val rfl (ev_nilf rfl) .free rfl rfl ?_
    refine p_val rfl (ev_fa (m := _) fa_42_4 rfl rfl) .free rfl rfl ?_
    refine p_val rfl (ev_load Try.isAgg4 rfl rfl) .free rfl rfl ?_
    refine p_val rfl (ev_not rfl) .free rfl rfl ?_
    refine p_nil ?_
    refine g_if rfl (fun h31 => ?_) (fun h31 => ?_)
    · have hcl' : M'.o = false := by simpa using h31
      refine g_region ?_
      refine p_val rfl (ev_load Try.isAgg29 rfl rfl) .free rfl rfl ?_
      first | refine p_val rfl (ev_nil rfl) .free rfl rfl ?_ | refine p_val rfl (ev_nilf rfl) .free rfl rfl ?_
      refine p_val rfl (ev_fa (m := _) fa_42_1 rfl rfl) .free rfl rfl ?_
      refine p_val rfl (ev_load Try.isAgg39 rfl rfl) .free rfl rfl ?_
      refine p_call rfl (en_f Try.call34 rfl) (clone64_ok _ _ _ _ _ (tab M'.nw (fun i => w64 (M'.now i))) (by simp) (by rw [tab_len]; omega) (by simp [tab, cell1]) SlR.tabr) .free rfl rfl ?_ ?_
      rotate_left
      · rintro _ _ ⟨⟩
      rintro _ _ ⟨bw, restw, rfl, rfl⟩
      refine go_front 10 rfl ?_
      simp only [List.eraseIdx_cons_succ, List.eraseIdx_cons_zero]
      refine go_kept fun bk2 rest2 => ?_
      refine p_chg0 rfl (ch_store Try.sizeOf39 rfl rfl rfl rfl) .free rfl ?_
      rintro _ _ rfl
      refine p_nil ?_
      refine go_sub (σ' := [(9, _), (8, _), (7, _), (0, _), (1, _), (2, _), (3, _), (4, _)]) ⟨rfl, rfl, rfl, rfl, rfl, rfl, rfl, rfl, trivial⟩ ?_
      refine g_region ?_
      refine p_chg0 rfl (ch_store Try.sizeOf4 rfl rfl rfl rfl) .free rfl ?_
      rintro _ _ rfl
      refine p_nil ?_
      refine g_region ?_
      first | refine p_val rfl (ev_add rfl rfl (wr64 (by omega))) .free rfl rfl ?_ | refine p_val rfl (ev_add rfl rfl rfl) .free rfl rfl ?_
      refine p_val rfl (ev_move rfl) .free rfl rfl ?_
      refine p_nil ?_
      first
      | exact fun a w st => ⟨⟨k + 1, s', S', M', K'⟩, ⟨by simp only; omega, by rw [show 1 + (k + 1) = 1 + k + 1 by omega]; exact hP'⟩, by simp only; omega, st.to ⟨rfl, rfl, rfl, rfl, rfl, rfl, rfl, rfl, trivial⟩ (fun hh => by rw [hK1 hcl']; exact ((((((((ma_holds (M := M') ((((hh.front 3 rfl).front 3 rfl).front 3 rfl).front 3 rfl)).front 3 rfl).tail.front 2 rfl).front 2 rfl).front 2 rfl).front 5 rfl).front 5 rfl).front 5 rfl))⟩
      | exact fun a w st => ⟨⟨k + 1, s', S', M', K'⟩, ⟨by simp only; omega, by rw [show 1 + (k + 1) = 1 + k + 1 by omega]; exact hP'⟩, by simp only; omega, st.to ⟨rfl, rfl, rfl, rfl, rfl, rfl, rfl, rfl, trivial⟩ (fun hh => ((((((((ma_holds (M := M') (((((kept_holds (g' := fun i => K' (c.active.toNat + i)) hP'.nw rfl (hK2 hcl') (((hh.front 1 rfl).tail.front 1 rfl).front 1 rfl)).front 4 rfl).front 4 rfl).front 4 rfl).front 4 rfl)).front 4 rfl).tail.front 3 rfl).front 3 rfl).front 2 rfl).front 3 rfl).front 5 rfl).front 5 rfl))⟩
    · have hcl' : M'.o = true := by simpa using h31
      refine g_skip ?_
      refine g_region ?_
      refine p_chg0 rfl (ch_store Try.sizeOf4 rfl rfl rfl rfl) .free rfl ?_
      rintro _ _ rfl
      refine p_nil ?_
      refine g_region ?_
      first | refine p_val rfl (ev_add rfl rfl (wr64 (by omega))) .free rfl rfl ?_ | refine p_val rfl (ev_add rfl rfl rfl) .free rfl rfl ?_
      refine p_val rfl (ev_move rfl) .free rfl rfl ?_
      refine p_nil ?_
      first
      | exact fun a w st => ⟨⟨k + 1, s', S', M', K'⟩, ⟨by simp only; omega, by rw [show 1 + (k + 1) = 1 + k + 1 by omega]; exact hP'⟩, by simp only; omega, st.to ⟨rfl, rfl, rfl, rfl, rfl, rfl, rfl, rfl, trivial⟩ (fun hh => by rw [hK1 hcl']; exact ((((((((ma_holds (M := M') ((((hh.front 3 rfl).front 3 rfl).front 3 rfl).front 3 rfl)).front 3 rfl).tail.front 2 rfl).front 2 rfl).front 2 rfl).front 5 rfl).front 5 rfl).front 5 rfl))⟩
      | exact fun a w st => ⟨⟨k + 1, s', S', M', K'⟩, ⟨by simp only; omega, by rw [show 1 + (k + 1) = 1 + k + 1 by omega]; exact hP'⟩, by simp only; omega, st.to ⟨rfl, rfl, rfl, rfl, rfl, rfl, rfl, rfl, trivial⟩ (fun hh => ((((((((ma_holds (M := M') (((((kept_holds (g' := fun i => K' (c.active.toNat + i)) hP'.nw rfl (hK2 hcl') (((hh.front 1 rfl).tail.front 1 rfl).front 1 rfl)).front 4 rfl).front 4 rfl).front 4 rfl).front 4 rfl)).front 4 rfl).tail.front 3 rfl).front 3 rfl).front 2 rfl).front 3 rfl).front 5 rfl).front 5 rfl))⟩
  · have hk : ¬ k < len := by simpa using h10
    refine g_exit ?_
    exact end_none Try.results36 (fun w hh => ⟨_, ⟨_, ⟨_, _, _, _, _, hP.good _, rfl⟩, fun w hh => hh⟩, hh⟩)


def eqd (n : Nat) (f g : Nat → Int) : Bool := decide (tab n f = tab n g)
theorem eqd_t {n : Nat} {f g : Nat → Int} (h : ∀ i, i < n → f i = g i) : eqd n f g = true := decide_eq_true (tab_congr h)
theorem eq_dec (B : World) (H : List HP) (b1 b2 o1 o2 c1 c2 n N1 N2 : Nat) (r1 r2 : List Value) (T1 T2 : TypeId) {U1 U2 : List Value → List HP} (f g : Nat → Int) (hn : n ≤ 1000000) (h1 : o1 + n = N1) (h2 : o2 + n = N2) [RowU H b1 (tab N1 (fun i => w64 (f i)) ++ r1) T1 U1] [RowU H b2 (tab N2 (fun i => w64 (g i)) ++ r2) T2 U2] :
    ∀ w, Holds B H w → Calls Try.prog 26 [.slice (some ⟨b1, o1, none⟩) n c1, .slice (some ⟨b2, o2, none⟩) n c2].toArray w (PureR B H (.bool (eqd n (fun i => f (o1 + i)) (fun i => g (o2 + i))))) := by
  have s1 : ∀ (h : Nat → Int) (r : List Value) (o N : Nat), o + n = N → ((tab N (fun i => w64 (h i)) ++ r).drop o).take n = (tab n fun j => w64 (h (o + j))) := fun h r o N e => by
    rw [List.drop_append_of_le_length (by rw [tab_len]; omega), List.take_append_of_le_length (by rw [List.length_drop, tab_len]; omega), tab_slice (by omega)]
  have h0 := equal_ok B H (some ⟨b1, o1, none⟩) (some ⟨b2, o2, none⟩) c1 c2 (tab n fun j => f (o1 + j)) (tab n fun j => g (o2 + j)) (by rw [tab_len]; exact hn) (by rw [tab_len]; exact hn) (fun _ _ => ⟨_, _, rfl⟩) (fun _ _ => ⟨_, _, rfl⟩)
  rw [tab_len, tab_len, tab_map, tab_map] at h0
  exact h0 (SlR.row (s1 f r1 _ _ h1) (tab_len _ _)) (SlR.row (s1 g r2 _ _ h2) (tab_len _ _))

theorem sectionCut_ok (B : World) (Fr : List HP) [HasOld Fr B] (l r s : Int) (hl : 0 ≤ l) (hr : 0 ≤ r) (hs : 0 ≤ s) (q : Option Addr) (cap : Nat) (xs : List Int) (hx' : xs.length ≤ 9223372036854775807) (hq : ∀ i, i < xs.length → ∃ b off, q = some ⟨b, off, none⟩) (hsl : SlR B Fr (.slice q xs.length cap) (xs.map w64)) (qa : Option Addr) (len capa : Nat) (A : Nat → Int × Int × Int) (hlen0 : len ≤ 9223372036854775807) (hA : ∀ i, i < len → 0 ≤ (A i).1 ∧ (A i).1 ≤ 255 ∧ 0 ≤ (A i).2.1 ∧ (A i).2.1 ≤ 65535) (ha : ArgRow B qa len 3 (fun i => [.int .u8 (A i).1, u16 (A i).2.1, w64 (A i).2.2])) (lim : Int) (hlim : 0 ≤ lim) (bits : Int) :
    ∀ w, Holds B Fr w → Calls Try.prog 8 [.agg #[u16 l, u16 r, u16 s], .slice q xs.length cap, .slice qa len capa, u16 lim, w64 bits].toArray w (PureR B Fr (.bool true)) := by
  refine fn_enter Try.func8 rfl Try.ntmps8 rfl ?_
  obtain ⟨c, hcm⟩ : ∃ c, c = mkC l r s := ⟨_, rfl⟩
  have hc : CfgW c := by rw [hcm]; exact mkC_w hl hr hs
  obtain ⟨hA1, hA2, hA3⟩ := act_w hc
  refine g_seq ?_
  refine g_region ?_
  refine p_chg rfl (ch_boxA rfl) .free rfl rfl ?_
  rintro _ _ ⟨b5, rfl, rfl⟩
  refine p_chg rfl (ch_box1 rfl rfl) .free rfl rfl ?_
  rintro _ _ ⟨b7, rfl, rfl⟩
  refine p_chg rfl (ch_box1 rfl rfl) .free rfl rfl ?_
  rintro _ _ ⟨b9, rfl, rfl⟩
  refine p_val rfl (ev_assign rfl) .free rfl rfl ?_
  refine p_nil ?_
  refine g_seq ?_
  refine g_seq ?_
  refine g_region ?_
  refine p_callq rfl (en_f Try.call9 rfl) (awake7_ok _ _) .free rfl rfl ?_
  refine p_val rfl (ev_not rfl) .free rfl rfl ?_
  refine p_nil ?_
  refine g_iff rfl (rfl) ?_
  refine g_skip ?_
  refine g_seq ?_
  refine g_seq ?_
  refine g_region ?_
  refine p_val rfl (ev_move rfl) .free rfl rfl ?_
  refine p_val rfl (ev_len rfl Try.runUnderlying39 ⟨_, rfl⟩ rfl) .free rfl rfl ?_
  refine p_val rfl (ev_cmp rfl rfl rfl) .free rfl rfl ?_
  refine p_val rfl (ev_move rfl) .free rfl rfl ?_
  apply p_or (tp := 28) (t := 24) (σ1 := [(24, _), (10, _), (9, _), (7, _), (5, _), (1, _), (3, _)]) 4 rfl ⟨rfl, rfl, rfl, rfl, rfl, rfl, rfl, trivial⟩
  · intro hg1
    refine p_val rfl (ev_load Try.isAgg54 rfl rfl) (.on rfl rfl (beq_eq hg1)) rfl rfl ?_
    refine p_val rfl (ev_len rfl Try.runUnderlying54 ⟨_, rfl⟩ rfl) (.on rfl rfl (beq_eq hg1)) rfl rfl ?_
    refine p_val rfl (ev_cmp rfl rfl rfl) (.on rfl rfl (beq_eq hg1)) rfl rfl ?_
    refine p_val rfl (ev_pick_f rfl hg1 rfl) .free rfl rfl ?_
    exact p_seg rfl ⟨rfl, rfl, rfl, rfl, rfl, rfl, rfl, trivial⟩ (or_f hg1)
  · intro hg1
    refine p_skip rfl (.on rfl rfl (beq_ne hg1)) rfl ?_
    refine p_skip rfl (.on rfl rfl (beq_ne hg1)) rfl ?_
    refine p_skip rfl (.on rfl rfl (beq_ne hg1)) rfl ?_
    refine p_val rfl (ev_pick_t rfl hg1 rfl) .free rfl rfl ?_
    exact p_seg rfl ⟨rfl, rfl, rfl, rfl, rfl, rfl, rfl, trivial⟩ (or_t hg1)
  refine p_nil ?_
  refine g_if rfl (fun h28 => ?_) (fun h28 => ?_)
  · try simp only [decide_eq_true_eq, decide_eq_false_iff_not, Bool.not_eq_true', Bool.not_eq_false', Bool.or_eq_true, Bool.and_eq_true, Bool.and_eq_false_iff, Bool.or_eq_false_iff, beq_iff_eq, bne_iff_ne, beq_eq_false_iff_ne, bne_eq_false_iff_eq, ge_iff_le, gt_iff_lt, ne_eq] at h28
    refine g_seq ?_
    refine g_region ?_
    refine p_val rfl (ev_assign rfl) .free rfl rfl ?_
    refine p_nil ?_
    refine g_ret ?_
    exact ret_tmp Try.results8 rfl (fun w hh => ⟨rfl, hh.tail.tail.tail⟩)
  · have hx : xs.length ≤ 100000 ∧ len ≤ 30 := by simp at h28; omega
    obtain ⟨hx, hlen3⟩ := hx
    refine g_skip ?_
    refine g_seq ?_
    refine g_region ?_
    refine p_val rfl (ev_loadA Try.isAgg24 Try.sizeOf24 rfl rfl) .free rfl rfl ?_
    refine p_val rfl (ev_move rfl) .free rfl rfl ?_
    refine p_call rfl (en_f Try.call10 rfl) (start_ok _ _ l r s hl hr hs c hcm q cap xs hx hq (((hsl.cons _).cons _).cons _)) .free rfl rfl ?_ ?_
    rotate_left
    · rintro _ _ ⟨⟩
    rintro _ _ ⟨bd, bs, bm, bc, s0, rest, hf, hn, rfl, rfl⟩
    refine p_val rfl (ev_move rfl) .free rfl rfl ?_
    refine p_val rfl (ev_ext rfl rfl) .free rfl rfl ?_
    refine p_val rfl (ev_ext rfl rfl) .free rfl rfl ?_
    refine p_val rfl (ev_ext rfl rfl) .free rfl rfl ?_
    refine p_chg rfl (ch_alloc1 Try.zeroValue28 rfl) .free rfl rfl ?_
    rintro _ _ ⟨b12, rfl, rfl⟩
    refine p_chg rfl (ch_alloc1 Try.zeroValue29 rfl) .free rfl rfl ?_
    rintro _ _ ⟨b13, rfl, rfl⟩
    refine p_val rfl (ev_assign rfl) .free rfl rfl ?_
    refine p_chg0 rfl (ch_store Try.sizeOf28 rfl rfl rfl rfl) .free rfl ?_
    rintro _ _ rfl
    refine p_chg0 rfl (ch_store Try.sizeOf29 rfl rfl rfl rfl) .free rfl ?_
    rintro _ _ rfl
    refine p_nil ?_
    refine go_sub (σ' := [(11, _), (13, _), (12, _), (10, _), (9, _), (7, _), (3, _)]) ⟨rfl, rfl, rfl, rfl, rfl, rfl, rfl, trivial⟩ ?_
    refine g_seq ?_
    refine g_seq ?_
    refine g_region ?_
    refine p_val rfl (ev_move rfl) .free rfl rfl ?_
    refine p_val rfl (ev_eqp Try.runUnderlying27 rfl rfl rfl) .free rfl rfl ?_
    refine p_nil ?_
    refine g_iff rfl (rfl) ?_
    refine g_skip ?_
    refine g_seq ?_
    refine g_region ?_
    simp only [hf.log]
    refine p_val rfl (ev_move rfl) .free rfl rfl ?_
    refine p_val rfl (ev_move rfl) .free rfl rfl ?_
    refine p_val rfl (ev_rem (c := lim % 500) rfl rfl (by decide) (rem_e 500 hlim)) .free rfl rfl ?_
    first | refine p_val rfl (ev_conv Try.runUnderlying22 Try.runUnderlying3 rfl (wr64 (by omega))) .free rfl rfl ?_ | refine p_val rfl (ev_conv Try.runUnderlying22 Try.runUnderlying3 rfl rfl) .free rfl rfl ?_
    refine p_call rfl (en_f Try.call33 rfl) (pnew_ok _ _ _) .free rfl rfl ?_ ?_
    rotate_left
    · rintro _ _ ⟨⟩
    rintro _ _ ⟨pb2, rfl, rfl⟩
    refine go_pull PowA pb2 ?_
    refine go_pull DevA bd ?_
    refine p_call rfl (en_f Try.call32 rfl) (npower_ok _ _ _ _ _ _) .free rfl rfl ?_ ?_
    rotate_left
    · rintro _ _ ⟨⟩
    rintro _ _ rfl
    refine p_nil ?_
    refine go_sub (σ' := [(11, _), (13, _), (12, _), (10, _), (9, _), (7, _)]) ⟨rfl, rfl, rfl, rfl, rfl, rfl, trivial⟩ ?_
    refine g_seq ?_
    refine g_region ?_
    refine p_val rfl (ev_load Try.isAgg29 rfl rfl) .free rfl rfl ?_
    first | refine p_val rfl (ev_nil rfl) .free rfl rfl ?_ | refine p_val rfl (ev_nilf rfl) .free rfl rfl ?_
    refine p_val rfl (ev_fa (m := _) fa_42_1 rfl rfl) .free rfl rfl ?_
    refine p_val rfl (ev_load Try.isAgg39 rfl rfl) .free rfl rfl ?_
    refine p_call rfl (en_f Try.call34 rfl) (clone64_ok _ _ _ _ _ (tab (s0.n - c.active.toNat) (fun i => w64 (s0.now (c.active.toNat + i)))) (by simp) (by rw [tab_len]; omega) (by simp [tab, cell1]) SlR.tabr) .free rfl rfl ?_ ?_
    rotate_left
    · rintro _ _ ⟨⟩
    rintro _ _ ⟨bw, restw, rfl, rfl⟩
    refine p_chg rfl (ch_alloc1 Try.zeroValue39 rfl) .free rfl rfl ?_
    rintro _ _ ⟨b14, rfl, rfl⟩
    refine p_chg0 rfl (ch_store Try.sizeOf39 rfl rfl rfl rfl) .free rfl ?_
    rintro _ _ rfl
    refine p_nil ?_
    refine g_seq ?_
    refine g_region ?_
    refine p_chg rfl (ch_alloc1 Try.zeroValue4 rfl) .free rfl rfl ?_
    rintro _ _ ⟨b15, rfl, rfl⟩
    refine p_chg0 rfl (ch_store Try.sizeOf4 rfl rfl rfl rfl) .free rfl ?_
    rintro _ _ rfl
    refine p_nil ?_
    refine g_seq ?_
    refine g_region ?_
    refine p_val rfl (ev_mkf rfl rfl) .free rfl rfl ?_
    have hCP : CP c s0.n bd 1 s0.now ⟨c, s0.n - c.active.toNat, fun i => s0.now (c.active.toNat + i), none, [], false, 0, 0⟩ ⟨⟨bd, c, 1, 0⟩, 0, 0, [], []⟩ { s0 with pa := pb2, pow := ⟨lim % 500, 0⟩ } := ⟨rfl, rfl, rfl, hn, fun _ _ => rfl, Nat.zero_le _, show (1 : Int) ≤ 1 by decide, 1, [], cut_fmt hf hc hn, rfl, fun _ => rfl, fun h => (by cases h)⟩
    refine go_conv (H' := row b15 [.bool false] 4 :: KeptA b14 (s0.n - c.active.toNat) (fun y => s0.now (c.active.toNat + y)) :: MA bm ⟨c, s0.n - c.active.toNat, fun i => s0.now (c.active.toNat + i), none, [], false, 0, 0⟩ :: SecX false bs ⟨⟨bd, c, 1, 0⟩, 0, 0, [], []⟩ :: DevA bd { s0 with pa := pb2, pow := ⟨lim % 500, 0⟩ } :: row b7 [.slice qa len capa] 54 :: row b13 [ptr bm] 29 :: row b12 [ptr bs] 28 :: row b9 [w64 bits] 46 :: row b5 [u16 l, u16 r, u16 s] 24 :: Fr) (fun w hh => (((((((((((ma_holds (M := ⟨c, s0.n - c.active.toNat, fun i => s0.now (c.active.toNat + i), none, [], false, 0, 0⟩) (((((accv_nil (Holds.unpr (p := Value.slice none 0 0 = .slice none 0 0) rfl (((kept_holds (b := b14) (g' := fun y => s0.now (c.active.toNat + y)) rfl rfl (fun _ _ => rfl) ((hh.front 2 rfl).front 2 rfl)).front 6 rfl).front 6 rfl))).front 0 rfl).front 1 rfl).front 3 rfl).front 3 rfl)).front 9 rfl).front 8 rfl).front 7 rfl).front 7 rfl).front 9 rfl).front 8 rfl).front 9 rfl).front 7 rfl).front 8 rfl).front 9 rfl)) ?_
    refine p_call rfl (en_f Try.call35 rfl) (run_ok (Φ := fun H1 => (∃ cm K M Y sd, GoodC c s0.n true cm K M sd ∧ H1 = row b15 [.bool cm] 4 :: KeptA b14 (s0.n - c.active.toNat) (fun y => K (c.active.toNat + y)) :: MA bm M :: Y :: DevA bd sd :: row b7 [.slice qa len capa] 54 :: row b13 [ptr bm] 29 :: row b12 [ptr bs] 28 :: row b9 [w64 bits] 46 :: row b5 [u16 l, u16 r, u16 s] 24 :: Fr)) (Ψ := fun H1 => (∃ cm K M Y sd, GoodC c s0.n false cm K M sd ∧ H1 = row b15 [.bool cm] 4 :: KeptA b14 (s0.n - c.active.toNat) (fun y => K (c.active.toNat + y)) :: MA bm M :: Y :: DevA bd sd :: row b7 [.slice qa len capa] 54 :: row b13 [ptr bm] 29 :: row b12 [ptr bs] 28 :: row b9 [w64 bits] 46 :: row b5 [u16 l, u16 r, u16 s] 24 :: Fr)) Try.call36 (fun A0 w hw => cutDo_ok B _ A0 b7 b13 b15 b12 b14 bm bs bd s0.n c hc s0.now ⟨c, s0.n - c.active.toNat, fun i => s0.now (c.active.toNat + i), none, [], false, 0, 0⟩ ⟨⟨bd, c, 1, 0⟩, 0, 0, [], []⟩ { s0 with pa := pb2, pow := ⟨lim % 500, 0⟩ } hCP qa len capa A hlen3 hA ha w hw)) .free rfl rfl ?_ ?_
    rotate_left
    · rintro _ _ ⟨⟩
    rintro v H' hR
    obtain ⟨wh, cm, K, M, Y, s1, rfl, hG, rfl⟩ : ∃ wh cm K M Y sd, v = .bool wh ∧ GoodC c s0.n wh cm K M sd ∧ H' = row b15 [.bool cm] 4 :: KeptA b14 (s0.n - c.active.toNat) (fun y => K (c.active.toNat + y)) :: MA bm M :: Y :: DevA bd sd :: row b7 [.slice qa len capa] 54 :: row b13 [ptr bm] 29 :: row b12 [ptr bs] 28 :: row b9 [w64 bits] 46 :: row b5 [u16 l, u16 r, u16 s] 24 :: Fr := by
      rcases hR with ⟨rfl, cm, K, M, Y, sd, h1, rfl⟩ | ⟨rfl, cm, K, M, Y, sd, h1, rfl⟩
      · exact ⟨true, cm, K, M, Y, sd, rfl, h1, rfl⟩
      · exact ⟨false, cm, K, M, Y, sd, rfl, h1, rfl⟩
    have hGn := hG.n
    have hGm := hG.mc
    have hGw := hG.nw
    refine p_val rfl (ev_assign rfl) .free rfl rfl ?_
    refine p_nil ?_
    refine go_sub (σ' := [(16, _), (15, _), (14, _), (11, _), (13, _), (10, _), (9, _)]) ⟨rfl, rfl, rfl, rfl, rfl, rfl, rfl, trivial⟩ ?_
    refine g_seq ?_
    refine g_region ?_
    refine p_val rfl (ev_move rfl) .free rfl rfl ?_
    refine p_val rfl (ev_mkf rfl rfl) .free rfl rfl ?_
    refine go_pull DevA bd ?_
    refine p_call rfl (en_f Try.call23 rfl) (ncrash_ok _ _ _ _ _ _ _ (cutCh_c _ _ 7 _ _ _ (by omega) rfl)) .free rfl rfl ?_ ?_
    rotate_left
    · rintro _ _ ⟨⟩
    rintro _ _ rfl
    refine p_nil ?_
    refine g_seq ?_
    refine g_region ?_
    refine p_val rfl (ev_move rfl) .free rfl rfl ?_
    refine p_call rfl (en_f Try.call33 rfl) (pnew_ok _ _ _) .free rfl rfl ?_ ?_
    rotate_left
    · rintro _ _ ⟨⟩
    rintro _ _ ⟨pb4, rfl, rfl⟩
    refine go_pull PowA pb4 ?_
    refine go_pull DevA bd ?_
    refine p_call rfl (en_f Try.call32 rfl) (npower_ok _ _ _ _ _ _) .free rfl rfl ?_ ?_
    rotate_left
    · rintro _ _ ⟨⟩
    rintro _ _ rfl
    refine p_nil ?_
    refine go_sub (σ' := [(16, _), (15, _), (14, _), (11, _), (13, _), (10, _)]) ⟨rfl, rfl, rfl, rfl, rfl, rfl, trivial⟩ ?_
    refine g_seq ?_
    refine g_region ?_
    obtain ⟨e0, js0, K2, hcut0, hK2⟩ : ∃ e js K2, CutI c s0.n noF K2 e js (s1.crash (chc bits)) ∧ (K2 = K ∨ (wh = false ∧ cm = true ∧ ∀ i, i < M.nw → M.now i = K2 (c.active.toNat + i))) := by
      rcases hG.lft _ (left_crash s1 (chc bits)) with ⟨e, js, h1⟩ | ⟨h1, h2, Mx, e, js, h3, h4⟩
      · exact ⟨e, js, K, h1, .inl rfl⟩
      · exact ⟨e, js, Mx, h3, .inr ⟨h1, h2, h4⟩⟩
    have hcut9 : CutI c s0.n noF K2 e0 js0 { s1.crash (chc bits) with pa := pb4, pow := ⟨-1, 0⟩ } := hcut0.sub rfl fun _ _ h => h
    have hop9 := cut_open hcut9 hc hn bd
    have hgood9 := cut_good hcut9 hc hn
    obtain ⟨L9', s9', e9, en9, ew9⟩ := cut_recover (d := bd) hcut9 hc hn (by show (-1 : Int) < 0; decide)
    have hLw : LogW ⟨bd, c, e0, js0.length⟩ := ⟨hc, hcut9.e1, hcut9.e2, by show (0 : Int) ≤ js0.length; omega, hcut9.len⟩
    refine go_pull MA bm ?_
    refine go_ma fun bc9 rest9 wv9 sv9 => ?_
    simp only [mRow, nRow, hGm, hGw]
    refine p_val rfl (ev_move rfl) .free rfl rfl ?_
    refine p_val rfl (ev_load Try.isAgg29 rfl rfl) .free rfl rfl ?_
    first | refine p_val rfl (ev_nil rfl) .free rfl rfl ?_ | refine p_val rfl (ev_nilf rfl) .free rfl rfl ?_
    refine p_val rfl (ev_fa (m := _) fa_42_0 rfl rfl) .free rfl rfl ?_
    refine p_val rfl (ev_loadA Try.isAgg38 Try.sizeOf38 rfl rfl) .free rfl rfl ?_
    refine go_pull DevA bd ?_
    refine p_call rfl (en_f Try.call31 rfl) (lopen_ok _ _ _ _ c hc) .free rfl rfl ?_ ?_
    rotate_left
    · rintro _ _ ⟨⟩
    rintro _ _ ⟨bl9, rfl, rfl⟩
    simp only [hop9]
    refine p_val rfl (ev_assign rfl) .free rfl rfl ?_
    refine p_nil ?_
    refine g_seq ?_
    refine g_seq ?_
    refine g_region ?_
    refine p_val rfl (ev_move rfl) .free rfl rfl ?_
    refine p_val rfl (ev_eqp Try.runUnderlying48 rfl rfl rfl) .free rfl rfl ?_
    refine p_val rfl (ev_move rfl) .free rfl rfl ?_
    refine p_val rfl (ev_move rfl) (.on rfl rfl (beq_eq rfl)) rfl rfl ?_
    refine p_callq rfl (en_f Try.call38 rfl) (lgood_ok _ _ _ _ _ hLw) (.on rfl rfl (beq_eq rfl)) rfl rfl ?_
    refine p_val rfl (ev_cmp rfl rfl rfl) (.on rfl rfl (beq_eq rfl)) rfl rfl ?_
    refine p_val rfl (ev_pick_f rfl rfl rfl) .free rfl rfl ?_
    refine p_nil ?_
    refine go_sub (σ' := [(69, _), (17, _), (16, _), (15, _), (14, _), (11, _), (13, _), (10, _)]) ⟨rfl, rfl, rfl, rfl, rfl, rfl, rfl, rfl, trivial⟩ ?_
    refine g_iff rfl (by simp [hgood9]) ?_
    refine g_skip ?_
    refine g_seq ?_
    refine g_region ?_
    refine p_val rfl (ev_move rfl) .free rfl rfl ?_
    refine p_call rfl (en_f Try.call39 rfl) (lundo_ok _ _ _ _ _ hLw) .free rfl rfl ?_ ?_
    rotate_left
    · rintro _ _ ⟨s9, hm9, -, -⟩
      cases e9.symm.trans hm9
    rintro _ _ ⟨L9, s9, hm9, rfl, rfl⟩
    cases e9.symm.trans hm9
    refine p_nil ?_
    refine g_seq ?_
    refine g_region ?_
    refine p_val rfl (ev_move rfl) .free rfl rfl ?_
    refine p_val rfl (ev_load Try.isAgg29 rfl rfl) .free rfl rfl ?_
    first | refine p_val rfl (ev_nil rfl) .free rfl rfl ?_ | refine p_val rfl (ev_nilf rfl) .free rfl rfl ?_
    refine p_val rfl (ev_fa (m := _) fa_42_0 rfl rfl) .free rfl rfl ?_
    refine p_val rfl (ev_loadA Try.isAgg38 Try.sizeOf38 rfl rfl) .free rfl rfl ?_
    refine go_pull DevA bd ?_
    refine p_call rfl (en_f Try.call21 rfl) (words7_ok _ _ _ _ c hc (by rw [en9]; exact hn)) .free rfl rfl ?_ ?_
    rotate_left
    · rintro _ _ ⟨⟩
    rintro _ _ ⟨bw9, restw9, rfl, rfl⟩
    simp only [en9]
    refine p_val rfl (ev_assign rfl) .free rfl rfl ?_
    refine p_nil ?_
    refine go_sub (σ' := [(18, _), (16, _), (15, _), (14, _), (13, _), (10, _)]) ⟨rfl, rfl, rfl, rfl, rfl, rfl, trivial⟩ ?_
    refine g_seq ?_
    refine g_region ?_
    refine go_front 8 rfl ?_
    simp only [List.eraseIdx_cons_succ, List.eraseIdx_cons_zero]
    refine go_kept fun bk9 restk9 => ?_
    refine p_val rfl (ev_move rfl) .free rfl rfl ?_
    refine p_val rfl (ev_load Try.isAgg39 rfl rfl) .free rfl rfl ?_
    refine p_callq rfl (en_f Try.call26 rfl) (eq_dec _ _ _ _ _ _ _ _ _ _ _ _ _ _ _ _ _ (by omega) (by omega) (by omega)) .free rfl rfl ?_
    refine p_val rfl (ev_move rfl) .free rfl rfl ?_
    apply p_or (tp := 95) (t := 81) (σ1 := [(81, _), (10, _)]) 14 rfl ⟨rfl, rfl, trivial⟩
    · intro hg2
      refine p_val rfl (ev_move rfl) (.on rfl rfl (beq_eq hg2)) rfl rfl ?_
      refine p_val rfl (ev_not rfl) (.on rfl rfl (beq_eq hg2)) rfl rfl ?_
      refine p_val rfl (ev_move rfl) (.on rfl rfl (beq_eq hg2)) rfl rfl ?_
      apply p_and (tp := 86) (t := 84) (σ1 := [(84, _), (81, _), (18, _), (13, _), (10, _)]) 2 rfl ⟨rfl, rfl, rfl, rfl, rfl, trivial⟩
      · intro hg3
        refine p_val rfl (ev_load Try.isAgg4 rfl rfl) (.on rfl rfl (beq_eq hg3)) rfl rfl ?_
        refine p_val rfl (ev_pick_t rfl hg3 rfl) (.on rfl rfl (beq_eq hg2)) rfl rfl ?_
        exact p_seg rfl ⟨rfl, rfl, rfl, rfl, rfl, trivial⟩ (and_t hg3)
      · intro hg3
        refine p_skip rfl (.on rfl rfl (beq_ne hg3)) rfl ?_
        refine p_val rfl (ev_pick_f rfl hg3 rfl) (.on rfl rfl (beq_eq hg2)) rfl rfl ?_
        exact p_seg rfl ⟨rfl, rfl, rfl, rfl, rfl, trivial⟩ (and_f hg3)
      refine p_val rfl (ev_move rfl) (.on rfl rfl (beq_eq hg2)) rfl rfl ?_
      apply p_and (tp := 94) (t := 87) (σ1 := [(87, _), (81, _), (10, _)]) 7 rfl ⟨rfl, rfl, rfl, trivial⟩
      · intro hg4
        refine p_val rfl (ev_move rfl) (.on rfl rfl (beq_eq hg4)) rfl rfl ?_
        refine p_val rfl (ev_load Try.isAgg29 rfl rfl) (.on rfl rfl (beq_eq hg4)) rfl rfl ?_
        first | refine p_val rfl (ev_nil rfl) (.on rfl rfl (beq_eq hg4)) rfl rfl ?_ | refine p_val rfl (ev_nilf rfl) (.on rfl rfl (beq_eq hg4)) rfl rfl ?_
        refine p_val rfl (ev_fa (m := _) fa_42_1 rfl rfl) (.on rfl rfl (beq_eq hg4)) rfl rfl ?_
        refine p_val rfl (ev_load Try.isAgg39 rfl rfl) (.on rfl rfl (beq_eq hg4)) rfl rfl ?_
        refine p_callq rfl (en_f Try.call26 rfl) (eq_dec _ _ _ _ _ _ _ _ _ _ _ _ _ _ _ _ _ (by omega) (by omega) (by omega)) (.on rfl rfl (beq_eq hg4)) rfl rfl ?_
        refine p_val rfl (ev_pick_t rfl hg4 rfl) (.on rfl rfl (beq_eq hg2)) rfl rfl ?_
        exact p_seg rfl ⟨rfl, rfl, rfl, trivial⟩ (and_t hg4)
      · intro hg4
        refine p_skip rfl (.on rfl rfl (beq_ne hg4)) rfl ?_
        refine p_skip rfl (.on rfl rfl (beq_ne hg4)) rfl ?_
        refine p_skip rfl (.on rfl rfl (beq_ne hg4)) rfl ?_
        refine p_skip rfl (.on rfl rfl (beq_ne hg4)) rfl ?_
        refine p_skip rfl (.on rfl rfl (beq_ne hg4)) rfl ?_
        refine p_skip rfl (.on rfl rfl (beq_ne hg4)) rfl ?_
        refine p_val rfl (ev_pick_f rfl hg4 rfl) (.on rfl rfl (beq_eq hg2)) rfl rfl ?_
        exact p_seg rfl ⟨rfl, rfl, rfl, trivial⟩ (and_f hg4)
      refine p_val rfl (ev_pick_f rfl hg2 rfl) .free rfl rfl ?_
      exact p_seg rfl ⟨rfl, rfl, trivial⟩ (or_f hg2)
    · intro hg2
      refine p_skip rfl (.on rfl rfl (beq_ne hg2)) rfl ?_
      refine p_skip rfl (.on rfl rfl (beq_ne hg2)) rfl ?_
      refine p_skip rfl (.on rfl rfl (beq_ne hg2)) rfl ?_
      refine p_skip rfl (.und rfl rfl) rfl ?_
      refine p_skip rfl (.on rfl rfl (beq_ne hg2)) rfl ?_
      refine p_skip rfl (.on rfl rfl (beq_ne hg2)) rfl ?_
      refine p_skip rfl (.und rfl rfl) rfl ?_
      refine p_skip rfl (.und rfl rfl) rfl ?_
      refine p_skip rfl (.und rfl rfl) rfl ?_
      refine p_skip rfl (.und rfl rfl) rfl ?_
      refine p_skip rfl (.und rfl rfl) rfl ?_
      refine p_skip rfl (.und rfl rfl) rfl ?_
      refine p_skip rfl (.on rfl rfl (beq_ne hg2)) rfl ?_
      refine p_val rfl (ev_pick_t rfl hg2 rfl) .free rfl rfl ?_
      exact p_seg rfl ⟨rfl, rfl, trivial⟩ (or_t hg2)
    refine p_val rfl (ev_assign rfl) .free rfl rfl ?_
    refine p_nil ?_
    refine g_ret ?_
    exact ret_tmp Try.results8 rfl (fun w hh => ⟨by
      rcases hK2 with rfl | ⟨h1, h2, h3⟩
      · rw [eqd_t (fun i hi => by simp only [Nat.zero_add]; exact ew9 _ (by omega) (by omega) (fun h => h))]; rfl
      · rw [h1, h2, eqd_t (f := fun i => s9'.now (c.active.toNat + i)) (g := fun i => M.now (0 + i)) (fun i hi => by rw [ew9 _ (by omega) (by omega) (fun h => h), Nat.zero_add]; exact (h3 i (by rw [hGw]; exact hi)).symm)]
        simp, hh.tail.tail.tail.tail.tail.tail.tail.tail.tail.tail.tail.tail.tail.tail.tail.tail⟩)


theorem sectionCut_walk (W : World) (z : Int × Int × Int) (w0 : (Lit.int .u16 z.1).wf = true ∧ (Lit.int .u16 z.2.1).wf = true ∧ (Lit.int .u16 z.2.2).wf = true) {l : Option Addr} {len cap : Nat} {xs : List Int} (w1 : len = xs.length ∧ len ≤ 9223372036854775807 ∧ ArgRow W l len 1 (fun i => [w64 (xs.getD i 0)])) {la : Option Addr} {lena capa : Nat} {f : Nat → Int × Int × Int} (w2 : lena ≤ 9223372036854775807 ∧ (∀ i, i < lena → 0 ≤ (f i).1 ∧ (f i).1 ≤ 255 ∧ 0 ≤ (f i).2.1 ∧ (f i).2.1 ≤ 65535) ∧ ArgRow W la lena 3 (fun i => [.int .u8 (f i).1, u16 (f i).2.1, w64 (f i).2.2])) (lim : Int) (wl : (Lit.int .u16 lim).wf = true) (bits : Int) (wb : (Lit.int .u64 bits).wf = true) :
    Calls Try.prog 8 #[.agg #[u16 z.1, u16 z.2.1, u16 z.2.2], .slice l len cap, .slice la lena capa, .int .u16 lim, .int .u64 bits] W fun e w' => e = .returned (.bool true) ∧ RowKit.Below W.heap.size W w' := by
  have b0 := bounds_u16 w0.1
  have b1 := bounds_u16 w0.2.1
  have b2 := bounds_u16 w0.2.2
  have b3 := bounds_u16 wl
  obtain ⟨rfl, w3, w4⟩ := w1
  exact law_of (sectionCut_ok W [old W] z.1 z.2.1 z.2.2 (by omega) (by omega) (by omega) l cap xs w3 (some_u64 w4) (slr_u64 w4) la lena capa f w2.1 w2.2.1 w2.2.2 lim (by omega) bits)

namespace sectionCut
open Go.ChangeShapes Go.WideShapes Go.ChangeAt Go.RowKit
set_option maxRecDepth 100000 in
theorem lifted (os : Os) (started : os.Started) (H : Type) (enc : TypeId × Value → H) :
    ReturnsInHanded {} Try.checked os 8 .any (Rows.sectionCutSpec.pre6 enc Try.prog Try.f8 Rows.sectionCutRow.domain false) (Rows.sectionCutSpec.post enc Try.prog Try.f8 false true false false) := by
  refine returnsInHanded_of_change (C := Try.checked) Try.ownKnobs started (by kernel_rfl) Try.func8
    (ChangeSpec.witness6 (enc := enc) (C := Try.checked) false ⟨#[], #[.agg #[.int .u16 0, .int .u16 0, .int .u16 0], .slice none 0 0, .slice none 0 0, .int .u16 0, .int .u64 0], []⟩ 8 (by kernel_rfl) (by kernel_rfl) (by kernel_rfl) (by kernel_rfl)) ?_
  intro W base args ds gs before hval0 hW hcnd _
  have hval : ∀ (j : Nat) t v, Try.f8.params[j]? = some t → args[j]? = some v → Value.okWide Try.prog W .any base t v := hval0
  have hW' := hW
  obtain ⟨p, q, hA0, hV, rfl, hfz, hnd⟩ := hW
  have hA : DataW.TrodAll enc Try.prog W 0 (fun _ => true) true Try.f8.params.toList args.toList ds p := hA0
  rw [Try.params8] at hA hval
  obtain ⟨v0, vs0, d0, ds0, p0, q0, hargs, rfl, rfl, h0, r0⟩ := trodAll_cons hA
  obtain ⟨v1, vs1, d1, ds1, p1, q1, rfl, rfl, rfl, h1, r1⟩ := trodAll_cons r0
  obtain ⟨v2, vs2, d2, ds2, p2, q2, rfl, rfl, rfl, h2, r2⟩ := trodAll_cons r1
  obtain ⟨v3, vs3, d3, ds3, p3, q3, rfl, rfl, rfl, h3, r3⟩ := trodAll_cons r2
  obtain ⟨v4, vs4, d4, ds4, p4, q4, rfl, rfl, rfl, h4, r4⟩ := trodAll_cons r3
  obtain ⟨rfl, rfl, rfl⟩ := trodAll_nil r4
  obtain rfl : args = #[v0, v1, v2, v3, v4] := by cases args; simp_all
  obtain ⟨rfl, rfl⟩ := trodVars_none hV
  have k0 := h0
  have lt0 : ∀ x ∈ p0, x.block < W.heap.size := by obtain ⟨m, hm⟩ := k0; exact DataW.trod_lt m _ _ _ hm
  obtain ⟨z0, rfl, w0⟩ := arg_st_u16_u16_u16 (hval 0 24 v0 rfl rfl) h0
  obtain ⟨a1, len1, cap1, rfl⟩ := okWide_slice Try.underlying39 (hval 1 39 v1 rfl rfl)
  have k1 := h1
  have lt1 : ∀ x ∈ p1, x.block < W.heap.size := by obtain ⟨m, hm⟩ := k1; exact DataW.trod_lt m _ _ _ hm
  obtain ⟨z1, w1⟩ := arg_sl_u64 h1
  obtain ⟨a2, len2, cap2, rfl⟩ := okWide_slice Try.underlying54 (hval 2 54 v2 rfl rfl)
  have k2 := h2
  have lt2 : ∀ x ∈ p2, x.block < W.heap.size := by obtain ⟨m, hm⟩ := k2; exact DataW.trod_lt m _ _ _ hm
  obtain ⟨z2, w2⟩ := arg_sl_st_u8_u16_u64 h2
  have k3 := h3
  have lt3 : ∀ x ∈ p3, x.block < W.heap.size := by obtain ⟨m, hm⟩ := k3; exact DataW.trod_lt m _ _ _ hm
  obtain ⟨a3, rfl, w3⟩ : ∃ a, v3 = .int .u16 a ∧ (Lit.int .u16 a).wf = true := by
    obtain ⟨a, e, _, _, wa⟩ := open_int Try.underlying22 (hval 3 22 v3 rfl rfl) h3
    exact ⟨a, e, wa⟩
  have k4 := h4
  have lt4 : ∀ x ∈ p4, x.block < W.heap.size := by obtain ⟨m, hm⟩ := k4; exact DataW.trod_lt m _ _ _ hm
  obtain ⟨a4, rfl, w4⟩ : ∃ a, v4 = .int .u64 a ∧ (Lit.int .u64 a).wf = true := by
    obtain ⟨a, e, _, _, wa⟩ := open_int Try.underlying46 (hval 4 46 v4 rfl rfl) h4
    exact ⟨a, e, wa⟩
  clear hA0 hval0
  refine (sectionCut_walk W z0 w0 w1 w2 a3 w3 a4 w4).mono fun e W' ⟨he, bel⟩ => ?_
  subst he
  exact ⟨_, rfl, _, _, _, [], _, [], hW', trodAll_mk1 (shut_bool Try.underlying4 _), (trodAll_cons_mk (Below.trod Try.laidOut (by kernel_rfl) (of_decide_eq_true (by kernel_rfl)) k0 bel lt0) (trodAll_cons_mk (Below.trod Try.laidOut (by kernel_rfl) (of_decide_eq_true (by kernel_rfl)) k1 bel lt1) (trodAll_cons_mk (Below.trod Try.laidOut (by kernel_rfl) (of_decide_eq_true (by kernel_rfl)) k2 bel lt2) (trodAll_cons_mk (Below.trod Try.laidOut (by kernel_rfl) (of_decide_eq_true (by kernel_rfl)) k3 bel lt3) (trodAll_cons_mk (Below.trod Try.laidOut (by kernel_rfl) (of_decide_eq_true (by kernel_rfl)) k4 bel lt4) trodAll_mk0))))), rfl, bel.frame _, fun h => by cases h⟩
theorem over : Rows.sectionCutRow.holds Try.pinned (OpenSpec.ofChange Rows.sectionCutSpec) :=
  OpenClaim.holds_of_wide 8 Try.f8 rfl rfl rfl rfl rfl rfl rfl ⟨rfl, rfl, rfl, rfl, rfl⟩ rfl rfl rfl rfl rfl (by kernel_rfl) Try.func8 (by kernel_rfl)
    (of_decide_eq_true (by kernel_rfl)) (by unfold Func.isWrapper; first | (rw [if_pos (by decide +kernel)]; kernel_rfl) | (rw [if_neg (by decide +kernel)]; exact ⟨rfl, rfl⟩))
    (fun os started H enc _ => lifted os started H enc)
/-- The statement. -/
theorem proved : Rows.SectionCutSaid := over
end sectionCut

end Go.Proofs.Ytbhpbnedocdneaa
