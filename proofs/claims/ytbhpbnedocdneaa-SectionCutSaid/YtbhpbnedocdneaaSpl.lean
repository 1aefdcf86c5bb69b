/- A section beside its model, under a power without an end: each call answers as the model says. Conditions: none. -/
import Derived.Test.YtbhpbnedocdneaaSli
import Derived.Test.YtbhpbnedocdneaaSin
import Derived.Test.YtbhpbnedocdneaaCho
import Derived.Test.YtbhpbnedocdneaaMdo
set_option linter.unusedSimpArgs false
set_option linter.unusedVariables false
set_option linter.unnecessarySimpa false
set_option linter.unusedSectionVars false
namespace Go.Proofs.Ytbhpbnedocdneaa
set_option linter.unusedSimpArgs false
set_option linter.unusedVariables false
open Go
def SecX (o : Bool) (b : Nat) (S : SecS) : HP := match o with
  | true => SecO b S
  | false => SecC b S
/-- What an open section's maps are. -/
def SecM (o : Bool) (m1 m2 : Option Nat) (S : SecS) : HP := match o with
  | true => hex fun (x : Nat × Nat) => grp [mapA .i64 unitE x.1 S.seen, mapA .i64 unitE x.2 S.dirty, pr (m1 = some x.1 ∧ m2 = some x.2)]
  | false => pr True
theorem secX_open {B : World} {o : Bool} {b : Nat} {S : SecS} {Fr : List HP} {w : World} (h : Holds B (SecX o b S :: Fr) w) : ∃ bl m1 m2, Holds B (secRow b bl S o m1 m2 :: LogA bl S.L :: SecM o m1 m2 S :: Fr) w := by
  cases o with
  | false =>
    obtain ⟨⟨bl, m1, m2⟩, hx⟩ := Holds.hex h
    exact ⟨bl, m1, m2, (hx.grp.unpr (p := True) trivial).back 2 (by simp)⟩
  | true =>
    obtain ⟨⟨bl, m1, m2⟩, hx⟩ := Holds.hex h
    have h1 : Holds B (mapA .i64 unitE m1 S.seen :: mapA .i64 unitE m2 S.dirty :: pr (some m1 = some m1 ∧ some m2 = some m2) :: secRow b bl S true (some m1) (some m2) :: LogA bl S.L :: Fr) w := (((hx.grp.front 2 rfl).front 3 rfl).unpr ⟨rfl, rfl⟩).front 1 rfl |>.front 2 rfl
    have h2 := Holds.unhex (A := fun (x : Nat × Nat) => grp [mapA .i64 unitE x.1 S.seen, mapA .i64 unitE x.2 S.dirty, pr (some m1 = some x.1 ∧ some m2 = some x.2)]) (m1, m2) (Holds.ungrp (l := [mapA .i64 unitE m1 S.seen, mapA .i64 unitE m2 S.dirty, pr (some m1 = some m1 ∧ some m2 = some m2)]) h1)
    exact ⟨bl, some m1, some m2, h2.back 2 (by simp)⟩
theorem secX_holds {B : World} {o : Bool} {b bl : Nat} {m1 m2 : Option Nat} {S : SecS} {Fr : List HP} {w : World} (h : Holds B (secRow b bl S o m1 m2 :: LogA bl S.L :: SecM o m1 m2 S :: Fr) w) : Holds B (SecX o b S :: Fr) w := by
  cases o with
  | false => exact secC_holds (h.front 2 rfl).tail
  | true =>
    obtain ⟨⟨x1, x2⟩, hx⟩ := Holds.hex (h.front 2 rfl)
    obtain ⟨⟨rfl, rfl⟩, h3⟩ := (hx.grp.front 2 rfl).pr
    exact secO_holds (h3.front 2 rfl |>.front 3 rfl |>.front 1 rfl)
theorem go_secX {B : World} {n : Nat} {D : List Deferred} {σ : Env} {o : Bool} {b : Nat} {S : SecS} {Fr : List HP} {K : Act → World → Prop} (h : ∀ bl m1 m2, GO B n D σ (secRow b bl S o m1 m2 :: LogA bl S.L :: SecM o m1 m2 S :: Fr) K) : GO B n D σ (SecX o b S :: Fr) K := fun a w st => by
  obtain ⟨bl, m1, m2, hh⟩ := secX_open st.holds
  exact h bl m1 m2 a w ⟨st.toStA, hh⟩
theorem pure_conv {B : World} {P : Program} {f : FuncId} {vs : Array Value} {v : Value} {H H2 : List HP} (f1 : ∀ w, Holds B H w → Holds B H2 w) (f2 : ∀ w, Holds B H2 w → Holds B H w) (h : ∀ w, Holds B H2 w → Calls P f vs w (PureR B H2 v)) : ∀ w, Holds B H w → Calls P f vs w (PureR B H v) :=
  fun w hw => (h w (f1 w hw)).mono fun _ _ ⟨h1, h2⟩ => ⟨h1, f2 _ h2⟩
/-- A section and its model. -/
structure PI (kp : Prop) (c : Cfg) (N bd : Nat) (M : MS) (S : SecS) (s : Dev) : Prop where
  mc : M.c = c
  nw : M.nw = N - c.active.toNat
  n : s.n = N
  hN : (N : Int) = c.words
  now : ∀ i, i < M.nw → M.now i = s.now (c.active.toNat + i)
  d : S.L.d = bd
  shut : M.o = false → Still s ∧ (kp → s.kept = s.now) ∧ S.L.c = c ∧ LogW S.L ∧ S.L.n = 0 ∧ Shut0 S.L s
  opn : M.o = true → ∃ old js g, In kp c N old js S s ∧ M.js = js.map (fun (j : Nat) => (j : Int)) ∧ S.ff = M.f ∧ S.ft = M.t ∧ M.was = some g ∧ ∀ i, i < M.nw → g i = old (c.active.toNat + i)
theorem PI.len {kp : Prop} {c : Cfg} {N bd : Nat} {M : MS} {S : SecS} {s : Dev} (h : PI kp c N bd M S s) : (M.o = true → S.L.n = M.js.length) ∧ (M.o = false → S.L.n = 0) := by
  refine ⟨fun ho => ?_, fun ho => (h.shut ho).2.2.2.2.1⟩
  obtain ⟨old, js, g, h1, h2, _⟩ := h.opn ho
  rw [h1.ln, h2, List.length_map]
theorem PI.begin {kp : Prop} {c : Cfg} {N bd : Nat} {M : MS} {S : SecS} {s : Dev} (h : PI kp c N bd M S s) (ho : M.o = false) (f t : Int) : PI kp c N bd (M.begin f t) { S with ff := f, ft := t, seen := [], dirty := [] } s := by
  obtain ⟨h1, h2, h3, h4, h5, h6⟩ := h.shut ho
  exact ⟨h.mc, h.nw, h.n, h.hN, h.now, h.d, fun h => (by cases h), fun _ => ⟨s.now, [], M.now, in_begin h1 h2 h.n h.hN h3 h4 h5 h6, rfl, rfl, rfl, rfl, h.now⟩⟩
theorem PI.same {kp : Prop} {c : Cfg} {N bd : Nat} {M : MS} {S : SecS} {s : Dev} (h : PI kp c N bd M S s) : M.same s := fun i hi => .inl (by rw [h.mc]; exact (h.now i hi).symm)
theorem PI.shutd {kp : Prop} {c : Cfg} {N bd : Nat} {M M' : MS} {S : SecS} {s s' : Dev} (h : PI kp c N bd M S s) (hc : CfgW c) (hS : S.L.c = c) (hw : LogW S.L) (e1 : M'.c = M.c) (e2 : M'.nw = M.nw) (e3 : M'.o = false) (hs : Still s') (hn : s'.n = N) (hk : kp → s'.kept = s'.now) (hsh : Shut0 S.L.shut s') (hnow : ∀ i, i < M.nw → M'.now i = s'.now (c.active.toNat + i)) : PI kp c N bd M' { S with L := S.L.shut } s' := by
  obtain ⟨w1, w2, w3, w4⟩ := shut_w hw
  exact ⟨by rw [e1, h.mc], by rw [e2, h.nw], hn, h.hN, fun i hi => hnow i (by rw [← e2]; exact hi), w4.trans h.d, fun _ => ⟨hs, hk, w3.trans hS, w1, w2, hsh⟩, fun ho => by rw [e3] at ho; cases ho⟩
theorem PI.commit {kp : Prop} {c : Cfg} {N bd : Nat} {M : MS} {S : SecS} {s : Dev} (h : PI kp c N bd M S s) (hc : CfgW c) (ho : M.o = true) : ∃ s', S.commit s = .ok { S with L := S.L.shut } s' ∧ PI kp c N bd { M with o := false } { S with L := S.L.shut } s' ∧ (kp → Calm s') := by
  obtain ⟨old, js, g, h1, h2, h3, h4, h5, h6⟩ := h.opn ho
  obtain ⟨s', e1, e2, e3, e4, e5, e6⟩ := in_commit h1 hc
  obtain ⟨hA1, hA2, hA3⟩ := act_w hc
  exact ⟨s', e1, h.shutd hc h1.hc h1.logw rfl rfl rfl e2 e3 (fun hk => (e5 hk).kept) e6 fun i hi => by rw [e4, shutNow_at (by omega)]; exact h.now i hi, e5⟩
theorem PI.abort {kp : Prop} {c : Cfg} {N bd : Nat} {M : MS} {S : SecS} {s : Dev} (h : PI kp c N bd M S s) (hc : CfgW c) (ho : M.o = true) (hk : ¬ kp) {g : Nat → Int} (hg : M.was = some g) : ∃ s', S.abort s = .ok { S with L := S.L.shut } s' ∧ PI kp c N bd (M.abort g) { S with L := S.L.shut } s' := by
  obtain ⟨old, js, g', h1, h2, h3, h4, h5, h6⟩ := h.opn ho
  obtain rfl : g = g' := by rw [hg] at h5; exact Option.some.inj h5
  have hA := h1
  obtain ⟨hA1, hA2, hA3⟩ := act_w hc
  have hal := act_le hc
  have hact := hc.act
  have hw := words_b hc
  have hN := h1.hN
  have hn := h1.n
  have hcc := h1.hc
  have hget : ∀ k (hk : k < js.length), js.getD k 0 = js[k] := fun k hk => by simp [hk]
  have hlog := h1.logw.n2
  rw [hcc, h1.ln] at hlog
  obtain ⟨s', e1, e2, e3, e4, e5⟩ := abort_ne (S := S) (s := s) (js := fun k => js.getD k 0) (old := old) (k := js.length) (by rw [hcc]; exact hc) h1.still (by rw [hn]; omega) h1.ln.symm (by rw [hcc]; exact hlog) (by rw [hcc]; omega) (fun k hk => by
    obtain ⟨r1, r2, r3, r4⟩ := h1.recs k hk
    simp only [hget k hk]
    rw [hcc, hn]
    exact ⟨r1, r2, r3, r4⟩)
  have hex : ∀ x, (∃ j, j < js.length ∧ js.getD j 0 = x) ↔ x ∈ js := fun x => by
    constructor
    · rintro ⟨j, hj, e⟩
      rw [hget j hj] at e
      rw [← e]; exact List.getElem_mem hj
    · intro hx
      obtain ⟨j, hj, e⟩ := List.mem_iff_getElem.1 hx
      exact ⟨j, hj, by rw [hget j hj]; exact e⟩
  refine ⟨s', e1, h.shutd hc h1.hc h1.logw rfl rfl rfl e2 (by rw [e3, hn]) (fun hkp => absurd hkp hk) ?_ fun i hi => ?_⟩
  · have hno : ∀ x : Nat, x < 24 → ¬ ∃ j, j < js.length ∧ js.getD j 0 = x := fun x hx hh => by
      obtain ⟨m, hm, e⟩ := List.mem_iff_getElem.1 ((hex x).1 hh)
      have h1 := (h1.recs m hm).2.2.1
      omega
    refine shut0_shut h1.logw ?_ ?_ e4
    · simp only [if_neg (hno 8 (by omega))]; exact h1.ep
    · simp only [if_neg (hno 16 (by omega))]
      rcases h1.st with ⟨g1, g2⟩ | ⟨g1, g2⟩
      · exact .inl ⟨by rw [h1.ln, g1]; rfl, g2⟩
      · exact .inr ⟨by rw [h1.ln]; have := List.length_pos_iff.2 g1; omega, g2⟩
  have hi' := h.nw
  rw [e4, shutNow_at (by omega)]
  show (if M.c.active + i < M.f ∨ M.t ≤ M.c.active + i then g i else M.now i) = _
  rw [h.mc, ← h3, ← h4]
  by_cases c1 : c.active.toNat + i ∈ js
  · rw [if_pos ((hex _).2 c1)]
    have hfr : c.active + i < S.ff ∨ S.ft ≤ c.active + i := h1.out (c.active.toNat + i) c1 |>.imp (fun h => by omega) (fun h => by omega)
    rw [if_pos hfr, h6 i hi]
  · rw [if_neg (fun hh => c1 ((hex _).1 hh))]
    by_cases c2 : c.active + i < S.ff ∨ S.ft ≤ c.active + i
    · rw [if_pos c2, h6 i hi]
      exact (h1.same _ c1 (by omega) (by omega)).symm
    · rw [if_neg c2]; exact h.now i hi
theorem mem_nat {js : List Nat} {i : Nat} : (i : Int) ∈ js.map (fun (j : Nat) => (j : Int)) ↔ i ∈ js := by
  rw [List.mem_map]
  exact ⟨fun ⟨j, hj, e⟩ => by rwa [show i = j by omega], fun h => ⟨i, h, rfl⟩⟩
theorem PI.put {kp : Prop} {c : Cfg} {N bd : Nat} {M : MS} {S : SecS} {s : Dev} (h : PI kp c N bd M S s) (hc : CfgW c) (ho : M.o = true) (i v : Int) : ∃ S' s', S.store s i v = .ok ((M.put i v).1, S') s' ∧ PI kp c N bd (M.put i v).2 S' s' ∧ (M.put i v).2.o = true := by
  obtain ⟨old, js, g, h1, h2, h3, h4, h5, h6⟩ := h.opn ho
  obtain ⟨hA1, hA2, hA3⟩ := act_w hc
  have hn := h.n
  have hN := h.hN
  have hmc := h.mc
  have hnw := h.nw
  have hsc := h1.hc
  by_cases c1 : i < M.c.active ∨ M.c.words ≤ i
  · have hp : M.put i v = (1, M) := by unfold MS.put; rw [if_pos c1]
    rw [hp]
    refine ⟨S, s, ?_, h, ho⟩
    unfold SecS.store
    rw [if_pos (by rw [hsc]; rw [hmc] at c1; omega)]
  · rw [hmc] at c1
    obtain ⟨k, rfl⟩ : ∃ k : Nat, i = k := ⟨i.toNat, by omega⟩
    have hk : c.active ≤ k ∧ k < N := by omega
    have hmem : ((k : Int) ∈ M.js) ↔ k ∈ js := by rw [h2]; exact mem_nat
    have hupd : ∀ j, j < M.nw → upd M.now ((k : Int) - c.active).toNat v j = upd s.now k v (c.active.toNat + j) := fun j hj => by
      simp only [upd]
      by_cases e : j = ((k : Int) - c.active).toNat
      · rw [if_pos e, if_pos (by omega)]
      · rw [if_neg e, if_neg (by omega)]; exact h.now j hj
    by_cases c2 : ((k : Int) < M.f ∨ M.t ≤ k) ∧ (k : Int) ∉ M.js
    · by_cases c3 : (M.js.length : Int) = M.c.log
      · have hp : M.put k v = (3, M) := by unfold MS.put; rw [if_neg (by rw [hmc]; exact c1), if_pos c2, if_pos c3]
        rw [hp]
        exact ⟨_, s, in_full h1 v hk (fun hh => c2.2 (hmem.2 hh)) (by rw [h3, h4]; omega) (by rw [h2, List.length_map] at c3; rw [c3, hmc]), h, ho⟩
      · have hp : M.put k v = (0, { M with js := M.js ++ [(k : Int)], now := upd M.now ((k : Int) - M.c.active).toNat v }) := by unfold MS.put; rw [if_neg (by rw [hmc]; exact c1), if_pos c2, if_neg c3]
        rw [hp]
        have hlog := h1.logw.n2
        rw [hsc, h1.ln] at hlog
        obtain ⟨s', e1, e2, e3, e4⟩ := in_first h1 hc v hk (fun hh => c2.2 (hmem.2 hh)) (by rw [h3, h4]; omega) (by rw [h2, List.length_map, hmc] at c3; omega)
        refine ⟨_, s', e1, ⟨hmc, hnw, e2.n, hN, fun j hj => ?_, h.d, fun hh => (by rw [ho] at hh; cases hh), fun _ => ⟨old, _, g, e2, by rw [h2]; simp, h3, h4, h5, h6⟩⟩, ho⟩
        have hj : j < M.nw := hj
        show upd M.now ((k : Int) - M.c.active).toNat v j = _
        rw [hmc, hupd j hj]
        simp only [upd]
        by_cases e : c.active.toNat + j = k
        · rw [if_pos e, e, e3]
        · rw [if_neg e, e4 _ (by omega) e]
    · have hp : M.put k v = (0, { M with now := upd M.now ((k : Int) - M.c.active).toNat v }) := by unfold MS.put; rw [if_neg (by rw [hmc]; exact c1), if_neg c2]
      rw [hp]
      obtain ⟨e1, e2⟩ := in_again h1 hc v hk (by
        by_cases c3 : k ∈ js
        · exact .inl c3
        · right
          rw [h3, h4]
          have : ¬ ((k : Int) < M.f ∨ M.t ≤ k) := fun hh => c2 ⟨hh, fun hm => c3 (hmem.1 hm)⟩
          omega)
      refine ⟨_, _, e1, ⟨hmc, hnw, e2.n, hN, fun j hj => ?_, h.d, fun hh => (by rw [ho] at hh; cases hh), fun _ => ⟨old, js, g, e2, h2, h3, h4, h5, h6⟩⟩, ho⟩
      have hj : j < M.nw := hj
      show upd M.now ((k : Int) - M.c.active).toNat v j = _
      rw [hmc, hupd j hj, sv_now]

theorem sopenR_ok (B : World) (Fr : List HP) (b bl : Nat) (S : SecS) (o : Bool) (m1 m2 : Option Nat) :
    ∀ w, Holds B (secRow b bl S o m1 m2 :: Fr) w → Calls Try.prog 20 [ptr b].toArray w (PureR B (secRow b bl S o m1 m2 :: Fr) (.bool o)) := by
  refine fn_enter Try.func20 rfl Try.ntmps20 rfl ?_
  refine g_seq ?_
  refine g_region ?_
  refine p_val rfl (ev_assign rfl) .free rfl rfl ?_
  refine p_nil ?_
  refine g_seq ?_
  refine g_region ?_
  refine p_val rfl (ev_move rfl) .free rfl rfl ?_
  first | refine p_val rfl (ev_nil rfl) .free rfl rfl ?_ | refine p_val rfl (ev_nilf rfl) .free rfl rfl ?_
  refine p_val rfl (ev_fa (m := _) fa_51_3 rfl rfl) .free rfl rfl ?_
  refine p_val rfl (ev_load Try.isAgg4 rfl rfl) .free rfl rfl ?_
  refine p_val rfl (ev_assign rfl) .free rfl rfl ?_
  refine p_nil ?_
  refine g_ret ?_
  exact ret_tmp Try.results20 rfl (fun w hw => ⟨rfl, hw⟩)


theorem mdo_pi (B : World) (Fr : List HP) (bm bs bd N : Nat) (kp : Prop) (c : Cfg) (M : MS) (S : SecS) (s : Dev) (hc : CfgW c) (h : PI kp c N bd M S s) (ki at_ v fh : Int) (hki : 0 ≤ ki) (hat : 0 ≤ at_ ∧ at_ ≤ 65535) (hfr : 0 ≤ fh) (hk : ki % 8 = 2 → ¬ kp) :
    ∀ w, Holds B (MA bm M :: SecX M.o bs S :: DevA bd s :: Fr) w → Calls Try.prog 18 [ptr bm, ptr bs, .agg #[u8 ki, .int .u16 at_, w64 v], u8 fh].toArray w (Ret B (fun rv H' => ∃ M' S' s', rv = .bool true ∧ PI kp c N bd M' S' s' ∧ ((ki % 8 = 0 → M'.o = true) ∧ (ki % 8 = 1 → M'.o = false ∧ (kp → M.o = true → Calm s')) ∧ (3 ≤ ki % 8 → M'.o = M.o)) ∧ H' = MA bm M' :: SecX M'.o bs S' :: DevA bd s' :: Fr) (fun _ _ => False)) := by
  have hd := h.d
  obtain ⟨hA1, hA2, hA3⟩ := act_w hc
  have hN := h.hN
  have hmc := h.mc
  have hnw : M.nw = M.c.words.toNat - M.c.active.toNat := by rw [hmc, h.nw]; omega
  cases ho : M.o with
  | false =>
    intro w hw
    refine (mdoC_ok B (DevA bd s :: Fr) bm bs S M (by rw [hmc]; exact hc) hnw ki at_ v fh hki hat hfr ho w hw).mono (Ret.mono ?_ (fun _ _ h => h))
    rintro _ _ ⟨rfl, ⟨q, rfl⟩ | ⟨q, rfl⟩⟩
    · exact ⟨_, _, s, rfl, h.begin ho _ _, ⟨fun _ => rfl, fun h => absurd h (by omega), fun h => absurd h (by omega)⟩, rfl⟩
    · exact ⟨M, S, s, rfl, h, ⟨fun h => absurd h q, fun _ => ⟨ho, fun _ h => by cases h⟩, fun _ => ho⟩, by rw [ho]; rfl⟩
  | true =>
    obtain ⟨old, js, g, h1, h2, h3, h4, h5, h6⟩ := h.opn ho
    have hlog := h1.logw.n2
    rw [h1.hc, h1.ln] at hlog
    have hl2 := hc.l2
    intro w hw
    have hw' : Holds B (MA bm M :: SecO bs S :: DevA S.L.d s :: Fr) w := by rw [hd]; exact hw
    refine (mdoO_ok B Fr bm bs S M (by rw [hmc]; exact hc) hnw ki at_ v fh hki hat hfr s ho (in_secw h1 hc (by omega)) (dirty_len h1 hc (by omega)) (by rw [h2, List.length_map]; omega) g h5 w hw').mono (Ret.mono ?_ ?_)
    · rintro _ _ (⟨q, rfl, rfl⟩ | ⟨q, rfl, S', s', hm, rfl⟩ | ⟨q, rfl, S', s', hm, rfl⟩ | ⟨q0, q1, q2, a, S', s', hm, rfl, rfl⟩)
      · exact ⟨M, S, s, rfl, h, ⟨fun _ => ho, fun h => absurd h (by omega), fun h => absurd h (by omega)⟩, by rw [hd, ho]; rfl⟩
      · obtain ⟨s1, e1, e2, e3⟩ := h.commit hc ho
        cases e1.symm.trans hm
        exact ⟨_, _, _, rfl, e2, ⟨fun h => absurd h (by omega), fun _ => ⟨rfl, fun hkp _ => e3 hkp⟩, fun h => absurd h (by omega)⟩, by rw [hd]; rfl⟩
      · obtain ⟨s1, e1, e2⟩ := h.abort hc ho (hk q) h5
        cases e1.symm.trans hm
        exact ⟨_, _, _, rfl, e2, ⟨fun h => absurd h (by omega), fun h => absurd h (by omega), fun h => absurd h (by omega)⟩, by rw [hd]; rfl⟩
      · obtain ⟨S1, s1, e1, e2, e3⟩ := h.put hc ho (M.c.ix at_) v
        cases e1.symm.trans hm
        exact ⟨_, _, _, by simp, e2, ⟨fun h => absurd h q0, fun h => absurd h q1, fun _ => e3⟩, by rw [hd, e3]; rfl⟩
    · rintro _ _ ⟨s', (⟨q, hm⟩ | ⟨q, hm⟩ | ⟨q0, q1, q2, hm⟩), -, -⟩
      · obtain ⟨s1, e1, _⟩ := h.commit hc ho
        cases e1.symm.trans hm
      · obtain ⟨s1, e1, _⟩ := h.abort hc ho (hk q) h5
        cases e1.symm.trans hm
      · obtain ⟨S1, s1, e1, _⟩ := h.put hc ho (M.c.ix at_) v
        cases e1.symm.trans hm
end Go.Proofs.Ytbhpbnedocdneaa
