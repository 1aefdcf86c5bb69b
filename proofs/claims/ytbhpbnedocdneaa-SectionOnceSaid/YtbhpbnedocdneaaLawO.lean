/- The law SectionOnce: the walk. Conditions: none. -/
import Derived.Test.YtbhpbnedocdneaaSpl
import Derived.Test.YtbhpbnedocdneaaArg
set_option linter.unusedSimpArgs false
set_option linter.unusedVariables false
set_option linter.unnecessarySimpa false
set_option linter.unusedSectionVars false
namespace Go.Proofs.Ytbhpbnedocdneaa
set_option linter.unusedSimpArgs false
set_option linter.unusedVariables false
open Go
abbrev intE (x : Int) : Value := i64 x
structure OnceI where
  k : Nat
  s : Dev
  S : SecS
  js : List Nat
  E : List (Int × Int)
/-- An open section, and a map of what was stored. -/
structure OnceW (c : Cfg) (N bd : Nat) (old : Nat → Int) (i : OnceI) : Prop where
  inn : In False c N old i.js i.S i.s
  d : i.S.L.d = bd
  ff : i.S.ff = 0 ∧ i.S.ft = 0
  keys : i.E.map Prod.fst = i.js.map (fun (j : Nat) => (j : Int))
  vals : ∀ p ∈ i.E, i.s.now p.1.toNat = p.2 ∧ 0 ≤ p.2 ∧ p.2 ≤ 100000
theorem mget_some {l : List (Int × Int)} {k : Int} : (mget l k).isSome = true ↔ k ∈ l.map Prod.fst := by
  induction l with
  | nil => simp [mget]
  | cons p l ih =>
    simp only [mget]
    by_cases e : p.1 = k
    · rw [if_pos e]; simp [e]
    · rw [if_neg e, ih]; simp [Ne.symm e]
theorem mset_new {l : List (Int × Int)} {k v : Int} (h : k ∉ l.map Prod.fst) : mset l k v = l ++ [(k, v)] := by
  induction l with
  | nil => rfl
  | cons p l ih =>
    simp only [List.map_cons, List.mem_cons, not_or] at h
    simp only [mset]
    rw [if_neg (Ne.symm h.1), ih h.2]; rfl
theorem OnceW.len {c : Cfg} {N bd : Nat} {old : Nat → Int} {i : OnceI} (h : OnceW c N bd old i) : i.E.length = i.js.length := by
  have := congrArg List.length h.keys
  simpa using this
theorem OnceW.lookup {c : Cfg} {N bd : Nat} {old : Nat → Int} {i : OnceI} (h : OnceW c N bd old i) (x : Nat) : (mget i.E (x : Int)).isSome = true ↔ x ∈ i.js := by
  rw [mget_some, h.keys]; exact mem_nat
theorem OnceW.full {c : Cfg} {N bd : Nat} {old : Nat → Int} {i : OnceI} (h : OnceW c N bd old i) {x : Nat} (hx : c.active ≤ x ∧ x < N) (h1 : (mget i.E (x : Int)).isSome = false) (h2 : (i.E.length : Int) = c.log) (v : Int) : i.S.store i.s x v = .ok (3, i.S) i.s := by
  have h3 : x ∉ i.js := fun hh => by rw [(h.lookup x).2 hh] at h1; cases h1
  have := in_full h.inn v hx h3 (by rw [h.ff.1, h.ff.2]; omega) (by rw [← h.len]; exact h2)
  rw [this]
theorem OnceW.put {c : Cfg} {N bd : Nat} {old : Nat → Int} {i : OnceI} (h : OnceW c N bd old i) (hc : CfgW c) {x : Nat} (hx : c.active ≤ x ∧ x < N) (hno : ¬((mget i.E (x : Int)).isSome = false ∧ (i.E.length : Int) = c.log)) {v : Int} (hv : 0 ≤ v ∧ v ≤ 100000) :
    ∃ S' s' js', i.S.store i.s x v = .ok (0, S') s' ∧ ∀ k, OnceW c N bd old ⟨k, s', S', js', mset i.E x v⟩ := by
  have hact := act_w hc
  by_cases h1 : x ∈ i.js
  · obtain ⟨e1, e2⟩ := in_again h.inn hc v hx (.inl h1)
    refine ⟨_, _, i.js, e1, fun k => ⟨e2, h.d, h.ff, ?_, fun p hp => ?_⟩⟩
    · show (mset i.E x v).map Prod.fst = _
      rw [mset_keys (by rw [h.keys]; exact mem_nat.2 h1)]; exact h.keys
    · rcases mset_mem hp with rfl | hp'
      · refine ⟨?_, hv⟩
        show (i.s.sv x v).now (x : Int).toNat = v
        rw [sv_now, Int.toNat_natCast]; simp only [upd, if_true]
      · by_cases e : p.1.toNat = x
        · have hk : p.1 ∈ i.js.map (fun (j : Nat) => (j : Int)) := by rw [← h.keys]; exact List.mem_map_of_mem hp'
          obtain ⟨j, _, ej⟩ := List.mem_map.1 hk
          have hpx : p.1 = x := by omega
          have hm : mget (mset i.E x v) (x : Int) = some v := by rw [mget_mset, if_pos rfl]
          have hnd : ((mset i.E x v).map Prod.fst).Nodup := by
            rw [mset_keys (by rw [h.keys]; exact mem_nat.2 h1), h.keys]
            exact List.Pairwise.map _ (fun a b hab hh => hab (by omega)) h.inn.jnd
          have hm2 := mem_mget hnd hp
          rw [hpx, hm] at hm2
          have : v = p.2 := Option.some.inj hm2
          refine ⟨?_, this ▸ hv⟩
          show (i.s.sv x v).now p.1.toNat = p.2
          rw [sv_now, e]; simp only [upd, if_true]; exact this
        · obtain ⟨g1, g2⟩ := h.vals p hp'
          refine ⟨?_, g2⟩
          show (i.s.sv x v).now p.1.toNat = p.2
          rw [sv_now]; simp only [upd]; rw [if_neg e]; exact g1
  · have h0 : (mget i.E (x : Int)).isSome = false := by
      cases hm : (mget i.E (x : Int)).isSome with
      | false => rfl
      | true => exact absurd ((h.lookup x).1 hm) h1
    have hlen := h.len
    have hlog := h.inn.logw.n2
    rw [h.inn.hc, h.inn.ln] at hlog
    obtain ⟨s', e1, e2, e3, e4⟩ := in_first h.inn hc v hx h1 (by rw [h.ff.1, h.ff.2]; omega) (by
      have : ¬ (i.E.length : Int) = c.log := fun hh => hno ⟨h0, hh⟩
      omega)
    have hnk : (x : Int) ∉ i.E.map Prod.fst := by rw [h.keys]; exact fun hh => h1 (mem_nat.1 hh)
    refine ⟨_, s', i.js ++ [x], e1, fun k => ⟨e2, h.d, h.ff, ?_, fun p hp => ?_⟩⟩
    · show (mset i.E x v).map Prod.fst = _
      rw [mset_new hnk, List.map_append, List.map_append, h.keys]; rfl
    · have hp : p ∈ mset i.E x v := hp
      rw [mset_new hnk] at hp
      rcases List.mem_append.1 hp with hp' | hp'
      · obtain ⟨g1, g2⟩ := h.vals p hp'
        refine ⟨?_, g2⟩
        have hk : p.1 ∈ i.js.map (fun (j : Nat) => (j : Int)) := by rw [← h.keys]; exact List.mem_map_of_mem hp'
        obtain ⟨j, hj, ej⟩ := List.mem_map.1 hk
        obtain ⟨m, hm, em⟩ := List.mem_iff_getElem.1 hj
        have hr := (h.inn.recs m hm).2.2.1
        have hjx : j ≠ x := fun e => h1 (e ▸ hj)
        show s'.now p.1.toNat = p.2
        rw [e4 _ (by omega) (by omega)]; exact g1
      · obtain rfl : p = ((x : Int), v) := by simpa using hp'
        exact ⟨by show s'.now (x : Int).toNat = v; rw [Int.toNat_natCast]; exact e3, hv⟩

theorem sectionOnce_ok (B : World) (Fr : List HP) [HasOld Fr B] (l r s : Int) (hl : 0 ≤ l) (hr : 0 ≤ r) (hs : 0 ≤ s) (q : Option Addr) (cap : Nat) (xs : List Int) (hx' : xs.length ≤ 9223372036854775807) (hq : ∀ i, i < xs.length → ∃ b off, q = some ⟨b, off, none⟩) (hsl : SlR B Fr (.slice q xs.length cap) (xs.map u16)) (hxs : ∀ x ∈ xs, 0 ≤ x ∧ x ≤ 65535) (tm : Int) (htm : 0 ≤ tm) :
    ∀ w, Holds B Fr w → Calls Try.prog 3 [.agg #[u16 l, u16 r, u16 s], .slice q xs.length cap, .int .u8 tm].toArray w (PureR B Fr (.bool true)) := by
  refine fn_enter Try.func3 rfl Try.ntmps3 rfl ?_
  obtain ⟨c, hcm⟩ : ∃ c, c = mkC l r s := ⟨_, rfl⟩
  have hc : CfgW c := by rw [hcm]; exact mkC_w hl hr hs
  obtain ⟨hA1, hA2, hA3⟩ := act_w hc
  refine g_seq ?_
  refine g_region ?_
  refine p_chg rfl (ch_boxA rfl) .free rfl rfl ?_
  rintro _ _ ⟨b3, rfl, rfl⟩
  refine p_val rfl (ev_assign rfl) .free rfl rfl ?_
  refine p_nil ?_
  refine g_seq ?_
  refine g_seq ?_
  refine g_region ?_
  refine p_callq rfl (en_f Try.call9 rfl) (awake7_ok _ _) .free rfl rfl ?_
  refine p_val rfl (ev_not rfl) .free rfl rfl ?_
  refine p_nil ?_
  refine g_iff rfl (rfl) ?_
  refine g_skip ?_
  refine g_seq ?_
  refine g_seq ?_
  refine g_region ?_
  refine p_val rfl (ev_move rfl) .free rfl rfl ?_
  refine p_val rfl (ev_len rfl Try.runUnderlying25 ⟨_, rfl⟩ rfl) .free rfl rfl ?_
  refine p_val rfl (ev_cmp rfl rfl rfl) .free rfl rfl ?_
  refine p_nil ?_
  refine g_if rfl (fun h23 => ?_) (fun h23 => ?_)
  · try simp only [decide_eq_true_eq, decide_eq_false_iff_not, Bool.not_eq_true', Bool.not_eq_false', Bool.or_eq_true, Bool.and_eq_true, Bool.and_eq_false_iff, Bool.or_eq_false_iff, beq_iff_eq, bne_iff_ne, beq_eq_false_iff_ne, bne_eq_false_iff_eq, ge_iff_le, gt_iff_lt, ne_eq] at h23
    refine g_seq ?_
    refine g_region ?_
    refine p_val rfl (ev_assign rfl) .free rfl rfl ?_
    refine p_nil ?_
    refine g_ret ?_
    exact ret_tmp Try.results3 rfl (fun w hh => ⟨rfl, hh.tail⟩)
  · have hx : xs.length ≤ 30 := by simp at h23; omega
    refine g_skip ?_
    refine g_seq ?_
    refine g_region ?_
    refine p_val rfl (ev_loadA Try.isAgg24 Try.sizeOf24 rfl rfl) .free rfl rfl ?_
    refine p_call rfl (en_f Try.call10 rfl) (start_ok _ _ l r s hl hr hs c hcm none 0 [] (by decide) (fun i hi => absurd hi (Nat.not_lt_zero _)) SlR.nil) .free rfl rfl ?_ ?_
    rotate_left
    · rintro _ _ ⟨⟩
    rintro _ _ ⟨bd, bs, bm, bc, s0, rest, hf, hn, rfl, rfl⟩
    refine p_val rfl (ev_move rfl) .free rfl rfl ?_
    refine p_val rfl (ev_ext rfl rfl) .free rfl rfl ?_
    refine p_val rfl (ev_ext rfl rfl) .free rfl rfl ?_
    refine p_val rfl (ev_ext rfl rfl) .free rfl rfl ?_
    refine p_val rfl (ev_assign rfl) .free rfl rfl ?_
    refine p_val rfl (ev_assign rfl) .free rfl rfl ?_
    refine p_val rfl (ev_assign rfl) .free rfl rfl ?_
    refine p_nil ?_
    refine go_sub (σ' := [(9, _), (8, _), (7, _), (6, _), (1, _), (2, _)]) ⟨rfl, rfl, rfl, rfl, rfl, rfl, trivial⟩ ?_
    refine g_seq ?_
    refine g_seq ?_
    refine g_region ?_
    simp only [hf.log]
    refine p_val rfl (ev_move rfl) .free rfl rfl ?_
    refine p_val rfl (ev_eqp Try.runUnderlying27 rfl rfl rfl) .free rfl rfl ?_
    refine p_val rfl (ev_move rfl) .free rfl rfl ?_
    refine p_val rfl (ev_move rfl) (.on rfl rfl (beq_eq rfl)) rfl rfl ?_
    refine p_val rfl (ev_build rfl (bld_35)) (.on rfl rfl (beq_eq rfl)) rfl rfl ?_
    refine go_pull SecC bs ?_
    refine p_call rfl (en_f Try.call11 rfl) (sbeginC_ok _ _ _ _ _ _) (.on rfl rfl (beq_eq rfl)) rfl rfl ?_ ?_
    rotate_left
    · rintro _ _ ⟨⟩
    rintro _ _ ⟨rfl, rfl⟩
    refine p_val rfl (ev_cmp rfl rfl rfl) (.on rfl rfl (beq_eq rfl)) rfl rfl ?_
    refine p_val rfl (ev_pick_f rfl rfl rfl) .free rfl rfl ?_
    refine p_nil ?_
    refine go_sub (σ' := [(37, _), (9, _), (8, _), (7, _), (6, _), (1, _), (2, _)]) ⟨rfl, rfl, rfl, rfl, rfl, rfl, rfl, trivial⟩ ?_
    refine g_iff rfl (rfl) ?_
    refine g_skip ?_
    refine g_seq ?_
    refine g_region ?_
    refine p_chg rfl (ch_makeMap .i64 intE) .free rfl rfl ?_
    rintro _ _ ⟨bq, rfl, rfl⟩
    refine p_val rfl (ev_assign rfl) .free rfl rfl ?_
    refine p_nil ?_
    refine g_seq ?_
    refine g_seq ?_
    refine g_region ?_
    have hW0 : OnceW c s0.n bd s0.now ⟨0, s0, { (⟨⟨bd, c, 1, 0⟩, 0, 0, [], []⟩ : SecS) with ff := 0, ft := 0, seen := [], dirty := [] }, [], []⟩ := ⟨in_begin (kp := False) (f := 0) (t := 0) ⟨hf.lim, hf.calm.q⟩ (fun h => h.elim) rfl hn rfl ⟨hc, show (0 : Int) ≤ 1 by decide, show (1 : Int) < 4294967296 by decide, show (0 : Int) ≤ 0 by decide, by have := hc.l1; have := hc.r1; show (0 : Int) ≤ c.log; omega⟩ rfl ⟨hf.ep.1, by rw [hf.ep.2]; show (0 : Int) ≠ stampI 1 0; decide⟩, rfl, ⟨rfl, rfl⟩, rfl, fun p hp => by simp at hp⟩
    have hN : s0.n ≤ 1000000 := by omega
    refine p_val rfl (ev_move rfl) .free rfl rfl ?_
    refine p_val rfl (ev_rem (c := tm % 3) rfl rfl (by decide) (rem_e 3 htm)) .free rfl rfl ?_
    first | refine p_val rfl (ev_conv Try.runUnderlying5 Try.runUnderlying3 rfl (wr64 (by omega))) .free rfl rfl ?_ | refine p_val rfl (ev_conv Try.runUnderlying5 Try.runUnderlying3 rfl rfl) .free rfl rfl ?_
    first | refine p_val rfl (ev_add rfl rfl (wr64 (by omega))) .free rfl rfl ?_ | refine p_val rfl (ev_add rfl rfl rfl) .free rfl rfl ?_
    refine p_val rfl (ev_move rfl) .free rfl rfl ?_
    refine p_nil ?_
    refine g_block ?_
    refine g_loop (ι := OnceI) (fun i => i.k ≤ 3 ∧ OnceW c s0.n bd s0.now i) (fun i => [(1, .slice q xs.length cap), (6, .bool false), (7, ptr bd), (8, ptr bs), (9, ptr bm), (10, .map (some bq)), (42, i64 (1 + tm % 3)), (43, i64 i.k)]) (fun i => SecO bs i.S :: DevA bd i.s :: mapA .i64 intE bq i.E :: row bm [i64 c.log, i64 c.roots, i64 c.space, .slice (some ⟨bc, 0, none⟩) (s0.n - c.active.toNat) ((s0.n - c.active.toNat) + rest.length), .slice none 0 0, .slice none 0 0, .bool false, i64 0, i64 0] 42 :: row bc (tab (s0.n - c.active.toNat) (fun i => w64 (s0.now (c.active.toNat + i))) ++ rest) 46 :: row b3 [u16 l, u16 r, u16 s] 24 :: Fr) (fun i => 3 - i.k) _ ⟨Nat.zero_le 3, hW0⟩ (fun a w st => st.to ⟨rfl, rfl, rfl, rfl, rfl, rfl, rfl, rfl, trivial⟩ (fun hh => (((hh.front 0 rfl).front 4 rfl).front 2 rfl))) ?_
    rintro ⟨k, s1, S1, js1, E1⟩ ⟨hk3, hW⟩
    simp only at hk3 ⊢
    refine g_seq ?_
    refine g_region ?_
    refine p_val rfl (ev_cmp rfl rfl rfl) .free rfl rfl ?_
    refine p_nil ?_
    refine g_seq ?_
    refine g_if rfl (fun h44 => ?_) (fun h44 => ?_)
    · have hk : (k : Int) < 1 + tm % 3 := by simpa using h44
      refine g_skip ?_
      refine g_seq ?_
      refine g_block ?_
      refine g_seq ?_
      refine g_region ?_
      refine p_val rfl (ev_move rfl) .free rfl rfl ?_
      refine p_val rfl (ev_assign rfl) .free rfl rfl ?_
      refine p_nil ?_
      refine go_sub (σ' := [(11, _), (43, _), (42, _), (10, _), (9, _), (8, _), (7, _), (6, _), (1, _)]) ⟨rfl, rfl, rfl, rfl, rfl, rfl, rfl, rfl, rfl, trivial⟩ ?_
      refine g_seq ?_
      refine g_region ?_
      refine p_val rfl (ev_move rfl) .free rfl rfl ?_
      refine p_val rfl (ev_len rfl Try.runUnderlying25 ⟨_, rfl⟩ rfl) .free rfl rfl ?_
      refine p_val rfl (ev_move rfl) .free rfl rfl ?_
      refine p_nil ?_
      refine g_block ?_
      refine g_loop (ι := OnceI) (fun i => i.k ≤ xs.length ∧ OnceW c s0.n bd s0.now i) (fun i => [(1, .slice q xs.length cap), (6, .bool false), (7, ptr bd), (8, ptr bs), (9, ptr bm), (10, .map (some bq)), (42, i64 (1 + tm % 3)), (43, i64 k), (11, i64 k), (46, .slice q xs.length cap), (47, i64 xs.length), (48, i64 i.k)]) (fun i => SecO bs i.S :: DevA bd i.s :: mapA .i64 intE bq i.E :: row bm [i64 c.log, i64 c.roots, i64 c.space, .slice (some ⟨bc, 0, none⟩) (s0.n - c.active.toNat) ((s0.n - c.active.toNat) + rest.length), .slice none 0 0, .slice none 0 0, .bool false, i64 0, i64 0] 42 :: row bc (tab (s0.n - c.active.toNat) (fun i => w64 (s0.now (c.active.toNat + i))) ++ rest) 46 :: row b3 [u16 l, u16 r, u16 s] 24 :: Fr) (fun i => xs.length - i.k) ⟨0, s1, S1, js1, E1⟩ ⟨Nat.zero_le _, ⟨hW.inn, hW.d, hW.ff, hW.keys, hW.vals⟩⟩ (fun a w st => st.to ⟨rfl, rfl, rfl, rfl, rfl, rfl, rfl, rfl, rfl, rfl, rfl, rfl, trivial⟩ id) ?_
      clear hW
      rintro ⟨j, s1, ⟨⟨d0, c1, p1, n1⟩, f1, t1, se1, di1⟩, js, E⟩ ⟨hj3, hW⟩
      have hd0 : bd = d0 := hW.d.symm
      subst hd0
      simp only at hj3 ⊢
      refine g_seq ?_
      refine g_region ?_
      refine p_val rfl (ev_cmp rfl rfl rfl) .free rfl rfl ?_
      refine p_nil ?_
      refine g_seq ?_
      refine g_if rfl (fun h49 => ?_) (fun h49 => ?_)
      · have hj : j < xs.length := by simpa using h49
        obtain ⟨bx, ox, rfl⟩ := hq j hj
        have hxj := hxs _ (List.getElem_mem hj)
        have hm0 := Int.emod_nonneg xs[j] (show c.words - c.active ≠ 0 by omega)
        have hm9 := Int.emod_lt_of_pos xs[j] (show 0 < c.words - c.active by omega)
        obtain ⟨x, hxx⟩ : ∃ x : Nat, (x : Int) = c.active + xs[j] % (c.words - c.active) := ⟨(c.active + xs[j] % (c.words - c.active)).toNat, by omega⟩
        have hxb : c.active ≤ x ∧ x < s0.n := by omega
        refine g_skip ?_
        refine g_seq ?_
        refine g_block ?_
        refine g_seq ?_
        refine g_region ?_
        refine p_val rfl (ev_move rfl) .free rfl rfl ?_
        refine p_val rfl (ev_iaS Try.runUnderlying25 Try.sizeOf22 rfl rfl (by omega) (by omega)) .free rfl rfl ?_
        refine p_val rfl (ev_loadS (v := u16 xs[j]) Try.isAgg22 ((((((hsl.cons _).cons _).cons _).cons _).cons _).cons _) rfl (by rw [Int.toNat_natCast, List.getElem?_map, List.getElem?_eq_getElem hj]; rfl)) .free rfl rfl ?_
        refine p_val rfl (ev_assign rfl) .free rfl rfl ?_
        refine p_val rfl (ev_assign rfl) .free rfl rfl ?_
        refine p_nil ?_
        refine g_seq ?_
        refine g_draw Try.mixed (by kernel_rfl) (by kernel_rfl) ?_
        refine q_val rfl (ev_move rfl) .free rfl ?_
        first | refine q_val rfl (ev_nil rfl) .free rfl ?_ | refine q_val rfl (ev_nilf rfl) .free rfl ?_
        refine q_val rfl (ev_fa (m := _) fa_42_0 rfl rfl) .free rfl ?_
        refine q_val rfl (ev_loadA Try.isAgg38 Try.sizeOf38 rfl rfl) .free rfl ?_
        refine q_call rfl (en_f Try.call12 rfl) (active_ok _ _ c hc) .free rfl ?_
        refine q_val rfl (ev_move rfl) .free rfl ?_
        first | refine q_val rfl (ev_conv Try.runUnderlying22 Try.runUnderlying3 rfl (wr64 (by omega))) .free rfl ?_ | refine q_val rfl (ev_conv Try.runUnderlying22 Try.runUnderlying3 rfl rfl) .free rfl ?_
        refine q_val rfl (ev_move rfl) .free rfl ?_
        first | refine q_val rfl (ev_nil rfl) .free rfl ?_ | refine q_val rfl (ev_nilf rfl) .free rfl ?_
        refine q_val rfl (ev_fa (m := _) fa_42_0 rfl rfl) .free rfl ?_
        refine q_val rfl (ev_loadA Try.isAgg38 Try.sizeOf38 rfl rfl) .free rfl ?_
        refine q_call rfl (en_f Try.call13 rfl) (cwords_ok _ _ c hc) .free rfl ?_
        refine q_val rfl (ev_move rfl) .free rfl ?_
        first | refine q_val rfl (ev_nil rfl) .free rfl ?_ | refine q_val rfl (ev_nilf rfl) .free rfl ?_
        refine q_val rfl (ev_fa (m := _) fa_42_0 rfl rfl) .free rfl ?_
        refine q_val rfl (ev_loadA Try.isAgg38 Try.sizeOf38 rfl rfl) .free rfl ?_
        refine q_call rfl (en_f Try.call12 rfl) (active_ok _ _ c hc) .free rfl ?_
        first | refine q_val rfl (ev_sub rfl rfl (wr64 (by omega))) .free rfl ?_ | refine q_val rfl (ev_sub rfl rfl rfl) .free rfl ?_
        refine q_val rfl (ev_rem (c := xs[j] % (c.words - c.active)) rfl rfl (by omega) (rem_e _ hxj.1)) .free rfl ?_
        refine q_val rfl (ev_add (c := (x : Int)) rfl rfl (by rw [wr64 (by omega)]; exact hxx.symm)) .free rfl ?_
        refine q_val rfl (ev_assign rfl) .free rfl ?_
        refine q_nil ?_
        refine go_sub (σ' := [(14, _), (12, _), (48, _), (47, _), (46, _), (11, _), (43, _), (42, _), (10, _), (9, _), (8, _), (7, _), (6, _), (1, _)]) ⟨rfl, rfl, rfl, rfl, rfl, rfl, rfl, rfl, rfl, rfl, rfl, rfl, rfl, rfl, trivial⟩ ?_
        refine g_seq ?_
        refine g_seq ?_
        refine g_region ?_
        refine p_val rfl (ev_move rfl) .free rfl rfl ?_
        refine p_val rfl (ev_move rfl) .free rfl rfl ?_
        refine p_val rfl (ev_lookup2 Try.runUnderlying36 Try.runUnderlying3 Try.zeroValue3 rfl rfl) .free rfl rfl ?_
        refine p_val rfl (ev_move rfl) .free rfl rfl ?_
        refine p_val rfl (ev_ext rfl rfl) .free rfl rfl ?_
        refine p_val rfl (ev_ext rfl rfl) .free rfl rfl ?_
        refine p_val rfl (ev_assign rfl) .free rfl rfl ?_
        refine p_val rfl (ev_assign rfl) .free rfl rfl ?_
        refine p_nil ?_
        refine go_sub (σ' := [(16, _), (14, _), (12, _), (48, _), (47, _), (46, _), (11, _), (43, _), (42, _), (10, _), (9, _), (8, _), (7, _), (6, _), (1, _)]) ⟨rfl, rfl, rfl, rfl, rfl, rfl, rfl, rfl, rfl, rfl, rfl, rfl, rfl, rfl, rfl, trivial⟩ ?_
        refine g_seq ?_
        refine g_draw Try.mixed (by kernel_rfl) (by kernel_rfl) ?_
        refine q_val rfl (ev_move rfl) .free rfl ?_
        refine q_val rfl (ev_not rfl) .free rfl ?_
        refine q_val rfl (ev_move rfl) .free rfl ?_
        apply q_and (tp := 90) (t := 81) (σ1 := [(81, _), (14, _), (12, _), (48, _), (47, _), (46, _), (11, _), (43, _), (42, _), (10, _), (9, _), (8, _), (7, _), (6, _), (1, _)]) 9 rfl ⟨rfl, rfl, rfl, rfl, rfl, rfl, rfl, rfl, rfl, rfl, rfl, rfl, rfl, rfl, rfl, trivial⟩
        · intro hg1
          refine q_val rfl (ev_move rfl) (.on rfl rfl (beq_eq hg1)) rfl ?_
          refine q_val rfl (ev_lenM rfl Try.runUnderlying36 rfl) (.on rfl rfl (beq_eq hg1)) rfl ?_
          refine q_val rfl (ev_move rfl) (.on rfl rfl (beq_eq hg1)) rfl ?_
          first | refine q_val rfl (ev_nil rfl) (.on rfl rfl (beq_eq hg1)) rfl ?_ | refine q_val rfl (ev_nilf rfl) (.on rfl rfl (beq_eq hg1)) rfl ?_
          refine q_val rfl (ev_fa (m := _) fa_42_0 rfl rfl) (.on rfl rfl (beq_eq hg1)) rfl ?_
          refine q_val rfl (ev_fa (m := _) fa_38_0 rfl rfl) (.on rfl rfl (beq_eq hg1)) rfl ?_
          refine q_val rfl (ev_load Try.isAgg3 rfl rfl) (.on rfl rfl (beq_eq hg1)) rfl ?_
          refine q_val rfl (ev_cmp rfl rfl rfl) (.on rfl rfl (beq_eq hg1)) rfl ?_
          refine q_val rfl (ev_pick_t rfl hg1 rfl) .free rfl ?_
          exact q_seg rfl ⟨rfl, rfl, rfl, rfl, rfl, rfl, rfl, rfl, rfl, rfl, rfl, rfl, rfl, rfl, rfl, trivial⟩ (and_t hg1)
        · intro hg1
          refine q_skip rfl (.on rfl rfl (beq_ne hg1)) rfl ?_
          refine q_skip rfl (.on rfl rfl (beq_ne hg1)) rfl ?_
          refine q_skip rfl (.on rfl rfl (beq_ne hg1)) rfl ?_
          refine q_skip rfl (.on rfl rfl (beq_ne hg1)) rfl ?_
          refine q_skip rfl (.on rfl rfl (beq_ne hg1)) rfl ?_
          refine q_skip rfl (.on rfl rfl (beq_ne hg1)) rfl ?_
          refine q_skip rfl (.on rfl rfl (beq_ne hg1)) rfl ?_
          refine q_skip rfl (.on rfl rfl (beq_ne hg1)) rfl ?_
          refine q_val rfl (ev_pick_f rfl hg1 rfl) .free rfl ?_
          exact q_seg rfl ⟨rfl, rfl, rfl, rfl, rfl, rfl, rfl, rfl, rfl, rfl, rfl, rfl, rfl, rfl, rfl, trivial⟩ (and_f hg1)
        refine q_nil ?_
        refine g_if rfl (fun h90 => ?_) (fun h90 => ?_)
        · have hful : (mget E (x : Int)).isSome = false ∧ (E.length : Int) = c.log := by simpa using h90
          have e1 := hW.full hxb hful.1 hful.2 1
          refine g_seq ?_
          refine g_seq ?_
          refine g_region ?_
          refine p_val rfl (ev_move rfl) .free rfl rfl ?_
          refine p_val rfl (ev_move rfl) .free rfl rfl ?_
          refine go_pull DevA bd ?_
          refine go_pull SecO bs ?_
          refine p_call rfl (en_f Try.call14 rfl) (sstoreO_ok _ _ _ _ _ (in_secw hW.inn hc hN) _ _) .free rfl rfl ?_ ?_
          rotate_left
          · rintro _ _ ⟨_, hm, -, -⟩
            cases e1.symm.trans hm
          rintro _ _ ⟨_, _, _, hm, rfl, rfl⟩
          cases e1.symm.trans hm
          refine p_val rfl (ev_cmp rfl rfl rfl) .free rfl rfl ?_
          refine p_nil ?_
          refine g_iff rfl (rfl) ?_
          refine g_skip ?_
          refine g_exit ?_
          refine g_region ?_
          first | refine p_val rfl (ev_add rfl rfl (wr64 (by omega))) .free rfl rfl ?_ | refine p_val rfl (ev_add rfl rfl rfl) .free rfl rfl ?_
          refine p_val rfl (ev_move rfl) .free rfl rfl ?_
          refine p_nil ?_
          refine go_sub (σ' := [(48, _), (47, _), (46, _), (11, _), (43, _), (42, _), (10, _), (9, _), (8, _), (7, _), (6, _), (1, _)]) ⟨rfl, rfl, rfl, rfl, rfl, rfl, rfl, rfl, rfl, rfl, rfl, rfl, trivial⟩ ?_
          first
          | exact fun a w st => ⟨⟨j + 1, s2, S2, js2, _⟩, ⟨by simp only; omega, hW2 _⟩, by simp only; omega, st.to ⟨rfl, rfl, rfl, rfl, rfl, rfl, rfl, rfl, rfl, rfl, rfl, rfl, trivial⟩ id⟩
          | exact fun a w st => ⟨⟨j + 1, s1, _, js, E⟩, ⟨by simp only; omega, ⟨hW.inn, hW.d, hW.ff, hW.keys, hW.vals⟩⟩, by simp only; omega, st.to ⟨rfl, rfl, rfl, rfl, rfl, rfl, rfl, rfl, rfl, rfl, rfl, rfl, trivial⟩ id⟩
        · have hful : ¬((mget E (x : Int)).isSome = false ∧ (E.length : Int) = c.log) := by simpa using h90
          obtain ⟨S2, s2, js2, e1, hW2⟩ := hW.put hc hxb hful (v := 100 * (k : Int) + j) ⟨by omega, by omega⟩
          refine g_skip ?_
          refine g_seq ?_
          refine g_region ?_
          refine p_val rfl (ev_move rfl) .free rfl rfl ?_
          refine p_val rfl (ev_move rfl) .free rfl rfl ?_
          refine p_val rfl (ev_move rfl) .free rfl rfl ?_
          first | refine p_val rfl (ev_mul rfl rfl (wr64 (by omega))) .free rfl rfl ?_ | refine p_val rfl (ev_mul rfl rfl rfl) .free rfl rfl ?_
          refine p_val rfl (ev_move rfl) .free rfl rfl ?_
          first | refine p_val rfl (ev_add rfl rfl (wr64 (by omega))) .free rfl rfl ?_ | refine p_val rfl (ev_add rfl rfl rfl) .free rfl rfl ?_
          refine p_chg0 rfl (ch_mapset (u := 100 * (k : Int) + j) Try.runUnderlying36 Try.runUnderlying3 rfl rfl rfl rfl) .free rfl ?_
          rintro _ _ rfl
          refine p_nil ?_
          refine go_sub (σ' := [(14, _), (12, _), (48, _), (47, _), (46, _), (11, _), (43, _), (42, _), (10, _), (9, _), (8, _), (7, _), (6, _), (1, _)]) ⟨rfl, rfl, rfl, rfl, rfl, rfl, rfl, rfl, rfl, rfl, rfl, rfl, rfl, rfl, trivial⟩ ?_
          refine g_seq ?_
          refine g_region ?_
          refine p_val rfl (ev_move rfl) .free rfl rfl ?_
          refine p_val rfl (ev_move rfl) .free rfl rfl ?_
          refine p_val rfl (ev_move rfl) .free rfl rfl ?_
          first | refine p_val rfl (ev_mul rfl rfl (wr64 (by omega))) .free rfl rfl ?_ | refine p_val rfl (ev_mul rfl rfl rfl) .free rfl rfl ?_
          refine p_val rfl (ev_move rfl) .free rfl rfl ?_
          first | refine p_val rfl (ev_add rfl rfl (wr64 (by omega))) .free rfl rfl ?_ | refine p_val rfl (ev_add rfl rfl rfl) .free rfl rfl ?_
          first | refine p_val rfl (ev_conv Try.runUnderlying3 Try.runUnderlying46 rfl (wru64 (by omega))) .free rfl rfl ?_ | refine p_val rfl (ev_conv Try.runUnderlying3 Try.runUnderlying46 rfl rfl) .free rfl rfl ?_
          refine go_pull DevA bd ?_
          refine go_pull SecO bs ?_
          refine p_call rfl (en_f Try.call14 rfl) (sstoreO_ok _ _ _ _ _ (in_secw hW.inn hc hN) _ _) .free rfl rfl ?_ ?_
          rotate_left
          · rintro _ _ ⟨_, hm, -, -⟩
            cases e1.symm.trans hm
          rintro _ _ ⟨_, _, _, hm, rfl, rfl⟩
          cases e1.symm.trans hm
          refine p_val rfl (ev_cmp rfl rfl rfl) .free rfl rfl ?_
          refine p_nil ?_
          refine go_sub (σ' := [(109, _), (48, _), (47, _), (46, _), (11, _), (43, _), (42, _), (10, _), (9, _), (8, _), (7, _), (6, _), (1, _)]) ⟨rfl, rfl, rfl, rfl, rfl, rfl, rfl, rfl, rfl, rfl, rfl, rfl, rfl, trivial⟩ ?_
          refine g_iff rfl (rfl) ?_
          refine g_skip ?_
          refine g_region ?_
          first | refine p_val rfl (ev_add rfl rfl (wr64 (by omega))) .free rfl rfl ?_ | refine p_val rfl (ev_add rfl rfl rfl) .free rfl rfl ?_
          refine p_val rfl (ev_move rfl) .free rfl rfl ?_
          refine p_nil ?_
          first
          | exact fun a w st => ⟨⟨j + 1, s2, S2, js2, _⟩, ⟨by simp only; omega, hW2 _⟩, by simp only; omega, st.to ⟨rfl, rfl, rfl, rfl, rfl, rfl, rfl, rfl, rfl, rfl, rfl, rfl, trivial⟩ id⟩
          | exact fun a w st => ⟨⟨j + 1, s1, _, js, E⟩, ⟨by simp only; omega, ⟨hW.inn, hW.d, hW.ff, hW.keys, hW.vals⟩⟩, by simp only; omega, st.to ⟨rfl, rfl, rfl, rfl, rfl, rfl, rfl, rfl, rfl, rfl, rfl, rfl, trivial⟩ id⟩
      · have hj : ¬ j < xs.length := by simpa using h49
        refine g_exit ?_
        refine g_region ?_
        first | refine p_val rfl (ev_add rfl rfl (wr64 (by omega))) .free rfl rfl ?_ | refine p_val rfl (ev_add rfl rfl rfl) .free rfl rfl ?_
        refine p_val rfl (ev_move rfl) .free rfl rfl ?_
        refine p_nil ?_
        exact fun a w st => ⟨⟨k + 1, s1, _, js, E⟩, ⟨by simp only; omega, ⟨hW.inn, hW.d, hW.ff, hW.keys, hW.vals⟩⟩, by simp only; omega, st.to ⟨rfl, rfl, rfl, rfl, rfl, rfl, rfl, rfl, trivial⟩ id⟩
    · have hk : ¬ (k : Int) < 1 + tm % 3 := by simpa using h44
      refine g_exit ?_
      refine g_seq ?_
      refine g_seq ?_
      refine g_region ?_
      refine p_val rfl (ev_move rfl) .free rfl rfl ?_
      refine p_chg rfl (ch_range Try.runUnderlying36 rfl) .free rfl rfl ?_
      rintro _ _ ⟨it, rfl, rfl⟩
      refine p_nil ?_
      refine go_sub (σ' := [(113, _), (10, _), (8, _), (7, _), (6, _)]) ⟨rfl, rfl, rfl, rfl, rfl, trivial⟩ ?_
      refine g_block ?_
      obtain ⟨⟨d0, c1, p1, n1⟩, f1, t1, se1, di1⟩ := S1
      have hd0 : bd = d0 := hW.d.symm
      subst hd0
      refine g_loop (ι := List (Int × Int)) (fun d => d.length ≤ E1.length) (fun d => [(6, .bool false), (7, ptr bd), (8, ptr bs), (10, .map (some bq)), (113, .pointer (some ⟨it, 0, none⟩))]) (fun done => SecO bs ⟨⟨bd, c1, p1, n1⟩, f1, t1, se1, di1⟩ :: DevA bd s1 :: iterA .i64 intE bq it E1 done :: row bm [i64 c.log, i64 c.roots, i64 c.space, .slice (some ⟨bc, 0, none⟩) (s0.n - c.active.toNat) ((s0.n - c.active.toNat) + rest.length), .slice none 0 0, .slice none 0 0, .bool false, i64 0, i64 0] 42 :: row bc (tab (s0.n - c.active.toNat) (fun i => w64 (s0.now (c.active.toNat + i))) ++ rest) 46 :: row b3 [u16 l, u16 r, u16 s] 24 :: Fr) (fun d => E1.length - d.length) [] (Nat.zero_le _) (fun a w st => st.to ⟨rfl, rfl, rfl, rfl, rfl, trivial⟩ id) ?_
      intro done hdone
      refine g_seq ?_
      refine g_region ?_
      refine p_chg rfl (ch_next rfl) .free rfl rfl ?_
      rintro _ _ ⟨bb0, vs, done', rfl, hvs, rfl, hno, hyes⟩
      refine p_val rfl (ev_ext rfl hvs) .free rfl rfl ?_
      refine p_nil ?_
      refine g_seq ?_
      refine g_if rfl (fun h115 => ?_) (fun h115 => ?_)
      · obtain ⟨pp, hpl, hpn, rfl⟩ := hyes h115
        refine go_iter it fun hl' hd' hsub => ?_
        obtain ⟨hv1, hv2, hv3⟩ := hW.vals pp hpl
        have hpk : pp.1 ∈ js1.map (fun (j : Nat) => (j : Int)) := by rw [← hW.keys]; exact List.mem_map_of_mem hpl
        obtain ⟨jj, hjj, hje⟩ := List.mem_map.1 hpk
        obtain ⟨mm, hmm, hme⟩ := List.mem_iff_getElem.1 hjj
        have hrr := (hW.inn.recs mm hmm).2.2
        rw [hme] at hrr
        have hsn : s1.n = s0.n := hW.inn.n
        have hv1 : s1.now pp.1.toNat = pp.2 := hv1
        have hld : (s1.load pp.1 != pp.2) = false := by
          rw [load_nat (k := jj) hje (by omega), show jj = pp.1.toNat by omega, hv1]
          simp
        refine g_skip ?_
        refine g_block ?_
        refine g_seq ?_
        refine g_region ?_
        refine p_val rfl (ev_entry (p0 := pp) (dn := done) rfl) .free rfl rfl ?_
        refine p_val rfl (ev_ext rfl rfl) .free rfl rfl ?_
        refine p_val rfl (ev_ext rfl rfl) .free rfl rfl ?_
        refine p_val rfl (ev_assign rfl) .free rfl rfl ?_
        refine p_val rfl (ev_assign rfl) .free rfl rfl ?_
        refine p_nil ?_
        refine g_seq ?_
        refine g_region ?_
        refine p_val rfl (ev_move rfl) .free rfl rfl ?_
        refine p_val rfl (ev_move rfl) .free rfl rfl ?_
        refine p_callq rfl (en_f Try.call15 rfl) (ro_at (q := DevA) (fun Fr => nload_ok _ Fr _ _ _)) .free rfl rfl ?_
        refine p_val rfl (ev_move rfl) .free rfl rfl ?_
        refine p_val rfl (ev_conv Try.runUnderlying3 Try.runUnderlying46 rfl (wru64 (by omega))) .free rfl rfl ?_
        refine p_val rfl (ev_cmp rfl rfl rfl) .free rfl rfl ?_
        refine p_nil ?_
        refine go_sub (σ' := [(124, _), (113, _), (10, _), (8, _), (7, _), (6, _)]) ⟨rfl, rfl, rfl, rfl, rfl, rfl, trivial⟩ ?_
        refine g_iff rfl (hld) ?_
        refine g_skip ?_
        have hle := iter_le hd' hsub
        exact fun a w st => ⟨done ++ [pp], by simp; omega, by simp; omega, st.to ⟨rfl, rfl, rfl, rfl, rfl, trivial⟩ id⟩
      · obtain ⟨rfl, hall⟩ := hno h115
        refine go_conv (fun w hh => hh.iter_end it) ?_
        refine g_exit ?_
        refine g_seq ?_
        refine g_region ?_
        obtain ⟨s9, e9, y1, y2, y3, y4, y5⟩ := in_commit hW.inn hc
        have hsh := shut_w hW.inn.logw
        have hlen1 : (n1 == (E1.length : Int)) = true := by
          have h1 : n1 = js1.length := hW.inn.ln
          have h2 : E1.length = js1.length := hW.len
          rw [h1, h2]; simp
        refine go_pull SecO bs ?_
        refine go_conv (H' := SecX true bs _ :: _) (fun w hh => hh) ?_
        refine go_secX fun bl m1 m2 => ?_
        refine p_val rfl (ev_move rfl) .free rfl rfl ?_
        first | refine p_val rfl (ev_nil rfl) .free rfl rfl ?_ | refine p_val rfl (ev_nilf rfl) .free rfl rfl ?_
        refine p_val rfl (ev_fa (m := _) fa_51_0 rfl rfl) .free rfl rfl ?_
        refine p_val rfl (ev_load Try.isAgg48 rfl rfl) .free rfl rfl ?_
        refine p_callq rfl (en_f Try.call16 rfl) (ro_at (q := LogA) (fun Fr => llen_ok _ Fr _ _)) .free rfl rfl ?_
        refine p_val rfl (ev_move rfl) .free rfl rfl ?_
        refine p_val rfl (ev_lenM rfl Try.runUnderlying36 rfl) .free rfl rfl ?_
        refine p_val rfl (ev_cmp rfl rfl rfl) .free rfl rfl ?_
        refine p_val rfl (ev_move rfl) .free rfl rfl ?_
        refine go_conv (H' := SecO bs _ :: _) (fun w hh => secX_holds (o := true) hh) ?_
        refine p_val rfl (ev_move rfl) (.on rfl rfl (beq_eq hlen1)) rfl rfl ?_
        refine go_pull DevA bd ?_
        refine go_pull SecO bs ?_
        refine p_call rfl (en_f Try.call17 rfl) (scommitO_ok _ _ _ _ _ (in_secw hW.inn hc hN) (dirty_len hW.inn hc hN)) (.on rfl rfl (beq_eq hlen1)) rfl rfl ?_ ?_
        rotate_left
        · rintro _ _ ⟨_, hm, -, -⟩
          cases e9.symm.trans hm
        rintro _ _ ⟨_, _, hm, rfl, rfl⟩
        cases e9.symm.trans hm
        refine p_val rfl (ev_cmp rfl rfl rfl) (.on rfl rfl (beq_eq hlen1)) rfl rfl ?_
        refine p_val rfl (ev_pick_t rfl hlen1 rfl) .free rfl rfl ?_
        refine p_val rfl (ev_move rfl) .free rfl rfl ?_
        refine go_conv (H' := SecX false bs _ :: _) (fun w hh => hh) ?_
        refine go_secX fun bl2 m3 m4 => ?_
        refine p_val rfl (ev_move rfl) (.on rfl rfl (beq_eq rfl)) rfl rfl ?_
        first | refine p_val rfl (ev_nil rfl) (.on rfl rfl (beq_eq rfl)) rfl rfl ?_ | refine p_val rfl (ev_nilf rfl) (.on rfl rfl (beq_eq rfl)) rfl rfl ?_
        refine p_val rfl (ev_fa (m := _) fa_51_0 rfl rfl) (.on rfl rfl (beq_eq rfl)) rfl rfl ?_
        refine p_val rfl (ev_load Try.isAgg48 rfl rfl) (.on rfl rfl (beq_eq rfl)) rfl rfl ?_
        refine p_callq rfl (en_f Try.call16 rfl) (ro_at (q := LogA) (fun Fr => llen_ok _ Fr _ _)) (.on rfl rfl (beq_eq rfl)) rfl rfl ?_
        refine p_val rfl (ev_cmp rfl rfl rfl) (.on rfl rfl (beq_eq rfl)) rfl rfl ?_
        refine p_val rfl (ev_pick_t rfl rfl rfl) .free rfl rfl ?_
        refine p_val rfl (ev_assign rfl) .free rfl rfl ?_
        refine p_nil ?_
        refine go_sub (σ' := [(6, _)]) ⟨rfl, trivial⟩ ?_
        refine g_ret ?_
        exact ret_tmp Try.results3 rfl (fun w hh => ⟨by simp [hsh.2.1], hh.tail.tail.tail.tail.tail.tail.tail.tail⟩)


theorem sectionOnce_walk (W : World) (z : Int × Int × Int) (w0 : (Lit.int .u16 z.1).wf = true ∧ (Lit.int .u16 z.2.1).wf = true ∧ (Lit.int .u16 z.2.2).wf = true) {l : Option Addr} {len cap : Nat} {xs : List Int} (w1 : len = xs.length ∧ len ≤ 9223372036854775807 ∧ ArgRow W l len 1 (fun i => [u16 (xs.getD i 0)]) ∧ ∀ x ∈ xs, 0 ≤ x ∧ x ≤ 65535) (tm : Int) (wf : (Lit.int .u8 tm).wf = true) :
    Calls Try.prog 3 #[.agg #[u16 z.1, u16 z.2.1, u16 z.2.2], .slice l len cap, .int .u8 tm] W fun e w' => e = .returned (.bool true) ∧ RowKit.Below W.heap.size W w' := by
  have b0 := bounds_u16 w0.1
  have b1 := bounds_u16 w0.2.1
  have b2 := bounds_u16 w0.2.2
  have b3 := bounds_u8 wf
  obtain ⟨rfl, w3, w4, w5⟩ := w1
  exact law_of (sectionOnce_ok W [old W] z.1 z.2.1 z.2.2 (by omega) (by omega) (by omega) l cap xs w3 (some_u64 w4) (slr_u16 w4) w5 tm (by omega))

namespace sectionOnce
open Go.ChangeShapes Go.WideShapes Go.ChangeAt Go.RowKit
set_option maxRecDepth 100000 in
theorem lifted (os : Os) (started : os.Started) (H : Type) (enc : TypeId × Value → H) :
    ReturnsInHanded {} Try.checked os 3 .any (Rows.sectionOnceSpec.pre6 enc Try.prog Try.f3 Rows.sectionOnceRow.domain false) (Rows.sectionOnceSpec.post enc Try.prog Try.f3 false true false false) := by
  refine returnsInHanded_of_change (C := Try.checked) Try.ownKnobs started (by kernel_rfl) Try.func3
    (ChangeSpec.witness6 (enc := enc) (C := Try.checked) false ⟨#[], #[.agg #[.int .u16 0, .int .u16 0, .int .u16 0], .slice none 0 0, .int .u8 0], []⟩ 8 (by kernel_rfl) (by kernel_rfl) (by kernel_rfl) (by kernel_rfl)) ?_
  intro W base args ds gs before hval0 hW hcnd _
  have hval : ∀ (j : Nat) t v, Try.f3.params[j]? = some t → args[j]? = some v → Value.okWide Try.prog W .any base t v := hval0
  have hW' := hW
  obtain ⟨p, q, hA0, hV, rfl, hfz, hnd⟩ := hW
  have hA : DataW.TrodAll enc Try.prog W 0 (fun _ => true) true Try.f3.params.toList args.toList ds p := hA0
  rw [Try.params3] at hA hval
  obtain ⟨v0, vs0, d0, ds0, p0, q0, hargs, rfl, rfl, h0, r0⟩ := trodAll_cons hA
  obtain ⟨v1, vs1, d1, ds1, p1, q1, rfl, rfl, rfl, h1, r1⟩ := trodAll_cons r0
  obtain ⟨v2, vs2, d2, ds2, p2, q2, rfl, rfl, rfl, h2, r2⟩ := trodAll_cons r1
  obtain ⟨rfl, rfl, rfl⟩ := trodAll_nil r2
  obtain rfl : args = #[v0, v1, v2] := by cases args; simp_all
  obtain ⟨rfl, rfl⟩ := trodVars_none hV
  have k0 := h0
  have lt0 : ∀ x ∈ p0, x.block < W.heap.size := by obtain ⟨m, hm⟩ := k0; exact DataW.trod_lt m _ _ _ hm
  obtain ⟨z0, rfl, w0⟩ := arg_st_u16_u16_u16 (hval 0 24 v0 rfl rfl) h0
  obtain ⟨a1, len1, cap1, rfl⟩ := okWide_slice Try.underlying25 (hval 1 25 v1 rfl rfl)
  have k1 := h1
  have lt1 : ∀ x ∈ p1, x.block < W.heap.size := by obtain ⟨m, hm⟩ := k1; exact DataW.trod_lt m _ _ _ hm
  obtain ⟨z1, w1⟩ := arg_sl_u16 h1
  have k2 := h2
  have lt2 : ∀ x ∈ p2, x.block < W.heap.size := by obtain ⟨m, hm⟩ := k2; exact DataW.trod_lt m _ _ _ hm
  obtain ⟨a2, rfl, w2⟩ : ∃ a, v2 = .int .u8 a ∧ (Lit.int .u8 a).wf = true := by
    obtain ⟨a, e, _, _, wa⟩ := open_int Try.underlying5 (hval 2 5 v2 rfl rfl) h2
    exact ⟨a, e, wa⟩
  clear hA0 hval0
  refine (sectionOnce_walk W z0 w0 w1 a2 w2).mono fun e W' ⟨he, bel⟩ => ?_
  subst he
  exact ⟨_, rfl, _, _, _, [], _, [], hW', trodAll_mk1 (shut_bool Try.underlying4 _), (trodAll_cons_mk (Below.trod Try.laidOut (by kernel_rfl) (of_decide_eq_true (by kernel_rfl)) k0 bel lt0) (trodAll_cons_mk (Below.trod Try.laidOut (by kernel_rfl) (of_decide_eq_true (by kernel_rfl)) k1 bel lt1) (trodAll_cons_mk (Below.trod Try.laidOut (by kernel_rfl) (of_decide_eq_true (by kernel_rfl)) k2 bel lt2) trodAll_mk0))), rfl, bel.frame _, fun h => by cases h⟩
theorem over : Rows.sectionOnceRow.holds Try.pinned (OpenSpec.ofChange Rows.sectionOnceSpec) :=
  OpenClaim.holds_of_wide 3 Try.f3 rfl rfl rfl rfl rfl rfl rfl ⟨rfl, rfl, rfl, rfl, rfl⟩ rfl rfl rfl rfl rfl (by kernel_rfl) Try.func3 (by kernel_rfl)
    (of_decide_eq_true (by kernel_rfl)) (by unfold Func.isWrapper; first | (rw [if_pos (by decide +kernel)]; kernel_rfl) | (rw [if_neg (by decide +kernel)]; exact ⟨rfl, rfl⟩))
    (fun os started H enc _ => lifted os started H enc)
/-- The statement. -/
theorem proved : Rows.SectionOnceSaid := over
end sectionOnce

end Go.Proofs.Ytbhpbnedocdneaa
