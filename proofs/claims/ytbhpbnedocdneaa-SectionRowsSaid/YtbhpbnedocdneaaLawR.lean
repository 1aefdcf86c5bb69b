/- The law SectionRows: the walk. Conditions: none. -/
import Derived.Test.YtbhpbnedocdneaaSin
import Derived.Test.YtbhpbnedocdneaaCho
import Derived.Test.YtbhpbnedocdneaaLawE
set_option linter.unusedSimpArgs false
set_option linter.unusedVariables false
set_option linter.unnecessarySimpa false
set_option linter.unusedSectionVars false
namespace Go.Proofs.Ytbhpbnedocdneaa
set_option linter.unusedSimpArgs false
set_option linter.unusedVariables false
open Go
theorem in_secw {kp : Prop} {c : Cfg} {N : Nat} {old : Nat → Int} {js : List Nat} {S : SecS} {s : Dev} (h : In kp c N old js S s) (hc : CfgW c) (hN : N ≤ 1000000) : SecW S := ⟨h.logw, fun p hp => by
  have := h.dirty p.1 (List.mem_map_of_mem hp)
  have := hc.act
  have := hc.r1
  have := hc.l1
  omega⟩
theorem tabset {n k : Nat} {f : Nat → Int} {v : Int} {rest : List Value} (h : k < n) : (tab n (fun i => w64 (f i)) ++ rest).set k (w64 v) = tab n (fun i => w64 (upd f k v i)) ++ rest := by
  rw [List.set_append_left _ _ (by rw [tab_len]; exact h), tab_set]
  congr 1
  refine tab_congr fun i _ => ?_
  simp only [upd]; split <;> rfl
theorem upd_twice {f : Nat → Int} {i j : Nat} {v : Int} (h : i = j) : upd (upd f j v) i v = upd f j v := by
  subst h; funext x; simp only [upd]; split <;> rfl
theorem rows_ends (B : World) (H : List HP) (b1 b2 o c1 c2 n N : Nat) (r1 r2 : List Value) (T1 T2 : TypeId) {U1 U2 : List Value → List HP} (f g : Nat → Int) (hn : n ≤ 1000000) (hN : o + n = N) [RowU H b1 (tab N (fun i => w64 (f i)) ++ r1) T1 U1] [RowU H b2 (tab N (fun i => w64 (g i)) ++ r2) T2 U2] (h : ∀ x, o ≤ x → x < N → f x = g x) :
    ∀ w, Holds B H w → Calls Try.prog 26 [.slice (some ⟨b1, o, none⟩) n c1, .slice (some ⟨b2, o, none⟩) n c2].toArray w (PureR B H (.bool true)) := by
  have s1 : ∀ (h : Nat → Int) (r : List Value), ((tab N (fun i => w64 (h i)) ++ r).drop o).take n = (tab n fun j => w64 (h (o + j))) := fun h r => by
    rw [List.drop_append_of_le_length (by rw [tab_len]; omega), List.take_append_of_le_length (by rw [List.length_drop, tab_len]; omega), tab_slice (by omega)]
  have h0 := equal_ok B H (some ⟨b1, o, none⟩) (some ⟨b2, o, none⟩) c1 c2 (tab n fun j => f (o + j)) (tab n fun j => g (o + j)) (by rw [tab_len]; exact hn) (by rw [tab_len]; exact hn) (fun _ _ => ⟨_, _, rfl⟩) (fun _ _ => ⟨_, _, rfl⟩)
  rw [tab_len, tab_len, tab_map, tab_map] at h0
  have h1 := h0 (SlR.row (s1 f r1) (tab_len _ _)) (SlR.row (s1 g r2) (tab_len _ _))
  rwa [decide_eq_true (tab_congr fun i hi => h _ (by omega) (by omega))] at h1


structure RowsI where
  k : Nat
  s : Dev
  S : SecS
  m : Nat → Int
structure RowsW (c : Cfg) (n bd N : Nat) (i : RowsI) : Prop where
  k : i.k ≤ n
  calm : Calm i.s
  lim : i.s.pow.lim < 0
  n : i.s.n = N
  sc : i.S.L.c = c
  sd : i.S.L.d = bd
  w : LogW i.S.L
  l0 : i.S.L.n = 0
  m : ∀ x : Nat, c.active ≤ x → x < N → i.m x = i.s.now x

theorem sectionRows_ok (B : World) (Fr : List HP) [HasOld Fr B] (l r s : Int) (hl : 0 ≤ l) (hr : 0 ≤ r) (hs : 0 ≤ s) (q : Option Addr) (len cap : Nat) (P Q : Nat → Int) (hlen : len ≤ 9223372036854775807) (hPQ : ∀ i, i < len → 0 ≤ P i ∧ P i ≤ 65535 ∧ 0 ≤ Q i ∧ Q i ≤ 65535) (ha : ArgRow B q len 2 (fun i => [u16 (P i), u16 (Q i)])) (bits : Int) :
    ∀ w, Holds B Fr w → Calls Try.prog 5 [.agg #[u16 l, u16 r, u16 s], .slice q len cap, w64 bits].toArray w (PureR B Fr (.bool true)) := by
  refine fn_enter Try.func5 rfl Try.ntmps5 rfl ?_
  obtain ⟨c, hcm⟩ : ∃ c, c = mkC l r s := ⟨_, rfl⟩
  have hc : CfgW c := by rw [hcm]; exact mkC_w hl hr hs
  have hact := hc.act
  have hwb := words_b hc
  have hal := act_lt hc
  have hact16 : 24 ≤ c.active := by have := hc.r1; have := hc.l1; omega
  refine g_seq ?_
  refine g_region ?_
  refine p_chg rfl (ch_boxA rfl) .free rfl rfl ?_
  rintro _ _ ⟨b3, rfl, rfl⟩
  refine p_chg rfl (ch_box1 rfl rfl) .free rfl rfl ?_
  rintro _ _ ⟨b5, rfl, rfl⟩
  refine p_val rfl (ev_assign rfl) .free rfl rfl ?_
  refine p_nil ?_
  refine g_seq ?_
  refine g_seq ?_
  refine g_region ?_
  refine p_callq rfl (en_f Try.call9 rfl) (awake7_ok _ _) .free rfl rfl ?_
  refine p_val rfl (ev_not rfl) .free rfl rfl ?_
  refine p_nil ?_
  refine g_iff rfl (rfl) ?_
  refine g_skip ?_
  refine g_seq ?_
  refine g_seq ?_
  refine g_region ?_
  refine p_val rfl (ev_move rfl) .free rfl rfl ?_
  refine p_val rfl (ev_len rfl Try.runUnderlying60 ⟨_, rfl⟩ rfl) .free rfl rfl ?_
  refine p_val rfl (ev_cmp rfl rfl rfl) .free rfl rfl ?_
  refine p_nil ?_
  refine g_if rfl (fun h19 => ?_) (fun h19 => ?_)
  · try simp only [decide_eq_true_eq, decide_eq_false_iff_not, Bool.not_eq_true', Bool.not_eq_false', Bool.or_eq_true, Bool.and_eq_true, Bool.and_eq_false_iff, Bool.or_eq_false_iff, beq_iff_eq, bne_iff_ne, beq_eq_false_iff_ne, bne_eq_false_iff_eq, ge_iff_le, gt_iff_lt, ne_eq] at h19
    refine g_seq ?_
    refine g_region ?_
    refine p_val rfl (ev_assign rfl) .free rfl rfl ?_
    refine p_nil ?_
    refine go_sub (σ' := [(6, _), (5, _), (3, _), (1, _)]) ⟨rfl, rfl, rfl, rfl, trivial⟩ ?_
    refine g_ret ?_
    exact ret_tmp Try.results5 rfl (fun w hh => ⟨rfl, hh.tail.tail⟩)
  · have hx : len ≤ 30 := by simp at h19; omega
    refine g_skip ?_
    refine g_seq ?_
    refine g_region ?_
    refine p_val rfl (ev_loadA Try.isAgg24 Try.sizeOf24 rfl rfl) .free rfl rfl ?_
    refine p_call rfl (en_f Try.call10 rfl) (start_ok _ _ l r s hl hr hs c hcm none 0 [] (by decide) (fun i hi => absurd hi (Nat.not_lt_zero _)) SlR.nil) .free rfl rfl ?_ ?_
    rotate_left
    · rintro _ _ ⟨⟩
    rintro _ _ ⟨bd, bs, bm, bc, s0, rest, hf, hn, rfl, rfl⟩
    refine p_val rfl (ev_move rfl) .free rfl rfl ?_
    refine p_val rfl (ev_ext rfl rfl) .free rfl rfl ?_
    refine p_val rfl (ev_ext rfl rfl) .free rfl rfl ?_
    refine p_val rfl (ev_ext rfl rfl) .free rfl rfl ?_
    refine p_val rfl (ev_assign rfl) .free rfl rfl ?_
    refine p_val rfl (ev_assign rfl) .free rfl rfl ?_
    refine p_val rfl (ev_assign rfl) .free rfl rfl ?_
    refine p_nil ?_
    refine go_sub (σ' := [(9, _), (8, _), (7, _), (6, _), (5, _), (1, _)]) ⟨rfl, rfl, rfl, rfl, rfl, rfl, trivial⟩ ?_
    refine g_seq ?_
    refine g_seq ?_
    refine g_region ?_
    refine p_val rfl (ev_move rfl) .free rfl rfl ?_
    refine p_val rfl (ev_eqp Try.runUnderlying27 rfl rfl rfl) .free rfl rfl ?_
    refine p_nil ?_
    refine g_iff rfl (rfl) ?_
    refine g_skip ?_
    refine g_seq ?_
    refine g_region ?_
    have hN : s0.n ≤ 1000000 := by omega
    refine go_front 3 rfl ?_
    simp only [List.eraseIdx_cons_succ, List.eraseIdx_cons_zero]
    refine p_val rfl (ev_move rfl) .free rfl rfl ?_
    refine p_val rfl (ev_move rfl) .free rfl rfl ?_
    first | refine p_val rfl (ev_nil rfl) .free rfl rfl ?_ | refine p_val rfl (ev_nilf rfl) .free rfl rfl ?_
    refine p_val rfl (ev_fa (m := _) fa_42_0 rfl rfl) .free rfl rfl ?_
    refine p_val rfl (ev_loadA Try.isAgg38 Try.sizeOf38 rfl rfl) .free rfl rfl ?_
    refine p_call rfl (en_f Try.call21 rfl) (words7_ok _ _ _ _ c hc hn) .free rfl rfl ?_ ?_
    rotate_left
    · rintro _ _ ⟨⟩
    rintro _ _ ⟨bw2, rest2, rfl, rfl⟩
    refine p_val rfl (ev_assign rfl) .free rfl rfl ?_
    refine p_nil ?_
    refine go_sub (σ' := [(10, _), (9, _), (8, _), (7, _), (6, _), (5, _), (1, _)]) ⟨rfl, rfl, rfl, rfl, rfl, rfl, rfl, trivial⟩ ?_
    refine g_seq ?_
    refine g_seq ?_
    refine g_region ?_
    simp only [hf.log]
    refine go_front 4 rfl ?_
    simp only [List.eraseIdx_cons_succ, List.eraseIdx_cons_zero]
    refine p_val rfl (ev_move rfl) .free rfl rfl ?_
    refine p_val rfl (ev_len rfl Try.runUnderlying60 ⟨_, rfl⟩ rfl) .free rfl rfl ?_
    refine p_val rfl (ev_move rfl) .free rfl rfl ?_
    refine p_nil ?_
    refine g_block ?_
    refine g_loop (ι := RowsI) (RowsW c len bd s0.n) (fun i => [(7, ptr bd), (8, ptr bs), (9, ptr bm), (10, .slice (some ⟨bw2, c.active.toNat, none⟩) (s0.n - c.active.toNat) (s0.n + rest2.length - c.active.toNat)), (5, ptr b5), (6, .bool false), (34, .slice q len cap), (35, i64 len), (36, i64 i.k)]) (fun i => SecC bs i.S :: DevA bd i.s :: row bw2 (tab s0.n (fun x => w64 (i.m x)) ++ rest2) 46 :: row bm [i64 c.log, i64 c.roots, i64 c.space, .slice (some ⟨bc, 0, none⟩) (s0.n - c.active.toNat) ((s0.n - c.active.toNat) + rest.length), .slice none 0 0, .slice none 0 0, .bool false, i64 0, i64 0] 42 :: row bc (tab (s0.n - c.active.toNat) (fun i => w64 (s0.now (c.active.toNat + i))) ++ rest) 46 :: row b5 [w64 bits] 46 :: row b3 [u16 l, u16 r, u16 s] 24 :: Fr) (fun i => len - i.k) ⟨0, s0, ⟨⟨bd, c, 1, 0⟩, 0, 0, [], []⟩, s0.now⟩ ⟨Nat.zero_le _, hf.calm, hf.lim, rfl, rfl, rfl, ⟨hc, show (0 : Int) ≤ 1 by decide, show (1 : Int) < 4294967296 by decide, show (0 : Int) ≤ 0 by decide, by have := hc.l1; have := hc.r1; show (0 : Int) ≤ c.log; omega⟩, rfl, fun _ _ _ => rfl⟩ (fun a w st => st.to ⟨rfl, rfl, rfl, rfl, rfl, rfl, rfl, rfl, rfl, trivial⟩ (fun hh => hh.front 1 rfl |>.front 2 rfl |>.front 2 rfl)) ?_
    rintro ⟨k, s, ⟨⟨d0, c0, p0, n0⟩, f0, t0, se0, di0⟩, m⟩ hw
    have hdd0 : bd = d0 := hw.sd.symm
    subst hdd0
    have hwk : k ≤ len := hw.k
    have hwn : s.n = s0.n := hw.n
    simp only
    refine g_seq ?_
    refine g_region ?_
    refine p_val rfl (ev_cmp rfl rfl rfl) .free rfl rfl ?_
    refine p_nil ?_
    refine g_seq ?_
    refine g_if rfl (fun h37 => ?_) (fun h37 => ?_)
    · have hk : k < len := by simpa using h37
      refine g_skip ?_
      refine g_seq ?_
      refine g_block ?_
      refine g_seq ?_
      refine g_region ?_
      refine p_val rfl (ev_move rfl) .free rfl rfl ?_
      obtain ⟨bq, oq, rfl, hz, hq⟩ := ha.cell k hk
      refine p_val rfl (ev_ia Try.runUnderlying60 Try.sizeOf62 rfl rfl (by omega) (by omega) rfl) .free rfl rfl ?_
      refine p_val rfl (ev_loadOA (cs := [u16 (P k), u16 (Q k)]) Try.isAgg62 Try.sizeOf62 rfl rfl (fun j hj => by rw [Int.toNat_natCast, Nat.add_assoc]; exact hq j hj)) .free rfl rfl ?_
      refine p_chg rfl (ch_allocA Try.zeroValue62 rfl) .free rfl rfl ?_
      rintro _ _ ⟨b12, rfl, rfl⟩
      refine p_val rfl (ev_assign rfl) .free rfl rfl ?_
      refine p_chg0 rfl (ch_storeA (vs := _) Try.sizeOf62 rfl rfl rfl rfl rfl) .free rfl ?_
      rintro _ _ rfl
      refine p_nil ?_
      refine g_seq ?_
      refine g_seq ?_
      refine g_region ?_
      refine go_front 1 rfl ?_
      simp only [List.eraseIdx_cons_succ, List.eraseIdx_cons_zero]
      refine p_val rfl (ev_move rfl) .free rfl rfl ?_
      refine p_val rfl (ev_build rfl (bld_35)) .free rfl rfl ?_
      refine p_call rfl (en_f Try.call11 rfl) (sbeginC_ok _ _ _ _ _ _) .free rfl rfl ?_ ?_
      rotate_left
      · rintro _ _ ⟨⟩
      rintro _ _ ⟨rfl, rfl⟩
      have hA0 := in_begin (kp := True) (f := 0) (t := 0) ⟨hw.lim, hw.calm.q⟩ (fun _ => hw.calm.kept) hw.n hn hw.sc hw.w hw.l0
      have hB0 : NoF [] { (⟨⟨bd, c0, p0, n0⟩, f0, t0, se0, di0⟩ : SecS) with ff := 0, ft := 0, seen := [], dirty := [] } := fun k hk => by simp at hk
      have hnw : ((s0.n - c.active.toNat : Nat) : Int) ≠ 0 := by omega
      obtain ⟨b1, b2, b3', b4'⟩ := hPQ k hk
      obtain ⟨i1, hi1, hj1⟩ : ∃ i1 : Nat, (P k).tmod ((s0.n - c.active.toNat : Nat) : Int) = (i1 : Int) ∧ i1 < s0.n - c.active.toNat := by
        have h1 := Int.tmod_nonneg ((s0.n - c.active.toNat : Nat) : Int) b1
        have h2 := Int.tmod_lt_of_pos (P k) (show (0 : Int) < ((s0.n - c.active.toNat : Nat) : Int) by omega)
        exact ⟨((P k).tmod ((s0.n - c.active.toNat : Nat) : Int)).toNat, by omega, by omega⟩
      obtain ⟨i2, hi2, hj2⟩ : ∃ i1 : Nat, (Q k).tmod ((s0.n - c.active.toNat : Nat) : Int) = (i1 : Int) ∧ i1 < s0.n - c.active.toNat := by
        have h1 := Int.tmod_nonneg ((s0.n - c.active.toNat : Nat) : Int) b3'
        have h2 := Int.tmod_lt_of_pos (Q k) (show (0 : Int) < ((s0.n - c.active.toNat : Nat) : Int) by omega)
        exact ⟨((Q k).tmod ((s0.n - c.active.toNat : Nat) : Int)).toNat, by omega, by omega⟩
      refine p_val rfl (ev_cmp rfl rfl rfl) .free rfl rfl ?_
      refine p_nil ?_
      refine go_sub (σ' := [(44, _), (11, _), (12, _), (36, _), (35, _), (34, _), (10, _), (9, _), (8, _), (7, _), (6, _), (5, _)]) ⟨rfl, rfl, rfl, rfl, rfl, rfl, rfl, rfl, rfl, rfl, rfl, rfl, trivial⟩ ?_
      refine g_iff rfl (rfl) ?_
      refine g_skip ?_
      refine g_seq ?_
      refine g_region ?_
      refine p_val rfl (ev_iaA (m := 0) Try.runUnderlying62 Try.sizeOf22 rfl rfl (by decide) (by decide) (by decide)) .free rfl rfl ?_
      refine p_val rfl (ev_load Try.isAgg22 rfl rfl) .free rfl rfl ?_
      first | refine p_val rfl (ev_conv Try.runUnderlying22 Try.runUnderlying3 rfl (wr64 (by omega))) .free rfl rfl ?_ | refine p_val rfl (ev_conv Try.runUnderlying22 Try.runUnderlying3 rfl rfl) .free rfl rfl ?_
      refine p_val rfl (ev_move rfl) .free rfl rfl ?_
      refine p_val rfl (ev_len rfl Try.runUnderlying39 ⟨_, rfl⟩ rfl) .free rfl rfl ?_
      refine p_val rfl (ev_rem (c := (i1 : Int)) rfl rfl (by omega) hi1) .free rfl rfl ?_
      refine p_val rfl (ev_assign rfl) .free rfl rfl ?_
      refine p_nil ?_
      refine go_sub (σ' := [(13, _), (11, _), (12, _), (36, _), (35, _), (34, _), (10, _), (9, _), (8, _), (7, _), (6, _), (5, _)]) ⟨rfl, rfl, rfl, rfl, rfl, rfl, rfl, rfl, rfl, rfl, rfl, rfl, trivial⟩ ?_
      refine g_seq ?_
      refine g_region ?_
      refine p_val rfl (ev_iaA (m := 1) Try.runUnderlying62 Try.sizeOf22 rfl rfl (by decide) (by decide) (by decide)) .free rfl rfl ?_
      refine p_val rfl (ev_load Try.isAgg22 rfl rfl) .free rfl rfl ?_
      first | refine p_val rfl (ev_conv Try.runUnderlying22 Try.runUnderlying3 rfl (wr64 (by omega))) .free rfl rfl ?_ | refine p_val rfl (ev_conv Try.runUnderlying22 Try.runUnderlying3 rfl rfl) .free rfl rfl ?_
      refine p_val rfl (ev_move rfl) .free rfl rfl ?_
      refine p_val rfl (ev_len rfl Try.runUnderlying39 ⟨_, rfl⟩ rfl) .free rfl rfl ?_
      refine p_val rfl (ev_rem (c := (i2 : Int)) rfl rfl (by omega) hi2) .free rfl rfl ?_
      refine p_val rfl (ev_assign rfl) .free rfl rfl ?_
      refine p_nil ?_
      refine g_seq ?_
      refine g_seq ?_
      refine g_region ?_
      refine p_val rfl (ev_move rfl) .free rfl rfl ?_
      refine p_val rfl (ev_move rfl) .free rfl rfl ?_
      first | refine p_val rfl (ev_nil rfl) .free rfl rfl ?_ | refine p_val rfl (ev_nilf rfl) .free rfl rfl ?_
      refine p_val rfl (ev_fa (m := _) fa_42_0 rfl rfl) .free rfl rfl ?_
      refine p_val rfl (ev_loadA Try.isAgg38 Try.sizeOf38 rfl rfl) .free rfl rfl ?_
      refine p_callq rfl (en_f Try.call12 rfl) (active_ok _ _ c hc) .free rfl rfl ?_
      refine p_val rfl (ev_move rfl) .free rfl rfl ?_
      refine p_val rfl (ev_add (c := ((c.active.toNat + i1 : Nat) : Int)) rfl rfl (by rw [wr64 (by omega)]; omega)) .free rfl rfl ?_
      refine p_val rfl (ev_move rfl) .free rfl rfl ?_
      first | refine p_val rfl (ev_add rfl rfl (wr64 (by omega))) .free rfl rfl ?_ | refine p_val rfl (ev_add rfl rfl rfl) .free rfl rfl ?_
      first | refine p_val rfl (ev_conv Try.runUnderlying3 Try.runUnderlying46 rfl (wru64 (by omega))) .free rfl rfl ?_ | refine p_val rfl (ev_conv Try.runUnderlying3 Try.runUnderlying46 rfl rfl) .free rfl rfl ?_
      obtain ⟨S1, s1, js1, e1, h1, g1, z1, y1, l1, dl1, hdd1, v1, w1⟩ := in_store (kp := True) hA0 hc hB0 ⟨rfl, rfl⟩ (i := c.active.toNat + i1) ((k : Int) + 1) (by omega) (by have := hc.r1; have := hc.l1; simp; omega)
      obtain ⟨⟨d1, c1, p1, n1⟩, f1, t1, se1, di1⟩ := S1
      have hdd1 : bd = d1 := hdd1.symm
      subst hdd1
      refine go_front 2 rfl ?_
      simp only [List.eraseIdx_cons_succ, List.eraseIdx_cons_zero]
      refine go_front 1 rfl ?_
      simp only [List.eraseIdx_cons_succ, List.eraseIdx_cons_zero]
      refine p_call rfl (en_f Try.call14 rfl) (sstoreO_ok _ _ _ _ _ (in_secw hA0 hc hN) _ _) .free rfl rfl ?_ ?_
      rotate_left
      · rintro _ _ ⟨_, hm, -, -⟩
        cases e1.symm.trans hm
      rintro _ _ ⟨_, _, _, hm, rfl, rfl⟩
      cases e1.symm.trans hm
      refine p_val rfl (ev_cmp rfl rfl rfl) .free rfl rfl ?_
      refine p_val rfl (ev_move rfl) .free rfl rfl ?_
      refine p_val rfl (ev_move rfl) (.on rfl rfl (beq_eq rfl)) rfl rfl ?_
      refine p_val rfl (ev_move rfl) (.on rfl rfl (beq_eq rfl)) rfl rfl ?_
      first | refine p_val rfl (ev_nil rfl) (.on rfl rfl (beq_eq rfl)) rfl rfl ?_ | refine p_val rfl (ev_nilf rfl) (.on rfl rfl (beq_eq rfl)) rfl rfl ?_
      refine p_val rfl (ev_fa (m := _) fa_42_0 rfl rfl) (.on rfl rfl (beq_eq rfl)) rfl rfl ?_
      refine p_val rfl (ev_loadA Try.isAgg38 Try.sizeOf38 rfl rfl) (.on rfl rfl (beq_eq rfl)) rfl rfl ?_
      refine p_callq rfl (en_f Try.call12 rfl) (active_ok _ _ c hc) (.on rfl rfl (beq_eq rfl)) rfl rfl ?_
      refine p_val rfl (ev_move rfl) (.on rfl rfl (beq_eq rfl)) rfl rfl ?_
      refine p_val rfl (ev_add (c := ((c.active.toNat + i2 : Nat) : Int)) rfl rfl (by rw [wr64 (by omega)]; omega)) (.on rfl rfl (beq_eq rfl)) rfl rfl ?_
      refine p_val rfl (ev_move rfl) (.on rfl rfl (beq_eq rfl)) rfl rfl ?_
      first | refine p_val rfl (ev_add rfl rfl (wr64 (by omega))) (.on rfl rfl (beq_eq rfl)) rfl rfl ?_ | refine p_val rfl (ev_add rfl rfl rfl) (.on rfl rfl (beq_eq rfl)) rfl rfl ?_
      first | refine p_val rfl (ev_conv Try.runUnderlying3 Try.runUnderlying46 rfl (wru64 (by omega))) (.on rfl rfl (beq_eq rfl)) rfl rfl ?_ | refine p_val rfl (ev_conv Try.runUnderlying3 Try.runUnderlying46 rfl rfl) (.on rfl rfl (beq_eq rfl)) rfl rfl ?_
      obtain ⟨S2, s2, js2, e2, h2, g2, z2, y2, l2, dl2, hdd2, v2, w2⟩ := in_store (kp := True) h1 hc g1 ⟨z1, y1⟩ (i := c.active.toNat + i2) ((k : Int) + 2) (by omega) (by have := hc.r1; have := hc.l1; simp at l1; omega)
      obtain ⟨⟨d2, c2, p2, n2⟩, f2, t2, se2, di2⟩ := S2
      have hdd2 : bd = d2 := hdd2.symm
      subst hdd2
      
      refine p_call rfl (en_f Try.call14 rfl) (sstoreO_ok _ _ _ _ _ (in_secw h1 hc hN) _ _) (.on rfl rfl (beq_eq rfl)) rfl rfl ?_ ?_
      rotate_left
      · rintro _ _ ⟨_, hm, -, -⟩
        cases e2.symm.trans hm
      rintro _ _ ⟨_, _, _, hm, rfl, rfl⟩
      cases e2.symm.trans hm
      refine p_val rfl (ev_cmp rfl rfl rfl) (.on rfl rfl (beq_eq rfl)) rfl rfl ?_
      refine p_val rfl (ev_pick_f rfl rfl rfl) .free rfl rfl ?_
      refine p_nil ?_
      refine go_sub (σ' := [(84, _), (14, _), (13, _), (11, _), (12, _), (36, _), (35, _), (34, _), (10, _), (9, _), (8, _), (7, _), (6, _), (5, _)]) ⟨rfl, rfl, rfl, rfl, rfl, rfl, rfl, rfl, rfl, rfl, rfl, rfl, rfl, rfl, trivial⟩ ?_
      refine g_iff rfl (rfl) ?_
      refine g_skip ?_
      refine g_seq ?_
      refine g_seq ?_
      refine g_region ?_
      refine p_val rfl (ev_iaA (m := 1) Try.runUnderlying62 Try.sizeOf22 rfl rfl (by decide) (by decide) (by decide)) .free rfl rfl ?_
      refine p_val rfl (ev_load Try.isAgg22 rfl rfl) .free rfl rfl ?_
      first | refine p_val rfl (ev_rem rfl rfl (by decide) rfl) .free rfl rfl ?_ | refine p_val rfl (ev_rem rfl rfl (by omega) rfl) .free rfl rfl ?_
      refine p_val rfl (ev_cmp rfl rfl rfl) .free rfl rfl ?_
      refine p_nil ?_
      refine g_if rfl (fun h88 => ?_) (fun h88 => ?_)
      · try simp only [decide_eq_true_eq, decide_eq_false_iff_not, Bool.not_eq_true', Bool.not_eq_false', Bool.or_eq_true, Bool.and_eq_true, Bool.and_eq_false_iff, Bool.or_eq_false_iff, beq_iff_eq, bne_iff_ne, beq_eq_false_iff_ne, bne_eq_false_iff_eq, ge_iff_le, gt_iff_lt, ne_eq] at h88
        refine g_seq ?_
        refine g_seq ?_
        refine g_region ?_
        refine p_val rfl (ev_move rfl) .free rfl rfl ?_
        obtain ⟨s3, e3, y5, y6, y7, y8⟩ := in_abort h2 hc
        have hcalm := y8 trivial g2
        have hm3 : ∀ x : Nat, c.active ≤ x → x < s0.n → m x = s3.now x := fun x hx hxn => by
          have hz1 : f2 = 0 := z2
          have hz2 : t2 = 0 := y2
          rw [y7 x hx (by simp only; omega)]; exact hw.m x hx hxn
        refine p_call rfl (en_f Try.call22 rfl) (sabortO_ok _ _ _ _ _ (in_secw h2 hc hN)) .free rfl rfl ?_ ?_
        rotate_left
        · rintro _ _ ⟨_, hm, -, -⟩
          cases e3.symm.trans hm
        rintro _ _ ⟨_, _, hm, rfl, rfl⟩
        cases e3.symm.trans hm
        refine p_val rfl (ev_cmp rfl rfl rfl) .free rfl rfl ?_
        refine p_nil ?_
        refine go_sub (σ' := [(91, _), (14, _), (13, _), (11, _), (36, _), (35, _), (34, _), (10, _), (9, _), (8, _), (7, _), (6, _), (5, _)]) ⟨rfl, rfl, rfl, rfl, rfl, rfl, rfl, rfl, rfl, rfl, rfl, rfl, rfl, trivial⟩ ?_
        refine g_iff rfl (rfl) ?_
        refine g_skip ?_
        refine g_exit ?_
        refine g_region ?_
        first | refine p_val rfl (ev_add rfl rfl (wr64 (by omega))) .free rfl rfl ?_ | refine p_val rfl (ev_add rfl rfl rfl) .free rfl rfl ?_
        refine p_val rfl (ev_move rfl) .free rfl rfl ?_
        refine p_nil ?_
        have hsh := shut_w h2.logw
        first
        | exact fun a w st => ⟨⟨k + 1, s3, _, m⟩, ⟨by simp only; omega, hcalm, y5.lim, y6, hsh.2.2.1.trans h2.hc, hsh.2.2.2, hsh.1, hsh.2.1, hm3⟩, by simp only; omega, st.to ⟨rfl, rfl, rfl, rfl, rfl, rfl, rfl, rfl, rfl, trivial⟩ (fun hh => (hh.front 2 rfl).tail)⟩
        | exact fun a w st => ⟨⟨k + 1, s3, _, upd (upd m (c.active.toNat + i1) ((k : Int) + 1)) (c.active.toNat + i2) ((k : Int) + 2)⟩, ⟨by simp only; omega, hcalm, y5.lim, y6, hsh.2.2.1.trans h2.hc, hsh.2.2.2, hsh.1, hsh.2.1, hm3⟩, by simp only; omega, st.to ⟨rfl, rfl, rfl, rfl, rfl, rfl, rfl, rfl, rfl, trivial⟩ (fun hh => (hh.front 2 rfl).tail)⟩
        | exact fun a w st => ⟨⟨k + 1, s3, _, upd (upd (upd m (c.active.toNat + i1) ((k : Int) + 1)) (c.active.toNat + i2) ((k : Int) + 2)) (c.active.toNat + i1) ((k : Int) + 2)⟩, ⟨by simp only; omega, hcalm, y5.lim, y6, hsh.2.2.1.trans h2.hc, hsh.2.2.2, hsh.1, hsh.2.1, by rw [upd_twice (congrArg (c.active.toNat + ·) hij)]; exact hm3⟩, by simp only; omega, st.to ⟨rfl, rfl, rfl, rfl, rfl, rfl, rfl, rfl, rfl, trivial⟩ (fun hh => (hh.front 2 rfl).tail)⟩
      · try simp only [decide_eq_true_eq, decide_eq_false_iff_not, Bool.not_eq_true', Bool.not_eq_false', Bool.or_eq_true, Bool.and_eq_true, Bool.and_eq_false_iff, Bool.or_eq_false_iff, beq_iff_eq, bne_iff_ne, beq_eq_false_iff_ne, bne_eq_false_iff_eq, ge_iff_le, gt_iff_lt, ne_eq] at h88
        refine g_skip ?_
        refine g_seq ?_
        refine g_seq ?_
        refine g_region ?_
        refine p_val rfl (ev_move rfl) .free rfl rfl ?_
        obtain ⟨s3, e3, y5, y6, y7, y8⟩ := in_commit h2 hc
        have hcalm := y8 trivial
        have hm3 : ∀ x : Nat, c.active ≤ x → x < s0.n → upd (upd m (c.active.toNat + i1) ((k : Int) + 1)) (c.active.toNat + i2) ((k : Int) + 2) x = s3.now x := fun x hx hxn => by
          rw [y7, shutNow_at (by omega)]
          simp only [upd]
          by_cases q2 : x = c.active.toNat + i2
          · rw [if_pos q2, q2, v2]
          · rw [if_neg q2, w2 x hx q2]
            by_cases q1 : x = c.active.toNat + i1
            · rw [if_pos q1, q1, v1]
            · rw [if_neg q1, w1 x hx q1]; exact hw.m x hx hxn
        refine p_call rfl (en_f Try.call17 rfl) (scommitO_ok _ _ _ _ _ (in_secw h2 hc hN) (by have := dl1; have := dl2; simp at *; omega)) .free rfl rfl ?_ ?_
        rotate_left
        · rintro _ _ ⟨_, hm, -, -⟩
          cases e3.symm.trans hm
        rintro _ _ ⟨_, _, hm, rfl, rfl⟩
        cases e3.symm.trans hm
        refine p_val rfl (ev_cmp rfl rfl rfl) .free rfl rfl ?_
        refine p_nil ?_
        refine go_sub (σ' := [(94, _), (14, _), (13, _), (11, _), (36, _), (35, _), (34, _), (10, _), (9, _), (8, _), (7, _), (6, _), (5, _)]) ⟨rfl, rfl, rfl, rfl, rfl, rfl, rfl, rfl, rfl, rfl, rfl, rfl, rfl, trivial⟩ ?_
        refine g_iff rfl (rfl) ?_
        refine g_skip ?_
        refine g_seq ?_
        refine g_region ?_
        refine p_val rfl (ev_move rfl) .free rfl rfl ?_
        refine p_val rfl (ev_move rfl) .free rfl rfl ?_
        refine p_val rfl (ev_move rfl) .free rfl rfl ?_
        refine p_val rfl (ev_move rfl) .free rfl rfl ?_
        refine p_val rfl (ev_move rfl) .free rfl rfl ?_
        first | refine p_val rfl (ev_add rfl rfl (wr64 (by omega))) .free rfl rfl ?_ | refine p_val rfl (ev_add rfl rfl rfl) .free rfl rfl ?_
        first | refine p_val rfl (ev_conv Try.runUnderlying3 Try.runUnderlying46 rfl (wru64 (by omega))) .free rfl rfl ?_ | refine p_val rfl (ev_conv Try.runUnderlying3 Try.runUnderlying46 rfl rfl) .free rfl rfl ?_
        refine p_val rfl (ev_move rfl) .free rfl rfl ?_
        first | refine p_val rfl (ev_add rfl rfl (wr64 (by omega))) .free rfl rfl ?_ | refine p_val rfl (ev_add rfl rfl rfl) .free rfl rfl ?_
        first | refine p_val rfl (ev_conv Try.runUnderlying3 Try.runUnderlying46 rfl (wru64 (by omega))) .free rfl rfl ?_ | refine p_val rfl (ev_conv Try.runUnderlying3 Try.runUnderlying46 rfl rfl) .free rfl rfl ?_
        refine p_val rfl (ev_iaS Try.runUnderlying39 Try.sizeOf46 rfl rfl (by omega) (by omega)) .free rfl rfl ?_
        refine p_chg0 rfl (ch_store Try.sizeOf46 rfl rfl rfl (by rw [Nat.blt_eq, List.length_append, tab_len]; omega)) .free rfl ?_
        rintro _ _ rfl
        rw [Int.toNat_natCast, tabset (by omega)]
        refine p_val rfl (ev_iaS Try.runUnderlying39 Try.sizeOf46 rfl rfl (by omega) (by omega)) .free rfl rfl ?_
        refine p_chg0 rfl (ch_store Try.sizeOf46 rfl rfl rfl (by rw [Nat.blt_eq, List.length_append, tab_len]; omega)) .free rfl ?_
        rintro _ _ rfl
        rw [Int.toNat_natCast, tabset (by omega)]
        refine p_nil ?_
        refine go_sub (σ' := [(14, _), (13, _), (11, _), (36, _), (35, _), (34, _), (10, _), (9, _), (8, _), (7, _), (6, _), (5, _)]) ⟨rfl, rfl, rfl, rfl, rfl, rfl, rfl, rfl, rfl, rfl, rfl, rfl, trivial⟩ ?_
        refine g_seq ?_
        refine g_region ?_
        refine p_val rfl (ev_move rfl) .free rfl rfl ?_
        refine p_val rfl (ev_move rfl) .free rfl rfl ?_
        refine p_val rfl (ev_cmp rfl rfl rfl) .free rfl rfl ?_
        refine p_nil ?_
        refine g_if rfl (fun h109 => ?_) (fun h109 => ?_)
        · have hij : i1 = i2 := by simp at h109; omega
          refine g_region ?_
          refine p_val rfl (ev_move rfl) .free rfl rfl ?_
          refine p_val rfl (ev_move rfl) .free rfl rfl ?_
          refine p_val rfl (ev_move rfl) .free rfl rfl ?_
          first | refine p_val rfl (ev_add rfl rfl (wr64 (by omega))) .free rfl rfl ?_ | refine p_val rfl (ev_add rfl rfl rfl) .free rfl rfl ?_
          first | refine p_val rfl (ev_conv Try.runUnderlying3 Try.runUnderlying46 rfl (wru64 (by omega))) .free rfl rfl ?_ | refine p_val rfl (ev_conv Try.runUnderlying3 Try.runUnderlying46 rfl rfl) .free rfl rfl ?_
          refine p_val rfl (ev_iaS Try.runUnderlying39 Try.sizeOf46 rfl rfl (by omega) (by omega)) .free rfl rfl ?_
          refine p_chg0 rfl (ch_store Try.sizeOf46 rfl rfl rfl (by rw [Nat.blt_eq, List.length_append, tab_len]; omega)) .free rfl ?_
          rintro _ _ rfl
          rw [Int.toNat_natCast, tabset (by omega)]
          refine p_nil ?_
          refine go_sub (σ' := [(36, _), (35, _), (34, _), (10, _), (9, _), (8, _), (7, _), (6, _), (5, _)]) ⟨rfl, rfl, rfl, rfl, rfl, rfl, rfl, rfl, rfl, trivial⟩ ?_
          refine g_region ?_
          first | refine p_val rfl (ev_add rfl rfl (wr64 (by omega))) .free rfl rfl ?_ | refine p_val rfl (ev_add rfl rfl rfl) .free rfl rfl ?_
          refine p_val rfl (ev_move rfl) .free rfl rfl ?_
          refine p_nil ?_
          have hsh := shut_w h2.logw
          first
          | exact fun a w st => ⟨⟨k + 1, s3, _, m⟩, ⟨by simp only; omega, hcalm, y5.lim, y6, hsh.2.2.1.trans h2.hc, hsh.2.2.2, hsh.1, hsh.2.1, hm3⟩, by simp only; omega, st.to ⟨rfl, rfl, rfl, rfl, rfl, rfl, rfl, rfl, rfl, trivial⟩ (fun hh => (hh.front 2 rfl).tail)⟩
          | exact fun a w st => ⟨⟨k + 1, s3, _, upd (upd m (c.active.toNat + i1) ((k : Int) + 1)) (c.active.toNat + i2) ((k : Int) + 2)⟩, ⟨by simp only; omega, hcalm, y5.lim, y6, hsh.2.2.1.trans h2.hc, hsh.2.2.2, hsh.1, hsh.2.1, hm3⟩, by simp only; omega, st.to ⟨rfl, rfl, rfl, rfl, rfl, rfl, rfl, rfl, rfl, trivial⟩ (fun hh => (hh.front 2 rfl).tail)⟩
          | exact fun a w st => ⟨⟨k + 1, s3, _, upd (upd (upd m (c.active.toNat + i1) ((k : Int) + 1)) (c.active.toNat + i2) ((k : Int) + 2)) (c.active.toNat + i1) ((k : Int) + 2)⟩, ⟨by simp only; omega, hcalm, y5.lim, y6, hsh.2.2.1.trans h2.hc, hsh.2.2.2, hsh.1, hsh.2.1, by rw [upd_twice (congrArg (c.active.toNat + ·) hij)]; exact hm3⟩, by simp only; omega, st.to ⟨rfl, rfl, rfl, rfl, rfl, rfl, rfl, rfl, rfl, trivial⟩ (fun hh => (hh.front 2 rfl).tail)⟩
        · have hij : i1 ≠ i2 := by simp at h109; omega
          refine g_skip ?_
          refine g_region ?_
          first | refine p_val rfl (ev_add rfl rfl (wr64 (by omega))) .free rfl rfl ?_ | refine p_val rfl (ev_add rfl rfl rfl) .free rfl rfl ?_
          refine p_val rfl (ev_move rfl) .free rfl rfl ?_
          refine p_nil ?_
          refine go_sub (σ' := [(36, _), (35, _), (34, _), (10, _), (9, _), (8, _), (7, _), (6, _), (5, _)]) ⟨rfl, rfl, rfl, rfl, rfl, rfl, rfl, rfl, rfl, trivial⟩ ?_
          have hsh := shut_w h2.logw
          first
          | exact fun a w st => ⟨⟨k + 1, s3, _, m⟩, ⟨by simp only; omega, hcalm, y5.lim, y6, hsh.2.2.1.trans h2.hc, hsh.2.2.2, hsh.1, hsh.2.1, hm3⟩, by simp only; omega, st.to ⟨rfl, rfl, rfl, rfl, rfl, rfl, rfl, rfl, rfl, trivial⟩ (fun hh => (hh.front 2 rfl).tail)⟩
          | exact fun a w st => ⟨⟨k + 1, s3, _, upd (upd m (c.active.toNat + i1) ((k : Int) + 1)) (c.active.toNat + i2) ((k : Int) + 2)⟩, ⟨by simp only; omega, hcalm, y5.lim, y6, hsh.2.2.1.trans h2.hc, hsh.2.2.2, hsh.1, hsh.2.1, hm3⟩, by simp only; omega, st.to ⟨rfl, rfl, rfl, rfl, rfl, rfl, rfl, rfl, rfl, trivial⟩ (fun hh => (hh.front 2 rfl).tail)⟩
          | exact fun a w st => ⟨⟨k + 1, s3, _, upd (upd (upd m (c.active.toNat + i1) ((k : Int) + 1)) (c.active.toNat + i2) ((k : Int) + 2)) (c.active.toNat + i1) ((k : Int) + 2)⟩, ⟨by simp only; omega, hcalm, y5.lim, y6, hsh.2.2.1.trans h2.hc, hsh.2.2.2, hsh.1, hsh.2.1, by rw [upd_twice (congrArg (c.active.toNat + ·) hij)]; exact hm3⟩, by simp only; omega, st.to ⟨rfl, rfl, rfl, rfl, rfl, rfl, rfl, rfl, rfl, trivial⟩ (fun hh => (hh.front 2 rfl).tail)⟩
    · have hk : ¬ k < len := by simpa using h37
      refine g_exit ?_
      refine g_seq ?_
      refine g_region ?_
      have hfin : ∀ x : Nat, c.active.toNat ≤ x → x < s0.n → (s.crash (chc bits)).now x = m x := fun x hx hxn => by rw [(crash_calm hw.calm _).1]; exact (hw.m x (by omega) hxn).symm
      refine go_front 1 rfl ?_
      simp only [List.eraseIdx_cons_succ, List.eraseIdx_cons_zero]
      refine p_val rfl (ev_move rfl) .free rfl rfl ?_
      refine p_val rfl (ev_mkf rfl rfl) .free rfl rfl ?_
      refine p_call rfl (en_f Try.call23 rfl) (ncrash_ok _ _ _ _ _ _ _ (rowsCh_c _ _ 4 _ _ _ (by omega) rfl)) .free rfl rfl ?_ ?_
      rotate_left
      · rintro _ _ ⟨⟩
      rintro _ _ rfl
      refine p_nil ?_
      refine go_sub (σ' := [(10, _), (9, _), (7, _), (6, _)]) ⟨rfl, rfl, rfl, rfl, trivial⟩ ?_
      refine g_seq ?_
      refine g_region ?_
      refine p_val rfl (ev_move rfl) .free rfl rfl ?_
      refine p_val rfl (ev_move rfl) .free rfl rfl ?_
      first | refine p_val rfl (ev_nil rfl) .free rfl rfl ?_ | refine p_val rfl (ev_nilf rfl) .free rfl rfl ?_
      refine p_val rfl (ev_fa (m := _) fa_42_0 rfl rfl) .free rfl rfl ?_
      refine p_val rfl (ev_loadA Try.isAgg38 Try.sizeOf38 rfl rfl) .free rfl rfl ?_
      refine p_call rfl (en_f Try.call21 rfl) (words7_ok _ _ _ _ c hc (by simp only [Dev.crash]; omega)) .free rfl rfl ?_ ?_
      rotate_left
      · rintro _ _ ⟨⟩
      rintro _ _ ⟨bw9, rest9, rfl, rfl⟩
      simp only [show (s.crash (chc bits)).n = s0.n from hw.n]
      refine p_val rfl (ev_move rfl) .free rfl rfl ?_
      refine p_callq rfl (en_f Try.call26 rfl) (rows_ends _ _ _ _ _ _ _ _ _ _ _ _ _ _ _ (by omega) (by omega) hfin) .free rfl rfl ?_
      refine p_val rfl (ev_assign rfl) .free rfl rfl ?_
      refine p_nil ?_
      refine go_sub (σ' := [(6, _)]) ⟨rfl, trivial⟩ ?_
      refine g_ret ?_
      exact ret_tmp Try.results5 rfl (fun w hh => ⟨rfl, hh.tail.tail.tail.tail.tail.tail.tail.tail⟩)


theorem sectionRows_walk (W : World) (z : Int × Int × Int) (w0 : (Lit.int .u16 z.1).wf = true ∧ (Lit.int .u16 z.2.1).wf = true ∧ (Lit.int .u16 z.2.2).wf = true) {l : Option Addr} {len cap : Nat} {f : Nat → Int} (w1 : ∃ g : Nat → Int, len ≤ 9223372036854775807 ∧ (∀ i, i < len → 0 ≤ f i ∧ f i ≤ 65535 ∧ 0 ≤ g i ∧ g i ≤ 65535) ∧ ArgRow W l len 2 (fun i => [u16 (f i), u16 (g i)])) (v : Int) (wv : (Lit.int .u64 v).wf = true) :
    Calls Try.prog 5 #[.agg #[u16 z.1, u16 z.2.1, u16 z.2.2], .slice l len cap, .int .u64 v] W fun e w' => e = .returned (.bool true) ∧ RowKit.Below W.heap.size W w' := by
  have b0 := bounds_u16 w0.1
  have b1 := bounds_u16 w0.2.1
  have b2 := bounds_u16 w0.2.2
  obtain ⟨Q, w2, w3, w4⟩ := w1
  exact law_of (sectionRows_ok W [old W] z.1 z.2.1 z.2.2 (by omega) (by omega) (by omega) l len cap f Q w2 w3 w4 v)

namespace sectionRows
open Go.ChangeShapes Go.WideShapes Go.ChangeAt Go.RowKit
set_option maxRecDepth 100000 in
theorem lifted (os : Os) (started : os.Started) (H : Type) (enc : TypeId × Value → H) :
    ReturnsInHanded {} Try.checked os 5 .any (Rows.sectionRowsSpec.pre6 enc Try.prog Try.f5 Rows.sectionRowsRow.domain false) (Rows.sectionRowsSpec.post enc Try.prog Try.f5 false true false false) := by
  refine returnsInHanded_of_change (C := Try.checked) Try.ownKnobs started (by kernel_rfl) Try.func5
    (ChangeSpec.witness6 (enc := enc) (C := Try.checked) false ⟨#[], #[.agg #[.int .u16 0, .int .u16 0, .int .u16 0], .slice none 0 0, .int .u64 0], []⟩ 8 (by kernel_rfl) (by kernel_rfl) (by kernel_rfl) (by kernel_rfl)) ?_
  intro W base args ds gs before hval0 hW hcnd _
  have hval : ∀ (j : Nat) t v, Try.f5.params[j]? = some t → args[j]? = some v → Value.okWide Try.prog W .any base t v := hval0
  have hW' := hW
  obtain ⟨p, q, hA0, hV, rfl, hfz, hnd⟩ := hW
  have hA : DataW.TrodAll enc Try.prog W 0 (fun _ => true) true Try.f5.params.toList args.toList ds p := hA0
  rw [Try.params5] at hA hval
  obtain ⟨v0, vs0, d0, ds0, p0, q0, hargs, rfl, rfl, h0, r0⟩ := trodAll_cons hA
  obtain ⟨v1, vs1, d1, ds1, p1, q1, rfl, rfl, rfl, h1, r1⟩ := trodAll_cons r0
  obtain ⟨v2, vs2, d2, ds2, p2, q2, rfl, rfl, rfl, h2, r2⟩ := trodAll_cons r1
  obtain ⟨rfl, rfl, rfl⟩ := trodAll_nil r2
  obtain rfl : args = #[v0, v1, v2] := by cases args; simp_all
  obtain ⟨rfl, rfl⟩ := trodVars_none hV
  have k0 := h0
  have lt0 : ∀ x ∈ p0, x.block < W.heap.size := by obtain ⟨m, hm⟩ := k0; exact DataW.trod_lt m _ _ _ hm
  obtain ⟨z0, rfl, w0⟩ := arg_st_u16_u16_u16 (hval 0 24 v0 rfl rfl) h0
  obtain ⟨a1, len1, cap1, rfl⟩ := okWide_slice Try.underlying60 (hval 1 60 v1 rfl rfl)
  have k1 := h1
  have lt1 : ∀ x ∈ p1, x.block < W.heap.size := by obtain ⟨m, hm⟩ := k1; exact DataW.trod_lt m _ _ _ hm
  obtain ⟨z1, w1⟩ := arg_sl_ar2_u16 h1
  have k2 := h2
  have lt2 : ∀ x ∈ p2, x.block < W.heap.size := by obtain ⟨m, hm⟩ := k2; exact DataW.trod_lt m _ _ _ hm
  obtain ⟨a2, rfl, w2⟩ : ∃ a, v2 = .int .u64 a ∧ (Lit.int .u64 a).wf = true := by
    obtain ⟨a, e, _, _, wa⟩ := open_int Try.underlying46 (hval 2 46 v2 rfl rfl) h2
    exact ⟨a, e, wa⟩
  clear hA0 hval0
  refine (sectionRows_walk W z0 w0 w1 a2 w2).mono fun e W' ⟨he, bel⟩ => ?_
  subst he
  exact ⟨_, rfl, _, _, _, [], _, [], hW', trodAll_mk1 (shut_bool Try.underlying4 _), (trodAll_cons_mk (Below.trod Try.laidOut (by kernel_rfl) (of_decide_eq_true (by kernel_rfl)) k0 bel lt0) (trodAll_cons_mk (Below.trod Try.laidOut (by kernel_rfl) (of_decide_eq_true (by kernel_rfl)) k1 bel lt1) (trodAll_cons_mk (Below.trod Try.laidOut (by kernel_rfl) (of_decide_eq_true (by kernel_rfl)) k2 bel lt2) trodAll_mk0))), rfl, bel.frame _, fun h => by cases h⟩
theorem over : Rows.sectionRowsRow.holds Try.pinned (OpenSpec.ofChange Rows.sectionRowsSpec) :=
  OpenClaim.holds_of_wide 5 Try.f5 rfl rfl rfl rfl rfl rfl rfl ⟨rfl, rfl, rfl, rfl, rfl⟩ rfl rfl rfl rfl rfl (by kernel_rfl) Try.func5 (by kernel_rfl)
    (of_decide_eq_true (by kernel_rfl)) (by unfold Func.isWrapper; first | (rw [if_pos (by decide +kernel)]; kernel_rfl) | (rw [if_neg (by decide +kernel)]; exact ⟨rfl, rfl⟩))
    (fun os started H enc _ => lifted os started H enc)
/-- The statement. -/
theorem proved : Rows.SectionRowsSaid := over
end sectionRows

end Go.Proofs.Ytbhpbnedocdneaa
