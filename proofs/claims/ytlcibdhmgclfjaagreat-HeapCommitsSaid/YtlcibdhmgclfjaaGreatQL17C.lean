/- The law HeapCommits. Conditions: none. -/
import Derived.Test.YtlcibdhmgclfjaaGreatQL17Cn
set_option linter.unusedSimpArgs false
set_option linter.unusedVariables false
set_option linter.unnecessarySimpa false
set_option linter.unusedSectionVars false
namespace Go.Proofs.YtlcibdhmgclfjaaGreat
set_option linter.unusedSimpArgs false
set_option linter.unusedVariables false
open Go
theorem bounds_u64 {x : Int} (h : (Lit.int .u64 x).wf = true) : 0 ≤ x ∧ x < 18446744073709551616 := by
  simp [Lit.wf, IntKind.min, IntKind.max, IntKind.bits, IntKind.signed] at h
  omega
theorem arg_sl_u64b {H : Type} {enc : TypeId × Value → H} {W : World} {base : Nat} {held : Bool} {a : Option Addr} {len cap : Nat} {x : DataW H × List MemPlace}
    (h : ∃ fuel, DataW.trod enc Tryz.prog W base (fun _ => true) held fuel 25 (Value.slice a len cap).cells.toList = some x) : ∃ xs : List Int, len = xs.length ∧ len ≤ 9223372036854775807 ∧ ArgRow W a len 1 (fun i => [w64 (xs.getD i 0)]) ∧ ∀ x ∈ xs, 0 ≤ x ∧ x < 18446744073709551616 := by
  obtain ⟨fuel, hf⟩ := h
  rcases Go.ChangeShapes.open_ints Tryz.underlying25 Tryz.underlying26 (by kernel_rfl) hf with ⟨hcs, _⟩ | ⟨y, l, c, zs, hcs, _, hl, hm, hlen, hbd, hcell, hbd2⟩
  · simp [Value.cells] at hcs
    obtain ⟨rfl, rfl, rfl⟩ := hcs
    exact ⟨[], rfl, by omega, ⟨fun i hi => by omega⟩, fun x hx => by simp at hx⟩
  · simp [Value.cells] at hcs
    obtain ⟨rfl, rfl, rfl⟩ := hcs
    unfold maxLen at hm
    simp only [if_true] at hlen
    refine ⟨zs.take len, by rw [List.length_take]; omega, by omega, ⟨fun i hi => ?_⟩, fun x hx => bounds_u64 (hbd2 x (List.mem_of_mem_take hx))⟩
    have h0 := hcell i (by omega)
    obtain ⟨b, o, s⟩ := y
    have hs : s = none := by
      have h1 := hcell 0 (by omega)
      have e0 : (⟨b, o, s⟩ : Addr).add 0 = ⟨b, o, s⟩ := rfl
      rw [e0] at h1
      unfold World.cell? at h1
      split at h1
      · cases s with
        | none => rfl
        | some q => simp at h1
      · cases h1
    subst hs
    refine ⟨b, o, rfl, rfl, fun j hj => ?_⟩
    obtain rfl : j = 0 := by omega
    rw [add_eq] at h0
    have e1 : (List.take len zs)[i]?.getD 0 = zs[i]?.getD 0 := by
      rw [List.getElem?_take_of_lt hi]
    simpa [e1] using h0
theorem HC.withT {kp : Prop} {c : Cfg} {N bd : Nat} {h : HpS} {s : Dev} {a u : Int} {L : List Int} (H : HC kp c N bd h s a u L) {T : TabS} (t1 : 0 ≤ T.last ∧ T.last ≤ 1000000000) (t2 : T.at_.length ≤ 800000) (t3 : ∀ p ∈ T.at_, 0 ≤ p.2 ∧ p.2 ≤ 1000000) : HC kp c N bd { h with T := T } s a u L :=
  ⟨H.hbd, H.hcc, H.ho, H.sk, H.hm, H.rc, ⟨H.hw.c, H.hw.k, H.hw.sw, H.hw.u, t1, t2, t3, H.hw.x⟩, H.hkp⟩
/-- What Alloc comes to, with room or without. -/
theorem HO.alloc2 {kp : Prop} {c : Cfg} (hc : CfgW c) {N bd : Nat} {old : Nat → Int} {js : List Nat} {h : HpS} {s : Dev} {a u u0 : Int} {L : List Int} (H : HO kp c N bd old js h s a u u0 L) (hx : h.X = none) {w r : Int} (hw : 0 ≤ r ∧ r ≤ w ∧ w ≤ 64) (hr : (c.active + 1).toNat ∈ js ∨ (js.length : Int) < c.log) (hl : h.T.last + 1 ≤ 1000000000) (htl : h.T.at_.length + 1 ≤ 800000) :
    ∃ at_ x h' s', h.alloc s w r = .ok ((at_, x), h') s' ∧ ((c.space - u < w + 1 ∧ x = 4) ∨ (¬ c.space - u < w + 1 ∧ x = 0 ∧ at_ = (h.T.take (c.frm a + u)).1 ∧ ∃ js', HO kp c N bd old js' h' s' a (u + (w + 1)) u0 (L ++ [c.frm a + u]) ∧ h'.X = none ∧ h'.T = (h.T.take (c.frm a + u)).2 ∧ js'.length ≤ js.length + 1 ∧
      ∀ j, c.active ≤ j → s'.load j = if c.frm a + u ≤ j ∧ j < c.frm a + u + (w + 1) then (if j = c.frm a + u then packI w r else 0) else if j = c.active + 1 then u + (w + 1) else s.load j)) := by
  by_cases hroom : c.space - u < w + 1
  · exact ⟨_, _, _, _, H.noroom hw hroom, .inl ⟨hroom, rfl⟩⟩
  · obtain ⟨h', s', js', e1, e2, e3, e4, _, e6, e7⟩ := H.alloc hc hx hw hroom hr hl htl
    exact ⟨_, _, h', s', e1, .inr ⟨hroom, rfl, rfl, js', e2, e3, e4, e6, e7⟩⟩

theorem heapCommits_ok (B : World) (Fr : List HP) (x0 x1 x2 : Int) (hx : 0 ≤ x0 ∧ 0 ≤ x1 ∧ 0 ≤ x2) (q : Option Addr) (cap : Nat) (vs : List Int) (hv : SlR B Fr (.slice q vs.length cap) (vs.map w64)) (hvb : ∀ x ∈ vs, 0 ≤ x ∧ x < 18446744073709551616) (hvl : vs.length ≤ 9223372036854775807) (hq : ∀ i, i < vs.length → ∃ b off, q = some ⟨b, off, none⟩) (bits : Int) :
    ∀ w, Holds B Fr w → Calls Tryz.prog 3 [.agg #[u16 x0, u16 x1, u16 x2], .slice q vs.length cap, w64 bits].toArray w (PureR B Fr (.bool true)) := by
  refine fn_enter Tryz.func3 rfl Tryz.ntmps3 rfl ?_
  obtain ⟨c, hcm⟩ : ∃ c, c = mkC x0 x1 x2 := ⟨_, rfl⟩
  have hc : CfgW c := by rw [hcm]; exact mkC_w hx.1 hx.2.1 hx.2.2
  have hA := act_w hc
  have hf0 := frmA hc (a := 0) (by decide)
  have hl1 := hc.l1
  have hr1 := hc.r1
  have hs1 := hc.s1
  refine g_seq (g_region (p_chg rfl (ch_boxA rfl) .free rfl rfl ?_))
  rintro _ _ ⟨b3, rfl, rfl⟩
  refine p_chg rfl (ch_box1 rfl rfl) .free rfl rfl ?_
  rintro _ _ ⟨b5, rfl, rfl⟩
  refine kPa rfl rfl (p_nil (g_seq (g_seq (g_region (p_callq rfl (en_f Tryz.call9 rfl) (awake17_ok _ _) .free rfl rfl ?_)))))
  refine kPv (ev_not rfl) rfl (p_nil (g_iff rfl (rfl) (g_skip (g_seq (g_seq (g_region (kPm rfl rfl (kPv (ev_len rfl Tryz.runUnderlying25 ⟨_, rfl⟩ rfl) rfl (kPv (ev_cmp rfl rfl rfl) rfl (p_nil ?_))))))))))
  refine g_if rfl (fun h25 => ?_) (fun h25 => ?_)
  · skip
    refine g_seq (g_region (kPa rfl rfl (p_nil (go_sb [6, 5, 3, 1] rfl (g_ret ?_)))))
    exact ret_tmp Tryz.results3 rfl (fun w hh => ⟨rfl, (hh.dp [0, 0])⟩)
  · have hn7 : vs.length ≤ 7 := by simp at h25; omega
    refine g_skip (g_seq (g_region (kPv (ev_loadA Tryz.isAgg24 Tryz.sizeOf24 rfl rfl) rfl ?_)))
    refine p_call rfl (en_f Tryz.call10 rfl) (opened_ok B _ x0 x1 x2 hx c hcm) .free rfl rfl ?_ ?_
    rotate_left
    · rintro _ _ ⟨⟩
    rintro _ _ ⟨bd, bh, bm, br, N, s, hN, H0, rfl, rfl⟩
    obtain ⟨h0, hh0⟩ : ∃ h0 : HpS, h0 = heapOf bd c s := ⟨_, rfl⟩
    rw [← hh0] at H0 ⊢
    have hT0 : h0.T = ⟨[], [], 0⟩ := by rw [hh0]; rfl
    refine kPm rfl rfl (kPv (ev_ext rfl rfl) rfl (kPv (ev_ext rfl rfl) rfl (kPv (ev_ext rfl rfl) rfl (kPa rfl rfl (kPa rfl rfl (kPa rfl rfl (p_nil (go_sb [9, 8, 7, 6, 5, 1] rfl (g_seq (g_seq (g_region ?_)))))))))))
    refine kPm rfl rfl (kPv (ev_eqp Tryz.runUnderlying29 rfl rfl rfl) rfl (kPm rfl rfl (p_val rfl (ev_move rfl) (.on rfl rfl (beq_eq rfl)) rfl rfl ?_)))
    refine p_call rfl (en_f Tryz.call11 rfl) (beginW hc H0 (by decide) (by omega)) (.on rfl rfl (beq_eq rfl)) rfl rfl ?_ ?_
    rotate_left
    · rintro _ _ ⟨⟩
    rintro _ _ ⟨h1, hx1, hT1, H1, rfl, rfl⟩
    obtain ⟨old, hold⟩ : ∃ old, old = s.now := ⟨_, rfl⟩
    rw [← hold] at H1
    have hk1 : h1.T.take (c.frm 0 + 0) = (1, ⟨[(1, c.frm 0 + 0)], [(c.frm 0 + 0, 1)], 1⟩) := by rw [hT1, hT0]; exact take_first (by omega)
    obtain ⟨at2, e2, h2, s2, q2, hor2⟩ := H1.alloc2 hc hx1 (w := vs.length) (r := 0) ⟨by omega, by omega, by omega⟩ (.inr (by simp; omega)) (by rw [hT1, hT0]; decide) (by rw [hT1, hT0]; decide)
    rw [hk1] at hor2
    refine p_val rfl (ev_cmp rfl rfl rfl) (.on rfl rfl (beq_eq rfl)) rfl rfl (kPv (ev_pick_f rfl rfl rfl) rfl (p_nil (g_iff rfl (rfl) (g_skip (g_seq (g_region (kPm rfl rfl (kPm rfl rfl (kPv (ev_len rfl Tryz.runUnderlying25 ⟨_, rfl⟩ rfl) rfl (kPv (ev_build rfl (bld_38_0 _ rfl)) rfl ?_))))))))))
    refine p_call rfl (en_f Tryz.call12 rfl) (allocW H1.hw H1.hbd q2) .free rfl rfl ?_ ?_
    rotate_left
    · rintro _ _ ⟨⟩
    rintro _ _ ⟨rfl, rfl⟩
    refine kPm rfl rfl (kPv (ev_ext rfl rfl) rfl (kPv (ev_ext rfl rfl) rfl (kPa rfl rfl (kPa rfl rfl (p_nil (go_sb [11, 10, 9, 8, 7, 6, 5, 1] rfl (g_seq (g_seq (g_region (kPm rfl rfl (kPv (ev_len rfl Tryz.runUnderlying25 ⟨_, rfl⟩ rfl) rfl ?_)))))))))))
    first | refine p_val rfl (ev_add rfl rfl (wr64 (by omega))) .free rfl rfl ?_ | refine p_val rfl (ev_add rfl rfl rfl) .free rfl rfl ?_
    refine kPm rfl rfl ?_
    first | refine kPv (ev_nil rfl) rfl ?_ | refine kPv (ev_nilf rfl) rfl ?_
    refine kPv (ev_fa (m := _) fa_45_0 rfl rfl) rfl (kPv (ev_fa (m := _) fa_40_2 rfl rfl) rfl (kPv (ev_load Tryz.isAgg3 rfl rfl) rfl (kPv (ev_cmp rfl rfl rfl) rfl (p_nil (go_sb [55, 11, 10, 8, 7, 6, 5, 1] rfl ?_)))))
    refine g_if rfl (fun h55 => ?_) (fun h55 => ?_)
    · have hroom : c.space < (vs.length : Int) + 1 := by simpa using h55
      have he2 : e2 = 4 := by
        rcases hor2 with ⟨_, h⟩ | ⟨h, _⟩
        · exact h
        · omega
      refine g_seq (g_region (kPm rfl rfl (kPv (ev_cmp rfl rfl rfl) rfl (kPa rfl rfl (p_nil (g_ret ?_))))))
      exact ret_tmp Tryz.results3 rfl (fun w hh => ⟨by rw [he2]; rfl, (hh.dp [0, 0, 0, 0, 0, 0])⟩)
    · have hroom : ¬ c.space < (vs.length : Int) + 1 := by simpa using h55
      obtain ⟨_, rfl, hat2, js2, H2, hx2, hT2, hjl2, hl2⟩ := hor2.resolve_left fun h => hroom (by have := h.1; omega)
      simp only at hat2 hT2
      subst hat2
      have hn2 := new_obj (m := s2.load) (k := c.frm 0 + 0) (w := vs.length) (r := 0) ⟨by omega, by omega, by omega⟩ (by rw [hl2 _ (by omega), if_pos (by omega), if_pos rfl])
      obtain ⟨h3, s3, js3, q3, H3, hx3, hT3, _, _, hl3⟩ := H2.setRoot hc hx2 (i := 0) (m := 1) (p := c.frm 0 + 0) (by omega) (HpS.plc_of (by rw [hT2]; rfl)) (.inr (by simp)) (.inr (by simp at hjl2; omega))
      have hrt : c.root ((0 : Nat) : Int) = c.active + 2 := by simp [Cfg.root]
      refine g_skip (g_seq (g_seq (g_region (kPm rfl rfl (kPv (ev_cmp rfl rfl rfl) rfl (kPm rfl rfl (p_val rfl (ev_move rfl) (.on rfl rfl (beq_eq rfl)) rfl rfl (p_val rfl (ev_move rfl) (.on rfl rfl (beq_eq rfl)) rfl rfl ?_))))))))
      refine p_call rfl (en_f Tryz.call13 rfl) (setW H2.hw H2.hbd q3) (.on rfl rfl (beq_eq rfl)) rfl rfl ?_ ?_
      rotate_left
      · rintro _ _ ⟨⟩
      rintro _ _ ⟨rfl, rfl⟩
      refine p_val rfl (ev_cmp rfl rfl rfl) (.on rfl rfl (beq_eq rfl)) rfl rfl (kPv (ev_pick_f rfl rfl rfl) rfl (p_nil (go_sb [65, 11, 10, 8, 7, 6, 5, 1] rfl (g_iff rfl (rfl) (g_skip (g_seq (g_seq (g_region (kPm rfl rfl (kPv (ev_len rfl Tryz.runUnderlying25 ⟨_, rfl⟩ rfl) rfl (kPm rfl rfl ?_)))))))))))
      refine p_nil (g_block (g_loopk (ι := Nat × HpS × Dev × List Nat) [67, 66, 11, 10, 8, 7, 6, 5, 1] (fun (i, h, s, js) => (i ≤ vs.length) ∧ (HO True c N bd old js h s 0 (0 + (vs.length + 1)) 0 ([] ++ [c.frm 0 + 0])) ∧ (h.X = none) ∧ (h.T = (⟨[(1, c.frm 0 + 0)], [(c.frm 0 + 0, 1)], 1⟩ : TabS)) ∧ (orf s.load (c.frm 0 + 0) = 0 ∧ osz s.load (c.frm 0 + 0) = vs.length + 1) ∧ (s.load (c.active + 2) = c.frm 0 + 0) ∧ (∀ j : Nat, (hj : j < vs.length) → j < i → s.load (c.frm 0 + 0 + 1 + j) = vs[j])) (fun (i, h, s, js) => [(68, i64 i)]) (fun (i, h, s, js) => HepA bh h :: DevA bd s :: mdlRow bm br c.roots.toNat c :: nilRow br c.roots.toNat :: row b5 [w64 bits] 26 :: row b3 [u16 x0, u16 x1, u16 x2] 24 :: Fr) (fun (i, h, s, js) => vs.length - i) (0, h3, s3, js3) (⟨Nat.zero_le _, H3, hx3, by rw [hT3]; exact hT2, by unfold orf osz at hn2 ⊢; rw [hl3 _ (by omega), if_neg (by omega)]; exact hn2, by rw [hl3 _ (by omega), if_pos hrt.symm], fun j _ hj => absurd hj (Nat.not_lt_zero _)⟩) (fun a w st => st.to ⟨rfl, trivial⟩ (fun hh => hh)) ?_))
      rintro ⟨i, h, s, js⟩ ⟨hi0, H, hX, hT, hhd, hroot, hfl⟩
      try simp only at hi0 H hX hT hhd hroot hfl ⊢
      refine go_sub (σ' := [(68, i64 i), (67, _), (66, _), (11, _), (10, _), (8, _), (7, _), (6, _), (5, _), (1, _)]) (sub_r rfl) (g_seq (g_region (kPv (ev_cmp rfl rfl rfl) rfl (p_nil (g_seq ?_)))))
      refine g_if rfl (fun h69 => ?_) (fun h69 => ?_)
      · have hi : i < vs.length := by simpa using h69
        obtain ⟨bV, oV, rfl⟩ := hq i hi
        obtain ⟨h4, s4, js4, q4, H4, hx4, hT4, _, _, _, hl4⟩ := H.write hc hX (n := 1) (k := c.frm 0 + 0) (i := (i : Int)) (v := vs[i]) (by rw [hT]; rfl) (by simp) (by omega) (hvb _ (List.getElem_mem hi)) (.inl (by rw [H.ff, H.ft]; omega))
        refine g_skip (g_seq (g_block (g_seq (g_region (kPm rfl rfl (kPv (ev_iaS Tryz.runUnderlying25 Tryz.sizeOf26 rfl rfl (by omega) (by omega)) rfl ?_))))))
        refine kPv (ev_loadS (v := w64 vs[i]) Tryz.isAgg26 (hv.up) rfl (by rw [Int.toNat_natCast, List.getElem?_map, List.getElem?_eq_getElem hi]; rfl)) rfl ?_
        refine kPa rfl rfl (kPa rfl rfl (p_nil (g_seq (g_region (kPm rfl rfl (kPm rfl rfl (kPm rfl rfl (kPm rfl rfl ?_))))))))
        refine p_call rfl (en_f Tryz.call14 rfl) (writeW H.hw H.hbd (hvb _ (List.getElem_mem hi)) q4) .free rfl rfl ?_ ?_
        rotate_left
        · rintro _ _ ⟨⟩
        rintro _ _ ⟨rfl, rfl⟩
        refine kPv (ev_cmp rfl rfl rfl) rfl (p_nil (go_sb [78, 68, 67, 66, 11, 10, 8, 7, 6, 5, 1] rfl (g_iff rfl (rfl) (g_skip (g_region ?_)))))
        first | refine p_val rfl (ev_add rfl rfl (wr64 (by omega))) .free rfl rfl ?_ | refine p_val rfl (ev_add rfl rfl rfl) .free rfl rfl ?_
        refine kPm rfl rfl (p_nil ?_)
        exact fun a w st_ => ⟨(i + 1, h4, s4, js4), ⟨by first | omega | (simp only; omega), H4, hx4, by rw [hT4]; exact hT, by unfold orf osz at hhd ⊢; rw [hl4 _ (by omega), if_neg (by omega)]; exact hhd, by rw [hl4 _ (by omega), if_neg (by omega)]; exact hroot, fun j hj hji => by
      rw [hl4 _ (by omega)]
      by_cases e : j = i
      · subst e; rw [if_pos rfl]
      · rw [if_neg (by omega)]; exact hfl j hj (by omega)⟩, by first | omega | (simp only; omega), st_.to (sub_r rfl) (fun hh => hh)⟩
      · have hi : i = vs.length := by simp at h69; omega
        obtain ⟨h5, s5, q5, H5, hx5, hT5, _, hl5⟩ := H.commit hc hX
        refine g_exit (g_seq (g_seq ?_))
        skip
        refine g_region (kPm rfl rfl ?_)
        refine p_call rfl (en_f Tryz.call15 rfl) (commitW H.hw H.hbd q5) .free rfl rfl ?_ ?_
        rotate_left
        · rintro _ _ ⟨⟩
        rintro _ _ ⟨rfl, rfl⟩
        refine kPv (ev_cmp rfl rfl rfl) rfl (p_nil (go_sb [82, 11, 7, 6, 5, 1] rfl (g_iff rfl (rfl) (g_skip (g_seq (g_region (kPm rfl rfl (kPv (ev_mkf rfl rfl) rfl (go_pk [1] ?_)))))))))
        refine p_call rfl (en_f Tryz.call16 rfl) (ncrash_ok _ _ bd s5 _ _ _ (hcomCh_c _ _ (4 - 1) _ _ _ (by rw [H5.sk.n]; omega) rfl)) .free rfl rfl ?_ ?_
        rotate_left
        · rintro _ _ ⟨⟩
        rintro _ _ rfl
        obtain ⟨hOk, H6, hl6⟩ := H5.crash hc (chc bits)
        generalize s5.crash (chc bits) = t at hOk H6 hl6 ⊢
        obtain ⟨h6, hh6⟩ : ∃ h6 : HpS, h6 = heapOf bd c t := ⟨_, rfl⟩
        have hT6 : h6.T = ⟨[], [], 0⟩ := by rw [hh6]; rfl
        rw [← hh6] at H6
        refine p_nil (g_seq (g_region (kPm rfl rfl ?_)))
        refine p_call rfl (en_f Tryz.call19 rfl) (hpopen_ok B _ bd t hOk.uu (by rw [hOk.n]; omega)) .free rfl rfl ?_ ?_
        rotate_left
        · rintro _ _ ⟨s9, hE, hun, rfl, rfl⟩
          exact (hOk.noff hun).elim
        rintro _ _ hor
        rcases hor with ⟨e, he, hE, _, _⟩ | ⟨bh6, L', s', hE, hun, rfl, rfl⟩
        · exact absurd (hOk.open_ hc hE) he
        have hs6 := hOk.undo hun
        rw [hs6, show t.readC.1 = c by rw [hOk.rc], ← hh6]
        refine kPm rfl rfl (kPv (ev_ext rfl rfl) rfl (kPv (ev_ext rfl rfl) rfl (kPa rfl rfl (kPa rfl rfl (p_nil (go_sb [11, 14, 6, 1] rfl (g_seq (g_seq (g_region (kPm rfl rfl (kPv (ev_cmp rfl rfl rfl) rfl ?_)))))))))))
        refine kPm rfl rfl (p_val rfl (ev_move rfl) (.on rfl rfl (beq_eq rfl)) rfl rfl (p_val rfl (ev_eqp Tryz.runUnderlying29 rfl rfl rfl) (.on rfl rfl (beq_eq rfl)) rfl rfl (kPv (ev_pick_f rfl rfl rfl) rfl (p_nil (g_iff rfl (rfl) (g_skip (g_seq ?_)))))))
        have hl7 : ∀ j, c.active ≤ j → t.load j = s.load j := fun j hj => by rw [hl6]; exact hl5 j hj
        have hr6 : h6.root t 0 = ((1, 0), { h6 with T := (⟨[(1, c.frm 0 + 0)], [(c.frm 0 + 0, 1)], 1⟩ : TabS) }) := by
          unfold HpS.root
          rw [if_neg (by rw [H6.hcc]; omega), H6.hcc, show c.root 0 = c.active + 2 by simp [Cfg.root], hl7 _ (by omega), hroot, show IntKind.i64.wrap (c.frm 0 + 0) = c.frm 0 + 0 from wr64 (by omega), hT6, take_first (by omega)]
        obtain ⟨h7, hh7⟩ : ∃ h7 : HpS, h7 = { h6 with T := (⟨[(1, c.frm 0 + 0)], [(c.frm 0 + 0, 1)], 1⟩ : TabS) } := ⟨_, rfl⟩
        have H7 := H6.withT (T := (⟨[(1, c.frm 0 + 0)], [(c.frm 0 + 0, 1)], 1⟩ : TabS)) ⟨show (0 : Int) ≤ 1 by decide, show (1 : Int) ≤ 1000000000 by decide⟩ (by show 1 ≤ 800000; decide) (fun p hp => by
          rw [List.mem_singleton.1 hp]; simp only; omega)
        rw [← hh7] at hr6 H7
        have hT7 : h7.T = (⟨[(1, c.frm 0 + 0)], [(c.frm 0 + 0, 1)], 1⟩ : TabS) := by rw [hh7]
        have ho7 : orf t.load (c.frm 0 + 0) = 0 ∧ osz t.load (c.frm 0 + 0) = vs.length + 1 := by
          unfold orf osz at hhd ⊢
          rw [hl7 _ (by omega)]; exact hhd
        have hfld : ∀ j : Nat, (hj : j < vs.length) → t.load (c.frm 0 + 0 + 1 + j) = vs[j] := fun j hj => by rw [hl7 _ (by omega)]; exact hfl j hj (by omega)
        refine g_region (kPm rfl rfl ?_)
        refine p_call rfl (en_f Tryz.call20 rfl) (rootW H6.hw H6.hbd 0) .free rfl rfl ?_ ?_
        rotate_left
        · rintro _ _ ⟨⟩
        rintro _ _ ⟨rfl, rfl⟩
        rw [hr6]
        refine kPm rfl rfl (kPv (ev_ext rfl rfl) rfl (kPv (ev_ext rfl rfl) rfl (kPa rfl rfl (kPa rfl rfl (p_nil (go_sb [15, 14, 6, 1] rfl (g_seq (g_seq (g_region (kPm rfl rfl (kPv (ev_len rfl Tryz.runUnderlying25 ⟨_, rfl⟩ rfl) rfl ?_)))))))))))
        refine kPm rfl rfl (p_nil (g_block (g_loopk (ι := Nat) [103, 102, 15, 14, 6, 1] (fun i2 => (i2 ≤ vs.length)) (fun i2 => [(104, i64 i2)]) (fun i2 => HepA bh6 h7 :: DevA bd t :: mdlRow bm br c.roots.toNat c :: nilRow br c.roots.toNat :: row b5 [w64 bits] 26 :: row b3 [u16 x0, u16 x1, u16 x2] 24 :: Fr) (fun i2 => vs.length - i2) (0) (Nat.zero_le _) (fun a w st => st.to ⟨rfl, trivial⟩ (fun hh => (hh.dp [2]))) ?_)))
        rintro i2 hi20
        try simp only at hi20 ⊢
        refine go_sub (σ' := [(104, i64 i2), (103, _), (102, _), (15, _), (14, _), (6, _), (1, _)]) (sub_r rfl) (g_seq (g_region (kPv (ev_cmp rfl rfl rfl) rfl (p_nil (g_seq ?_)))))
        refine g_if rfl (fun h105 => ?_) (fun h105 => ?_)
        · have hi2 : i2 < vs.length := by simpa using h105
          obtain ⟨bV, oV, rfl⟩ := hq i2 hi2
          have hob7 := H7.obj hc (n := 1) (k := c.frm 0 + 0) (by rw [hT7]; rfl) (by simp)
          have ho8 : orf t.load (c.frm 0) = 0 := by
            have h9 := ho7.1
            simpa using h9
          have hrd : h7.read t 1 i2 = (vs[i2], 0) := by
            unfold HpS.read
            rw [hob7, if_neg (by simp)]
            unfold Dev.objRead
            rw [show objField (osz t.load (c.frm 0 + 0) - 1, orf t.load (c.frm 0 + 0), c.frm 0 + 0) i2 false = (c.frm 0 + 0 + 1 + i2, 0) from by unfold objField; rw [if_neg (by simp only; omega), if_neg (by simp; omega)]]
            rw [if_neg (by simp), hfld i2 hi2]
          refine g_skip (g_seq (g_block (g_seq (g_region (kPm rfl rfl (kPv (ev_iaS Tryz.runUnderlying25 Tryz.sizeOf26 rfl rfl (by omega) (by omega)) rfl ?_))))))
          refine kPv (ev_loadS (v := w64 vs[i2]) Tryz.isAgg26 (hv.up) rfl (by rw [Int.toNat_natCast, List.getElem?_map, List.getElem?_eq_getElem hi2]; rfl)) rfl ?_
          refine kPa rfl rfl (kPa rfl rfl (p_nil (g_seq (g_region (kPm rfl rfl (kPm rfl rfl (kPm rfl rfl (p_callq rfl (en_f Tryz.call21 rfl) (readW_ H7.hw H7.hbd 1 i2) .free rfl rfl ?_))))))))
          refine kPm rfl rfl (kPv (ev_ext rfl rfl) rfl (kPv (ev_ext rfl rfl) rfl (kPa rfl rfl (kPa rfl rfl (p_nil (go_sb [20, 19, 18, 104, 103, 102, 15, 14, 6, 1] rfl (g_seq (g_region (kPm rfl rfl (kPv (ev_cmp rfl rfl rfl) rfl (kPm rfl rfl ?_)))))))))))
          refine p_val rfl (ev_move rfl) (.on rfl rfl (beq_eq (by rw [hrd]; rfl))) rfl rfl (p_val rfl (ev_move rfl) (.on rfl rfl (beq_eq (by rw [hrd]; rfl))) rfl rfl (p_val rfl (ev_cmp rfl rfl rfl) (.on rfl rfl (beq_eq (by rw [hrd]; rfl))) rfl rfl (kPv (ev_pick_f rfl (by rw [hrd]; rfl) rfl) rfl (p_nil (go_sb [122, 104, 103, 102, 15, 14, 6, 1] rfl (g_iff rfl ((by rw [hrd]; simp)) (g_skip (g_region ?_))))))))
          first | refine p_val rfl (ev_add rfl rfl (wr64 (by omega))) .free rfl rfl ?_ | refine p_val rfl (ev_add rfl rfl rfl) .free rfl rfl ?_
          refine kPm rfl rfl (p_nil ?_)
          exact fun a w st_ => ⟨i2 + 1, by omega, by omega, st_.to (sub_r rfl) (fun hh => hh)⟩
        · have hst : (h7.stats t).used = vs.length + 1 := by
            show (h7.blk t).used = _
            rw [H7.blk]; simp
          refine g_exit (g_seq (g_region (kPm rfl rfl (kPv (ev_cmp rfl rfl rfl) rfl (kPm rfl rfl (p_val rfl (ev_move rfl) (.on rfl rfl (beq_eq rfl)) rfl rfl (p_callq rfl (en_f Tryz.call22 rfl) (statsW H7.hw H7.hbd) (.on rfl rfl (beq_eq rfl)) rfl rfl ?_)))))))
          refine p_val rfl (ev_field1 Tryz.runUnderlying58 (t := 3) (off := 0) rfl Tryz.isAgg3 rfl rfl) (.on rfl rfl (beq_eq rfl)) rfl rfl (p_val rfl (ev_move rfl) (.on rfl rfl (beq_eq rfl)) rfl rfl (p_val rfl (ev_len rfl Tryz.runUnderlying25 ⟨_, rfl⟩ rfl) (.on rfl rfl (beq_eq rfl)) rfl rfl ?_))
          first | refine p_val rfl (ev_add rfl rfl (wr64 (by omega))) (.on rfl rfl (beq_eq rfl)) rfl rfl ?_ | refine p_val rfl (ev_add rfl rfl rfl) (.on rfl rfl (beq_eq rfl)) rfl rfl ?_
          refine p_val rfl (ev_cmp rfl rfl rfl) (.on rfl rfl (beq_eq rfl)) rfl rfl (kPv (ev_pick_t rfl rfl rfl) rfl (kPa rfl rfl (p_nil (go_sb [6] rfl (g_ret ?_)))))
          exact ret_tmp Tryz.results3 rfl (fun w hh => ⟨by simp [hst], (hh.dp [0, 0, 0, 0, 0, 0])⟩)


theorem heapCommits_walk (W : World) (z : Int × Int × Int) (w0 : (Lit.int .u16 z.1).wf = true ∧ (Lit.int .u16 z.2.1).wf = true ∧ (Lit.int .u16 z.2.2).wf = true) {l : Option Addr} {len cap : Nat} {xs : List Int} (w1 : len = xs.length ∧ len ≤ 9223372036854775807 ∧ ArgRow W l len 1 (fun i => [w64 (xs.getD i 0)]) ∧ ∀ x ∈ xs, 0 ≤ x ∧ x < 18446744073709551616) (bits : Int) (wb : (Lit.int .u64 bits).wf = true) :
    Calls Tryz.prog 3 #[.agg #[u16 z.1, u16 z.2.1, u16 z.2.2], .slice l len cap, .int .u64 bits] W fun e w' => e = .returned (.bool true) ∧ RowKit.Below W.heap.size W w' := by
  have b0 := bounds_u16 w0.1
  have b1 := bounds_u16 w0.2.1
  have b2 := bounds_u16 w0.2.2
  obtain ⟨rfl, w3, w4, w5⟩ := w1
  exact law_of (heapCommits_ok W [old W] z.1 z.2.1 z.2.2 ⟨b0.1, b1.1, b2.1⟩ l cap xs (slr_u64 w4) w5 w3 (some_u64 w4) bits)

namespace heapCommits
open Go.ChangeShapes Go.WideShapes Go.ChangeAt Go.RowKit
set_option maxRecDepth 100000 in
theorem lifted (os : Os) (started : os.Started) (H : Type) (enc : TypeId × Value → H) :
    ReturnsInHanded {} Tryz.checked os 3 .any (Rows.heapCommitsSpec.pre6 enc Tryz.prog Tryz.f3 Rows.heapCommitsRow.domain false) (Rows.heapCommitsSpec.post enc Tryz.prog Tryz.f3 false true false false) := by
  refine returnsInHanded_of_change (C := Tryz.checked) Tryz.ownKnobs started (by kernel_rfl) Tryz.func3
    (ChangeSpec.witness6 (enc := enc) (C := Tryz.checked) false ⟨#[], #[.agg #[.int .u16 0, .int .u16 0, .int .u16 0], .slice none 0 0, .int .u64 0], []⟩ 8 (by kernel_rfl) (by kernel_rfl) (by kernel_rfl) (by kernel_rfl)) ?_
  intro W base args ds gs before hval0 hW hcnd _
  have hval : ∀ (j : Nat) t v, Tryz.f3.params[j]? = some t → args[j]? = some v → Value.okWide Tryz.prog W .any base t v := hval0
  have hW' := hW
  obtain ⟨p, q, hA0, hV, rfl, hfz, hnd⟩ := hW
  have hA : DataW.TrodAll enc Tryz.prog W 0 (fun _ => true) true Tryz.f3.params.toList args.toList ds p := hA0
  rw [Tryz.params3] at hA hval
  obtain ⟨v0, vs0, d0, ds0, p0, q0, hargs, rfl, rfl, h0, r0⟩ := trodAll_cons hA
  obtain ⟨v1, vs1, d1, ds1, p1, q1, rfl, rfl, rfl, h1, r1⟩ := trodAll_cons r0
  obtain ⟨v2, vs2, d2, ds2, p2, q2, rfl, rfl, rfl, h2, r2⟩ := trodAll_cons r1
  obtain ⟨rfl, rfl, rfl⟩ := trodAll_nil r2
  obtain rfl : args = #[v0, v1, v2] := by cases args; simp_all
  obtain ⟨rfl, rfl⟩ := trodVars_none hV
  have k0 := h0
  have lt0 : ∀ x ∈ p0, x.block < W.heap.size := by obtain ⟨m, hm⟩ := k0; exact DataW.trod_lt m _ _ _ hm
  obtain ⟨z0, rfl, w0⟩ := arg_st_u16_u16_u16 (hval 0 24 v0 rfl rfl) h0
  obtain ⟨a1, len1, cap1, rfl⟩ := okWide_slice Tryz.underlying25 (hval 1 25 v1 rfl rfl)
  have k1 := h1
  have lt1 : ∀ x ∈ p1, x.block < W.heap.size := by obtain ⟨m, hm⟩ := k1; exact DataW.trod_lt m _ _ _ hm
  obtain ⟨z1, w1⟩ := arg_sl_u64b h1
  have k2 := h2
  have lt2 : ∀ x ∈ p2, x.block < W.heap.size := by obtain ⟨m, hm⟩ := k2; exact DataW.trod_lt m _ _ _ hm
  obtain ⟨a2, rfl, w2⟩ : ∃ a, v2 = .int .u64 a ∧ (Lit.int .u64 a).wf = true := by
    obtain ⟨a, e, _, _, wa⟩ := open_int Tryz.underlying26 (hval 2 26 v2 rfl rfl) h2
    exact ⟨a, e, wa⟩
  clear hA0 hval0
  refine (heapCommits_walk W z0 w0 w1 a2 w2).mono fun e W' ⟨he, bel⟩ => ?_
  subst he
  exact ⟨_, rfl, _, _, _, [], _, [], hW', trodAll_mk1 (shut_bool Tryz.underlying4 _), (trodAll_cons_mk (Below.trod Tryz.laidOut (by kernel_rfl) (of_decide_eq_true (by kernel_rfl)) k0 bel lt0) (trodAll_cons_mk (Below.trod Tryz.laidOut (by kernel_rfl) (of_decide_eq_true (by kernel_rfl)) k1 bel lt1) (trodAll_cons_mk (Below.trod Tryz.laidOut (by kernel_rfl) (of_decide_eq_true (by kernel_rfl)) k2 bel lt2) trodAll_mk0))), rfl, bel.frame _, fun h => by cases h⟩
theorem over : Rows.heapCommitsRow.holds Tryz.pinned (OpenSpec.ofChange Rows.heapCommitsSpec) :=
  OpenClaim.holds_of_wide 3 Tryz.f3 rfl rfl rfl rfl rfl rfl rfl ⟨rfl, rfl, rfl, rfl, rfl⟩ rfl rfl rfl rfl rfl (by kernel_rfl) Tryz.func3 (by kernel_rfl)
    (of_decide_eq_true (by kernel_rfl)) (by unfold Func.isWrapper; first | (rw [if_pos (by decide +kernel)]; kernel_rfl) | (rw [if_neg (by decide +kernel)]; exact ⟨rfl, rfl⟩))
    (fun os started H enc _ => lifted os started H enc)
/-- The statement. -/
theorem proved : Rows.HeapCommitsSaid := over
end heapCommits

end Go.Proofs.YtlcibdhmgclfjaaGreat
