/- The law FlipCollects. Conditions: none. -/
import Derived.Test.YtbfheafpecgphaaGreatQL15Fn
set_option linter.unusedSimpArgs false
set_option linter.unusedVariables false
set_option linter.unnecessarySimpa false
set_option linter.unusedSectionVars false
namespace Go.Proofs.YtbfheafpecgphaaGreat
set_option linter.unusedSimpArgs false
set_option linter.unusedVariables false
open Go
theorem vec_slrn {B : World} {H : List HP} {T : TypeId} {enc : Int → Value} {xs : List Int} {q : Option Addr} {cap n : Nat} (hn : xs.length = n) (i : Nat) (e : H[i]? = some (VecA T enc 0 (.slice q n cap, xs))) : SlR B H (.slice q n cap) (xs.map enc) := by
  subst hn; exact vec_slr i e
/-- Words put in place, up to a place. -/
def midL (f : Int → Int) (ws : List Int) (i : Nat) : List Int := (ws.take i).map f ++ ws.drop i
theorem sumI_take {f : Int → Int} {l : List Int} {k : Nat} (h : k < l.length) : sumI f (l.take (k + 1)) = sumI f (l.take k) + f l[k] := by
  unfold sumI
  rw [List.take_succ_eq_append_getElem h, List.map_append, List.sum_append]
  simp
theorem mid_len {f : Int → Int} {ws : List Int} {i : Nat} : (midL f ws i).length = ws.length := by
  unfold midL; rw [List.length_append, List.length_map, List.length_take, List.length_drop]; omega
theorem mid_zero {f : Int → Int} {ws : List Int} : midL f ws 0 = ws := rfl
theorem mid_end {f : Int → Int} {ws : List Int} : midL f ws ws.length = ws.map f := by simp [midL]
theorem mid_get {f : Int → Int} {ws : List Int} {i : Nat} (h : i < ws.length) : (midL f ws i)[i]? = some ws[i] := by
  unfold midL
  rw [List.getElem?_append_right (by rw [List.length_map, List.length_take]; omega), List.length_map, List.length_take, show i - min i ws.length = 0 by omega, List.getElem?_drop, Nat.add_zero, List.getElem?_eq_getElem h]
theorem mid_set {f : Int → Int} {ws : List Int} {i : Nat} (h : i < ws.length) : (midL f ws i).set i (f ws[i]) = midL f ws (i + 1) := by
  unfold midL
  rw [List.set_append_right _ _ (by rw [List.length_map, List.length_take]; omega), List.length_map, List.length_take, show i - min i ws.length = 0 by omega, List.drop_eq_getElem_cons h, List.set_cons_zero, List.take_succ_eq_append_getElem h, List.map_append, List.append_assoc]
  rfl

theorem sopenR_ok (B : World) (Fr : List HP) (bs bl : Nat) (S : SecS) (o1 o2 : Option Nat) :
    ∀ w, Holds B (secRow bs bl S false o1 o2 :: Fr) w → Calls Tryz.prog 53 [ptr bs].toArray w (PureR B (secRow bs bl S false o1 o2 :: Fr) (.bool false)) := by
  refine fn_enter Tryz.func53 rfl Tryz.ntmps53 rfl ?_; refine g_seq ?_; refine g_region ?_; refine kPa rfl rfl ?_; refine p_nil ?_; refine g_seq ?_; refine g_region ?_; refine kPm rfl rfl ?_
  first | refine kPv (ev_nil rfl) rfl ?_ | refine kPv (ev_nilf rfl) rfl ?_
  refine kPv (ev_fa (m := _) fa_44_3 rfl rfl) rfl ?_; refine kPv (ev_load Tryz.isAgg4 rfl rfl) rfl ?_; refine kPa rfl rfl ?_; refine p_nil ?_; refine g_ret ?_
  exact ret_tmp Tryz.results53 rfl (fun w hh => ⟨rfl, hh⟩)


theorem fcollect_n (B : World) (Fr : List HP) (bs bd : Nat) (S : SecS) (c : Cfg) (hc : CfgW c) (s : Dev) (hu : U64 s) (hK : SecK S bd c s) (q : Option Addr) (cap n : Nat) (ws : List Int) (hn : ws.length = n) (hwn : n ≤ 900000) (hws : ∀ v ∈ ws, 0 ≤ v ∧ v < 18446744073709551616) (hwl : SlR B Fr (.slice q n cap) (ws.map w64)) {r : Option ColS × Int × SecS} {s' : Dev} {X : ColS} (hr : collectM bd c S s ws = .ok r s') (hX : r.1 = some X) :
    ∀ w, Holds B (SecC bs S :: DevA bd s :: Fr) w → Calls Tryz.prog 14 [ptr bd, cfgV c, ptr bs, .slice q n cap].toArray w (Ret B (fun rv H' => ∃ x, rv = .tuple #[ptr x, i64 0] ∧ H' = ColA x X :: SecC bs r.2.2 :: DevA bd s' :: Fr) (fun _ _ => False)) := fun w hw => by
  subst hn
  refine (fcollect_ok B Fr bs bd S c hc s hu hK q cap ws hwn hws hwl w hw).mono (Ret.mono (fun rv H' h => ?_) (fun ch H' h => ?_))
  · obtain ⟨r2, s2, e, hor⟩ := h
    rw [hr] at e
    cases e
    rcases hor with ⟨h1, _⟩ | ⟨x, X2, h1, _, h2, h3⟩
    · rw [hX] at h1; cases h1
    · rw [hX] at h1; cases h1; exact ⟨x, h2, h3⟩
  · obtain ⟨s9, e, _⟩ := h
    rw [hr] at e; cases e


theorem eq_part (B : World) (H : List HP) (b1 b2 o c1 c2 n N1 N2 : Nat) (r1 r2 : List Value) (T1 T2 : TypeId) {U1 U2 : List Value → List HP} (f g : Nat → Int) (hn : n ≤ 1000000) (h1 : o + n ≤ N1) (h2 : o + n ≤ N2) [RowU H b1 (tab N1 (fun i => w64 (f i)) ++ r1) T1 U1] [RowU H b2 (tab N2 (fun i => w64 (g i)) ++ r2) T2 U2] (he : ∀ i, i < n → f (o + i) = g (o + i)) :
    ∀ w, Holds B H w → Calls Tryz.prog 26 [.slice (some ⟨b1, o, none⟩) n c1, .slice (some ⟨b2, o, none⟩) n c2].toArray w (PureR B H (.bool true)) := by
  have s1 : ∀ (h : Nat → Int) (r : List Value) (N : Nat), o + n ≤ N → ((tab N (fun i => w64 (h i)) ++ r).drop o).take n = (tab n fun j => w64 (h (o + j))) := fun h r N e => by
    rw [List.drop_append_of_le_length (by rw [tab_len]; omega), List.take_append_of_le_length (by rw [List.length_drop, tab_len]; omega), tab_slice e]
  have h0 := equal_ok B H (some ⟨b1, o, none⟩) (some ⟨b2, o, none⟩) c1 c2 (tab n fun j => f (o + j)) (tab n fun j => g (o + j)) (by rw [tab_len]; exact hn) (by rw [tab_len]; exact hn) (fun _ _ => ⟨_, _, rfl⟩) (fun _ _ => ⟨_, _, rfl⟩)
  rw [tab_len, tab_len, tab_map, tab_map, show (decide ((tab n fun j => f (o + j)) = (tab n fun j => g (o + j)))) = true from decide_eq_true (tab_congr he)] at h0
  exact h0 (SlR.row (s1 f r1 _ h1) (tab_len _ _)) (SlR.row (s1 g r2 _ h2) (tab_len _ _))

theorem flipCollects_ok (B : World) (Fr : List HP) (x0 x1 x2 : Int) (hx : 0 ≤ x0 ∧ 0 ≤ x1 ∧ 0 ≤ x2) (hs : List (Int × Int)) (hhs : ∀ h ∈ hs, (0 ≤ h.1 ∧ h.1 < 256) ∧ (0 ≤ h.2 ∧ h.2 < 256)) (hlen0 : hs.length ≤ 9223372036854775807) (q : Option Addr) (cap : Nat) (hv : SlN B Fr (.slice q hs.length cap) 2 (hs.map fun h => [u8 h.1, u8 h.2])) (ql : Option Addr) (cl : Nat) (l : List Int) (hl : SlR B Fr (.slice ql l.length cl) (l.map u16)) (hlb : ∀ x ∈ l, 0 ≤ x ∧ x < 65536) (hll0 : l.length ≤ 9223372036854775807) (hql : ∀ i, i < l.length → ∃ b off, ql = some ⟨b, off, none⟩) (qf : Option Addr) (cf : Nat) (lf : List Int) (hfl : SlR B Fr (.slice qf lf.length cf) (lf.map u16)) (hfb : ∀ x ∈ lf, 0 ≤ x ∧ x < 65536) (hfl0 : lf.length ≤ 9223372036854775807) (hqf : ∀ i, i < lf.length → ∃ b off, qf = some ⟨b, off, none⟩) (tm : Int) (htm : 0 ≤ tm ∧ tm < 256) :
    ∀ w, Holds B Fr w → Calls Tryz.prog 7 [.agg #[u16 x0, u16 x1, u16 x2], .slice q hs.length cap, .slice ql l.length cl, .slice qf lf.length cf, u8 tm].toArray w (PureR B Fr (.bool true)) := by
  refine fn_enter Tryz.func7 rfl Tryz.ntmps7 rfl ?_
  obtain ⟨c, hcm⟩ : ∃ c, c = mkC x0 x1 x2 := ⟨_, rfl⟩
  have hc : CfgW c := by rw [hcm]; exact mkC_w hx.1 hx.2.1 hx.2.2
  have hA := act_w hc
  refine g_seq ?_; refine g_region ?_; refine p_chg rfl (ch_boxA rfl) .free rfl rfl ?_
  rintro _ _ ⟨b5, rfl, rfl⟩
  refine kPa rfl rfl ?_; refine p_nil ?_; refine g_seq ?_; refine g_seq ?_; refine g_region ?_; refine p_callq rfl (en_f Tryz.call11 rfl) (awake15_ok _ _) .free rfl rfl ?_; refine kPv (ev_not rfl) rfl ?_; refine p_nil ?_; refine g_iff rfl (rfl) ?_; refine g_skip ?_; refine g_seq ?_; refine g_seq ?_; refine g_region ?_; refine kPm rfl rfl ?_; refine kPv (ev_len rfl Tryz.runUnderlying25 ⟨_, rfl⟩ rfl) rfl ?_; refine kPv (ev_cmp rfl rfl rfl) rfl ?_; refine kPm rfl rfl ?_
  apply p_or (tp := 44) (t := 40) (σ1 := [(40, _), (10, _), (5, _), (1, _), (2, _), (3, _), (4, _)]) 4 rfl ⟨rfl, rfl, rfl, rfl, rfl, rfl, rfl, trivial⟩
  · intro hg1
    refine p_val rfl (ev_move rfl) (.on rfl rfl (beq_eq hg1)) rfl rfl ?_; refine p_val rfl (ev_len rfl Tryz.runUnderlying26 ⟨_, rfl⟩ rfl) (.on rfl rfl (beq_eq hg1)) rfl rfl ?_; refine p_val rfl (ev_cmp rfl rfl rfl) (.on rfl rfl (beq_eq hg1)) rfl rfl ?_; refine kPv (ev_pick_f rfl hg1 rfl) rfl ?_
    exact p_seg rfl ⟨rfl, rfl, rfl, rfl, rfl, rfl, rfl, trivial⟩ (or_f hg1)
  · intro hg1
    refine p_skip rfl (.on rfl rfl (beq_ne hg1)) rfl ?_; refine p_skip rfl (.on rfl rfl (beq_ne hg1)) rfl ?_; refine p_skip rfl (.on rfl rfl (beq_ne hg1)) rfl ?_; refine kPv (ev_pick_t rfl hg1 rfl) rfl ?_
    exact p_seg rfl ⟨rfl, rfl, rfl, rfl, rfl, rfl, rfl, trivial⟩ (or_t hg1)
  refine kPm rfl rfl ?_
  apply p_or (tp := 49) (t := 45) (σ1 := [(45, _), (10, _), (5, _), (1, _), (2, _), (3, _), (4, _)]) 4 rfl ⟨rfl, rfl, rfl, rfl, rfl, rfl, rfl, trivial⟩
  · intro hg2
    refine p_val rfl (ev_move rfl) (.on rfl rfl (beq_eq hg2)) rfl rfl ?_; refine p_val rfl (ev_len rfl Tryz.runUnderlying26 ⟨_, rfl⟩ rfl) (.on rfl rfl (beq_eq hg2)) rfl rfl ?_; refine p_val rfl (ev_cmp rfl rfl rfl) (.on rfl rfl (beq_eq hg2)) rfl rfl ?_; refine kPv (ev_pick_f rfl hg2 rfl) rfl ?_
    exact p_seg rfl ⟨rfl, rfl, rfl, rfl, rfl, rfl, rfl, trivial⟩ (or_f hg2)
  · intro hg2
    refine p_skip rfl (.on rfl rfl (beq_ne hg2)) rfl ?_; refine p_skip rfl (.on rfl rfl (beq_ne hg2)) rfl ?_; refine p_skip rfl (.on rfl rfl (beq_ne hg2)) rfl ?_; refine kPv (ev_pick_t rfl hg2 rfl) rfl ?_
    exact p_seg rfl ⟨rfl, rfl, rfl, rfl, rfl, rfl, rfl, trivial⟩ (or_t hg2)
  refine p_nil ?_
  refine g_if rfl (fun h49 => ?_) (fun h49 => ?_)
  · try simp only [decide_eq_true_eq, decide_eq_false_iff_not, Bool.not_eq_true', Bool.not_eq_false', Bool.or_eq_true, Bool.and_eq_true, Bool.and_eq_false_iff, Bool.or_eq_false_iff, beq_iff_eq, bne_iff_ne, beq_eq_false_iff_ne, bne_eq_false_iff_eq, ge_iff_le, gt_iff_lt, ne_eq] at h49
    refine g_seq ?_; refine g_region ?_; refine kPa rfl rfl ?_; refine p_nil ?_; refine g_ret ?_
    exact ret_tmp Tryz.results7 rfl (fun w hh => ⟨rfl, (hh.dp [0])⟩)
  · have hlen : hs.length ≤ 25 ∧ l.length ≤ 60 ∧ lf.length ≤ 10 := by simp at h49; omega
    obtain ⟨hlen1, hlen2, hlen3⟩ := hlen
    refine g_skip ?_; refine g_seq ?_; refine g_region ?_; refine kPv (ev_loadA Tryz.isAgg24 Tryz.sizeOf24 rfl rfl) rfl ?_; refine kPm rfl rfl ?_; refine kPm rfl rfl ?_
    refine p_call rfl (en_f Tryz.call12 rfl) (linked_ok B _ x0 x1 x2 hx c hcm hs hhs (by omega) q cap hv.up ql cl l hl.up hlb (by omega) hql 0 (by decide)) .free rfl rfl ?_ ?_
    rotate_left
    · rintro _ _ ⟨⟩
    rintro _ _ ⟨bd, pa, N, s0, sF, out, hfm, hN, ⟨hus0, hf⟩, hfill, hor⟩
    rcases hor with ⟨n1, n2, s1', s2, ov, sv, hl1, hl2, hu2, hlm2, hn2, hov, hsv, rfl, rfl⟩ | ⟨s1', hl1, _⟩
    rotate_left
    · exact (linked_not hc hN hfm hus0 hhs hfill l hl1).elim
    obtain ⟨⟨u, hFi⟩, hSK0⟩ := linked_sk hc hN hfm hus0 hhs hfill l hl1 hl2 bd
    have hb0a : (s2.block c).1.act = 0 := by rw [hFi.block]
    have hb2 : s2.block c = ((s2.block c).1, 0) := by rw [hFi.block]
    have hhp := hFi.heap
    have hbw := block_w (s := s2) hc hu2
    have hbl := block_len (s := s2) hc
    generalize (s2.block c).1 = b0 at *
    have hHI : HI c N bd (⟨openL bd c s2, 0, 0, [], []⟩ : SecS) s2 b0 out := ⟨hSK0, hb2, hhp⟩
    have hol : out.length ≤ 100000 := by
      have h1 := hhp.tile.len
      have h2 := hbw.used
      have h3 := hc.s2
      unfold Blk.place at h1
      omega
    have hob : ∀ x ∈ out, 0 ≤ x ∧ x ≤ 1000000 := fun x hx => by have := heap_b hc hbw hhp hx; omega
    refine kPm rfl rfl ?_; refine kPv (ev_ext rfl rfl) rfl ?_; refine kPv (ev_ext rfl rfl) rfl ?_; refine kPv (ev_ext rfl rfl) rfl ?_; refine kPv (ev_ext rfl rfl) rfl ?_; refine p_chg rfl (ch_allocA Tryz.zeroValue30 rfl) .free rfl rfl ?_
    rintro _ _ ⟨b12, rfl, rfl⟩
    refine p_chg rfl (ch_allocA Tryz.zeroValue33 rfl) .free rfl rfl ?_
    rintro _ _ ⟨b13, rfl, rfl⟩
    refine kPa rfl rfl ?_; refine p_chg0 rfl (ch_storeA (vs := _) Tryz.sizeOf30 rfl rfl rfl rfl rfl) .free rfl ?_
    rintro _ _ rfl
    refine p_chg0 rfl (ch_storeA (vs := _) Tryz.sizeOf33 rfl rfl rfl (by first | rfl | exact all3 (by assumption)) rfl) .free rfl ?_
    rintro _ _ rfl
    refine kPa rfl rfl ?_; refine p_nil ?_; refine go_sub (σ' := [(14, _), (11, _), (13, _), (12, _), (10, _), (3, _), (4, _)]) ⟨rfl, rfl, rfl, rfl, rfl, rfl, rfl, trivial⟩ ?_; refine g_seq ?_; refine g_seq ?_; refine go_conv (H' := row b13 [i64 b0.act, i64 b0.used, sv] 33 :: row b12 [i64 c.log, i64 c.roots, i64 c.space] 30 :: VecU 0 (sv, b0.rts) :: DevA bd s2 :: VecA 3 i64 0 (ov, out) :: row b5 [u16 x0, u16 x1, u16 x2] 24 :: Fr) (fun w hh => by have h := hh; exact h) ?_
    refine go_pk [2] ?_; refine go_vecq fun qb cb hqb hqbi => ?_
    subst hqb
    refine go_pk [4] ?_; refine go_vecq fun qo co hqo' hqo => ?_
    subst hqo'
    refine g_region ?_; refine kPm rfl rfl ?_; refine kPv (ev_eqp Tryz.runUnderlying28 rfl rfl rfl) rfl ?_; refine p_nil ?_; refine g_iff rfl (rfl) ?_; refine g_skip ?_; refine g_seq ?_; refine g_region ?_; refine kPm rfl rfl ?_; refine kPv (ev_loadA Tryz.isAgg30 Tryz.sizeOf30 rfl rfl) rfl ?_; refine go_pk [4] ?_
    refine p_call rfl (en_f Tryz.call13 rfl) (snew_ok _ _ bd s2 c hc) .free rfl rfl ?_ ?_
    rotate_left
    · rintro _ _ ⟨⟩
    rintro _ _ ⟨bs, rfl, rfl⟩
    refine kPa rfl rfl ?_; refine p_nil ?_; refine g_seq ?_; refine g_seq ?_; refine g_region ?_; refine go_secC fun bl o1 o2 => ?_; refine kPm rfl rfl ?_; refine kPv (ev_eqp Tryz.runUnderlying37 rfl rfl rfl) rfl ?_; refine kPm rfl rfl ?_
    apply p_or (tp := 72) (t := 66) (σ1 := [(66, _), (15, _), (14, _), (11, _), (13, _), (12, _), (10, _), (3, _), (4, _)]) 6 rfl ⟨rfl, rfl, rfl, rfl, rfl, rfl, rfl, rfl, rfl, trivial⟩
    · intro hg3
      refine p_val rfl (ev_move rfl) (.on rfl rfl (beq_eq hg3)) rfl rfl ?_
      first | refine p_val rfl (ev_nil rfl) (.on rfl rfl (beq_eq hg3)) rfl rfl ?_ | refine p_val rfl (ev_nilf rfl) (.on rfl rfl (beq_eq hg3)) rfl rfl ?_
      refine p_val rfl (ev_fa (m := _) fa_44_0 rfl rfl) (.on rfl rfl (beq_eq hg3)) rfl rfl ?_; refine p_val rfl (ev_load Tryz.isAgg39 rfl rfl) (.on rfl rfl (beq_eq hg3)) rfl rfl ?_; refine p_val rfl (ev_eqp Tryz.runUnderlying39 rfl rfl rfl) (.on rfl rfl (beq_eq hg3)) rfl rfl ?_; refine kPv (ev_pick_f rfl hg3 rfl) rfl ?_
      exact p_seg rfl ⟨rfl, rfl, rfl, rfl, rfl, rfl, rfl, rfl, rfl, trivial⟩ (or_f hg3)
    · intro hg3
      refine p_skip rfl (.on rfl rfl (beq_ne hg3)) rfl ?_; refine p_skip rfl (.on rfl rfl (beq_ne hg3)) rfl ?_; refine p_skip rfl (.on rfl rfl (beq_ne hg3)) rfl ?_; refine p_skip rfl (.on rfl rfl (beq_ne hg3)) rfl ?_; refine p_skip rfl (.on rfl rfl (beq_ne hg3)) rfl ?_; refine kPv (ev_pick_t rfl hg3 rfl) rfl ?_
      exact p_seg rfl ⟨rfl, rfl, rfl, rfl, rfl, rfl, rfl, rfl, rfl, trivial⟩ (or_t hg3)
    refine p_nil ?_; refine g_iff rfl (rfl) ?_; refine g_skip ?_; refine g_seq ?_; refine go_conv (fun w hh => secC_holds (S := (⟨openL bd c s2, 0, 0, [], []⟩ : SecS)) hh) ?_; refine g_region ?_; refine kPa rfl rfl ?_; refine p_nil ?_; refine g_seq ?_; refine g_seq ?_; refine go_conv (fun w hh => vec_nil (T := 52) (enc := w64) hh) ?_; refine g_region ?_; refine kPm rfl rfl ?_; refine kPm rfl rfl ?_
    refine p_call rfl (en_f Tryz.call47 rfl) (pick_ok B _ qo co out (by omega) hob hqo (vec_slr 3 rfl) qf cf lf (by omega) hfb hqf hfl.up) .free rfl rfl ?_ ?_
    rotate_left
    · rintro _ _ ⟨⟩
    rintro _ _ ⟨P, hrv, hPl, hPb, rfl⟩
    refine go_vecq fun qp cp hqp hqpi => ?_
    subst hqp
    refine kPv (ev_len rfl Tryz.runUnderlying31 ⟨_, rfl⟩ rfl) rfl ?_; refine kPm rfl rfl ?_; refine p_nil ?_; refine g_block ?_
    refine g_loopk (ι := Nat × Value × List Int) [76, 75, 15, 14, 11, 13, 12, 10, 4] (fun (k, wv, ws) => (k ≤ P.length) ∧ (cell1 wv = true) ∧ (∀ w ∈ ws, w ∈ out) ∧ (ws.length ≤ k)) (fun (k, wv, ws) => [(77, i64 k), (16, wv)]) (fun (k, wv, ws) => VecA 52 w64 0 (.slice qp P.length cp, P) :: VecA 52 w64 0 (wv, ws) :: SecC bs (⟨openL bd c s2, 0, 0, [], []⟩ : SecS) :: DevA bd s2 :: row b13 [i64 b0.act, i64 b0.used, .slice qb b0.rts.length cb] 33 :: row b12 [i64 c.log, i64 c.roots, i64 c.space] 30 :: VecU 0 (.slice qb b0.rts.length cb, b0.rts) :: VecA 3 i64 0 (.slice qo out.length co, out) :: row b5 [u16 x0, u16 x1, u16 x2] 24 :: Fr) (fun (k, wv, ws) => P.length - k) (0, .slice none 0 0, []) (⟨Nat.zero_le _, rfl, fun _ h => (by cases h), Nat.zero_le _⟩) (fun a w st => st.to ⟨rfl, rfl, trivial⟩ (fun hh => (hh.pk [0, 0, 0, 0, 2, 2, 1]))) ?_
    rintro ⟨k, wv, ws⟩ ⟨hk0, hwv, hwi, hwl⟩
    try simp only at hk0 hwv hwi hwl ⊢
    refine go_sub (σ' := [(77, i64 k), (16, wv), (76, _), (75, _), (15, _), (14, _), (11, _), (13, _), (12, _), (10, _), (4, _)]) ⟨rfl, rfl, rfl, rfl, rfl, rfl, rfl, rfl, rfl, rfl, rfl, trivial⟩ ?_; refine g_seq ?_; refine g_region ?_; refine kPv (ev_cmp rfl rfl rfl) rfl ?_; refine p_nil ?_; refine g_seq ?_
    refine g_if rfl (fun h78 => ?_) (fun h78 => ?_)
    · have hk : k < P.length := by simp at h78; omega
      have hpk := hPb P[k] (List.getElem_mem hk)
      obtain ⟨bP, oP, rfl⟩ := hqpi k hk
      refine g_skip ?_; refine g_seq ?_; refine g_block ?_; refine g_seq ?_; refine g_region ?_; refine kPv (ev_iaS Tryz.runUnderlying31 Tryz.sizeOf52 rfl rfl (by omega) (by omega)) rfl ?_
      refine kPv (ev_loadS (v := w64 P[k]) Tryz.isAgg52 (vec_slr 0 rfl) rfl (by rw [Int.toNat_natCast, List.getElem?_map, List.getElem?_eq_getElem hk]; rfl)) rfl ?_
      refine kPa rfl rfl ?_; refine p_nil ?_; refine g_seq ?_; refine g_region ?_; refine kPm rfl rfl ?_; refine kPm rfl rfl ?_; refine kPv (ev_conv Tryz.runUnderlying52 Tryz.runUnderlying3 rfl (wr64 (by omega))) rfl ?_; refine p_callq rfl (en_f Tryz.call48 rfl) (conti_ok _ _ qo co out P[k] (by omega) hqo (vec_slr 7 rfl)) .free rfl rfl ?_; refine p_nil ?_
      refine g_if rfl (fun h84 => ?_) (fun h84 => ?_)
      · have hin : P[k] ∈ out := by simpa using h84
        refine g_region ?_; refine kPm rfl rfl ?_; refine kPm rfl rfl ?_; refine p_chg rfl (ch_bs1 Tryz.runUnderlying31 Tryz.sizeOf52 Tryz.zeroValue52 rfl rfl rfl) .free rfl rfl ?_
        rintro _ _ ⟨b87, rfl, rfl⟩
        refine go_pk [2, 0] ?_; refine p_chg rfl (ch_append_vec rfl rfl Tryz.runUnderlying31 Tryz.runUnderlying31 ⟨_, rfl⟩ Tryz.sizeOf52 Tryz.zeroValue52 rfl (fun _ => rfl) tb_52 rfl rfl (by omega)) .free rfl rfl ?_
        rintro sv9 _ ⟨hsv9, rfl⟩
        refine kPa rfl rfl ?_; refine p_nil ?_; refine go_sub (σ' := [(16, _), (77, _), (76, _), (75, _), (15, _), (14, _), (11, _), (13, _), (12, _), (10, _), (4, _)]) ⟨rfl, rfl, rfl, rfl, rfl, rfl, rfl, rfl, rfl, rfl, rfl, trivial⟩ ?_; refine g_region ?_
        first | refine p_val rfl (ev_add rfl rfl (wr64 (by omega))) .free rfl rfl ?_ | refine p_val rfl (ev_add rfl rfl rfl) .free rfl rfl ?_
        refine kPm rfl rfl ?_; refine p_nil ?_
        exact fun a w st_ => ⟨(k + 1, sv9, ws ++ [P[k]]), ⟨by omega, hsv9, fun w hw => by
      rcases List.mem_append.1 hw with hw | hw
      · exact hwi w hw
      · rw [List.mem_singleton.1 hw]; exact hin, by simp; omega⟩, by omega, st_.to ⟨rfl, rfl, rfl, rfl, rfl, rfl, rfl, rfl, rfl, rfl, rfl, trivial⟩ (fun hh => (hh.pk [1]))⟩
      · skip
        refine g_skip ?_; refine g_region ?_
        first | refine p_val rfl (ev_add rfl rfl (wr64 (by omega))) .free rfl rfl ?_ | refine p_val rfl (ev_add rfl rfl rfl) .free rfl rfl ?_
        refine kPm rfl rfl ?_; refine p_nil ?_; refine go_sub (σ' := [(77, _), (16, _), (76, _), (75, _), (15, _), (14, _), (11, _), (13, _), (12, _), (10, _), (4, _)]) ⟨rfl, rfl, rfl, rfl, rfl, rfl, rfl, rfl, rfl, rfl, rfl, trivial⟩ ?_
        exact fun a w st_ => ⟨(k + 1, wv, ws), ⟨by omega, hwv, hwi, by first | omega | (simp only; omega)⟩, by omega, st_.to ⟨rfl, rfl, rfl, rfl, rfl, rfl, rfl, rfl, rfl, rfl, rfl, trivial⟩ (fun hh => hh)⟩
    · have hk : k = P.length := by simp at h78; omega
      refine g_exit ?_; refine g_seq ?_; refine go_pk [1] ?_; refine go_vecq fun qw cw hqw hqwi => ?_
      subst hqw
      refine g_region ?_; refine kPv (ev_fa (m := _) fa_33_2 rfl rfl) rfl ?_; refine kPv (ev_load Tryz.isAgg31 rfl rfl) rfl ?_
      refine p_call rfl (en_f Tryz.call49 rfl) (clone64v_ok _ _ qb cb b0.rts (by omega) (fun h => List.eq_nil_of_length_eq_zero (Nat.eq_zero_of_not_pos fun h0 => by obtain ⟨b, o, e⟩ := hqbi 0 h0; rw [h] at e; cases e)) (vec_slr 6 rfl)) .free rfl rfl ?_ ?_
      rotate_left
      · rintro _ _ ⟨⟩
      rintro fv _ ⟨hfv, rfl⟩
      refine kPm rfl rfl ?_; refine p_chg rfl (ch_append_vecs0 (yv := .slice qw ws.length cw) (ys := ws) rfl rfl Tryz.runUnderlying31 Tryz.runUnderlying31 ⟨_, rfl⟩ Tryz.sizeOf52 Tryz.zeroValue52 rfl (fun _ => rfl) tb_52 rfl rfl (vec_slr (1 - 1) rfl) (by omega)) .free rfl rfl ?_
      rintro f2 _ ⟨hf2, rfl⟩
      refine kPa rfl rfl ?_; refine p_nil ?_; refine go_sub (σ' := [(19, _), (16, _), (15, _), (11, _), (13, _), (12, _), (10, _), (4, _)]) ⟨rfl, rfl, rfl, rfl, rfl, rfl, rfl, rfl, trivial⟩ ?_; refine g_seq ?_; refine g_region ?_; refine kPa rfl rfl ?_; refine p_nil ?_; refine g_seq ?_; refine g_seq ?_; refine go_vecq fun q1 c1 hq1' hq1 => ?_
      subst hq1'
      have hwz : ∀ w ∈ ws, w = 0 ∨ w ∈ out := fun w hw => .inr (hwi w hw)
      have hfs : ∀ w ∈ b0.rts ++ ws, w = 0 ∨ w ∈ out := fun w hw => (List.mem_append.1 hw).elim (hhp.roots w) (hwz w)
      refine g_region ?_; refine kPm rfl rfl ?_; refine kPv (ev_loadA Tryz.isAgg30 Tryz.sizeOf30 rfl rfl) rfl ?_; refine kPv (ev_loadA Tryz.isAgg33 Tryz.sizeOf33 rfl rfl) rfl ?_; refine kPm rfl rfl ?_; refine go_pk [4] ?_
      refine p_call rfl (en_f Tryz.call50 rfl) (reached_ok B _ bd s2 c hc b0 (.slice qb b0.rts.length cb) hbw rfl out hhp q1 c1 (b0.rts ++ ws) (by simp; omega) hfs hq1 (vec_slr (1 - 1) rfl)) .free rfl rfl ?_ ?_
      rotate_left
      · rintro _ _ ⟨⟩
      rintro _ _ ⟨RO, hro, hnd, hmem, hsub, rfl⟩
      have hrol : RO.length ≤ 100000 := Nat.le_trans (hnd.length_le_of_subset (l₂ := out) fun x hx => hsub x hx) hol
      refine go_vecq fun qr cr hqr hqri => ?_
      subst hqr
      refine kPv (ev_len rfl Tryz.runUnderlying34 ⟨_, rfl⟩ rfl) rfl ?_; refine kPm rfl rfl ?_; refine p_nil ?_; refine g_block ?_
      refine g_loopk (ι := Nat × Int) [100, 99, 19, 16, 15, 11, 13, 12, 10, 4] (fun (k2, sm) => (k2 ≤ RO.length) ∧ (sm = sumI (osz s2.load) (RO.take k2)) ∧ (0 ≤ sm ∧ sm ≤ 66 * k2)) (fun (k2, sm) => [(101, i64 k2), (20, i64 sm)]) (fun (k2, sm) => VecA 3 i64 0 (.slice qr RO.length cr, RO) :: DevA bd s2 :: VecA 52 w64 0 (.slice q1 (b0.rts ++ ws).length c1, b0.rts ++ ws) :: VecA 52 w64 0 (.slice qw ws.length cw, ws) :: SecC bs (⟨openL bd c s2, 0, 0, [], []⟩ : SecS) :: row b13 [i64 b0.act, i64 b0.used, .slice qb b0.rts.length cb] 33 :: row b12 [i64 c.log, i64 c.roots, i64 c.space] 30 :: VecU 0 (.slice qb b0.rts.length cb, b0.rts) :: row b5 [u16 x0, u16 x1, u16 x2] 24 :: Fr) (fun (k2, sm) => RO.length - k2) (0, 0) (⟨Nat.zero_le _, rfl, by omega⟩) (fun a w st => st.to ⟨rfl, rfl, trivial⟩ (fun hh => (hh.dp [4, 8]))) ?_
      rintro ⟨k2, sm⟩ ⟨hk20, hsm, hsmb⟩
      try simp only at hk20 hsm hsmb ⊢
      refine go_sub (σ' := [(101, i64 k2), (20, i64 sm), (100, _), (99, _), (19, _), (16, _), (15, _), (11, _), (13, _), (12, _), (10, _), (4, _)]) ⟨rfl, rfl, rfl, rfl, rfl, rfl, rfl, rfl, rfl, rfl, rfl, rfl, trivial⟩ ?_; refine g_seq ?_; refine g_region ?_; refine kPv (ev_cmp rfl rfl rfl) rfl ?_; refine p_nil ?_; refine g_seq ?_
      refine g_if rfl (fun h102 => ?_) (fun h102 => ?_)
      · have hk2 : k2 < RO.length := by simp at h102; omega
        have hoL := hsub RO[k2] (List.getElem_mem hk2)
        have hob9 := (heap_of hc hbw hhp hoL).1
        have hb9 := hob _ hoL
        have hz9 := osz_b s2.load RO[k2]
        obtain ⟨bR, oR, rfl⟩ := hqri k2 hk2
        refine g_skip ?_; refine g_seq ?_; refine g_block ?_; refine g_seq ?_; refine g_region ?_; refine kPv (ev_iaS Tryz.runUnderlying34 Tryz.sizeOf3 rfl rfl (by omega) (by omega)) rfl ?_
        refine kPv (ev_loadS (v := i64 RO[k2]) Tryz.isAgg3 (vec_slr 0 rfl) rfl (by rw [Int.toNat_natCast, List.getElem?_map, List.getElem?_eq_getElem hk2]; rfl)) rfl ?_
        refine kPa rfl rfl ?_; refine p_nil ?_; refine g_seq ?_; refine g_region ?_; refine kPm rfl rfl ?_; refine kPv (ev_loadA Tryz.isAgg30 Tryz.sizeOf30 rfl rfl) rfl ?_; refine kPv (ev_loadA Tryz.isAgg33 Tryz.sizeOf33 rfl rfl) rfl ?_; refine kPm rfl rfl ?_; refine p_callq rfl (en_f Tryz.call51 rfl) (ro_at (q := DevA) (fun Fr => obj_ok _ Fr _ _ c hc b0 (.slice qb b0.rts.length cb) hbw rfl RO[k2] (by omega))) .free rfl rfl ?_; refine kPm rfl rfl ?_; refine kPv (ev_ext rfl rfl) rfl ?_
        refine kPv (ev_ext rfl rfl) rfl ?_; refine p_chg rfl (ch_allocA Tryz.zeroValue89 rfl) .free rfl rfl ?_
        rintro _ _ ⟨b23, rfl, rfl⟩
        refine p_chg0 rfl (ch_storeA (vs := _) Tryz.sizeOf89 rfl rfl rfl rfl rfl) .free rfl ?_
        rintro _ _ rfl
        refine kPa rfl rfl ?_; refine p_nil ?_; refine go_sub (σ' := [(23, _), (101, _), (20, _), (100, _), (99, _), (19, _), (16, _), (15, _), (11, _), (13, _), (12, _), (10, _), (4, _)]) ⟨rfl, rfl, rfl, rfl, rfl, rfl, rfl, rfl, rfl, rfl, rfl, rfl, rfl, trivial⟩ ?_; refine go_conv (H' := row b23 [i64 (osz s2.load RO[k2] - 1), i64 (orf s2.load RO[k2]), i64 RO[k2]] 89 :: _) (fun w hh => by rw [hob9] at hh; exact hh) ?_
        refine g_region ?_; refine kPm rfl rfl ?_; refine kPv (ev_fa (m := _) fa_89_0 rfl rfl) rfl ?_; refine kPv (ev_loadA Tryz.isAgg87 Tryz.sizeOf87 rfl rfl) rfl ?_; refine p_callq rfl (en_f Tryz.call52 rfl) (hsize_ok _ _ _ _ ⟨by omega, by omega⟩) .free rfl rfl ?_
        first | refine p_val rfl (ev_add rfl rfl (wr64 (by omega))) .free rfl rfl ?_ | refine p_val rfl (ev_add rfl rfl rfl) .free rfl rfl ?_
        refine kPa rfl rfl ?_; refine p_nil ?_; refine g_region ?_
        first | refine p_val rfl (ev_add rfl rfl (wr64 (by omega))) .free rfl rfl ?_ | refine p_val rfl (ev_add rfl rfl rfl) .free rfl rfl ?_
        refine kPm rfl rfl ?_; refine p_nil ?_; refine go_sub (σ' := [(101, _), (20, _), (100, _), (99, _), (19, _), (16, _), (15, _), (11, _), (13, _), (12, _), (10, _), (4, _)]) ⟨rfl, rfl, rfl, rfl, rfl, rfl, rfl, rfl, rfl, rfl, rfl, rfl, trivial⟩ ?_
        exact fun a w st_ => ⟨(k2 + 1, sm + (osz s2.load RO[k2] - 1 + 1)), ⟨by omega, by rw [sumI_take hk2, hsm]; omega, by first | omega | (simp only; omega)⟩, by omega, st_.to ⟨rfl, rfl, rfl, rfl, rfl, rfl, rfl, rfl, rfl, rfl, rfl, rfl, trivial⟩ (fun hh => (hh.dp [0]))⟩
      · have hk2 : k2 = RO.length := by simp at h102; omega
        have hsz : sm = sumI (osz s2.load) RO := by rw [hsm, hk2, List.take_length]
        refine g_exit ?_; refine g_seq ?_; refine g_region ?_; refine kPm rfl rfl ?_; refine go_pk [1] ?_
        refine p_call rfl (en_f Tryz.call22 rfl) (nwords_ok _ _ bd _) .free rfl rfl ?_ ?_
        rotate_left
        · rintro _ _ ⟨⟩
        rintro _ _ ⟨bw6, rest6, rfl, rfl⟩
        refine p_call rfl (en_f Tryz.call21 rfl) (new2_ok _ _ _ (tab s2.n s2.now) (by rw [tab_len, hn2]; omega) (by rw [tab_len, hn2]; omega) (by rw [tab_map]; exact SlR.tab)) .free rfl rfl ?_ ?_
        rotate_left
        · rintro _ _ ⟨⟩
        rintro _ _ ⟨be, pa2, rfl, rfl⟩
        generalize ht0 : (⟨pa2, ⟨-1, 0⟩, ((tab s2.n s2.now).length + 7) / 8 * 8, fun i => (tab s2.n s2.now).getD i 0, fun i => (tab s2.n s2.now).getD i 0, fun _ => none⟩ : Dev) = t0
        obtain ⟨hld0, hu0⟩ := was_dev hN hn2 hu2 ht0
        refine kPa rfl rfl ?_; refine p_nil ?_; refine go_sub (σ' := [(25, _), (20, _), (19, _), (16, _), (15, _), (11, _), (13, _), (12, _), (10, _), (4, _)]) ⟨rfl, rfl, rfl, rfl, rfl, rfl, rfl, rfl, rfl, rfl, trivial⟩ ?_; refine g_seq ?_; refine g_seq ?_; refine g_region ?_; refine kPm rfl rfl ?_; refine kPv (ev_eqp Tryz.runUnderlying28 rfl rfl rfl) rfl ?_; refine p_nil ?_; refine g_iff rfl (rfl) ?_; refine g_skip ?_; refine g_seq ?_; refine g_seq ?_; refine g_region ?_; refine kPm rfl rfl ?_
        refine kPv (ev_rem (c := tm % 3) rfl rfl (by decide) (rem_e 3 htm.1)) rfl ?_
        first | refine p_val rfl (ev_conv Tryz.runUnderlying5 Tryz.runUnderlying3 rfl (wr64 (by omega))) .free rfl rfl ?_ | refine p_val rfl (ev_conv Tryz.runUnderlying5 Tryz.runUnderlying3 rfl rfl) .free rfl rfl ?_
        first | refine p_val rfl (ev_add rfl rfl (wr64 (by omega))) .free rfl rfl ?_ | refine p_val rfl (ev_add rfl rfl rfl) .free rfl rfl ?_
        refine kPm rfl rfl ?_; refine p_nil ?_; refine g_block ?_
        refine g_loopk (ι := Nat × SecS × Dev × Blk × List Int × List Int × List (Int × Int)) [127, 25, 20, 19, 16, 15, 11, 13, 12, 10] (fun (m, S, s, bk, L, ws9, R) => ((m : Int) ≤ 1 + tm % 3) ∧ (KI c N bd b0 t0 (b0.rts ++ ws) sm ws.length m S s bk L ws9 R)) (fun (m, S, s, bk, L, ws9, R) => [(128, i64 m)]) (fun (m, S, s, bk, L, ws9, R) => VecA 52 w64 0 (.slice qw ws.length cw, ws9) :: SecC bs S :: DevA bd s :: DevA be t0 :: VecA 52 w64 0 (.slice q1 (b0.rts ++ ws).length c1, b0.rts ++ ws) :: row b13 [i64 b0.act, i64 b0.used, .slice qb b0.rts.length cb] 33 :: row b12 [i64 c.log, i64 c.roots, i64 c.space] 30 :: VecU 0 (.slice qb b0.rts.length cb, b0.rts) :: row b5 [u16 x0, u16 x1, u16 x2] 24 :: Fr) (fun (m, S, s, bk, L, ws9, R) => (1 + tm % 3 - m).toNat) (0, (⟨openL bd c s2, 0, 0, [], []⟩ : SecS), s2, b0, out, ws, out.map fun k => (k, k)) (⟨by omega, by rw [hsz]; exact ki_zero hc hHI hb0a hwz hnd hmem hld0⟩) (fun a w st => st.to ⟨rfl, trivial⟩ (fun hh => ((hh.dp [1, 2]).pk [3, 3, 1]))) ?_
        rintro ⟨m, S, s, bk, L, ws9, R⟩ ⟨hm0, hK⟩
        try simp only at hm0 hK ⊢
        refine go_sub (σ' := [(128, i64 m), (127, _), (25, _), (20, _), (19, _), (16, _), (15, _), (11, _), (13, _), (12, _), (10, _)]) ⟨rfl, rfl, rfl, rfl, rfl, rfl, rfl, rfl, rfl, rfl, rfl, trivial⟩ ?_; refine g_seq ?_; refine g_region ?_; refine kPv (ev_cmp rfl rfl rfl) rfl ?_; refine p_nil ?_; refine g_seq ?_
        refine g_if rfl (fun h129 => ?_) (fun h129 => ?_)
        · have hm : (m : Int) < 1 + tm % 3 := by simpa using h129
          obtain ⟨X, S', s', hcr, hbt9, hbX, hus9, hck9, hXW, hK'⟩ := ki_step hc hK
          have hbk : BlkW c bk := by have h9 := block_w hc hK.hi.sk.u; rw [hK.hi.bl] at h9; exact h9
          have hwsb : ∀ v ∈ ws9, 0 ≤ v ∧ v < 18446744073709551616 := fun v hv => by
            rcases hK.win v hv with e | e
            · omega
            · have := heap_b hc hbk hK.hi.heap e; omega
          have hft : ∀ w ∈ ws9, 0 ≤ (mget X.went w).getD 0 ∧ (mget X.went w).getD 0 < 20000 := fun w hw => by
            rcases hK'.win _ (List.mem_map_of_mem (f := (fun w => (mget X.went w).getD 0)) hw) with e | e
            · omega
            · have := heap_b hc hbX hK'.hi.heap e; omega
          have hw9 := hK.wl
          have hX16 : X.block.rts.length ≤ 16 := by have h9 := block_len (s := s') hc; rw [hbt9] at h9; exact h9
          refine g_skip ?_; refine g_seq ?_; refine g_block ?_; refine g_seq ?_; refine g_region ?_; refine kPm rfl rfl ?_; refine kPa rfl rfl ?_; refine p_nil ?_; refine g_seq ?_; refine g_region ?_; refine kPm rfl rfl ?_; refine kPv (ev_loadA Tryz.isAgg30 Tryz.sizeOf30 rfl rfl) rfl ?_; refine kPm rfl rfl ?_; refine kPm rfl rfl ?_; refine go_pk [1, 1] ?_
          refine p_call rfl (en_f Tryz.call14 rfl) (fcollect_n B _ bs bd S c hc s hK.hi.sk.u (hK.hi.sk.secK hc) qw cw ws.length ws9 hK.wl (by omega) hwsb (vec_slrn hK.wl (2 - 2) rfl) hcr rfl) .free rfl rfl ?_ ?_
          rotate_left
          · rintro _ _ ⟨⟩
          rintro _ _ ⟨x, rfl, rfl⟩
          refine kPm rfl rfl ?_; refine kPv (ev_ext rfl rfl) rfl ?_; refine kPv (ev_ext rfl rfl) rfl ?_; refine kPa rfl rfl ?_; refine kPa rfl rfl ?_; refine p_nil ?_; refine go_sub (σ' := [(28, _), (27, _), (26, _), (128, _), (127, _), (25, _), (20, _), (19, _), (16, _), (15, _), (11, _), (13, _), (12, _), (10, _)]) ⟨rfl, rfl, rfl, rfl, rfl, rfl, rfl, rfl, rfl, rfl, rfl, rfl, rfl, rfl, trivial⟩ ?_; refine g_seq ?_; refine g_seq ?_; refine go_pk [1] ?_; refine go_secC fun bl9 o91 o92 => ?_
          refine g_region ?_; refine kPm rfl rfl ?_; refine kPv (ev_cmp rfl rfl rfl) rfl ?_; refine kPm rfl rfl ?_
          apply p_or (tp := 144) (t := 141) (σ1 := [(141, _), (28, _), (27, _), (26, _), (128, _), (127, _), (25, _), (20, _), (19, _), (16, _), (15, _), (11, _), (13, _), (12, _), (10, _)]) 3 rfl ⟨rfl, rfl, rfl, rfl, rfl, rfl, rfl, rfl, rfl, rfl, rfl, rfl, rfl, rfl, rfl, trivial⟩
          · intro hg4
            refine p_val rfl (ev_move rfl) (.on rfl rfl (beq_eq hg4)) rfl rfl ?_; refine p_val rfl (ev_eqp Tryz.runUnderlying45 rfl rfl rfl) (.on rfl rfl (beq_eq hg4)) rfl rfl ?_; refine kPv (ev_pick_f rfl hg4 rfl) rfl ?_
            exact p_seg rfl ⟨rfl, rfl, rfl, rfl, rfl, rfl, rfl, rfl, rfl, rfl, rfl, rfl, rfl, rfl, rfl, trivial⟩ (or_f hg4)
          · intro hg4
            refine p_skip rfl (.on rfl rfl (beq_ne hg4)) rfl ?_; refine p_skip rfl (.on rfl rfl (beq_ne hg4)) rfl ?_; refine kPv (ev_pick_t rfl hg4 rfl) rfl ?_
            exact p_seg rfl ⟨rfl, rfl, rfl, rfl, rfl, rfl, rfl, rfl, rfl, rfl, rfl, rfl, rfl, rfl, rfl, trivial⟩ (or_t hg4)
          refine kPm rfl rfl ?_
          apply p_or (tp := 148) (t := 145) (σ1 := [(145, _), (28, _), (27, _), (26, _), (128, _), (127, _), (25, _), (20, _), (19, _), (16, _), (15, _), (11, _), (13, _), (12, _), (10, _)]) 3 rfl ⟨rfl, rfl, rfl, rfl, rfl, rfl, rfl, rfl, rfl, rfl, rfl, rfl, rfl, rfl, rfl, trivial⟩
          · intro hg5
            refine p_val rfl (ev_move rfl) (.on rfl rfl (beq_eq hg5)) rfl rfl ?_; refine p_callq rfl (en_f Tryz.call53 rfl) (sopenR_ok _ _ _ _ _ _ _) (.on rfl rfl (beq_eq hg5)) rfl rfl ?_; refine kPv (ev_pick_f rfl hg5 rfl) rfl ?_
            exact p_seg rfl ⟨rfl, rfl, rfl, rfl, rfl, rfl, rfl, rfl, rfl, rfl, rfl, rfl, rfl, rfl, rfl, trivial⟩ (or_f hg5)
          · intro hg5
            refine p_skip rfl (.on rfl rfl (beq_ne hg5)) rfl ?_; refine p_skip rfl (.on rfl rfl (beq_ne hg5)) rfl ?_; refine kPv (ev_pick_t rfl hg5 rfl) rfl ?_
            exact p_seg rfl ⟨rfl, rfl, rfl, rfl, rfl, rfl, rfl, rfl, rfl, rfl, rfl, rfl, rfl, rfl, rfl, trivial⟩ (or_t hg5)
          refine kPm rfl rfl ?_
          apply p_or (tp := 156) (t := 149) (σ1 := [(149, _), (28, _), (27, _), (26, _), (128, _), (127, _), (25, _), (20, _), (19, _), (16, _), (15, _), (11, _), (13, _), (12, _), (10, _)]) 7 rfl ⟨rfl, rfl, rfl, rfl, rfl, rfl, rfl, rfl, rfl, rfl, rfl, rfl, rfl, rfl, rfl, trivial⟩
          · intro hg6
            refine p_val rfl (ev_move rfl) (.on rfl rfl (beq_eq hg6)) rfl rfl ?_
            first | refine p_val rfl (ev_nil rfl) (.on rfl rfl (beq_eq hg6)) rfl rfl ?_ | refine p_val rfl (ev_nilf rfl) (.on rfl rfl (beq_eq hg6)) rfl rfl ?_
            refine p_val rfl (ev_fa (m := _) fa_44_0 rfl rfl) (.on rfl rfl (beq_eq hg6)) rfl rfl ?_; refine p_val rfl (ev_load Tryz.isAgg39 rfl rfl) (.on rfl rfl (beq_eq hg6)) rfl rfl ?_; refine p_callq rfl (en_f Tryz.call54 rfl) (ro_at (q := LogA) (fun Fr => llen_ok _ Fr _ _)) (.on rfl rfl (beq_eq hg6)) rfl rfl ?_; refine p_val rfl (ev_cmp rfl rfl rfl) (.on rfl rfl (beq_eq hg6)) rfl rfl ?_; refine kPv (ev_pick_f rfl hg6 rfl) rfl ?_
            exact p_seg rfl ⟨rfl, rfl, rfl, rfl, rfl, rfl, rfl, rfl, rfl, rfl, rfl, rfl, rfl, rfl, rfl, trivial⟩ (or_f hg6)
          · intro hg6
            refine p_skip rfl (.on rfl rfl (beq_ne hg6)) rfl ?_; refine p_skip rfl (.on rfl rfl (beq_ne hg6)) rfl ?_; refine p_skip rfl (.on rfl rfl (beq_ne hg6)) rfl ?_; refine p_skip rfl (.on rfl rfl (beq_ne hg6)) rfl ?_; refine p_skip rfl (.on rfl rfl (beq_ne hg6)) rfl ?_; refine p_skip rfl (.on rfl rfl (beq_ne hg6)) rfl ?_; refine kPv (ev_pick_t rfl hg6 rfl) rfl ?_
            exact p_seg rfl ⟨rfl, rfl, rfl, rfl, rfl, rfl, rfl, rfl, rfl, rfl, rfl, rfl, rfl, rfl, rfl, trivial⟩ (or_t hg6)
          refine p_nil ?_; refine g_iff rfl ((by simp [hK'.hi.sk.ln])) ?_; refine g_skip ?_; refine g_seq ?_; refine g_seq ?_; refine go_conv (fun w hh => secC_holds (S := S') hh) ?_; refine g_region ?_; refine kPm rfl rfl ?_; refine kPv (ev_len rfl Tryz.runUnderlying31 ⟨_, rfl⟩ rfl) rfl ?_; refine kPm rfl rfl ?_; refine p_nil ?_; refine g_block ?_
          refine g_loopk (ι := Nat) [158, 157, 28, 27, 26, 128, 127, 25, 20, 19, 16, 15, 11, 13, 12, 10] (fun i => (i ≤ ws.length)) (fun i => [(159, i64 i)]) (fun i => VecA 52 w64 0 (.slice qw ws.length cw, midL (fun w => (mget X.went w).getD 0) ws9 i) :: ColA x X :: SecC bs S' :: DevA bd s' :: DevA be t0 :: VecA 52 w64 0 (.slice q1 (b0.rts ++ ws).length c1, b0.rts ++ ws) :: row b13 [i64 b0.act, i64 b0.used, .slice qb b0.rts.length cb] 33 :: row b12 [i64 c.log, i64 c.roots, i64 c.space] 30 :: VecU 0 (.slice qb b0.rts.length cb, b0.rts) :: row b5 [u16 x0, u16 x1, u16 x2] 24 :: Fr) (fun i => ws.length - i) (0) (Nat.zero_le _) (fun a w st => st.to ⟨rfl, trivial⟩ (fun hh => (hh.pk [3, 1]))) ?_
          rintro i hi0
          try simp only at hi0 ⊢
          refine go_sub (σ' := [(159, i64 i), (158, _), (157, _), (28, _), (27, _), (26, _), (128, _), (127, _), (25, _), (20, _), (19, _), (16, _), (15, _), (11, _), (13, _), (12, _), (10, _)]) ⟨rfl, rfl, rfl, rfl, rfl, rfl, rfl, rfl, rfl, rfl, rfl, rfl, rfl, rfl, rfl, rfl, rfl, trivial⟩ ?_; refine g_seq ?_; refine g_region ?_; refine kPv (ev_cmp rfl rfl rfl) rfl ?_; refine p_nil ?_; refine g_seq ?_
          refine g_if rfl (fun h160 => ?_) (fun h160 => ?_)
          · have hi : i < ws.length := by simp at h160; omega
            have hi9 : i < ws9.length := by omega
            have hfi := hft ws9[i] (List.getElem_mem hi9)
            have hwi9 := hwsb ws9[i] (List.getElem_mem hi9)
            obtain ⟨bW, oW, rfl⟩ := hqwi i hi
            refine g_skip ?_; refine g_seq ?_; refine g_block ?_; refine g_seq ?_; refine g_region ?_; refine kPm rfl rfl ?_; refine kPv (ev_iaS Tryz.runUnderlying31 Tryz.sizeOf52 rfl rfl (by omega) (by omega)) rfl ?_
            refine kPv (ev_loadS (v := w64 ws9[i]) Tryz.isAgg52 (vec_slrn (by rw [mid_len]; exact hK.wl) 0 rfl) rfl (by rw [Int.toNat_natCast, List.getElem?_map, mid_get hi9]; rfl)) rfl ?_
            refine kPa rfl rfl ?_; refine kPa rfl rfl ?_; refine p_nil ?_; refine g_region ?_; refine kPm rfl rfl ?_; refine kPm rfl rfl ?_; refine kPm rfl rfl ?_; refine kPm rfl rfl ?_; refine p_callq rfl (en_f Tryz.call55 rfl) (ro_at (q := ColA) (fun Fr => cwent_ok B Fr x X ws9[i])) .free rfl rfl ?_; refine kPv (ev_conv Tryz.runUnderlying3 Tryz.runUnderlying52 rfl (wru64 (by omega))) rfl ?_; refine kPv (ev_iaS Tryz.runUnderlying31 Tryz.sizeOf52 rfl rfl (by omega) (by omega)) rfl ?_
            refine p_chg0 rfl (ch_storeVec (i := i) (v := (mget X.went ws9[i]).getD 0) Tryz.sizeOf52 rfl rfl rfl rfl (by rw [mid_len]; omega)) .free rfl ?_
            rintro _ _ rfl
            rw [show (midL (fun w => (mget X.went w).getD 0) ws9 i).set i ((mget X.went ws9[i]).getD 0) = midL (fun w => (mget X.went w).getD 0) ws9 (i + 1) from mid_set hi9]
            refine p_nil ?_; refine go_sub (σ' := [(159, _), (158, _), (157, _), (28, _), (27, _), (26, _), (128, _), (127, _), (25, _), (20, _), (19, _), (16, _), (15, _), (11, _), (13, _), (12, _), (10, _)]) ⟨rfl, rfl, rfl, rfl, rfl, rfl, rfl, rfl, rfl, rfl, rfl, rfl, rfl, rfl, rfl, rfl, rfl, trivial⟩ ?_; refine g_region ?_
            first | refine p_val rfl (ev_add rfl rfl (wr64 (by omega))) .free rfl rfl ?_ | refine p_val rfl (ev_add rfl rfl rfl) .free rfl rfl ?_
            refine kPm rfl rfl ?_; refine p_nil ?_
            exact fun a w st_ => ⟨i + 1, by omega, by omega, st_.to ⟨rfl, rfl, rfl, rfl, rfl, rfl, rfl, rfl, rfl, rfl, rfl, rfl, rfl, rfl, rfl, rfl, rfl, trivial⟩ (fun hh => hh)⟩
          · have hi : i = ws.length := by simp at h160; omega
            refine g_exit ?_; refine g_seq ?_
            rw [show midL (fun w => (mget X.went w).getD 0) ws9 i = ws9.map (fun w => (mget X.went w).getD 0) from by rw [show i = ws9.length by omega]; exact mid_end]
            refine g_region ?_; refine kPm rfl rfl ?_; refine kPv (ev_loadA Tryz.isAgg30 Tryz.sizeOf30 rfl rfl) rfl ?_; refine go_pk [3] ?_
            refine p_call rfl (en_f Tryz.call15 rfl) (rread_ok _ _ _ _ c hc hK'.hi.sk.u) .free rfl rfl ?_ ?_
            rotate_left
            · rintro _ _ ⟨⟩
            rintro _ _ ⟨sv3, hsv3, rfl, rfl⟩
            rw [hbt9]
            refine go_vecq fun q3 c3 hq3 hq3i => ?_
            subst hq3
            refine kPm rfl rfl ?_; refine kPv (ev_ext rfl rfl) rfl ?_; refine kPv (ev_ext rfl rfl) rfl ?_; refine p_chg rfl (ch_allocA Tryz.zeroValue33 rfl) .free rfl rfl ?_
            rintro _ _ ⟨b31, rfl, rfl⟩
            refine p_chg0 rfl (ch_storeA (vs := _) Tryz.sizeOf33 rfl rfl rfl (by first | rfl | exact all3 (by assumption)) rfl) .free rfl ?_
            rintro _ _ rfl
            refine kPa rfl rfl ?_; refine p_nil ?_; refine go_sub (σ' := [(28, _), (31, _), (26, _), (128, _), (127, _), (25, _), (20, _), (19, _), (16, _), (15, _), (11, _), (13, _), (12, _), (10, _)]) ⟨rfl, rfl, rfl, rfl, rfl, rfl, rfl, rfl, rfl, rfl, rfl, rfl, rfl, rfl, trivial⟩ ?_; refine g_seq ?_; refine g_seq ?_; refine g_region ?_; refine kPm rfl rfl ?_; refine kPv (ev_cmp rfl rfl rfl) rfl ?_; refine kPm rfl rfl ?_
            apply p_or (tp := 187) (t := 180) (σ1 := [(180, _), (31, _), (128, _), (127, _), (25, _), (20, _), (19, _), (16, _), (15, _), (11, _), (13, _), (12, _), (10, _)]) 7 rfl ⟨rfl, rfl, rfl, rfl, rfl, rfl, rfl, rfl, rfl, rfl, rfl, rfl, rfl, trivial⟩
            · intro hg7
              refine p_val rfl (ev_fa (m := _) fa_33_0 rfl rfl) (.on rfl rfl (beq_eq hg7)) rfl rfl ?_; refine p_val rfl (ev_load Tryz.isAgg3 rfl rfl) (.on rfl rfl (beq_eq hg7)) rfl rfl ?_; refine p_val rfl (ev_move rfl) (.on rfl rfl (beq_eq hg7)) rfl rfl ?_
              first | refine p_val rfl (ev_add rfl rfl (wr64 (by omega))) (.on rfl rfl (beq_eq hg7)) rfl rfl ?_ | refine p_val rfl (ev_add rfl rfl rfl) (.on rfl rfl (beq_eq hg7)) rfl rfl ?_
              refine p_val rfl (ev_rem (c := ((m : Int) + 1) % 2) rfl rfl (by decide) (rem_e 2 (by omega))) (.on rfl rfl (beq_eq hg7)) rfl rfl ?_; refine p_val rfl (ev_cmp rfl rfl rfl) (.on rfl rfl (beq_eq hg7)) rfl rfl ?_; refine kPv (ev_pick_f rfl hg7 rfl) rfl ?_
              exact p_seg rfl ⟨rfl, rfl, rfl, rfl, rfl, rfl, rfl, rfl, rfl, rfl, rfl, rfl, rfl, trivial⟩ (or_f hg7)
            · intro hg7
              refine p_skip rfl (.on rfl rfl (beq_ne hg7)) rfl ?_; refine p_skip rfl (.on rfl rfl (beq_ne hg7)) rfl ?_; refine p_skip rfl (.on rfl rfl (beq_ne hg7)) rfl ?_; refine p_skip rfl (.on rfl rfl (beq_ne hg7)) rfl ?_; refine p_skip rfl (.on rfl rfl (beq_ne hg7)) rfl ?_; refine p_skip rfl (.on rfl rfl (beq_ne hg7)) rfl ?_; refine kPv (ev_pick_t rfl hg7 rfl) rfl ?_
              exact p_seg rfl ⟨rfl, rfl, rfl, rfl, rfl, rfl, rfl, rfl, rfl, rfl, rfl, rfl, rfl, trivial⟩ (or_t hg7)
            refine kPm rfl rfl ?_
            apply p_or (tp := 193) (t := 188) (σ1 := [(188, _), (31, _), (128, _), (127, _), (25, _), (20, _), (19, _), (16, _), (15, _), (11, _), (13, _), (12, _), (10, _)]) 5 rfl ⟨rfl, rfl, rfl, rfl, rfl, rfl, rfl, rfl, rfl, rfl, rfl, rfl, rfl, trivial⟩
            · intro hg8
              refine p_val rfl (ev_fa (m := _) fa_33_1 rfl rfl) (.on rfl rfl (beq_eq hg8)) rfl rfl ?_; refine p_val rfl (ev_load Tryz.isAgg3 rfl rfl) (.on rfl rfl (beq_eq hg8)) rfl rfl ?_; refine p_val rfl (ev_move rfl) (.on rfl rfl (beq_eq hg8)) rfl rfl ?_; refine p_val rfl (ev_cmp rfl rfl rfl) (.on rfl rfl (beq_eq hg8)) rfl rfl ?_; refine kPv (ev_pick_f rfl hg8 rfl) rfl ?_
              exact p_seg rfl ⟨rfl, rfl, rfl, rfl, rfl, rfl, rfl, rfl, rfl, rfl, rfl, rfl, rfl, trivial⟩ (or_f hg8)
            · intro hg8
              refine p_skip rfl (.on rfl rfl (beq_ne hg8)) rfl ?_; refine p_skip rfl (.on rfl rfl (beq_ne hg8)) rfl ?_; refine p_skip rfl (.on rfl rfl (beq_ne hg8)) rfl ?_; refine p_skip rfl (.on rfl rfl (beq_ne hg8)) rfl ?_; refine kPv (ev_pick_t rfl hg8 rfl) rfl ?_
              exact p_seg rfl ⟨rfl, rfl, rfl, rfl, rfl, rfl, rfl, rfl, rfl, rfl, rfl, rfl, rfl, trivial⟩ (or_t hg8)
            refine kPm rfl rfl ?_
            apply p_or (tp := 199) (t := 194) (σ1 := [(194, _), (31, _), (128, _), (127, _), (25, _), (20, _), (19, _), (16, _), (15, _), (11, _), (13, _), (12, _), (10, _)]) 5 rfl ⟨rfl, rfl, rfl, rfl, rfl, rfl, rfl, rfl, rfl, rfl, rfl, rfl, rfl, trivial⟩
            · intro hg9
              refine p_val rfl (ev_move rfl) (.on rfl rfl (beq_eq hg9)) rfl rfl ?_; refine p_val rfl (ev_loadA Tryz.isAgg30 Tryz.sizeOf30 rfl rfl) (.on rfl rfl (beq_eq hg9)) rfl rfl ?_; refine p_callq rfl (en_f Tryz.call27 rfl) (ro_at (q := DevA) (fun Fr => ccheck_ok _ Fr bd _ c hc hK'.hi.sk.u)) (.on rfl rfl (beq_eq hg9)) rfl rfl ?_; refine p_val rfl (ev_cmp rfl rfl rfl) (.on rfl rfl (beq_eq hg9)) rfl rfl ?_; refine kPv (ev_pick_f rfl hg9 rfl) rfl ?_
              exact p_seg rfl ⟨rfl, rfl, rfl, rfl, rfl, rfl, rfl, rfl, rfl, rfl, rfl, rfl, rfl, trivial⟩ (or_f hg9)
            · intro hg9
              refine p_skip rfl (.on rfl rfl (beq_ne hg9)) rfl ?_; refine p_skip rfl (.on rfl rfl (beq_ne hg9)) rfl ?_; refine p_skip rfl (.on rfl rfl (beq_ne hg9)) rfl ?_; refine p_skip rfl (.on rfl rfl (beq_ne hg9)) rfl ?_; refine kPv (ev_pick_t rfl hg9 rfl) rfl ?_
              exact p_seg rfl ⟨rfl, rfl, rfl, rfl, rfl, rfl, rfl, rfl, rfl, rfl, rfl, rfl, rfl, trivial⟩ (or_t hg9)
            refine p_nil ?_; refine g_iff rfl ((by have h8 := hK'.act; simp [hck9, hus9]; omega)) ?_
            refine g_skip ?_; refine g_seq ?_; refine go_conv (H' := row b31 [i64 X.block.act, i64 X.block.used, .slice q3 X.block.rts.length c3] 33 :: VecU 0 (.slice q3 X.block.rts.length c3, X.block.rts) :: _) (fun w hh => hh) ?_
            refine g_drawv [0, 1, 2, 3, 4, 5, 6, 7, 9, 8, 10, 11, 12] [8, 10, 11] [0, 1, 2, 3, 4, 5, 9] [8, 10] [row b12 [i64 c.log, i64 c.roots, i64 c.space] 30, row b13 [i64 b0.act, i64 b0.used, .slice qb b0.rts.length cb] 33, row b31 [i64 X.block.act, i64 X.block.used, .slice q3 X.block.rts.length c3] 33] Tryz.mixed (by kernel_rfl) ?_; refine v_hoist rfl rfl rfl (ev_move rfl) .free rfl ?_; refine v_hoist rfl rfl rfl (ev_loadA Tryz.isAgg30 Tryz.sizeOf30 rfl rfl) .free rfl ?_
            refine v_hoist rfl rfl rfl (ev_loadA Tryz.isAgg33 Tryz.sizeOf33 rfl rfl) .free rfl ?_; refine v_hoist rfl rfl rfl (ev_move rfl) .free rfl ?_; refine v_hoist rfl rfl rfl (ev_move rfl) .free rfl ?_; refine v_hoist rfl rfl rfl (ev_loadA Tryz.isAgg33 Tryz.sizeOf33 rfl rfl) .free rfl ?_; refine v_val rfl rfl rfl (ev_fa (m := _) fa_33_2 rfl rfl) .free rfl ?_; refine v_val rfl rfl rfl (ev_load Tryz.isAgg31 rfl rfl) .free rfl ?_; refine v_hoist rfl rfl rfl (ev_move rfl) .free rfl ?_
            refine v_mark rfl rfl ?_
            refine p_call rfl (en_f Tryz.call49 rfl) (clone64v_ok _ _ q3 c3 X.block.rts (by omega) (fun h => List.eq_nil_of_length_eq_zero (Nat.eq_zero_of_not_pos fun h0 => by obtain ⟨b, o, e⟩ := hq3i 0 h0; rw [h] at e; cases e)) (vec_slr 1 rfl)) .free rfl rfl ?_ ?_
            rotate_left
            · rintro _ _ ⟨⟩
            rintro nv _ ⟨hnv, rfl⟩
            refine p_nil ?_; refine v_on ?_; refine v_mark rfl rfl ?_; refine p_chg rfl (ch_append_vecs0 (yv := .slice qw ws.length cw) (ys := ws9.map (fun w => (mget X.went w).getD 0)) rfl rfl Tryz.runUnderlying31 Tryz.runUnderlying31 ⟨_, rfl⟩ Tryz.sizeOf52 Tryz.zeroValue52 rfl (fun _ => rfl) tb_52 rfl rfl (vec_slrn (by rw [List.length_map]; exact hK.wl) (4 - 1) rfl) (by simp; omega)) .free rfl rfl ?_
            rintro n2 _ ⟨hn2, rfl⟩
            refine go_vecq fun qn cn hqn' hqn => ?_
            subst hqn'
            refine go_pk [7, 3] ?_; refine p_nil ?_; refine v_on ?_; refine v_mark rfl rfl ?_; refine p_callq rfl (en_f Tryz.call28 rfl) (same_ok B _ be bd t0 s' c hc b0 X.block (.slice qb b0.rts.length cb) (.slice q3 X.block.rts.length c3) hbw hbX rfl rfl hu0 hK'.hi.sk.u _ hK'.iso hK'.rl (b0.rts ++ ws) (X.block.rts ++ ws9.map (fun w => (mget X.went w).getD 0)) hK'.fl (by simp; omega) hK'.pr q1 qn c1 cn hq1 hqn (vec_slr (8 - 2) rfl) (vec_slr (2 - 2) rfl)) .free rfl rfl ?_
            refine p_nil ?_; refine v_off rfl ?_; refine v_val rfl rfl rfl (ev_not rfl) .free rfl ?_; refine v_nil ?_; refine go_sub (σ' := [(212, _), (128, _), (127, _), (25, _), (20, _), (19, _), (16, _), (15, _), (11, _), (13, _), (12, _), (10, _)]) ⟨rfl, rfl, rfl, rfl, rfl, rfl, rfl, rfl, rfl, rfl, rfl, rfl, trivial⟩ ?_; refine g_iff rfl (rfl) ?_; refine g_skip ?_; refine g_region ?_
            first | refine p_val rfl (ev_add rfl rfl (wr64 (by omega))) .free rfl rfl ?_ | refine p_val rfl (ev_add rfl rfl rfl) .free rfl rfl ?_
            refine kPm rfl rfl ?_; refine p_nil ?_
            exact fun a w st_ => ⟨(m + 1, S', s', X.block, X.went.map Prod.snd, ws9.map (fun w => (mget X.went w).getD 0), compR R X.went), ⟨by first | omega | (simp only; omega), hK'⟩, by first | omega | (simp only; omega), st_.to ⟨rfl, rfl, rfl, rfl, rfl, rfl, rfl, rfl, rfl, rfl, rfl, trivial⟩ (fun hh => ((hh.dp [2, 2, 2, 3]).pk [2, 2, 1]))⟩
        · have hm : ¬ (m : Int) < 1 + tm % 3 := by simpa using h129
          have hsn := hK.hi.sk.n
          refine g_exit ?_; refine g_seq ?_; refine g_region ?_; refine kPm rfl rfl ?_; refine go_pk [2] ?_
          refine p_call rfl (en_f Tryz.call22 rfl) (nwords_ok _ _ bd _) .free rfl rfl ?_ ?_
          rotate_left
          · rintro _ _ ⟨⟩
          rintro _ _ ⟨bw11, rest11, rfl, rfl⟩
          refine kPa rfl rfl ?_; refine p_nil ?_; refine go_sub (σ' := [(32, _), (15, _), (11, _), (12, _), (10, _)]) ⟨rfl, rfl, rfl, rfl, rfl, trivial⟩ ?_; refine g_seq ?_; refine g_region ?_; refine kPm rfl rfl ?_; refine kPv (ev_build rfl (bld_41)) rfl ?_; refine go_pk [3] ?_
          refine p_call rfl (en_f Tryz.call18 rfl) (sbeginC_ok B _ bs S 0 0) .free rfl rfl ?_ ?_
          rotate_left
          · rintro _ _ ⟨⟩
          rintro _ _ ⟨rfl, rfl⟩
          refine p_nil ?_; refine g_seq ?_; refine g_region ?_; refine kPm rfl rfl ?_; refine kPv (ev_loadA Tryz.isAgg30 Tryz.sizeOf30 rfl rfl) rfl ?_; refine kPm rfl rfl ?_; refine p_callq rfl (en_f Tryz.call14 rfl) (fcollectO_ok B _ bs bd (S.fresh 0 0) c _) .free rfl rfl ?_; refine kPm rfl rfl ?_; refine kPv (ev_ext rfl rfl) rfl ?_; refine kPv (ev_ext rfl rfl) rfl ?_; refine kPa rfl rfl ?_; refine kPa rfl rfl ?_; refine p_nil ?_
          refine go_sub (σ' := [(34, _), (33, _), (32, _), (11, _), (10, _)]) ⟨rfl, rfl, rfl, rfl, rfl, trivial⟩ ?_; refine g_seq ?_; refine g_region ?_; refine kPm rfl rfl ?_; refine kPv (ev_eqp Tryz.runUnderlying45 rfl rfl rfl) rfl ?_; refine kPm rfl rfl ?_
          apply p_and (tp := 231) (t := 228) (σ1 := [(228, _), (32, _), (11, _), (10, _)]) 3 rfl ⟨rfl, rfl, rfl, rfl, trivial⟩
          · intro hg10
            refine p_val rfl (ev_move rfl) (.on rfl rfl (beq_eq hg10)) rfl rfl ?_; refine p_val rfl (ev_cmp rfl rfl rfl) (.on rfl rfl (beq_eq hg10)) rfl rfl ?_; refine kPv (ev_pick_t rfl hg10 rfl) rfl ?_
            exact p_seg rfl ⟨rfl, rfl, rfl, rfl, trivial⟩ (and_t hg10)
          · intro hg10
            refine p_skip rfl (.on rfl rfl (beq_ne hg10)) rfl ?_; refine p_skip rfl (.on rfl rfl (beq_ne hg10)) rfl ?_; refine kPv (ev_pick_f rfl hg10 rfl) rfl ?_
            exact p_seg rfl ⟨rfl, rfl, rfl, rfl, trivial⟩ (and_f hg10)
          refine kPm rfl rfl ?_
          apply p_and (tp := 237) (t := 232) (σ1 := [(232, _), (10, _)]) 5 rfl ⟨rfl, rfl, trivial⟩
          · intro hg11
            refine p_val rfl (ev_move rfl) (.on rfl rfl (beq_eq hg11)) rfl rfl ?_; refine go_pk [2] ?_
            refine p_call rfl (en_f Tryz.call22 rfl) (nwords_ok _ _ bd _) (.on rfl rfl (beq_eq hg11)) rfl rfl ?_ ?_
            rotate_left
            · rintro _ _ ⟨⟩
            rintro _ _ ⟨bw13, rest13, rfl, rfl⟩
            refine p_val rfl (ev_move rfl) (.on rfl rfl (beq_eq hg11)) rfl rfl ?_; refine p_callq rfl (en_f Tryz.call26 rfl) (eq_part _ _ _ _ 0 _ _ _ _ _ _ _ _ _ _ _ (by omega) (by omega) (by omega) (fun _ _ => rfl)) (.on rfl rfl (beq_eq hg11)) rfl rfl ?_; refine go_dp [0] ?_; refine go_pk [1, 1] ?_; refine kPv (ev_pick_t rfl hg11 rfl) rfl ?_
            exact p_seg rfl ⟨rfl, rfl, trivial⟩ (and_t hg11)
          · intro hg11
            refine p_skip rfl (.on rfl rfl (beq_ne hg11)) rfl ?_; refine p_skip rfl (.on rfl rfl (beq_ne hg11)) rfl ?_; refine p_skip rfl (.on rfl rfl (beq_ne hg11)) rfl ?_; refine p_skip rfl (.on rfl rfl (beq_ne hg11)) rfl ?_; refine kPv (ev_pick_f rfl hg11 rfl) rfl ?_
            exact p_seg rfl ⟨rfl, rfl, trivial⟩ (and_f hg11)
          refine kPa rfl rfl ?_; refine p_nil ?_; refine g_ret ?_
          exact ret_tmp Tryz.results7 rfl (fun w hh => ⟨rfl, (hh.dp [0, 0, 0, 0, 0, 0, 0, 0, 0, 0])⟩)


theorem flipCollects_walk (W : World) (z : Int × Int × Int) (w0 : (Lit.int .u16 z.1).wf = true ∧ (Lit.int .u16 z.2.1).wf = true ∧ (Lit.int .u16 z.2.2).wf = true) {a1 : Option Addr} {n1 cap1 : Nat} {f : Nat → Int × Int} (w1 : n1 ≤ 9223372036854775807 ∧ (∀ i, i < n1 → 0 ≤ (f i).1 ∧ (f i).1 ≤ 255 ∧ 0 ≤ (f i).2 ∧ (f i).2 ≤ 255) ∧ ArgRow W a1 n1 2 (fun i => [.int .u8 (f i).1, .int .u8 (f i).2])) {l : Option Addr} {len cap : Nat} {xs : List Int} (w2 : len = xs.length ∧ len ≤ 9223372036854775807 ∧ ArgRow W l len 1 (fun i => [u16 (xs.getD i 0)]) ∧ ∀ x ∈ xs, 0 ≤ x ∧ x ≤ 65535) {lb : Option Addr} {lenb capb : Nat} {ys : List Int} (w3 : lenb = ys.length ∧ lenb ≤ 9223372036854775807 ∧ ArgRow W lb lenb 1 (fun i => [u16 (ys.getD i 0)]) ∧ ∀ x ∈ ys, 0 ≤ x ∧ x ≤ 65535) (tm : Int) (wt : (Lit.int .u8 tm).wf = true) :
    Calls Tryz.prog 7 #[.agg #[u16 z.1, u16 z.2.1, u16 z.2.2], .slice a1 n1 cap1, .slice l len cap, .slice lb lenb capb, .int .u8 tm] W fun e w' => e = .returned (.bool true) ∧ RowKit.Below W.heap.size W w' := by
  have b0 := bounds_u16 w0.1
  have b1 := bounds_u16 w0.2.1
  have b2 := bounds_u16 w0.2.2
  have b3 := bounds_u8 wt
  obtain ⟨rfl, v2, v3, v4⟩ := w2
  obtain ⟨rfl, y2, y3, y4⟩ := w3
  obtain ⟨u1, u2, u3⟩ := w1
  have hn : n1 = ((List.range n1).map f).length := by simp
  have key := law_of (flipCollects_ok W [old W] z.1 z.2.1 z.2.2 ⟨b0.1, b1.1, b2.1⟩ ((List.range n1).map f) (fun h hh => by
    obtain ⟨i, hi, rfl⟩ := List.mem_map.1 hh
    have := u2 i (List.mem_range.1 hi)
    omega) (by rw [← hn]; exact u1) a1 cap1 (sln_arg2 u3) l cap xs (slr_u16 v3) (fun x hx => by have := v4 x hx; omega) v2 (some_u8 (f := fun i => u16 (xs.getD i 0)) v3) lb capb ys (slr_u16 y3) (fun x hx => by have := y4 x hx; omega) y2 (some_u8 (f := fun i => u16 (ys.getD i 0)) y3) tm (by omega))
  rw [← hn] at key
  exact key

namespace flipCollects
open Go.ChangeShapes Go.WideShapes Go.ChangeAt Go.RowKit
set_option maxRecDepth 100000 in
theorem lifted (os : Os) (started : os.Started) (H : Type) (enc : TypeId × Value → H) :
    ReturnsInHanded {} Tryz.checked os 7 .any (Rows.flipCollectsSpec.pre6 enc Tryz.prog Tryz.f7 Rows.flipCollectsRow.domain false) (Rows.flipCollectsSpec.post enc Tryz.prog Tryz.f7 false true false false) := by
  refine returnsInHanded_of_change (C := Tryz.checked) Tryz.ownKnobs started (by kernel_rfl) Tryz.func7
    (ChangeSpec.witness6 (enc := enc) (C := Tryz.checked) false ⟨#[], #[.agg #[.int .u16 0, .int .u16 0, .int .u16 0], .slice none 0 0, .slice none 0 0, .slice none 0 0, .int .u8 0], []⟩ 8 (by kernel_rfl) (by kernel_rfl) (by kernel_rfl) (by kernel_rfl)) ?_
  intro W base args ds gs before hval0 hW hcnd _
  have hval : ∀ (j : Nat) t v, Tryz.f7.params[j]? = some t → args[j]? = some v → Value.okWide Tryz.prog W .any base t v := hval0
  have hW' := hW
  obtain ⟨p, q, hA0, hV, rfl, hfz, hnd⟩ := hW
  have hA : DataW.TrodAll enc Tryz.prog W 0 (fun _ => true) true Tryz.f7.params.toList args.toList ds p := hA0
  rw [Tryz.params7] at hA hval
  obtain ⟨v0, vs0, d0, ds0, p0, q0, hargs, rfl, rfl, h0, r0⟩ := trodAll_cons hA
  obtain ⟨v1, vs1, d1, ds1, p1, q1, rfl, rfl, rfl, h1, r1⟩ := trodAll_cons r0
  obtain ⟨v2, vs2, d2, ds2, p2, q2, rfl, rfl, rfl, h2, r2⟩ := trodAll_cons r1
  obtain ⟨v3, vs3, d3, ds3, p3, q3, rfl, rfl, rfl, h3, r3⟩ := trodAll_cons r2
  obtain ⟨v4, vs4, d4, ds4, p4, q4, rfl, rfl, rfl, h4, r4⟩ := trodAll_cons r3
  obtain ⟨rfl, rfl, rfl⟩ := trodAll_nil r4
  obtain rfl : args = #[v0, v1, v2, v3, v4] := by cases args; simp_all
  obtain ⟨rfl, rfl⟩ := trodVars_none hV
  have k0 := h0
  have lt0 : ∀ x ∈ p0, x.block < W.heap.size := by obtain ⟨m, hm⟩ := k0; exact DataW.trod_lt m _ _ _ hm
  obtain ⟨z0, rfl, w0⟩ := arg_st_u16_u16_u16 (hval 0 24 v0 rfl rfl) h0
  obtain ⟨a1, len1, cap1, rfl⟩ := okWide_slice Tryz.underlying25 (hval 1 25 v1 rfl rfl)
  have k1 := h1
  have lt1 : ∀ x ∈ p1, x.block < W.heap.size := by obtain ⟨m, hm⟩ := k1; exact DataW.trod_lt m _ _ _ hm
  obtain ⟨z1, w1⟩ := arg_sl_st_u8_u8 h1
  obtain ⟨a2, len2, cap2, rfl⟩ := okWide_slice Tryz.underlying26 (hval 2 26 v2 rfl rfl)
  have k2 := h2
  have lt2 : ∀ x ∈ p2, x.block < W.heap.size := by obtain ⟨m, hm⟩ := k2; exact DataW.trod_lt m _ _ _ hm
  obtain ⟨z2, w2⟩ := arg_sl_u16 h2
  obtain ⟨a3, len3, cap3, rfl⟩ := okWide_slice Tryz.underlying26 (hval 3 26 v3 rfl rfl)
  have k3 := h3
  have lt3 : ∀ x ∈ p3, x.block < W.heap.size := by obtain ⟨m, hm⟩ := k3; exact DataW.trod_lt m _ _ _ hm
  obtain ⟨z3, w3⟩ := arg_sl_u16 h3
  have k4 := h4
  have lt4 : ∀ x ∈ p4, x.block < W.heap.size := by obtain ⟨m, hm⟩ := k4; exact DataW.trod_lt m _ _ _ hm
  obtain ⟨a4, rfl, w4⟩ : ∃ a, v4 = .int .u8 a ∧ (Lit.int .u8 a).wf = true := by
    obtain ⟨a, e, _, _, wa⟩ := open_int Tryz.underlying5 (hval 4 5 v4 rfl rfl) h4
    exact ⟨a, e, wa⟩
  clear hA0 hval0
  refine (flipCollects_walk W z0 w0 w1 w2 w3 a4 w4).mono fun e W' ⟨he, bel⟩ => ?_
  subst he
  exact ⟨_, rfl, _, _, _, [], _, [], hW', trodAll_mk1 (shut_bool Tryz.underlying4 _), (trodAll_cons_mk (Below.trod Tryz.laidOut (by kernel_rfl) (of_decide_eq_true (by kernel_rfl)) k0 bel lt0) (trodAll_cons_mk (Below.trod Tryz.laidOut (by kernel_rfl) (of_decide_eq_true (by kernel_rfl)) k1 bel lt1) (trodAll_cons_mk (Below.trod Tryz.laidOut (by kernel_rfl) (of_decide_eq_true (by kernel_rfl)) k2 bel lt2) (trodAll_cons_mk (Below.trod Tryz.laidOut (by kernel_rfl) (of_decide_eq_true (by kernel_rfl)) k3 bel lt3) (trodAll_cons_mk (Below.trod Tryz.laidOut (by kernel_rfl) (of_decide_eq_true (by kernel_rfl)) k4 bel lt4) trodAll_mk0))))), rfl, bel.frame _, fun h => by cases h⟩
theorem over : Rows.flipCollectsRow.holds Tryz.pinned (OpenSpec.ofChange Rows.flipCollectsSpec) :=
  OpenClaim.holds_of_wide 7 Tryz.f7 rfl rfl rfl rfl rfl rfl rfl ⟨rfl, rfl, rfl, rfl, rfl⟩ rfl rfl rfl rfl rfl (by kernel_rfl) Tryz.func7 (by kernel_rfl)
    (of_decide_eq_true (by kernel_rfl)) (by unfold Func.isWrapper; first | (rw [if_pos (by decide +kernel)]; kernel_rfl) | (rw [if_neg (by decide +kernel)]; exact ⟨rfl, rfl⟩))
    (fun os started H enc _ => lifted os started H enc)
/-- The statement. -/
theorem proved : Rows.FlipCollectsSaid := over
end flipCollects

end Go.Proofs.YtbfheafpecgphaaGreat
