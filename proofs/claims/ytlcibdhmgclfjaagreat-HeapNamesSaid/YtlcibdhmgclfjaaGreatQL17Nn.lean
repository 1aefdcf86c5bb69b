/- Part of the texts beneath a law: what its proof names. Conditions: none. -/
import Derived.Test.YtlcibdhmgclfjaaGreatQL17Nm
set_option linter.unusedSimpArgs false
set_option linter.unusedVariables false
set_option linter.unnecessarySimpa false
set_option linter.unusedSectionVars false
namespace Go.Proofs.YtlcibdhmgclfjaaGreat
open Go
theorem out_on {s : Dev} (h : s.pow.lim < 0) : s.pow.out = false := by unfold Pow.out; simp; omega
theorem store_on {s : Dev} (h : s.pow.lim < 0) (i v : Int) : ∃ a s', s.store i v = .ok a s' ∧ s'.pow.lim < 0 := by
  unfold Dev.store
  split
  · exact ⟨_, _, rfl, h⟩
  · rw [if_neg (by rw [out_on h]; decide)]; exact ⟨_, _, rfl, h⟩
theorem flush_on {s : Dev} (h : s.pow.lim < 0) (i : Int) : ∃ a s', s.flush i = .ok a s' ∧ s'.pow.lim < 0 := by
  unfold Dev.flush
  split
  · exact ⟨_, _, rfl, h⟩
  · rw [if_neg (by rw [out_on h]; decide)]; exact ⟨_, _, rfl, h⟩
theorem fence_on {s : Dev} (h : s.pow.lim < 0) : ∃ s', s.fence = .ok () s' ∧ s'.pow.lim < 0 := by
  unfold Dev.fence
  rw [if_neg (by rw [out_on h]; decide)]; exact ⟨_, rfl, h⟩
theorem recN_on {c : Cfg} : ∀ (k : Nat) (s : Dev), s.pow.lim < 0 → ∃ s', recN undoS c k s = .ok () s' ∧ s'.pow.lim < 0
  | 0, s, h => ⟨s, rfl, h⟩
  | k + 1, s, h => by
    unfold recN undoS
    obtain ⟨a, s1, e1, h1⟩ := store_on h (IntKind.i64.wrap (s.load (c.record k + 1))) (s.load (c.record k + 2))
    obtain ⟨a2, s2, e2, h2⟩ := flush_on h1 (IntKind.i64.wrap (s.load (c.record k + 1)))
    rw [e1]
    simp only [then_ok]
    rw [e2]
    simp only [then_ok]
    exact recN_on k s2 h2
theorem trunc_on {L : LogS} {s : Dev} (h : s.pow.lim < 0) : ∃ L' s', L.truncate s = .ok L' s' ∧ s'.pow.lim < 0 := by
  unfold LogS.truncate
  split
  · exact ⟨_, _, rfl, h⟩
  · obtain ⟨a, s1, e1, h1⟩ := store_on h 8 ((L.epoch + 1) % 4294967296)
    obtain ⟨a2, s2, e2, h2⟩ := flush_on h1 8
    obtain ⟨s3, e3, h3⟩ := fence_on h2
    rw [e1]; simp only [then_ok]; rw [e2]; simp only [then_ok]; rw [e3]
    exact ⟨_, _, rfl, h3⟩
theorem undo_on {L : LogS} {s : Dev} (h : s.pow.lim < 0) : ∃ L' s', L.undo s = .ok L' s' ∧ s'.pow.lim < 0 := by
  unfold LogS.undo
  obtain ⟨s1, e1, h1⟩ := recN_on (c := L.c) L.n.toNat s h
  rw [e1]
  simp only [then_ok]
  split
  · obtain ⟨s2, e2, h2⟩ := fence_on h1
    rw [e2]; exact trunc_on h2
  · exact trunc_on h1
def cpD (s : Dev) (pa : Nat) : Dev := ⟨pa, ⟨-1, 0⟩, s.n, fun i => (tab s.n s.now).getD i 0, fun i => (tab s.n s.now).getD i 0, fun _ => none⟩
theorem cpD_u {s : Dev} (hu : U64 s) (pa : Nat) : U64 (cpD s pa) := fun i => by
  show 0 ≤ (tab s.n s.now).getD i 0 ∧ (tab s.n s.now).getD i 0 < _
  by_cases hi : i < s.n
  · have e : tab s.n s.now = (List.range s.n).map s.now := rfl
    rw [e, List.getD_eq_getElem?_getD]
    simp [hi]; exact hu i
  · rw [List.getD_eq_getElem?_getD, List.getElem?_eq_none (by rw [tab_len]; omega)]; decide
theorem SlR.tb {B : World} {H : List HP} {n b cap : Nat} {f : Nat → Value} {rest : List Value} {T : TypeId} {U : List Value → List HP} [RowU H b (tab n f ++ rest) T U] : SlR B H (.slice (some ⟨b, 0, none⟩) n cap) (tab n f) :=
  SlR.row (cs := Proofs.YtlcibdhmgclfjaaGreat.tab n f ++ rest) (T := T) (U := U) (by rw [List.drop_zero, List.take_append_of_le_length (by rw [tab_len]; omega), List.take_of_length_le (by rw [tab_len]; omega)]) (by rw [tab_len])
theorem readC_w {s : Dev} (h : s.readC.2 = 0) : CfgW s.readC.1 ∧ (s.n : Int) = s.readC.1.words := by
  unfold Dev.readC at h ⊢
  split at h
  · cases h
  split at h
  · cases h
  split at h
  · cases h
  · rename_i h1 h2 h3
    rw [if_neg h1, if_neg h2, if_neg h3]
    simp only
    constructor
    · exact Classical.byContradiction fun h4 => h3 (.inl h4)
    · exact Classical.byContradiction fun h4 => h3 (.inr h4)
def openE (bd : Nat) (s : Dev) (e : Int) : Prop :=
  (s.readC.2 ≠ 0 ∧ e = s.readC.2) ∨ (s.readC.2 = 0 ∧ 0 ≤ goodN s s.readC.1 (openL bd s.readC.1 s).n.toNat 0 ∧ e = 9) ∨
  (s.readC.2 = 0 ∧ goodN s s.readC.1 (openL bd s.readC.1 s).n.toNat 0 < 0 ∧ ∃ bc pa L1 t1, (openL bc s.readC.1 (cpD s pa)).undo (cpD s pa) = .ok L1 t1 ∧ e = t1.check s.readC.1)
def heapOf (bd : Nat) (c : Cfg) (s : Dev) : HpS := ⟨bd, c, ⟨openL bd c s, 0, 0, [], []⟩, false, ⟨[], [], 0⟩, none⟩
theorem hpopen_ok (B : World) (Fr : List HP) (bd : Nat) (s : Dev) (hu : U64 s) (hn : s.n ≤ 100000) :
    ∀ w, Holds B (DevA bd s :: Fr) w → Calls Tryz.prog 19 [ptr bd].toArray w (Ret B (fun rv H' => (∃ e, e ≠ 0 ∧ openE bd s e ∧ rv = .tuple #[.pointer none, i64 e] ∧ H' = DevA bd s :: Fr) ∨ (∃ bh L' s', openE bd s 0 ∧ (openL bd s.readC.1 s).undo s = .ok L' s' ∧ rv = .tuple #[ptr bh, i64 0] ∧ H' = HepA bh (heapOf bd s.readC.1 s') :: DevA bd s' :: Fr)) (fun ch H' => ∃ s', openE bd s 0 ∧ (openL bd s.readC.1 s).undo s = .off s' ∧ ch = offc ∧ H' = DevA bd s' :: Fr)) := by
  refine fn_enter Tryz.func19 rfl Tryz.ntmps19 rfl (go_dw bd fun hn1 hn2 hn3 => (g_seq (g_region (kPa rfl rfl (kPa rfl rfl (p_nil (g_seq (g_region (kPm rfl rfl (p_callq rfl (en_f Tryz.call63 rfl) (ro_at (q := DevA) (fun Fr => read_ok _ Fr bd s)) .free rfl rfl ?_))))))))))
  refine kPm rfl rfl (kPv (ev_ext rfl rfl) rfl (kPv (ev_ext rfl rfl) rfl (p_chg rfl (ch_allocA Tryz.zeroValue40 rfl) .free rfl rfl ?_)))
  rintro _ _ ⟨b4, rfl, rfl⟩
  refine p_chg0 rfl (ch_storeA (vs := _) Tryz.sizeOf40 rfl rfl rfl rfl rfl) .free rfl ?_
  rintro _ _ rfl
  refine kPa rfl rfl (p_nil (g_seq (g_seq (g_region (kPm rfl rfl (kPv (ev_cmp rfl rfl rfl) rfl (p_nil ?_)))))))
  refine g_if rfl (fun h15 => ?_) (fun h15 => ?_)
  · have hc0 : s.readC.2 ≠ 0 := by simpa using h15
    refine g_seq (g_region (kPm rfl rfl (kPa rfl rfl (kPa rfl rfl (p_nil (go_sb [3, 2, 4, 0] rfl (g_ret ?_)))))))
    exact ret_tmp2 Tryz.results19 rfl rfl (fun w hw => ⟨_, .inl ⟨_, hc0, .inl ⟨hc0, rfl⟩, rfl, rfl⟩, (hw.dp [0])⟩)
  · have hc0 : s.readC.2 = 0 := by simpa using h15
    have hc := (readC_w hc0).1
    have hLw : LogW (openL bd s.readC.1 s) := openL_w hc
    refine g_skip (g_seq (g_region (kPm rfl rfl (kPv (ev_loadA Tryz.isAgg40 Tryz.sizeOf40 rfl rfl) rfl ?_))))
    refine go_pk [1] ?_
    refine p_call rfl (en_f Tryz.call64 rfl) (lopen_ok B _ bd s s.readC.1 hc) .free rfl rfl ?_ ?_
    rotate_left
    · rintro _ _ ⟨⟩
    rintro _ _ ⟨bl, rfl, rfl⟩
    refine kPa rfl rfl (p_nil (go_sb [6, 4, 3, 2, 0] rfl (g_seq (g_seq (g_region (kPm rfl rfl (p_callq rfl (en_f Tryz.call65 rfl) (lgood_ok B _ bl (openL bd s.readC.1 s) s hLw) .free rfl rfl ?_)))))))
    refine kPv (ev_cmp rfl rfl rfl) rfl (p_nil ?_)
    refine g_if rfl (fun h22 => ?_) (fun h22 => ?_)
    · have hg : 0 ≤ goodN s s.readC.1 (openL bd s.readC.1 s).n.toNat 0 := by
        have h9 : 0 ≤ goodN s (openL bd s.readC.1 s).c (openL bd s.readC.1 s).n.toNat 0 := by simpa using h22
        exact h9
      refine g_seq (g_region (kPa rfl rfl (kPa rfl rfl (p_nil (g_ret ?_)))))
      exact ret_tmp2 Tryz.results19 rfl rfl (fun w hw => ⟨_, .inl ⟨9, by decide, .inr (.inl ⟨hc0, hg, rfl⟩), rfl, rfl⟩, (hw.dp [0, 1])⟩)
    · have hg : goodN s s.readC.1 (openL bd s.readC.1 s).n.toNat 0 < 0 := by
        have h9 : goodN s (openL bd s.readC.1 s).c (openL bd s.readC.1 s).n.toNat 0 < 0 := by simpa using h22
        exact h9
      refine g_skip (g_seq (g_region ?_))
      refine p_call rfl (en_f Tryz.call35 rfl) (pnew_ok _ _ _) .free rfl rfl ?_ ?_
      rotate_left
      · rintro _ _ ⟨⟩
      rintro _ _ ⟨pb, rfl, rfl⟩
      refine kPm rfl rfl (go_pk [2] ?_)
      refine p_call rfl (en_f Tryz.call42 rfl) (nwords_ok _ _ bd s) .free rfl rfl ?_ ?_
      rotate_left
      · rintro _ _ ⟨⟩
      rintro _ _ ⟨bw, rest, rfl, rfl⟩
      refine go_pk [2] ?_
      refine p_call rfl (en_f Tryz.call66 rfl) (nnew_ok B _ pb ⟨-1, 0⟩ _ (tab s.n s.now) (by rw [tab_len]; omega) (by rw [tab_len]; omega) (by rw [tab_map]; exact SlR.tb)) .free rfl rfl ?_ ?_
      rotate_left
      · rintro _ _ ⟨⟩
      rintro _ _ ⟨bc, rfl, rfl⟩
      refine go_conv (H' := DevA bc (cpD s pb) :: _) (fun w hh => by unfold cpD; rw [tab_len, show (s.n + 7) / 8 * 8 = s.n by omega] at hh; exact hh) ?_
      obtain ⟨L1, t1, hu1, _⟩ := undo_on (s := cpD s pb) (L := openL bc s.readC.1 (cpD s pb)) (show (-1 : Int) < 0 by decide)
      have hk1 := undo_k (openL_w hc) hu1
      have hut1 := hk1.1 (cpD_u hu pb)
      refine kPa rfl rfl (p_nil (go_sb [7, 6, 4, 3, 2, 0] rfl (g_seq (g_region (kPm rfl rfl (kPv (ev_loadA Tryz.isAgg40 Tryz.sizeOf40 rfl rfl) rfl ?_))))))
      refine p_call rfl (en_f Tryz.call64 rfl) (lopen_ok B _ bc (cpD s pb) s.readC.1 hc) .free rfl rfl ?_ ?_
      rotate_left
      · rintro _ _ ⟨⟩
      rintro _ _ ⟨bl2, rfl, rfl⟩
      refine p_call rfl (en_f Tryz.call67 rfl) (lundo_ok B _ bl2 (openL bc s.readC.1 (cpD s pb)) (cpD s pb) (openL_w hc)) .free rfl rfl ?_ ?_
      rotate_left
      · rintro _ _ ⟨s9, hm9, -, -⟩
        cases hu1.symm.trans hm9
      rintro _ _ ⟨L9, t9, hm9, rfl, rfl⟩
      cases hu1.symm.trans hm9
      refine go_conv (H' := LogA bl2 _ :: DevA bc t1 :: _) (fun w hh => hh) (p_nil (g_seq (g_seq (go_pk [1] (g_region (kPm rfl rfl (kPv (ev_loadA Tryz.isAgg40 Tryz.sizeOf40 rfl rfl) rfl ?_)))))))
      refine p_callq rfl (en_f Tryz.call68 rfl) (ccheck_ok B _ bc t1 s.readC.1 hc hut1) .free rfl rfl ?_
      refine kPa rfl rfl (p_nil (go_sb [8, 6, 4, 3, 2, 0] rfl (g_seq (g_region (kPm rfl rfl (kPv (ev_cmp rfl rfl rfl) rfl (p_nil ?_)))))))
      refine g_if rfl (fun h35 => ?_) (fun h35 => ?_)
      · have hk : t1.check s.readC.1 ≠ 0 := by simpa using h35
        refine g_seq (g_region (kPm rfl rfl (kPa rfl rfl (kPa rfl rfl (p_nil (g_ret ?_))))))
        exact ret_tmp2 Tryz.results19 rfl rfl (fun w hw => ⟨_, .inl ⟨_, hk, .inr (.inr ⟨hc0, hg, bc, pb, L1, t1, hu1, rfl⟩), rfl, rfl⟩, (hw.dp [0, 0, 0, 1, 1])⟩)
      · have hk : t1.check s.readC.1 = 0 := by simpa using h35
        have hE : openE bd s 0 := .inr (.inr ⟨hc0, hg, bc, pb, L1, t1, hu1, hk.symm⟩)
        refine g_skip (g_seq (g_region (kPm rfl rfl (go_pk [4, 3] ?_))))
        refine p_call rfl (en_f Tryz.call67 rfl) (lundo_ok B _ bl (openL bd s.readC.1 s) s hLw) .free rfl rfl ?_ ?_
        rotate_left
        · rintro _ _ ⟨s9, hm9, rfl, rfl⟩
          exact pan_fn fun w hh => ⟨_, ⟨s9, hE, hm9, rfl, rfl⟩, (show Holds B (LogA bl _ :: DevA bd s9 :: _) w from hh).dp [0, 1, 1, 1, 1]⟩
        rintro _ _ ⟨L3, s2, hm3, rfl, rfl⟩
        refine go_conv (H' := LogA bl _ :: DevA bd s2 :: _) (fun w hh => hh) (p_nil (g_seq (go_pk [5] (go_conv (H' := row b4 [i64 s.readC.1.log, i64 s.readC.1.roots, i64 s.readC.1.space] 40 :: _) (fun w hh => hh) (g_drawv [0, 1, 2, 3, 4, 5, 6, 7, 8, 9] [4, 5, 7] [0, 1] [4, 5] [row b4 [i64 s.readC.1.log, i64 s.readC.1.roots, i64 s.readC.1.space] 40] Tryz.mixed (by kernel_rfl) ?_)))))
        refine v_hoist rfl rfl rfl (ev_move rfl) .free rfl (v_hoist rfl rfl rfl (ev_loadA Tryz.isAgg40 Tryz.sizeOf40 rfl rfl) .free rfl ?_)
        refine v_val rfl rfl rfl (ev_move rfl) .free rfl (v_val rfl rfl rfl (ev_loadA Tryz.isAgg40 Tryz.sizeOf40 rfl rfl) .free rfl ?_)
        refine v_mark rfl rfl (go_pk [2] ?_)
        refine p_call rfl (en_f Tryz.call69 rfl) (snew_ok B _ bd s2 s.readC.1 hc) .free rfl rfl ?_ ?_
        rotate_left
        · rintro _ _ ⟨⟩
        rintro _ _ ⟨bs, rfl, rfl⟩
        refine p_nil (v_on (v_mark rfl rfl ?_))
        refine p_call rfl (en_f Tryz.call70 rfl) (hnew_ok _ _) .free rfl rfl ?_ ?_
        rotate_left
        · rintro _ _ ⟨⟩
        rintro _ _ ⟨bt, rfl, rfl⟩
        refine p_nil (v_on ?_)
        refine v_val rfl rfl rfl (ev_build rfl (bld_93_0_1_2_3 _ _ _ _ _ _ (by first | rfl | assumption) (by first | rfl | assumption) (by first | rfl | assumption))) .free rfl ?_; refine v_mark rfl rfl ?_; refine p_chg rfl (ch_boxA rfl) .free rfl rfl ?_
        rintro _ _ ⟨b46, rfl, rfl⟩
        refine p_nil (v_off rfl (v_val rfl rfl rfl (ev_assign rfl) .free rfl (v_val rfl rfl rfl (ev_assign rfl) .free rfl (v_nil (go_sb [3, 2] rfl (g_ret ?_))))))
        exact ret_tmp2 Tryz.results19 rfl rfl (fun w hw => ⟨_, .inr ⟨b46, L3, s2, hE, hm3, rfl, rfl⟩, hep_N (h := heapOf bd s.readC.1 s2) (bs := bs) (bt := bt) (x := 0) rfl rfl ((hw.dp [4, 4, 4, 4, 4]).pk [0, 1])⟩)
end Go.Proofs.YtlcibdhmgclfjaaGreat
namespace Go.Proofs.YtlcibdhmgclfjaaGreat
open Go
def OutP {α : Type} (m : Out α) (ok : α → Dev → Prop) (off : Dev → Prop) : Prop := match m with
  | .ok a s => ok a s
  | .off s => off s
theorem OutP.bind {α β : Type} {m : Out α} {f : α → Dev → Out β} {ok : α → Dev → Prop} {ok' : β → Dev → Prop} {off : Dev → Prop} (h : OutP m ok off) (g : ∀ a s, ok a s → OutP (f a s) ok' off) : OutP (m.then f) ok' off := by
  cases m with
  | ok a s => exact g a s h
  | off s => exact h
theorem OutP.mono {α : Type} {m : Out α} {ok ok' : α → Dev → Prop} {off off' : Dev → Prop} (h : OutP m ok off) (f : ∀ a s, ok a s → ok' a s) (g : ∀ s, off s → off' s) : OutP m ok' off' := by
  cases m with
  | ok a s => exact f a s h
  | off s => exact g s h
structure Stab (lo hi : Int) (J : Dev → Prop) : Prop where
  n : ∀ s, J s → 0 ≤ lo ∧ hi ≤ s.n
  st : ∀ s i v, J s → lo ≤ i → i < hi → 0 ≤ v → v < 18446744073709551616 → J (s.up.st i.toNat v)
  fl : ∀ s i, J s → lo ≤ i → i < hi → J (s.up.fl i.toNat)
  fe : ∀ s, J s → J s.up.fe
abbrev OffJ (J : Dev → Prop) (s : Dev) : Prop := J s ∧ s.pow.out = true
def updI (m : Int → Int) (i v : Int) : Int → Int := fun j => if j = i then v else m j
theorem Stab.has {lo hi : Int} {J : Dev → Prop} (h : Stab lo hi J) {s : Dev} (hs : J s) {i : Int} (h1 : lo ≤ i) (h2 : i < hi) : s.has i = true := by
  have := h.n s hs
  unfold Dev.has; simp; omega
theorem st_load {s : Dev} {i v : Int} (h : s.has i = true) : (s.up.st i.toNat v).load = updI s.load i v := by
  funext j
  unfold Dev.has at h
  simp only [Bool.and_eq_true, decide_eq_true_eq] at h
  unfold updI Dev.load
  have e : (s.up.st i.toNat v).has j = s.has j := rfl
  rw [e]
  by_cases hj : j = i
  · subst hj
    rw [if_pos rfl, if_pos (by unfold Dev.has; simp; omega)]
    show upd s.now j.toNat v j.toNat = v
    simp [upd]
  · rw [if_neg hj]
    by_cases hh : s.has j = true
    · rw [if_pos hh, if_pos hh]
      unfold Dev.has at hh
      simp only [Bool.and_eq_true, decide_eq_true_eq] at hh
      show upd s.now i.toNat v j.toNat = s.now j.toNat
      unfold upd
      rw [if_neg (by omega)]
    · rw [if_neg hh, if_neg hh]
theorem Stab.store {lo hi : Int} {J : Dev → Prop} (h : Stab lo hi J) {s : Dev} (hs : J s) {i v : Int} (h1 : lo ≤ i) (h2 : i < hi) (h3 : 0 ≤ v) (h4 : v < 18446744073709551616) :
    OutP (s.store i v) (fun a s' => a = 0 ∧ J s' ∧ s'.load = updI s.load i v) (OffJ J) := by
  have hh := h.has hs h1 h2
  unfold Dev.store
  rw [if_neg (by rw [hh]; decide)]
  by_cases hp : s.pow.out = true
  · rw [if_pos hp]; exact ⟨hs, hp⟩
  · rw [if_neg hp]; exact ⟨rfl, h.st s i v hs h1 h2 h3 h4, st_load hh⟩
theorem Stab.flush {lo hi : Int} {J : Dev → Prop} (h : Stab lo hi J) {s : Dev} (hs : J s) {i : Int} (h1 : lo ≤ i) (h2 : i < hi) :
    OutP (s.flush i) (fun a s' => a = 0 ∧ J s' ∧ s' = s.up.fl i.toNat) (OffJ J) := by
  have hh := h.has hs h1 h2
  unfold Dev.flush
  rw [if_neg (by rw [hh]; decide)]
  by_cases hp : s.pow.out = true
  · rw [if_pos hp]; exact ⟨hs, hp⟩
  · rw [if_neg hp]; exact ⟨rfl, h.fl s i hs h1 h2, rfl⟩
theorem Stab.fence {lo hi : Int} {J : Dev → Prop} (h : Stab lo hi J) {s : Dev} (hs : J s) :
    OutP s.fence (fun _ s' => J s' ∧ s' = s.up.fe) (OffJ J) := by
  unfold Dev.fence
  by_cases hp : s.pow.out = true
  · rw [if_pos hp]; exact ⟨hs, hp⟩
  · rw [if_neg hp]; exact ⟨h.fe s hs, rfl⟩
theorem Stab.cpy {lo hi : Int} {J : Dev → Prop} (h : Stab lo hi J) : ∀ (k : Nat) (i a f : Int) (s : Dev), J s → 0 ≤ i → lo ≤ a + i → a + i + k ≤ hi → (f + i + k ≤ a + i ∨ a + i + k ≤ f + i) → (∀ x, 0 ≤ s.load x ∧ s.load x < 18446744073709551616) →
    OutP (cpyN k i a f s) (fun _ s' => J s' ∧ s'.load = fun j => if a + i ≤ j ∧ j < a + i + k then s.load (f + (j - a)) else s.load j) (OffJ J)
  | 0, i, a, f, s, hs, _, _, _, _, _ => by
    refine ⟨hs, ?_⟩
    funext j
    rw [if_neg (by omega)]
  | k + 1, i, a, f, s, hs, hi0, h1, h2, h3, hu => by
    rw [cpyN_succ]
    refine (h.store hs (i := a + i) (v := s.load (f + i)) h1 (by omega) (hu _).1 (hu _).2).bind fun r s1 ⟨_, hs1, e1⟩ => ?_
    have hu1 : ∀ x, 0 ≤ s1.load x ∧ s1.load x < 18446744073709551616 := fun x => by rw [e1]; unfold updI; split; exact hu _; exact hu _
    refine (h.cpy k (i + 1) a f s1 hs1 (by omega) (by omega) (by omega) (by omega) hu1).mono (fun _ s2 ⟨hs2, e2⟩ => ⟨hs2, ?_⟩) (fun _ h => h)
    rw [e2]
    funext j
    rw [e1]
    unfold updI
    by_cases hj : j = a + i
    · subst hj
      rw [if_neg (by omega), if_pos rfl, if_pos (by omega)]
      congr 1; omega
    · by_cases hr : a + (i + 1) ≤ j ∧ j < a + (i + 1) + k
      · rw [if_pos hr, if_neg (by omega), if_pos (by omega)]
      · rw [if_neg hr, if_neg hj, if_neg (by omega)]
def osz (m : Int → Int) (k : Int) : Int := (unp (m k)).1 + 1
def orf (m : Int → Int) (k : Int) : Int := (unp (m k)).2.1
theorem osz_b (m : Int → Int) (k : Int) : 1 ≤ osz m k ∧ osz m k ≤ 65 ∧ 0 ≤ orf m k ∧ orf m k + 1 ≤ osz m k := by
  have := unp_b (m k); unfold osz orf; omega
def Tile (m : Int → Int) : Int → List Int → Int → Prop
  | a, [], e => a = e
  | a, k :: t, e => k = a ∧ (unp (m a)).2.2 = true ∧ Tile m (a + osz m a) t e
theorem Tile.le {m : Int → Int} : ∀ {L : List Int} {a e : Int}, Tile m a L e → a ≤ e
  | [], a, e, h => Int.le_of_eq h
  | k :: t, a, e, h => by have := h.2.2.le; have := osz_b m a; omega
theorem Tile.mem {m : Int → Int} : ∀ {L : List Int} {a e k : Int}, Tile m a L e → k ∈ L → a ≤ k ∧ k + osz m k ≤ e ∧ (unp (m k)).2.2 = true
  | [], _, _, _, _, h => by cases h
  | x :: t, a, e, k, h, hk => by
    obtain ⟨rfl, h2, h3⟩ := h
    have := osz_b m x
    rcases List.mem_cons.1 hk with rfl | hk
    · exact ⟨Int.le_refl _, h3.le, h2⟩
    · have := Tile.mem h3 hk; exact ⟨by omega, this.2⟩
theorem Tile.nodup {m : Int → Int} : ∀ {L : List Int} {a e : Int}, Tile m a L e → L.Nodup
  | [], _, _, _ => List.nodup_nil
  | x :: t, a, e, h => by
    obtain ⟨rfl, h2, h3⟩ := h
    have := osz_b m x
    exact List.nodup_cons.2 ⟨fun hm => by have := (Tile.mem h3 hm).1; omega, h3.nodup⟩
theorem Tile.disj {m : Int → Int} : ∀ {L : List Int} {a e k k' : Int}, Tile m a L e → k ∈ L → k' ∈ L → k < k' → k + osz m k ≤ k'
  | [], _, _, _, _, _, h, _, _ => by cases h
  | x :: t, a, e, k, k', h, hk, hk', hlt => by
    obtain ⟨rfl, h2, h3⟩ := h
    rcases List.mem_cons.1 hk with e1 | hk2
    · rcases List.mem_cons.1 hk' with e2 | hk3
      · omega
      · subst e1; exact (Tile.mem h3 hk3).1
    · rcases List.mem_cons.1 hk' with e2 | hk3
      · have := (Tile.mem h3 hk2).1; have := osz_b m x; omega
      · exact Tile.disj h3 hk2 hk3 hlt
def sumI (f : Int → Int) (l : List Int) : Int := (l.map f).sum
theorem Tile.sum {m : Int → Int} : ∀ {L : List Int} {a e : Int}, Tile m a L e → e = a + sumI (osz m) L
  | [], a, e, h => by simp [sumI]; exact h.symm
  | x :: t, a, e, h => by
    obtain ⟨rfl, h2, h3⟩ := h
    have := Tile.sum h3
    simp only [sumI, List.map_cons, List.sum_cons] at this ⊢
    omega
theorem sumI_nonneg {f : Int → Int} (hf : ∀ x, 0 ≤ f x) : ∀ l, 0 ≤ sumI f l
  | [] => by simp [sumI]
  | x :: t => by have := sumI_nonneg hf t; have := hf x; simp only [sumI, List.map_cons, List.sum_cons] at *; omega
theorem sumI_erase {f : Int → Int} : ∀ {l : List Int} {x : Int}, x ∈ l → sumI f l = f x + sumI f (l.erase x)
  | [], _, h => by cases h
  | y :: t, x, h => by
    by_cases e : y = x
    · subst e; simp [sumI]
    · have h2 : x ∈ t := by rcases List.mem_cons.1 h with h | h; exact absurd h.symm e; exact h
      have := sumI_erase (f := f) h2
      rw [List.erase_cons_tail (by simpa using e)]
      simp only [sumI, List.map_cons, List.sum_cons] at *
      omega
theorem sumI_sub {f : Int → Int} (hf : ∀ x, 0 ≤ f x) : ∀ {l l' : List Int}, l.Nodup → (∀ x ∈ l, x ∈ l') → sumI f l ≤ sumI f l'
  | [], l', _, _ => by have := sumI_nonneg hf l'; simpa [sumI] using this
  | x :: t, l', hn, hs => by
    rw [List.nodup_cons] at hn
    have h1 := sumI_erase (f := f) (hs x (List.mem_cons_self ..))
    have h2 := sumI_sub hf (l := t) (l' := l'.erase x) hn.2 (fun y hy => (List.mem_erase_of_ne (by intro e; subst e; exact hn.1 hy)).2 (hs y (List.mem_cons_of_mem _ hy)))
    simp only [sumI, List.map_cons, List.sum_cons] at *
    omega
structure HeapW (c : Cfg) (b : Blk) (m : Int → Int) (L : List Int) : Prop where
  tile : Tile m (b.place c 0) L (b.place c b.used)
  names : ∀ k ∈ L, ∀ i, 0 ≤ i → i < orf m k → m (k + 1 + i) = 0 ∨ m (k + 1 + i) ∈ L
  roots : ∀ w ∈ b.rts, w = 0 ∨ w ∈ L
inductive Rch (m : Int → Int) (ws : List Int) : Int → Prop
  | word {w : Int} : w ∈ ws → w ≠ 0 → Rch m ws w
  | name {k i : Int} : Rch m ws k → 0 ≤ i → i < orf m k → m (k + 1 + i) ≠ 0 → Rch m ws (m (k + 1 + i))
theorem heap_b {c : Cfg} (hc : CfgW c) {b : Blk} (hb : BlkW c b) {m : Int → Int} {L : List Int} (h : HeapW c b m L) {k : Int} (hk : k ∈ L) : c.frm b.act ≤ k ∧ k + osz m k ≤ c.frm b.act + b.used ∧ 24 < k ∧ k < 20000 := by
  have h1 := h.tile.mem hk
  have h2 := hb.act; have h3 := hb.used
  have h4 := frm_b hc (k := b.act) (by omega)
  have := osz_b m k; have := hc.s1
  have h5 : (2 - b.act) * c.space = c.space ∨ (2 - b.act) * c.space = 2 * c.space := by
    rcases (by omega : b.act = 0 ∨ b.act = 1) with e | e <;> rw [e]
    · exact .inr (by omega)
    · exact .inl (by omega)
  unfold Blk.place at h1
  omega
theorem heap_of {c : Cfg} (hc : CfgW c) {b : Blk} (hb : BlkW c b) {s : Dev} {L : List Int} (h : HeapW c b s.load L) {k : Int} (hk : k ∈ L) : s.objOf c b k = ((osz s.load k - 1, orf s.load k, k), 0) ∧ b.has c k = true := by
  have h1 := h.tile.mem hk
  have h2 := heap_b hc hb h hk
  have h5 := osz_b s.load k
  have hh : b.has c k = true := by unfold Blk.has; simp; omega
  refine ⟨?_, hh⟩
  unfold Dev.objOf
  rw [if_neg (by rw [hh]; simp; omega), if_neg (by rw [h1.2.2]; unfold osz at h1; simp; omega)]
  unfold osz orf
  simp
end Go.Proofs.YtlcibdhmgclfjaaGreat
namespace Go.Proofs.YtlcibdhmgclfjaaGreat
open Go
def Offs (m : Int → Int) : Int → List (Int × Int) → Int → Prop
  | a, [], e => a = e
  | a, q :: t, e => q.2 = a ∧ Offs m (a + osz m q.1) t e
theorem Offs.le {m : Int → Int} : ∀ {W : List (Int × Int)} {a e : Int}, Offs m a W e → a ≤ e
  | [], a, e, h => Int.le_of_eq h
  | q :: t, a, e, h => by have := h.2.le; have := osz_b m q.1; omega
theorem Offs.mem {m : Int → Int} : ∀ {W : List (Int × Int)} {a e : Int} {q : Int × Int}, Offs m a W e → q ∈ W → a ≤ q.2 ∧ q.2 + osz m q.1 ≤ e
  | [], _, _, _, _, h => by cases h
  | x :: t, a, e, q, h, hq => by
    obtain ⟨h1, h2⟩ := h
    have := osz_b m x.1
    rcases List.mem_cons.1 hq with rfl | hq
    · have := h2.le; omega
    · have := Offs.mem h2 hq; omega
theorem Offs.snoc {m : Int → Int} {k : Int} : ∀ {W : List (Int × Int)} {a e : Int}, Offs m a W e → Offs m a (W ++ [(k, e)]) (e + osz m k)
  | [], a, e, h => by cases h; exact ⟨rfl, rfl⟩
  | x :: t, a, e, h => ⟨h.1, h.2.snoc⟩
theorem Offs.sum {m : Int → Int} : ∀ {W : List (Int × Int)} {a e : Int}, Offs m a W e → e = a + sumI (osz m) (W.map Prod.fst)
  | [], a, e, h => by cases h; simp [sumI]
  | x :: t, a, e, h => by
    have := Offs.sum h.2
    simp only [sumI, List.map_cons, List.sum_cons] at *
    omega
theorem Offs.app {m : Int → Int} : ∀ {W V : List (Int × Int)} {a e x : Int}, Offs m a W x → Offs m a (W ++ V) e → Offs m x V e
  | [], V, a, e, x, h, h2 => by cases h; exact h2
  | q :: t, V, a, e, x, h, h2 => Offs.app h.2 h2.2
theorem Offs.disj {m : Int → Int} : ∀ {W : List (Int × Int)} {a e : Int} {q q' : Int × Int}, Offs m a W e → q ∈ W → q' ∈ W → q.2 < q'.2 → q.2 + osz m q.1 ≤ q'.2
  | [], _, _, _, _, _, h, _, _ => by cases h
  | x :: t, a, e, q, q', h, hq, hq', hlt => by
    have hx := osz_b m x.1
    rcases List.mem_cons.1 hq with e1 | hq2
    · rcases List.mem_cons.1 hq' with e2 | hq3
      · subst e1; subst e2; omega
      · subst e1; have := (Offs.mem h.2 hq3).1; have := h.1; omega
    · rcases List.mem_cons.1 hq' with e2 | hq3
      · subst e2; have := (Offs.mem h.2 hq2).1; have := h.1; omega
      · exact Offs.disj h.2 hq2 hq3 hlt
theorem Offs.inj {m : Int → Int} : ∀ {W : List (Int × Int)} {a e : Int} {q q' : Int × Int}, Offs m a W e → q ∈ W → q' ∈ W → q.2 = q'.2 → q = q'
  | [], _, _, _, _, _, h, _, _ => by cases h
  | x :: t, a, e, q, q', h, hq, hq', heq => by
    have hx := osz_b m x.1
    rcases List.mem_cons.1 hq with e1 | hq2
    · rcases List.mem_cons.1 hq' with e2 | hq3
      · rw [e1, e2]
      · subst e1; have := (Offs.mem h.2 hq3).1; have := h.1; omega
    · rcases List.mem_cons.1 hq' with e2 | hq3
      · subst e2; have := (Offs.mem h.2 hq2).1; have := h.1; omega
      · exact Offs.inj h.2 hq2 hq3 heq
theorem Offs.tile {m m' : Int → Int} : ∀ {W : List (Int × Int)} {a e : Int}, Offs m a W e → (∀ q ∈ W, m' q.2 = m q.1) → (∀ q ∈ W, (unp (m q.1)).2.2 = true) → Tile m' a (W.map Prod.snd) e
  | [], a, e, h, _, _ => h
  | q :: t, a, e, h, h1, h2 => by
    have e1 := h1 q (List.mem_cons_self ..)
    obtain ⟨rfl, h3⟩ := h
    refine ⟨rfl, by rw [e1]; exact h2 q (List.mem_cons_self ..), ?_⟩
    rw [show osz m' q.2 = osz m q.1 by unfold osz; rw [e1]]
    exact h3.tile (fun x hx => h1 x (List.mem_cons_of_mem _ hx)) (fun x hx => h2 x (List.mem_cons_of_mem _ hx))
theorem mget_nk {W : List (Int × Int)} {w : Int} (h : w ∉ W.map Prod.fst) : mget W w = none := by
  induction W with
  | nil => rfl
  | cons x t ih =>
    rw [List.map_cons, List.mem_cons] at h
    unfold mget
    rw [if_neg (fun e => h (.inl e.symm)), ih (fun hm => h (.inr hm))]
def tr (W : List (Int × Int)) (w : Int) : Int := (mget W w).getD 0
theorem tr_of {W : List (Int × Int)} (hn : (W.map Prod.fst).Nodup) {q : Int × Int} (hq : q ∈ W) : tr W q.1 = q.2 := by
  unfold tr
  have : mget W q.1 = some q.2 := by
    induction W with
    | nil => cases hq
    | cons x t ih =>
      rw [List.map_cons, List.nodup_cons] at hn
      unfold mget
      rcases List.mem_cons.1 hq with rfl | hq
      · rw [if_pos rfl]
      · rw [if_neg (fun e => hn.1 (by rw [e]; exact List.mem_map_of_mem hq))]; exact ih hn.2 hq
  rw [this]; rfl
theorem tr_not {W : List (Int × Int)} {w : Int} (h : w ∉ W.map Prod.fst) : tr W w = 0 := by
  unfold tr; rw [mget_nk h]; rfl
theorem tr_app {W V : List (Int × Int)} {w : Int} (h : w ∈ W.map Prod.fst) : tr (W ++ V) w = tr W w := by
  unfold tr
  have : mget (W ++ V) w = mget W w := by
    induction W with
    | nil => cases h
    | cons x t ih =>
      rw [List.map_cons, List.mem_cons] at h
      rw [List.cons_append]
      unfold mget
      split
      · rfl
      · rename_i hne; exact ih (h.resolve_left fun e => hne e.symm)
  rw [this]
structure GcH (c : Cfg) (b : Blk) (m0 : Int → Int) (L : List Int) (lo hi : Int) : Prop where
  hc : CfgW c
  hb : BlkW c b
  heap : HeapW c b m0 L
  lo_ : lo = c.frm (1 - b.act)
  hi_ : hi = lo + c.space
  u : ∀ x, 0 ≤ m0 x ∧ m0 x < 18446744073709551616
theorem GcH.apart {c : Cfg} {b : Blk} {m0 : Int → Int} {L : List Int} {lo hi : Int} (G : GcH c b m0 L lo hi) : (c.frm b.act + c.space ≤ lo ∨ hi ≤ c.frm b.act) ∧ 24 < lo ∧ hi ≤ c.words ∧ hi ≤ 20000 ∧ c.active + 2 + c.roots ≤ lo := by
  have h1 := G.hb.act
  have h2 := frm_b G.hc (k := 1 - b.act) (by omega)
  have h3 := G.lo_; have h4 := G.hi_
  have h6 := G.hc.s1; have h7 := G.hc.s2
  have h5 := lines_b (n := c.space) (by omega)
  have e0 : c.frm 0 = linesI (c.root c.roots) := by simp [Cfg.frm]
  have e1 : c.frm 1 = linesI (c.root c.roots) + linesI c.space := by simp [Cfg.frm]
  rcases (by omega : b.act = 0 ∨ b.act = 1) with e | e
  · rw [e] at h2 h3 ⊢; rw [show (1 : Int) - 0 = 1 from rfl] at h2 h3; rw [e0]; rw [e1] at h2 h3; omega
  · rw [e] at h2 h3 ⊢; rw [show (1 : Int) - 1 = 0 from rfl] at h2 h3; rw [e1]; rw [e0] at h2 h3; omega
structure CI (c : Cfg) (b : Blk) (m0 : Int → Int) (L : List Int) (lo : Int) (ws : List Int) (S : ColS) (m : Int → Int) (p : Int) : Prop where
  cc : S.c = c
  bb : S.b = b
  tt : S.to_ = lo
  nd : (S.went.map Prod.fst).Nodup
  inL : ∀ q ∈ S.went, q.1 ∈ L
  offs : Offs m0 lo S.went S.free
  out : ∀ j, j < lo ∨ S.free ≤ j → m j = m0 j
  hd : ∀ q ∈ S.went, m q.2 = m0 q.1
  cp : ∀ q ∈ S.went, ∀ j, 0 ≤ j → j + 1 < osz m0 q.1 → m (q.2 + 1 + j) = if j < orf m0 q.1 ∧ q.2 + 1 + j < p then tr S.went (m0 (q.1 + 1 + j)) else m0 (q.1 + 1 + j)
  dn : ∀ q ∈ S.went, ∀ j, 0 ≤ j → j < orf m0 q.1 → q.2 + 1 + j < p → m0 (q.1 + 1 + j) = 0 ∨ m0 (q.1 + 1 + j) ∈ S.went.map Prod.fst
  rc : ∀ q ∈ S.went, Rch m0 ws q.1
  u : ∀ x, 0 ≤ m x ∧ m x < 18446744073709551616
section
variable {c : Cfg} {b : Blk} {m0 m : Int → Int} {L ws : List Int} {lo hi p : Int} {S : ColS} {J : Dev → Prop} {s : Dev}
theorem CI.free {c : Cfg} (G : GcH c b m0 L lo hi) (h : CI c b m0 L lo ws S m p) : lo ≤ S.free ∧ S.free ≤ lo + b.used ∧ S.free ≤ hi := by
  have h1 := h.offs.le
  have h2 := h.offs.sum
  have h3 := G.heap.tile.sum
  have h4 := sumI_sub (f := osz m0) (fun x => by have := osz_b m0 x; omega) h.nd (fun x hx => by obtain ⟨q, hq, rfl⟩ := List.mem_map.1 hx; exact h.inL q hq)
  have h5 := G.hb.used; have h6 := G.hi_
  unfold Blk.place at h3
  omega
theorem GcH.zero (G : GcH c b m0 L lo hi) : (0 : Int) ∉ L := fun h => by have := heap_b G.hc G.hb G.heap h; omega
theorem CI.zero (G : GcH c b m0 L lo hi) (h : CI c b m0 L lo ws S m p) : (0 : Int) ∉ S.went.map Prod.fst := fun hm => by
  obtain ⟨q, hq, e⟩ := List.mem_map.1 hm
  exact G.zero (e ▸ h.inL q hq)
theorem CI.old (G : GcH c b m0 L lo hi) (h : CI c b m0 L lo ws S m p) {k j : Int} (hk : k ∈ L) (h0 : 0 ≤ j) (h1 : j < osz m0 k) : m (k + j) = m0 (k + j) := by
  have h2 := heap_b G.hc G.hb G.heap hk
  have h3 := G.apart; have h4 := h.free G; have h5 := G.hb.used; have h6 := G.hi_
  exact h.out _ (by omega)
theorem CI.copied (G : GcH c b m0 L lo hi) (hJ : Stab lo hi J) (h : CI c b m0 L lo ws S s.load p) (hs : J s) {w : Int} (hw : w = 0 ∨ w ∈ L) (hr : w ≠ 0 → Rch m0 ws w) (hp : p ≤ S.free) :
    OutP (S.copied s w) (fun r s' => J s' ∧ CI c b m0 L lo ws r.2 s'.load p ∧ r.1 = tr r.2.went w ∧ (w = 0 ∨ w ∈ r.2.went.map Prod.fst) ∧ (∃ V, r.2.went = S.went ++ V) ∧ r.2.scan = S.scan ∧ r.2.todo = S.todo ∧ r.2.done = S.done ∧ S.free ≤ r.2.free) (OffJ J) := by
  have hfr := h.free G
  unfold ColS.copied
  by_cases hm : (mget S.went w).isSome = true
  · rw [if_pos hm]
    refine ⟨hs, h, rfl, .inr ?_, ⟨[], by simp⟩, rfl, rfl, rfl, Int.le_refl _⟩
    apply Classical.byContradiction
    intro hn
    rw [mget_nk hn] at hm; cases hm
  rw [if_neg hm]
  have hmn : mget S.went w = none := by
    cases hx : mget S.went w with
    | none => rfl
    | some v => rw [hx] at hm; exact absurd rfl hm
  rcases hw with rfl | hw
  · have h2 : S.b.has S.c 0 = false := by
      cases hx : S.b.has S.c 0 with
      | false => rfl
      | true => rw [h.bb, h.cc] at hx; have := bhas_b G.hc G.hb hx; omega
    rw [if_pos h2]
    exact ⟨hs, h, by unfold tr; rw [hmn]; rfl, .inl rfl, ⟨[], by simp⟩, rfl, rfl, rfl, Int.le_refl _⟩
  have hb0 := heap_b G.hc G.hb G.heap hw
  have hz := osz_b m0 w
  have hlw : s.load w = m0 w := by have := h.old G hw (j := 0) (Int.le_refl 0) (by omega); simpa using this
  have hob : s.objOf S.c S.b w = ((osz m0 w - 1, orf m0 w, w), 0) ∧ S.b.has S.c w = true := by
    rw [h.cc, h.bb]
    have h1 := G.heap.tile.mem hw
    have hh : b.has c w = true := by unfold Blk.has; simp; omega
    refine ⟨?_, hh⟩
    unfold Dev.objOf
    rw [if_neg (by rw [hh]; simp; omega), if_neg (by rw [hlw, h1.2.2]; unfold osz at h1; simp; omega), hlw]
    unfold osz orf
    simp
  rw [if_neg (by rw [hob.2]; decide), if_neg (by rw [hob.1]; simp), hob.1]
  have hap := G.apart; have hus := G.hb.used; have hhi := G.hi_
  simp only
  rw [show ((osz m0 w - 1) + 1).toNat = (osz m0 w).toNat by congr 1; omega]
  -- there is room
  have hfit : S.free + osz m0 w ≤ hi := by
    have hnk : w ∉ S.went.map Prod.fst := fun hx => by
      obtain ⟨q, hq, e⟩ := List.mem_map.1 hx
      have := tr_of h.nd hq
      unfold tr at this
      rw [e, hmn] at this
      have h1 := (h.offs.mem hq).1
      simp at this; omega
    have h2 := h.offs.sum
    have h3 := G.heap.tile.sum
    have h4 := sumI_sub (f := osz m0) (l := w :: S.went.map Prod.fst) (l' := L) (fun x => by have := osz_b m0 x; omega) (List.nodup_cons.2 ⟨hnk, h.nd⟩) (fun x hx => by
      rcases List.mem_cons.1 hx with rfl | hx
      · exact hw
      · obtain ⟨q, hq, rfl⟩ := List.mem_map.1 hx; exact h.inL q hq)
    unfold Blk.place at h3
    simp only [sumI, List.map_cons, List.sum_cons] at h2 h3 h4
    omega
  refine (hJ.cpy (osz m0 w).toNat 0 S.free w s hs (Int.le_refl 0) (by omega) (by omega) (by omega) h.u).bind fun _ s' ⟨hs', e'⟩ => ?_
  have hk0 : w ∉ S.went.map Prod.fst := mget_none hmn
  have e1 : mset S.went w S.free = S.went ++ [(w, S.free)] := mset_none hmn
  have hmem : ∀ j, s'.load j = if S.free ≤ j ∧ j < S.free + osz m0 w then m0 (w + (j - S.free)) else s.load j := fun j => by
    rw [e']
    show (if S.free + 0 ≤ j ∧ j < S.free + 0 + ↑(osz m0 w).toNat then s.load (w + (j - S.free)) else s.load j) = _
    by_cases hj : S.free ≤ j ∧ j < S.free + osz m0 w
    · rw [if_pos (by omega), if_pos hj, h.old G hw (by omega) (by omega)]
    · rw [if_neg (by omega), if_neg hj]
  have htr : ∀ x, x = 0 ∨ x ∈ S.went.map Prod.fst → tr (S.went ++ [(w, S.free)]) x = tr S.went x := fun x hx => by
    rcases hx with rfl | hx
    · rw [tr_not (h.zero G), tr_not]
      rw [List.map_append, List.mem_append]
      exact fun hx => hx.elim (h.zero G) (fun hx => by simp at hx; omega)
    · exact tr_app hx
  show J s' ∧ CI c b m0 L lo ws { S with free := S.free + (osz m0 w - 1 + 1), went := mset S.went w S.free } s'.load p ∧ _
  rw [show S.free + (osz m0 w - 1 + 1) = S.free + osz m0 w by omega, e1]
  refine ⟨hs', ⟨h.cc, h.bb, h.tt, ?_, fun q hq => ?_, h.offs.snoc, fun j hj => ?_, fun q hq => ?_, fun q hq j h0 h1 => ?_, fun q hq j h0 h1 h2 => ?_, fun q hq => ?_, fun x => ?_⟩, ?_, .inr (by simp), ⟨_, rfl⟩, rfl, rfl, rfl, by simp only; omega⟩
  · rw [List.map_append, List.nodup_append]
    exact ⟨h.nd, by simp, fun a ha b' hb' => by simp at hb'; subst hb'; intro e; subst e; exact hk0 ha⟩
  · rcases List.mem_append.1 hq with hq | hq
    · exact h.inL q hq
    · rw [List.mem_singleton.1 hq]; exact hw
  · simp only at hj
    rw [hmem, if_neg (by omega)]; exact h.out j (by omega)
  · rcases List.mem_append.1 hq with hq | hq
    · have := h.offs.mem hq; have := osz_b m0 q.1
      rw [hmem, if_neg (by omega)]; exact h.hd q hq
    · rw [List.mem_singleton.1 hq, hmem, if_pos (by simp only; omega)]; simp
  · rcases List.mem_append.1 hq with hq | hq
    · have := h.offs.mem hq
      rw [hmem, if_neg (by omega), h.cp q hq j h0 h1]
      by_cases hc : j < orf m0 q.1 ∧ q.2 + 1 + j < p
      · rw [if_pos hc, if_pos hc]; exact (htr _ (h.dn q hq j h0 hc.1 hc.2)).symm
      · rw [if_neg hc, if_neg hc]
    · rw [List.mem_singleton.1 hq] at h1 ⊢
      simp only at h1 ⊢
      rw [hmem, if_pos (by omega), if_neg (by omega)]
      congr 1; omega
  · rcases List.mem_append.1 hq with hq | hq
    · rcases h.dn q hq j h0 h1 h2 with hz | hz
      · exact .inl hz
      · exact .inr (by rw [List.map_append]; exact List.mem_append_left _ hz)
    · rw [List.mem_singleton.1 hq] at h2; simp only at h2; omega
  · rcases List.mem_append.1 hq with hq | hq
    · exact h.rc q hq
    · rw [List.mem_singleton.1 hq]; exact hr (by omega)
  · rw [hmem]; split
    · exact G.u _
    · exact h.u x
  · have := tr_of (W := S.went ++ [(w, S.free)]) (by
      rw [List.map_append, List.nodup_append]
      exact ⟨h.nd, by simp, fun a ha b' hb' => by simp at hb'; subst hb'; intro e; subst e; exact hk0 ha⟩) (q := (w, S.free)) (by simp)
    exact this.symm
end
end Go.Proofs.YtlcibdhmgclfjaaGreat
namespace Go.Proofs.YtlcibdhmgclfjaaGreat
open Go
section
variable {c : Cfg} {b : Blk} {m0 m : Int → Int} {L ws : List Int} {lo hi p : Int} {S : ColS} {J : Dev → Prop} {s : Dev}
theorem CI.names (G : GcH c b m0 L lo hi) (h : CI c b m0 L lo ws S m p) {q : Int × Int} (hq : q ∈ S.went) {i : Int} (h0 : 0 ≤ i) (h1 : i < orf m0 q.1) : m0 (q.1 + 1 + i) = 0 ∨ m0 (q.1 + 1 + i) ∈ L := G.heap.names _ (h.inL q hq) i h0 h1
theorem CI.tr_b (G : GcH c b m0 L lo hi) (h : CI c b m0 L lo ws S m p) (w : Int) : 0 ≤ tr S.went w ∧ tr S.went w < 18446744073709551616 := by
  by_cases hw : w ∈ S.went.map Prod.fst
  · obtain ⟨q, hq, rfl⟩ := List.mem_map.1 hw
    rw [tr_of h.nd hq]
    have h1 := h.offs.mem hq
    have h2 := h.free G; have h3 := G.apart; have := osz_b m0 q.1
    omega
  · rw [tr_not hw]; omega
theorem CI.field (G : GcH c b m0 L lo hi) (h : CI c b m0 L lo ws S m p) {q : Int × Int} (hq : q ∈ S.went) {i : Int} (h0 : 0 ≤ i) (h1 : i < orf m0 q.1) (hp : p = q.2 + 1 + i) (hn : m0 (q.1 + 1 + i) = 0 ∨ m0 (q.1 + 1 + i) ∈ S.went.map Prod.fst) :
    CI c b m0 L lo ws S (updI m p (tr S.went (m0 (q.1 + 1 + i)))) (p + 1) := by
  have hz := osz_b m0 q.1
  have hm := h.offs.mem hq
  have hsame : ∀ q' ∈ S.went, ∀ j, 0 ≤ j → j + 1 < osz m0 q'.1 → q'.2 + 1 + j = p → q' = q ∧ j = i := fun q' hq' j g0 g1 e => by
    have : q'.2 = q.2 := by
      rcases Int.lt_trichotomy q'.2 q.2 with hl | he | hl
      · have := h.offs.disj hq' hq hl; omega
      · exact he
      · have := h.offs.disj hq hq' hl; omega
    exact ⟨h.offs.inj hq' hq this, by omega⟩
  refine ⟨h.cc, h.bb, h.tt, h.nd, h.inL, h.offs, fun j hj => ?_, fun q' hq' => ?_, fun q' hq' j g0 g1 => ?_, fun q' hq' j g0 g1 g2 => ?_, h.rc, fun x => ?_⟩
  · unfold updI; rw [if_neg (by omega)]; exact h.out j hj
  · unfold updI
    have hz' := osz_b m0 q'.1
    rw [if_neg]
    · exact h.hd q' hq'
    · intro e
      rcases Int.lt_trichotomy q'.2 q.2 with hl | he | hl
      · have := h.offs.disj hq' hq hl; omega
      · omega
      · have := h.offs.disj hq hq' hl; omega
  · unfold updI
    by_cases e : q'.2 + 1 + j = p
    · obtain ⟨rfl, rfl⟩ := hsame q' hq' j g0 g1 e
      rw [if_pos e, if_pos ⟨h1, by omega⟩]
    · rw [if_neg e, h.cp q' hq' j g0 g1]
      by_cases hc : j < orf m0 q'.1 ∧ q'.2 + 1 + j < p
      · rw [if_pos hc, if_pos ⟨hc.1, by omega⟩]
      · rw [if_neg hc, if_neg (fun hx => hc ⟨hx.1, by omega⟩)]
  · by_cases e : q'.2 + 1 + j = p
    · obtain ⟨rfl, rfl⟩ := hsame q' hq' j g0 (by have := osz_b m0 q'.1; omega) e
      exact hn
    · exact h.dn q' hq' j g0 g1 (by omega)
  · unfold updI; split
    · exact h.tr_b G _
    · exact h.u x
theorem CI.skip (h : CI c b m0 L lo ws S m p) {q : Int × Int} (hq : q ∈ S.went) (hp : p = q.2 + 1 + orf m0 q.1) : CI c b m0 L lo ws S m (q.2 + osz m0 q.1) := by
  have hz := osz_b m0 q.1
  have key : ∀ q' ∈ S.went, ∀ j, 0 ≤ j → j < orf m0 q'.1 → (q'.2 + 1 + j < p ↔ q'.2 + 1 + j < q.2 + osz m0 q.1) := fun q' hq' j g0 g1 => by
    have hz' := osz_b m0 q'.1
    rcases Int.lt_trichotomy q'.2 q.2 with hl | he | hl
    · have := h.offs.disj hq' hq hl; omega
    · have := h.offs.inj hq' hq he; subst this; omega
    · have := h.offs.disj hq hq' hl; omega
  refine ⟨h.cc, h.bb, h.tt, h.nd, h.inL, h.offs, h.out, h.hd, fun q' hq' j g0 g1 => ?_, fun q' hq' j g0 g1 g2 => ?_, h.rc, h.u⟩
  · rw [h.cp q' hq' j g0 g1]
    by_cases hc : j < orf m0 q'.1
    · have := key q' hq' j g0 hc
      by_cases hd : q'.2 + 1 + j < p
      · rw [if_pos ⟨hc, hd⟩, if_pos ⟨hc, this.1 hd⟩]
      · rw [if_neg (fun x => hd x.2), if_neg (fun x => hd (this.2 x.2))]
    · rw [if_neg (fun x => hc x.1), if_neg (fun x => hc x.1)]
  · exact h.dn q' hq' j g0 g1 ((key q' hq' j g0 g1).2 g2)
theorem updI_same {m : Int → Int} {p v : Int} (h : m p = v) : updI m p v = m := by
  funext j; unfold updI; split
  · rename_i e; rw [e, h]
  · rfl
theorem CI.refs (G : GcH c b m0 L lo hi) (hJ : Stab lo hi J) (k0 : Int) : ∀ (n : Nat) (i : Int) (S : ColS) (s : Dev), 0 ≤ i → (n : Int) + i = orf m0 k0 → CI c b m0 L lo ws S s.load (S.scan + 1 + i) → (k0, S.scan) ∈ S.went → J s →
    OutP (refsN n i S s) (fun S' s' => J s' ∧ CI c b m0 L lo ws S' s'.load (S'.scan + 1 + orf m0 k0) ∧ S'.scan = S.scan ∧ S'.todo = S.todo ∧ S'.done = S.done ∧ (∃ V, S'.went = S.went ++ V) ∧ S.free ≤ S'.free) (OffJ J)
  | 0, i, S, s, hi0, hn, h, hq, hs => by
    have e : i = orf m0 k0 := by simpa using hn
    rw [e] at h
    exact ⟨hs, h, rfl, rfl, rfl, ⟨[], by simp⟩, Int.le_refl _⟩
  | n + 1, i, S, s, hi0, hn, h, hq, hs => by
    have hz := osz_b m0 k0
    have hi1 : i < orf m0 k0 := by omega
    have hm := h.offs.mem hq
    have hfr := h.free G; have hap := G.apart
    have hx : s.load (S.scan + 1 + i) = m0 (k0 + 1 + i) := by
      have := h.cp _ hq i hi0 (by simp only; omega)
      rw [if_neg (by simp only; omega)] at this
      exact this
    have hin := h.names G hq hi0 hi1
    simp only at hin
    rw [refsN_succ, hx]
    by_cases h0 : m0 (k0 + 1 + i) = 0
    · rw [if_pos h0]
      have h1 := h.field G hq hi0 hi1 rfl (.inl h0)
      simp only at h1
      rw [updI_same (by rw [hx, h0, tr_not (h.zero G)])] at h1
      have := CI.refs G hJ k0 n (i + 1) S s (by omega) (by omega) (by rw [show S.scan + 1 + (i + 1) = S.scan + 1 + i + 1 by omega]; exact h1) hq hs
      exact this
    · rw [if_neg h0]
      refine (h.copied G hJ hs hin (fun _ => .name (h.rc _ hq) hi0 hi1 h0) (by simp only at hm; omega)).bind fun r s1 ⟨hs1, g1, g2, g3, ⟨V, g4⟩, g5, g6, g7, g8⟩ => ?_
      have hq1 : (k0, S.scan) ∈ r.2.went := by rw [g4]; exact List.mem_append_left _ hq
      have hb := g1.tr_b G (m0 (k0 + 1 + i))
      simp only at hm
      refine (hJ.store hs1 (i := S.scan + 1 + i) (v := r.1) (by omega) (by omega) (by rw [g2]; exact hb.1) (by rw [g2]; exact hb.2)).bind fun a s2 ⟨_, hs2, e2⟩ => ?_
      have h2 := g1.field G hq1 hi0 hi1 rfl g3
      simp only at h2
      rw [← g2] at h2
      have := CI.refs G hJ k0 n (i + 1) r.2 s2 (by omega) (by omega) (by rw [g5, e2, show S.scan + 1 + (i + 1) = S.scan + 1 + i + 1 by omega]; exact h2) (by rw [g5]; exact hq1) hs2
      refine this.mono (fun S' s' ⟨k1, k2, k3, k4, k5, ⟨V', k6⟩, k7⟩ => ⟨k1, k2, k3.trans g5, k4.trans g6, k5.trans g7, ⟨V ++ V', by rw [k6, g4, List.append_assoc]⟩, by omega⟩) (fun _ h => h)
structure SI (c : Cfg) (b : Blk) (m0 : Int → Int) (L : List Int) (lo : Int) (ws : List Int) (S : ColS) (s : Dev) : Prop where
  ci : CI c b m0 L lo ws S s.load S.scan
  bd : ∃ W V, S.went = W ++ V ∧ Offs m0 lo W S.scan
  td : ∃ pre, ws = pre ++ S.todo ∧ ∀ w ∈ pre, w = 0 ∨ w ∈ S.went.map Prod.fst
  dn : S.done = false
theorem SI.scan (h : SI c b m0 L lo ws S s) : lo ≤ S.scan ∧ S.scan ≤ S.free := by
  obtain ⟨W, V, e, h1⟩ := h.bd
  have h2 := h.ci.offs
  rw [e] at h2
  exact ⟨h1.le, (h1.app h2).le⟩
def Dur (lo hi : Int) (s : Dev) : Prop := ∀ i : Nat, lo ≤ i → i < hi → s.kept i = s.now i ∧ s.q (i / 8) = none
structure DI (c : Cfg) (b : Blk) (m0 : Int → Int) (L : List Int) (lo : Int) (ws : List Int) (S : ColS) (s : Dev) : Prop where
  ci : CI c b m0 L lo ws S s.load S.free
  ws : ∀ w ∈ ws, w = 0 ∨ w ∈ S.went.map Prod.fst
  dur : Dur lo S.free s
theorem Stab.keepN (hJ : Stab lo hi J) : ∀ (f : Nat) (i e : Int) (s : Dev), lo ≤ i → e ≤ hi → i % 8 = 0 → e - i < f → J s → (∀ k : Nat, lo ≤ k → (k : Int) < i → s.q (k / 8) = some fun x => s.now (k / 8 * 8 + x)) →
    OutP (keepN f i e s) (fun _ s' => J s' ∧ s'.load = s.load ∧ s'.now = s.now ∧ ∀ k : Nat, lo ≤ k → (k : Int) < e → s'.q (k / 8) = some fun x => s'.now (k / 8 * 8 + x)) (OffJ J)
  | 0, i, e, s, _, _, _, hf, hs, hq => by
    refine ⟨hs, rfl, rfl, fun k h1 h2 => hq k h1 (by omega)⟩
  | f + 1, i, e, s, h1, h2, h3, hf, hs, hq => by
    rw [keepN_succ]
    by_cases h4 : i < e
    · rw [if_pos h4]
      have h0 := (hJ.n s hs).1
      refine (hJ.flush hs (i := i) h1 (by omega)).bind fun _ s1 ⟨_, hs1, e1⟩ => ?_
      subst e1
      refine (hJ.keepN f (i + 8) e _ (by omega) h2 (by omega) (by omega) hs1 fun k k1 k2 => ?_).mono (fun _ s' ⟨g1, g2, g3, g4⟩ => ⟨g1, g2, g3, g4⟩) (fun _ h => h)
      show upd s.q (i.toNat / 8) (some fun x => s.now (i.toNat / 8 * 8 + x)) (k / 8) = some fun x => s.now (k / 8 * 8 + x)
      unfold upd
      by_cases hk : k / 8 = i.toNat / 8
      · rw [if_pos hk, hk]
      · rw [if_neg hk]; exact hq k k1 (by omega)
    · rw [if_neg h4]
      exact ⟨hs, rfl, rfl, fun k k1 k2 => hq k k1 (by omega)⟩
theorem lo_line {c : Cfg} {k : Int} : c.frm k % 8 = 0 := by
  unfold Cfg.frm linesI
  have : k * ((c.space + 7) / 8 * 8) = (k * ((c.space + 7) / 8)) * 8 := by rw [Int.mul_assoc]
  rw [this]; omega
theorem SI.keep (G : GcH c b m0 L lo hi) (hJ : Stab lo hi J) (h : SI c b m0 L lo ws S s) (hs : J s) (hc : S.scan = S.free) (ht : S.todo = []) :
    OutP (S.keep s) (fun _ s' => J s' ∧ DI c b m0 L lo ws { S with done := true } s') (OffJ J) := by
  have hfr := h.ci.free G
  have hto := h.ci.tt
  have hci := h.ci
  rw [hc] at hci
  have hws : ∀ w ∈ ws, w = 0 ∨ w ∈ S.went.map Prod.fst := by
    obtain ⟨pre, e, h1⟩ := h.td
    rw [ht, List.append_nil] at e
    rw [e]; exact h1
  unfold ColS.keep
  refine (hJ.keepN _ S.to_ S.free s (by omega) hfr.2.2 (by rw [hto, G.lo_]; exact lo_line) (by omega) hs (fun k k1 k2 => by omega)).bind fun _ s1 ⟨hs1, e1, e2, hq⟩ => ?_
  by_cases hlt : S.to_ < S.free
  · rw [if_pos hlt]
    refine (hJ.fence hs1).mono (fun _ s2 ⟨hs2, e3⟩ => ⟨hs2, ?_⟩) (fun _ h => h)
    subst e3
    have el : s1.up.fe.load = s.load := e1 ▸ rfl
    refine ⟨?_, hws, fun i h1 h2 => ⟨?_, rfl⟩⟩
    · rw [el]; exact ⟨hci.cc, hci.bb, hci.tt, hci.nd, hci.inL, hci.offs, hci.out, hci.hd, hci.cp, hci.dn, hci.rc, hci.u⟩
    · show fkept s1.kept s1.q i = s1.now i
      unfold fkept
      rw [hq i h1 h2]
      show s1.now (i / 8 * 8 + i % 8) = s1.now i
      congr 1; omega
  · rw [if_neg hlt]
    refine ⟨hs1, ?_, hws, fun i h1 h2 => ?_⟩
    · rw [e1]; exact ⟨hci.cc, hci.bb, hci.tt, hci.nd, hci.inL, hci.offs, hci.out, hci.hd, hci.cp, hci.dn, hci.rc, hci.u⟩
    · simp only at h2; omega
theorem SI.step (G : GcH c b m0 L lo hi) (hJ : Stab lo hi J) (h : SI c b m0 L lo ws S s) (hs : J s) (hw : ∀ w ∈ ws, w = 0 ∨ w ∈ L) :
    OutP (S.step s) (fun r s' => J s' ∧ if r.1 = true then DI c b m0 L lo ws r.2 s' ∧ r.2.done = true else SI c b m0 L lo ws r.2 s') (OffJ J) := by
  unfold ColS.step
  rw [if_neg (by rw [h.dn]; decide)]
  cases ht : S.todo with
  | cons w t =>
    simp only
    obtain ⟨pre, e, h1⟩ := h.td
    rw [ht] at e
    have hwm : w ∈ ws := by rw [e]; simp
    refine (h.ci.copied G hJ hs (hw w hwm) (fun hz => .word hwm hz) h.scan.2).bind fun r s' ⟨k1, k2, k3, k4, ⟨V, k5⟩, k6, k7, k8, k9⟩ => ?_
    refine ⟨k1, ?_⟩
    rw [if_neg (by simp)]
    refine ⟨?_, ?_, ⟨pre ++ [w], by rw [e]; simp, fun x hx => ?_⟩, k8.trans h.dn⟩
    · have := k2; rw [← k6] at this; exact ⟨this.cc, this.bb, this.tt, this.nd, this.inL, this.offs, this.out, this.hd, this.cp, this.dn, this.rc, this.u⟩
    · obtain ⟨W, V', e2, h2⟩ := h.bd
      exact ⟨W, V' ++ V, by simp only; rw [k5, e2, List.append_assoc], by simp only; rw [k6]; exact h2⟩
    · rcases List.mem_append.1 hx with hx | hx
      · rcases h1 x hx with hz | hz
        · exact .inl hz
        · exact .inr (by simp only; rw [k5, List.map_append]; exact List.mem_append_left _ hz)
      · rw [List.mem_singleton.1 hx]; exact k4
  | nil =>
    simp only
    have hsc := h.scan
    by_cases hlt : S.scan < S.free
    · rw [if_pos hlt]
      obtain ⟨W, V, e, h1⟩ := h.bd
      have h2 := h.ci.offs
      rw [e] at h2
      have h3 := h1.app h2
      cases V with
      | nil => exact absurd h3 (by show ¬ S.scan = S.free; omega)
      | cons q V =>
        obtain ⟨k0, v0⟩ := q
        obtain ⟨hv, h4⟩ := h3
        simp only at hv h4
        subst hv
        have hq : (k0, S.scan) ∈ S.went := by rw [e]; simp
        have hhd := h.ci.hd _ hq
        simp only at hhd
        have hz := osz_b m0 k0
        have er : (unp (s.load S.scan)).2.1 = orf m0 k0 := by rw [hhd]; rfl
        have ez : (unp (s.load S.scan)).1 + 1 = osz m0 k0 := by rw [hhd]; rfl
        rw [er, ez]
        have hci : CI c b m0 L lo ws S s.load (S.scan + 1 + 0) := by
          have := h.ci
          refine ⟨this.cc, this.bb, this.tt, this.nd, this.inL, this.offs, this.out, this.hd, fun q' hq' j g0 g1 => ?_, fun q' hq' j g0 g1 g2 => ?_, this.rc, this.u⟩
          · rw [this.cp q' hq' j g0 g1]
            have hz' := osz_b m0 q'.1
            by_cases hc : j < orf m0 q'.1 ∧ q'.2 + 1 + j < S.scan
            · rw [if_pos hc, if_pos ⟨hc.1, by omega⟩]
            · rw [if_neg hc, if_neg (fun hx => hc ⟨hx.1, by
                rcases Int.lt_trichotomy q'.2 S.scan with hl | he | hl
                · have := this.offs.disj hq' hq hl; omega
                · omega
                · omega⟩)]
          · refine this.dn q' hq' j g0 g1 ?_
            have hz' := osz_b m0 q'.1
            rcases Int.lt_trichotomy q'.2 S.scan with hl | he | hl
            · have := this.offs.disj hq' hq hl; omega
            · omega
            · omega
        refine (CI.refs G hJ k0 (orf m0 k0).toNat 0 S s (Int.le_refl 0) (by omega) hci hq hs).bind fun S' s' ⟨k1, k2, k3, k4, k5, ⟨V', k6⟩, k7⟩ => ?_
        refine ⟨k1, ?_⟩
        rw [if_neg (by simp)]
        have hq' : (k0, S'.scan) ∈ S'.went := by rw [k3, k6]; exact List.mem_append_left _ hq
        have k8 := k2.skip hq' rfl
        simp only at k8
        refine ⟨⟨k8.cc, k8.bb, k8.tt, k8.nd, k8.inL, k8.offs, k8.out, k8.hd, k8.cp, k8.dn, k8.rc, k8.u⟩, ⟨W ++ [(k0, S.scan)], V ++ V', by simp only; rw [k6, e]; simp, by simp only; rw [k3]; exact h1.snoc⟩, ?_, k5.trans h.dn⟩
        obtain ⟨pre, e5, h5⟩ := h.td
        refine ⟨pre, by simp only; rw [k4]; exact e5, fun x hx => ?_⟩
        rcases h5 x hx with hz | hz
        · exact .inl hz
        · exact .inr (by simp only; rw [k6, List.map_append]; exact List.mem_append_left _ hz)
    · rw [if_neg hlt]
      refine (h.keep G hJ hs (by omega) ht).bind fun _ s' ⟨k1, k2⟩ => ?_
      rw [ht] at k2
      exact ⟨k1, by rw [if_pos rfl]; exact ⟨k2, rfl⟩⟩
theorem SI.run (G : GcH c b m0 L lo hi) (hJ : Stab lo hi J) (hJu : ∀ s, J s → U64 s) (hw : ∀ w ∈ ws, w = 0 ∨ w ∈ L) : ∀ (f : Nat) (S : ColS) (s : Dev), SI c b m0 L lo ws S s → J s → ColW S → S.meas < f →
    OutP (runN f S s) (fun S' s' => J s' ∧ DI c b m0 L lo ws S' s' ∧ S'.done = true) (OffJ J)
  | 0, S, s, _, _, _, hf => absurd hf (Nat.not_lt_zero _)
  | f + 1, S, s, h, hs, hW, hf => by
    rw [runN_succ]
    have h1 := h.step G hJ hs hw
    cases e : S.step s with
    | off s' => rw [e] at h1; exact h1
    | ok r s' =>
      rw [e] at h1
      obtain ⟨g1, g2⟩ := h1
      have h2 := step_w hW (hJu s hs) e
      show OutP (if r.1 = true then .ok r.2 s' else runN f r.2 s') _ _
      by_cases hr : r.1 = true
      · rw [if_pos hr] at g2 ⊢; exact ⟨g1, g2⟩
      · rw [if_neg hr] at g2 ⊢
        have h3 := h2.2.2.2.2.2.2.2 (by simpa using hr)
        exact SI.run G hJ hJu hw f r.2 s' g2 g1 h2.1 (by omega)
end
end Go.Proofs.YtlcibdhmgclfjaaGreat
namespace Go.Proofs.YtlcibdhmgclfjaaGreat
open Go
section
variable {c : Cfg} {b : Blk} {m0 m : Int → Int} {L ws : List Int} {lo hi p : Int} {S : ColS} {J : Dev → Prop} {s : Dev}
theorem si_new {bd : Nat} (G : GcH c b m0 L lo hi) (hm : s.load = m0) (ws : List Int) : SI c b m0 L lo ws (newCol bd c b ws) s := by
  have h := G.lo_
  refine ⟨⟨rfl, rfl, h.symm, List.nodup_nil, fun _ h => (by cases h), ?_, fun j _ => by rw [hm], fun _ h => (by cases h), fun _ h => (by cases h), fun _ h => (by cases h), fun _ h => (by cases h), fun x => by rw [hm]; exact G.u x⟩, ⟨[], [], rfl, ?_⟩, ⟨[], rfl, fun _ h => (by cases h)⟩, rfl⟩
  · exact h
  · exact h
theorem DI.keys (h : DI c b m0 L lo ws S s) {k : Int} : k ∈ S.went.map Prod.fst ↔ Rch m0 ws k := by
  constructor
  · intro hk
    obtain ⟨q, hq, rfl⟩ := List.mem_map.1 hk
    exact h.ci.rc q hq
  · intro r
    induction r with
    | word h1 h2 => exact (h.ws _ h1).resolve_left h2
    | name _ h1 h2 h3 ih =>
      obtain ⟨q, hq, e⟩ := List.mem_map.1 ih
      subst e
      have := h.ci.offs.mem hq
      have := osz_b m0 q.1
      exact (h.ci.dn q hq _ h1 h2 (by omega)).resolve_left h3
theorem DI.head (h : DI c b m0 L lo ws S s) {q : Int × Int} (hq : q ∈ S.went) : osz s.load q.2 = osz m0 q.1 ∧ orf s.load q.2 = orf m0 q.1 ∧ s.load q.2 = m0 q.1 := by
  have := h.ci.hd q hq
  exact ⟨by unfold osz; rw [this], by unfold orf; rw [this], this⟩
theorem DI.fld (h : DI c b m0 L lo ws S s) {q : Int × Int} (hq : q ∈ S.went) {j : Int} (h0 : 0 ≤ j) (h1 : j + 1 < osz m0 q.1) : s.load (q.2 + 1 + j) = if j < orf m0 q.1 then tr S.went (m0 (q.1 + 1 + j)) else m0 (q.1 + 1 + j) := by
  have h2 := h.ci.offs.mem hq
  rw [h.ci.cp q hq j h0 h1]
  by_cases hj : j < orf m0 q.1
  · rw [if_pos ⟨hj, by omega⟩, if_pos hj]
  · rw [if_neg (fun x => hj x.1), if_neg hj]
theorem DI.trm (h : DI c b m0 L lo ws S s) {w : Int} (hw : w ∈ S.went.map Prod.fst) : tr S.went w ∈ S.went.map Prod.snd ∧ (w, tr S.went w) ∈ S.went := by
  obtain ⟨q, hq, rfl⟩ := List.mem_map.1 hw
  rw [tr_of h.ci.nd hq]
  exact ⟨List.mem_map_of_mem hq, hq⟩
theorem DI.name (h : DI c b m0 L lo ws S s) {q : Int × Int} (hq : q ∈ S.went) {j : Int} (h0 : 0 ≤ j) (h1 : j < orf m0 q.1) : m0 (q.1 + 1 + j) = 0 ∨ m0 (q.1 + 1 + j) ∈ S.went.map Prod.fst := by
  have := h.ci.offs.mem hq
  have := osz_b m0 q.1
  exact h.ci.dn q hq j h0 h1 (by omega)
theorem DI.block (G : GcH c b m0 L lo hi) (h : DI c b m0 L lo ws S s) : S.block = ⟨1 - b.act, S.free - lo, b.rts.map (tr S.went)⟩ := by
  unfold ColS.block
  rw [h.ci.bb, h.ci.tt]; rfl
theorem DI.heap (G : GcH c b m0 L lo hi) (h : DI c b m0 L lo ws S s) (hr : ∀ w ∈ b.rts, w ∈ ws) {m' : Int → Int} (hm : ∀ j, lo ≤ j → j < S.free → m' j = s.load j) : HeapW c S.block m' (S.went.map Prod.snd) := by
  have hin : ∀ q ∈ S.went, ∀ j, 0 ≤ j → j < osz m0 q.1 → m' (q.2 + j) = s.load (q.2 + j) := fun q hq j h0 h1 => by
    have := h.ci.offs.mem hq
    exact hm _ (by omega) (by omega)
  have h0 : ∀ q ∈ S.went, m' q.2 = m0 q.1 := fun q hq => by
    have := hin q hq 0 (Int.le_refl 0) (by have := osz_b m0 q.1; omega)
    rw [Int.add_zero] at this
    rw [this]; exact h.ci.hd q hq
  rw [h.block G]
  refine ⟨?_, fun k hk i g0 g1 => ?_, fun w hw => ?_⟩
  · have := h.ci.offs.tile h0 (fun q hq => (G.heap.tile.mem (h.ci.inL q hq)).2.2)
    unfold Blk.place
    simp only
    rw [← G.lo_, Int.add_zero, show lo + (S.free - lo) = S.free by omega]
    exact this
  · obtain ⟨q, hq, rfl⟩ := List.mem_map.1 hk
    have e : orf m' q.2 = orf m0 q.1 := by unfold orf; rw [h0 q hq]
    rw [e] at g1
    have hz := osz_b m0 q.1
    have e2 := hin q hq (1 + i) (by omega) (by omega)
    rw [← Int.add_assoc] at e2
    rw [e2, h.fld hq g0 (by omega), if_pos g1]
    rcases h.name hq g0 g1 with hz | hz
    · rw [hz, tr_not (h.ci.zero G)]; exact .inl rfl
    · exact .inr (h.trm hz).1
  · obtain ⟨u, hu, rfl⟩ := List.mem_map.1 hw
    rcases h.ws u (hr u hu) with hz | hz
    · rw [hz, tr_not (h.ci.zero G)]; exact .inl rfl
    · exact .inr (h.trm hz).1
theorem DI.used (G : GcH c b m0 L lo hi) (h : DI c b m0 L lo ws S s) : S.block.used = sumI (osz m0) (S.went.map Prod.fst) ∧ 0 ≤ S.block.used ∧ S.block.used ≤ b.used := by
  rw [h.block G]
  have h1 := h.ci.offs.sum
  have h2 := h.ci.free G
  simp only
  omega
theorem DI.all (G : GcH c b m0 L lo hi) (h : DI c b m0 L lo ws S s) {m' : Int → Int} (hm : ∀ j, lo ≤ j → j < S.free → m' j = s.load j) {k' : Int} (hk : k' ∈ S.went.map Prod.snd) : Rch m' (ws.map (tr S.went)) k' := by
  have key : ∀ k, Rch m0 ws k → Rch m' (ws.map (tr S.went)) (tr S.went k) := fun k r => by
    induction r with
    | word h1 h2 =>
      rename_i w
      refine .word (List.mem_map_of_mem h1) fun e => ?_
      have h3 := (h.trm ((h.ws _ h1).resolve_left h2)).2
      have h4 := (h.ci.offs.mem h3).1
      have := G.apart
      simp only at h4; omega
    | name r0 h1 h2 h3 ih =>
      rename_i k i
      have hk := h.keys.2 r0
      have hq := (h.trm hk).2
      have hz := osz_b m0 k
      have hf := h.fld hq h1 (by simp only; omega)
      simp only at hf
      rw [if_pos h2] at hf
      have hb := h.ci.offs.mem hq
      simp only at hb
      have e1 : m' (tr S.went k + 1 + i) = tr S.went (m0 (k + 1 + i)) := by rw [hm _ (by omega) (by omega), hf]
      have e2 : orf m' (tr S.went k) = orf m0 k := by unfold orf; rw [hm _ (by omega) (by omega), (h.head hq).2.2]
      rw [← e1]
      refine .name ih h1 (by rw [e2]; exact h2) ?_
      rw [e1]
      have hn := (h.name hq h1 h2).resolve_left h3
      have h4 := (h.ci.offs.mem (h.trm hn).2).1
      have := G.apart
      simp only at h4; omega
  obtain ⟨q, hq, rfl⟩ := List.mem_map.1 hk
  have := key q.1 (h.ci.rc q hq)
  rwa [tr_of h.ci.nd hq] at this
end
end Go.Proofs.YtlcibdhmgclfjaaGreat
namespace Go.Proofs.YtlcibdhmgclfjaaGreat
open Go
theorem pack_all : ((List.range 65).all fun w => (List.range (w + 1)).all fun r => unp (packI w r) == ((w : Int), (r : Int), true)) = true := by kernel_rfl
theorem unp_pack {w r : Int} (h : 0 ≤ r ∧ r ≤ w ∧ w ≤ 64) : unp (packI w r) = (w, r, true) := by
  have h1 := pack_all
  rw [List.all_eq_true] at h1
  have h2 := h1 w.toNat (List.mem_range.2 (by omega))
  rw [List.all_eq_true] at h2
  have h3 := h2 r.toNat (List.mem_range.2 (by omega))
  rw [beq_iff_eq, Int.toNat_of_nonneg (by omega), Int.toNat_of_nonneg (by omega)] at h3
  exact h3
theorem store_lim {s : Dev} {i v : Int} (hl : s.pow.lim < 0) (hh : s.has i = true) : s.store i v = .ok 0 (s.up.st i.toNat v) := by
  unfold Dev.store
  rw [if_neg (by rw [hh]; decide), if_neg]
  unfold Pow.out; simp; omega
theorem Tile.congr {m m' : Int → Int} : ∀ {L : List Int} {a e : Int}, Tile m a L e → (∀ k ∈ L, m' k = m k) → Tile m' a L e
  | [], _, _, h, _ => h
  | x :: t, a, e, h, hm => by
    obtain ⟨rfl, h2, h3⟩ := h
    have e1 := hm x (List.mem_cons_self ..)
    refine ⟨rfl, by rw [e1]; exact h2, ?_⟩
    rw [show osz m' x = osz m x by unfold osz; rw [e1]]
    exact h3.congr fun k hk => hm k (List.mem_cons_of_mem _ hk)
theorem Tile.snoc {m : Int → Int} : ∀ {L : List Int} {a e : Int}, Tile m a L e → (unp (m e)).2.2 = true → Tile m a (L ++ [e]) (e + osz m e)
  | [], a, e, h, h1 => by cases h; exact ⟨rfl, h1, rfl⟩
  | x :: t, a, e, h, h1 => ⟨h.1, h.2.1, h.2.2.snoc h1⟩
structure HL (c : Cfg) (N : Nat) (k0 : Nat → Int) (s : Dev) : Prop where
  u : U64 s
  lim : s.pow.lim < 0
  n : s.n = N
  kept : s.kept = k0
  q : s.q = fun _ => none
  low : ∀ x : Nat, (x : Int) < c.active → s.now x = k0 x
theorem HL.st {c : Cfg} {N : Nat} {k0 : Nat → Int} {s : Dev} (h : HL c N k0 s) {i : Nat} {v : Int} (hi : c.active ≤ i) (hv : 0 ≤ v ∧ v < 18446744073709551616) : HL c N k0 (s.up.st i v) :=
  ⟨fun x => by show 0 ≤ upd s.now i v x ∧ upd s.now i v x < _; unfold upd; split; exact hv; exact h.u x, h.lim, h.n, h.kept, h.q, fun x hx => by show upd s.now i v x = k0 x; unfold upd; rw [if_neg (by omega)]; exact h.low x hx⟩
theorem fill_heap {c : Cfg} {N : Nat} {k0 : Nat → Int} {a h0 : Int} (hh : 0 ≤ h0 ∧ h0 < 18446744073709551616) : ∀ (f : Nat) (i : Int) (s : Dev), HL c N k0 s → 0 ≤ i → 0 ≤ a ∧ c.active ≤ a → a + i + f ≤ N →
    ∃ s', fillM devOp a h0 f i s () = .ok ((a, 0), ()) s' ∧ HL c N k0 s' ∧ s'.load = fun j => if a + i ≤ j ∧ j < a + i + f then (if j = a then h0 else 0) else s.load j
  | 0, i, s, h, hi, ha, hf => ⟨s, rfl, h, by funext j; rw [if_neg (by omega)]⟩
  | f + 1, i, s, h, hi, ha, hf => by
    obtain ⟨v, hvd⟩ : ∃ v, v = if i = 0 then h0 else 0 := ⟨_, rfl⟩
    have hv : 0 ≤ v ∧ v < 18446744073709551616 := by rw [hvd]; split <;> first | exact hh | decide
    have hhas : s.has (a + i) = true := by unfold Dev.has; rw [h.n]; simp; omega
    obtain ⟨s', e1, e2, e3⟩ := fill_heap hh f (i + 1) (s.up.st (a + i).toNat v) (h.st (by omega) hv) (by omega) ha (by omega)
    refine ⟨s', ?_, e2, ?_⟩
    · unfold fillM
      have : devOp (a + i) (if i = 0 then h0 else 0) s () = .ok (0, ()) (s.up.st (a + i).toNat v) := by
        unfold devOp; rw [← hvd, store_lim h.lim hhas]; rfl
      rw [this]
      simp only [then_ok]
      rw [if_neg (by decide)]
      exact e1
    · funext j
      have e4 : s'.load j = if a + (i + 1) ≤ j ∧ j < a + (i + 1) + f then (if j = a then h0 else 0) else updI s.load (a + i) v j := by
        rw [e3, ← st_load hhas]
      rw [e4]
      unfold updI
      by_cases hj : j = a + i
      · subst hj
        rw [if_neg (by omega), if_pos rfl, if_pos (by omega), hvd]
        by_cases h0 : i = 0
        · rw [if_pos h0, if_pos (by omega)]
        · rw [if_neg h0, if_neg (by omega)]
      · by_cases hr : a + (i + 1) ≤ j ∧ j < a + (i + 1) + f
        · rw [if_pos hr, if_pos (c := a + i ≤ j ∧ j < a + i + ((f + 1 : Nat) : Int)) (by omega)]
        · rw [if_neg hr, if_neg hj, if_neg (by omega)]
structure Fi (c : Cfg) (N : Nat) (k0 : Nat → Int) (s : Dev) (out : List Int) (u : Int) : Prop where
  h : HL c N k0 s
  act : s.load c.active = 0
  used : s.load (c.active + 1) = u
  u0 : 0 ≤ u ∧ u ≤ c.space
  tile : Tile s.load (c.frm 0) out (c.frm 0 + u)
  names : ∀ k ∈ out, ∀ i, 0 ≤ i → i < orf s.load k → s.load (k + 1 + i) = 0 ∨ s.load (k + 1 + i) ∈ out
  roots : ∀ i : Nat, (i : Int) < c.roots → s.load (c.root i) = 0 ∨ s.load (c.root i) ∈ out
theorem Fi.block {c : Cfg} {N : Nat} {k0 : Nat → Int} {s : Dev} {out : List Int} {u : Int} (h : Fi c N k0 s out u) : s.block c = (⟨0, u, tab c.roots.toNat fun i => s.load (c.root i)⟩, 0) := by
  have := h.u0
  unfold Dev.block
  rw [h.act, h.used, if_neg (by omega)]
theorem Fi.heap {c : Cfg} {N : Nat} {k0 : Nat → Int} {s : Dev} {out : List Int} {u : Int} (h : Fi c N k0 s out u) : HeapW c (s.block c).1 s.load out := by
  rw [h.block]
  refine ⟨by unfold Blk.place; simp only; rw [Int.add_zero]; exact h.tile, h.names, fun w hw => ?_⟩
  simp only at hw
  obtain ⟨i, hi, rfl⟩ := List.mem_map.1 (show w ∈ (List.range c.roots.toNat).map fun (i : Nat) => s.load (c.root i) from hw)
  have := List.mem_range.1 hi
  exact h.roots i (by omega)
theorem Fi.st {c : Cfg} (hc : CfgW c) {N : Nat} {k0 : Nat → Int} {s : Dev} {out : List Int} {u : Int} (h : Fi c N k0 s out u) {i v : Int} (hh : s.has i = true) (hv : v = 0 ∨ v ∈ out) (hi : (∃ k ∈ out, ∃ j, 0 ≤ j ∧ j < orf s.load k ∧ i = k + 1 + j) ∨ ∃ r : Nat, (r : Int) < c.roots ∧ i = c.root r) : Fi c N k0 (s.up.st i.toNat v) out u := by
  have e := st_load (v := v) hh
  have hfb := frm_b hc (k := 0) (by omega)
  have hnh : ∀ k ∈ out, i ≠ k := fun k hk e => by
    have h1 := h.tile.mem hk
    rcases hi with ⟨k', hk', j, h2, h3, h4⟩ | ⟨r, h2, h3⟩
    · have hz := osz_b s.load k'
      rcases Int.lt_trichotomy k k' with hl | he | hl
      · omega
      · omega
      · have := h.tile.disj hk' hk hl; omega
    · simp only [Cfg.root] at h3; omega
  have hic : c.active + 2 ≤ i := by
    rcases hi with ⟨k', hk', j, h2, h3, h4⟩ | ⟨r, h2, h3⟩
    · have h1 := h.tile.mem hk'
      have := hc.r1; omega
    · simp only [Cfg.root] at h3; omega
  have hvb : 0 ≤ v ∧ v < 18446744073709551616 := by
    rcases hv with rfl | hv
    · decide
    · have h1 := h.tile.mem hv
      have := osz_b s.load v; have := h.u0
      omega
  have e0 : ∀ k, k ≠ i → (s.up.st i.toNat v).load k = s.load k := fun k hk => by rw [e]; unfold updI; rw [if_neg hk]
  have eo : ∀ k ∈ out, orf (s.up.st i.toNat v).load k = orf s.load k := fun k hk => by unfold orf; rw [e0 k (fun x => hnh k hk x.symm)]
  have hal := hc.act
  have hl1 := hc.l1
  have hr1 := hc.r1
  refine ⟨h.h.st (by omega) hvb, by rw [e0 _ (by omega)]; exact h.act, by rw [e0 _ (by omega)]; exact h.used, h.u0, h.tile.congr fun k hk => e0 k (fun x => hnh k hk x.symm), fun k hk j h1 h2 => ?_, fun r hr => ?_⟩
  · rw [eo k hk] at h2
    by_cases hx : k + 1 + j = i
    · rw [e, hx]; unfold updI; rw [if_pos rfl]; exact hv
    · rw [e0 _ hx]; exact h.names k hk j h1 h2
  · by_cases hx : c.root r = i
    · rw [e, hx]; unfold updI; rw [if_pos rfl]; exact hv
    · rw [e0 _ hx]; exact h.roots r hr
theorem frm0 {c : Cfg} (hc : CfgW c) {N : Nat} (hN : (N : Int) = c.words) : c.frm 0 + c.space ≤ N ∧ c.active + 2 + c.roots ≤ c.frm 0 ∧ 24 < c.active ∧ c.frm 0 + c.space ≤ 20000 := by
  have hfb := frm_b hc (k := 0) (by omega)
  have h1 := hc.act
  have := hc.s1; have := hc.r1; have := hc.l1
  omega
theorem Fi.alloc {c : Cfg} (hc : CfgW c) {N : Nat} (hN : (N : Int) = c.words) {k0 : Nat → Int} {s : Dev} {out : List Int} {u : Int} (h : Fi c N k0 s out u) {w r : Int} (hw : 0 ≤ r ∧ r ≤ w ∧ w ≤ 64) :
    ∃ x s', allocM devOp c w r s () = .ok (x, ()) s' ∧ ((x.2 ≠ 0 ∧ s' = s) ∨ (x.2 = 0 ∧ Fi c N k0 s' (out ++ [x.1]) (u + (w + 1)))) := by
  have hf0 := frm0 hc hN
  have hr1 := hc.r1
  have hu := h.u0
  unfold allocM
  have hk : chkH w r = 0 := by unfold chkH; rw [if_pos (by omega)]
  rw [if_neg (by rw [hk]; decide), h.block, if_neg (by simp)]
  simp only
  by_cases hroom : c.space - u < w + 1
  · rw [if_pos hroom]; exact ⟨_, _, rfl, .inl ⟨by decide, rfl⟩⟩
  rw [if_neg hroom]
  have hhas : s.has (c.active + 1) = true := by unfold Dev.has; rw [h.h.n]; simp; omega
  have hd : devOp (c.active + 1) (u + (w + 1)) s () = .ok (0, ()) (s.up.st (c.active + 1).toNat (u + (w + 1))) := by unfold devOp; rw [store_lim h.h.lim hhas]; rfl
  rw [hd]
  simp only [then_ok]
  rw [if_neg (by decide)]
  obtain ⟨s', e1, e2, e3⟩ := fill_heap (a := c.frm 0 + u) (packI_b w r) (w + 1).toNat 0 (s.up.st (c.active + 1).toNat (u + (w + 1))) (h.h.st (by omega) ⟨by omega, by omega⟩) (Int.le_refl 0) (by omega) (by omega)
  refine ⟨_, s', e1, .inr ⟨rfl, ?_⟩⟩
  rw [st_load hhas] at e3
  have hm : ∀ j, s'.load j = if c.frm 0 + u ≤ j ∧ j < c.frm 0 + u + (w + 1) then (if j = c.frm 0 + u then packI w r else 0) else if j = c.active + 1 then u + (w + 1) else s.load j := fun j => by
    rw [e3]
    show (if c.frm 0 + u + 0 ≤ j ∧ j < c.frm 0 + u + 0 + ↑(w + 1).toNat then _ else updI s.load (c.active + 1) (u + (w + 1)) j) = _
    by_cases hj : c.frm 0 + u ≤ j ∧ j < c.frm 0 + u + (w + 1)
    · rw [if_pos hj, if_pos (by omega)]
    · rw [if_neg hj, if_neg (by omega)]; rfl
  have hold : ∀ k ∈ out, ∀ j, 0 ≤ j → j < osz s.load k → s'.load (k + j) = s.load (k + j) := fun k hk j h0 h1 => by
    have := h.tile.mem hk
    rw [hm, if_neg (by omega), if_neg (by omega)]
  have hold0 : ∀ k ∈ out, s'.load k = s.load k := fun k hk => by
    have := hold k hk 0 (Int.le_refl 0) (by have := osz_b s.load k; omega)
    simpa using this
  have hnew : s'.load (c.frm 0 + u) = packI w r := by rw [hm, if_pos (by omega), if_pos rfl]
  have hun : unp (s'.load (c.frm 0 + u)) = (w, r, true) := by rw [hnew]; exact unp_pack hw
  simp only
  refine ⟨e2, by rw [hm, if_neg (by omega), if_neg (by omega)]; exact h.act, by rw [hm, if_neg (by omega), if_pos rfl], by omega, ?_, fun k hk i h0 h1 => ?_, fun i hi => ?_⟩
  · have h1 := (h.tile.congr hold0).snoc (by rw [hun])
    have h2 : osz s'.load (c.frm 0 + u) = w + 1 := by unfold osz; rw [hun]
    rw [h2, Int.add_assoc] at h1
    exact h1
  · rcases List.mem_append.1 hk with hk | hk
    · have e : orf s'.load k = orf s.load k := by unfold orf; rw [hold0 k hk]
      rw [e] at h1
      have hz := osz_b s.load k
      have := hold k hk (1 + i) (by omega) (by omega)
      rw [← Int.add_assoc] at this
      rw [this]
      rcases h.names k hk i h0 h1 with h2 | h2
      · exact .inl h2
      · exact .inr (List.mem_append_left _ h2)
    · rw [List.mem_singleton.1 hk] at h1 ⊢
      have : orf s'.load (c.frm 0 + u) = r := by unfold orf; rw [hun]
      rw [this] at h1
      left
      rw [hm, if_pos (by omega), if_neg (by omega)]
  · have : s'.load (c.root i) = s.load (c.root i) := by
      simp only [Cfg.root]
      rw [hm, if_neg (by omega), if_neg (by omega)]
    rw [this]
    rcases h.roots i hi with h2 | h2
    · exact .inl h2
    · exact .inr (List.mem_append_left _ h2)
theorem fi_fmt {c : Cfg} (hc : CfgW c) {N : Nat} (hN : (N : Int) = c.words) {s : Dev} (h : Fmt c N s) (hu : U64 s) : Fi c N s.kept s [] 0 := by
  have hf0 := frm0 hc hN
  have hr := hc.r1
  have hs := hc.s1
  have hb : ∀ x : Int, c.active ≤ x → x < c.root c.roots → s.load x = 0 := fun x h1 h2 => by
    simp only [Cfg.root] at h2
    unfold Dev.load
    split
    · exact h.st.block x.toNat (by omega) (by simp only [Cfg.root]; omega)
    · rfl
  refine ⟨⟨hu, h.lim, h.n, rfl, h.calm.q, fun x _ => by rw [h.calm.kept]⟩, hb _ (by omega) (by simp only [Cfg.root]; omega), hb _ (by omega) (by simp only [Cfg.root]; omega), by omega, by show c.frm 0 = c.frm 0 + 0; omega, fun _ h => (by cases h), fun i hi => .inl (hb _ (by simp only [Cfg.root]; omega) (by simp only [Cfg.root]; omega))⟩
end Go.Proofs.YtlcibdhmgclfjaaGreat
namespace Go.Proofs.YtlcibdhmgclfjaaGreat
open Go
structure Still (s : Dev) : Prop where
  lim : s.pow.lim < 0
  q : s.q = fun _ => none
theorem crash_calm {s : Dev} (h : Calm s) (c : Nat → Int) : (s.crash c).now = s.now ∧ (s.crash c).n = s.n := by
  refine ⟨funext fun i => ?_, rfl⟩
  show (if c i % 3 = 1 then fkept s.kept s.q i else if c i % 3 = 2 then s.now i else s.kept i) = s.now i
  have e1 : fkept s.kept s.q i = s.now i := by rw [fkept, h.q, h.kept]
  have e2 : s.kept i = s.now i := by rw [h.kept]
  split
  · exact e1
  · split
    · rfl
    · exact e2
theorem fl_fe {s : Dev} {i : Nat} (hq : s.q = fun _ => none) : (s.up.fl i).up.fe.now = s.now ∧ (s.up.fl i).up.fe.q = (fun _ => none) ∧ (s.up.fl i).up.fe.n = s.n ∧ ∀ x, (s.up.fl i).up.fe.kept x = if x / 8 = i / 8 then s.now x else s.kept x := by
  refine ⟨rfl, rfl, rfl, fun x => ?_⟩
  have h := pk_flush s i x
  rw [show s.pk x = s.kept x by simp only [Dev.pk, fkept, hq]] at h
  exact h
@[irreducible] def Dev.sv (s : Dev) (i : Nat) (v : Int) : Dev := s.up.st i v
@[irreducible] def Dev.ff (s : Dev) (i : Nat) : Dev := (s.up.fl i).up.fe
theorem sv_then {α : Type} {s : Dev} {i v : Int} {k : Int → Dev → Out α} (h : s.pow.lim < 0) (hi : 0 ≤ i ∧ i < s.n) : (s.store i v).then k = k 0 (s.sv i.toNat v) := by rw [store_ne h hi, then_ok]; unfold Dev.sv; rfl
theorem ff_then {α : Type} {s : Dev} {i : Int} {k : Unit → Dev → Out α} (h : s.pow.lim < 0) (hi : 0 ≤ i ∧ i < s.n) : ((s.flush i).then fun _ s => s.fence.then k) = k () (s.ff i.toNat) := by rw [flush_ne h hi, then_ok, fence_ne (s := s.up.fl i.toNat) h, then_ok]; unfold Dev.ff; rfl
theorem sv_lim (s : Dev) (i : Nat) (v : Int) : (s.sv i v).pow.lim = s.pow.lim := by unfold Dev.sv; rfl
theorem sv_n (s : Dev) (i : Nat) (v : Int) : (s.sv i v).n = s.n := by unfold Dev.sv; rfl
theorem sv_q (s : Dev) (i : Nat) (v : Int) : (s.sv i v).q = s.q := by unfold Dev.sv; rfl
theorem sv_now (s : Dev) (i : Nat) (v : Int) : (s.sv i v).now = upd s.now i v := by unfold Dev.sv; rfl
theorem sv_kept (s : Dev) (i : Nat) (v : Int) : (s.sv i v).kept = s.kept := by unfold Dev.sv; rfl
theorem ff_lim (s : Dev) (i : Nat) : (s.ff i).pow.lim = s.pow.lim := by unfold Dev.ff; rfl
theorem ff_n (s : Dev) (i : Nat) : (s.ff i).n = s.n := by unfold Dev.ff; rfl
theorem ff_q (s : Dev) (i : Nat) : (s.ff i).q = fun _ => none := by unfold Dev.ff; rfl
theorem ff_now (s : Dev) (i : Nat) : (s.ff i).now = s.now := by unfold Dev.ff; rfl
theorem ff_kept {s : Dev} {i : Nat} (hq : s.q = fun _ => none) (x : Nat) : (s.ff i).kept x = if x / 8 = i / 8 then s.now x else s.kept x := by unfold Dev.ff; exact (fl_fe hq).2.2.2 x
theorem append_ne {L : LogS} {s : Dev} {i : Int} (hL : LogW L) (hs : Still s) (hi : 0 ≤ i ∧ i < s.n) (hc : L.c.active ≤ s.n) (hn : L.n < L.c.log) {r : Nat} (hr : (r : Int) = L.c.record L.n) :
    ∃ s', L.append s i = .ok (0, { L with n := L.n + 1 }) s' ∧ Still s' ∧ s'.n = s.n ∧ s'.now = upd (upd (upd s.now (r + 1) i) (r + 2) (upd s.now (r + 1) i i.toNat)) r (stampI L.epoch L.n) ∧ ∀ x, s'.kept x = if x / 8 = r / 8 then s'.now x else s.kept x := by
  have hact := hL.c.act
  have h0 := hL.n1
  have hr' : (r : Int) = 16 + 4 * L.n := hr
  have b0 : 0 ≤ L.c.record L.n ∧ L.c.record L.n + 3 < s.n := by rw [← hr]; omega
  have e0 : (L.c.record L.n).toNat = r := by omega
  have e1 : (L.c.record L.n + 1).toNat = r + 1 := by omega
  have e2 : (L.c.record L.n + 2).toNat = r + 2 := by omega
  have hl := hs.lim
  have hld : ∀ v, (s.sv (r + 1) v).load i = upd s.now (r + 1) v i.toNat := fun v => by
    have : (s.sv (r + 1) v).has i = true := by simp [Dev.has, hi, sv_n]
    simp only [Dev.load, this, if_true, sv_now]
  unfold LogS.append
  rw [if_neg (by omega), if_neg (by omega)]
  rw [sv_then hl (by omega), e1, hld]
  rw [sv_then (by rw [sv_lim]; exact hl) (by rw [sv_n]; omega), e2]
  rw [ff_then (by rw [sv_lim, sv_lim]; exact hl) (by rw [sv_n, sv_n]; omega), e0]
  rw [sv_then (by rw [ff_lim, sv_lim, sv_lim]; exact hl) (by rw [ff_n, sv_n, sv_n]; omega), e0]
  rw [ff_then (by rw [sv_lim, ff_lim, sv_lim, sv_lim]; exact hl) (by rw [sv_n, ff_n, sv_n, sv_n]; omega), e0]
  refine ⟨_, rfl, ⟨by simp only [ff_lim, sv_lim]; exact hl, by rw [ff_q]⟩, by simp only [ff_n, sv_n], by simp only [ff_now, sv_now], fun x => ?_⟩
  rw [ff_kept (by rw [sv_q, ff_q]), ff_now, sv_kept, ff_kept (by rw [sv_q, sv_q, hs.q]), sv_kept, sv_kept]
  split <;> rfl
@[irreducible] def Dev.fq (s : Dev) (i : Nat) : Dev := s.up.fl i
@[irreducible] def Dev.fn (s : Dev) : Dev := s.up.fe
theorem fq_then {α : Type} {s : Dev} {i : Int} {k : Int → Dev → Out α} (h : s.pow.lim < 0) (hi : 0 ≤ i ∧ i < s.n) : (s.flush i).then k = k 0 (s.fq i.toNat) := by rw [flush_ne h hi, then_ok]; unfold Dev.fq; rfl
theorem fn_then {α : Type} {s : Dev} {k : Unit → Dev → Out α} (h : s.pow.lim < 0) : s.fence.then k = k () s.fn := by rw [fence_ne h, then_ok]; unfold Dev.fn; rfl
theorem fq_lim (s : Dev) (i : Nat) : (s.fq i).pow.lim = s.pow.lim := by unfold Dev.fq; rfl
theorem fq_n (s : Dev) (i : Nat) : (s.fq i).n = s.n := by unfold Dev.fq; rfl
theorem fq_now (s : Dev) (i : Nat) : (s.fq i).now = s.now := by unfold Dev.fq; rfl
theorem fq_pk (s : Dev) (i x : Nat) : (s.fq i).pk x = if x / 8 = i / 8 then s.now x else s.pk x := by unfold Dev.fq; exact pk_flush s i x
theorem fn_lim (s : Dev) : s.fn.pow.lim = s.pow.lim := by unfold Dev.fn; rfl
theorem fn_n (s : Dev) : s.fn.n = s.n := by unfold Dev.fn; rfl
theorem fn_now (s : Dev) : s.fn.now = s.now := by unfold Dev.fn; rfl
theorem fn_q (s : Dev) : s.fn.q = fun _ => none := by unfold Dev.fn; rfl
theorem fn_kept (s : Dev) (x : Nat) : s.fn.kept x = s.pk x := by unfold Dev.fn; rfl
theorem still_pk {s : Dev} (h : s.q = fun _ => none) (x : Nat) : s.pk x = s.kept x := by simp only [Dev.pk, fkept, h]
theorem load_nat {s : Dev} {i : Int} {k : Nat} (h : (k : Int) = i) (hk : k < s.n) : s.load i = s.now k := by
  subst h
  have : s.has (k : Int) = true := by simp [Dev.has, hk]
  simp only [Dev.load, this, if_true, Int.toNat_natCast]
theorem trunc_ne {L : LogS} {s : Dev} (hl : s.pow.lim < 0) (hn : 16 ≤ s.n) (h0 : L.n ≠ 0) : L.truncate s = .ok { L with epoch := (L.epoch + 1) % 4294967296, n := 0 } ((s.sv 8 ((L.epoch + 1) % 4294967296)).ff 8) := by
  unfold LogS.truncate
  rw [if_neg h0, sv_then hl (by omega)]
  rw [ff_then (by rw [sv_lim]; exact hl) (by rw [sv_n]; omega)]
  rfl
theorem flushAll_ne : ∀ (ks : List Int) (s : Dev), s.pow.lim < 0 → (∀ k ∈ ks, 0 ≤ k ∧ k * 8 < s.n) →
    ∃ s', flushAll ks s = .ok () s' ∧ s'.pow.lim < 0 ∧ s'.n = s.n ∧ s'.now = s.now ∧ ∀ x, s'.pk x = if ((x / 8 : Nat) : Int) ∈ ks then s.now x else s.pk x
  | [], s, hl, _ => ⟨s, rfl, hl, rfl, rfl, fun x => by rw [if_neg (by simp)]⟩
  | k :: ks, s, hl, hk => by
    obtain ⟨k1, k2⟩ := hk k (by simp)
    have e : flushAll (k :: ks) s = flushAll ks (s.fq (k * 8).toNat) := by
      simp only [flushAll]
      rw [fq_then hl (by omega)]
    rw [e]
    obtain ⟨s', e1, e2, e3, e4, e5⟩ := flushAll_ne ks (s.fq (k * 8).toNat) (by rw [fq_lim]; exact hl) (fun j hj => by rw [fq_n]; exact hk j (by simp [hj]))
    refine ⟨s', e1, e2, by rw [e3, fq_n], by rw [e4, fq_now], fun x => ?_⟩
    rw [e5, fq_now, fq_pk]
    by_cases h1 : ((x / 8 : Nat) : Int) ∈ ks
    · rw [if_pos h1, if_pos (List.mem_cons_of_mem _ h1)]
    · rw [if_neg h1]
      by_cases h2 : x / 8 = (k * 8).toNat / 8
      · rw [if_pos h2, if_pos]
        have : ((x / 8 : Nat) : Int) = k := by omega
        rw [this]; exact List.mem_cons_self
      · rw [if_neg h2, if_neg]
        have : ((x / 8 : Nat) : Int) ≠ k := by omega
        exact fun h => (List.mem_cons.1 h).elim this h1
def LogS.shut (L : LogS) : LogS := if L.n = 0 then L else { L with epoch := (L.epoch + 1) % 4294967296, n := 0 }
def LogS.shutNow (L : LogS) (f : Nat → Int) : Nat → Int := if L.n = 0 then f else upd f 8 ((L.epoch + 1) % 4294967296)
theorem trunc_still {L : LogS} {s : Dev} (hs : Still s) (hn : 16 ≤ s.n) : ∃ s', L.truncate s = .ok L.shut s' ∧ Still s' ∧ s'.n = s.n ∧ s'.now = L.shutNow s.now ∧ (s.kept = s.now → s'.kept = s'.now) := by
  by_cases h0 : L.n = 0
  · refine ⟨s, ?_, hs, rfl, ?_, fun h => h⟩
    · unfold LogS.truncate LogS.shut; rw [if_pos h0, if_pos h0]
    · unfold LogS.shutNow; rw [if_pos h0]
  · refine ⟨_, trunc_ne hs.lim hn h0 |>.trans (by unfold LogS.shut; rw [if_neg h0]), ⟨by rw [ff_lim, sv_lim]; exact hs.lim, ff_q _ _⟩, by rw [ff_n, sv_n], by unfold LogS.shutNow; rw [if_neg h0, ff_now, sv_now], fun hk => funext fun x => ?_⟩
    rw [ff_kept (by rw [sv_q, hs.q]), ff_now, sv_now, sv_kept]
    by_cases c : x / 8 = 8 / 8
    · rw [if_pos c]
    · rw [if_neg c, hk]; simp only [upd]; rw [if_neg (by omega)]
theorem commit_still {S : SecS} {s : Dev} (hs : Still s) (hn : 16 ≤ s.n) (hd : ∀ k ∈ S.dirty.map Prod.fst, 0 ≤ k ∧ k * 8 < s.n) :
    ∃ s', S.commit s = .ok { S with L := S.L.shut } s' ∧ Still s' ∧ s'.n = s.n ∧ s'.now = S.L.shutNow s.now ∧ ((∀ x, ((x / 8 : Nat) : Int) ∉ S.dirty.map Prod.fst → s.kept x = s.now x) → s'.kept = s'.now) := by
  have hmem : ∀ k, k ∈ sortI (S.dirty.map Prod.fst) ↔ k ∈ S.dirty.map Prod.fst := fun k => List.mem_mergeSort
  obtain ⟨s1, e1, e2, e3, e4, e5⟩ := flushAll_ne (sortI (S.dirty.map Prod.fst)) s hs.lim (fun k h => hd k ((hmem k).1 h))
  have hpk : (∀ x, ((x / 8 : Nat) : Int) ∉ S.dirty.map Prod.fst → s.kept x = s.now x) → ∀ x, s1.pk x = s.now x := fun hk x => by
    rw [e5]
    by_cases c : ((x / 8 : Nat) : Int) ∈ S.dirty.map Prod.fst
    · rw [if_pos ((hmem _).2 c)]
    · rw [if_neg (fun h => c ((hmem _).1 h)), still_pk hs.q, hk x c]
  unfold SecS.commit
  rw [e1, then_ok]
  by_cases c : 0 < S.dirty.length
  · rw [if_pos c, fn_then e2]
    obtain ⟨s', f1, f2, f4, f5, f6⟩ := trunc_still (L := S.L) (s := s1.fn) ⟨by rw [fn_lim]; exact e2, fn_q _⟩ (by rw [fn_n, e3]; exact hn)
    exact ⟨s', by rw [f1, then_ok], f2, by rw [f4, fn_n, e3], by rw [f5, fn_now, e4], fun hk => f6 (funext fun x => by rw [fn_kept, fn_now, hpk hk, e4])⟩
  · have hd0 : S.dirty = [] := List.length_eq_zero_iff.1 (by omega)
    have hs1 : s1 = s := by
      rw [hd0] at e1
      simp [sortI, flushAll] at e1
      exact e1.symm
    subst hs1
    rw [if_neg c, then_ok]
    obtain ⟨s', f1, f2, f4, f5, f6⟩ := trunc_still (L := S.L) (s := s1) hs hn
    exact ⟨s', by rw [f1, then_ok], f2, f4, f5, fun hk => f6 (funext fun x => hk x (by rw [hd0]; simp))⟩
def Shut0 (L : LogS) (s : Dev) : Prop := s.now 8 = L.epoch ∧ s.now 16 ≠ stampI L.epoch 0
theorem shut0_open {L : LogS} {s : Dev} {d : Nat} (h : Shut0 L s) (hL : LogW L) (hn : 24 ≤ s.n) : openL d L.c s = ⟨d, L.c, L.epoch, 0⟩ := by
  have e8 : s.load 8 = L.epoch := by rw [load_nat (i := 8) (k := 8) rfl (by omega), h.1]
  have e16 : s.load (L.c.record 0) = s.now 16 := load_nat (i := L.c.record 0) (k := 16) rfl (by omega)
  have e1 := hL.e1
  have e2 := hL.e2
  unfold openL
  rw [e8, Int.emod_eq_of_lt e1 e2, openN_zero (by rw [e16]; exact h.2)]
structure In (kp : Prop) (c : Cfg) (N : Nat) (old : Nat → Int) (js : List Nat) (S : SecS) (s : Dev) : Prop where
  still : Still s
  n : s.n = N
  hN : (N : Int) = c.words
  hc : S.L.c = c
  logw : LogW S.L
  ln : S.L.n = js.length
  seen : ∀ i : Int, (mget S.seen i).isSome = true ↔ ∃ j ∈ js, (j : Int) = i
  recs : ∀ k (h : k < js.length), s.now (16 + 4 * k + 1) = js[k] ∧ s.now (16 + 4 * k + 2) = old js[k] ∧ c.active ≤ js[k] ∧ js[k] < N
  same : ∀ x, x ∉ js → c.active ≤ x → ¬(S.ff ≤ x ∧ (x : Int) < S.ft) → s.now x = old x
  keep : kp → ∀ x, ((x / 8 : Nat) : Int) ∉ S.dirty.map Prod.fst → s.kept x = s.now x
  dirty : ∀ k ∈ S.dirty.map Prod.fst, c.active ≤ k * 8 ∧ k * 8 < N
  nd : (S.dirty.map Prod.fst).Nodup
  out : ∀ j ∈ js, (j : Int) < S.ff ∨ S.ft ≤ j
  jnd : js.Nodup
  ep : s.now 8 = S.L.epoch
  st : (js = [] ∧ s.now 16 ≠ stampI S.L.epoch 0) ∨ (js ≠ [] ∧ s.now 16 = stampI S.L.epoch 0)
theorem in_begin {kp : Prop} {c : Cfg} {N : Nat} {S : SecS} {s : Dev} {f t : Int} (hs : Still s) (hk : kp → s.kept = s.now) (hn : s.n = N) (hN : (N : Int) = c.words) (hc : S.L.c = c) (hL : LogW S.L) (h0 : S.L.n = 0) (h1 : Shut0 S.L s) : In kp c N s.now [] { S with ff := f, ft := t, seen := [], dirty := [] } s :=
  ⟨hs, hn, hN, hc, hL, h0, fun i => by simp [mget], fun k h => absurd h (Nat.not_lt_zero _), fun _ _ _ _ => rfl, fun h x _ => by rw [hk h], fun k h => by simp at h, by simp, fun j h => by simp at h, by simp, h1.1, .inl ⟨rfl, h1.2⟩⟩
theorem shut0_shut {L : LogS} {f : Nat → Int} {s : Dev} (hL : LogW L) (he : f 8 = L.epoch) (hs : (L.n = 0 ∧ f 16 ≠ stampI L.epoch 0) ∨ (L.n ≠ 0 ∧ f 16 = stampI L.epoch 0)) (hn : s.now = L.shutNow f) : Shut0 L.shut s := by
  have e1 := hL.e1
  have e2 := hL.e2
  unfold Shut0
  rw [hn]
  unfold LogS.shutNow LogS.shut
  by_cases h0 : L.n = 0
  · rw [if_pos h0, if_pos h0]
    rcases hs with ⟨_, h⟩ | ⟨h, _⟩
    · exact ⟨he, h⟩
    · exact absurd h0 h
  · rw [if_neg h0, if_neg h0]
    rcases hs with ⟨h, _⟩ | ⟨_, h⟩
    · exact absurd h h0
    · refine ⟨by simp only [upd, if_true], ?_⟩
      simp only [upd]
      rw [if_neg (by decide), h]
      simp only [stampI]
      omega
theorem in_commit {kp : Prop} {c : Cfg} {N : Nat} {old : Nat → Int} {js : List Nat} {S : SecS} {s : Dev} (h : In kp c N old js S s) (hc : CfgW c) :
    ∃ s', S.commit s = .ok { S with L := S.L.shut } s' ∧ Still s' ∧ s'.n = N ∧ s'.now = S.L.shutNow s.now ∧ (kp → Calm s') ∧ Shut0 S.L.shut s' := by
  have hw := words_b hc
  have hact := hc.act
  have := h.hN
  have := hc.r1
  have := hc.l1
  obtain ⟨s', e1, e2, e4, e5, e6⟩ := commit_still (S := S) h.still (by rw [h.n]; omega) (fun k hk => by have := h.dirty k hk; rw [h.n]; omega)
  refine ⟨s', e1, e2, by rw [e4, h.n], e5, fun hk => ⟨e6 (h.keep hk), e2.q⟩, shut0_shut h.logw h.ep ?_ e5⟩
  rcases h.st with ⟨h1, h2⟩ | ⟨h1, h2⟩
  · exact .inl ⟨by rw [h.ln, h1]; rfl, h2⟩
  · exact .inr ⟨by rw [h.ln]; have := List.length_pos_iff.2 h1; omega, h2⟩
theorem mset_lenS {α : Type} {k : Int} {a : α} : ∀ {l : List (Int × α)}, (mset l k a).length ≤ l.length + 1
  | [] => by simp [mset]
  | p :: l => by
    simp only [mset]
    split
    · simp
    · have := mset_lenS (k := k) (a := a) (l := l)
      simp only [List.length_cons]; omega
theorem mset_keyI {α : Type} {k k' : Int} {a : α} : ∀ {l : List (Int × α)}, k' ∈ (mset l k a).map Prod.fst ↔ k' = k ∨ k' ∈ l.map Prod.fst
  | [] => by simp [mset]
  | p :: l => by
    simp only [mset]
    split
    · rename_i h
      simp only [List.map_cons, List.mem_cons, h]
      constructor
      · rintro (h1 | h1)
        · exact .inl h1
        · exact .inr (.inr h1)
      · rintro (h1 | h1 | h1)
        · exact .inl h1
        · exact .inl h1
        · exact .inr h1
    · simp only [List.map_cons, List.mem_cons, mset_keyI (l := l)]
      constructor
      · rintro (h1 | h1 | h1)
        · exact .inr (.inl h1)
        · exact .inl h1
        · exact .inr (.inr h1)
      · rintro (h1 | h1 | h1)
        · exact .inr (.inl h1)
        · exact .inl h1
        · exact .inr (.inr h1)
theorem mset_nodupS {α : Type} {k : Int} {a : α} : ∀ {l : List (Int × α)}, (l.map Prod.fst).Nodup → ((mset l k a).map Prod.fst).Nodup
  | [], _ => by simp [mset]
  | p :: l, h => by
    rw [List.map_cons, List.nodup_cons] at h
    simp only [mset]
    split
    · rename_i e; subst e; rw [List.map_cons, List.nodup_cons]; exact h
    · rename_i e
      rw [List.map_cons, List.nodup_cons]
      refine ⟨fun hm => ?_, mset_nodupS h.2⟩
      rcases mset_keyI.1 hm with h1 | h1
      · exact e h1
      · exact h.1 h1
theorem in_again {kp : Prop} {c : Cfg} {N : Nat} {old : Nat → Int} {js : List Nat} {S : SecS} {s : Dev} (h : In kp c N old js S s) (hc : CfgW c) {i : Nat} (v : Int) (hi : c.active ≤ i ∧ i < N) (hno : i ∈ js ∨ (S.ff ≤ i ∧ (i : Int) < S.ft)) :
    S.store s i v = .ok (0, { S with dirty := mset S.dirty ((i : Int) / 8) () }) (s.sv i v) ∧ In kp c N old js { S with dirty := mset S.dirty ((i : Int) / 8) () } (s.sv i v) := by
  have hact := hc.act
  have hn := h.n
  refine ⟨?_, ⟨⟨by rw [sv_lim]; exact h.still.lim, by rw [sv_q]; exact h.still.q⟩, by rw [sv_n, hn], h.hN, h.hc, h.logw, h.ln, h.seen, fun k hk => ?_, fun x hx hx1 hx2 => ?_, fun hkp x hx => ?_, fun k hk => ?_, mset_nodupS h.nd, h.out, h.jnd, ?_, ?_⟩⟩
  · rw [store_skip (by rw [h.hc]; omega), sv_then h.still.lim (by omega)]
    · rfl
    · rintro ⟨q1, q2⟩
      rcases hno with h1 | h1
      · rw [(h.seen i).2 ⟨i, h1, rfl⟩] at q1; cases q1
      · omega
  · obtain ⟨r1, r2, r3, r4⟩ := h.recs k hk
    have hkl : (k : Int) < c.log := by
      have := h.logw.n2
      rw [h.hc, h.ln] at this; omega
    rw [sv_now]
    simp only [upd]
    rw [if_neg (by omega), if_neg (by omega)]
    exact ⟨r1, r2, r3, r4⟩
  · rw [sv_now]
    simp only [upd]
    rw [if_neg]
    · exact h.same x hx hx1 hx2
    · intro e; subst e
      rcases hno with h1 | h1
      · exact hx h1
      · exact hx2 h1
  · rw [mset_keyI] at hx
    rw [sv_now, sv_kept]
    simp only [upd]
    rw [if_neg (by intro e; subst e; exact hx (.inl (by omega)))]
    exact h.keep hkp x fun hd => hx (.inr hd)
  · rcases mset_keyI.1 hk with e | e
    · subst e; omega
    · exact h.dirty k e
  · have := hc.l1; have := hc.r1
    rw [sv_now]; simp only [upd]; rw [if_neg (by omega)]; exact h.ep
  · have := hc.l1; have := hc.r1
    rw [sv_now]; simp only [upd]; rw [if_neg (by omega)]; exact h.st
theorem in_first {kp : Prop} {c : Cfg} {N : Nat} {old : Nat → Int} {js : List Nat} {S : SecS} {s : Dev} (h : In kp c N old js S s) (hc : CfgW c) {i : Nat} (v : Int) (hi : c.active ≤ i ∧ i < N) (hno : i ∉ js) (hf : ¬(S.ff ≤ i ∧ (i : Int) < S.ft)) (hroom : (js.length : Int) < c.log) :
    ∃ s', S.store s i v = .ok (0, { S with L := { S.L with n := S.L.n + 1 }, seen := mset S.seen i (), dirty := mset S.dirty ((i : Int) / 8) () }) s' ∧ In kp c N old (js ++ [i]) { S with L := { S.L with n := S.L.n + 1 }, seen := mset S.seen i (), dirty := mset S.dirty ((i : Int) / 8) () } s' ∧ s'.now i = v ∧ ∀ x : Nat, c.active ≤ x → x ≠ i → s'.now x = s.now x := by
  have hact := hc.act
  have hn := h.n
  have hln := h.ln
  have hcc := h.hc
  have hN := h.hN
  have hlt := hi
  obtain ⟨s1, e1, e2, e3, e4, e5⟩ := append_ne (L := S.L) (s := s) (i := i) (r := 16 + 4 * js.length) h.logw h.still (by omega) (by rw [hcc]; omega) (by rw [hcc]; omega) (by rw [hln]; simp only [Cfg.record]; omega)
  have hns : (mget S.seen i).isSome = false := by
    cases hm : (mget S.seen (i : Int)).isSome with
    | false => rfl
    | true => obtain ⟨j, hj, e⟩ := (h.seen i).1 hm; exact absurd (by rwa [show j = i by omega] at hj) hno
  have hnow : ∀ x, x ≠ 16 + 4 * js.length → x ≠ 16 + 4 * js.length + 1 → x ≠ 16 + 4 * js.length + 2 → s1.now x = s.now x := fun x h1 h2 h3 => by
    rw [e4]; simp only [upd]; rw [if_neg h1, if_neg h3, if_neg h2]
  refine ⟨s1.sv i v, ?_, ⟨⟨by rw [sv_lim]; exact e2.lim, by rw [sv_q]; exact e2.q⟩, by rw [sv_n, e3, hn], hN, hcc, ⟨h.logw.c, h.logw.e1, h.logw.e2, ?_, ?_⟩, ?_, fun x => ?_, fun k hk => ?_, fun x hx hx1 hx2 => ?_, fun hkp x hx => ?_, fun k hk => ?_, mset_nodupS h.nd, fun j hj => ?_, List.nodup_append.2 ⟨h.jnd, by simp, fun a ha b hb => by simp at hb; subst hb; rintro rfl; exact hno ha⟩, ?_, .inr ⟨by simp, ?_⟩⟩, ?_, fun x hx hx1 => ?_⟩
  · unfold SecS.store
    rw [if_neg (by rw [hcc]; omega), if_pos ⟨hns, by omega⟩, e1, then_ok]
    simp only [ne_eq, not_true_eq_false, if_false]
    rw [sv_then e2.lim (by rw [e3]; omega)]
    rfl
  · show 0 ≤ S.L.n + 1
    omega
  · show S.L.n + 1 ≤ S.L.c.log
    rw [hcc]; omega
  · show S.L.n + 1 = _
    rw [List.length_append, hln]; simp
  · rw [mget_mset]
    by_cases c1 : x = i
    · rw [if_pos c1]; simp [c1]
    · rw [if_neg c1, h.seen x]
      constructor
      · rintro ⟨j, hj, e⟩; exact ⟨j, List.mem_append_left _ hj, e⟩
      · rintro ⟨j, hj, e⟩
        rcases List.mem_append.1 hj with h1 | h1
        · exact ⟨j, h1, e⟩
        · have : j = i := by simpa using h1
          subst this; exact absurd e.symm c1
  · rw [sv_now]
    simp only [upd]
    rw [List.length_append, List.length_singleton] at hk
    rw [if_neg (by omega), if_neg (by omega)]
    by_cases c1 : k < js.length
    · obtain ⟨r1, r2, r3, r4⟩ := h.recs k c1
      rw [hnow _ (by omega) (by omega) (by omega), hnow _ (by omega) (by omega) (by omega)]
      simp only [List.getElem_append_left c1]
      exact ⟨r1, r2, r3, r4⟩
    · have : k = js.length := by omega
      subst this
      simp only [List.getElem_concat_length]
      refine ⟨?_, ?_, hi.1, hi.2⟩
      · rw [e4]; simp only [upd]; rw [if_neg (by omega), if_neg (by omega)]; simp only [if_true]
      · rw [e4]; simp only [upd, Int.toNat_natCast]; rw [if_neg (by omega)]; simp only [if_true]; rw [if_neg (by omega)]
        exact h.same i hno hi.1 hf
  · have h1 : x ∉ js := fun hh => hx (List.mem_append_left _ hh)
    have h2 : x ≠ i := fun e => hx (by simp [e])
    rw [sv_now]; simp only [upd]
    rw [if_neg h2, hnow _ (by omega) (by omega) (by omega)]
    exact h.same x h1 hx1 hx2
  · rw [mset_keyI] at hx
    rw [sv_now, sv_kept]
    simp only [upd]
    rw [if_neg (by intro e; subst e; exact hx (.inl (by omega))), e5]
    by_cases c1 : x / 8 = (16 + 4 * js.length) / 8
    · rw [if_pos c1]
    · rw [if_neg c1, hnow _ (by omega) (by omega) (by omega)]
      exact h.keep hkp x fun hd => hx (.inr hd)
  · rcases mset_keyI.1 hk with e | e
    · subst e; omega
    · exact h.dirty k e
  · rcases List.mem_append.1 hj with h1 | h1
    · exact h.out j h1
    · have : j = i := by simpa using h1
      subst this
      show (j : Int) < S.ff ∨ S.ft ≤ j
      omega
  · have := hc.l1; have := hc.r1
    rw [sv_now]; simp only [upd]; rw [if_neg (by omega), hnow _ (by omega) (by omega) (by omega)]; exact h.ep
  · have := hc.l1; have := hc.r1
    rw [sv_now]; simp only [upd]; rw [if_neg (by omega)]
    rcases h.st with ⟨h1, _⟩ | ⟨h1, h2⟩
    · rw [e4, hln, h1]; simp only [upd, List.length_nil]; rfl
    · have := List.length_pos_iff.2 h1
      rw [hnow _ (by omega) (by omega) (by omega)]; exact h2
  · rw [sv_now]; simp only [upd, if_pos]
  · rw [sv_now]; simp only [upd]; rw [if_neg hx1, hnow _ (by omega) (by omega) (by omega)]
theorem act_w {c : Cfg} (hc : CfgW c) : 24 ≤ c.active ∧ c.active < c.words ∧ c.words ≤ 20000 := by
  have h1 := hc.act
  have h2 := words_b hc
  have := hc.r1
  have := hc.l1
  have h3 := lines_b (n := c.root c.roots) (by simp only [Cfg.root]; omega)
  have h4 := lines_b (n := c.space) (by have := hc.s1; omega)
  have := hc.s1
  refine ⟨by omega, ?_, by omega⟩
  simp only [Cfg.words, Cfg.frm, Cfg.root] at *
  omega
def NoF (js : List Nat) (S : SecS) : Prop := ∀ k ∈ S.dirty.map Prod.fst, ∃ j ∈ js, ((j / 8 : Nat) : Int) = k
theorem in_store {kp : Prop} {c : Cfg} {N : Nat} {old : Nat → Int} {js : List Nat} {S : SecS} {s : Dev} (h : In kp c N old js S s) (hc : CfgW c) (hd : NoF js S) (hf : S.ff = 0 ∧ S.ft = 0) {i : Nat} (v : Int) (hi : c.active ≤ i ∧ i < N) (hroom : (js.length : Int) < c.log) :
    ∃ S' s' js', S.store s i v = .ok (0, S') s' ∧ In kp c N old js' S' s' ∧ NoF js' S' ∧ S'.ff = 0 ∧ S'.ft = 0 ∧ js'.length ≤ js.length + 1 ∧ S'.dirty.length ≤ S.dirty.length + 1 ∧ S'.L.d = S.L.d ∧ s'.now i = v ∧ ∀ x : Nat, c.active ≤ x → x ≠ i → s'.now x = s.now x := by
  by_cases c1 : i ∈ js
  · obtain ⟨e1, e2⟩ := in_again h hc v hi (.inl c1)
    refine ⟨_, _, js, e1, e2, fun k hk => ?_, hf.1, hf.2, by omega, mset_lenS, rfl, by rw [sv_now]; simp only [upd, if_true], fun x hx hx1 => by rw [sv_now]; simp only [upd]; rw [if_neg hx1]⟩
    rcases mset_keyI.1 hk with e | e
    · exact ⟨i, c1, by omega⟩
    · exact hd k e
  · obtain ⟨s', e1, e2, e3, e4⟩ := in_first h hc v hi c1 (by rw [hf.1, hf.2]; omega) hroom
    refine ⟨_, s', js ++ [i], e1, e2, fun k hk => ?_, hf.1, hf.2, by simp, mset_lenS, rfl, e3, e4⟩
    rcases mset_keyI.1 hk with e | e
    · exact ⟨i, by simp, by omega⟩
    · obtain ⟨j, hj, e5⟩ := hd k e
      exact ⟨j, List.mem_append_left _ hj, e5⟩
theorem shut_w {L : LogS} (h : LogW L) : LogW L.shut ∧ L.shut.n = 0 ∧ L.shut.c = L.c ∧ L.shut.d = L.d := by
  have := h.c.l1
  have := h.c.r1
  unfold LogS.shut
  by_cases c : L.n = 0
  · rw [if_pos c]; exact ⟨h, c, rfl, rfl⟩
  · rw [if_neg c]
    exact ⟨⟨h.c, by show 0 ≤ (L.epoch + 1) % 4294967296; omega, by show (L.epoch + 1) % 4294967296 < 4294967296; omega, show (0 : Int) ≤ 0 by decide, by show (0 : Int) ≤ L.c.log; omega⟩, rfl, rfl, rfl⟩
theorem shutNow_at {L : LogS} {f : Nat → Int} {x : Nat} (hx : x ≠ 8) : L.shutNow f x = f x := by
  unfold LogS.shutNow; split
  · rfl
  · simp only [upd]; rw [if_neg hx]
theorem in_secw {kp : Prop} {c : Cfg} {N : Nat} {old : Nat → Int} {js : List Nat} {S : SecS} {s : Dev} (h : In kp c N old js S s) (hc : CfgW c) (hN : N ≤ 1000000) : SecW S := ⟨h.logw, fun p hp => by
  have := h.dirty p.1 (List.mem_map_of_mem hp)
  have := hc.act
  have := hc.r1
  have := hc.l1
  omega⟩
theorem dirty_len {kp : Prop} {c : Cfg} {N : Nat} {old : Nat → Int} {js : List Nat} {S : SecS} {s : Dev} (h : In kp c N old js S s) (hc : CfgW c) (hN : N ≤ 1000000) : S.dirty.length ≤ 1000000 := by
  have hact := hc.act
  have := hc.r1
  have := hc.l1
  have h1 := nodup_le (d := S.dirty.map Prod.fst) (l := (List.range 1000000).map fun (i : Nat) => (i : Int)) h.nd fun x hx => by
    have := h.dirty x hx
    exact List.mem_map.2 ⟨x.toNat, List.mem_range.2 (by omega), by omega⟩
  simpa using h1
end Go.Proofs.YtlcibdhmgclfjaaGreat
namespace Go.Proofs.YtlcibdhmgclfjaaGreat
open Go
theorem store_q {s s' : Dev} {i v a : Int} (e : s.store i v = .ok a s') : s'.q = s.q := by
  unfold Dev.store at e
  split at e
  · cases e; rfl
  · split at e
    · cases e
    · cases e; rfl
theorem cpyN_q : ∀ (k : Nat) (i a f : Int) (s s' : Dev), cpyN k i a f s = .ok () s' → s'.q = s.q
  | 0, _, _, _, s, s', e => by cases e; rfl
  | k + 1, i, a, f, s, s', e => by
    rw [cpyN_succ] at e
    obtain ⟨_, s1, e1, e⟩ := then_inv e
    exact (cpyN_q k _ _ _ s1 s' e).trans (store_q e1)
theorem copied_q {S : ColS} {s s' : Dev} {w : Int} {r : Int × ColS} (e : S.copied s w = .ok r s') : s'.q = s.q := by
  unfold ColS.copied at e
  split at e
  · cases e; rfl
  split at e
  · cases e; rfl
  split at e
  · cases e; rfl
  obtain ⟨_, s1, e1, e⟩ := then_inv e
  cases e; exact cpyN_q _ _ _ _ _ _ e1
theorem refsN_q : ∀ (k : Nat) (i : Int) (S S' : ColS) (s s' : Dev), refsN k i S s = .ok S' s' → s'.q = s.q
  | 0, _, S, S', s, s', e => by cases e; rfl
  | k + 1, i, S, S', s, s', e => by
    rw [refsN_succ] at e
    split at e
    · exact refsN_q k _ S S' s s' e
    · obtain ⟨r, s1, e1, e⟩ := then_inv e
      obtain ⟨_, s2, e2, e⟩ := then_inv e
      exact ((refsN_q k _ _ S' s2 s' e).trans (store_q e2)).trans (copied_q e1)
theorem keep_q {S : ColS} {s s' : Dev} {a : Unit} (h : s.q = fun _ => none) (e : S.keep s = .ok a s') : s'.q = fun _ => none := by
  unfold ColS.keep at e
  obtain ⟨_, s1, e1, e⟩ := then_inv e
  split at e
  · unfold Dev.fence at e
    split at e
    · cases e
    · cases e; rfl
  · rename_i hn
    rw [keepN_succ, if_neg hn] at e1
    cases e1; cases e; exact h
theorem step_q {S : ColS} {s s' : Dev} {r : Bool × ColS} (h : s.q = fun _ => none) (e : S.step s = .ok r s') : s'.q = fun _ => none := by
  unfold ColS.step at e
  split at e
  · cases e; exact h
  split at e
  · obtain ⟨r1, s1, e1, e⟩ := then_inv e
    cases e; exact (copied_q e1).trans h
  · split at e
    · obtain ⟨S1, s1, e1, e⟩ := then_inv e
      cases e; exact (refsN_q _ _ _ _ _ _ e1).trans h
    · obtain ⟨_, s1, e1, e⟩ := then_inv e
      cases e; exact keep_q h e1
theorem runN_q : ∀ (f : Nat) (S S' : ColS) (s s' : Dev), (s.q = fun _ => none) → runN f S s = .ok S' s' → s'.q = fun _ => none
  | 0, S, S', s, s', h, e => by cases e; exact h
  | f + 1, S, S', s, s', h, e => by
    rw [runN_succ] at e
    obtain ⟨r, s1, e1, e⟩ := then_inv e
    have h1 := step_q h e1
    split at e
    · cases e; exact h1
    · exact runN_q f _ S' s1 s' h1 e
structure SK (c : Cfg) (N bd : Nat) (S : SecS) (s : Dev) : Prop where
  still : Still s
  u : U64 s
  n : s.n = N
  hN : (N : Int) = c.words
  lc : S.L.c = c
  lw : LogW S.L
  ln : S.L.n = 0
  ld : S.L.d = bd
  sh : Shut0 S.L s
theorem SK.secK {c : Cfg} {N bd : Nat} {S : SecS} {s : Dev} (h : SK c N bd S s) (hc : CfgW c) : SecK S bd c s := ⟨h.lw, by have := (act_w hc).2.2; have := h.hN; rw [h.n]; omega, h.ld, h.lc⟩
theorem writeN_run {c : Cfg} (hc : CfgW c) {N : Nat} {old : Nat → Int} : ∀ (l : List Int) (i : Nat) (S : SecS) (s : Dev) (js : List Nat), In False c N old js S s → NoF js S → S.ff = 0 ∧ S.ft = 0 → c.active ≤ i → i + l.length ≤ N → (js.length : Int) + l.length ≤ c.log →
    ∃ S' s' js', writeN secOp l i s S = .ok (0, S') s' ∧ In False c N old js' S' s' ∧ NoF js' S' ∧ (S'.ff = 0 ∧ S'.ft = 0) ∧ S'.L.d = S.L.d ∧ ∀ x : Nat, c.active ≤ x → s'.now x = if i ≤ x ∧ x < i + l.length then l.getD (x - i) 0 else s.now x
  | [], i, S, s, js, h, h1, h2, _, _, _ => ⟨S, s, js, rfl, h, h1, h2, rfl, fun x _ => by rw [if_neg (by simp only [List.length_nil]; omega)]⟩
  | v :: t, i, S, s, js, h, h1, h2, h3, h4, h5 => by
    simp only [List.length_cons] at h4 h5
    have hld : s.load i = s.now i := load_nat rfl (by rw [h.n]; omega)
    unfold writeN
    have fin : ∀ (s1 s' : Dev), (∀ x : Nat, c.active ≤ x → s1.now x = if x = i then v else s.now x) → (∀ x : Nat, c.active ≤ x → s'.now x = if i + 1 ≤ x ∧ x < i + 1 + t.length then t.getD (x - (i + 1)) 0 else s1.now x) → ∀ x : Nat, c.active ≤ x → s'.now x = if i ≤ x ∧ x < i + (v :: t).length then (v :: t).getD (x - i) 0 else s.now x := fun s1 s' g1 g2 x hx => by
      rw [g2 x hx, List.length_cons]
      by_cases e : x = i
      · subst e
        rw [if_neg (by omega), g1 x hx, if_pos rfl, if_pos (by omega), Nat.sub_self]; rfl
      · by_cases hr : i + 1 ≤ x ∧ x < i + 1 + t.length
        · rw [if_pos hr, if_pos (by omega), show x - i = (x - (i + 1)) + 1 by omega]; rfl
        · rw [if_neg hr, g1 x hx, if_neg e, if_neg (by omega)]
    by_cases he : s.load i = v
    · rw [if_pos he]
      obtain ⟨S', s', js', e1, e2, e3, e4, e5, e6⟩ := writeN_run hc t (i + 1) S s js h h1 h2 (by omega) (by omega) (by omega)
      refine ⟨S', s', js', e1, e2, e3, e4, e5, fin s s' (fun x hx => ?_) e6⟩
      split
      · rename_i e; rw [e, ← hld, he]
      · rfl
    · rw [if_neg he]
      obtain ⟨S1, s1, js1, e1, e2, e3, e4, e5, e6, _, e7, e8, e9⟩ := in_store h hc h1 h2 (i := i) v ⟨h3, by omega⟩ (by omega)
      rw [show secOp (i : Int) v s S = .ok (0, S1) s1 from e1]
      simp only [then_ok]
      rw [if_neg (by simp)]
      obtain ⟨S', s', js', k1, k2, k3, k4, k5, k6⟩ := writeN_run hc t (i + 1) S1 s1 js1 e2 e3 ⟨e4, e5⟩ (by omega) (by omega) (by omega)
      refine ⟨S', s', js', k1, k2, k3, k4, k5.trans e7, fin s1 s' (fun x hx => ?_) k6⟩
      split
      · rename_i e; rw [e]; exact e8
      · rename_i e; exact e9 x hx e
theorem flip_run {c : Cfg} (hc : CfgW c) {N bd : Nat} {S : SecS} {s : Dev} (h : SK c N bd S s) {b : Blk} (hl : (b.rts.length : Int) = c.roots) (hb : ∀ v ∈ b.act :: b.used :: b.rts, 0 ≤ v ∧ v < 18446744073709551616) :
    ∃ S' s', flipM c b S s = .ok (0, S') s' ∧ SK c N bd S' s' ∧ ∀ x : Nat, c.active ≤ x → s'.now x = if (x : Int) < c.active + 2 + c.roots then (b.act :: b.used :: b.rts).getD (x - c.active.toNat) 0 else s.now x := by
  have hA := act_w hc
  have hf := frm_b hc (k := 0) (by omega)
  have hN := h.hN
  have hr := hc.r1
  have hlog := hc.l1
  obtain ⟨S1, s1, js, e1, e2, e3, e4, e5, e6⟩ := writeN_run hc (b.act :: b.used :: b.rts) c.active.toNat (S.fresh 0 0) s [] (in_begin h.still (fun h => h.elim) h.n h.hN h.lc h.lw h.ln h.sh) (fun k hk => by cases hk) ⟨rfl, rfl⟩ (by omega) (by simp only [List.length_cons]; omega) (by simp only [List.length_cons, List.length_nil]; omega)
  obtain ⟨s2, k1, k2, k3, k4, _, k6⟩ := in_commit e2 hc
  have hk := shut_w e2.logw
  have hfl : flipM c b S s = .ok (0, { S1 with L := S1.L.shut }) s2 := by
    unfold flipM writeM
    rw [show (c.active : Int) = ((c.active.toNat : Nat) : Int) by omega, e1]
    simp only [then_ok]
    rw [if_neg (by simp), k1]; rfl
  refine ⟨_, s2, hfl, ⟨k2, ?_, k3, hN, hk.2.2.1.trans e2.hc, hk.1, hk.2.1, ?_, k6⟩, fun x hx => ?_⟩
  · exact (flip_k hb h.lw h.u (by rw [h.n]; omega) hfl).1
  · exact hk.2.2.2.trans (e5.trans h.ld)
  · rw [k4, shutNow_at (by omega), e6 x (by omega)]
    simp only [List.length_cons]
    by_cases hx2 : (x : Int) < c.active + 2 + c.roots
    · rw [if_pos (by omega), if_pos hx2]
    · rw [if_neg (by omega), if_neg hx2]
theorem flip_block {c : Cfg} (hc : CfgW c) {N : Nat} {s s' : Dev} {b : Blk} (hn : s'.n = N) (hN : (N : Int) = c.words) (hl : (b.rts.length : Int) = c.roots) (hb : BlkW c b) (h : ∀ x : Nat, c.active ≤ x → s'.now x = if (x : Int) < c.active + 2 + c.roots then (b.act :: b.used :: b.rts).getD (x - c.active.toNat) 0 else s.now x) : s'.block c = (b, 0) := by
  have hA := act_w hc
  have hf := frm_b hc (k := 0) (by omega)
  have hr := hc.r1
  have hld : ∀ k : Nat, (k : Int) < 2 + c.roots → s'.load (c.active + k) = (b.act :: b.used :: b.rts).getD k 0 := fun k hk => by
    rw [load_nat (k := c.active.toNat + k) (by omega) (by omega), h _ (by omega), if_pos (by omega)]
    congr 1; omega
  have h0 := hld 0 (by omega)
  have h1 := hld 1 (by omega)
  simp only [Int.ofNat_zero, Int.add_zero] at h0
  have hba := hb.act; have hbu := hb.used
  unfold Dev.block
  rw [show c.active + 1 = c.active + ((1 : Nat) : Int) from rfl, h1, show s'.load c.active = b.act from by simpa using h0]
  have e1 : (b.act :: b.used :: b.rts).getD 1 0 = b.used := rfl
  rw [e1, if_neg (by omega)]
  congr 1
  cases b with
  | mk a u r =>
    congr 1
    simp only at hl hld
    apply List.ext_getElem
    · rw [tab_len]; omega
    · intro i h2 h3
      rw [tab_len] at h2
      have h4 := hld (i + 2) (by omega)
      have h5 : (tab c.roots.toNat fun i => s'.load (c.root i))[i] = s'.load (c.root i) := by
        have : (tab c.roots.toNat fun i => s'.load (c.root i)) = (List.range c.roots.toNat).map fun (i : Nat) => s'.load (c.root i) := rfl
        simp [this]
      rw [h5]
      simp only [Cfg.root]
      rw [show c.active + 2 + (i : Int) = c.active + ((i + 2 : Nat) : Int) by omega, h4]
      simp [List.getD_eq_getElem?_getD, List.getElem?_eq_getElem h3]
theorem GcH.lo0 {c : Cfg} {b : Blk} {m0 : Int → Int} {L : List Int} {lo hi : Int} (G : GcH c b m0 L lo hi) : c.frm 0 ≤ lo := by
  have h1 := G.hb.act
  have hs1 := G.hc.s1
  have h5 := lines_b (n := c.space) (by omega)
  rw [G.lo_]
  rcases (by omega : b.act = 0 ∨ b.act = 1) with e | e
  · rw [e]; simp [Cfg.frm]; omega
  · rw [e]; simp
abbrev RunJ (c : Cfg) (N : Nat) (s0 s : Dev) : Prop := U64 s ∧ s.pow.lim < 0 ∧ s.n = N ∧ s.now 8 = s0.now 8 ∧ s.now 16 = s0.now 16
theorem runJ_stab {c : Cfg} {N : Nat} {s0 : Dev} {lo hi : Int} (h0 : 24 < lo) (h1 : hi ≤ N) : Stab lo hi (RunJ c N s0) where
  n := fun s h => ⟨by omega, by rw [h.2.2.1]; exact h1⟩
  st := fun s i v ⟨g1, g2, g3, g4, g5⟩ a1 a2 a3 a4 => ⟨fun x => by
      show 0 ≤ upd s.now i.toNat v x ∧ upd s.now i.toNat v x < _
      unfold upd; split
      · exact ⟨a3, a4⟩
      · exact g1 x, g2, g3, by show upd s.now i.toNat v 8 = _; unfold upd; rw [if_neg (by omega)]; exact g4, by show upd s.now i.toNat v 16 = _; unfold upd; rw [if_neg (by omega)]; exact g5⟩
  fl := fun s i h _ _ => h
  fe := fun s h => h
theorem OutP.lim {α : Type} {m : Out α} {ok : α → Dev → Prop} {J : Dev → Prop} (h : OutP m ok (OffJ J)) (hl : ∀ s, J s → s.pow.lim < 0) : ∃ a s, m = .ok a s ∧ ok a s := by
  cases m with
  | ok a s => exact ⟨a, s, rfl, h⟩
  | off s =>
    have h1 := hl s h.1
    have h2 := h.2
    unfold Pow.out at h2
    simp at h2; omega
theorem collect_run {c : Cfg} (hc : CfgW c) {N bd : Nat} {S : SecS} {s : Dev} (h : SK c N bd S s) {b : Blk} (hb : s.block c = (b, 0)) {L : List Int} (hh : HeapW c b s.load L) {ws : List Int} (hws : ∀ w ∈ ws, w = 0 ∨ w ∈ L) :
    ∃ X S' s', collectM bd c S s ws = .ok (some X, 0, S') s' ∧ SK c N bd S' s' ∧ ColW X ∧ s'.block c = (X.block, 0) ∧ GcH c b s.load L (c.frm (1 - b.act)) (c.frm (1 - b.act) + c.space) ∧ (∃ s1, DI c b s.load L (c.frm (1 - b.act)) (b.rts ++ ws) X s1 ∧ ∀ j, c.frm 0 ≤ j → s'.load j = s1.load j) := by
  have hA := act_w hc
  have hb0 : b = (s.block c).1 := by rw [hb]
  have hbw : BlkW c b := by rw [hb0]; exact block_w hc h.u
  have G : GcH c b s.load L (c.frm (1 - b.act)) (c.frm (1 - b.act) + c.space) := ⟨hc, hbw, hh, rfl, rfl, fun x => h.u.load x⟩
  have hap := G.apart
  have hN := h.hN
  have hwl : ∀ w ∈ b.rts ++ ws, w = 0 ∨ w ∈ L := fun w hw => by
    rcases List.mem_append.1 hw with hw | hw
    · exact hh.roots w hw
    · exact hws w hw
  have hwb : ∀ v ∈ b.rts ++ ws, 0 ≤ v ∧ v < 18446744073709551616 := fun v hv => by
    rcases hwl v hv with rfl | hv
    · decide
    · have := heap_b hc hbw hh hv; omega
  have hrl : (b.rts.length : Int) = c.roots := by
    have : (s.block c).2 = 0 := by rw [hb]
    rw [hb0]
    unfold Dev.block at this ⊢
    split at this
    · cases this
    · rename_i hne
      rw [if_neg hne, tab_len]; have := hc.r1; omega
  have hW : ColW (newCol bd c b (b.rts ++ ws)) := newCol_w hc hbw (by have := hc.r2; omega) (fun v hv => hwb v (List.mem_append_left _ hv)) hwb
  obtain ⟨X, s1, e1, ⟨j1, j2, j3, j4, j5⟩, hD, hdn⟩ := (SI.run G (runJ_stab (c := c) (N := N) (s0 := s) hap.2.1 (by omega)) (fun s h => h.1) hwl _ _ s (si_new (bd := bd) G rfl _) ⟨h.u, h.still.lim, h.n, rfl, rfl⟩ hW (Nat.lt_succ_self _)).lim (fun s h => h.2.1)
  have hX := (runN_w _ _ _ _ _ hW h.u e1)
  have hq := runN_q _ _ _ _ _ h.still.q e1
  have hbl := hD.block G
  have hus := hD.used G
  have hsk : SK c N bd S s1 := ⟨⟨j2, hq⟩, j1, j3, hN, h.lc, h.lw, h.ln, h.ld, by unfold Shut0; rw [j4, j5]; exact h.sh⟩
  have hlx : (X.block.rts.length : Int) = c.roots := by rw [hbl]; simp only [List.length_map]; exact hrl
  have hbX : BlkW c X.block := ⟨by rw [hbl]; have := hbw.act; simp only; omega, ⟨hus.2.1, by have := hbw.used; omega⟩⟩
  obtain ⟨S', s', e2, h2, e3⟩ := flip_run hc hsk hlx (colblk_w hX.1)
  have hblk := flip_block hc h2.n hN hlx hbX e3
  refine ⟨X, S', s', ?_, h2, hX.1, hblk, G, s1, hD, fun j hj => ?_⟩
  · unfold collectM
    rw [hb]
    rw [if_neg (by simp)]
    show ((newCol bd c b (b.rts ++ ws)).run s).then _ = _
    rw [show (newCol bd c b (b.rts ++ ws)).run s = .ok X s1 from e1]
    simp only [then_ok]
    rw [e2]
    rfl
  · have hf := frm_b hc (k := 0) (by omega)
    unfold Dev.load Dev.has
    rw [h2.n, j3]
    split
    · rw [e3 _ (by omega), if_neg (by omega)]
    · rfl
end Go.Proofs.YtlcibdhmgclfjaaGreat
