/- The power: what New, Tick, Used and Run do. Conditions: none. -/
import Derived.Test.YtbfheafpecgphaaGreatFac
set_option linter.unusedSimpArgs false
set_option linter.unusedVariables false
set_option linter.unnecessarySimpa false
set_option linter.unusedSectionVars false
namespace Go.Proofs.YtbfheafpecgphaaGreat
set_option linter.unusedSimpArgs false
set_option linter.unusedVariables false
open Go

structure Pow where
  lim : Int
  used : Int
def Pow.out (s : Pow) : Bool := decide (0 ≤ s.lim) && decide (s.lim ≤ s.used)
def Pow.up (s : Pow) : Pow := { s with used := IntKind.i64.wrap (s.used + 1) }
def PowA (b : Nat) (s : Pow) : HP := row b [.int .i64 s.lim, .int .i64 s.used] 141
/-- What is thrown when the power goes. -/
def offc : List PanicEntry := [{ v := .iface 143 (.agg #[]), recovered := false }]
abbrev ptr (b : Nat) : Value := .pointer (some ⟨b, 0, none⟩)

theorem pnew_ok (B : World) (Fr : List HP) (n : Int) :
    ∀ w, Holds B Fr w → Calls Tryz.prog 37 [.int .i64 n].toArray w (Ret B (fun v H' => ∃ b, v = ptr b ∧ H' = PowA b ⟨n, 0⟩ :: Fr) (fun _ _ => False)) := by
  refine fn_enter Tryz.func37 rfl Tryz.ntmps37 rfl ?_; refine g_seq ?_; refine g_region ?_; refine kPa rfl rfl ?_; refine p_nil ?_; refine g_seq ?_; refine g_region ?_; refine kPm rfl rfl ?_; refine kPv (ev_build rfl (bld_141_0 _ rfl)) rfl ?_; refine p_chg rfl (ch_boxA rfl) .free rfl rfl ?_
  rintro _ _ ⟨b5, rfl, rfl⟩
  refine kPa rfl rfl ?_; refine p_nil ?_; refine g_ret ?_
  exact ret_tmp Tryz.results37 rfl (fun w hw => ⟨_, ⟨_, rfl, rfl⟩, hw⟩)

theorem used_ok (B : World) (Fr : List HP) (b : Nat) (s : Pow) :
    ∀ w, Holds B (PowA b s :: Fr) w → Calls Tryz.prog 164 [ptr b].toArray w (PureR B (PowA b s :: Fr) (.int .i64 s.used)) := by
  rw [PowA]
  refine fn_enter Tryz.func164 rfl Tryz.ntmps164 rfl ?_; refine g_seq ?_; refine g_region ?_; refine kPa rfl rfl ?_; refine p_nil ?_; refine g_seq ?_; refine g_region ?_; refine kPm rfl rfl ?_
  first | refine kPv (ev_nil rfl) rfl ?_ | refine kPv (ev_nilf rfl) rfl ?_
  refine kPv (ev_fa (m := _) fa_141_1 rfl rfl) rfl ?_; refine kPv (ev_load Tryz.isAgg3 rfl rfl) rfl ?_; refine kPa rfl rfl ?_; refine p_nil ?_; refine g_ret ?_
  exact ret_tmp Tryz.results164 rfl (fun w hw => ⟨rfl, hw⟩)

theorem tick_ok (B : World) (Fr : List HP) (b : Nat) (s : Pow) :
    ∀ w, Holds B (PowA b s :: Fr) w → Calls Tryz.prog 85 [ptr b].toArray w (Ret B (fun v H' => ∃ s', (s.out = false ∧ v = .tuple #[] ∧ s.up = s') ∧ H' = PowA b s' :: Fr) (fun c H' => ∃ s', (s.out = true ∧ c = offc ∧ s = s') ∧ H' = PowA b s' :: Fr)) := by
  rw [PowA]
  refine fn_enter Tryz.func85 rfl Tryz.ntmps85 rfl ?_; refine g_seq ?_; refine g_seq ?_; refine g_draw Tryz.mixed (by kernel_rfl) (by kernel_rfl) ?_; refine kQm rfl rfl ?_
  first | refine kQv (ev_nil rfl) rfl ?_ | refine kQv (ev_nilf rfl) rfl ?_
  refine kQv (ev_fa (m := _) fa_141_0 rfl rfl) rfl ?_; refine kQv (ev_load Tryz.isAgg3 rfl rfl) rfl ?_; refine kQv (ev_cmp rfl rfl rfl) rfl ?_; refine kQm rfl rfl ?_
  apply q_and (tp := 17) (t := 7) (σ1 := [(7, _), (0, _)]) 10 rfl ⟨rfl, rfl, trivial⟩
  · intro hg1
    refine q_val rfl (ev_move rfl) (.on rfl rfl (beq_eq hg1)) rfl ?_
    first | refine q_val rfl (ev_nil rfl) (.on rfl rfl (beq_eq hg1)) rfl ?_ | refine q_val rfl (ev_nilf rfl) (.on rfl rfl (beq_eq hg1)) rfl ?_
    refine q_val rfl (ev_fa (m := _) fa_141_1 rfl rfl) (.on rfl rfl (beq_eq hg1)) rfl ?_; refine q_val rfl (ev_load Tryz.isAgg3 rfl rfl) (.on rfl rfl (beq_eq hg1)) rfl ?_; refine q_val rfl (ev_move rfl) (.on rfl rfl (beq_eq hg1)) rfl ?_
    first | refine q_val rfl (ev_nil rfl) (.on rfl rfl (beq_eq hg1)) rfl ?_ | refine q_val rfl (ev_nilf rfl) (.on rfl rfl (beq_eq hg1)) rfl ?_
    refine q_val rfl (ev_fa (m := _) fa_141_0 rfl rfl) (.on rfl rfl (beq_eq hg1)) rfl ?_; refine q_val rfl (ev_load Tryz.isAgg3 rfl rfl) (.on rfl rfl (beq_eq hg1)) rfl ?_; refine q_val rfl (ev_cmp rfl rfl rfl) (.on rfl rfl (beq_eq hg1)) rfl ?_; refine kQv (ev_pick_t rfl hg1 rfl) rfl ?_
    exact q_seg rfl ⟨rfl, rfl, trivial⟩ (and_t hg1)
  · intro hg1
    refine q_skip rfl (.on rfl rfl (beq_ne hg1)) rfl ?_; refine q_skip rfl (.on rfl rfl (beq_ne hg1)) rfl ?_; refine q_skip rfl (.on rfl rfl (beq_ne hg1)) rfl ?_; refine q_skip rfl (.on rfl rfl (beq_ne hg1)) rfl ?_; refine q_skip rfl (.on rfl rfl (beq_ne hg1)) rfl ?_; refine q_skip rfl (.on rfl rfl (beq_ne hg1)) rfl ?_; refine q_skip rfl (.on rfl rfl (beq_ne hg1)) rfl ?_; refine q_skip rfl (.on rfl rfl (beq_ne hg1)) rfl ?_; refine q_skip rfl (.on rfl rfl (beq_ne hg1)) rfl ?_
    refine kQv (ev_pick_f rfl hg1 rfl) rfl ?_
    exact q_seg rfl ⟨rfl, rfl, trivial⟩ (and_f hg1)
  refine q_nil ?_
  refine g_if rfl (fun h17 => ?_) (fun h17 => ?_)
  · try simp only [decide_eq_true_eq, decide_eq_false_iff_not, Bool.not_eq_true', Bool.not_eq_false', Bool.or_eq_true, Bool.and_eq_true, Bool.and_eq_false_iff, Bool.or_eq_false_iff, beq_iff_eq, bne_iff_ne, beq_eq_false_iff_ne, bne_eq_false_iff_eq, ge_iff_le, gt_iff_lt, ne_eq] at h17
    refine g_region ?_; refine kPv (ev_build rfl (bld_143)) rfl ?_; refine kPv (ev_mki Tryz.runUnderlying143 rfl rfl) rfl ?_; refine p_panico rfl .free ?_
    exact pan_fn (fun w hw => ⟨_, ⟨_, ⟨by simp [Pow.out]; omega, rfl, rfl⟩, rfl⟩, hw⟩)
  · try simp only [decide_eq_true_eq, decide_eq_false_iff_not, Bool.not_eq_true', Bool.not_eq_false', Bool.or_eq_true, Bool.and_eq_true, Bool.and_eq_false_iff, Bool.or_eq_false_iff, beq_iff_eq, bne_iff_ne, beq_eq_false_iff_ne, bne_eq_false_iff_eq, ge_iff_le, gt_iff_lt, ne_eq] at h17
    refine g_skip ?_; refine g_region ?_; refine kPm rfl rfl ?_
    first | refine kPv (ev_nil rfl) rfl ?_ | refine kPv (ev_nilf rfl) rfl ?_
    refine kPv (ev_fa (m := _) fa_141_1 rfl rfl) rfl ?_; refine kPv (ev_load Tryz.isAgg3 rfl rfl) rfl ?_
    first | refine p_val rfl (ev_add rfl rfl (wr64 (by omega))) .free rfl rfl ?_ | refine p_val rfl (ev_add rfl rfl rfl) .free rfl rfl ?_
    first | refine kPv (ev_nil rfl) rfl ?_ | refine kPv (ev_nilf rfl) rfl ?_
    refine kPv (ev_fa (m := _) fa_141_1 rfl rfl) rfl ?_; refine p_chg0 rfl (ch_store Tryz.sizeOf3 rfl rfl rfl rfl) .free rfl ?_
    rintro _ _ rfl
    refine p_nil ?_; refine go_sub (σ' := []) trivial ?_
    exact end_none Tryz.results85 (fun w hw => ⟨_, ⟨_, ⟨by simp [Pow.out]; omega, rfl, rfl⟩, rfl⟩, hw⟩)


/-! ### Run -/
theorem rec_pan {B : World} {H : List HP} {b : Nat} {x : Bool} {w : World} (hw : Holds B (row b [.bool x] 4 :: H) w) :
    CallsD Tryz.prog 86 #[ptr b] (.panicking offc) w fun e u' w' => e = .returned (.tuple #[]) ∧ u' = .panicking [{ v := .iface 143 (.agg #[]), recovered := true }] ∧ Holds B (row b [.bool false] 4 :: H) w' := by
  refine callsD_of_wpS Tryz.func86 rfl fun c₀ cs hu => ?_
  apply wpS_seq
  apply wpS_region
  simp [wpOpsS, go_sem, recoverD, hu, offc, Tryz.ntmps86, Exit.thenS]
  refine wpS_go (n := 15) (σ := [(0, ptr b), (1, .iface 143 (.agg #[]))]) (K := endK (Holds B (row b [.bool false] 4 :: H))) (X := noX) (by simp) rfl (by simp [KnA]) hw ?_ ?_
  · skip
    refine g_seq ?_; refine g_region ?_; refine kPm rfl rfl ?_
    first | refine p_val rfl (ev_neqi Tryz.runUnderlying20 rfl (.inr ⟨_, _, rfl⟩)) .free rfl rfl ?_ | refine p_val rfl (ev_neqi Tryz.runUnderlying20 rfl (.inl rfl)) .free rfl rfl ?_
    refine p_nil ?_; refine g_ift rfl (rfl) ?_; refine g_seq ?_; refine g_seq ?_; refine g_region ?_; refine kPm rfl rfl ?_; refine kPv (ev_ta Tryz.runUnderlying143 rfl rfl) rfl ?_; refine kPm rfl rfl ?_; refine kPv (ev_ext rfl rfl) rfl ?_; refine kPv (ev_ext rfl rfl) rfl ?_; refine p_chg rfl (ch_allocA Tryz.zeroValue143 rfl) .free rfl rfl ?_
    rintro _ _ ⟨b2, rfl, rfl⟩
    refine p_chg0 rfl (ch_storeA (vs := _) Tryz.sizeOf143 rfl rfl rfl rfl rfl) .free rfl ?_
    rintro _ _ rfl
    refine kPa rfl rfl ?_; refine p_nil ?_; refine go_sub (σ' := [(3, _), (0, _), (1, _)]) ⟨rfl, rfl, rfl, trivial⟩ ?_; refine g_seq ?_; refine g_region ?_; refine kPm rfl rfl ?_; refine kPv (ev_not rfl) rfl ?_; refine p_nil ?_; refine g_iff rfl (rfl) ?_; refine g_skip ?_; refine g_region ?_; refine p_chg0 rfl (ch_store Tryz.sizeOf4 rfl rfl rfl rfl) .free rfl ?_
    rintro _ _ rfl
    refine p_nil ?_
    exact go_endK fun _ h => by first | exact h | exact (h.front 1 rfl).map fun _ k => sat_cons (fun _ k => sat_tail k) k
  · intro e a w' q
    obtain ⟨rfl, q1, q2⟩ := toQ_end q
    refine ⟨q1, .panicking [{ v := .iface 143 (.agg #[]), recovered := true }], rfl, .tuple #[], ?_, rfl, rfl, q2⟩
    exact results_none Tryz.results86 _ _ _
theorem rec_idle {B : World} {H : List HP} {b : Nat} {x : Bool} {w : World} (hw : Holds B (row b [.bool x] 4 :: H) w) :
    CallsD Tryz.prog 86 #[ptr b] .returning w fun e u' w' => e = .returned (.tuple #[]) ∧ u' = .returning ∧ Holds B (row b [.bool x] 4 :: H) w' := by
  refine callsD_of_wpS Tryz.func86 rfl fun c₀ cs hu => ?_
  apply wpS_seq
  apply wpS_region
  simp [wpOpsS, go_sem, recoverD, hu, Tryz.ntmps86, Exit.thenS]
  refine wpS_go (n := 15) (σ := [(0, ptr b), (1, .nilIface)]) (K := endK (Holds B (row b [.bool x] 4 :: H))) (X := noX) (by simp) rfl (by simp [KnA]) hw ?_ ?_
  · skip
    refine g_seq ?_; refine g_region ?_; refine kPm rfl rfl ?_
    first | refine p_val rfl (ev_neqi Tryz.runUnderlying20 rfl (.inr ⟨_, _, rfl⟩)) .free rfl rfl ?_ | refine p_val rfl (ev_neqi Tryz.runUnderlying20 rfl (.inl rfl)) .free rfl rfl ?_
    refine p_nil ?_; refine g_iff rfl (rfl) ?_; refine g_skip ?_
    exact go_endK fun _ h => h
  · intro e a w' q
    obtain ⟨rfl, q1, q2⟩ := toQ_end q
    refine ⟨q1, .returning, ?_, .tuple #[], ?_, rfl, rfl, q2⟩
    · cases c₀; simp_all
    · exact results_none Tryz.results86 _ _ _
/-- Run of a closure: what it does, the power staying or going. -/
theorem run_ok {B : World} {g : FuncId} {cap : List Value} {H : List HP} {Φ Ψ : List HP → Prop} (hc : ∀ args w, (callFunc g args).run Tryz.prog w = .ok (.enter g args) w)
    (h : ∀ A w, Holds B (A :: H) w → Calls Tryz.prog g cap.toArray w (Ret B (fun _ H' => ∃ H1, Φ H1 ∧ ∀ w, Holds B H' w → Holds B (A :: H1) w) (fun c H' => c = offc ∧ ∃ H1, Ψ H1 ∧ ∀ w, Holds B H' w → Holds B (A :: H1) w))) :
    ∀ w, Holds B H w → Calls Tryz.prog 38 [.func (.func g) #[] cap.toArray].toArray w (Ret B (fun v H' => (v = .bool true ∧ Φ H') ∨ (v = .bool false ∧ Ψ H')) (fun _ _ => False)) := by
  refine fn_enter_d Tryz.func38 rfl Tryz.ntmps38 rfl ?_; refine g_seq ?_; refine g_region ?_; refine p_chg rfl (ch_alloc1 Tryz.zeroValue4 rfl) .free rfl rfl ?_
  rintro _ _ ⟨b, rfl, rfl⟩
  refine p_nil ?_; refine g_seq ?_; refine g_region ?_; refine kPv (ev_mkf rfl rfl) rfl ?_; refine p_defer rfl rfl .free ?_; refine p_nil ?_; refine g_seq ?_; refine g_region ?_; refine kPm rfl rfl ?_
  refine p_call rfl (en_c hc rfl rfl) (by simpa using h (row b [.bool false] 4)) .free rfl rfl ?_ ?_
  · rintro v H' ⟨H1, hΦ, hi⟩
    refine go_conv hi ?_; refine p_nil ?_; refine g_seq ?_; refine g_region ?_; refine p_chg0 rfl (ch_store Tryz.sizeOf4 rfl rfl rfl rfl) .free rfl ?_
    rintro _ _ rfl
    refine p_nil ?_; refine g_ret ?_
    intro a w s
    show Leaves _ _ _ _ a.defers .returning w
    rw [s.defers]
    refine leaves_cons (f := 86) (args := #[ptr b]) (by simp) (by simp [invoke, Tryz.call86]) ?_; refine (rec_idle (x := true) s.holds).mono ?_
    rintro e u' w' ⟨rfl, rfl, hw'⟩
    refine ⟨.bool true, ?_, H1, .inl ⟨rfl, hΦ⟩, hw'.tail⟩
    have h1 := s.env 2 (ptr b) rfl
    have h2 := hw'.ucell (b := b) 0
    simp [results, Tryz.results38, h1, asAddr, loadVar, Tryz.isAgg4, load, Sem.run, h2]
  · rintro c H' ⟨rfl, H1, hΨ, hi⟩
    refine go_conv hi ?_
    intro a w s
    show Leaves _ _ _ _ a.defers (.panicking offc) w
    rw [s.defers]
    refine leaves_cons (f := 86) (args := #[ptr b]) (by simp) (by simp [invoke, Tryz.call86]) ?_; refine (rec_pan (x := false) s.holds).mono ?_
    rintro e u' w' ⟨rfl, rfl, hw'⟩
    refine ⟨.bool false, ?_, H1, .inr ⟨rfl, hΨ⟩, hw'.tail⟩
    have h1 := s.env 2 (ptr b) rfl
    have h2 := hw'.ucell (b := b) 0
    simp [results, Tryz.results38, h1, asAddr, loadVar, Tryz.isAgg4, load, Sem.run, h2]

/-- Run of a method value: what it does, the power staying or going. -/
theorem run_okf {B : World} {g : FuncId} {x : Value} {H : List HP} {Φ Ψ : List HP → Prop} (hc : ∀ args w, (callFunc g args).run Tryz.prog w = .ok (.enter g args) w)
    (h : ∀ A w, Holds B (A :: H) w → Calls Tryz.prog g [x].toArray w (Ret B (fun _ H' => ∃ H1, Φ H1 ∧ ∀ w, Holds B H' w → Holds B (A :: H1) w) (fun c H' => c = offc ∧ ∃ H1, Ψ H1 ∧ ∀ w, Holds B H' w → Holds B (A :: H1) w))) :
    ∀ w, Holds B H w → Calls Tryz.prog 38 [.func (.func g) [x].toArray [].toArray].toArray w (Ret B (fun v H' => (v = .bool true ∧ Φ H') ∨ (v = .bool false ∧ Ψ H')) (fun _ _ => False)) := by
  refine fn_enter_d Tryz.func38 rfl Tryz.ntmps38 rfl ?_; refine g_seq ?_; refine g_region ?_; refine p_chg rfl (ch_alloc1 Tryz.zeroValue4 rfl) .free rfl rfl ?_
  rintro _ _ ⟨b, rfl, rfl⟩
  refine p_nil ?_; refine g_seq ?_; refine g_region ?_; refine kPv (ev_mkf rfl rfl) rfl ?_; refine p_defer rfl rfl .free ?_; refine p_nil ?_; refine g_seq ?_; refine g_region ?_; refine kPm rfl rfl ?_
  refine p_call rfl (en_c hc rfl rfl) (by simpa using h (row b [.bool false] 4)) .free rfl rfl ?_ ?_
  · rintro v H' ⟨H1, hΦ, hi⟩
    refine go_conv hi ?_; refine p_nil ?_; refine g_seq ?_; refine g_region ?_; refine p_chg0 rfl (ch_store Tryz.sizeOf4 rfl rfl rfl rfl) .free rfl ?_
    rintro _ _ rfl
    refine p_nil ?_; refine g_ret ?_
    intro a w s
    show Leaves _ _ _ _ a.defers .returning w
    rw [s.defers]
    refine leaves_cons (f := 86) (args := #[ptr b]) (by simp) (by simp [invoke, Tryz.call86]) ?_; refine (rec_idle (x := true) s.holds).mono ?_
    rintro e u' w' ⟨rfl, rfl, hw'⟩
    refine ⟨.bool true, ?_, H1, .inl ⟨rfl, hΦ⟩, hw'.tail⟩
    have h1 := s.env 2 (ptr b) rfl
    have h2 := hw'.ucell (b := b) 0
    simp [results, Tryz.results38, h1, asAddr, loadVar, Tryz.isAgg4, load, Sem.run, h2]
  · rintro c H' ⟨rfl, H1, hΨ, hi⟩
    refine go_conv hi ?_
    intro a w s
    show Leaves _ _ _ _ a.defers (.panicking offc) w
    rw [s.defers]
    refine leaves_cons (f := 86) (args := #[ptr b]) (by simp) (by simp [invoke, Tryz.call86]) ?_; refine (rec_pan (x := false) s.holds).mono ?_
    rintro e u' w' ⟨rfl, rfl, hw'⟩
    refine ⟨.bool false, ?_, H1, .inr ⟨rfl, hΨ⟩, hw'.tail⟩
    have h1 := s.env 2 (ptr b) rfl
    have h2 := hw'.ucell (b := b) 0
    simp [results, Tryz.results38, h1, asAddr, loadVar, Tryz.isAgg4, load, Sem.run, h2]

/-- The like, where it is known beforehand whether the power stays, and what is left. -/
theorem run_det {B : World} {g : FuncId} {cap : List Value} {H : List HP} (r : Bool) (F : List HP) (hc : ∀ args w, (callFunc g args).run Tryz.prog w = .ok (.enter g args) w)
    (h : ∀ A w, Holds B (A :: H) w → Calls Tryz.prog g cap.toArray w (Ret B (fun _ H' => r = true ∧ ∀ w, Holds B H' w → Holds B (A :: F) w) (fun c H' => r = false ∧ c = offc ∧ ∀ w, Holds B H' w → Holds B (A :: F) w))) :
    ∀ w, Holds B H w → Calls Tryz.prog 38 [.func (.func g) #[] cap.toArray].toArray w (Ret B (fun v H' => v = .bool r ∧ H' = F) (fun _ _ => False)) := by
  intro w hw
  refine (run_ok (Φ := fun H1 => r = true ∧ H1 = F) (Ψ := fun H1 => r = false ∧ H1 = F) hc (fun A w hw => (h A w hw).mono (Ret.mono (fun v H' h => ⟨F, ⟨h.1, rfl⟩, h.2⟩) (fun c H' h => ⟨h.2.1, F, ⟨h.1, rfl⟩, h.2.2⟩))) w hw).mono (Ret.mono ?_ (fun _ _ h => h))
  rintro v H' (⟨rfl, rfl, rfl⟩ | ⟨rfl, rfl, rfl⟩) <;> exact ⟨rfl, rfl⟩

/-- The like, where it is known beforehand whether the power stays, and what is left. -/
theorem run_detf {B : World} {g : FuncId} {x : Value} {H : List HP} (r : Bool) (F : List HP) (hc : ∀ args w, (callFunc g args).run Tryz.prog w = .ok (.enter g args) w)
    (h : ∀ A w, Holds B (A :: H) w → Calls Tryz.prog g [x].toArray w (Ret B (fun _ H' => r = true ∧ ∀ w, Holds B H' w → Holds B (A :: F) w) (fun c H' => r = false ∧ c = offc ∧ ∀ w, Holds B H' w → Holds B (A :: F) w))) :
    ∀ w, Holds B H w → Calls Tryz.prog 38 [.func (.func g) [x].toArray [].toArray].toArray w (Ret B (fun v H' => v = .bool r ∧ H' = F) (fun _ _ => False)) := by
  intro w hw
  refine (run_okf (Φ := fun H1 => r = true ∧ H1 = F) (Ψ := fun H1 => r = false ∧ H1 = F) hc (fun A w hw => (h A w hw).mono (Ret.mono (fun v H' h => ⟨F, ⟨h.1, rfl⟩, h.2⟩) (fun c H' h => ⟨h.2.1, F, ⟨h.1, rfl⟩, h.2.2⟩))) w hw).mono (Ret.mono ?_ (fun _ _ h => h))
  rintro v H' (⟨rfl, rfl, rfl⟩ | ⟨rfl, rfl, rfl⟩) <;> exact ⟨rfl, rfl⟩

/-- So many ticks: were all done; how many; the power behind them. -/
def tk : Nat → Pow → Bool × Nat × Pow
  | 0, s => (true, 0, s)
  | n + 1, s => if s.out = true then (false, 0, s) else ((tk n s.up).1, (tk n s.up).2.1 + 1, (tk n s.up).2.2)
theorem tk_out {n : Nat} {s : Pow} (h : s.out = true) : tk (n + 1) s = (false, 0, s) := by simp [tk, h]
theorem tk_up {n : Nat} {s : Pow} (h : s.out = false) : tk (n + 1) s = ((tk n s.up).1, (tk n s.up).2.1 + 1, (tk n s.up).2.2) := by simp [tk, h]
end Go.Proofs.YtbfheafpecgphaaGreat

