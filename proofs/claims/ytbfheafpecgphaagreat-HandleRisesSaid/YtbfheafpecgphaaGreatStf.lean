/- Ways that words are stored: a device's, a section's; an object's words and names set. Conditions: none. -/
import Derived.Test.YtbfheafpecgphaaGreatSpc
import Derived.Test.YtbfheafpecgphaaGreatAw2
set_option linter.unusedSimpArgs false
set_option linter.unusedVariables false
set_option linter.unnecessarySimpa false
set_option linter.unusedSectionVars false
namespace Go.Proofs.YtbfheafpecgphaaGreat
set_option linter.unusedSimpArgs false
set_option linter.unusedVariables false
open Go
theorem then_inv {α β : Type} {m : Out α} {f : α → Dev → Out β} {b : β} {s' : Dev} (h : m.then f = .ok b s') : ∃ a s1, m = .ok a s1 ∧ f a s1 = .ok b s' := by
  cases m with
  | ok a s1 => exact ⟨a, s1, rfl, h⟩
  | off s => cases h
theorem store_u64 {s s' : Dev} {i v a : Int} (h : U64 s) (hv : 0 ≤ v ∧ v < 18446744073709551616) (e : s.store i v = .ok a s') : U64 s' ∧ s'.n = s.n := by
  unfold Dev.store at e
  split at e
  · cases e; exact ⟨h, rfl⟩
  · split at e
    · cases e
    · cases e
      refine ⟨fun x => ?_, rfl⟩
      show 0 ≤ upd s.now i.toNat v x ∧ upd s.now i.toNat v x < _
      unfold upd
      split
      · exact hv
      · exact h x
theorem flush_u64 {s s' : Dev} {i a : Int} (h : U64 s) (e : s.flush i = .ok a s') : U64 s' ∧ s'.n = s.n := by
  unfold Dev.flush at e
  split at e
  · cases e; exact ⟨h, rfl⟩
  · split at e
    · cases e
    · cases e; exact ⟨h, rfl⟩
theorem fence_u64 {s s' : Dev} {a : Unit} (h : U64 s) (e : s.fence = .ok a s') : U64 s' ∧ s'.n = s.n := by
  unfold Dev.fence at e
  split at e
  · cases e
  · cases e; exact ⟨h, rfl⟩
theorem append_u64 {L L' : LogS} {s s' : Dev} {i a : Int} (hL : LogW L) (h : U64 s) (hn : s.n ≤ 1000000) (e : L.append s i = .ok (a, L') s') : U64 s' ∧ s'.n = s.n := by
  have hl1 := hL.e1
  have hl2 := hL.e2
  have hl3 := hL.n1
  have hl4 := hL.n2
  have hl5 := hL.c.l2
  have hld := h.load
  unfold LogS.append at e
  split at e
  · cases e; exact ⟨h, rfl⟩
  split at e
  · cases e; exact ⟨h, rfl⟩
  obtain ⟨a1, s1, e1, e⟩ := then_inv e
  have h1 := store_u64 h ⟨by omega, by omega⟩ e1
  obtain ⟨a2, s2, e2, e⟩ := then_inv e
  have h2 := store_u64 h1.1 (h1.1.load i) e2
  obtain ⟨a3, s3, e3, e⟩ := then_inv e
  have h3 := flush_u64 h2.1 e3
  obtain ⟨a4, s4, e4, e⟩ := then_inv e
  have h4 := fence_u64 h3.1 e4
  obtain ⟨a5, s5, e5, e⟩ := then_inv e
  have h5 := store_u64 h4.1 (by unfold stampI; omega) e5
  obtain ⟨a6, s6, e6, e⟩ := then_inv e
  have h6 := flush_u64 h5.1 e6
  obtain ⟨a7, s7, e7, e⟩ := then_inv e
  have h7 := fence_u64 h6.1 e7
  cases e
  exact ⟨h7.1, by rw [h7.2, h6.2, h5.2, h4.2, h3.2, h2.2, h1.2]⟩
theorem sstore_u64 {S S' : SecS} {s s' : Dev} {i v a : Int} (hS : SecW S) (h : U64 s) (hn : s.n ≤ 1000000) (hv : 0 ≤ v ∧ v < 18446744073709551616) (e : S.store s i v = .ok (a, S') s') : U64 s' ∧ s'.n = s.n := by
  unfold SecS.store at e
  split at e
  · cases e; exact ⟨h, rfl⟩
  · split at e
    · obtain ⟨⟨x1, x2⟩, t, e1, e⟩ := then_inv e
      have h1 := append_u64 hS.L h hn e1
      split at e
      · cases e; exact h1
      · obtain ⟨y, u, e2, e⟩ := then_inv e
        have h2 := store_u64 h1.1 hv e2
        cases e; exact ⟨h2.1, by rw [h2.2, h1.2]⟩
    · obtain ⟨y, u, e2, e⟩ := then_inv e
      have h2 := store_u64 h hv e2
      cases e; exact h2
/-- A device stores. -/
theorem storeD (B : World) (bd be : Nat) : StoreF B 70 [ptr bd] bd be Unit (fun _ _ => pr True) (fun i v s _ => (s.store i v).then fun a s' => .ok (a, ()) s') (fun s _ => U64 s) where
  enter := Tryz.call70
  u64 := fun _ _ h => h
  says := fun Fr i v s e hok w hh => by
    refine (nstore_ok B Fr bd s i v w (hh.front 1 rfl).tail).mono fun en w' h => ?_
    cases en with
    | returned rv =>
      obtain ⟨H, ⟨s', ⟨a, hm, rfl⟩, rfl⟩, hh⟩ := h
      exact ⟨_, ⟨a, (), s', by rw [hm]; rfl, rfl, rfl⟩, (hh.unpr (p := True) trivial).back 1 (by simp)⟩
    | panicked c =>
      obtain ⟨H, ⟨s', ⟨hm, rfl⟩, rfl⟩, hh⟩ := h
      exact ⟨_, ⟨s', by rw [hm]; rfl, rfl, rfl⟩, hh⟩
    | outgrown => exact h
  keeps := fun i v s e a e' s' hok hv hm => by
    obtain ⟨a1, s1, e1, hm⟩ := then_inv hm
    cases hm
    exact (store_u64 hok hv e1).1
/-- An open section stores. -/
theorem storeS (B : World) (bd bs : Nat) (c : Cfg) : StoreF B 77 [ptr bs] bd bs SecS (fun b S => SecO b S) (fun i v s S => S.store s i v) (fun s S => U64 s ∧ s.n ≤ 1000000 ∧ SecW S ∧ S.L.d = bd ∧ S.L.c = c) where
  enter := Tryz.call77
  u64 := fun _ _ h => h.1
  says := fun Fr i v s S hok w hh => by
    obtain ⟨h1, h2, h3, rfl, h5⟩ := hok
    refine (sstoreO_ok B Fr bs S s h3 i v w (hh.front 1 rfl)).mono fun en w' h => ?_
    cases en with
    | returned rv =>
      obtain ⟨H, ⟨a, S', s', hm, rfl, rfl⟩, hh⟩ := h
      exact ⟨_, ⟨a, S', s', hm, rfl, rfl⟩, hh.front 1 rfl⟩
    | panicked c =>
      obtain ⟨H, ⟨s', hm, rfl, rfl⟩, hh⟩ := h
      exact ⟨_, ⟨s', hm, rfl, rfl⟩, hh⟩
    | outgrown => exact h
  keeps := fun i v s S a S' s' hok hv hm => by
    have h1 := sstore_u64 hok.2.2.1 hok.1 hok.2.1 hv hm
    have h2 := store_dc hm
    have hc := hok.2.2.1.L.c.act
    exact ⟨h1.1, by rw [h1.2]; exact hok.2.1, store_w hok.2.2.1 hok.2.1 (by have := hok.2.2.1.L.c.l1; have := hok.2.2.1.L.c.r1; omega) hm (store_lw hok.2.2.1.L hm), by rw [h2.1]; exact hok.2.2.2.1, by rw [h2.2.1]; exact hok.2.2.2.2⟩

theorem owrite_ok (B : World) (Fr : List HP) (f : FuncId) (fi : List Value) (bd be : Nat) (ε : Type) (ExA : Nat → ε → HP) (op : Int → Int → Dev → ε → Out (Int × ε)) (ok : Dev → ε → Prop) (hS : StoreF B f fi bd be ε ExA op ok) (o : Obj3) (ho : ObjW o) (i v : Int) (hv : 0 ≤ v ∧ v < 18446744073709551616) (s : Dev) (e : ε) (hok : ok s e) :
    ∀ w_, Holds B (DevA bd s :: ExA be e :: Fr) w_ → Calls Tryz.prog 150 [objV o, i64 i, w64 v, .func (.func f) fi.toArray #[]].toArray w_ (Ret B (fun rv H' => ∃ x e' s', setM op o i false v s e = .ok (x, e') s' ∧ rv = i64 x ∧ ok s' e' ∧ H' = DevA bd s' :: ExA be e' :: Fr) (fun ch H' => ∃ s', setM op o i false v s e = .off s' ∧ ch = offc ∧ H' = DevA bd s' :: Fr)) := by
  refine fn_enter Tryz.func150 rfl Tryz.ntmps150 rfl ?_; refine g_seq ?_; refine g_region ?_; refine p_chg rfl (ch_boxA rfl) .free rfl rfl ?_
  rintro _ _ ⟨b4, rfl, rfl⟩
  refine kPa rfl rfl ?_; refine p_nil ?_; refine g_seq ?_; refine g_region ?_; refine kPv (ev_loadA Tryz.isAgg89 Tryz.sizeOf89 rfl rfl) rfl ?_; refine kPm rfl rfl ?_; refine p_callq rfl (en_f Tryz.call104 rfl) (field_ok _ _ o ho _ _) .free rfl rfl ?_; refine kPm rfl rfl ?_; refine kPv (ev_ext rfl rfl) rfl ?_; refine kPv (ev_ext rfl rfl) rfl ?_; refine kPa rfl rfl ?_; refine kPa rfl rfl ?_; refine p_nil ?_
  refine go_sub (σ' := [(10, _), (9, _), (8, _), (2, _), (3, _)]) ⟨rfl, rfl, rfl, rfl, rfl, trivial⟩ ?_; refine g_seq ?_; refine g_seq ?_; refine g_region ?_; refine kPm rfl rfl ?_; refine kPv (ev_cmp rfl rfl rfl) rfl ?_; refine p_nil ?_
  refine g_if rfl (fun h18 => ?_) (fun h18 => ?_)
  · have hk : (objField o i false).2 ≠ 0 := by simpa using h18
    refine g_seq ?_; refine g_region ?_; refine kPm rfl rfl ?_; refine kPa rfl rfl ?_; refine p_nil ?_; refine g_ret ?_
    exact ret_tmp Tryz.results150 rfl (fun w_ hh => ⟨_, ⟨_, e, s, by unfold setM; rw [if_pos hk], rfl, hok, rfl⟩, hh.tail⟩)
  · have hk : ¬ (objField o i false).2 ≠ 0 := by simpa using h18
    refine g_skip ?_; refine g_seq ?_; refine g_region ?_; refine kPm rfl rfl ?_; refine kPm rfl rfl ?_; refine kPm rfl rfl ?_; refine go_pull ExA be ?_; refine go_pull DevA bd ?_
    refine p_call rfl (en_c hS.enter rfl rfl) (hS.says _ _ _ _ _ hok) .free rfl rfl ?_ ?_
    rotate_left
    · rintro _ _ ⟨s9, hm9, rfl, rfl⟩
      exact pan_fn fun w hh => ⟨_, ⟨s9, by unfold setM; rw [if_neg hk]; exact hm9, rfl, rfl⟩, (hh.front 1 rfl).tail⟩
    rintro _ _ ⟨a1, e1, s1, hm1, rfl, rfl⟩
    have hok1 := hS.keeps _ _ _ _ _ _ _ hok ⟨by omega, by omega⟩ hm1
    refine kPa rfl rfl ?_; refine p_nil ?_; refine go_sub (σ' := [(8, _)]) ⟨rfl, trivial⟩ ?_; refine g_ret ?_
    exact ret_tmp Tryz.results150 rfl (fun w_ hh => ⟨_, ⟨_, e1, s1, by unfold setM; rw [if_neg hk]; exact hm1, rfl, hok1, rfl⟩, (hh.front 2 rfl).tail⟩)

theorem opoint_ok (B : World) (Fr : List HP) (f : FuncId) (fi : List Value) (bd be : Nat) (ε : Type) (ExA : Nat → ε → HP) (op : Int → Int → Dev → ε → Out (Int × ε)) (ok : Dev → ε → Prop) (hS : StoreF B f fi bd be ε ExA op ok) (o : Obj3) (ho : ObjW o) (i v : Int) (hv : 0 ≤ v ∧ v ≤ 9223372036854775807) (s : Dev) (e : ε) (hok : ok s e) :
    ∀ w_, Holds B (DevA bd s :: ExA be e :: Fr) w_ → Calls Tryz.prog 69 [objV o, i64 i, i64 v, .func (.func f) fi.toArray #[]].toArray w_ (Ret B (fun rv H' => ∃ x e' s', setM op o i true v s e = .ok (x, e') s' ∧ rv = i64 x ∧ ok s' e' ∧ H' = DevA bd s' :: ExA be e' :: Fr) (fun ch H' => ∃ s', setM op o i true v s e = .off s' ∧ ch = offc ∧ H' = DevA bd s' :: Fr)) := by
  refine fn_enter Tryz.func69 rfl Tryz.ntmps69 rfl ?_; refine g_seq ?_; refine g_region ?_; refine p_chg rfl (ch_boxA rfl) .free rfl rfl ?_
  rintro _ _ ⟨b4, rfl, rfl⟩
  refine kPa rfl rfl ?_; refine p_nil ?_; refine g_seq ?_; refine g_region ?_; refine kPv (ev_loadA Tryz.isAgg89 Tryz.sizeOf89 rfl rfl) rfl ?_; refine kPm rfl rfl ?_; refine p_callq rfl (en_f Tryz.call104 rfl) (field_ok _ _ o ho _ _) .free rfl rfl ?_; refine kPm rfl rfl ?_; refine kPv (ev_ext rfl rfl) rfl ?_; refine kPv (ev_ext rfl rfl) rfl ?_; refine kPa rfl rfl ?_; refine kPa rfl rfl ?_; refine p_nil ?_
  refine go_sub (σ' := [(10, _), (9, _), (8, _), (2, _), (3, _)]) ⟨rfl, rfl, rfl, rfl, rfl, trivial⟩ ?_; refine g_seq ?_; refine g_seq ?_; refine g_region ?_; refine kPm rfl rfl ?_; refine kPv (ev_cmp rfl rfl rfl) rfl ?_; refine p_nil ?_
  refine g_if rfl (fun h18 => ?_) (fun h18 => ?_)
  · have hk : (objField o i true).2 ≠ 0 := by simpa using h18
    refine g_seq ?_; refine g_region ?_; refine kPm rfl rfl ?_; refine kPa rfl rfl ?_; refine p_nil ?_; refine g_ret ?_
    exact ret_tmp Tryz.results69 rfl (fun w_ hh => ⟨_, ⟨_, e, s, by unfold setM; rw [if_pos hk], rfl, hok, rfl⟩, hh.tail⟩)
  · have hk : ¬ (objField o i true).2 ≠ 0 := by simpa using h18
    refine g_skip ?_; refine g_seq ?_; refine g_region ?_; refine kPm rfl rfl ?_; refine kPm rfl rfl ?_; refine kPm rfl rfl ?_; refine kPv (ev_conv Tryz.runUnderlying3 Tryz.runUnderlying52 rfl (wru64 (by omega))) rfl ?_; refine go_pull ExA be ?_; refine go_pull DevA bd ?_
    refine p_call rfl (en_c hS.enter rfl rfl) (hS.says _ _ _ _ _ hok) .free rfl rfl ?_ ?_
    rotate_left
    · rintro _ _ ⟨s9, hm9, rfl, rfl⟩
      exact pan_fn fun w hh => ⟨_, ⟨s9, by unfold setM; rw [if_neg hk]; exact hm9, rfl, rfl⟩, (hh.front 1 rfl).tail⟩
    rintro _ _ ⟨a1, e1, s1, hm1, rfl, rfl⟩
    have hok1 := hS.keeps _ _ _ _ _ _ _ hok ⟨by omega, by omega⟩ hm1
    refine kPa rfl rfl ?_; refine p_nil ?_; refine go_sub (σ' := [(8, _)]) ⟨rfl, trivial⟩ ?_; refine g_ret ?_
    exact ret_tmp Tryz.results69 rfl (fun w_ hh => ⟨_, ⟨_, e1, s1, by unfold setM; rw [if_neg hk]; exact hm1, rfl, hok1, rfl⟩, (hh.front 2 rfl).tail⟩)

end Go.Proofs.YtbfheafpecgphaaGreat
