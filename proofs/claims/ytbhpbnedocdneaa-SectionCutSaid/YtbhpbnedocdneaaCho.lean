/- Choices: what a crash keeps, by the bits of a number. Conditions: none. -/
import Derived.Test.YtbhpbnedocdneaaHlp
set_option linter.unusedSimpArgs false
set_option linter.unusedVariables false
set_option linter.unnecessarySimpa false
set_option linter.unusedSectionVars false
namespace Go.Proofs.Ytbhpbnedocdneaa
set_option linter.unusedSimpArgs false
set_option linter.unusedVariables false
open Go
def chc (bits : Int) (i : Nat) : Int := IntKind.u8.wrap (bitI .and .u64 (bits.fdiv (2 ^ min (2 * ((i : Int) % 32)).toNat IntKind.u64.bits)) 3)
theorem chc_pos (bits : Int) (i : Nat) : 0 ≤ chc bits i := by
  unfold chc
  simp only [IntKind.wrap, IntKind.bits, IntKind.signed]; simp; omega

theorem choice_ok (B : World) (H : List HP) (bits : Int) (i : Nat) (hi : i ≤ 1000000) :
    ∀ w, Holds B H w → Calls Try.prog 25 [w64 bits, i64 i].toArray w (PureR B H (.int .u8 (chc bits i))) := by
  refine fn_enter Try.func25 rfl Try.ntmps25 rfl ?_
  refine g_seq ?_
  refine g_region ?_
  refine p_val rfl (ev_assign rfl) .free rfl rfl ?_
  refine p_nil ?_
  refine g_seq ?_
  refine g_region ?_
  refine p_val rfl (ev_move rfl) .free rfl rfl ?_
  refine p_val rfl (ev_move rfl) .free rfl rfl ?_
  refine p_val rfl (ev_rem (c := (i : Int) % 32) rfl rfl (by decide) (rem_e 32 (by omega))) .free rfl rfl ?_
  first | refine p_val rfl (ev_mul rfl rfl (wr64 (by omega))) .free rfl rfl ?_ | refine p_val rfl (ev_mul rfl rfl rfl) .free rfl rfl ?_
  refine p_val rfl (ev_shr rfl rfl (by omega) rfl) .free rfl rfl ?_
  refine p_val rfl (ev_and rfl rfl rfl) .free rfl rfl ?_
  first | refine p_val rfl (ev_conv Try.runUnderlying46 Try.runUnderlying5 rfl (wru8 (by omega))) .free rfl rfl ?_ | refine p_val rfl (ev_conv Try.runUnderlying46 Try.runUnderlying5 rfl rfl) .free rfl rfl ?_
  refine p_val rfl (ev_assign rfl) .free rfl rfl ?_
  refine p_nil ?_
  refine go_sub (σ' := [(4, _)]) ⟨rfl, trivial⟩ ?_
  refine g_ret ?_
  exact ret_tmp Try.results25 rfl (fun w hw => ⟨rfl, hw⟩)


theorem ins_ers {α : Type} {x : α} : ∀ {l : List α} {i : Nat}, l[i]? = some x → (l.eraseIdx i).insertIdx i x = l
  | [], _, h => by simp at h
  | y :: l, 0, h => by simp at h; subst h; rfl
  | y :: l, i + 1, h => by
    have h1 : l[i]? = some x := by simpa using h
    show (y :: l.eraseIdx i).insertIdx (i + 1) x = y :: l
    rw [List.insertIdx_succ_cons, ins_ers h1]
theorem pure_front {B : World} {P : Program} {f : FuncId} {vs : Array Value} {v : Value} {H : List HP} {A : HP} (i : Nat) (e : H[i]? = some A) (h : ∀ w, Holds B (A :: H.eraseIdx i) w → Calls P f vs w (PureR B (A :: H.eraseIdx i) v)) : ∀ w, Holds B H w → Calls P f vs w (PureR B H v) :=
  fun w hw => (h w (hw.front i e)).mono fun _ _ ⟨h1, h2⟩ => ⟨h1, by
    have hi : i < H.length := (List.getElem?_eq_some_iff.1 e).1
    have h3 := h2.back i (by rw [List.length_eraseIdx]; split <;> omega)
    rwa [ins_ers e] at h3⟩

theorem rowsCh_ok (B : World) (H : List HP) (bb : Nat) (bits : Int) (i : Nat) (hi : i ≤ 1000000) :
    ∀ w, Holds B (row bb [w64 bits] 46 :: H) w → Calls Try.prog 24 [i64 i, ptr bb].toArray w (PureR B (row bb [w64 bits] 46 :: H) (.int .u8 (chc bits i))) := by
  refine fn_enter Try.func24 rfl Try.ntmps24 rfl ?_
  refine g_seq ?_
  refine g_region ?_
  refine p_val rfl (ev_assign rfl) .free rfl rfl ?_
  refine p_nil ?_
  refine g_seq ?_
  refine g_region ?_
  refine p_val rfl (ev_load Try.isAgg46 rfl rfl) .free rfl rfl ?_
  refine p_val rfl (ev_move rfl) .free rfl rfl ?_
  refine p_callq rfl (en_f Try.call25 rfl) (choice_ok _ _ bits i hi) .free rfl rfl ?_
  refine p_val rfl (ev_assign rfl) .free rfl rfl ?_
  refine p_nil ?_
  refine g_ret ?_
  exact ret_tmp Try.results24 rfl (fun w hw => ⟨rfl, hw⟩)

theorem rowsCh_c (B : World) (Fr : List HP) (j n bb : Nat) (bits : Int) (hn : n ≤ 1000000) (hj : Fr[j]? = some (row bb [w64 bits] 46)) : Chooses B Fr 24 [ptr bb] n (chc bits) where
  enter := Try.call24
  pos := chc_pos bits
  says := fun H hF i hi => by
    obtain ⟨l, rfl⟩ := hF.ex
    exact pure_front (l.length + j) (by rw [List.getElem?_append_right (by omega), Nat.add_sub_cancel_left]; exact hj) (rowsCh_ok B _ bb bits i (by omega))

theorem keepsCh_ok (B : World) (H : List HP) (bb : Nat) (bits : Int) (i : Nat) (hi : i ≤ 1000000) :
    ∀ w, Holds B (row bb [w64 bits] 46 :: H) w → Calls Try.prog 30 [i64 i, ptr bb].toArray w (PureR B (row bb [w64 bits] 46 :: H) (.int .u8 (chc bits i))) := by
  refine fn_enter Try.func30 rfl Try.ntmps30 rfl ?_
  refine g_seq ?_
  refine g_region ?_
  refine p_val rfl (ev_assign rfl) .free rfl rfl ?_
  refine p_nil ?_
  refine g_seq ?_
  refine g_region ?_
  refine p_val rfl (ev_load Try.isAgg46 rfl rfl) .free rfl rfl ?_
  refine p_val rfl (ev_move rfl) .free rfl rfl ?_
  refine p_callq rfl (en_f Try.call25 rfl) (choice_ok _ _ bits i hi) .free rfl rfl ?_
  refine p_val rfl (ev_assign rfl) .free rfl rfl ?_
  refine p_nil ?_
  refine g_ret ?_
  exact ret_tmp Try.results30 rfl (fun w hw => ⟨rfl, hw⟩)

theorem keepsCh_c (B : World) (Fr : List HP) (j n bb : Nat) (bits : Int) (hn : n ≤ 1000000) (hj : Fr[j]? = some (row bb [w64 bits] 46)) : Chooses B Fr 30 [ptr bb] n (chc bits) where
  enter := Try.call30
  pos := chc_pos bits
  says := fun H hF i hi => by
    obtain ⟨l, rfl⟩ := hF.ex
    exact pure_front (l.length + j) (by rw [List.getElem?_append_right (by omega), Nat.add_sub_cancel_left]; exact hj) (keepsCh_ok B _ bb bits i (by omega))

theorem cutCh_ok (B : World) (H : List HP) (bb : Nat) (bits : Int) (i : Nat) (hi : i ≤ 1000000) :
    ∀ w, Holds B (row bb [w64 bits] 46 :: H) w → Calls Try.prog 37 [i64 i, ptr bb].toArray w (PureR B (row bb [w64 bits] 46 :: H) (.int .u8 (chc bits i))) := by
  refine fn_enter Try.func37 rfl Try.ntmps37 rfl ?_
  refine g_seq ?_
  refine g_region ?_
  refine p_val rfl (ev_assign rfl) .free rfl rfl ?_
  refine p_nil ?_
  refine g_seq ?_
  refine g_region ?_
  refine p_val rfl (ev_load Try.isAgg46 rfl rfl) .free rfl rfl ?_
  refine p_val rfl (ev_move rfl) .free rfl rfl ?_
  refine p_callq rfl (en_f Try.call25 rfl) (choice_ok _ _ bits i hi) .free rfl rfl ?_
  refine p_val rfl (ev_assign rfl) .free rfl rfl ?_
  refine p_nil ?_
  refine g_ret ?_
  exact ret_tmp Try.results37 rfl (fun w hw => ⟨rfl, hw⟩)

theorem cutCh_c (B : World) (Fr : List HP) (j n bb : Nat) (bits : Int) (hn : n ≤ 1000000) (hj : Fr[j]? = some (row bb [w64 bits] 46)) : Chooses B Fr 37 [ptr bb] n (chc bits) where
  enter := Try.call37
  pos := chc_pos bits
  says := fun H hF i hi => by
    obtain ⟨l, rfl⟩ := hF.ex
    exact pure_front (l.length + j) (by rw [List.getElem?_append_right (by omega), Nat.add_sub_cancel_left]; exact hj) (cutCh_ok B _ bb bits i (by omega))

end Go.Proofs.Ytbhpbnedocdneaa
