/- Part of the texts beneath a law: what its proof names. Conditions: none. -/
import Derived.Test.YtbfheafpecgphaaGreatQL15Km
set_option linter.unusedSimpArgs false
set_option linter.unusedVariables false
set_option linter.unnecessarySimpa false
set_option linter.unusedSectionVars false
namespace Go.Proofs.YtbfheafpecgphaaGreat
open Go
def chc (bits : Int) (i : Nat) : Int := IntKind.u8.wrap (bitI .and .u64 (bits.fdiv (2 ^ min (2 * ((i : Int) % 32)).toNat IntKind.u64.bits)) 3)
theorem chc_pos (bits : Int) (i : Nat) : 0 ≤ chc bits i := by
  unfold chc
  simp only [IntKind.wrap, IntKind.bits, IntKind.signed]; simp; omega
theorem choice_ok (B : World) (H : List HP) (bits : Int) (i : Nat) (hi : i ≤ 1000000) :
    ∀ w, Holds B H w → Calls Tryz.prog 25 [w64 bits, i64 i].toArray w (PureR B H (.int .u8 (chc bits i))) := by
  refine fn_enter Tryz.func25 rfl Tryz.ntmps25 rfl ?_; refine g_seq ?_; refine g_region ?_; refine kPa rfl rfl ?_; refine p_nil ?_; refine g_seq ?_; refine g_region ?_; refine kPm rfl rfl ?_; refine kPm rfl rfl ?_; refine kPv (ev_rem (c := (i : Int) % 32) rfl rfl (by decide) (rem_e 32 (by omega))) rfl ?_
  first | refine p_val rfl (ev_mul rfl rfl (wr64 (by omega))) .free rfl rfl ?_ | refine p_val rfl (ev_mul rfl rfl rfl) .free rfl rfl ?_
  refine kPv (ev_shr rfl rfl (by omega) rfl) rfl ?_; refine kPv (ev_and rfl rfl rfl) rfl ?_
  first | refine p_val rfl (ev_conv Tryz.runUnderlying52 Tryz.runUnderlying5 rfl (wru8 (by omega))) .free rfl rfl ?_ | refine p_val rfl (ev_conv Tryz.runUnderlying52 Tryz.runUnderlying5 rfl rfl) .free rfl rfl ?_
  refine kPa rfl rfl ?_; refine p_nil ?_; refine go_sub (σ' := [(4, _)]) ⟨rfl, trivial⟩ ?_; refine g_ret ?_
  exact ret_tmp Tryz.results25 rfl (fun w hw => ⟨rfl, hw⟩)
theorem ins_ers {α : Type} {x : α} : ∀ {l : List α} {i : Nat}, l[i]? = some x → (l.eraseIdx i).insertIdx i x = l
  | [], _, h => by simp at h
  | y :: l, 0, h => by simp at h; subst h; rfl
  | y :: l, i + 1, h => by
    have h1 : l[i]? = some x := by simpa using h
    show (y :: l.eraseIdx i).insertIdx (i + 1) x = y :: l
    rw [List.insertIdx_succ_cons, ins_ers h1]
theorem pure_front {B : World} {P : Program} {f : FuncId} {vs : Array Value} {v : Value} {H : List HP} {A : HP} (i : Nat) (e : H[i]? = some A) (h : ∀ w, Holds B (A :: H.eraseIdx i) w → Calls P f vs w (PureR B (A :: H.eraseIdx i) v)) : ∀ w, Holds B H w → Calls P f vs w (PureR B H v) :=
  fun w hw => (h w (hw.front i e)).mono fun _ _ ⟨h1, h2⟩ => ⟨h1, by
    have hi : i < H.length := (List.getElem?_eq_some_iff.1 e).1
    have h3 := h2.back i (by rw [List.length_eraseIdx]; split <;> omega)
    rwa [ins_ers e] at h3⟩
theorem fkeepsCh_ok (B : World) (H : List HP) (bb : Nat) (bits : Int) (i : Nat) (hi : i ≤ 1000000) :
    ∀ w, Holds B (row bb [w64 bits] 52 :: H) w → Calls Tryz.prog 24 [i64 i, ptr bb].toArray w (PureR B (row bb [w64 bits] 52 :: H) (.int .u8 (chc bits i))) := by
  refine fn_enter Tryz.func24 rfl Tryz.ntmps24 rfl ?_; refine g_seq ?_; refine g_region ?_; refine kPa rfl rfl ?_; refine p_nil ?_; refine g_seq ?_; refine g_region ?_; refine kPv (ev_load Tryz.isAgg52 rfl rfl) rfl ?_; refine kPm rfl rfl ?_; refine p_callq rfl (en_f Tryz.call25 rfl) (choice_ok _ _ bits i hi) .free rfl rfl ?_; refine kPa rfl rfl ?_; refine p_nil ?_; refine g_ret ?_
  exact ret_tmp Tryz.results24 rfl (fun w hw => ⟨rfl, hw⟩)
theorem fkeepsCh_c (B : World) (Fr : List HP) (j n bb : Nat) (bits : Int) (hn : n ≤ 1000000) (hj : Fr[j]? = some (row bb [w64 bits] 52)) : Chooses B Fr 24 [ptr bb] n (chc bits) where
  enter := Tryz.call24
  pos := chc_pos bits
  says := fun H hF i hi => by
    obtain ⟨l, rfl⟩ := hF.ex
    exact pure_front (l.length + j) (by rw [List.getElem?_append_right (by omega), Nat.add_sub_cancel_left]; exact hj) (fkeepsCh_ok B _ bb bits i (by omega))
end Go.Proofs.YtbfheafpecgphaaGreat
