/- Part of the texts beneath a law: what its proof names. Conditions: none. -/
import Derived.Test.YtbfheafpecgphaaGreatQL15Kl
import Derived.ProofKit
import Derived.OpenShut
import Derived.ChangeOld
import Derived.Below
import Derived.ChangeSlices
import Derived.Deep.Grids
import Derived.Deep.Strs
import Derived.ChangeSame
set_option linter.unusedSimpArgs false
set_option linter.unusedVariables false
set_option linter.unnecessarySimpa false
set_option linter.unusedSectionVars false
namespace Go.Proofs.YtbfheafpecgphaaGreat
open Go
def hs2 : List (Int × Int) := [(0, 1), (0, 2)]
theorem hh2 : ∀ h ∈ [((0 : Int), (1 : Int)), (0, 2)], (0 ≤ h.1 ∧ h.1 < 256) ∧ (0 ≤ h.2 ∧ h.2 < 256) := fun h hm => by
  simp only [List.mem_cons, List.not_mem_nil, or_false] at hm
  rcases hm with rfl | rfl <;> exact ⟨by decide, by decide⟩
theorem sln2 {B : World} {H : List HP} {b : Nat} {x y z u : Value} {T1 : TypeId} {U : List Value → List HP} [RowU H b [x, y, z, u] T1 U] {cap : Nat} : SlN B H (.slice (some ⟨b, 0, none⟩) 2 cap) 2 [[x, y], [z, u]] :=
  SlN.row (cs := [[x, y], [z, u]]) fun i c h => by
    cases i with
    | zero =>
      cases h
      refine ⟨rfl, fun j hj => ?_⟩
      rcases j with _ | _ | j
      · rfl
      · rfl
      · omega
    | succ i =>
      cases i with
      | zero =>
        cases h
        refine ⟨rfl, fun j hj => ?_⟩
        rcases j with _ | _ | j
        · rfl
        · rfl
        · omega
      | succ i => cases h
theorem ch_bsG2 {α : Type} {B : World} {σ : Env} {H : List HP} {P : Program} {m : Nat} {enc : α → List Value} (he : EncW m enc) {d : Option Tmp} {ty : TypeId} {p : String} {af : Array Edge} {g : Option (Nat × Bool)} {t e : TypeId} {x y : Operand} {v u : α} {xv yv z : Value} (ht : ∀ w, (underlying t).run P w = .ok (.slice e) w) (hs : ∀ w, (sizeOf e).run P w = .ok m w) (hz : ∀ w, (zeroValue e).run P w = .ok z w) (hm0 : (0 < m ∧ m ≤ 1000) ∧ z.cells.size = m) (hx : evO σ x = some xv) (hv : xv.cells = (enc v).toArray) (hy : evO σ y = some yv) (hu : yv.cells = (enc u).toArray) :
    Chg P B σ H ⟨d, .buildSlice t 2 #[(0, x), (1, y)], ty, p, af, g⟩ (fun r H' => ∃ b, r = .slice (some ⟨b, 0, none⟩) 2 2 ∧ H' = row b (enc v ++ enc u) e :: H) := by
  intro a w kn hh
  refine ⟨.value (.slice (some ⟨w.heap.size, 0, none⟩) 2 2), { w with heap := w.heap.push (.cells (enc v ++ enc u).toArray e) }, ?_, _, .inl rfl, _, ⟨_, rfl, rfl⟩, by simpa [row] using hh.new _⟩
  have h1 : m ≠ 0 := by omega
  have h2 : ¬ 16777216 < 2 * m := by omega
  have hl : (enc v).length = m := he.len v
  have hl2 : (enc u).length = m := he.len u
  have key : ∀ (k : Nat) (vs : List Value) (a : Array Value) (j : Nat), k + vs.length ≤ a.size → (List.foldl (fun (cs : Array Value) (x : Value × Nat) => cs.setIfInBounds (k + x.2) x.1) a vs.zipIdx)[j]? = if k ≤ j ∧ j < k + vs.length then vs[j - k]? else a[j]? := by
    intro k vs a j h
    have := foldl_get vs k a h j
    rw [← this]
    congr 1
    have hz : vs.zipIdx k = vs.zipIdx.map fun x => (x.1, k + x.2) := by
      apply List.ext_getElem?
      intro i
      simp [List.getElem?_zipIdx]
      cases vs[i]? <;> simp
    rw [hz, List.foldl_map]
  have hsz : ∀ (g : Nat → Nat) (l : List (Value × Nat)) (a : Array Value), (List.foldl (fun (cs : Array Value) (x : Value × Nat) => cs.setIfInBounds (g x.2) x.1) a l).size = a.size := by
    intro g l
    induction l with
    | nil => intro a; rfl
    | cons x l ih => intro a; rw [List.foldl_cons, ih]; simp
  simp [execOp, Instr.buildSlice, ht, hs, Instr.fill, run_newRow, hz, kn.eval hx, hv, kn.eval hy, hu, h1, h2, hl, hl2]
  generalize hA : Array.map (fun x => z.cells[x % z.cells.size]!) (Array.range (2 * m)) = A
  have hAs : A.size = 2 * m := by rw [← hA]; simp
  rw [if_neg (by omega), if_neg (by omega), if_neg (by rw [hsz (fun x => x) _ A]; omega)]
  generalize hF : List.foldl (fun (cs : Array Value) (x : Value × Nat) => cs.setIfInBounds x.snd x.fst) A (enc v).zipIdx = F
  have hFs : F.size = 2 * m := by rw [← hF, hsz (fun x => x) _ A]; exact hAs
  have hF2 : ∀ j, F[j]? = if j < m then (enc v)[j]? else A[j]? := fun j => by
    have := foldl_get (enc v) 0 A (by omega) j
    rw [← hF, this]
    simp [hl]
  have e9 : List.foldl (fun (cs : Array Value) (x : Value × Nat) => cs.setIfInBounds (m + x.snd) x.fst) F (enc u).zipIdx = (enc v ++ enc u).toArray := by
    apply Array.ext_getElem?
    intro j
    rw [key m (enc u) F j (by omega), hF2, show (enc v ++ enc u).toArray[j]? = (enc v ++ enc u)[j]? by simp, List.getElem?_append, hl, hl2]
    by_cases h3 : j < m
    · rw [if_neg (by omega), if_pos h3, if_pos h3]
    · rw [if_neg h3]
      by_cases h4 : j < m + m
      · rw [if_pos (by omega), if_neg h3]
      · rw [if_neg (by omega), if_neg h3, List.getElem?_eq_none (by omega), Array.getElem?_eq_none (by omega)]
  simp only [e9]
  rfl
theorem d13_eval (pa : Nat) : okB ((dev0 pa [] 136).format c48) (fun _ s => okB (fillN c48 [(0, 1), (0, 2)] s []) fun out sF => out == [40, 42] && blkIs (sF.block c48) ⟨0, 5, [0]⟩ 0 && okB (linkObjs c48 ⟨0, 5, [0]⟩ (pickL [] [40, 42] 0) [40, 42] 0 sF) fun n1 s1 => n1 == some 0 && okB (linkRoots c48 (pickL [] [40, 42] 0) 1 0 0 s1) fun _ s2 => blkIs (s2.block c48) ⟨0, 5, [0]⟩ 0 && s2.reachSize c48 ⟨0, 5, [0]⟩ [] == 0 && s2.reachSize c48 ⟨0, 5, [0]⟩ [42] == 3) = true := by kernel_rfl
theorem d14_eval (pa bd : Nat) : okB ((dev0 pa [] 136).format c48) (fun _ s => okB (fillN c48 [(0, 1)] s []) fun out sF => out == [40] && blkIs (sF.block c48) ⟨0, 2, [0]⟩ 0 && okB (linkObjs c48 ⟨0, 2, [0]⟩ (pickL [] [40] 0) [40] 0 sF) fun n1 s1 => n1 == some 0 && okB (linkRoots c48 (pickL [] [40] 0) 1 0 0 s1) fun _ s2 => blkIs (s2.block c48) ⟨0, 2, [0]⟩ 0 && okB ((newCol bd c48 ⟨0, 2, [0]⟩ [0]).step s2) fun r s3 => !r.1 && okB (r.2.step s3) fun r2 _ => r2.1 && blkIs (r2.2.block, 0) ⟨1, 0, [0]⟩ 0) = true := by kernel_rfl
def went1 (o : Option ColS) (w v : Int) : Bool := match o with
  | some X => (mget X.went w).getD 0 == v
  | none => false
theorem d15_eval (pa bd : Nat) : okB ((dev0 pa [] 136).format c48) (fun _ s => okB (fillN c48 [(0, 1), (0, 2)] s []) fun out sF => out == [40, 42] && blkIs (sF.block c48) ⟨0, 5, [0]⟩ 0 && okB (linkObjs c48 ⟨0, 5, [0]⟩ (pickL [] [40, 42] 0) [40, 42] 0 sF) fun n1 s1 => n1 == some 0 && okB (linkRoots c48 (pickL [] [40, 42] 0) 1 0 0 s1) fun _ s2 => blkIs (s2.block c48) ⟨0, 5, [0]⟩ 0 && (openL bd c48 s2).n == 0 && okB (collectM bd c48 ⟨openL bd c48 s2, 0, 0, [], []⟩ s2 [42]) fun r s3 => r.2.1 == 0 && went1 r.1 42 88 && blkIs (s3.block c48) ⟨1, 3, [0]⟩ 0) = true := by kernel_rfl
theorem awake12_ok (B : World) (Fr : List HP) :
    ∀ w, Holds B Fr w → Calls Tryz.prog 118 [].toArray w (PureR B Fr (.bool true)) := by
  refine fn_enter Tryz.func118 rfl Tryz.ntmps118 rfl ?_; refine g_seq ?_; refine g_region ?_; refine kPa rfl rfl ?_; refine p_nil ?_; refine g_seq ?_; refine g_seq ?_; refine g_region ?_; refine p_callq rfl (en_f Tryz.call126 rfl) (awake11_ok _ _) .free rfl rfl ?_; refine kPv (ev_not rfl) rfl ?_; refine p_nil ?_; refine g_iff rfl (rfl) ?_; refine g_skip ?_; refine g_seq ?_; refine g_region ?_; refine kPv (ev_build rfl (bld_30_0_1_2 _ _ _ rfl rfl rfl)) rfl ?_
  refine p_chg rfl (ch_allocA Tryz.zeroValue30 rfl) .free rfl rfl ?_
  rintro _ _ ⟨b1, rfl, rfl⟩
  refine p_chg0 rfl (ch_storeA (vs := _) Tryz.sizeOf30 rfl rfl rfl rfl rfl) .free rfl ?_
  rintro _ _ rfl
  refine p_nil ?_; refine g_seq ?_; refine g_region ?_; refine kPv (ev_loadA Tryz.isAgg30 Tryz.sizeOf30 rfl rfl) rfl ?_
  refine p_call rfl (en_f Tryz.call101 rfl) (formatted_ok _ _ ⟨3, 1, 8⟩ cfg1 none 0 [] (by decide) (fun _ h => absurd h (Nat.not_lt_zero _)) SlR.nil) .free rfl rfl ?_ ?_
  rotate_left
  · rintro _ _ ⟨⟩
  rintro _ _ ⟨bd, pa, N, s0, hN, hf, rfl, rfl⟩
  obtain rfl : N = 56 := by have : (N : Int) = 56 := hN.trans (by decide); omega
  have hfm := fmt_of cfg1 hN hf
  have hu0 := format_u64 (dev0_u64 pa 56) cfg1 hf
  have hev := okB_ok (d12_eval pa) hf
  simp only [Bool.and_eq_true, beq_iff_eq] at hev
  refine kPm rfl rfl ?_; refine kPv (ev_ext rfl rfl) rfl ?_; refine kPv (ev_ext rfl rfl) rfl ?_; refine kPa rfl rfl ?_; refine kPa rfl rfl ?_; refine p_nil ?_; refine go_sub (σ' := [(3, _), (2, _), (1, _), (0, _)]) ⟨rfl, rfl, rfl, rfl, trivial⟩ ?_; refine g_seq ?_; refine g_seq ?_; refine g_region ?_; refine kPm rfl rfl ?_; refine kPv (ev_not rfl) rfl ?_; refine kPm rfl rfl ?_; refine p_val rfl (ev_move rfl) (.on rfl rfl (beq_eq rfl)) rfl rfl ?_
  refine p_val rfl (ev_loadA Tryz.isAgg30 Tryz.sizeOf30 rfl rfl) (.on rfl rfl (beq_eq rfl)) rfl rfl ?_; refine p_callq rfl (en_f Tryz.call27 rfl) (ro_at (q := DevA) (fun Fr => ccheck_ok _ Fr _ s0 ⟨3, 1, 8⟩ cfg1 hu0)) (.on rfl rfl (beq_eq rfl)) rfl rfl ?_; refine p_val rfl (ev_cmp rfl rfl rfl) (.on rfl rfl (beq_eq rfl)) rfl rfl ?_; refine kPv (ev_pick_f rfl rfl rfl) rfl ?_; refine p_nil ?_; refine go_sub (σ' := [(19, _), (2, _), (1, _), (0, _)]) ⟨rfl, rfl, rfl, rfl, trivial⟩ ?_
  refine g_iff rfl (by rw [hev.1]; rfl) ?_
  refine g_skip ?_; refine g_seq ?_; refine g_region ?_; refine kPm rfl rfl ?_; refine kPv (ev_loadA Tryz.isAgg30 Tryz.sizeOf30 rfl rfl) rfl ?_; refine p_callq rfl (en_f Tryz.call71 rfl) (root_ok _ _ ⟨3, 1, 8⟩ cfg1 0 (by decide) (by decide)) .free rfl rfl ?_
  refine p_call rfl (en_f Tryz.call70 rfl) (nstoreL_ok _ _ bd s0 34 5 hfm.lim hu0 (by decide)) .free rfl rfl ?_ ?_
  rotate_left
  · rintro _ _ ⟨⟩
  rintro _ _ ⟨x1, s1, hm1, rfl, hl1, hn1, hu1, rfl⟩
  have hev2 := okB_ok hev.2 hm1
  simp only [beq_iff_eq] at hev2
  refine p_nil ?_; refine g_seq ?_; refine g_region ?_; refine kPm rfl rfl ?_; refine kPv (ev_loadA Tryz.isAgg30 Tryz.sizeOf30 rfl rfl) rfl ?_; refine p_callq rfl (en_f Tryz.call27 rfl) (ro_at (q := DevA) (fun Fr => ccheck_ok _ Fr _ s1 ⟨3, 1, 8⟩ cfg1 hu1)) .free rfl rfl ?_; refine kPv (ev_cmp rfl rfl rfl) rfl ?_; refine kPa rfl rfl ?_; refine p_nil ?_; refine go_sub (σ' := [(0, _)]) ⟨rfl, trivial⟩ ?_; refine g_ret ?_
  exact ret_tmp Tryz.results118 rfl (fun w hh => ⟨by rw [hev2]; rfl, (hh.dp [0, 0])⟩)
theorem awake13_ok (B : World) (Fr : List HP) :
    ∀ w, Holds B Fr w → Calls Tryz.prog 99 [].toArray w (PureR B Fr (.bool true)) := by
  refine fn_enter Tryz.func99 rfl Tryz.ntmps99 rfl ?_; refine g_seq ?_; refine g_region ?_; refine kPa rfl rfl ?_; refine p_nil ?_; refine g_seq ?_; refine g_seq ?_; refine g_region ?_; refine p_callq rfl (en_f Tryz.call118 rfl) (awake12_ok _ _) .free rfl rfl ?_; refine kPv (ev_not rfl) rfl ?_; refine p_nil ?_; refine g_iff rfl (rfl) ?_; refine g_skip ?_; refine g_seq ?_; refine g_region ?_; refine kPv (ev_build rfl (bld_24_2 _ rfl)) rfl ?_; refine kPv (ev_build rfl (bld_107_1 _ rfl)) rfl ?_
  refine kPv (ev_build rfl (bld_107_1 _ rfl)) rfl ?_; refine p_chg rfl (ch_bsG2 encH_w (v := (0, 1)) (u := (0, 2)) Tryz.runUnderlying25 Tryz.sizeOf107 Tryz.zeroValue107 ⟨⟨by decide, by decide⟩, rfl⟩ rfl rfl rfl rfl) .free rfl rfl ?_
  rintro _ _ ⟨b11, rfl, rfl⟩
  refine p_call rfl (en_f Tryz.call12 rfl) (linked_ok _ _ 0 0 40 ⟨by decide, by decide, by decide⟩ ⟨3, 1, 48⟩ mkC48 [(0, 1), (0, 2)] (hh2) (by decide) (some ⟨b11, 0, none⟩) _ sln2 none 0 [] SlR.nil (fun _ h => (by cases h)) (by decide) (fun _ h => absurd h (Nat.not_lt_zero _)) 0 (by decide)) .free rfl rfl ?_ ?_
  rotate_left
  · rintro _ _ ⟨⟩
  rintro _ _ ⟨bd, pa, N, s0, sF, out, hfm, hN, ⟨hus0, hf⟩, hfill, hor⟩
  obtain rfl := n48 hN
  have hev := okB_ok (okB_ok (d13_eval pa) hf) hfill
  simp only [Bool.and_eq_true, beq_iff_eq] at hev
  obtain ⟨⟨rfl, e1⟩, e2⟩ := hev
  rw [blkIs_eq e1] at hor
  rcases hor with ⟨n1, n2, s1, s2, ov, sv, hl1, hl2, hu2, hlm2, hn2, hov, hsv, rfl, rfl⟩ | ⟨s1, hl1, _⟩
  rotate_left
  · have e3 := okB_ok e2 hl1
    simp only [Bool.and_eq_true, beq_iff_eq] at e3
    exact absurd e3.1 (by simp)
  have e3 := okB_ok e2 hl1
  simp only [Bool.and_eq_true, beq_iff_eq] at e3
  obtain ⟨e4, e5⟩ := e3
  obtain rfl : n1 = 0 := by injection e4
  have e6 := okB_ok e5 hl2
  simp only [Bool.and_eq_true, beq_iff_eq] at e6
  obtain ⟨⟨e7, e8⟩, e9⟩ := e6
  rw [blkIs_eq e7]
  refine go_pk [2] ?_; refine go_vecq fun qo co hqo hqi => ?_
  subst hqo
  obtain ⟨bO, oO, rfl⟩ := hqi 0 (by decide)
  refine kPm rfl rfl ?_; refine kPv (ev_ext rfl rfl) rfl ?_; refine kPv (ev_ext rfl rfl) rfl ?_; refine kPv (ev_ext rfl rfl) rfl ?_; refine kPv (ev_ext rfl rfl) rfl ?_; refine p_chg rfl (ch_allocA Tryz.zeroValue30 rfl) .free rfl rfl ?_
  rintro _ _ ⟨b2, rfl, rfl⟩
  refine p_chg rfl (ch_allocA Tryz.zeroValue33 rfl) .free rfl rfl ?_
  rintro _ _ ⟨b3, rfl, rfl⟩
  refine kPa rfl rfl ?_; refine p_chg0 rfl (ch_storeA (vs := _) Tryz.sizeOf30 rfl rfl rfl rfl rfl) .free rfl ?_
  rintro _ _ rfl
  refine p_chg0 rfl (ch_storeA (vs := _) Tryz.sizeOf33 rfl rfl rfl (by first | rfl | exact all3 (by assumption)) rfl) .free rfl ?_
  rintro _ _ rfl
  refine kPa rfl rfl ?_; refine p_nil ?_; refine go_sub (σ' := [(4, _), (1, _), (3, _), (2, _), (0, _)]) ⟨rfl, rfl, rfl, rfl, rfl, trivial⟩ ?_; refine g_seq ?_; refine g_seq ?_; refine g_region ?_; refine kPm rfl rfl ?_; refine kPv (ev_eqp Tryz.runUnderlying28 rfl rfl rfl) rfl ?_; refine kPm rfl rfl ?_; refine p_val rfl (ev_move rfl) (.on rfl rfl (beq_eq rfl)) rfl rfl ?_; refine p_val rfl (ev_len rfl Tryz.runUnderlying34 ⟨_, rfl⟩ rfl) (.on rfl rfl (beq_eq rfl)) rfl rfl ?_
  refine p_val rfl (ev_cmp rfl rfl rfl) (.on rfl rfl (beq_eq rfl)) rfl rfl ?_; refine kPv (ev_pick_f rfl rfl rfl) rfl ?_; refine kPm rfl rfl ?_; refine p_val rfl (ev_move rfl) (.on rfl rfl (beq_eq rfl)) rfl rfl ?_; refine p_val rfl (ev_loadA Tryz.isAgg30 Tryz.sizeOf30 rfl rfl) (.on rfl rfl (beq_eq rfl)) rfl rfl ?_; refine p_val rfl (ev_loadA Tryz.isAgg33 Tryz.sizeOf33 rfl rfl) (.on rfl rfl (beq_eq rfl)) rfl rfl ?_
  refine p_call rfl (en_f Tryz.call119 rfl) (wfrom_ok _ _ bd ⟨3, 1, 48⟩ ⟨0, 5, [0]⟩ sv hsv (.slice none 0 0) rfl) (.on rfl rfl (beq_eq rfl)) rfl rfl ?_ ?_
  rotate_left
  · rintro _ _ ⟨⟩
  rintro _ _ ⟨c1, c2, c3, c4, rfl, rfl⟩
  refine p_val rfl (ev_eqfn Tryz.runUnderlying178 ⟨_, _, _, rfl⟩ rfl rfl rfl) (.on rfl rfl (beq_eq rfl)) rfl rfl ?_; refine kPv (ev_pick_f rfl rfl rfl) rfl ?_; refine p_nil ?_; refine go_sub (σ' := [(30, _), (4, _), (1, _), (3, _), (2, _), (0, _)]) ⟨rfl, rfl, rfl, rfl, rfl, rfl, trivial⟩ ?_; refine g_iff rfl (rfl) ?_; refine g_skip ?_; refine g_seq ?_
  refine go_conv (H' := DevA bd s2 :: VecA 3 i64 0 (.slice (some ⟨bO, oO, none⟩) 2 co, [40, 42]) :: row b3 [i64 0, i64 5, sv] 33 :: row b2 [i64 3, i64 1, i64 48] 30 :: VecU 0 (sv, [0]) :: Fr) (fun w hh => by have h := ((hh.dp [0, 0, 0, 0, 5]).pk [4, 2]); exact h) ?_
  refine g_drawv [0, 1, 2, 3, 4, 5, 6, 7, 8, 9, 10, 11, 12, 13, 14, 15, 16, 17] [3, 13, 14] [6, 7, 8] [13] [row b2 [i64 3, i64 1, i64 48] 30, row b3 [i64 0, i64 5, sv] 33, VecA 3 i64 0 (.slice (some ⟨bO, oO, none⟩) 2 co, [40, 42])] Tryz.mixed (by kernel_rfl) ?_; refine v_val rfl rfl rfl (ev_move rfl) .free rfl ?_; refine v_val rfl rfl rfl (ev_loadA Tryz.isAgg30 Tryz.sizeOf30 rfl rfl) .free rfl ?_; refine v_val rfl rfl rfl (ev_loadA Tryz.isAgg33 Tryz.sizeOf33 rfl rfl) .free rfl ?_
  refine v_mark rfl rfl ?_; refine p_callq rfl (en_f Tryz.call120 rfl) (wsize_ok B _ bd ⟨3, 1, 48⟩ cfg48 ⟨0, 5, [0]⟩ sv ⟨⟨by decide, by decide⟩, ⟨by decide, by decide⟩⟩ hsv s2 none 0 [] (fun _ h => (by cases h)) (by decide) (fun _ h => absurd h (Nat.not_lt_zero _)) SlR.nil) .free rfl rfl ?_; refine p_nil ?_; refine v_off rfl ?_; refine v_val rfl rfl rfl (ev_cmp rfl rfl rfl) .free rfl ?_; refine v_val rfl rfl rfl (ev_move rfl) .free rfl ?_
  refine v_hoist rfl rfl rfl (ev_move rfl) (.on rfl rfl (beq_eq (by rw [e8]; rfl))) rfl ?_
  refine v_hoist rfl rfl rfl (ev_loadA Tryz.isAgg30 Tryz.sizeOf30 rfl rfl) (.on rfl rfl (beq_eq (by rw [e8]; rfl))) rfl ?_
  refine v_hoist rfl rfl rfl (ev_loadA Tryz.isAgg33 Tryz.sizeOf33 rfl rfl) (.on rfl rfl (beq_eq (by rw [e8]; rfl))) rfl ?_
  refine v_val rfl rfl rfl (ev_move rfl) (.on rfl rfl (beq_eq (by rw [e8]; rfl))) rfl ?_
  refine v_val rfl rfl rfl (ev_iaS Tryz.runUnderlying34 Tryz.sizeOf3 rfl rfl (by decide) (by decide)) (.on rfl rfl (beq_eq (by rw [e8]; rfl))) rfl ?_
  refine v_val rfl rfl rfl (ev_loadS (v := i64 42) Tryz.isAgg3 (vec_slr 1 rfl) rfl rfl) (.on rfl rfl (beq_eq (by rw [e8]; rfl))) rfl ?_
  refine v_val rfl rfl rfl (ev_conv (c := 42) Tryz.runUnderlying3 Tryz.runUnderlying52 rfl (by decide)) (.on rfl rfl (beq_eq (by rw [e8]; rfl))) rfl ?_
  refine v_mark rfl rfl ?_; refine p_chg rfl (ch_bs1 Tryz.runUnderlying31 Tryz.sizeOf52 Tryz.zeroValue52 rfl rfl rfl) (.on rfl rfl (beq_eq (by rw [e8]; rfl))) rfl rfl ?_
  rintro _ _ ⟨b44, rfl, rfl⟩
  refine p_nil ?_; refine v_on ?_; refine go_pk [1] ?_; refine v_mark rfl rfl ?_; refine p_callq rfl (en_f Tryz.call120 rfl) (wsize_ok B _ bd ⟨3, 1, 48⟩ cfg48 ⟨0, 5, [0]⟩ sv ⟨⟨by decide, by decide⟩, ⟨by decide, by decide⟩⟩ hsv s2 (some ⟨b44, 0, none⟩) 1 [42] (fun v h => by rw [List.mem_singleton.1 h]; decide) (by decide) (fun _ _ => ⟨_, _, rfl⟩) (SlR.row (b := b44) rfl rfl)) (.on rfl rfl (beq_eq (by rw [e8]; rfl))) rfl rfl ?_
  refine p_nil ?_; refine v_off rfl ?_; refine v_val rfl rfl rfl (ev_cmp rfl rfl rfl) (.on rfl rfl (beq_eq (by rw [e8]; rfl))) rfl ?_
  refine v_val rfl rfl rfl (ev_pick_t rfl (by rw [e8]; rfl) rfl) .free rfl ?_
  refine v_val rfl rfl rfl (ev_assign rfl) .free rfl ?_; refine v_nil ?_; refine go_sub (σ' := [(0, _)]) ⟨rfl, trivial⟩ ?_; refine g_ret ?_
  exact ret_tmp Tryz.results99 rfl (fun w hh => ⟨by rw [e9]; rfl, (hh.dp [0, 0, 0, 0, 0, 0])⟩)
theorem awake14_ok (B : World) (Fr : List HP) :
    ∀ w, Holds B Fr w → Calls Tryz.prog 66 [].toArray w (PureR B Fr (.bool true)) := by
  refine fn_enter Tryz.func66 rfl Tryz.ntmps66 rfl ?_; refine g_seq ?_; refine g_region ?_; refine kPa rfl rfl ?_; refine p_nil ?_; refine g_seq ?_; refine g_seq ?_; refine g_region ?_; refine p_callq rfl (en_f Tryz.call99 rfl) (awake13_ok _ _) .free rfl rfl ?_; refine kPv (ev_not rfl) rfl ?_; refine p_nil ?_; refine g_iff rfl (rfl) ?_; refine g_skip ?_; refine g_seq ?_; refine g_region ?_; refine kPv (ev_build rfl (bld_24_2 _ rfl)) rfl ?_; refine kPv (ev_build rfl (bld_107_1 _ rfl)) rfl ?_
  refine p_chg rfl (ch_bsG encH_w (v := (0, 1)) Tryz.runUnderlying25 Tryz.sizeOf107 Tryz.zeroValue107 ⟨⟨by decide, by decide⟩, rfl⟩ rfl rfl) .free rfl rfl ?_
  rintro _ _ ⟨b13, rfl, rfl⟩
  refine p_call rfl (en_f Tryz.call12 rfl) (linked_ok _ _ 0 0 40 ⟨by decide, by decide, by decide⟩ ⟨3, 1, 48⟩ mkC48 [(0, 1)] (hh1 ⟨by decide, by decide⟩ ⟨by decide, by decide⟩) (by decide) (some ⟨b13, 0, none⟩) _ sln1 none 0 [] SlR.nil (fun _ h => (by cases h)) (by decide) (fun _ h => absurd h (Nat.not_lt_zero _)) 0 (by decide)) .free rfl rfl ?_ ?_
  rotate_left
  · rintro _ _ ⟨⟩
  rintro _ _ ⟨bd, pa, N, s0, sF, out, hfm, hN, ⟨hus0, hf⟩, hfill, hor⟩
  obtain rfl := n48 hN
  have hev := okB_ok (okB_ok (d14_eval pa bd) hf) hfill
  simp only [Bool.and_eq_true, beq_iff_eq] at hev
  obtain ⟨⟨rfl, e1⟩, e2⟩ := hev
  rw [blkIs_eq e1] at hor
  rcases hor with ⟨n1, n2, s1, s2, ov, sv, hl1, hl2, hu2, hlm2, hn2, hov, hsv, rfl, rfl⟩ | ⟨s1, hl1, _⟩
  rotate_left
  · have e3 := okB_ok e2 hl1
    simp only [Bool.and_eq_true, beq_iff_eq] at e3
    exact absurd e3.1 (by simp)
  have e3 := okB_ok e2 hl1
  simp only [Bool.and_eq_true, beq_iff_eq] at e3
  obtain ⟨e4, e5⟩ := e3
  obtain rfl : n1 = 0 := by injection e4
  have e6 := okB_ok e5 hl2
  simp only [Bool.and_eq_true, beq_iff_eq] at e6
  obtain ⟨e7, e8⟩ := e6
  rw [blkIs_eq e7]
  refine go_pk [2] ?_; refine go_vecq fun qo co hqo hqi => ?_
  subst hqo
  obtain ⟨bO, oO, rfl⟩ := hqi 0 (by decide)
  refine kPm rfl rfl ?_; refine kPv (ev_ext rfl rfl) rfl ?_; refine kPv (ev_ext rfl rfl) rfl ?_; refine kPv (ev_ext rfl rfl) rfl ?_; refine kPv (ev_ext rfl rfl) rfl ?_; refine p_chg rfl (ch_allocA Tryz.zeroValue30 rfl) .free rfl rfl ?_
  rintro _ _ ⟨b2, rfl, rfl⟩
  refine p_chg rfl (ch_allocA Tryz.zeroValue33 rfl) .free rfl rfl ?_
  rintro _ _ ⟨b3, rfl, rfl⟩
  refine kPa rfl rfl ?_; refine p_chg0 rfl (ch_storeA (vs := _) Tryz.sizeOf30 rfl rfl rfl rfl rfl) .free rfl ?_
  rintro _ _ rfl
  refine p_chg0 rfl (ch_storeA (vs := _) Tryz.sizeOf33 rfl rfl rfl (by first | rfl | exact all3 (by assumption)) rfl) .free rfl ?_
  rintro _ _ rfl
  refine kPa rfl rfl ?_; refine p_nil ?_; refine go_sub (σ' := [(4, _), (1, _), (3, _), (2, _), (0, _)]) ⟨rfl, rfl, rfl, rfl, rfl, trivial⟩ ?_; refine g_seq ?_; refine g_seq ?_; refine g_region ?_; refine kPm rfl rfl ?_; refine kPv (ev_eqp Tryz.runUnderlying28 rfl rfl rfl) rfl ?_; refine kPm rfl rfl ?_; refine p_val rfl (ev_move rfl) (.on rfl rfl (beq_eq rfl)) rfl rfl ?_; refine p_val rfl (ev_len rfl Tryz.runUnderlying34 ⟨_, rfl⟩ rfl) (.on rfl rfl (beq_eq rfl)) rfl rfl ?_
  refine p_val rfl (ev_cmp rfl rfl rfl) (.on rfl rfl (beq_eq rfl)) rfl rfl ?_; refine kPv (ev_pick_f rfl rfl rfl) rfl ?_; refine p_nil ?_; refine go_sub (σ' := [(25, _), (1, _), (3, _), (2, _), (0, _)]) ⟨rfl, rfl, rfl, rfl, rfl, trivial⟩ ?_; refine g_iff rfl (rfl) ?_; refine g_skip ?_; refine g_seq ?_; refine g_region ?_; refine kPm rfl rfl ?_; refine kPv (ev_loadA Tryz.isAgg30 Tryz.sizeOf30 rfl rfl) rfl ?_; refine kPv (ev_loadA Tryz.isAgg33 Tryz.sizeOf33 rfl rfl) rfl ?_
  refine p_chg rfl (ch_bs1 Tryz.runUnderlying31 Tryz.sizeOf52 Tryz.zeroValue52 rfl rfl rfl) .free rfl rfl ?_
  rintro _ _ ⟨b29, rfl, rfl⟩
  refine go_pk [4] ?_
  refine p_call rfl (en_f Tryz.call16 rfl) (cnew_ok B _ bd ⟨3, 1, 48⟩ cfg48 ⟨0, 2, [0]⟩ ⟨⟨by decide, by decide⟩, ⟨by decide, by decide⟩⟩ sv hsv (some ⟨b29, 0, none⟩) 1 [0] (by decide) (fun h => by cases h) (SlR.row (b := b29) rfl rfl)) .free rfl rfl ?_ ?_
  rotate_left
  · rintro _ _ ⟨⟩
  rintro _ _ ⟨x, rfl, rfl⟩
  have hX0 : ColW (newCol bd ⟨3, 1, 48⟩ ⟨0, 2, [0]⟩ [0]) := newCol_w cfg48 ⟨⟨by decide, by decide⟩, ⟨by decide, by decide⟩⟩ (by decide) (fun v h => by rw [List.mem_singleton.1 h]; decide) (fun v h => by rw [List.mem_singleton.1 h]; decide)
  refine kPa rfl rfl ?_; refine p_nil ?_; refine go_sub (σ' := [(5, _), (0, _)]) ⟨rfl, rfl, trivial⟩ ?_; refine g_seq ?_; refine g_seq ?_; refine g_region ?_; refine kPm rfl rfl ?_; refine kPv (ev_eqp Tryz.runUnderlying45 rfl rfl rfl) rfl ?_; refine p_nil ?_; refine g_iff rfl (rfl) ?_; refine g_skip ?_; refine g_seq ?_; refine g_region ?_; refine kPm rfl rfl ?_; refine go_pk [0, 4] ?_
  refine p_call rfl (en_f Tryz.call74 rfl) (cstep_ok B _ x (newCol bd ⟨3, 1, 48⟩ ⟨0, 2, [0]⟩ [0]) hX0 s2 hu2) .free rfl rfl ?_ ?_
  rotate_left
  · rintro _ _ ⟨s9, hm9, _⟩
    exact (okB_off e8 hm9).elim
  rintro _ _ ⟨r1, s3, hm1, rfl, rfl⟩
  have e9 := okB_ok e8 hm1
  simp only [Bool.and_eq_true, Bool.not_eq_true'] at e9
  obtain ⟨e10, e11⟩ := e9
  obtain ⟨hX1, hu3, _, hbd1, _⟩ := step_w hX0 hu2 hm1
  refine go_conv (H' := ColA x r1.2 :: DevA r1.2.bd s3 :: _) (fun w hh => by rw [hbd1]; exact hh) ?_
  refine kPm rfl rfl ?_
  refine p_call rfl (en_f Tryz.call74 rfl) (cstep_ok B _ x r1.2 hX1 s3 hu3) .free rfl rfl ?_ ?_
  rotate_left
  · rintro _ _ ⟨s9, hm9, _⟩
    exact (okB_off e11 hm9).elim
  rintro _ _ ⟨r2, s4, hm2, rfl, rfl⟩
  have e12 := okB_ok e11 hm2
  simp only [Bool.and_eq_true] at e12
  obtain ⟨hX2, hu4, _⟩ := step_w hX1 hu3 hm2
  have hbl : r2.2.block = ⟨1, 0, [0]⟩ := congrArg Prod.fst (blkIs_eq e12.2)
  rw [e10, e12.1]
  refine kPa rfl rfl ?_; refine kPa rfl rfl ?_; refine p_nil ?_; refine g_seq ?_; refine g_region ?_; refine kPm rfl rfl ?_; refine kPv (ev_not rfl) rfl ?_; refine kPm rfl rfl ?_; refine p_val rfl (ev_move rfl) (.on rfl rfl (beq_eq rfl)) rfl rfl ?_; refine kPv (ev_pick_t rfl rfl rfl) rfl ?_; refine kPm rfl rfl ?_; refine p_val rfl (ev_move rfl) (.on rfl rfl (beq_eq rfl)) rfl rfl ?_
  refine p_call rfl (en_f Tryz.call76 rfl) (cblock_ok B _ x r2.2 hX2) (.on rfl rfl (beq_eq rfl)) rfl rfl ?_ ?_
  rotate_left
  · rintro _ _ ⟨⟩
  rintro _ _ ⟨bv5, hbv5, rfl, rfl⟩
  rw [hbl]
  refine p_val rfl (ev_field1 Tryz.runUnderlying33 (t := 3) (off := 1) rfl Tryz.isAgg3 rfl rfl) (.on rfl rfl (beq_eq rfl)) rfl rfl ?_; refine p_val rfl (ev_cmp rfl rfl rfl) (.on rfl rfl (beq_eq rfl)) rfl rfl ?_; refine kPv (ev_pick_t rfl rfl rfl) rfl ?_; refine kPm rfl rfl ?_; refine p_val rfl (ev_move rfl) (.on rfl rfl (beq_eq rfl)) rfl rfl ?_; refine go_pk [1] ?_
  refine p_call rfl (en_f Tryz.call76 rfl) (cblock_ok B _ x r2.2 hX2) (.on rfl rfl (beq_eq rfl)) rfl rfl ?_ ?_
  rotate_left
  · rintro _ _ ⟨⟩
  rintro _ _ ⟨bv6, hbv6, rfl, rfl⟩
  rw [hbl]
  refine p_val rfl (ev_field1 Tryz.runUnderlying33 (t := 3) (off := 0) rfl Tryz.isAgg3 rfl rfl) (.on rfl rfl (beq_eq rfl)) rfl rfl ?_; refine p_val rfl (ev_cmp rfl rfl rfl) (.on rfl rfl (beq_eq rfl)) rfl rfl ?_; refine kPv (ev_pick_t rfl rfl rfl) rfl ?_; refine kPa rfl rfl ?_; refine p_nil ?_; refine go_sub (σ' := [(0, _)]) ⟨rfl, trivial⟩ ?_; refine g_ret ?_
  exact ret_tmp Tryz.results66 rfl (fun w hh => ⟨rfl, (hh.dp [0, 0, 0, 0, 0, 0, 0, 0, 0])⟩)
theorem awake15_ok (B : World) (Fr : List HP) :
    ∀ w, Holds B Fr w → Calls Tryz.prog 11 [].toArray w (PureR B Fr (.bool true)) := by
  refine fn_enter Tryz.func11 rfl Tryz.ntmps11 rfl ?_; refine g_seq ?_; refine g_region ?_; refine kPa rfl rfl ?_; refine p_nil ?_; refine g_seq ?_; refine g_seq ?_; refine g_region ?_; refine p_callq rfl (en_f Tryz.call66 rfl) (awake14_ok _ _) .free rfl rfl ?_; refine kPv (ev_not rfl) rfl ?_; refine p_nil ?_; refine g_iff rfl (rfl) ?_; refine g_skip ?_; refine g_seq ?_; refine g_region ?_; refine kPv (ev_build rfl (bld_24_2 _ rfl)) rfl ?_; refine kPv (ev_build rfl (bld_107_1 _ rfl)) rfl ?_
  refine kPv (ev_build rfl (bld_107_1 _ rfl)) rfl ?_; refine p_chg rfl (ch_bsG2 encH_w (v := (0, 1)) (u := (0, 2)) Tryz.runUnderlying25 Tryz.sizeOf107 Tryz.zeroValue107 ⟨⟨by decide, by decide⟩, rfl⟩ rfl rfl rfl rfl) .free rfl rfl ?_
  rintro _ _ ⟨b16, rfl, rfl⟩
  refine p_call rfl (en_f Tryz.call12 rfl) (linked_ok _ _ 0 0 40 ⟨by decide, by decide, by decide⟩ ⟨3, 1, 48⟩ mkC48 [(0, 1), (0, 2)] (hh2) (by decide) (some ⟨b16, 0, none⟩) _ sln2 none 0 [] SlR.nil (fun _ h => (by cases h)) (by decide) (fun _ h => absurd h (Nat.not_lt_zero _)) 0 (by decide)) .free rfl rfl ?_ ?_
  rotate_left
  · rintro _ _ ⟨⟩
  rintro _ _ ⟨bd, pa, N, s0, sF, out, hfm, hN, ⟨hus0, hf⟩, hfill, hor⟩
  obtain rfl := n48 hN
  have hev := okB_ok (okB_ok (d15_eval pa bd) hf) hfill
  simp only [Bool.and_eq_true, beq_iff_eq] at hev
  obtain ⟨⟨rfl, e1⟩, e2⟩ := hev
  rw [blkIs_eq e1] at hor
  rcases hor with ⟨n1, n2, s1, s2, ov, sv, hl1, hl2, hu2, hlm2, hn2, hov, hsv, rfl, rfl⟩ | ⟨s1, hl1, _⟩
  rotate_left
  · have e3 := okB_ok e2 hl1
    simp only [Bool.and_eq_true, beq_iff_eq] at e3
    exact absurd e3.1 (by simp)
  have e3 := okB_ok e2 hl1
  simp only [Bool.and_eq_true, beq_iff_eq] at e3
  obtain ⟨e4, e5⟩ := e3
  obtain rfl : n1 = 0 := by injection e4
  have e6 := okB_ok e5 hl2
  simp only [Bool.and_eq_true, beq_iff_eq] at e6
  obtain ⟨⟨e7, e14⟩, e8⟩ := e6
  rw [blkIs_eq e7]
  refine go_pk [2] ?_; refine go_vecq fun qo co hqo hqi => ?_
  subst hqo
  obtain ⟨bO, oO, rfl⟩ := hqi 0 (by decide)
  refine kPm rfl rfl ?_; refine kPv (ev_ext rfl rfl) rfl ?_; refine kPv (ev_ext rfl rfl) rfl ?_; refine kPv (ev_ext rfl rfl) rfl ?_; refine kPv (ev_ext rfl rfl) rfl ?_; refine p_chg rfl (ch_allocA Tryz.zeroValue30 rfl) .free rfl rfl ?_
  rintro _ _ ⟨b2, rfl, rfl⟩
  refine p_chg rfl (ch_allocA Tryz.zeroValue33 rfl) .free rfl rfl ?_
  rintro _ _ ⟨b3, rfl, rfl⟩
  refine kPa rfl rfl ?_; refine p_chg0 rfl (ch_storeA (vs := _) Tryz.sizeOf30 rfl rfl rfl rfl rfl) .free rfl ?_
  rintro _ _ rfl
  refine p_chg0 rfl (ch_storeA (vs := _) Tryz.sizeOf33 rfl rfl rfl (by first | rfl | exact all3 (by assumption)) rfl) .free rfl ?_
  rintro _ _ rfl
  refine kPa rfl rfl ?_; refine p_nil ?_; refine go_sub (σ' := [(4, _), (1, _), (3, _), (2, _), (0, _)]) ⟨rfl, rfl, rfl, rfl, rfl, trivial⟩ ?_; refine g_seq ?_; refine g_seq ?_; refine g_region ?_; refine kPm rfl rfl ?_; refine kPv (ev_eqp Tryz.runUnderlying28 rfl rfl rfl) rfl ?_; refine kPm rfl rfl ?_; refine p_val rfl (ev_move rfl) (.on rfl rfl (beq_eq rfl)) rfl rfl ?_; refine p_val rfl (ev_len rfl Tryz.runUnderlying34 ⟨_, rfl⟩ rfl) (.on rfl rfl (beq_eq rfl)) rfl rfl ?_
  refine p_val rfl (ev_cmp rfl rfl rfl) (.on rfl rfl (beq_eq rfl)) rfl rfl ?_; refine kPv (ev_pick_f rfl rfl rfl) rfl ?_; refine kPm rfl rfl ?_; refine p_val rfl (ev_fa (m := _) fa_33_1 rfl rfl) (.on rfl rfl (beq_eq rfl)) rfl rfl ?_; refine p_val rfl (ev_load Tryz.isAgg3 rfl rfl) (.on rfl rfl (beq_eq rfl)) rfl rfl ?_; refine p_val rfl (ev_cmp rfl rfl rfl) (.on rfl rfl (beq_eq rfl)) rfl rfl ?_; refine kPv (ev_pick_f rfl rfl rfl) rfl ?_; refine p_nil ?_
  refine go_sub (σ' := [(33, _), (4, _), (1, _), (2, _), (0, _)]) ⟨rfl, rfl, rfl, rfl, rfl, trivial⟩ ?_; refine g_iff rfl (rfl) ?_; refine g_skip ?_; refine g_seq ?_; refine g_region ?_; refine kPm rfl rfl ?_; refine kPv (ev_loadA Tryz.isAgg30 Tryz.sizeOf30 rfl rfl) rfl ?_; refine go_pk [4] ?_
  refine p_call rfl (en_f Tryz.call13 rfl) (snew_ok _ _ bd s2 ⟨3, 1, 48⟩ cfg48) .free rfl rfl ?_ ?_
  rotate_left
  · rintro _ _ ⟨⟩
  rintro _ _ ⟨bs, rfl, rfl⟩
  refine kPa rfl rfl ?_; refine p_nil ?_; refine g_seq ?_; refine g_seq ?_; refine g_region ?_; refine go_secC fun bl o1 o2 => ?_; refine kPm rfl rfl ?_; refine kPv (ev_eqp Tryz.runUnderlying37 rfl rfl rfl) rfl ?_; refine kPm rfl rfl ?_; refine p_val rfl (ev_move rfl) (.on rfl rfl (beq_eq rfl)) rfl rfl ?_
  first | refine p_val rfl (ev_nil rfl) (.on rfl rfl (beq_eq rfl)) rfl rfl ?_ | refine p_val rfl (ev_nilf rfl) (.on rfl rfl (beq_eq rfl)) rfl rfl ?_
  refine p_val rfl (ev_fa (m := _) fa_44_0 rfl rfl) (.on rfl rfl (beq_eq rfl)) rfl rfl ?_; refine p_val rfl (ev_load Tryz.isAgg39 rfl rfl) (.on rfl rfl (beq_eq rfl)) rfl rfl ?_; refine p_val rfl (ev_eqp Tryz.runUnderlying39 rfl rfl rfl) (.on rfl rfl (beq_eq rfl)) rfl rfl ?_; refine kPv (ev_pick_f rfl rfl rfl) rfl ?_; refine p_nil ?_; refine go_sub (σ' := [(45, _), (5, _), (4, _), (1, _), (2, _), (0, _)]) ⟨rfl, rfl, rfl, rfl, rfl, rfl, trivial⟩ ?_; refine g_iff rfl (rfl) ?_; refine g_skip ?_
  refine g_seq ?_; refine go_conv (fun w hh => secC_holds (S := (⟨openL bd ⟨3, 1, 48⟩ s2, 0, 0, [], []⟩ : SecS)) hh) ?_; refine go_conv (H' := SecC bs (⟨openL bd ⟨3, 1, 48⟩ s2, 0, 0, [], []⟩ : SecS) :: DevA bd s2 :: row b2 [i64 3, i64 1, i64 48] 30 :: VecA 3 i64 0 (.slice (some ⟨bO, oO, none⟩) 2 co, [40, 42]) :: VecU 0 (sv, [0]) :: Fr) (fun w hh => by have h := (hh.dp [2, 5]); exact h) ?_
  refine g_drawv [0, 1, 2, 3, 4, 5, 6, 7, 8, 9, 10, 11, 12, 13] [7, 8] [0, 1, 2] [7] [row b2 [i64 3, i64 1, i64 48] 30, VecA 3 i64 0 (.slice (some ⟨bO, oO, none⟩) 2 co, [40, 42])] Tryz.mixed (by kernel_rfl) ?_; refine v_hoist rfl rfl rfl (ev_move rfl) .free rfl ?_; refine v_hoist rfl rfl rfl (ev_loadA Tryz.isAgg30 Tryz.sizeOf30 rfl rfl) .free rfl ?_; refine v_hoist rfl rfl rfl (ev_move rfl) .free rfl ?_; refine v_val rfl rfl rfl (ev_move rfl) .free rfl ?_
  refine v_val rfl rfl rfl (ev_iaS Tryz.runUnderlying34 Tryz.sizeOf3 rfl rfl (by decide) (by decide)) .free rfl ?_; refine v_val rfl rfl rfl (ev_loadS (v := i64 42) Tryz.isAgg3 (vec_slr 3 rfl) rfl rfl) .free rfl ?_; refine v_val rfl rfl rfl (ev_conv (c := 42) Tryz.runUnderlying3 Tryz.runUnderlying52 rfl (by decide)) .free rfl ?_; refine v_mark rfl rfl ?_; refine p_chg rfl (ch_bs1 Tryz.runUnderlying31 Tryz.sizeOf52 Tryz.zeroValue52 rfl rfl rfl) .free rfl rfl ?_
  rintro _ _ ⟨b54, rfl, rfl⟩
  refine p_nil ?_; refine v_on ?_; refine v_mark rfl rfl ?_; refine go_pk [1, 1] ?_
  refine p_call rfl (en_f Tryz.call14 rfl) (fcollect_ok B _ bs bd (⟨openL bd ⟨3, 1, 48⟩ s2, 0, 0, [], []⟩ : SecS) ⟨3, 1, 48⟩ cfg48 s2 hu2 ⟨openL_w cfg48, by rw [hn2]; decide, rfl, rfl⟩ (some ⟨b54, 0, none⟩) 1 [42] (by decide) (fun v h => by rw [List.mem_singleton.1 h]; decide) (SlR.row (b := b54) rfl rfl)) .free rfl rfl ?_ ?_
  rotate_left
  · rintro _ _ ⟨s9, hm9, _⟩
    exact (okB_off e8 hm9).elim
  rintro _ _ ⟨r, s3, hm3, hor⟩
  have e9 := okB_ok e8 hm3
  simp only [Bool.and_eq_true, beq_iff_eq] at e9
  obtain ⟨⟨e10, e11⟩, e12⟩ := e9
  rcases hor with ⟨h1, _⟩ | ⟨x, X, hX, h0, rfl, rfl⟩
  · rw [h1] at e11; cases e11
  rw [hX] at e11
  have e13 : (mget X.went 42).getD 0 = 88 := by simpa [went1] using e11
  have hu3 := (collect_k cfg48 (fun v h => by rw [List.mem_singleton.1 h]; decide) (openL_w cfg48) hu2 (by rw [hn2]; decide) e14 hm3).1
  refine p_nil ?_; refine v_off rfl ?_; refine v_val rfl rfl rfl (ev_move rfl) .free rfl ?_; refine v_val rfl rfl rfl (ev_ext rfl rfl) .free rfl ?_; refine v_val rfl rfl rfl (ev_ext rfl rfl) .free rfl ?_; refine v_val rfl rfl rfl (ev_assign rfl) .free rfl ?_; refine v_val rfl rfl rfl (ev_assign rfl) .free rfl ?_; refine v_nil ?_; refine go_sub (σ' := [(7, _), (6, _), (4, _), (1, _), (2, _), (0, _)]) ⟨rfl, rfl, rfl, rfl, rfl, rfl, trivial⟩ ?_; refine g_seq ?_; refine g_region ?_
  refine kPm rfl rfl ?_; refine kPv (ev_loadA Tryz.isAgg30 Tryz.sizeOf30 rfl rfl) rfl ?_; refine go_pk [2] ?_
  refine p_call rfl (en_f Tryz.call15 rfl) (rread_ok _ _ _ _ ⟨3, 1, 48⟩ cfg48 hu3) .free rfl rfl ?_ ?_
  rotate_left
  · rintro _ _ ⟨⟩
  rintro _ _ ⟨sv3, hsv3, rfl, rfl⟩
  rw [blkIs_eq e12]
  refine kPm rfl rfl ?_; refine kPv (ev_ext rfl rfl) rfl ?_; refine kPv (ev_ext rfl rfl) rfl ?_; refine p_chg rfl (ch_allocA Tryz.zeroValue33 rfl) .free rfl rfl ?_
  rintro _ _ ⟨b8, rfl, rfl⟩
  refine p_chg0 rfl (ch_storeA (vs := _) Tryz.sizeOf33 rfl rfl rfl (by first | rfl | exact all3 (by assumption)) rfl) .free rfl ?_
  rintro _ _ rfl
  refine kPa rfl rfl ?_; refine p_nil ?_; refine go_sub (σ' := [(9, _), (8, _), (7, _), (6, _), (4, _), (2, _), (0, _)]) ⟨rfl, rfl, rfl, rfl, rfl, rfl, rfl, trivial⟩ ?_; refine g_seq ?_; refine g_draw Tryz.mixed (by kernel_rfl) (by kernel_rfl) ?_; refine kQm rfl rfl ?_; refine kQv (ev_cmp rfl rfl rfl) rfl ?_; refine kQm rfl rfl ?_; refine q_val rfl (ev_move rfl) (.on rfl rfl (beq_eq rfl)) rfl ?_; refine q_val rfl (ev_eqp Tryz.runUnderlying45 rfl rfl rfl) (.on rfl rfl (beq_eq rfl)) rfl ?_
  refine kQv (ev_pick_t rfl rfl rfl) rfl ?_; refine kQm rfl rfl ?_; refine q_val rfl (ev_move rfl) (.on rfl rfl (beq_eq rfl)) rfl ?_; refine q_val rfl (ev_cmp rfl rfl rfl) (.on rfl rfl (beq_eq rfl)) rfl ?_; refine kQv (ev_pick_t rfl rfl rfl) rfl ?_; refine kQm rfl rfl ?_; refine q_val rfl (ev_fa (m := _) fa_33_0 rfl rfl) (.on rfl rfl (beq_eq rfl)) rfl ?_; refine q_val rfl (ev_load Tryz.isAgg3 rfl rfl) (.on rfl rfl (beq_eq rfl)) rfl ?_
  refine q_val rfl (ev_cmp rfl rfl rfl) (.on rfl rfl (beq_eq rfl)) rfl ?_; refine kQv (ev_pick_t rfl rfl rfl) rfl ?_; refine kQm rfl rfl ?_; refine q_val rfl (ev_fa (m := _) fa_33_1 rfl rfl) (.on rfl rfl (beq_eq rfl)) rfl ?_; refine q_val rfl (ev_load Tryz.isAgg3 rfl rfl) (.on rfl rfl (beq_eq rfl)) rfl ?_; refine q_val rfl (ev_cmp rfl rfl rfl) (.on rfl rfl (beq_eq rfl)) rfl ?_; refine kQv (ev_pick_t rfl rfl rfl) rfl ?_; refine kQm rfl rfl ?_
  refine q_val rfl (ev_move rfl) (.on rfl rfl (beq_eq rfl)) rfl ?_; refine q_val rfl (ev_move rfl) (.on rfl rfl (beq_eq rfl)) rfl ?_; refine q_val rfl (ev_iaS Tryz.runUnderlying34 Tryz.sizeOf3 rfl rfl (by decide) (by decide)) (.on rfl rfl (beq_eq rfl)) rfl ?_; refine q_val rfl (ev_loadS (v := i64 42) Tryz.isAgg3 (vec_slr 7 rfl) rfl rfl) (.on rfl rfl (beq_eq rfl)) rfl ?_; refine q_val rfl (ev_conv (c := 42) Tryz.runUnderlying3 Tryz.runUnderlying52 rfl (by decide)) (.on rfl rfl (beq_eq rfl)) rfl ?_
  refine q_call rfl (en_f Tryz.call55 rfl) (ro_at (q := ColA) (fun Fr => cwent_ok B Fr x X 42)) (.on rfl rfl (beq_eq rfl)) rfl ?_; refine q_val rfl (ev_loadA Tryz.isAgg30 Tryz.sizeOf30 rfl rfl) (.on rfl rfl (beq_eq rfl)) rfl ?_; refine q_call rfl (en_f Tryz.call46 rfl) (from_ok _ _ ⟨3, 1, 48⟩ cfg48 1 (by decide) (by decide)) (.on rfl rfl (beq_eq rfl)) rfl ?_; refine q_val rfl (ev_cmp rfl rfl rfl) (.on rfl rfl (beq_eq rfl)) rfl ?_; refine kQv (ev_pick_t rfl rfl rfl) rfl ?_; refine kQa rfl rfl ?_
  refine q_nil ?_; refine go_sub (σ' := [(0, _)]) ⟨rfl, trivial⟩ ?_; refine g_ret ?_
  exact ret_tmp Tryz.results11 rfl (fun w hh => ⟨by rw [e13]; rfl, (hh.dp [0, 0, 0, 0, 0, 0, 0, 0, 0])⟩)
end Go.Proofs.YtbfheafpecgphaaGreat
namespace Go.Proofs.YtbfheafpecgphaaGreat
open Go
theorem Tryz.ownKnobs : ownKnob Tryz.prog.godebug = none := by kernel_rfl
theorem Tryz.laidOut : laidOutB Tryz.prog = true := by kernel_rfl
theorem law_of {P : Program} {f : FuncId} {vs : Array Value} {W : World} (h : ∀ w, Holds W [old W] w → Calls P f vs w (PureR W [old W] (.bool true))) :
    Calls P f vs W (fun e w' => e = .returned (.bool true) ∧ RowKit.Below W.heap.size W w') := (h W (holds_old W)).mono fun _ _ ⟨h1, h2⟩ => ⟨h1, h2.oldb⟩
theorem arg_sl_u16 {H : Type} {enc : TypeId × Value → H} {W : World} {base : Nat} {held : Bool} {a : Option Addr} {len cap : Nat} {x : DataW H × List MemPlace}
    (h : ∃ fuel, DataW.trod enc Tryz.prog W base (fun _ => true) held fuel 26 (Value.slice a len cap).cells.toList = some x) : ∃ xs : List Int, len = xs.length ∧ len ≤ 9223372036854775807 ∧ ArgRow W a len 1 (fun i => [u16 (xs.getD i 0)]) ∧ ∀ x ∈ xs, 0 ≤ x ∧ x ≤ 65535 := by
  obtain ⟨fuel, hf⟩ := h
  rcases Go.ChangeShapes.open_ints Tryz.underlying26 Tryz.underlying22 (by kernel_rfl) hf with ⟨hcs, _⟩ | ⟨y, l, c, zs, hcs, _, hl, hm, hlen, hbd, hcell, hbd2⟩
  · simp [Value.cells] at hcs
    obtain ⟨rfl, rfl, rfl⟩ := hcs
    exact ⟨[], rfl, by omega, ⟨fun i hi => by omega⟩, fun x hx => by simp at hx⟩
  · simp [Value.cells] at hcs
    obtain ⟨rfl, rfl, rfl⟩ := hcs
    unfold maxLen at hm
    simp only [if_true] at hlen
    refine ⟨zs.take len, by rw [List.length_take]; omega, by omega, ⟨fun i hi => ?_⟩, fun x hx => bounds_u16 (hbd2 x (List.mem_of_mem_take hx))⟩
    have h0 := hcell i (by omega)
    obtain ⟨b, o, s⟩ := y
    have hs : s = none := by
      have h1 := hcell 0 (by omega)
      have e0 : (⟨b, o, s⟩ : Addr).add 0 = ⟨b, o, s⟩ := rfl
      rw [e0] at h1
      unfold World.cell? at h1
      split at h1
      · cases s with
        | none => rfl
        | some q => simp at h1
      · cases h1
    subst hs
    refine ⟨b, o, rfl, rfl, fun j hj => ?_⟩
    obtain rfl : j = 0 := by omega
    rw [add_eq] at h0
    have e1 : (List.take len zs)[i]?.getD 0 = zs[i]?.getD 0 := by
      rw [List.getElem?_take_of_lt hi]
    simpa [e1] using h0
theorem slr_u16 {W : World} {H : List HP} [HasOld H W] {a : Option Addr} {cap : Nat} {xs : List Int} (h : ArgRow W a xs.length 1 (fun i => [u16 (xs.getD i 0)])) : SlR W H (.slice a xs.length cap) (xs.map u16) := by
  have h1 := SlR.arg (H := H) (cap := cap) h
  have e : (List.range xs.length).map (fun i => u16 (xs.getD i 0)) = xs.map u16 := by
    apply List.ext_getElem
    · simp
    · intro i h1 h2
      simp at h1
      simp [h1]
  rwa [e] at h1
open Go.ChangeShapes Go.WideShapes in
set_option maxRecDepth 100000 in
theorem arg_st_u16_u16_u16 {H : Type} {enc : TypeId × Value → H} {W : World} {r : Reach} {base b1 : Nat} {held : Bool} {sp : Nat → Bool} {v : Value} {x : DataW H × List MemPlace}
    (hv : Value.okWide Tryz.prog W r b1 24 v) (h : ∃ fuel, DataW.trod enc Tryz.prog W base sp held fuel 24 v.cells.toList = some x) :
    ∃ z : Int × Int × Int, v = .agg #[u16 z.1, u16 z.2.1, u16 z.2.2] ∧ (Lit.int .u16 z.1).wf = true ∧ (Lit.int .u16 z.2.1).wf = true ∧ (Lit.int .u16 z.2.2).wf = true := by
  obtain ⟨fuel, hf⟩ := h
  obtain ⟨cs, rfl, hsz⟩ := okWide_struct Tryz.underlying24 hv
  have hsz : cs.size = 3 := hsz
  obtain ⟨y0, y1, y2, n, _, _, h0, h1, h2⟩ := Go.Deep.trod_struct3 Tryz.underlying24 hf
  obtain ⟨a, e0, _, w0⟩ := DataW.trod_int Tryz.underlying22 h0
  obtain ⟨b, e1, _, w1⟩ := DataW.trod_int Tryz.underlying22 h1
  obtain ⟨c, e2, _, w2⟩ := DataW.trod_int Tryz.underlying22 h2
  refine ⟨(a, b, c), ?_, w0, w1, w2⟩
  obtain ⟨l⟩ := cs
  match l, hsz with
  | [p, q, s], _ =>
    have e0 : [p] = [Value.int .u16 a] := e0
    have e1 : [q] = [Value.int .u16 b] := e1
    have e2 : [s] = [Value.int .u16 c] := e2
    cases e0; cases e1; cases e2; rfl
end Go.Proofs.YtbfheafpecgphaaGreat
namespace Go.Proofs.YtbfheafpecgphaaGreat
open Go
theorem some_u8 {W : World} {a : Option Addr} {n : Nat} {f : Nat → Value} (h : ArgRow W a n 1 (fun i => [f i])) : ∀ i, i < n → ∃ b off, a = some ⟨b, off, none⟩ := fun i hi => by
  obtain ⟨b, o, e, _⟩ := h.cell i hi; exact ⟨b, o, e⟩
end Go.Proofs.YtbfheafpecgphaaGreat
namespace Go.Proofs.YtbfheafpecgphaaGreat
open Go
set_option maxRecDepth 100000 in
theorem arg_sl_st_u8_u8 {H : Type} {enc : TypeId × Value → H} {W : World} {base : Nat} {held : Bool} {a : Option Addr} {len cap : Nat} {x : DataW H × List MemPlace}
    (h : ∃ fuel, DataW.trod enc Tryz.prog W base (fun _ => true) held fuel 25 (Value.slice a len cap).cells.toList = some x) : ∃ f : Nat → Int × Int, len ≤ 9223372036854775807 ∧ (∀ i, i < len → 0 ≤ (f i).1 ∧ (f i).1 ≤ 255 ∧ 0 ≤ (f i).2 ∧ (f i).2 ≤ 255) ∧ ArgRow W a len 2 (fun i => [.int .u8 (f i).1, .int .u8 (f i).2]) := by
  obtain ⟨fuel, hf⟩ := h
  rcases Go.Deep.open_slice Tryz.underlying25 hf with ⟨hcs, _⟩ | ⟨y, l, c, m, n, D, Pl, hcs, _, hl, hm, hmm, _, hx⟩
  · simp [Value.cells] at hcs
    obtain ⟨rfl, rfl, rfl⟩ := hcs
    exact ⟨fun _ => (0, 0), by omega, fun i hi => by omega, ⟨fun i hi => by omega⟩⟩
  · simp [Value.cells] at hcs
    obtain ⟨rfl, rfl, rfl⟩ := hcs
    unfold maxLen at hm
    simp only [if_true] at hmm
    have hc2 : Tryz.prog.cellsOf 107 = 2 := by kernel_rfl
    have each : ∀ i, i < len → ∃ p : Int × Int, (0 ≤ p.1 ∧ p.1 ≤ 255 ∧ 0 ≤ p.2 ∧ p.2 ≤ 255) ∧ W.cell? (y.add (i * 2)) = some (.int .u8 p.1) ∧ W.cell? ((y.add (i * 2)).add 1) = some (.int .u8 p.2) := fun i hi => by
      obtain ⟨cs, h1, h2⟩ := hx i (by omega)
      rw [hc2] at h1
      obtain ⟨y0, y1, n, _, hlen, g0, g1⟩ := Go.ChangeShapes.trod_struct2 Tryz.underlying107 h2
      rw [hc2] at hlen
      match cs, hlen with
      | [u, v], _ =>
        obtain ⟨p, ep, _, wp⟩ := DataW.trod_int Tryz.underlying5 g0
        obtain ⟨q, eq, _, wq⟩ := DataW.trod_int Tryz.underlying5 g1
        have ep : [u] = [Value.int .u8 p] := ep
        have eq : [v] = [Value.int .u8 q] := eq
        cases ep; cases eq
        have bp := bounds_u8 wp
        have bq := bounds_u8 wq
        have hs := World.cells?_some h1
        exact ⟨(p, q), ⟨bp.1, bp.2, bq.1, bq.2⟩, hs.2.2 0 (by decide), hs.2.2 1 (by decide)⟩
    obtain ⟨b, o, s⟩ := y
    by_cases h0 : len = 0
    · exact ⟨fun _ => (0, 0), by omega, fun i hi => by omega, ⟨fun i hi => by omega⟩⟩
    have hs : s = none := by
      obtain ⟨p, _, h1, _⟩ := each 0 (by omega)
      have e0 : (⟨b, o, s⟩ : Addr).add (0 * 2) = ⟨b, o, s⟩ := rfl
      rw [e0] at h1
      unfold World.cell? at h1
      split at h1
      · cases s with
        | none => rfl
        | some q => simp at h1
      · cases h1
    subst hs
    refine ⟨fun i => if hi : i < len then (each i hi).choose else (0, 0), by omega, fun i hi => ?_, ⟨fun i hi => ⟨b, o, rfl, rfl, fun j hj => ?_⟩⟩⟩
    · simp only [dif_pos hi]
      exact (each i hi).choose_spec.1
    · obtain ⟨_, h1, h2⟩ := (each i hi).choose_spec
      simp only [dif_pos hi]
      match j, hj with
      | 0, _ => exact (congrArg W.cell? (add_eq b o (i * 2))).symm.trans h1
      | 1, _ => exact ((congrArg (fun a : Addr => W.cell? (a.add 1)) (add_eq b o (i * 2))).trans (congrArg W.cell? (add_eq b (o + i * 2) 1))).symm.trans h2
end Go.Proofs.YtbfheafpecgphaaGreat
namespace Go.Proofs.YtbfheafpecgphaaGreat
open Go
structure HI (c : Cfg) (N bd : Nat) (S : SecS) (s : Dev) (b : Blk) (L : List Int) : Prop where
  sk : SK c N bd S s
  bl : s.block c = (b, 0)
  heap : HeapW c b s.load L
theorem sln_arg2 {W : World} {H : List HP} [HasOld H W] {a : Option Addr} {n cap : Nat} {f : Nat → Int × Int} (h : ArgRow W a n 2 (fun i => [.int .u8 (f i).1, .int .u8 (f i).2])) : SlN W H (.slice a ((List.range n).map f).length cap) 2 (((List.range n).map f).map fun h => [u8 h.1, u8 h.2]) := by
  have h1 := SlN.arg (H := H) (cap := cap) h
  rw [List.length_map, List.length_range, List.map_map]
  exact h1
end Go.Proofs.YtbfheafpecgphaaGreat
namespace Go.Proofs.YtbfheafpecgphaaGreat
open Go
theorem store_kept {c : Cfg} (hc : CfgW c) {N : Nat} {old : Nat → Int} {js : List Nat} {S : SecS} {s : Dev} (h : In False c N old js S s) (hf : S.ff = 0 ∧ S.ft = 0) {i : Nat} (v : Int) (hi : c.active ≤ i ∧ i < N) (hroom : (js.length : Int) < c.log) {S' : SecS} {s' : Dev} {a : Int} (e : S.store s i v = .ok (a, S') s') :
    (∀ x : Nat, c.active ≤ x → s'.kept x = s.kept x) ∧ ∀ k, k ∈ S'.dirty.map Prod.fst ↔ k = (i : Int) / 8 ∨ k ∈ S.dirty.map Prod.fst := by
  have hact := hc.act
  have hn := h.n
  by_cases c1 : i ∈ js
  · obtain ⟨e1, _⟩ := in_again h hc v hi (.inl c1)
    rw [e1] at e
    cases e
    exact ⟨fun x _ => by rw [sv_kept], fun k => mset_keyI⟩
  · have hns : (mget S.seen i).isSome = false := by
      cases hm : (mget S.seen (i : Int)).isSome with
      | false => rfl
      | true => obtain ⟨j, hj, e⟩ := (h.seen i).1 hm; exact absurd (by rwa [show j = i by omega] at hj) c1
    have hA := act_w hc
    have hln := h.ln
    obtain ⟨s1, g1, g2, g3, g4, g5⟩ := append_ne (L := S.L) (i := (i : Int)) h.logw h.still ⟨by omega, by omega⟩ (by rw [h.hc]; have := h.hN; omega) (by rw [h.hc]; omega) (r := 16 + 4 * js.length) (by rw [h.hc, hln]; simp only [Cfg.record]; omega)
    unfold SecS.store at e
    rw [if_neg (by rw [h.hc]; omega), if_pos ⟨hns, by omega⟩, g1, then_ok] at e
    simp only at e
    rw [if_neg (by simp), sv_then g2.lim (by omega)] at e
    cases e
    refine ⟨fun x hx => ?_, fun k => mset_keyI⟩
    rw [sv_kept, g5, if_neg (by omega)]
theorem writeN_kept {c : Cfg} (hc : CfgW c) {N : Nat} {old : Nat → Int} : ∀ (l : List Int) (i : Nat) (S : SecS) (s : Dev) (js : List Nat), In False c N old js S s → NoF js S → S.ff = 0 ∧ S.ft = 0 → c.active ≤ i → i + l.length ≤ N → (js.length : Int) + l.length ≤ c.log → ∀ (S' : SecS) (s' : Dev) (a : Int), writeN secOp l i s S = .ok (a, S') s' →
    (∀ x : Nat, c.active ≤ x → s'.kept x = s.kept x) ∧ (∀ k, k ∈ S.dirty.map Prod.fst → k ∈ S'.dirty.map Prod.fst) ∧ ∀ y : Nat, i ≤ y → y < i + l.length → s.now y ≠ l.getD (y - i) 0 → ((y / 8 : Nat) : Int) ∈ S'.dirty.map Prod.fst
  | [], i, S, s, js, h, h1, h2, _, _, _, S', s', a, e => by
    cases e
    exact ⟨fun _ _ => rfl, fun _ h => h, fun y g1 g2 => by simp only [List.length_nil] at g2; omega⟩
  | v :: t, i, S, s, js, h, h1, h2, h3, h4, h5, S', s', a, e => by
    simp only [List.length_cons] at h4 h5
    have hld : s.load i = s.now i := load_nat rfl (by rw [h.n]; omega)
    unfold writeN at e
    by_cases he : s.load i = v
    · rw [if_pos he] at e
      obtain ⟨g1, g2, g3⟩ := writeN_kept hc t (i + 1) S s js h h1 h2 (by omega) (by omega) (by omega) S' s' a e
      refine ⟨g1, g2, fun y k1 k2 k3 => ?_⟩
      simp only [List.length_cons] at k2
      by_cases ey : y = i
      · subst ey; rw [Nat.sub_self] at k3; exact absurd (hld.symm.trans he) k3
      · exact g3 y (by omega) (by omega) (by rw [show y - i = (y - (i + 1)) + 1 by omega] at k3; exact k3)
    · rw [if_neg he] at e
      obtain ⟨S1, s1, js1, e1, e2, e3, e4, e5, e6, _, e7, e8, e9⟩ := in_store h hc h1 h2 (i := i) v ⟨h3, by omega⟩ (by omega)
      obtain ⟨f1, f2⟩ := store_kept hc h h2 v ⟨h3, by omega⟩ (by omega) e1
      rw [show secOp (i : Int) v s S = .ok (0, S1) s1 from e1] at e
      simp only [then_ok] at e
      rw [if_neg (by simp)] at e
      obtain ⟨g1, g2, g3⟩ := writeN_kept hc t (i + 1) S1 s1 js1 e2 e3 ⟨e4, e5⟩ (by omega) (by omega) (by omega) S' s' a e
      refine ⟨fun x hx => (g1 x hx).trans (f1 x hx), fun k hk => g2 k ((f2 k).2 (.inr hk)), fun y k1 k2 k3 => ?_⟩
      simp only [List.length_cons] at k2
      by_cases ey : y = i
      · subst ey; exact g2 _ ((f2 _).2 (.inl (by omega)))
      · exact g3 y (by omega) (by omega) (by rw [e9 y (by omega) ey, show (y - (i + 1)) = y - i - 1 by omega]; rw [show y - i = (y - i - 1) + 1 by omega] at k3; exact k3)
theorem commit_word {S S' : SecS} {s s' : Dev} (hs : Still s) (hn : 16 ≤ s.n) (hd : ∀ k ∈ S.dirty.map Prod.fst, 0 ≤ k ∧ k * 8 < s.n) (e : S.commit s = .ok S' s') {x : Nat} (hx : x / 8 ≠ 1) (h : ((x / 8 : Nat) : Int) ∈ S.dirty.map Prod.fst ∨ s.kept x = s.now x) : s'.kept x = s'.now x := by
  have hmem : ∀ k, k ∈ sortI (S.dirty.map Prod.fst) ↔ k ∈ S.dirty.map Prod.fst := fun k => List.mem_mergeSort
  obtain ⟨s1, e1, e2, e3, e4, e5⟩ := flushAll_ne (sortI (S.dirty.map Prod.fst)) s hs.lim (fun k h => hd k ((hmem k).1 h))
  have hpk : s1.pk x = s.now x := by
    rw [e5]
    by_cases c : ((x / 8 : Nat) : Int) ∈ S.dirty.map Prod.fst
    · rw [if_pos ((hmem _).2 c)]
    · rw [if_neg (fun h => c ((hmem _).1 h)), still_pk hs.q]; exact h.resolve_left c
  unfold SecS.commit at e
  rw [e1, then_ok] at e
  have fin : ∀ s2 : Dev, s2.pow.lim < 0 → 16 ≤ s2.n → (s2.q = fun _ => none) → s2.kept x = s2.now x → ∀ L s3, S.L.truncate s2 = .ok L s3 → s3.kept x = s3.now x := fun s2 l1 l2 l3 l4 L s3 h3 => by
    by_cases h0 : S.L.n = 0
    · unfold LogS.truncate at h3
      rw [if_pos h0] at h3; cases h3; exact l4
    · rw [trunc_ne l1 l2 h0] at h3
      cases h3
      rw [ff_kept (by rw [sv_q, l3]), if_neg (by omega), ff_now, sv_kept, sv_now]
      unfold upd
      rw [if_neg (by omega)]; exact l4
  by_cases c : 0 < S.dirty.length
  · rw [if_pos c, fn_then e2] at e
    obtain ⟨L, s3, k1, k2⟩ := then_inv e
    cases k2
    exact fin s1.fn (by rw [fn_lim]; exact e2) (by rw [fn_n, e3]; exact hn) (fn_q _) (by rw [fn_kept, fn_now, hpk, e4]) _ _ k1
  · have hd0 : S.dirty = [] := List.length_eq_zero_iff.1 (by omega)
    have hs1 : s1 = s := by
      rw [hd0] at e1
      simp [sortI, flushAll] at e1
      exact e1.symm
    subst hs1
    rw [if_neg c, then_ok] at e
    obtain ⟨L, s3, k1, k2⟩ := then_inv e
    cases k2
    refine fin s1 hs.lim hn hs.q (h.resolve_left (by rw [hd0]; simp)) _ _ k1
theorem flip_kept {c : Cfg} (hc : CfgW c) {N bd : Nat} {S : SecS} {s : Dev} (h : SK c N bd S s) {b : Blk} (hl : (b.rts.length : Int) = c.roots) {S' : SecS} {s' : Dev} (e : flipM c b S s = .ok (0, S') s') {x : Nat} (hx : c.active ≤ x) (hk : (∃ y : Nat, c.active ≤ y ∧ (y : Int) < c.active + 2 + c.roots ∧ y / 8 = x / 8 ∧ s.now y ≠ (b.act :: b.used :: b.rts).getD (y - c.active.toNat) 0) ∨ ((c.active + 2 + c.roots ≤ x ∨ s.now x = (b.act :: b.used :: b.rts).getD (x - c.active.toNat) 0) ∧ s.kept x = s.now x)) : s'.kept x = s'.now x := by
  have hA := act_w hc
  have hf := frm_b hc (k := 0) (by omega)
  have hN := h.hN
  have hr := hc.r1
  have hlog := hc.l1
  have hI := in_begin (f := 0) (t := 0) (kp := False) h.still (fun h => h.elim) h.n h.hN h.lc h.lw h.ln h.sh
  have hact : (c.active : Int) = ((c.active.toNat : Nat) : Int) := by omega
  obtain ⟨S1, s1, js, e1, e2, e3, e4, e5, e6⟩ := writeN_run hc (b.act :: b.used :: b.rts) c.active.toNat (S.fresh 0 0) s [] hI (fun k hk => by cases hk) ⟨rfl, rfl⟩ (by omega) (by simp only [List.length_cons]; omega) (by simp only [List.length_cons, List.length_nil]; omega)
  obtain ⟨g1, g2, g3⟩ := writeN_kept hc (b.act :: b.used :: b.rts) c.active.toNat (S.fresh 0 0) s [] hI (fun k hk => by cases hk) ⟨rfl, rfl⟩ (by omega) (by simp only [List.length_cons]; omega) (by simp only [List.length_cons, List.length_nil]; omega) _ _ _ e1
  unfold flipM writeM at e
  rw [hact, e1] at e
  simp only [then_ok] at e
  rw [if_neg (by simp)] at e
  obtain ⟨S2, s2, k1, k2⟩ := then_inv e
  cases k2
  simp only [List.length_cons] at e6 g3
  refine commit_word e2.still (by rw [e2.n]; omega) (fun k hk => by have := e2.dirty k hk; rw [e2.n]; omega) k1 (by have := hc.act; omega) ?_
  rcases hk with ⟨y, y1, y2, y3, y4⟩ | ⟨z1, z2⟩
  · left
    rw [← y3]
    exact g3 y (by omega) (by omega) y4
  · right
    rw [g1 x hx, e6 x hx, z2]
    by_cases hc2 : c.active.toNat ≤ x ∧ x < c.active.toNat + (b.rts.length + 1 + 1)
    · rw [if_pos hc2]
      exact z1.resolve_left (by omega)
    · rw [if_neg hc2]
end Go.Proofs.YtbfheafpecgphaaGreat
namespace Go.Proofs.YtbfheafpecgphaaGreat
open Go
abbrev PrR (R : List (Int × Int)) (v w : Int) : Prop := (v = 0 ∧ w = 0) ∨ (v, w) ∈ R
structure IsoR (c : Cfg) (a : Blk) (s : Dev) (b : Blk) (t : Dev) (R : List (Int × Int)) : Prop where
  nz : ∀ p ∈ R, (1 ≤ p.1 ∧ p.1 < 20000) ∧ (1 ≤ p.2 ∧ p.2 < 20000)
  i1 : ∀ p ∈ R, ∀ q ∈ R, p.1 = q.1 → p = q
  i2 : ∀ p ∈ R, ∀ q ∈ R, p.2 = q.2 → p = q
  of : ∀ p ∈ R, ∃ w r, s.objOf c a p.1 = ((w, r, p.1), 0) ∧ t.objOf c b p.2 = ((w, r, p.2), 0) ∧ (0 ≤ w ∧ w ≤ 64) ∧ (0 ≤ r ∧ r ≤ w) ∧ ∀ i : Nat, (i : Int) < w → if (i : Int) < r then PrR R (s.load (p.1 + 1 + i)) (t.load (p.2 + 1 + i)) else s.load (p.1 + 1 + i) = t.load (p.2 + 1 + i)
theorem nodup_leP {α : Type} [BEq α] [LawfulBEq α] : ∀ {d l : List α}, d.Nodup → (∀ x ∈ d, x ∈ l) → d.length ≤ l.length
  | [], _, _, _ => Nat.zero_le _
  | x :: d, l, hn, h => by
    rw [List.nodup_cons] at hn
    have h1 := h x (List.mem_cons_self ..)
    have h2 := nodup_leP (l := l.erase x) hn.2 (fun y hy => (List.mem_erase_of_ne (by intro e; subst e; exact hn.1 hy)).2 (h y (List.mem_cons_of_mem _ hy)))
    have h3 := List.length_erase_of_mem h1
    have h4 := List.length_pos_of_mem h1
    simp only [List.length_cons]; omega
abbrev encP (p : Int × Int) : List Value := [w64 p.1, w64 p.2]
theorem encP_w : EncW 2 encP := ⟨fun _ => rfl, fun _ => rfl⟩
theorem mval_w (o : Option Int) : mval w64 (w64 0) o = w64 (o.getD 0) := by cases o <;> rfl
theorem smget_in {k v : Int} : ∀ {l : List (Int × Int)}, mget l k = some v → (k, v) ∈ l
  | [], h => by cases h
  | q :: l, h => by
    unfold mget at h
    split at h
    · rename_i e; cases h; subst e; exact List.mem_cons_self ..
    · exact List.mem_cons_of_mem _ (smget_in h)
theorem smget_of {k v : Int} : ∀ {l : List (Int × Int)}, (k, v) ∈ l → ∃ u, mget l k = some u
  | [], h => by cases h
  | q :: l, h => by
    unfold mget
    by_cases e : q.1 = k
    · rw [if_pos e]; exact ⟨_, rfl⟩
    · rw [if_neg e]
      rcases List.mem_cons.1 h with rfl | h
      · exact absurd rfl e
      · exact smget_of h
theorem same_to {R M : List (Int × Int)} (hi : ∀ p ∈ R, ∀ q ∈ R, p.1 = q.1 → p = q) (hM : ∀ p ∈ M, p ∈ R) {p : Int × Int} (hp : p ∈ R) {x : Int} (h : mget M p.1 = some x) : x = p.2 ∧ p ∈ M := by
  have h1 := smget_in h
  have h2 := hi _ (hM _ h1) p hp rfl
  exact ⟨congrArg Prod.snd h2, h2 ▸ h1⟩
theorem same_swap {M : List (Int × Int)} {p : Int × Int} : (p.2, p.1) ∈ M.map Prod.swap ↔ p ∈ M := by
  rw [List.mem_map]
  exact ⟨fun ⟨q, hq, e⟩ => by cases q; cases p; cases e; exact hq, fun h => ⟨p, h, rfl⟩⟩
theorem same_from {R M : List (Int × Int)} (hi : ∀ p ∈ R, ∀ q ∈ R, p.2 = q.2 → p = q) (hM : ∀ p ∈ M, p ∈ R) {p : Int × Int} (hp : p ∈ R) {x : Int} (h : mget (M.map Prod.swap) p.2 = some x) : x = p.1 ∧ p ∈ M := by
  have h1 := smget_in h
  have h3 : ((x, p.2) : Int × Int) ∈ M := (same_swap (p := (x, p.2))).1 h1
  have h2 := hi _ (hM _ h3) p hp rfl
  exact ⟨congrArg Prod.fst h2, h2 ▸ h3⟩
theorem same_ok (B : World) (Fr : List HP) (bd be : Nat) (s t : Dev) (c : Cfg) (hc : CfgW c) (a b : Blk) (sva svb : Value) (hba : BlkW c a) (hbb : BlkW c b) (hsva : cell1 sva = true) (hsvb : cell1 svb = true) (hus : U64 s) (hut : U64 t) (R : List (Int × Int)) (hR : IsoR c a s b t R) (hRl : R.length ≤ 1000000) (vs ws : List Int) (hvw : vs.length = ws.length) (hvl : vs.length ≤ 1000000) (hpr : ∀ i (h : i < vs.length), PrR R vs[i] (ws[i]'(by omega))) (qv qw : Option Addr) (cv cw : Nat) (hqv : ∀ i, i < vs.length → ∃ b off, qv = some ⟨b, off, none⟩) (hqw : ∀ i, i < ws.length → ∃ b off, qw = some ⟨b, off, none⟩) (hv : SlR B Fr (.slice qv vs.length cv) (vs.map w64)) (hw : SlR B Fr (.slice qw ws.length cw) (ws.map w64)) :
    ∀ w, Holds B (DevA bd s :: DevA be t :: Fr) w → Calls Tryz.prog 28 [ptr bd, cfgV c, blkV a sva, .slice qv vs.length cv, ptr be, blkV b svb, .slice qw ws.length cw].toArray w (PureR B (DevA bd s :: DevA be t :: Fr) (.bool true)) := by
  refine fn_enter Tryz.func28 rfl Tryz.ntmps28 rfl ?_; refine g_seq ?_; refine g_region ?_; refine p_chg rfl (ch_boxA rfl) .free rfl rfl ?_
  rintro _ _ ⟨b8, rfl, rfl⟩
  refine p_chg rfl (ch_boxA rfl) .free rfl rfl ?_
  rintro _ _ ⟨b9, rfl, rfl⟩
  refine p_chg rfl (ch_boxA rfl) .free rfl rfl ?_
  rintro _ _ ⟨b12, rfl, rfl⟩
  refine kPa rfl rfl ?_; refine p_nil ?_; refine g_seq ?_; refine g_seq ?_; refine g_region ?_; refine kPm rfl rfl ?_; refine kPv (ev_len rfl Tryz.runUnderlying31 ⟨_, rfl⟩ rfl) rfl ?_; refine kPm rfl rfl ?_; refine kPv (ev_len rfl Tryz.runUnderlying31 ⟨_, rfl⟩ rfl) rfl ?_; refine kPv (ev_cmp rfl rfl rfl) rfl ?_; refine p_nil ?_; refine go_sub (σ' := [(35, _), (14, _), (12, _), (9, _), (8, _), (0, _), (3, _), (4, _), (6, _)]) ⟨rfl, rfl, rfl, rfl, rfl, rfl, rfl, rfl, rfl, trivial⟩ ?_
  refine g_iff rfl ((by rw [hvw]; simp)) ?_
  refine g_skip ?_; refine g_seq ?_; refine g_region ?_; refine p_chg rfl (ch_makeMap .u64 w64) .free rfl rfl ?_
  rintro _ _ ⟨m1, rfl, rfl⟩
  refine p_chg rfl (ch_makeMap .u64 w64) .free rfl rfl ?_
  rintro _ _ ⟨m2, rfl, rfl⟩
  refine kPa rfl rfl ?_; refine kPa rfl rfl ?_; refine p_nil ?_; refine g_seq ?_; refine g_region ?_; refine kPa rfl rfl ?_; refine p_nil ?_; refine g_seq ?_; refine g_seq ?_; refine go_conv (fun w hh => vecg_nil (α := Int × Int) (T := 136) (m := 2) (enc := encP) hh) ?_; refine g_region ?_; refine kPm rfl rfl ?_; refine kPv (ev_len rfl Tryz.runUnderlying31 ⟨_, rfl⟩ rfl) rfl ?_; refine kPm rfl rfl ?_; refine p_nil ?_; refine g_block ?_
  refine g_loopk (ι := Nat × List (Int × Int) × Value) [39, 16, 15, 14, 12, 9, 8, 0, 3, 4, 6] (fun (k, TD, tv) => (k ≤ vs.length) ∧ (∀ x ∈ TD, PrR R x.1 x.2) ∧ (TD.length ≤ k) ∧ (cell1 tv = true)) (fun (k, TD, tv) => [(40, i64 k), (17, tv)]) (fun (k, TD, tv) => VecG 136 2 encP 0 (tv, TD) :: mapA .u64 w64 m1 [] :: mapA .u64 w64 m2 [] :: row b8 [i64 c.log, i64 c.roots, i64 c.space] 30 :: row b9 [i64 a.act, i64 a.used, sva] 33 :: row b12 [i64 b.act, i64 b.used, svb] 33 :: DevA bd s :: DevA be t :: Fr) (fun (k, TD, tv) => vs.length - k) (0, [], .slice none 0 0) (⟨Nat.zero_le _, fun _ h => (by cases h), Nat.zero_le _, rfl⟩) (fun a w st => st.to ⟨rfl, rfl, trivial⟩ (fun hh => (hh.pk [0, 1, 0, 2, 1]))) ?_
  rintro ⟨k, TD, tv⟩ ⟨hk0, hT, htl, htv⟩
  try simp only at hk0 hT htl htv ⊢
  refine go_sub (σ' := [(40, i64 k), (17, tv), (39, _), (16, _), (15, _), (14, _), (12, _), (9, _), (8, _), (0, _), (3, _), (4, _), (6, _)]) ⟨rfl, rfl, rfl, rfl, rfl, rfl, rfl, rfl, rfl, rfl, rfl, rfl, rfl, trivial⟩ ?_; refine g_seq ?_; refine g_region ?_; refine kPv (ev_cmp rfl rfl rfl) rfl ?_; refine p_nil ?_; refine g_seq ?_
  refine g_if rfl (fun h41 => ?_) (fun h41 => ?_)
  · have hk : k < vs.length := by simp at h41; omega
    have hk' : k < ws.length := by omega
    obtain ⟨b1, o1, rfl⟩ := hqv k hk
    obtain ⟨b2, o2, rfl⟩ := hqw k (by omega)
    refine g_skip ?_; refine g_seq ?_; refine g_block ?_; refine g_seq ?_; refine g_region ?_; refine kPm rfl rfl ?_; refine kPa rfl rfl ?_; refine p_nil ?_; refine g_drawv [0, 1, 2, 3, 4, 5, 6, 7, 8, 9, 10, 11, 12] [10, 11] [0] [10] [] Tryz.mixed (by kernel_rfl) ?_; refine v_hoist rfl rfl rfl (ev_move rfl) .free rfl ?_; refine v_val rfl rfl rfl (ev_move rfl) .free rfl ?_; refine v_val rfl rfl rfl (ev_move rfl) .free rfl ?_
    refine v_val rfl rfl rfl (ev_iaS Tryz.runUnderlying31 Tryz.sizeOf52 rfl rfl (by omega) (by omega)) .free rfl ?_
    refine v_val rfl rfl rfl (ev_loadS (v := w64 vs[k]) Tryz.isAgg52 hv.up rfl (by rw [Int.toNat_natCast, List.getElem?_map, List.getElem?_eq_getElem (by omega)]; rfl)) .free rfl ?_
    refine v_val rfl rfl rfl (ev_move rfl) .free rfl ?_; refine v_val rfl rfl rfl (ev_move rfl) .free rfl ?_; refine v_val rfl rfl rfl (ev_iaS Tryz.runUnderlying31 Tryz.sizeOf52 rfl rfl (by omega) (by omega)) .free rfl ?_
    refine v_val rfl rfl rfl (ev_loadS (v := w64 (ws[k]'hk')) Tryz.isAgg52 hw.up rfl (by rw [Int.toNat_natCast, List.getElem?_map, List.getElem?_eq_getElem (by omega)]; rfl)) .free rfl ?_
    refine v_val rfl rfl rfl (ev_build rfl (bld_136_0_1 _ _ rfl rfl)) .free rfl ?_; refine v_mark rfl rfl ?_; refine p_chg rfl (ch_bsG encP_w (v := (vs[k], ws[k]'hk')) Tryz.runUnderlying134 Tryz.sizeOf136 Tryz.zeroValue136 ⟨⟨by decide, by decide⟩, rfl⟩ rfl rfl) .free rfl rfl ?_
    rintro _ _ ⟨b53, rfl, rfl⟩
    refine p_nil ?_; refine v_on ?_; refine v_mark rfl rfl ?_; refine go_pk [1, 0] ?_; refine p_chg rfl (ch_append_vecg encP_w (ys := [(vs[k], ws[k]'hk')]) rfl rfl Tryz.runUnderlying134 Tryz.runUnderlying134 ⟨_, rfl⟩ Tryz.sizeOf136 Tryz.zeroValue136 rfl tb_136 rfl rfl (SlM.row (b := b53) rfl rfl) (Nat.succ_pos _) (by simp; omega)) .free rfl rfl ?_
    rintro tv2 _ ⟨htv2, rfl⟩
    refine p_nil ?_; refine v_off rfl ?_; refine v_val rfl rfl rfl (ev_assign rfl) .free rfl ?_; refine v_nil ?_; refine go_sub (σ' := [(17, _), (40, _), (39, _), (16, _), (15, _), (14, _), (12, _), (9, _), (8, _), (0, _), (3, _), (4, _), (6, _)]) ⟨rfl, rfl, rfl, rfl, rfl, rfl, rfl, rfl, rfl, rfl, rfl, rfl, rfl, trivial⟩ ?_; refine g_region ?_
    first | refine p_val rfl (ev_add rfl rfl (wr64 (by omega))) .free rfl rfl ?_ | refine p_val rfl (ev_add rfl rfl rfl) .free rfl rfl ?_
    refine kPm rfl rfl ?_; refine p_nil ?_
    exact fun a w st_ => ⟨(k + 1, TD ++ [(vs[k], ws[k]'hk')], tv2), ⟨by omega, fun x hx => (List.mem_append.1 hx).elim (hT x) (fun h => by rw [List.mem_singleton.1 h]; exact hpr k hk), by simp only [List.length_append, List.length_cons, List.length_nil]; omega, htv2⟩, by simp only; omega, st_.to ⟨rfl, rfl, rfl, rfl, rfl, rfl, rfl, rfl, rfl, rfl, rfl, rfl, rfl, trivial⟩ (fun hh => (hh.dp [1]))⟩
  · have hk : ¬ k < vs.length := by simp at h41; omega
    refine g_exit ?_; refine g_seq ?_; refine g_block ?_
    refine g_loopk (ι := List (Int × Int) × List (Int × Int) × Value) [16, 15, 14, 12, 9, 8, 0, 4] (fun (M, TD, tv) => (∀ x ∈ M, x ∈ R) ∧ (M.Nodup) ∧ (∀ x ∈ TD, PrR R x.1 x.2) ∧ (66 * (R.length - M.length) + TD.length ≤ 66 * R.length + vs.length) ∧ (cell1 tv = true)) (fun (M, TD, tv) => [(17, tv)]) (fun (M, TD, tv) => VecG 136 2 encP 0 (tv, TD) :: mapA .u64 w64 m1 M :: mapA .u64 w64 m2 (M.map Prod.swap) :: row b8 [i64 c.log, i64 c.roots, i64 c.space] 30 :: row b9 [i64 a.act, i64 a.used, sva] 33 :: row b12 [i64 b.act, i64 b.used, svb] 33 :: DevA bd s :: DevA be t :: Fr) (fun (M, TD, tv) => 66 * (R.length - M.length) + TD.length) ([], TD, tv) (⟨fun _ h => (by cases h), List.nodup_nil, hT, by simp only [List.length_nil]; omega, htv⟩) (fun a w st => st.to ⟨rfl, trivial⟩ (fun hh => hh)) ?_
    rintro ⟨M, TD, tv⟩ ⟨hM, hnd, hT, hms, htv⟩
    try simp only at hM hnd hT hms htv ⊢
    refine go_sub (σ' := [(17, tv), (16, _), (15, _), (14, _), (12, _), (9, _), (8, _), (0, _), (4, _)]) ⟨rfl, rfl, rfl, rfl, rfl, rfl, rfl, rfl, rfl, trivial⟩ ?_; refine g_seq ?_; refine g_seq ?_; refine go_vecgq fun q2 cap2 hq2 hqi => ?_
    subst hq2
    refine g_region ?_; refine kPm rfl rfl ?_; refine kPv (ev_len rfl Tryz.runUnderlying134 ⟨_, rfl⟩ rfl) rfl ?_; refine kPv (ev_cmp rfl rfl rfl) rfl ?_; refine p_nil ?_
    refine g_if rfl (fun h58 => ?_) (fun h58 => ?_)
    · obtain ⟨p, TD', rfl⟩ : ∃ p TD', TD = p :: TD' := by
        cases TD with
        | nil => simp at h58
        | cons p t => exact ⟨p, t, rfl⟩
      obtain ⟨bq2, oq2, rfl⟩ := hqi 0 (Nat.succ_pos _)
      have hpp := hT p (List.mem_cons_self ..)
      have hT' : ∀ x ∈ TD', PrR R x.1 x.2 := fun x hx => hT x (List.mem_cons_of_mem _ hx)
      simp only [List.length_cons] at hms
      refine g_skip ?_; refine g_block ?_; refine g_seq ?_; refine g_region ?_; refine kPm rfl rfl ?_; refine kPv (ev_ia (m := oq2 + 0 * 2) Tryz.runUnderlying134 Tryz.sizeOf136 rfl rfl (by decide) (by simp only [List.length_cons]; omega) rfl) rfl ?_
      refine kPv (ev_loadN (i := 0) Tryz.isAgg136 Tryz.sizeOf136 (vecg_sln encP_w 0 rfl) rfl rfl) rfl ?_; refine p_chg rfl (ch_allocA Tryz.zeroValue136 rfl) .free rfl rfl ?_
      rintro _ _ ⟨b19, rfl, rfl⟩
      refine p_chg0 rfl (ch_storeA (vs := [w64 p.1, w64 p.2]) Tryz.sizeOf136 rfl rfl rfl rfl rfl) .free rfl ?_
      rintro _ _ rfl
      refine go_conv (H' := row b19 [w64 p.1, w64 p.2] 136 :: _) (fun w hh => hh) ?_; refine p_nil ?_; refine g_seq ?_; refine g_region ?_; refine kPm rfl rfl ?_; refine go_pk [1] ?_; refine p_chg rfl (ch_tail_vecg encP_w (v := p) (xs := TD') Tryz.runUnderlying134 Tryz.sizeOf136 rfl rfl) .free rfl rfl ?_
      rintro tv3 _ ⟨htv3, rfl⟩
      refine kPa rfl rfl ?_; refine p_nil ?_; refine go_sub (σ' := [(17, _), (19, _), (16, _), (15, _), (14, _), (12, _), (9, _), (8, _), (0, _), (4, _)]) ⟨rfl, rfl, rfl, rfl, rfl, rfl, rfl, rfl, rfl, rfl, trivial⟩ ?_; refine g_seq ?_; refine g_seq ?_
      rcases Bool.eq_false_or_eq_true (p.1 == 0) with hz | hz
      · skip
        have hp1 : p.1 = 0 := by simpa using hz
        have hp2 : p.2 = 0 := hpp.elim (fun h => h.2) (fun h => absurd hp1 (by have := (hR.nz _ h).1; simp only at this; omega))
        refine g_region ?_; refine kPv (ev_fa (m := _) fa_136_0 rfl rfl) rfl ?_; refine kPv (ev_load Tryz.isAgg52 rfl rfl) rfl ?_; refine kPv (ev_cmp rfl rfl rfl) rfl ?_; refine kPm rfl rfl ?_; refine p_skip rfl (.on rfl rfl (beq_ne hz)) rfl ?_; refine p_skip rfl (.on rfl rfl (beq_ne hz)) rfl ?_; refine p_skip rfl (.on rfl rfl (beq_ne hz)) rfl ?_; refine kPv (ev_pick_t rfl hz rfl) rfl ?_; refine p_nil ?_
        refine go_sub (σ' := [(71, _), (17, _), (19, _), (16, _), (15, _), (14, _), (12, _), (9, _), (8, _), (0, _), (4, _)]) ⟨rfl, rfl, rfl, rfl, rfl, rfl, rfl, rfl, rfl, rfl, rfl, trivial⟩ ?_; refine g_ift rfl (rfl) ?_; refine g_seq ?_; refine g_seq ?_; refine g_region ?_; refine kPv (ev_fa (m := _) fa_136_0 rfl rfl) rfl ?_; refine kPv (ev_load Tryz.isAgg52 rfl rfl) rfl ?_; refine kPv (ev_fa (m := _) fa_136_1 rfl rfl) rfl ?_; refine kPv (ev_load Tryz.isAgg52 rfl rfl) rfl ?_
        refine kPv (ev_cmp rfl rfl rfl) rfl ?_; refine p_nil ?_; refine g_iff rfl ((by rw [hp1, hp2]; rfl)) ?_
        refine g_skip ?_; refine g_exit ?_
        exact fun a w st_ => ⟨(M, TD', tv3), ⟨hM, hnd, hT', by simp only; omega, htv3⟩, by simp only [List.length_cons]; omega, st_.to ⟨rfl, rfl, rfl, rfl, rfl, rfl, rfl, rfl, rfl, trivial⟩ (fun hh => (by have h9 := (hh.dp [1]); first | exact h9 | (simp only [List.map_append]; exact h9)))⟩
      · skip
        have hp1 : p.1 ≠ 0 := by simpa using hz
        have hpR : p ∈ R := hpp.resolve_left (fun h => hp1 h.1)
        have hnz := hR.nz p hpR
        have hms' := hms
        refine g_region ?_; refine kPv (ev_fa (m := _) fa_136_0 rfl rfl) rfl ?_; refine kPv (ev_load Tryz.isAgg52 rfl rfl) rfl ?_; refine kPv (ev_cmp rfl rfl rfl) rfl ?_; refine kPm rfl rfl ?_; refine p_val rfl (ev_fa (m := _) fa_136_1 rfl rfl) (.on rfl rfl (beq_eq hz)) rfl rfl ?_; refine p_val rfl (ev_load Tryz.isAgg52 rfl rfl) (.on rfl rfl (beq_eq hz)) rfl rfl ?_; refine p_val rfl (ev_cmp rfl rfl rfl) (.on rfl rfl (beq_eq hz)) rfl rfl ?_; refine kPv (ev_pick_f rfl hz rfl) rfl ?_
        refine p_nil ?_; refine go_sub (σ' := [(71, _), (17, _), (19, _), (16, _), (15, _), (14, _), (12, _), (9, _), (8, _), (0, _), (4, _)]) ⟨rfl, rfl, rfl, rfl, rfl, rfl, rfl, rfl, rfl, rfl, rfl, trivial⟩ ?_; refine g_iff rfl ((by simp; omega)) ?_
        refine g_skip ?_; refine g_seq ?_; refine g_region ?_; refine kPm rfl rfl ?_; refine kPv (ev_fa (m := _) fa_136_0 rfl rfl) rfl ?_; refine kPv (ev_load Tryz.isAgg52 rfl rfl) rfl ?_; refine kPv ((ev_lookup2 Tryz.runUnderlying133 Tryz.runUnderlying52 Tryz.zeroValue52 rfl rfl).eq (congrArg (fun v => Value.tuple #[v, .bool _]) (mval_w _))) rfl ?_; refine kPm rfl rfl ?_; refine kPv (ev_ext rfl rfl) rfl ?_; refine kPv (ev_ext rfl rfl) rfl ?_; refine kPa rfl rfl ?_; refine kPa rfl rfl ?_
        refine p_nil ?_; refine go_sub (σ' := [(21, _), (20, _), (17, _), (19, _), (16, _), (15, _), (14, _), (12, _), (9, _), (8, _), (0, _), (4, _)]) ⟨rfl, rfl, rfl, rfl, rfl, rfl, rfl, rfl, rfl, rfl, rfl, rfl, trivial⟩ ?_; refine g_seq ?_; refine g_region ?_; refine kPm rfl rfl ?_; refine kPv (ev_fa (m := _) fa_136_1 rfl rfl) rfl ?_; refine kPv (ev_load Tryz.isAgg52 rfl rfl) rfl ?_
        refine kPv ((ev_lookup2 Tryz.runUnderlying133 Tryz.runUnderlying52 Tryz.zeroValue52 rfl rfl).eq (congrArg (fun v => Value.tuple #[v, .bool _]) (mval_w _))) rfl ?_; refine kPm rfl rfl ?_; refine kPv (ev_ext rfl rfl) rfl ?_; refine kPv (ev_ext rfl rfl) rfl ?_; refine kPa rfl rfl ?_; refine kPa rfl rfl ?_; refine p_nil ?_
        refine go_sub (σ' := [(23, _), (22, _), (21, _), (20, _), (17, _), (19, _), (16, _), (15, _), (14, _), (12, _), (9, _), (8, _), (0, _), (4, _)]) ⟨rfl, rfl, rfl, rfl, rfl, rfl, rfl, rfl, rfl, rfl, rfl, rfl, rfl, rfl, trivial⟩ ?_; refine g_seq ?_; refine g_seq ?_
        rcases Bool.eq_false_or_eq_true ((mget M p.1).isSome) with ho | ho
        · skip
          obtain ⟨x, hx⟩ := Option.isSome_iff_exists.1 ho
          obtain ⟨rfl, hpM⟩ := same_to hR.i1 hM hpR hx
          have hx1 := hx
          obtain ⟨y, hy⟩ := smget_of ((same_swap (p := p)).2 hpM)
          obtain ⟨rfl, _⟩ := same_from hR.i2 hM hpR hy
          have hx2 := hy
          refine g_region ?_; refine kPm rfl rfl ?_; refine kPm rfl rfl ?_; refine p_skip rfl (.on rfl rfl (beq_ne ho)) rfl ?_; refine kPv (ev_pick_t rfl ho rfl) rfl ?_; refine p_nil ?_; refine g_ift rfl (rfl) ?_; refine g_seq ?_; refine g_seq ?_; refine g_region ?_; refine kPm rfl rfl ?_; refine kPv (ev_not rfl) rfl ?_; refine kPm rfl rfl ?_; refine p_val rfl (ev_move rfl) (.on rfl rfl (beq_eq (by rw [hx1]; rfl))) rfl rfl ?_
          refine p_val rfl (ev_not rfl) (.on rfl rfl (beq_eq (by rw [hx1]; rfl))) rfl rfl ?_
          refine kPv (ev_pick_f rfl (by rw [hx1]; rfl) rfl) rfl ?_
          refine kPm rfl rfl ?_; refine p_val rfl (ev_move rfl) (.on rfl rfl (beq_eq (by rw [hx2]; rfl))) rfl rfl ?_
          refine p_val rfl (ev_fa (m := _) fa_136_1 rfl rfl) (.on rfl rfl (beq_eq (by rw [hx2]; rfl))) rfl rfl ?_
          refine p_val rfl (ev_load Tryz.isAgg52 rfl rfl) (.on rfl rfl (beq_eq (by rw [hx2]; rfl))) rfl rfl ?_
          refine p_val rfl (ev_cmp rfl rfl rfl) (.on rfl rfl (beq_eq (by rw [hx2]; rfl))) rfl rfl ?_
          refine kPv (ev_pick_f rfl (by rw [hx2]; rfl) rfl) rfl ?_
          refine kPm rfl rfl ?_; refine p_val rfl (ev_move rfl) (.on rfl rfl (beq_eq (by rw [hx1]; simp))) rfl rfl ?_
          refine p_val rfl (ev_fa (m := _) fa_136_0 rfl rfl) (.on rfl rfl (beq_eq (by rw [hx1]; simp))) rfl rfl ?_
          refine p_val rfl (ev_load Tryz.isAgg52 rfl rfl) (.on rfl rfl (beq_eq (by rw [hx1]; simp))) rfl rfl ?_
          refine p_val rfl (ev_cmp rfl rfl rfl) (.on rfl rfl (beq_eq (by rw [hx1]; simp))) rfl rfl ?_
          refine kPv (ev_pick_f rfl (by rw [hx1]; simp) rfl) rfl ?_
          refine p_nil ?_; refine go_sub (σ' := [(112, _), (17, _), (19, _), (16, _), (15, _), (14, _), (12, _), (9, _), (8, _), (0, _), (4, _)]) ⟨rfl, rfl, rfl, rfl, rfl, rfl, rfl, rfl, rfl, rfl, rfl, trivial⟩ ?_; refine g_iff rfl ((by rw [hx2]; simp)) ?_
          refine g_skip ?_; refine g_exit ?_
          exact fun a w st_ => ⟨(M, TD', tv3), ⟨hM, hnd, hT', by simp only; omega, htv3⟩, by simp only [List.length_cons]; omega, st_.to ⟨rfl, rfl, rfl, rfl, rfl, rfl, rfl, rfl, rfl, trivial⟩ (fun hh => (by have h9 := (hh.dp [1]); first | exact h9 | (simp only [List.map_append]; exact h9)))⟩
        · skip
          have hno : mget M p.1 = none := by simpa using ho
          have hpM : p ∉ M := fun hm => by
            obtain ⟨u, hu⟩ := smget_of (k := p.1) (v := p.2) hm
            rw [hno] at hu; cases hu
          have hno2 : mget (M.map Prod.swap) p.2 = none := by
            cases hy : mget (M.map Prod.swap) p.2 with
            | none => rfl
            | some y => exact absurd (same_from hR.i2 hM hpR hy).2 hpM
          obtain ⟨w_, r_, ho1, ho2, hw_, hr_, hfl⟩ := hR.of p hpR
          have hnd' : (M ++ [p]).Nodup := by rw [List.nodup_append]; exact ⟨hnd, by simp, fun a ha b' hb' => by simp at hb'; subst hb'; intro e; subst e; exact hpM ha⟩
          have hM' : ∀ x ∈ M ++ [p], x ∈ R := fun x hx => (List.mem_append.1 hx).elim (hM x) (fun h => by rw [List.mem_singleton.1 h]; exact hpR)
          have hle' := nodup_leP hnd' hM'
          simp only [List.length_append, List.length_cons, List.length_nil] at hle'
          refine g_region ?_; refine kPm rfl rfl ?_; refine kPm rfl rfl ?_; refine p_val rfl (ev_move rfl) (.on rfl rfl (beq_eq ho)) rfl rfl ?_; refine kPv (ev_pick_f rfl ho rfl) rfl ?_; refine p_nil ?_; refine g_iff rfl ((by rw [hno2]; rfl)) ?_
          refine g_skip ?_; refine g_seq ?_; refine g_drawv [0, 1, 2, 3, 4, 5, 6, 7, 8, 9, 10, 11] [10, 11] [3, 4, 5, 8, 9] [10] [row b19 [w64 p.1, w64 p.2] 136] Tryz.mixed (by kernel_rfl) ?_; refine v_val rfl rfl rfl (ev_move rfl) .free rfl ?_; refine v_val rfl rfl rfl (ev_fa (m := _) fa_136_0 rfl rfl) .free rfl ?_; refine v_val rfl rfl rfl (ev_load Tryz.isAgg52 rfl rfl) .free rfl ?_; refine v_hoist rfl rfl rfl (ev_move rfl) .free rfl ?_
          refine v_hoist rfl rfl rfl (ev_fa (m := _) fa_136_1 rfl rfl) .free rfl ?_; refine v_hoist rfl rfl rfl (ev_load Tryz.isAgg52 rfl rfl) .free rfl ?_; refine v_val rfl rfl rfl (ev_fa (m := _) fa_136_1 rfl rfl) .free rfl ?_; refine v_val rfl rfl rfl (ev_load Tryz.isAgg52 rfl rfl) .free rfl ?_; refine v_hoist rfl rfl rfl (ev_fa (m := _) fa_136_0 rfl rfl) .free rfl ?_; refine v_hoist rfl rfl rfl (ev_load Tryz.isAgg52 rfl rfl) .free rfl ?_; refine v_mark rfl rfl ?_
          refine p_chg0 rfl (ch_mapset (enc := w64) Tryz.runUnderlying133 Tryz.runUnderlying52 rfl rfl rfl rfl) .free rfl ?_
          rintro _ _ rfl
          refine p_nil ?_; refine v_on ?_; refine v_mark rfl rfl ?_; refine p_chg0 rfl (ch_mapset (enc := w64) Tryz.runUnderlying133 Tryz.runUnderlying52 rfl rfl rfl rfl) .free rfl ?_
          rintro _ _ rfl
          refine p_nil ?_; refine v_off rfl ?_; refine v_nil ?_; refine go_sub (σ' := [(17, _), (19, _), (16, _), (15, _), (14, _), (12, _), (9, _), (8, _), (0, _), (4, _)]) ⟨rfl, rfl, rfl, rfl, rfl, rfl, rfl, rfl, rfl, rfl, trivial⟩ ?_; refine g_seq ?_
          rw [mset_none hno, mset_none hno2]
          refine g_region ?_; refine kPm rfl rfl ?_; refine kPv (ev_loadA Tryz.isAgg30 Tryz.sizeOf30 rfl rfl) rfl ?_; refine kPv (ev_loadA Tryz.isAgg33 Tryz.sizeOf33 rfl rfl) rfl ?_; refine kPv (ev_fa (m := _) fa_136_0 rfl rfl) rfl ?_; refine kPv (ev_load Tryz.isAgg52 rfl rfl) rfl ?_
          first | refine p_val rfl (ev_conv Tryz.runUnderlying52 Tryz.runUnderlying3 rfl (wr64 (by omega))) .free rfl rfl ?_ | refine p_val rfl (ev_conv Tryz.runUnderlying52 Tryz.runUnderlying3 rfl rfl) .free rfl rfl ?_
          refine p_callq rfl (en_f Tryz.call51 rfl) (ro_at (q := DevA) (fun Fr => obj_ok _ Fr bd s c hc a sva hba hsva p.1 (by omega))) .free rfl rfl ?_; refine kPm rfl rfl ?_; refine kPv (ev_ext rfl rfl) rfl ?_; refine kPv (ev_ext rfl rfl) rfl ?_; refine p_chg rfl (ch_allocA Tryz.zeroValue89 rfl) .free rfl rfl ?_
          rintro _ _ ⟨b24, rfl, rfl⟩
          rw [ho1]
          refine p_chg0 rfl (ch_storeA (vs := [i64 w_, i64 r_, i64 p.1]) Tryz.sizeOf89 rfl rfl rfl rfl rfl) .free rfl ?_
          rintro _ _ rfl
          refine go_conv (H' := row b24 [i64 w_, i64 r_, i64 p.1] 89 :: _) (fun w hh => hh) ?_; refine kPa rfl rfl ?_; refine p_nil ?_; refine go_sub (σ' := [(25, _), (24, _), (17, _), (19, _), (16, _), (15, _), (14, _), (12, _), (9, _), (8, _), (0, _), (4, _)]) ⟨rfl, rfl, rfl, rfl, rfl, rfl, rfl, rfl, rfl, rfl, rfl, rfl, trivial⟩ ?_; refine g_seq ?_; refine g_region ?_; refine kPm rfl rfl ?_; refine kPv (ev_loadA Tryz.isAgg30 Tryz.sizeOf30 rfl rfl) rfl ?_
          refine kPv (ev_loadA Tryz.isAgg33 Tryz.sizeOf33 rfl rfl) rfl ?_; refine kPv (ev_fa (m := _) fa_136_1 rfl rfl) rfl ?_; refine kPv (ev_load Tryz.isAgg52 rfl rfl) rfl ?_
          first | refine p_val rfl (ev_conv Tryz.runUnderlying52 Tryz.runUnderlying3 rfl (wr64 (by omega))) .free rfl rfl ?_ | refine p_val rfl (ev_conv Tryz.runUnderlying52 Tryz.runUnderlying3 rfl rfl) .free rfl rfl ?_
          refine p_callq rfl (en_f Tryz.call51 rfl) (ro_at (q := DevA) (fun Fr => obj_ok _ Fr be t c hc b svb hbb hsvb p.2 (by omega))) .free rfl rfl ?_; refine kPm rfl rfl ?_; refine kPv (ev_ext rfl rfl) rfl ?_; refine kPv (ev_ext rfl rfl) rfl ?_; refine p_chg rfl (ch_allocA Tryz.zeroValue89 rfl) .free rfl rfl ?_
          rintro _ _ ⟨b26, rfl, rfl⟩
          rw [ho2]
          refine p_chg0 rfl (ch_storeA (vs := [i64 w_, i64 r_, i64 p.2]) Tryz.sizeOf89 rfl rfl rfl rfl rfl) .free rfl ?_
          rintro _ _ rfl
          refine go_conv (H' := row b26 [i64 w_, i64 r_, i64 p.2] 89 :: _) (fun w hh => hh) ?_; refine kPa rfl rfl ?_; refine p_nil ?_; refine go_sub (σ' := [(27, _), (26, _), (25, _), (24, _), (17, _), (16, _), (15, _), (14, _), (12, _), (9, _), (8, _), (0, _), (4, _)]) ⟨rfl, rfl, rfl, rfl, rfl, rfl, rfl, rfl, rfl, rfl, rfl, rfl, rfl, trivial⟩ ?_; refine g_seq ?_; refine g_seq ?_; refine g_region ?_; refine kPm rfl rfl ?_; refine kPv (ev_cmp rfl rfl rfl) rfl ?_; refine kPm rfl rfl ?_
          refine p_val rfl (ev_move rfl) (.on rfl rfl (beq_eq rfl)) rfl rfl ?_; refine p_val rfl (ev_cmp rfl rfl rfl) (.on rfl rfl (beq_eq rfl)) rfl rfl ?_; refine kPv (ev_pick_f rfl rfl rfl) rfl ?_; refine kPm rfl rfl ?_; refine p_val rfl (ev_fa (m := _) fa_89_0 rfl rfl) (.on rfl rfl (beq_eq rfl)) rfl rfl ?_; refine p_val rfl (ev_fa (m := _) fa_87_0 rfl rfl) (.on rfl rfl (beq_eq rfl)) rfl rfl ?_; refine p_val rfl (ev_load Tryz.isAgg3 rfl rfl) (.on rfl rfl (beq_eq rfl)) rfl rfl ?_
          refine p_val rfl (ev_fa (m := _) fa_89_0 rfl rfl) (.on rfl rfl (beq_eq rfl)) rfl rfl ?_; refine p_val rfl (ev_fa (m := _) fa_87_0 rfl rfl) (.on rfl rfl (beq_eq rfl)) rfl rfl ?_; refine p_val rfl (ev_load Tryz.isAgg3 rfl rfl) (.on rfl rfl (beq_eq rfl)) rfl rfl ?_; refine p_val rfl (ev_cmp rfl rfl rfl) (.on rfl rfl (beq_eq rfl)) rfl rfl ?_; refine kPv (ev_pick_f rfl rfl rfl) rfl ?_; refine kPm rfl rfl ?_
          refine p_val rfl (ev_fa (m := _) fa_89_0 rfl rfl) (.on rfl rfl (beq_eq (by simp))) rfl rfl ?_; refine p_val rfl (ev_fa (m := _) fa_87_1 rfl rfl) (.on rfl rfl (beq_eq (by simp))) rfl rfl ?_; refine p_val rfl (ev_load Tryz.isAgg3 rfl rfl) (.on rfl rfl (beq_eq (by simp))) rfl rfl ?_; refine p_val rfl (ev_fa (m := _) fa_89_0 rfl rfl) (.on rfl rfl (beq_eq (by simp))) rfl rfl ?_; refine p_val rfl (ev_fa (m := _) fa_87_1 rfl rfl) (.on rfl rfl (beq_eq (by simp))) rfl rfl ?_
          refine p_val rfl (ev_load Tryz.isAgg3 rfl rfl) (.on rfl rfl (beq_eq (by simp))) rfl rfl ?_; refine p_val rfl (ev_cmp rfl rfl rfl) (.on rfl rfl (beq_eq (by simp))) rfl rfl ?_; refine kPv (ev_pick_f rfl (by simp) rfl) rfl ?_; refine p_nil ?_; refine go_sub (σ' := [(166, _), (26, _), (24, _), (17, _), (16, _), (15, _), (14, _), (12, _), (9, _), (8, _), (0, _), (4, _)]) ⟨rfl, rfl, rfl, rfl, rfl, rfl, rfl, rfl, rfl, rfl, rfl, rfl, trivial⟩ ?_; refine g_iff rfl ((by simp)) ?_
          refine g_skip ?_; refine g_seq ?_; refine g_region ?_; refine kPv (ev_fa (m := _) fa_89_0 rfl rfl) rfl ?_; refine kPv (ev_fa (m := _) fa_87_0 rfl rfl) rfl ?_; refine kPv (ev_load Tryz.isAgg3 rfl rfl) rfl ?_; refine kPm rfl rfl ?_; refine p_nil ?_; refine g_block ?_
          refine g_loopk (ι := Nat × List (Int × Int) × Value) [169, 26, 24, 16, 15, 14, 12, 9, 8, 0, 4] (fun (j, TD2, tv4) => ((j : Int) ≤ w_) ∧ (∀ x ∈ TD2, PrR R x.1 x.2) ∧ (TD2.length ≤ TD'.length + j) ∧ (cell1 tv4 = true)) (fun (j, TD2, tv4) => [(170, i64 j), (17, tv4)]) (fun (j, TD2, tv4) => VecG 136 2 encP 0 (tv4, TD2) :: mapA .u64 w64 m1 (M ++ [p]) :: mapA .u64 w64 m2 (M.map Prod.swap ++ [(p.2, p.1)]) :: row b24 [i64 w_, i64 r_, i64 p.1] 89 :: row b26 [i64 w_, i64 r_, i64 p.2] 89 :: row b19 [w64 p.1, w64 p.2] 136 :: row b8 [i64 c.log, i64 c.roots, i64 c.space] 30 :: row b9 [i64 a.act, i64 a.used, sva] 33 :: row b12 [i64 b.act, i64 b.used, svb] 33 :: DevA bd s :: DevA be t :: Fr) (fun (j, TD2, tv4) => (w_ - j).toNat) (0, TD', tv3) (⟨by omega, hT', Nat.le_refl _, htv3⟩) (fun a w st => st.to ⟨rfl, rfl, trivial⟩ (fun hh => (hh.pk [2, 3, 3, 1]))) ?_
          rintro ⟨j, TD2, tv4⟩ ⟨hj0, hT2, htl2, htv4⟩
          try simp only at hj0 hT2 htl2 htv4 ⊢
          refine go_sub (σ' := [(170, i64 j), (17, tv4), (169, _), (26, _), (24, _), (16, _), (15, _), (14, _), (12, _), (9, _), (8, _), (0, _), (4, _)]) ⟨rfl, rfl, rfl, rfl, rfl, rfl, rfl, rfl, rfl, rfl, rfl, rfl, rfl, trivial⟩ ?_; refine g_seq ?_; refine g_region ?_; refine kPv (ev_cmp rfl rfl rfl) rfl ?_; refine p_nil ?_; refine g_seq ?_
          refine g_if rfl (fun h171 => ?_) (fun h171 => ?_)
          · have hj : (j : Int) < w_ := by simpa using h171
            refine g_skip ?_; refine g_seq ?_; refine g_block ?_; refine g_seq ?_; refine g_region ?_; refine kPm rfl rfl ?_; refine kPa rfl rfl ?_; refine p_nil ?_; refine g_seq ?_; refine g_draw Tryz.mixed (by kernel_rfl) (by kernel_rfl) ?_; refine kQm rfl rfl ?_; refine kQv (ev_fa (m := _) fa_89_1 rfl rfl) rfl ?_; refine kQv (ev_load Tryz.isAgg3 rfl rfl) rfl ?_
            first | refine q_val rfl (ev_add rfl rfl (wr64 (by omega))) .free rfl ?_ | refine q_val rfl (ev_add rfl rfl rfl) .free rfl ?_
            refine kQm rfl rfl ?_
            first | refine q_val rfl (ev_add rfl rfl (wr64 (by omega))) .free rfl ?_ | refine q_val rfl (ev_add rfl rfl rfl) .free rfl ?_
            refine q_call rfl (en_f Tryz.call72 rfl) (ro_at (q := DevA) (fun Fr => nload_ok _ Fr bd s _)) .free rfl ?_; refine kQm rfl rfl ?_; refine kQv (ev_fa (m := _) fa_89_1 rfl rfl) rfl ?_; refine kQv (ev_load Tryz.isAgg3 rfl rfl) rfl ?_
            first | refine q_val rfl (ev_add rfl rfl (wr64 (by omega))) .free rfl ?_ | refine q_val rfl (ev_add rfl rfl rfl) .free rfl ?_
            refine kQm rfl rfl ?_
            first | refine q_val rfl (ev_add rfl rfl (wr64 (by omega))) .free rfl ?_ | refine q_val rfl (ev_add rfl rfl rfl) .free rfl ?_
            refine q_call rfl (en_f Tryz.call72 rfl) (ro_at (q := DevA) (fun Fr => nload_ok _ Fr be t _)) .free rfl ?_; refine kQa rfl rfl ?_; refine kQa rfl rfl ?_; refine q_nil ?_; refine go_sub (σ' := [(30, _), (29, _), (28, _), (170, _), (17, _), (169, _), (26, _), (24, _), (16, _), (15, _), (14, _), (12, _), (9, _), (8, _), (0, _), (4, _)]) ⟨rfl, rfl, rfl, rfl, rfl, rfl, rfl, rfl, rfl, rfl, rfl, rfl, rfl, rfl, rfl, rfl, trivial⟩ ?_; refine g_seq ?_; refine g_region ?_; refine kPm rfl rfl ?_
            refine kPv (ev_fa (m := _) fa_89_0 rfl rfl) rfl ?_; refine kPv (ev_fa (m := _) fa_87_1 rfl rfl) rfl ?_; refine kPv (ev_load Tryz.isAgg3 rfl rfl) rfl ?_; refine kPv (ev_cmp rfl rfl rfl) rfl ?_; refine p_nil ?_
            refine g_if rfl (fun h191 => ?_) (fun h191 => ?_)
            · have hjr : (j : Int) < r_ := by simpa using h191
              have hfj := hfl j hj
              rw [if_pos hjr] at hfj
              refine g_region ?_; refine kPm rfl rfl ?_; refine kPm rfl rfl ?_; refine kPm rfl rfl ?_; refine kPv (ev_build rfl (bld_136_0_1 _ _ rfl rfl)) rfl ?_; refine p_chg rfl (ch_bsG encP_w (v := (s.load (p.1 + 1 + j), t.load (p.2 + 1 + j))) Tryz.runUnderlying134 Tryz.sizeOf136 Tryz.zeroValue136 ⟨⟨by decide, by decide⟩, rfl⟩ rfl rfl) .free rfl rfl ?_
              rintro _ _ ⟨b196, rfl, rfl⟩
              refine go_pk [1, 0] ?_; refine p_chg rfl (ch_append_vecg encP_w (ys := [(s.load (p.1 + 1 + j), t.load (p.2 + 1 + j))]) rfl rfl Tryz.runUnderlying134 Tryz.runUnderlying134 ⟨_, rfl⟩ Tryz.sizeOf136 Tryz.zeroValue136 rfl tb_136 rfl rfl (SlM.row (b := b196) rfl rfl) (Nat.succ_pos _) (by simp; omega)) .free rfl rfl ?_
              rintro tv5 _ ⟨htv5, rfl⟩
              refine kPa rfl rfl ?_; refine p_nil ?_; refine go_sub (σ' := [(17, _), (170, _), (169, _), (26, _), (24, _), (16, _), (15, _), (14, _), (12, _), (9, _), (8, _), (0, _), (4, _)]) ⟨rfl, rfl, rfl, rfl, rfl, rfl, rfl, rfl, rfl, rfl, rfl, rfl, rfl, trivial⟩ ?_; refine g_region ?_
              first | refine p_val rfl (ev_add rfl rfl (wr64 (by omega))) .free rfl rfl ?_ | refine p_val rfl (ev_add rfl rfl rfl) .free rfl rfl ?_
              refine kPm rfl rfl ?_; refine p_nil ?_
              exact fun a w st_ => ⟨(j + 1, TD2 ++ [(s.load (p.1 + 1 + j), t.load (p.2 + 1 + j))], tv5), ⟨by simp only; omega, fun x hx => (List.mem_append.1 hx).elim (hT2 x) (fun h => by rw [List.mem_singleton.1 h]; exact hfj), by simp only [List.length_append, List.length_cons, List.length_nil]; omega, htv5⟩, by simp only; omega, st_.to ⟨rfl, rfl, rfl, rfl, rfl, rfl, rfl, rfl, rfl, rfl, rfl, rfl, rfl, trivial⟩ (fun hh => (hh.dp [1]))⟩
            · have hjr : ¬ (j : Int) < r_ := by simpa using h191
              have hfj := hfl j hj
              rw [if_neg hjr] at hfj
              refine g_seq ?_; refine g_region ?_; refine kPm rfl rfl ?_; refine kPm rfl rfl ?_; refine kPv (ev_cmp rfl rfl rfl) rfl ?_; refine p_nil ?_; refine go_sub (σ' := [(200, _), (170, _), (17, _), (169, _), (26, _), (24, _), (16, _), (15, _), (14, _), (12, _), (9, _), (8, _), (0, _), (4, _)]) ⟨rfl, rfl, rfl, rfl, rfl, rfl, rfl, rfl, rfl, rfl, rfl, rfl, rfl, rfl, trivial⟩ ?_; refine g_iff rfl ((by rw [hfj]; simp)) ?_
              refine g_skip ?_; refine g_region ?_
              first | refine p_val rfl (ev_add rfl rfl (wr64 (by omega))) .free rfl rfl ?_ | refine p_val rfl (ev_add rfl rfl rfl) .free rfl rfl ?_
              refine kPm rfl rfl ?_; refine p_nil ?_
              exact fun a w st_ => ⟨(j + 1, TD2, tv4), ⟨by simp only; omega, hT2, by simp only; omega, htv4⟩, by simp only; omega, st_.to ⟨rfl, rfl, rfl, rfl, rfl, rfl, rfl, rfl, rfl, rfl, rfl, rfl, rfl, trivial⟩ (fun hh => hh)⟩
          · have hj : ¬ (j : Int) < w_ := by simpa using h171
            refine g_exit ?_
            exact fun a w st_ => ⟨(M ++ [p], TD2, tv4), ⟨hM', hnd', hT2, by simp only [List.length_append, List.length_cons, List.length_nil]; omega, htv4⟩, by simp only [List.length_append, List.length_cons, List.length_nil]; omega, st_.to ⟨rfl, rfl, rfl, rfl, rfl, rfl, rfl, rfl, rfl, trivial⟩ (fun hh => (by have h9 := (hh.dp [3, 3, 3]); first | exact h9 | (simp only [List.map_append]; exact h9)))⟩
    · try simp only [decide_eq_true_eq, decide_eq_false_iff_not, Bool.not_eq_true', Bool.not_eq_false', Bool.or_eq_true, Bool.and_eq_true, Bool.and_eq_false_iff, Bool.or_eq_false_iff, beq_iff_eq, bne_iff_ne, beq_eq_false_iff_ne, bne_eq_false_iff_eq, ge_iff_le, gt_iff_lt, ne_eq] at h58
      refine g_exit ?_; refine g_seq ?_; refine g_region ?_; refine kPa rfl rfl ?_; refine p_nil ?_; refine go_sub (σ' := [(14, _)]) ⟨rfl, trivial⟩ ?_; refine g_ret ?_
      exact ret_tmp Tryz.results28 rfl (fun w hh => ⟨rfl, (hh.dp [0, 0, 0, 0, 0, 0])⟩)
end Go.Proofs.YtbfheafpecgphaaGreat
namespace Go.Proofs.YtbfheafpecgphaaGreat
open Go
theorem Tile.len {m : Int → Int} : ∀ {L : List Int} {a e : Int}, Tile m a L e → (L.length : Int) ≤ e - a
  | [], a, e, h => by cases h; simp
  | x :: t, a, e, h => by have := h.2.2.len; have := osz_b m a; simp only [List.length_cons]; omega
section
variable {c : Cfg} {b : Blk} {L : List Int} {s : Dev}
def hobj (s : Dev) (k : Int) : Obj3 := (osz s.load k - 1, orf s.load k, k)
theorem objs_heap (hc : CfgW c) (hb : BlkW c b) (h : HeapW c b s.load L) : ∀ (t : List Int) (a : Int) (f : Nat), Tile s.load a t (b.place c b.used) → (∀ k ∈ t, k ∈ L) → t.length < f → s.objs c b f a = t.map fun k => (hobj s k, 0)
  | [], a, f + 1, ht, _, _ => by
    unfold Dev.objs
    rw [if_pos (by rw [show a = b.place c b.used from ht]; exact Int.le_refl _)]; rfl
  | k :: t, a, f + 1, ht, hl, hf => by
    obtain ⟨rfl, h2, h3⟩ := ht
    have hz := osz_b s.load k
    have hle := h3.le
    have ho := (heap_of hc hb h (hl k (List.mem_cons_self ..))).1
    simp only [List.length_cons] at hf
    unfold Dev.objs
    rw [if_neg (by omega), ho, if_neg (by simp)]
    simp only [List.map_cons]
    rw [show k + (osz s.load k - 1 + 1) = k + osz s.load k by omega, objs_heap hc hb h t _ f h3 (fun x hx => hl x (List.mem_cons_of_mem _ hx)) (by omega)]
    rfl
  | _, _, 0, _, _, hf => absurd hf (Nat.not_lt_zero _)
theorem heap_objs (hc : CfgW c) (hb : BlkW c b) (h : HeapW c b s.load L) : s.objs c b (b.used.toNat + 1) (b.place c 0) = L.map fun k => (hobj s k, 0) := by
  have h1 := h.tile.len
  have h2 := hb.used
  exact objs_heap hc hb h L _ _ h.tile (fun _ h => h) (by unfold Blk.place at h1; omega)
theorem itl_all {α ι : Type} {st : α → ι → Bool × ι} {g : ι → α → ι} : ∀ (l : List α) (x : ι), (∀ a ∈ l, ∀ x, st a x = (true, g x a)) → itl st l x = (true, l.foldl g x)
  | [], x, _ => rfl
  | a :: t, x, h => by
    have e := h a (List.mem_cons_self ..) x
    unfold itl
    rw [if_pos (by rw [e]), e]
    exact itl_all t _ fun b hb => h b (List.mem_cons_of_mem _ hb)
theorem fold_keys {β : Type} (f : Int → β) : ∀ (l : List Int) (x : List (Int × β) × Int) (k : Int), (k ∈ l ∨ (mget x.1 k).isSome = true) → (mget (l.foldl (fun y k => (mset y.1 k (f k), y.2)) x).1 k).isSome = true
  | [], x, k, h => h.resolve_left (by simp)
  | a :: t, x, k, h => by
    refine fold_keys f t _ k ?_
    by_cases e : k = a
    · right; simp only; rw [mget_mset, if_pos e]; rfl
    · rcases h with h | h
      · exact .inl ((List.mem_cons.1 h).resolve_left e)
      · right; simp only; rw [mget_mset, if_neg e]; exact h
theorem fold_snd {β : Type} (f : Int → β) : ∀ (l : List Int) (x : List (Int × β) × Int), (l.foldl (fun y k => (mset y.1 k (f k), y.2)) x).2 = x.2
  | [], _ => rfl
  | a :: t, x => fold_snd f t _
theorem heap_starts (hc : CfgW c) (hb : BlkW c b) (h : HeapW c b s.load L) : (s.starts c b).2 = 0 ∧ ∀ k ∈ L, (mget (s.starts c b).1 k).isSome = true := by
  have e : s.starts c b = L.foldl (fun y k => (mset y.1 k (hobj s k), y.2)) ([], 0) := by
    unfold Dev.starts Dev.startsI
    rw [heap_objs hc hb h, itl_all (g := fun y (p : Obj3 × Int) => (mset y.1 p.1.2.2 p.1, y.2)) _ _ (fun p hp x => by
      obtain ⟨k, _, rfl⟩ := List.mem_map.1 hp
      unfold stS
      rw [if_neg (by simp)]), List.foldl_map]
    rfl
  rw [e]
  exact ⟨fold_snd _ _ _, fun k hk => fold_keys _ _ _ _ (.inl hk)⟩
theorem heap_check (hc : CfgW c) (hu : U64 s) (hbl : s.block c = (b, 0)) (h : HeapW c b s.load L) : s.check c = 0 := by
  have hb0 : b = (s.block c).1 := by rw [hbl]
  have hb : BlkW c b := by rw [hb0]; exact block_w hc hu
  obtain ⟨h1, h2⟩ := heap_starts hc hb h
  have hn : ∀ v, v = 0 ∨ v ∈ L → namesM c b (s.starts c b).1 v = true := fun v hv => by
    unfold namesM
    rcases hv with rfl | hv
    · simp
    · rw [(heap_of hc hb h hv).2, h2 v hv]; simp
  unfold Dev.check
  rw [hbl]
  simp only
  rw [if_neg (by simp), if_neg (by rw [h1]; simp), if_pos]
  · rw [heap_objs hc hb h, itl_all (g := fun y _ => y)]
    · have : ∀ (l : List (Obj3 × Int)) (x : Int), l.foldl (fun y _ => y) x = x := fun l => by
        induction l with
        | nil => intro x; rfl
        | cons a t ih => intro x; exact ih x
      rw [this]
    · intro p hp x
      obtain ⟨k, hk, rfl⟩ := List.mem_map.1 hp
      unfold stC
      rw [if_pos]
      unfold refsM
      rw [List.all_eq_true]
      intro j hj
      have := List.mem_range.1 hj
      simp only [hobj] at this ⊢
      exact hn _ (h.names k hk j (by omega) (by omega))
  · rw [List.all_eq_true]
    exact fun v hv => hn v (h.roots v hv)
theorem HeapW.congr {m m' : Int → Int} (h : HeapW c b m L) (e : ∀ j, b.place c 0 ≤ j → j < b.place c b.used → m' j = m j) : HeapW c b m' L := by
  have hm : ∀ k ∈ L, ∀ j, 0 ≤ j → j < osz m k → m' (k + j) = m (k + j) := fun k hk j h0 h1 => by
    have := h.tile.mem hk
    exact e _ (by omega) (by omega)
  have h0 : ∀ k ∈ L, m' k = m k := fun k hk => by
    have := hm k hk 0 (Int.le_refl 0) (by have := osz_b m k; omega)
    simpa using this
  refine ⟨h.tile.congr h0, fun k hk i g0 g1 => ?_, h.roots⟩
  have eo : orf m' k = orf m k := by unfold orf; rw [h0 k hk]
  rw [eo] at g1
  have hz := osz_b m k
  have := hm k hk (1 + i) (by omega) (by omega)
  rw [← Int.add_assoc] at this
  rw [this]; exact h.names k hk i g0 g1
theorem iso_refl (hc : CfgW c) (hb : BlkW c b) {t : Dev} (h : HeapW c b s.load L) (e : ∀ j, b.place c 0 ≤ j → j < b.place c b.used → t.load j = s.load j) : IsoR c b s b t (L.map fun k => (k, k)) := by
  have ht := h.congr e
  have hp : ∀ p ∈ L.map (fun k => (k, k)), ∃ k ∈ L, p = (k, k) := fun p hp => by obtain ⟨k, hk, rfl⟩ := List.mem_map.1 hp; exact ⟨k, hk, rfl⟩
  refine ⟨fun p h1 => ?_, fun p h1 q h2 e => ?_, fun p h1 q h2 e => ?_, fun p h1 => ?_⟩
  · obtain ⟨k, hk, rfl⟩ := hp p h1
    have := heap_b hc hb h hk
    simp only; omega
  · obtain ⟨k, hk, rfl⟩ := hp p h1
    obtain ⟨k', hk', rfl⟩ := hp q h2
    simp only at e; rw [e]
  · obtain ⟨k, hk, rfl⟩ := hp p h1
    obtain ⟨k', hk', rfl⟩ := hp q h2
    simp only at e; rw [e]
  · obtain ⟨k, hk, rfl⟩ := hp p h1
    have hm := h.tile.mem hk
    have hz := osz_b s.load k
    have hl : ∀ j, 0 ≤ j → j < osz s.load k → t.load (k + j) = s.load (k + j) := fun j h0 h1 => e _ (by omega) (by omega)
    have e0 : t.load k = s.load k := by have := hl 0 (Int.le_refl 0) (by omega); simpa using this
    refine ⟨osz s.load k - 1, orf s.load k, (heap_of hc hb h hk).1, ?_, by omega, by omega, fun i hi => ?_⟩
    · have := (heap_of hc hb ht hk).1
      simp only
      rw [this]; unfold osz orf; rw [e0]
    · simp only
      have e1 := hl (1 + i) (by omega) (by omega)
      rw [← Int.add_assoc] at e1
      rw [e1]
      split
      · rename_i hr
        rcases h.names k hk i (by omega) hr with hz | hz
        · exact .inl ⟨hz, hz⟩
        · exact .inr (List.mem_map.2 ⟨_, hz, rfl⟩)
      · rfl
end
end Go.Proofs.YtbfheafpecgphaaGreat
namespace Go.Proofs.YtbfheafpecgphaaGreat
open Go
structure UQ (s : Dev) : Prop where
  u : U64 s
  k : ∀ x, 0 ≤ s.kept x ∧ s.kept x < 18446744073709551616
  q : ∀ k f, s.q k = some f → ∀ i, 0 ≤ f i ∧ f i < 18446744073709551616
theorem UQ.st {s : Dev} (h : UQ s) {i : Nat} {v : Int} (hv : 0 ≤ v ∧ v < 18446744073709551616) : UQ (s.up.st i v) := ⟨fun x => by
  show 0 ≤ upd s.now i v x ∧ upd s.now i v x < _
  unfold upd; split
  · exact hv
  · exact h.u x, h.k, h.q⟩
theorem UQ.fl {s : Dev} (h : UQ s) (i : Nat) : UQ (s.up.fl i) := ⟨h.u, h.k, fun k f e => by
  have e : upd s.q (i / 8) (some fun k => s.now (i / 8 * 8 + k)) k = some f := e
  unfold upd at e
  split at e
  · cases e; exact fun j => h.u _
  · exact h.q k f e⟩
theorem UQ.fk {s : Dev} (h : UQ s) (x : Nat) : 0 ≤ fkept s.kept s.q x ∧ fkept s.kept s.q x < 18446744073709551616 := by
  unfold fkept
  split
  · rename_i f e; exact h.q _ _ e _
  · exact h.k x
theorem UQ.fe {s : Dev} (h : UQ s) : UQ s.up.fe := ⟨h.u, h.fk, fun _ _ e => by cases e⟩
theorem UQ.crash {s : Dev} (h : UQ s) (ch : Nat → Int) : U64 (s.crash ch) := fun x => by
  show 0 ≤ (if ch x % 3 = 1 then fkept s.kept s.q x else if ch x % 3 = 2 then s.now x else s.kept x) ∧ (if ch x % 3 = 1 then fkept s.kept s.q x else if ch x % 3 = 2 then s.now x else s.kept x) < _
  split
  · exact h.fk x
  · split
    · exact h.u x
    · exact h.k x
theorem uq_store {s s' : Dev} {i v a : Int} (h : UQ s) (hv : 0 ≤ v ∧ v < 18446744073709551616) (e : s.store i v = .ok a s') : UQ s' := by
  unfold Dev.store at e
  split at e
  · cases e; exact h
  · split at e
    · cases e
    · cases e; exact h.st hv
theorem uq_flush {s s' : Dev} {i a : Int} (h : UQ s) (e : s.flush i = .ok a s') : UQ s' := by
  unfold Dev.flush at e
  split at e
  · cases e; exact h
  · split at e
    · cases e
    · cases e; exact h.fl _
theorem uq_fence {s s' : Dev} {a : Unit} (h : UQ s) (e : s.fence = .ok a s') : UQ s' := by
  unfold Dev.fence at e
  split at e
  · cases e
  · cases e; exact h.fe
theorem uq_append {L : LogS} {s s' : Dev} {i : Int} {r : Int × LogS} (hL : LogW L) (hn : s.n ≤ 1000000) (h : UQ s) (e : L.append s i = .ok r s') : UQ s' := by
  unfold LogS.append at e
  split at e
  · cases e; exact h
  rename_i hi
  split at e
  · cases e; exact h
  have l1 := hL.e1; have l2 := hL.e2; have l3 := hL.n1; have l4 := hL.n2; have l5 := hL.c.l2
  obtain ⟨_, s1, e1, e⟩ := then_inv e
  have h1 := uq_store h ⟨by omega, by omega⟩ e1
  obtain ⟨_, s2, e2, e⟩ := then_inv e
  have h2 := uq_store h1 (h1.u.load i) e2
  obtain ⟨_, s3, e3, e⟩ := then_inv e
  have h3 := uq_flush h2 e3
  obtain ⟨_, s4, e4, e⟩ := then_inv e
  have h4 := uq_fence h3 e4
  obtain ⟨_, s5, e5, e⟩ := then_inv e
  have h5 := uq_store h4 (by simp only [stampI]; omega) e5
  obtain ⟨_, s6, e6, e⟩ := then_inv e
  have h6 := uq_flush h5 e6
  obtain ⟨_, s7, e7, e⟩ := then_inv e
  have h7 := uq_fence h6 e7
  cases e; exact h7
theorem uq_sstore {S : SecS} {s s' : Dev} {i v : Int} {r : Int × SecS} (hL : LogW S.L) (hn : s.n ≤ 1000000) (h : UQ s) (hv : 0 ≤ v ∧ v < 18446744073709551616) (e : S.store s i v = .ok r s') : UQ s' := by
  unfold SecS.store at e
  split at e
  · cases e; exact h
  split at e
  · obtain ⟨x, t, e1, e⟩ := then_inv e
    have h1 := uq_append hL hn h e1
    split at e
    · cases e; exact h1
    · obtain ⟨y, u, e2, e⟩ := then_inv e
      cases e; exact uq_store h1 hv e2
  · obtain ⟨y, u, e2, e⟩ := then_inv e
    cases e; exact uq_store h hv e2
theorem uq_writeN : ∀ (l : List Int) (i : Int) (S S' : SecS) (s s' : Dev) (a : Int), (∀ v ∈ l, 0 ≤ v ∧ v < 18446744073709551616) → SecW S → UQ s → s.n ≤ 1000000 → writeN secOp l i s S = .ok (a, S') s' → UQ s' ∧ s'.n = s.n ∧ SecW S'
  | [], i, S, S', s, s', a, _, hS, h, _, e => by cases e; exact ⟨h, rfl, hS⟩
  | v :: vs, i, S, S', s, s', a, hv, hS, h, hn, e => by
    unfold writeN at e
    split at e
    · exact uq_writeN vs _ S S' s s' a (fun x hx => hv x (List.mem_cons_of_mem _ hx)) hS h hn e
    · obtain ⟨⟨x, S1⟩, s1, e1, e⟩ := then_inv e
      have h1 := uq_sstore hS.L hn h (hv v (List.mem_cons_self ..)) e1
      have hca := hS.L.c.act
      have k3 : SecW S1 := store_w hS hn (by have := hS.L.c.l1; have := hS.L.c.r1; omega) e1 (store_lw hS.L e1)
      have hn1 := (sstore_u64 hS h.u hn (hv v (List.mem_cons_self ..)) e1).2
      split at e
      · cases e; exact ⟨h1, hn1, k3⟩
      · obtain ⟨g1, g2, g3⟩ := uq_writeN vs _ S1 S' s1 s' a (fun x hx => hv x (List.mem_cons_of_mem _ hx)) k3 h1 (by omega) e
        exact ⟨g1, g2.trans hn1, g3⟩
theorem uq_flushAll : ∀ (l : List Int) (s s' : Dev), UQ s → flushAll l s = .ok () s' → UQ s'
  | [], s, s', h, e => by cases e; exact h
  | k :: ks, s, s', h, e => by
    unfold flushAll at e
    obtain ⟨_, s1, e1, e⟩ := then_inv e
    exact uq_flushAll ks s1 s' (uq_flush h e1) e
theorem uq_trunc {L L' : LogS} {s s' : Dev} (h : UQ s) (e : L.truncate s = .ok L' s') : UQ s' := by
  unfold LogS.truncate at e
  split at e
  · cases e; exact h
  · obtain ⟨_, s1, e1, e⟩ := then_inv e
    obtain ⟨_, s2, e2, e⟩ := then_inv e
    obtain ⟨_, s3, e3, e⟩ := then_inv e
    cases e; exact uq_fence (uq_flush (uq_store h ⟨by omega, by omega⟩ e1) e2) e3
theorem uq_commit {S S' : SecS} {s s' : Dev} (h : UQ s) (e : S.commit s = .ok S' s') : UQ s' := by
  unfold SecS.commit at e
  obtain ⟨_, s1, e1, e⟩ := then_inv e
  obtain ⟨_, s2, e2, e⟩ := then_inv e
  obtain ⟨L, s3, e3, e⟩ := then_inv e
  cases e
  have h1 := uq_flushAll _ _ _ h e1
  refine uq_trunc ?_ e3
  split at e2
  · exact uq_fence h1 e2
  · cases e2; exact h1
theorem uq_flip {c : Cfg} {b : Blk} {S S' : SecS} {s s' : Dev} (hb : ∀ v ∈ b.act :: b.used :: b.rts, 0 ≤ v ∧ v < 18446744073709551616) (hL : LogW S.L) (h : UQ s) (hn : s.n ≤ 1000000) (e : flipM c b S s = .ok (0, S') s') : UQ s' := by
  unfold flipM writeM at e
  obtain ⟨⟨x, S1⟩, s1, e1, e⟩ := then_inv e
  obtain ⟨g1, g2, g3⟩ := uq_writeN _ _ _ _ _ _ _ hb (fresh_w hL 0 0) h hn e1
  split at e
  · rename_i hx
    obtain ⟨S2, s2, e2, e⟩ := then_inv e
    cases e; exact absurd rfl hx
  · obtain ⟨S2, s2, e2, e⟩ := then_inv e
    cases e; exact uq_commit g1 e2
abbrev KeepJ (c : Cfg) (N : Nat) (s0 : Dev) (lo : Int) (s : Dev) : Prop := RunJ c N s0 s ∧ UQ s ∧ ∀ x : Nat, (x : Int) < lo → s.q (x / 8) = none ∧ s.kept x = s0.kept x
theorem keepJ_stab {c : Cfg} {N : Nat} {s0 : Dev} {lo hi : Int} (h0 : 24 < lo) (h1 : hi ≤ N) (h8 : lo % 8 = 0) : Stab lo hi (KeepJ c N s0 lo) where
  n := fun s h => (runJ_stab (c := c) (N := N) (s0 := s0) h0 h1).n s h.1
  st := fun s i v h a1 a2 a3 a4 => ⟨(runJ_stab (c := c) (N := N) (s0 := s0) h0 h1).st s i v h.1 a1 a2 a3 a4, h.2.1.st ⟨a3, a4⟩, h.2.2⟩
  fl := fun s i h a1 a2 => ⟨(runJ_stab (c := c) (N := N) (s0 := s0) h0 h1).fl s i h.1 a1 a2, h.2.1.fl _, fun x hx => ⟨by
    show upd s.q (i.toNat / 8) _ (x / 8) = none
    unfold upd
    rw [if_neg (by omega)]; exact (h.2.2 x hx).1, (h.2.2 x hx).2⟩⟩
  fe := fun s h => ⟨(runJ_stab (c := c) (N := N) (s0 := s0) h0 h1).fe s h.1, h.2.1.fe, fun x hx => ⟨rfl, by
    show fkept s.kept s.q x = _
    unfold fkept
    rw [(h.2.2 x hx).1]; exact (h.2.2 x hx).2⟩⟩
theorem keeps_run {c : Cfg} (hc : CfgW c) {N bd : Nat} {S : SecS} {s : Dev} (h : SK c N bd S s) {s0 : Dev} (hfm : Fmt c N s0) (hu0 : U64 s0) {out : List Int} {u : Int} (hF : Fi c N s0.kept s out u) :
    ∃ X s1, (newCol bd c (s.block c).1 (s.block c).1.rts).run s = .ok X s1 ∧ ColW X ∧ X.b = (s.block c).1 ∧ X.bd = bd ∧ SK c N bd S s1 ∧ X.block.act = 1 ∧ ∃ S' s', flipM c X.block S s1 = .ok (0, S') s' ∧ SK c N bd S' s' ∧ s'.block c = (X.block, 0) ∧ HeapW c X.block s'.load (X.went.map Prod.snd) ∧
      ∀ ch, (s'.crash ch).block c = (X.block, 0) ∧ (∀ j, X.block.place c 0 ≤ j → j < X.block.place c X.block.used → (s'.crash ch).load j = s'.load j) ∧ U64 (s'.crash ch) := by
  have hA := act_w hc
  have hb := hF.block
  have hhp := hF.heap
  rw [hb] at hhp ⊢
  simp only at hhp ⊢
  obtain ⟨r0, hr0⟩ : ∃ r0, r0 = tab c.roots.toNat fun i => s.load (c.root i) := ⟨_, rfl⟩
  rw [← hr0] at hb hhp ⊢
  have hbw : BlkW c ⟨0, u, r0⟩ := ⟨⟨by show (0 : Int) ≤ 0; omega, by show (0 : Int) ≤ 1; omega⟩, hF.u0⟩
  have G : GcH c ⟨0, u, r0⟩ s.load out (c.frm (1 - 0)) (c.frm (1 - 0) + c.space) := ⟨hc, hbw, hhp, rfl, rfl, fun x => h.u.load x⟩
  have hap := G.apart
  have hN := h.hN
  have hwl : ∀ w ∈ r0, w = 0 ∨ w ∈ out := hhp.roots
  have hwb : ∀ v ∈ r0, 0 ≤ v ∧ v < 18446744073709551616 := fun v hv => by
    rcases hwl v hv with rfl | hv
    · decide
    · have := heap_b hc hbw hhp hv; omega
  have hrl : (r0.length : Int) = c.roots := by rw [hr0, tab_len]; have := hc.r1; omega
  have hW : ColW (newCol bd c ⟨0, u, r0⟩ r0) := newCol_w hc hbw (by show r0.length ≤ 16; have := hc.r2; omega) hwb hwb
  obtain ⟨X, s1, e1, ⟨⟨j1, j2, j3, j4, j5⟩, j7, j6⟩, hD, hdn⟩ := (SI.run G (keepJ_stab (c := c) (N := N) (s0 := s) hap.2.1 (by omega) lo_line) (fun s h => h.1.1) hwl _ _ s (si_new (bd := bd) G rfl _) ⟨⟨h.u, h.still.lim, h.n, rfl, rfl⟩, ⟨h.u, fun x => by rw [hF.h.kept, hfm.calm.kept]; exact hu0 x, fun k f e => by rw [h.still.q] at e; cases e⟩, fun x _ => ⟨congrFun h.still.q _, rfl⟩⟩ hW (Nat.lt_succ_self _)).lim (fun s h => h.1.2.1)
  have hX := (runN_w _ _ _ _ _ hW h.u e1)
  have hq := runN_q _ _ _ _ _ h.still.q e1
  have hbl := hD.block G
  have hus := hD.used G
  have hsk : SK c N bd S s1 := ⟨⟨j2, hq⟩, j1, j3, hN, h.lc, h.lw, h.ln, h.ld, by unfold Shut0; rw [j4, j5]; exact h.sh⟩
  have hlx : (X.block.rts.length : Int) = c.roots := by rw [hbl]; simp only [List.length_map]; exact hrl
  have hact : X.block.act = 1 := by rw [hbl]; rfl
  have hbX : BlkW c X.block := ⟨by rw [hact]; omega, ⟨hus.2.1, by have := hbw.used; omega⟩⟩
  obtain ⟨S', s', e2, h2, e3⟩ := flip_run hc hsk hlx (colblk_w hX.1)
  have hblk := flip_block hc h2.n hN hlx hbX e3
  have hf0 := frm_b hc (k := 0) (by omega)
  have hlo0 := G.lo0
  have hld : ∀ j, c.frm 0 ≤ j → s'.load j = s1.load j := fun j hj => by
    unfold Dev.load Dev.has
    rw [h2.n, j3]
    split
    · rw [e3 _ (by omega), if_neg (by omega)]
    · rfl
  have hheap := hD.heap G (fun w hw => hw) (m' := s'.load) (fun j h1 _ => hld j (by omega))
  have hfr := hD.ci.free G
  -- words that are kept
  have hkn : ∀ x : Nat, ((c.active ≤ x ∧ (x : Int) < c.active + 2 + c.roots) ∨ (c.frm (1 - 0) ≤ x ∧ (x : Int) < X.free)) → s'.kept x = s'.now x := fun x hx => by
    refine flip_kept hc hsk hlx e2 (by omega) ?_
    have hs1 : ∀ y : Nat, (y : Int) < c.frm 0 → s1.now y = s.now y := fun y hy => by
      have h1 := hD.ci.out (y : Int) (.inl (by omega))
      rw [load_nat (k := y) rfl (by rw [j3]; omega), load_nat (k := y) rfl (by rw [h.n]; omega)] at h1
      exact h1
    rcases hx with ⟨x1, x2⟩ | ⟨x1, x2⟩
    · by_cases hl : x / 8 = c.active.toNat / 8
      · -- the line of the active space's word, which is another one now
        refine .inl ⟨c.active.toNat, by omega, by omega, hl.symm, ?_⟩
        rw [Nat.sub_self, hs1 _ (by omega)]
        have h1 := hF.act
        rw [load_nat (k := c.active.toNat) (by omega) (by rw [h.n]; omega)] at h1
        rw [h1]
        show (0 : Int) ≠ X.block.act
        rw [hact]; decide
      · -- a root: it goes, or it is nought
        have h8 := hc.act
        have hxr : c.active + 2 ≤ x := by omega
        by_cases he : s1.now x = (X.block.act :: X.block.used :: X.block.rts).getD (x - c.active.toNat) 0
        · refine .inr ⟨.inr he, ?_⟩
          obtain ⟨i, hi⟩ : ∃ i : Nat, x = c.active.toNat + 2 + i := ⟨x - c.active.toNat - 2, by omega⟩
          have hir : (i : Int) < c.roots := by omega
          have hsx : s.now x = s.load (c.root i) := by
            simp only [Cfg.root]
            rw [load_nat (k := x) (by omega) (by rw [h.n]; omega)]
          have hro : s.load (c.root i) = r0.getD i 0 := by
            rw [hr0, List.getD_eq_getElem?_getD]
            have : (tab c.roots.toNat fun i => s.load (c.root i)) = (List.range c.roots.toNat).map fun (i : Nat) => s.load (c.root i) := rfl
            rw [this]
            simp [show i < c.roots.toNat by omega]
          have hnw : (X.block.act :: X.block.used :: X.block.rts).getD (x - c.active.toNat) 0 = tr X.went (r0.getD i 0) := by
            rw [show x - c.active.toNat = i + 2 by omega, hbl]
            simp only [List.getD_cons_succ]
            rw [List.getD_eq_getElem?_getD, List.getD_eq_getElem?_getD, List.getElem?_map, List.getElem?_eq_getElem (show i < r0.length by omega)]
            rfl
          rw [hs1 x (by omega), hnw, hsx, hro] at he
          have hmem : r0.getD i 0 ∈ r0 := by rw [List.getD_eq_getElem?_getD, List.getElem?_eq_getElem (show i < r0.length by omega)]; exact List.getElem_mem ..
          have hz : r0.getD i 0 = 0 := by
            rcases hwl _ hmem with hz | hz
            · exact hz
            · rcases hD.ws _ hmem with hy | hy
              · exact hy
              · have h5 := (hD.ci.offs.mem (hD.trm hy).2)
                have h6 := heap_b hc hbw hhp hz
                have h7 := osz_b s.load (r0.getD i 0)
                have h9 := G.hb.used
                have h10 := G.apart
                simp only at h5 h6 h9 h10
                omega
          rw [hs1 x (by omega), hsx, hro, hz, (j6 x (by omega)).2, hF.h.kept, hfm.calm.kept]
          exact hfm.st.block x (by omega) (by simp only [Cfg.root]; omega)
        · exact .inl ⟨x, by omega, by omega, rfl, he⟩
    · exact .inr ⟨.inl (by omega), (hD.dur x x1 x2).1⟩
  have hcr : ∀ ch, ∀ x : Nat, s'.kept x = s'.now x → (s'.crash ch).now x = s'.now x := fun ch x hx => by
    show (if ch x % 3 = 1 then fkept s'.kept s'.q x else if ch x % 3 = 2 then s'.now x else s'.kept x) = _
    unfold fkept
    rw [h2.still.q]
    simp only
    split
    · exact hx
    · split
      · rfl
      · exact hx
  refine ⟨X, s1, e1, hX.1, hX.2.2.1, hX.2.2.2.1, hsk, hact, S', s', e2, h2, hblk, hheap, fun ch => ⟨?_, fun j g1 g2 => ?_, (uq_flip (colblk_w hX.1) hsk.lw j7 (by rw [j3]; omega) e2).crash ch⟩⟩
  · have hsame : ∀ j : Int, c.active ≤ j → j < c.active + 2 + c.roots → (s'.crash ch).load j = s'.load j := fun j g1 g2 => by
      have hj : (j.toNat : Int) = j := by omega
      rw [load_nat (k := j.toNat) hj (by show j.toNat < s'.n; rw [h2.n]; omega), load_nat (k := j.toNat) hj (by rw [h2.n]; omega)]
      exact hcr ch _ (hkn _ (.inl ⟨by omega, by omega⟩))
    have hr1 := hc.r1
    rw [← hblk]
    unfold Dev.block
    rw [hsame _ (by omega) (by omega), hsame _ (by omega) (by omega)]
    have : (tab c.roots.toNat fun i => (s'.crash ch).load (c.root i)) = tab c.roots.toNat fun i => s'.load (c.root i) := tab_congr fun i hi => hsame _ (by simp only [Cfg.root]; omega) (by simp only [Cfg.root]; omega)
    rw [this]
  · have g3 : c.frm (1 - 0) ≤ j ∧ j < X.free := by
      rw [hbl] at g1 g2
      unfold Blk.place at g1 g2
      simp only at g1 g2
      omega
    have hj : (j.toNat : Int) = j := by omega
    rw [load_nat (k := j.toNat) hj (by show j.toNat < s'.n; rw [h2.n]; omega), load_nat (k := j.toNat) hj (by rw [h2.n]; omega)]
    exact hcr ch _ (hkn _ (.inr ⟨by omega, by omega⟩))
end Go.Proofs.YtbfheafpecgphaaGreat
