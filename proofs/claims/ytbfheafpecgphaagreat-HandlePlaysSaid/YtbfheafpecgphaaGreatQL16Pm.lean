/- Part of the texts beneath a law: what its proof names. Conditions: none. -/
import Derived.Test.YtbfheafpecgphaaGreatQL16Pl
import Derived.ProofKit
import Derived.OpenShut
import Derived.ChangeOld
import Derived.Below
import Derived.ChangeSlices
import Derived.Deep.Grids
import Derived.Deep.Strs
import Derived.Laws.Externs
set_option linter.unusedSimpArgs false
set_option linter.unusedVariables false
set_option linter.unnecessarySimpa false
set_option linter.unusedSectionVars false
namespace Go.Proofs.YtbfheafpecgphaaGreat
open Go
def hs2 : List (Int × Int) := [(0, 1), (0, 2)]
theorem hh2 : ∀ h ∈ [((0 : Int), (1 : Int)), (0, 2)], (0 ≤ h.1 ∧ h.1 < 256) ∧ (0 ≤ h.2 ∧ h.2 < 256) := fun h hm => by
  simp only [List.mem_cons, List.not_mem_nil, or_false] at hm
  rcases hm with rfl | rfl <;> exact ⟨by decide, by decide⟩
theorem sln2 {B : World} {H : List HP} {b : Nat} {x y z u : Value} {T1 : TypeId} {U : List Value → List HP} [RowU H b [x, y, z, u] T1 U] {cap : Nat} : SlN B H (.slice (some ⟨b, 0, none⟩) 2 cap) 2 [[x, y], [z, u]] :=
  SlN.row (cs := [[x, y], [z, u]]) fun i c h => by
    cases i with
    | zero =>
      cases h
      refine ⟨rfl, fun j hj => ?_⟩
      rcases j with _ | _ | j
      · rfl
      · rfl
      · omega
    | succ i =>
      cases i with
      | zero =>
        cases h
        refine ⟨rfl, fun j hj => ?_⟩
        rcases j with _ | _ | j
        · rfl
        · rfl
        · omega
      | succ i => cases h
theorem ch_bsG2 {α : Type} {B : World} {σ : Env} {H : List HP} {P : Program} {m : Nat} {enc : α → List Value} (he : EncW m enc) {d : Option Tmp} {ty : TypeId} {p : String} {af : Array Edge} {g : Option (Nat × Bool)} {t e : TypeId} {x y : Operand} {v u : α} {xv yv z : Value} (ht : ∀ w, (underlying t).run P w = .ok (.slice e) w) (hs : ∀ w, (sizeOf e).run P w = .ok m w) (hz : ∀ w, (zeroValue e).run P w = .ok z w) (hm0 : (0 < m ∧ m ≤ 1000) ∧ z.cells.size = m) (hx : evO σ x = some xv) (hv : xv.cells = (enc v).toArray) (hy : evO σ y = some yv) (hu : yv.cells = (enc u).toArray) :
    Chg P B σ H ⟨d, .buildSlice t 2 #[(0, x), (1, y)], ty, p, af, g⟩ (fun r H' => ∃ b, r = .slice (some ⟨b, 0, none⟩) 2 2 ∧ H' = row b (enc v ++ enc u) e :: H) := by
  intro a w kn hh
  refine ⟨.value (.slice (some ⟨w.heap.size, 0, none⟩) 2 2), { w with heap := w.heap.push (.cells (enc v ++ enc u).toArray e) }, ?_, _, .inl rfl, _, ⟨_, rfl, rfl⟩, by simpa [row] using hh.new _⟩
  have h1 : m ≠ 0 := by omega
  have h2 : ¬ 16777216 < 2 * m := by omega
  have hl : (enc v).length = m := he.len v
  have hl2 : (enc u).length = m := he.len u
  have key : ∀ (k : Nat) (vs : List Value) (a : Array Value) (j : Nat), k + vs.length ≤ a.size → (List.foldl (fun (cs : Array Value) (x : Value × Nat) => cs.setIfInBounds (k + x.2) x.1) a vs.zipIdx)[j]? = if k ≤ j ∧ j < k + vs.length then vs[j - k]? else a[j]? := by
    intro k vs a j h
    have := foldl_get vs k a h j
    rw [← this]
    congr 1
    have hz : vs.zipIdx k = vs.zipIdx.map fun x => (x.1, k + x.2) := by
      apply List.ext_getElem?
      intro i
      simp [List.getElem?_zipIdx]
      cases vs[i]? <;> simp
    rw [hz, List.foldl_map]
  have hsz : ∀ (g : Nat → Nat) (l : List (Value × Nat)) (a : Array Value), (List.foldl (fun (cs : Array Value) (x : Value × Nat) => cs.setIfInBounds (g x.2) x.1) a l).size = a.size := by
    intro g l
    induction l with
    | nil => intro a; rfl
    | cons x l ih => intro a; rw [List.foldl_cons, ih]; simp
  simp [execOp, Instr.buildSlice, ht, hs, Instr.fill, run_newRow, hz, kn.eval hx, hv, kn.eval hy, hu, h1, h2, hl, hl2]
  generalize hA : Array.map (fun x => z.cells[x % z.cells.size]!) (Array.range (2 * m)) = A
  have hAs : A.size = 2 * m := by rw [← hA]; simp
  rw [if_neg (by omega), if_neg (by omega), if_neg (by rw [hsz (fun x => x) _ A]; omega)]
  generalize hF : List.foldl (fun (cs : Array Value) (x : Value × Nat) => cs.setIfInBounds x.snd x.fst) A (enc v).zipIdx = F
  have hFs : F.size = 2 * m := by rw [← hF, hsz (fun x => x) _ A]; exact hAs
  have hF2 : ∀ j, F[j]? = if j < m then (enc v)[j]? else A[j]? := fun j => by
    have := foldl_get (enc v) 0 A (by omega) j
    rw [← hF, this]
    simp [hl]
  have e9 : List.foldl (fun (cs : Array Value) (x : Value × Nat) => cs.setIfInBounds (m + x.snd) x.fst) F (enc u).zipIdx = (enc v ++ enc u).toArray := by
    apply Array.ext_getElem?
    intro j
    rw [key m (enc u) F j (by omega), hF2, show (enc v ++ enc u).toArray[j]? = (enc v ++ enc u)[j]? by simp, List.getElem?_append, hl, hl2]
    by_cases h3 : j < m
    · rw [if_neg (by omega), if_pos h3, if_pos h3]
    · rw [if_neg h3]
      by_cases h4 : j < m + m
      · rw [if_pos (by omega), if_neg h3]
      · rw [if_neg (by omega), if_neg h3, List.getElem?_eq_none (by omega), Array.getElem?_eq_none (by omega)]
  simp only [e9]
  rfl
theorem d13_eval (pa : Nat) : okB ((dev0 pa [] 136).format c48) (fun _ s => okB (fillN c48 [(0, 1), (0, 2)] s []) fun out sF => out == [40, 42] && blkIs (sF.block c48) ⟨0, 5, [0]⟩ 0 && okB (linkObjs c48 ⟨0, 5, [0]⟩ (pickL [] [40, 42] 0) [40, 42] 0 sF) fun n1 s1 => n1 == some 0 && okB (linkRoots c48 (pickL [] [40, 42] 0) 1 0 0 s1) fun _ s2 => blkIs (s2.block c48) ⟨0, 5, [0]⟩ 0 && s2.reachSize c48 ⟨0, 5, [0]⟩ [] == 0 && s2.reachSize c48 ⟨0, 5, [0]⟩ [42] == 3) = true := by kernel_rfl
theorem d14_eval (pa bd : Nat) : okB ((dev0 pa [] 136).format c48) (fun _ s => okB (fillN c48 [(0, 1)] s []) fun out sF => out == [40] && blkIs (sF.block c48) ⟨0, 2, [0]⟩ 0 && okB (linkObjs c48 ⟨0, 2, [0]⟩ (pickL [] [40] 0) [40] 0 sF) fun n1 s1 => n1 == some 0 && okB (linkRoots c48 (pickL [] [40] 0) 1 0 0 s1) fun _ s2 => blkIs (s2.block c48) ⟨0, 2, [0]⟩ 0 && okB ((newCol bd c48 ⟨0, 2, [0]⟩ [0]).step s2) fun r s3 => !r.1 && okB (r.2.step s3) fun r2 _ => r2.1 && blkIs (r2.2.block, 0) ⟨1, 0, [0]⟩ 0) = true := by kernel_rfl
def went1 (o : Option ColS) (w v : Int) : Bool := match o with
  | some X => (mget X.went w).getD 0 == v
  | none => false
theorem d15_eval (pa bd : Nat) : okB ((dev0 pa [] 136).format c48) (fun _ s => okB (fillN c48 [(0, 1), (0, 2)] s []) fun out sF => out == [40, 42] && blkIs (sF.block c48) ⟨0, 5, [0]⟩ 0 && okB (linkObjs c48 ⟨0, 5, [0]⟩ (pickL [] [40, 42] 0) [40, 42] 0 sF) fun n1 s1 => n1 == some 0 && okB (linkRoots c48 (pickL [] [40, 42] 0) 1 0 0 s1) fun _ s2 => blkIs (s2.block c48) ⟨0, 5, [0]⟩ 0 && (openL bd c48 s2).n == 0 && okB (collectM bd c48 ⟨openL bd c48 s2, 0, 0, [], []⟩ s2 [42]) fun r s3 => r.2.1 == 0 && went1 r.1 42 88 && blkIs (s3.block c48) ⟨1, 3, [0]⟩ 0) = true := by kernel_rfl
theorem awake12_ok (B : World) (Fr : List HP) :
    ∀ w, Holds B Fr w → Calls Tryz.prog 118 [].toArray w (PureR B Fr (.bool true)) := by
  refine fn_enter Tryz.func118 rfl Tryz.ntmps118 rfl ?_; refine g_seq ?_; refine g_region ?_; refine kPa rfl rfl ?_; refine p_nil ?_; refine g_seq ?_; refine g_seq ?_; refine g_region ?_; refine p_callq rfl (en_f Tryz.call126 rfl) (awake11_ok _ _) .free rfl rfl ?_; refine kPv (ev_not rfl) rfl ?_; refine p_nil ?_; refine g_iff rfl (rfl) ?_; refine g_skip ?_; refine g_seq ?_; refine g_region ?_; refine kPv (ev_build rfl (bld_30_0_1_2 _ _ _ rfl rfl rfl)) rfl ?_
  refine p_chg rfl (ch_allocA Tryz.zeroValue30 rfl) .free rfl rfl ?_
  rintro _ _ ⟨b1, rfl, rfl⟩
  refine p_chg0 rfl (ch_storeA (vs := _) Tryz.sizeOf30 rfl rfl rfl rfl rfl) .free rfl ?_
  rintro _ _ rfl
  refine p_nil ?_; refine g_seq ?_; refine g_region ?_; refine kPv (ev_loadA Tryz.isAgg30 Tryz.sizeOf30 rfl rfl) rfl ?_
  refine p_call rfl (en_f Tryz.call101 rfl) (formatted_ok _ _ ⟨3, 1, 8⟩ cfg1 none 0 [] (by decide) (fun _ h => absurd h (Nat.not_lt_zero _)) SlR.nil) .free rfl rfl ?_ ?_
  rotate_left
  · rintro _ _ ⟨⟩
  rintro _ _ ⟨bd, pa, N, s0, hN, hf, rfl, rfl⟩
  obtain rfl : N = 56 := by have : (N : Int) = 56 := hN.trans (by decide); omega
  have hfm := fmt_of cfg1 hN hf
  have hu0 := format_u64 (dev0_u64 pa 56) cfg1 hf
  have hev := okB_ok (d12_eval pa) hf
  simp only [Bool.and_eq_true, beq_iff_eq] at hev
  refine kPm rfl rfl ?_; refine kPv (ev_ext rfl rfl) rfl ?_; refine kPv (ev_ext rfl rfl) rfl ?_; refine kPa rfl rfl ?_; refine kPa rfl rfl ?_; refine p_nil ?_; refine go_sub (σ' := [(3, _), (2, _), (1, _), (0, _)]) ⟨rfl, rfl, rfl, rfl, trivial⟩ ?_; refine g_seq ?_; refine g_seq ?_; refine g_region ?_; refine kPm rfl rfl ?_; refine kPv (ev_not rfl) rfl ?_; refine kPm rfl rfl ?_; refine p_val rfl (ev_move rfl) (.on rfl rfl (beq_eq rfl)) rfl rfl ?_
  refine p_val rfl (ev_loadA Tryz.isAgg30 Tryz.sizeOf30 rfl rfl) (.on rfl rfl (beq_eq rfl)) rfl rfl ?_; refine p_callq rfl (en_f Tryz.call27 rfl) (ro_at (q := DevA) (fun Fr => ccheck_ok _ Fr _ s0 ⟨3, 1, 8⟩ cfg1 hu0)) (.on rfl rfl (beq_eq rfl)) rfl rfl ?_; refine p_val rfl (ev_cmp rfl rfl rfl) (.on rfl rfl (beq_eq rfl)) rfl rfl ?_; refine kPv (ev_pick_f rfl rfl rfl) rfl ?_; refine p_nil ?_; refine go_sub (σ' := [(19, _), (2, _), (1, _), (0, _)]) ⟨rfl, rfl, rfl, rfl, trivial⟩ ?_
  refine g_iff rfl (by rw [hev.1]; rfl) ?_
  refine g_skip ?_; refine g_seq ?_; refine g_region ?_; refine kPm rfl rfl ?_; refine kPv (ev_loadA Tryz.isAgg30 Tryz.sizeOf30 rfl rfl) rfl ?_; refine p_callq rfl (en_f Tryz.call71 rfl) (root_ok _ _ ⟨3, 1, 8⟩ cfg1 0 (by decide) (by decide)) .free rfl rfl ?_
  refine p_call rfl (en_f Tryz.call70 rfl) (nstoreL_ok _ _ bd s0 34 5 hfm.lim hu0 (by decide)) .free rfl rfl ?_ ?_
  rotate_left
  · rintro _ _ ⟨⟩
  rintro _ _ ⟨x1, s1, hm1, rfl, hl1, hn1, hu1, rfl⟩
  have hev2 := okB_ok hev.2 hm1
  simp only [beq_iff_eq] at hev2
  refine p_nil ?_; refine g_seq ?_; refine g_region ?_; refine kPm rfl rfl ?_; refine kPv (ev_loadA Tryz.isAgg30 Tryz.sizeOf30 rfl rfl) rfl ?_; refine p_callq rfl (en_f Tryz.call27 rfl) (ro_at (q := DevA) (fun Fr => ccheck_ok _ Fr _ s1 ⟨3, 1, 8⟩ cfg1 hu1)) .free rfl rfl ?_; refine kPv (ev_cmp rfl rfl rfl) rfl ?_; refine kPa rfl rfl ?_; refine p_nil ?_; refine go_sub (σ' := [(0, _)]) ⟨rfl, trivial⟩ ?_; refine g_ret ?_
  exact ret_tmp Tryz.results118 rfl (fun w hh => ⟨by rw [hev2]; rfl, (hh.dp [0, 0])⟩)
theorem awake13_ok (B : World) (Fr : List HP) :
    ∀ w, Holds B Fr w → Calls Tryz.prog 99 [].toArray w (PureR B Fr (.bool true)) := by
  refine fn_enter Tryz.func99 rfl Tryz.ntmps99 rfl ?_; refine g_seq ?_; refine g_region ?_; refine kPa rfl rfl ?_; refine p_nil ?_; refine g_seq ?_; refine g_seq ?_; refine g_region ?_; refine p_callq rfl (en_f Tryz.call118 rfl) (awake12_ok _ _) .free rfl rfl ?_; refine kPv (ev_not rfl) rfl ?_; refine p_nil ?_; refine g_iff rfl (rfl) ?_; refine g_skip ?_; refine g_seq ?_; refine g_region ?_; refine kPv (ev_build rfl (bld_24_2 _ rfl)) rfl ?_; refine kPv (ev_build rfl (bld_107_1 _ rfl)) rfl ?_
  refine kPv (ev_build rfl (bld_107_1 _ rfl)) rfl ?_; refine p_chg rfl (ch_bsG2 encH_w (v := (0, 1)) (u := (0, 2)) Tryz.runUnderlying25 Tryz.sizeOf107 Tryz.zeroValue107 ⟨⟨by decide, by decide⟩, rfl⟩ rfl rfl rfl rfl) .free rfl rfl ?_
  rintro _ _ ⟨b11, rfl, rfl⟩
  refine p_call rfl (en_f Tryz.call12 rfl) (linked_ok _ _ 0 0 40 ⟨by decide, by decide, by decide⟩ ⟨3, 1, 48⟩ mkC48 [(0, 1), (0, 2)] (hh2) (by decide) (some ⟨b11, 0, none⟩) _ sln2 none 0 [] SlR.nil (fun _ h => (by cases h)) (by decide) (fun _ h => absurd h (Nat.not_lt_zero _)) 0 (by decide)) .free rfl rfl ?_ ?_
  rotate_left
  · rintro _ _ ⟨⟩
  rintro _ _ ⟨bd, pa, N, s0, sF, out, hfm, hN, ⟨hus0, hf⟩, hfill, hor⟩
  obtain rfl := n48 hN
  have hev := okB_ok (okB_ok (d13_eval pa) hf) hfill
  simp only [Bool.and_eq_true, beq_iff_eq] at hev
  obtain ⟨⟨rfl, e1⟩, e2⟩ := hev
  rw [blkIs_eq e1] at hor
  rcases hor with ⟨n1, n2, s1, s2, ov, sv, hl1, hl2, hu2, hlm2, hn2, hov, hsv, rfl, rfl⟩ | ⟨s1, hl1, _⟩
  rotate_left
  · have e3 := okB_ok e2 hl1
    simp only [Bool.and_eq_true, beq_iff_eq] at e3
    exact absurd e3.1 (by simp)
  have e3 := okB_ok e2 hl1
  simp only [Bool.and_eq_true, beq_iff_eq] at e3
  obtain ⟨e4, e5⟩ := e3
  obtain rfl : n1 = 0 := by injection e4
  have e6 := okB_ok e5 hl2
  simp only [Bool.and_eq_true, beq_iff_eq] at e6
  obtain ⟨⟨e7, e8⟩, e9⟩ := e6
  rw [blkIs_eq e7]
  refine go_pk [2] ?_; refine go_vecq fun qo co hqo hqi => ?_
  subst hqo
  obtain ⟨bO, oO, rfl⟩ := hqi 0 (by decide)
  refine kPm rfl rfl ?_; refine kPv (ev_ext rfl rfl) rfl ?_; refine kPv (ev_ext rfl rfl) rfl ?_; refine kPv (ev_ext rfl rfl) rfl ?_; refine kPv (ev_ext rfl rfl) rfl ?_; refine p_chg rfl (ch_allocA Tryz.zeroValue30 rfl) .free rfl rfl ?_
  rintro _ _ ⟨b2, rfl, rfl⟩
  refine p_chg rfl (ch_allocA Tryz.zeroValue33 rfl) .free rfl rfl ?_
  rintro _ _ ⟨b3, rfl, rfl⟩
  refine kPa rfl rfl ?_; refine p_chg0 rfl (ch_storeA (vs := _) Tryz.sizeOf30 rfl rfl rfl rfl rfl) .free rfl ?_
  rintro _ _ rfl
  refine p_chg0 rfl (ch_storeA (vs := _) Tryz.sizeOf33 rfl rfl rfl (by first | rfl | exact all3 (by assumption)) rfl) .free rfl ?_
  rintro _ _ rfl
  refine kPa rfl rfl ?_; refine p_nil ?_; refine go_sub (σ' := [(4, _), (1, _), (3, _), (2, _), (0, _)]) ⟨rfl, rfl, rfl, rfl, rfl, trivial⟩ ?_; refine g_seq ?_; refine g_seq ?_; refine g_region ?_; refine kPm rfl rfl ?_; refine kPv (ev_eqp Tryz.runUnderlying28 rfl rfl rfl) rfl ?_; refine kPm rfl rfl ?_; refine p_val rfl (ev_move rfl) (.on rfl rfl (beq_eq rfl)) rfl rfl ?_; refine p_val rfl (ev_len rfl Tryz.runUnderlying34 ⟨_, rfl⟩ rfl) (.on rfl rfl (beq_eq rfl)) rfl rfl ?_
  refine p_val rfl (ev_cmp rfl rfl rfl) (.on rfl rfl (beq_eq rfl)) rfl rfl ?_; refine kPv (ev_pick_f rfl rfl rfl) rfl ?_; refine kPm rfl rfl ?_; refine p_val rfl (ev_move rfl) (.on rfl rfl (beq_eq rfl)) rfl rfl ?_; refine p_val rfl (ev_loadA Tryz.isAgg30 Tryz.sizeOf30 rfl rfl) (.on rfl rfl (beq_eq rfl)) rfl rfl ?_; refine p_val rfl (ev_loadA Tryz.isAgg33 Tryz.sizeOf33 rfl rfl) (.on rfl rfl (beq_eq rfl)) rfl rfl ?_
  refine p_call rfl (en_f Tryz.call119 rfl) (wfrom_ok _ _ bd ⟨3, 1, 48⟩ ⟨0, 5, [0]⟩ sv hsv (.slice none 0 0) rfl) (.on rfl rfl (beq_eq rfl)) rfl rfl ?_ ?_
  rotate_left
  · rintro _ _ ⟨⟩
  rintro _ _ ⟨c1, c2, c3, c4, rfl, rfl⟩
  refine p_val rfl (ev_eqfn Tryz.runUnderlying178 ⟨_, _, _, rfl⟩ rfl rfl rfl) (.on rfl rfl (beq_eq rfl)) rfl rfl ?_; refine kPv (ev_pick_f rfl rfl rfl) rfl ?_; refine p_nil ?_; refine go_sub (σ' := [(30, _), (4, _), (1, _), (3, _), (2, _), (0, _)]) ⟨rfl, rfl, rfl, rfl, rfl, rfl, trivial⟩ ?_; refine g_iff rfl (rfl) ?_; refine g_skip ?_; refine g_seq ?_
  refine go_conv (H' := DevA bd s2 :: VecA 3 i64 0 (.slice (some ⟨bO, oO, none⟩) 2 co, [40, 42]) :: row b3 [i64 0, i64 5, sv] 33 :: row b2 [i64 3, i64 1, i64 48] 30 :: VecU 0 (sv, [0]) :: Fr) (fun w hh => by have h := ((hh.dp [0, 0, 0, 0, 5]).pk [4, 2]); exact h) ?_
  refine g_drawv [0, 1, 2, 3, 4, 5, 6, 7, 8, 9, 10, 11, 12, 13, 14, 15, 16, 17] [3, 13, 14] [6, 7, 8] [13] [row b2 [i64 3, i64 1, i64 48] 30, row b3 [i64 0, i64 5, sv] 33, VecA 3 i64 0 (.slice (some ⟨bO, oO, none⟩) 2 co, [40, 42])] Tryz.mixed (by kernel_rfl) ?_; refine v_val rfl rfl rfl (ev_move rfl) .free rfl ?_; refine v_val rfl rfl rfl (ev_loadA Tryz.isAgg30 Tryz.sizeOf30 rfl rfl) .free rfl ?_; refine v_val rfl rfl rfl (ev_loadA Tryz.isAgg33 Tryz.sizeOf33 rfl rfl) .free rfl ?_
  refine v_mark rfl rfl ?_; refine p_callq rfl (en_f Tryz.call120 rfl) (wsize_ok B _ bd ⟨3, 1, 48⟩ cfg48 ⟨0, 5, [0]⟩ sv ⟨⟨by decide, by decide⟩, ⟨by decide, by decide⟩⟩ hsv s2 none 0 [] (fun _ h => (by cases h)) (by decide) (fun _ h => absurd h (Nat.not_lt_zero _)) SlR.nil) .free rfl rfl ?_; refine p_nil ?_; refine v_off rfl ?_; refine v_val rfl rfl rfl (ev_cmp rfl rfl rfl) .free rfl ?_; refine v_val rfl rfl rfl (ev_move rfl) .free rfl ?_
  refine v_hoist rfl rfl rfl (ev_move rfl) (.on rfl rfl (beq_eq (by rw [e8]; rfl))) rfl ?_
  refine v_hoist rfl rfl rfl (ev_loadA Tryz.isAgg30 Tryz.sizeOf30 rfl rfl) (.on rfl rfl (beq_eq (by rw [e8]; rfl))) rfl ?_
  refine v_hoist rfl rfl rfl (ev_loadA Tryz.isAgg33 Tryz.sizeOf33 rfl rfl) (.on rfl rfl (beq_eq (by rw [e8]; rfl))) rfl ?_
  refine v_val rfl rfl rfl (ev_move rfl) (.on rfl rfl (beq_eq (by rw [e8]; rfl))) rfl ?_
  refine v_val rfl rfl rfl (ev_iaS Tryz.runUnderlying34 Tryz.sizeOf3 rfl rfl (by decide) (by decide)) (.on rfl rfl (beq_eq (by rw [e8]; rfl))) rfl ?_
  refine v_val rfl rfl rfl (ev_loadS (v := i64 42) Tryz.isAgg3 (vec_slr 1 rfl) rfl rfl) (.on rfl rfl (beq_eq (by rw [e8]; rfl))) rfl ?_
  refine v_val rfl rfl rfl (ev_conv (c := 42) Tryz.runUnderlying3 Tryz.runUnderlying52 rfl (by decide)) (.on rfl rfl (beq_eq (by rw [e8]; rfl))) rfl ?_
  refine v_mark rfl rfl ?_; refine p_chg rfl (ch_bs1 Tryz.runUnderlying31 Tryz.sizeOf52 Tryz.zeroValue52 rfl rfl rfl) (.on rfl rfl (beq_eq (by rw [e8]; rfl))) rfl rfl ?_
  rintro _ _ ⟨b44, rfl, rfl⟩
  refine p_nil ?_; refine v_on ?_; refine go_pk [1] ?_; refine v_mark rfl rfl ?_; refine p_callq rfl (en_f Tryz.call120 rfl) (wsize_ok B _ bd ⟨3, 1, 48⟩ cfg48 ⟨0, 5, [0]⟩ sv ⟨⟨by decide, by decide⟩, ⟨by decide, by decide⟩⟩ hsv s2 (some ⟨b44, 0, none⟩) 1 [42] (fun v h => by rw [List.mem_singleton.1 h]; decide) (by decide) (fun _ _ => ⟨_, _, rfl⟩) (SlR.row (b := b44) rfl rfl)) (.on rfl rfl (beq_eq (by rw [e8]; rfl))) rfl rfl ?_
  refine p_nil ?_; refine v_off rfl ?_; refine v_val rfl rfl rfl (ev_cmp rfl rfl rfl) (.on rfl rfl (beq_eq (by rw [e8]; rfl))) rfl ?_
  refine v_val rfl rfl rfl (ev_pick_t rfl (by rw [e8]; rfl) rfl) .free rfl ?_
  refine v_val rfl rfl rfl (ev_assign rfl) .free rfl ?_; refine v_nil ?_; refine go_sub (σ' := [(0, _)]) ⟨rfl, trivial⟩ ?_; refine g_ret ?_
  exact ret_tmp Tryz.results99 rfl (fun w hh => ⟨by rw [e9]; rfl, (hh.dp [0, 0, 0, 0, 0, 0])⟩)
theorem awake14_ok (B : World) (Fr : List HP) :
    ∀ w, Holds B Fr w → Calls Tryz.prog 66 [].toArray w (PureR B Fr (.bool true)) := by
  refine fn_enter Tryz.func66 rfl Tryz.ntmps66 rfl ?_; refine g_seq ?_; refine g_region ?_; refine kPa rfl rfl ?_; refine p_nil ?_; refine g_seq ?_; refine g_seq ?_; refine g_region ?_; refine p_callq rfl (en_f Tryz.call99 rfl) (awake13_ok _ _) .free rfl rfl ?_; refine kPv (ev_not rfl) rfl ?_; refine p_nil ?_; refine g_iff rfl (rfl) ?_; refine g_skip ?_; refine g_seq ?_; refine g_region ?_; refine kPv (ev_build rfl (bld_24_2 _ rfl)) rfl ?_; refine kPv (ev_build rfl (bld_107_1 _ rfl)) rfl ?_
  refine p_chg rfl (ch_bsG encH_w (v := (0, 1)) Tryz.runUnderlying25 Tryz.sizeOf107 Tryz.zeroValue107 ⟨⟨by decide, by decide⟩, rfl⟩ rfl rfl) .free rfl rfl ?_
  rintro _ _ ⟨b13, rfl, rfl⟩
  refine p_call rfl (en_f Tryz.call12 rfl) (linked_ok _ _ 0 0 40 ⟨by decide, by decide, by decide⟩ ⟨3, 1, 48⟩ mkC48 [(0, 1)] (hh1 ⟨by decide, by decide⟩ ⟨by decide, by decide⟩) (by decide) (some ⟨b13, 0, none⟩) _ sln1 none 0 [] SlR.nil (fun _ h => (by cases h)) (by decide) (fun _ h => absurd h (Nat.not_lt_zero _)) 0 (by decide)) .free rfl rfl ?_ ?_
  rotate_left
  · rintro _ _ ⟨⟩
  rintro _ _ ⟨bd, pa, N, s0, sF, out, hfm, hN, ⟨hus0, hf⟩, hfill, hor⟩
  obtain rfl := n48 hN
  have hev := okB_ok (okB_ok (d14_eval pa bd) hf) hfill
  simp only [Bool.and_eq_true, beq_iff_eq] at hev
  obtain ⟨⟨rfl, e1⟩, e2⟩ := hev
  rw [blkIs_eq e1] at hor
  rcases hor with ⟨n1, n2, s1, s2, ov, sv, hl1, hl2, hu2, hlm2, hn2, hov, hsv, rfl, rfl⟩ | ⟨s1, hl1, _⟩
  rotate_left
  · have e3 := okB_ok e2 hl1
    simp only [Bool.and_eq_true, beq_iff_eq] at e3
    exact absurd e3.1 (by simp)
  have e3 := okB_ok e2 hl1
  simp only [Bool.and_eq_true, beq_iff_eq] at e3
  obtain ⟨e4, e5⟩ := e3
  obtain rfl : n1 = 0 := by injection e4
  have e6 := okB_ok e5 hl2
  simp only [Bool.and_eq_true, beq_iff_eq] at e6
  obtain ⟨e7, e8⟩ := e6
  rw [blkIs_eq e7]
  refine go_pk [2] ?_; refine go_vecq fun qo co hqo hqi => ?_
  subst hqo
  obtain ⟨bO, oO, rfl⟩ := hqi 0 (by decide)
  refine kPm rfl rfl ?_; refine kPv (ev_ext rfl rfl) rfl ?_; refine kPv (ev_ext rfl rfl) rfl ?_; refine kPv (ev_ext rfl rfl) rfl ?_; refine kPv (ev_ext rfl rfl) rfl ?_; refine p_chg rfl (ch_allocA Tryz.zeroValue30 rfl) .free rfl rfl ?_
  rintro _ _ ⟨b2, rfl, rfl⟩
  refine p_chg rfl (ch_allocA Tryz.zeroValue33 rfl) .free rfl rfl ?_
  rintro _ _ ⟨b3, rfl, rfl⟩
  refine kPa rfl rfl ?_; refine p_chg0 rfl (ch_storeA (vs := _) Tryz.sizeOf30 rfl rfl rfl rfl rfl) .free rfl ?_
  rintro _ _ rfl
  refine p_chg0 rfl (ch_storeA (vs := _) Tryz.sizeOf33 rfl rfl rfl (by first | rfl | exact all3 (by assumption)) rfl) .free rfl ?_
  rintro _ _ rfl
  refine kPa rfl rfl ?_; refine p_nil ?_; refine go_sub (σ' := [(4, _), (1, _), (3, _), (2, _), (0, _)]) ⟨rfl, rfl, rfl, rfl, rfl, trivial⟩ ?_; refine g_seq ?_; refine g_seq ?_; refine g_region ?_; refine kPm rfl rfl ?_; refine kPv (ev_eqp Tryz.runUnderlying28 rfl rfl rfl) rfl ?_; refine kPm rfl rfl ?_; refine p_val rfl (ev_move rfl) (.on rfl rfl (beq_eq rfl)) rfl rfl ?_; refine p_val rfl (ev_len rfl Tryz.runUnderlying34 ⟨_, rfl⟩ rfl) (.on rfl rfl (beq_eq rfl)) rfl rfl ?_
  refine p_val rfl (ev_cmp rfl rfl rfl) (.on rfl rfl (beq_eq rfl)) rfl rfl ?_; refine kPv (ev_pick_f rfl rfl rfl) rfl ?_; refine p_nil ?_; refine go_sub (σ' := [(25, _), (1, _), (3, _), (2, _), (0, _)]) ⟨rfl, rfl, rfl, rfl, rfl, trivial⟩ ?_; refine g_iff rfl (rfl) ?_; refine g_skip ?_; refine g_seq ?_; refine g_region ?_; refine kPm rfl rfl ?_; refine kPv (ev_loadA Tryz.isAgg30 Tryz.sizeOf30 rfl rfl) rfl ?_; refine kPv (ev_loadA Tryz.isAgg33 Tryz.sizeOf33 rfl rfl) rfl ?_
  refine p_chg rfl (ch_bs1 Tryz.runUnderlying31 Tryz.sizeOf52 Tryz.zeroValue52 rfl rfl rfl) .free rfl rfl ?_
  rintro _ _ ⟨b29, rfl, rfl⟩
  refine go_pk [4] ?_
  refine p_call rfl (en_f Tryz.call16 rfl) (cnew_ok B _ bd ⟨3, 1, 48⟩ cfg48 ⟨0, 2, [0]⟩ ⟨⟨by decide, by decide⟩, ⟨by decide, by decide⟩⟩ sv hsv (some ⟨b29, 0, none⟩) 1 [0] (by decide) (fun h => by cases h) (SlR.row (b := b29) rfl rfl)) .free rfl rfl ?_ ?_
  rotate_left
  · rintro _ _ ⟨⟩
  rintro _ _ ⟨x, rfl, rfl⟩
  have hX0 : ColW (newCol bd ⟨3, 1, 48⟩ ⟨0, 2, [0]⟩ [0]) := newCol_w cfg48 ⟨⟨by decide, by decide⟩, ⟨by decide, by decide⟩⟩ (by decide) (fun v h => by rw [List.mem_singleton.1 h]; decide) (fun v h => by rw [List.mem_singleton.1 h]; decide)
  refine kPa rfl rfl ?_; refine p_nil ?_; refine go_sub (σ' := [(5, _), (0, _)]) ⟨rfl, rfl, trivial⟩ ?_; refine g_seq ?_; refine g_seq ?_; refine g_region ?_; refine kPm rfl rfl ?_; refine kPv (ev_eqp Tryz.runUnderlying45 rfl rfl rfl) rfl ?_; refine p_nil ?_; refine g_iff rfl (rfl) ?_; refine g_skip ?_; refine g_seq ?_; refine g_region ?_; refine kPm rfl rfl ?_; refine go_pk [0, 4] ?_
  refine p_call rfl (en_f Tryz.call74 rfl) (cstep_ok B _ x (newCol bd ⟨3, 1, 48⟩ ⟨0, 2, [0]⟩ [0]) hX0 s2 hu2) .free rfl rfl ?_ ?_
  rotate_left
  · rintro _ _ ⟨s9, hm9, _⟩
    exact (okB_off e8 hm9).elim
  rintro _ _ ⟨r1, s3, hm1, rfl, rfl⟩
  have e9 := okB_ok e8 hm1
  simp only [Bool.and_eq_true, Bool.not_eq_true'] at e9
  obtain ⟨e10, e11⟩ := e9
  obtain ⟨hX1, hu3, _, hbd1, _⟩ := step_w hX0 hu2 hm1
  refine go_conv (H' := ColA x r1.2 :: DevA r1.2.bd s3 :: _) (fun w hh => by rw [hbd1]; exact hh) ?_
  refine kPm rfl rfl ?_
  refine p_call rfl (en_f Tryz.call74 rfl) (cstep_ok B _ x r1.2 hX1 s3 hu3) .free rfl rfl ?_ ?_
  rotate_left
  · rintro _ _ ⟨s9, hm9, _⟩
    exact (okB_off e11 hm9).elim
  rintro _ _ ⟨r2, s4, hm2, rfl, rfl⟩
  have e12 := okB_ok e11 hm2
  simp only [Bool.and_eq_true] at e12
  obtain ⟨hX2, hu4, _⟩ := step_w hX1 hu3 hm2
  have hbl : r2.2.block = ⟨1, 0, [0]⟩ := congrArg Prod.fst (blkIs_eq e12.2)
  rw [e10, e12.1]
  refine kPa rfl rfl ?_; refine kPa rfl rfl ?_; refine p_nil ?_; refine g_seq ?_; refine g_region ?_; refine kPm rfl rfl ?_; refine kPv (ev_not rfl) rfl ?_; refine kPm rfl rfl ?_; refine p_val rfl (ev_move rfl) (.on rfl rfl (beq_eq rfl)) rfl rfl ?_; refine kPv (ev_pick_t rfl rfl rfl) rfl ?_; refine kPm rfl rfl ?_; refine p_val rfl (ev_move rfl) (.on rfl rfl (beq_eq rfl)) rfl rfl ?_
  refine p_call rfl (en_f Tryz.call76 rfl) (cblock_ok B _ x r2.2 hX2) (.on rfl rfl (beq_eq rfl)) rfl rfl ?_ ?_
  rotate_left
  · rintro _ _ ⟨⟩
  rintro _ _ ⟨bv5, hbv5, rfl, rfl⟩
  rw [hbl]
  refine p_val rfl (ev_field1 Tryz.runUnderlying33 (t := 3) (off := 1) rfl Tryz.isAgg3 rfl rfl) (.on rfl rfl (beq_eq rfl)) rfl rfl ?_; refine p_val rfl (ev_cmp rfl rfl rfl) (.on rfl rfl (beq_eq rfl)) rfl rfl ?_; refine kPv (ev_pick_t rfl rfl rfl) rfl ?_; refine kPm rfl rfl ?_; refine p_val rfl (ev_move rfl) (.on rfl rfl (beq_eq rfl)) rfl rfl ?_; refine go_pk [1] ?_
  refine p_call rfl (en_f Tryz.call76 rfl) (cblock_ok B _ x r2.2 hX2) (.on rfl rfl (beq_eq rfl)) rfl rfl ?_ ?_
  rotate_left
  · rintro _ _ ⟨⟩
  rintro _ _ ⟨bv6, hbv6, rfl, rfl⟩
  rw [hbl]
  refine p_val rfl (ev_field1 Tryz.runUnderlying33 (t := 3) (off := 0) rfl Tryz.isAgg3 rfl rfl) (.on rfl rfl (beq_eq rfl)) rfl rfl ?_; refine p_val rfl (ev_cmp rfl rfl rfl) (.on rfl rfl (beq_eq rfl)) rfl rfl ?_; refine kPv (ev_pick_t rfl rfl rfl) rfl ?_; refine kPa rfl rfl ?_; refine p_nil ?_; refine go_sub (σ' := [(0, _)]) ⟨rfl, trivial⟩ ?_; refine g_ret ?_
  exact ret_tmp Tryz.results66 rfl (fun w hh => ⟨rfl, (hh.dp [0, 0, 0, 0, 0, 0, 0, 0, 0])⟩)
theorem awake15_ok (B : World) (Fr : List HP) :
    ∀ w, Holds B Fr w → Calls Tryz.prog 11 [].toArray w (PureR B Fr (.bool true)) := by
  refine fn_enter Tryz.func11 rfl Tryz.ntmps11 rfl ?_; refine g_seq ?_; refine g_region ?_; refine kPa rfl rfl ?_; refine p_nil ?_; refine g_seq ?_; refine g_seq ?_; refine g_region ?_; refine p_callq rfl (en_f Tryz.call66 rfl) (awake14_ok _ _) .free rfl rfl ?_; refine kPv (ev_not rfl) rfl ?_; refine p_nil ?_; refine g_iff rfl (rfl) ?_; refine g_skip ?_; refine g_seq ?_; refine g_region ?_; refine kPv (ev_build rfl (bld_24_2 _ rfl)) rfl ?_; refine kPv (ev_build rfl (bld_107_1 _ rfl)) rfl ?_
  refine kPv (ev_build rfl (bld_107_1 _ rfl)) rfl ?_; refine p_chg rfl (ch_bsG2 encH_w (v := (0, 1)) (u := (0, 2)) Tryz.runUnderlying25 Tryz.sizeOf107 Tryz.zeroValue107 ⟨⟨by decide, by decide⟩, rfl⟩ rfl rfl rfl rfl) .free rfl rfl ?_
  rintro _ _ ⟨b16, rfl, rfl⟩
  refine p_call rfl (en_f Tryz.call12 rfl) (linked_ok _ _ 0 0 40 ⟨by decide, by decide, by decide⟩ ⟨3, 1, 48⟩ mkC48 [(0, 1), (0, 2)] (hh2) (by decide) (some ⟨b16, 0, none⟩) _ sln2 none 0 [] SlR.nil (fun _ h => (by cases h)) (by decide) (fun _ h => absurd h (Nat.not_lt_zero _)) 0 (by decide)) .free rfl rfl ?_ ?_
  rotate_left
  · rintro _ _ ⟨⟩
  rintro _ _ ⟨bd, pa, N, s0, sF, out, hfm, hN, ⟨hus0, hf⟩, hfill, hor⟩
  obtain rfl := n48 hN
  have hev := okB_ok (okB_ok (d15_eval pa bd) hf) hfill
  simp only [Bool.and_eq_true, beq_iff_eq] at hev
  obtain ⟨⟨rfl, e1⟩, e2⟩ := hev
  rw [blkIs_eq e1] at hor
  rcases hor with ⟨n1, n2, s1, s2, ov, sv, hl1, hl2, hu2, hlm2, hn2, hov, hsv, rfl, rfl⟩ | ⟨s1, hl1, _⟩
  rotate_left
  · have e3 := okB_ok e2 hl1
    simp only [Bool.and_eq_true, beq_iff_eq] at e3
    exact absurd e3.1 (by simp)
  have e3 := okB_ok e2 hl1
  simp only [Bool.and_eq_true, beq_iff_eq] at e3
  obtain ⟨e4, e5⟩ := e3
  obtain rfl : n1 = 0 := by injection e4
  have e6 := okB_ok e5 hl2
  simp only [Bool.and_eq_true, beq_iff_eq] at e6
  obtain ⟨⟨e7, e14⟩, e8⟩ := e6
  rw [blkIs_eq e7]
  refine go_pk [2] ?_; refine go_vecq fun qo co hqo hqi => ?_
  subst hqo
  obtain ⟨bO, oO, rfl⟩ := hqi 0 (by decide)
  refine kPm rfl rfl ?_; refine kPv (ev_ext rfl rfl) rfl ?_; refine kPv (ev_ext rfl rfl) rfl ?_; refine kPv (ev_ext rfl rfl) rfl ?_; refine kPv (ev_ext rfl rfl) rfl ?_; refine p_chg rfl (ch_allocA Tryz.zeroValue30 rfl) .free rfl rfl ?_
  rintro _ _ ⟨b2, rfl, rfl⟩
  refine p_chg rfl (ch_allocA Tryz.zeroValue33 rfl) .free rfl rfl ?_
  rintro _ _ ⟨b3, rfl, rfl⟩
  refine kPa rfl rfl ?_; refine p_chg0 rfl (ch_storeA (vs := _) Tryz.sizeOf30 rfl rfl rfl rfl rfl) .free rfl ?_
  rintro _ _ rfl
  refine p_chg0 rfl (ch_storeA (vs := _) Tryz.sizeOf33 rfl rfl rfl (by first | rfl | exact all3 (by assumption)) rfl) .free rfl ?_
  rintro _ _ rfl
  refine kPa rfl rfl ?_; refine p_nil ?_; refine go_sub (σ' := [(4, _), (1, _), (3, _), (2, _), (0, _)]) ⟨rfl, rfl, rfl, rfl, rfl, trivial⟩ ?_; refine g_seq ?_; refine g_seq ?_; refine g_region ?_; refine kPm rfl rfl ?_; refine kPv (ev_eqp Tryz.runUnderlying28 rfl rfl rfl) rfl ?_; refine kPm rfl rfl ?_; refine p_val rfl (ev_move rfl) (.on rfl rfl (beq_eq rfl)) rfl rfl ?_; refine p_val rfl (ev_len rfl Tryz.runUnderlying34 ⟨_, rfl⟩ rfl) (.on rfl rfl (beq_eq rfl)) rfl rfl ?_
  refine p_val rfl (ev_cmp rfl rfl rfl) (.on rfl rfl (beq_eq rfl)) rfl rfl ?_; refine kPv (ev_pick_f rfl rfl rfl) rfl ?_; refine kPm rfl rfl ?_; refine p_val rfl (ev_fa (m := _) fa_33_1 rfl rfl) (.on rfl rfl (beq_eq rfl)) rfl rfl ?_; refine p_val rfl (ev_load Tryz.isAgg3 rfl rfl) (.on rfl rfl (beq_eq rfl)) rfl rfl ?_; refine p_val rfl (ev_cmp rfl rfl rfl) (.on rfl rfl (beq_eq rfl)) rfl rfl ?_; refine kPv (ev_pick_f rfl rfl rfl) rfl ?_; refine p_nil ?_
  refine go_sub (σ' := [(33, _), (4, _), (1, _), (2, _), (0, _)]) ⟨rfl, rfl, rfl, rfl, rfl, trivial⟩ ?_; refine g_iff rfl (rfl) ?_; refine g_skip ?_; refine g_seq ?_; refine g_region ?_; refine kPm rfl rfl ?_; refine kPv (ev_loadA Tryz.isAgg30 Tryz.sizeOf30 rfl rfl) rfl ?_; refine go_pk [4] ?_
  refine p_call rfl (en_f Tryz.call13 rfl) (snew_ok _ _ bd s2 ⟨3, 1, 48⟩ cfg48) .free rfl rfl ?_ ?_
  rotate_left
  · rintro _ _ ⟨⟩
  rintro _ _ ⟨bs, rfl, rfl⟩
  refine kPa rfl rfl ?_; refine p_nil ?_; refine g_seq ?_; refine g_seq ?_; refine g_region ?_; refine go_secC fun bl o1 o2 => ?_; refine kPm rfl rfl ?_; refine kPv (ev_eqp Tryz.runUnderlying37 rfl rfl rfl) rfl ?_; refine kPm rfl rfl ?_; refine p_val rfl (ev_move rfl) (.on rfl rfl (beq_eq rfl)) rfl rfl ?_
  first | refine p_val rfl (ev_nil rfl) (.on rfl rfl (beq_eq rfl)) rfl rfl ?_ | refine p_val rfl (ev_nilf rfl) (.on rfl rfl (beq_eq rfl)) rfl rfl ?_
  refine p_val rfl (ev_fa (m := _) fa_44_0 rfl rfl) (.on rfl rfl (beq_eq rfl)) rfl rfl ?_; refine p_val rfl (ev_load Tryz.isAgg39 rfl rfl) (.on rfl rfl (beq_eq rfl)) rfl rfl ?_; refine p_val rfl (ev_eqp Tryz.runUnderlying39 rfl rfl rfl) (.on rfl rfl (beq_eq rfl)) rfl rfl ?_; refine kPv (ev_pick_f rfl rfl rfl) rfl ?_; refine p_nil ?_; refine go_sub (σ' := [(45, _), (5, _), (4, _), (1, _), (2, _), (0, _)]) ⟨rfl, rfl, rfl, rfl, rfl, rfl, trivial⟩ ?_; refine g_iff rfl (rfl) ?_; refine g_skip ?_
  refine g_seq ?_; refine go_conv (fun w hh => secC_holds (S := (⟨openL bd ⟨3, 1, 48⟩ s2, 0, 0, [], []⟩ : SecS)) hh) ?_; refine go_conv (H' := SecC bs (⟨openL bd ⟨3, 1, 48⟩ s2, 0, 0, [], []⟩ : SecS) :: DevA bd s2 :: row b2 [i64 3, i64 1, i64 48] 30 :: VecA 3 i64 0 (.slice (some ⟨bO, oO, none⟩) 2 co, [40, 42]) :: VecU 0 (sv, [0]) :: Fr) (fun w hh => by have h := (hh.dp [2, 5]); exact h) ?_
  refine g_drawv [0, 1, 2, 3, 4, 5, 6, 7, 8, 9, 10, 11, 12, 13] [7, 8] [0, 1, 2] [7] [row b2 [i64 3, i64 1, i64 48] 30, VecA 3 i64 0 (.slice (some ⟨bO, oO, none⟩) 2 co, [40, 42])] Tryz.mixed (by kernel_rfl) ?_; refine v_hoist rfl rfl rfl (ev_move rfl) .free rfl ?_; refine v_hoist rfl rfl rfl (ev_loadA Tryz.isAgg30 Tryz.sizeOf30 rfl rfl) .free rfl ?_; refine v_hoist rfl rfl rfl (ev_move rfl) .free rfl ?_; refine v_val rfl rfl rfl (ev_move rfl) .free rfl ?_
  refine v_val rfl rfl rfl (ev_iaS Tryz.runUnderlying34 Tryz.sizeOf3 rfl rfl (by decide) (by decide)) .free rfl ?_; refine v_val rfl rfl rfl (ev_loadS (v := i64 42) Tryz.isAgg3 (vec_slr 3 rfl) rfl rfl) .free rfl ?_; refine v_val rfl rfl rfl (ev_conv (c := 42) Tryz.runUnderlying3 Tryz.runUnderlying52 rfl (by decide)) .free rfl ?_; refine v_mark rfl rfl ?_; refine p_chg rfl (ch_bs1 Tryz.runUnderlying31 Tryz.sizeOf52 Tryz.zeroValue52 rfl rfl rfl) .free rfl rfl ?_
  rintro _ _ ⟨b54, rfl, rfl⟩
  refine p_nil ?_; refine v_on ?_; refine v_mark rfl rfl ?_; refine go_pk [1, 1] ?_
  refine p_call rfl (en_f Tryz.call14 rfl) (fcollect_ok B _ bs bd (⟨openL bd ⟨3, 1, 48⟩ s2, 0, 0, [], []⟩ : SecS) ⟨3, 1, 48⟩ cfg48 s2 hu2 ⟨openL_w cfg48, by rw [hn2]; decide, rfl, rfl⟩ (some ⟨b54, 0, none⟩) 1 [42] (by decide) (fun v h => by rw [List.mem_singleton.1 h]; decide) (SlR.row (b := b54) rfl rfl)) .free rfl rfl ?_ ?_
  rotate_left
  · rintro _ _ ⟨s9, hm9, _⟩
    exact (okB_off e8 hm9).elim
  rintro _ _ ⟨r, s3, hm3, hor⟩
  have e9 := okB_ok e8 hm3
  simp only [Bool.and_eq_true, beq_iff_eq] at e9
  obtain ⟨⟨e10, e11⟩, e12⟩ := e9
  rcases hor with ⟨h1, _⟩ | ⟨x, X, hX, h0, rfl, rfl⟩
  · rw [h1] at e11; cases e11
  rw [hX] at e11
  have e13 : (mget X.went 42).getD 0 = 88 := by simpa [went1] using e11
  have hu3 := (collect_k cfg48 (fun v h => by rw [List.mem_singleton.1 h]; decide) (openL_w cfg48) hu2 (by rw [hn2]; decide) e14 hm3).1
  refine p_nil ?_; refine v_off rfl ?_; refine v_val rfl rfl rfl (ev_move rfl) .free rfl ?_; refine v_val rfl rfl rfl (ev_ext rfl rfl) .free rfl ?_; refine v_val rfl rfl rfl (ev_ext rfl rfl) .free rfl ?_; refine v_val rfl rfl rfl (ev_assign rfl) .free rfl ?_; refine v_val rfl rfl rfl (ev_assign rfl) .free rfl ?_; refine v_nil ?_; refine go_sub (σ' := [(7, _), (6, _), (4, _), (1, _), (2, _), (0, _)]) ⟨rfl, rfl, rfl, rfl, rfl, rfl, trivial⟩ ?_; refine g_seq ?_; refine g_region ?_
  refine kPm rfl rfl ?_; refine kPv (ev_loadA Tryz.isAgg30 Tryz.sizeOf30 rfl rfl) rfl ?_; refine go_pk [2] ?_
  refine p_call rfl (en_f Tryz.call15 rfl) (rread_ok _ _ _ _ ⟨3, 1, 48⟩ cfg48 hu3) .free rfl rfl ?_ ?_
  rotate_left
  · rintro _ _ ⟨⟩
  rintro _ _ ⟨sv3, hsv3, rfl, rfl⟩
  rw [blkIs_eq e12]
  refine kPm rfl rfl ?_; refine kPv (ev_ext rfl rfl) rfl ?_; refine kPv (ev_ext rfl rfl) rfl ?_; refine p_chg rfl (ch_allocA Tryz.zeroValue33 rfl) .free rfl rfl ?_
  rintro _ _ ⟨b8, rfl, rfl⟩
  refine p_chg0 rfl (ch_storeA (vs := _) Tryz.sizeOf33 rfl rfl rfl (by first | rfl | exact all3 (by assumption)) rfl) .free rfl ?_
  rintro _ _ rfl
  refine kPa rfl rfl ?_; refine p_nil ?_; refine go_sub (σ' := [(9, _), (8, _), (7, _), (6, _), (4, _), (2, _), (0, _)]) ⟨rfl, rfl, rfl, rfl, rfl, rfl, rfl, trivial⟩ ?_; refine g_seq ?_; refine g_draw Tryz.mixed (by kernel_rfl) (by kernel_rfl) ?_; refine kQm rfl rfl ?_; refine kQv (ev_cmp rfl rfl rfl) rfl ?_; refine kQm rfl rfl ?_; refine q_val rfl (ev_move rfl) (.on rfl rfl (beq_eq rfl)) rfl ?_; refine q_val rfl (ev_eqp Tryz.runUnderlying45 rfl rfl rfl) (.on rfl rfl (beq_eq rfl)) rfl ?_
  refine kQv (ev_pick_t rfl rfl rfl) rfl ?_; refine kQm rfl rfl ?_; refine q_val rfl (ev_move rfl) (.on rfl rfl (beq_eq rfl)) rfl ?_; refine q_val rfl (ev_cmp rfl rfl rfl) (.on rfl rfl (beq_eq rfl)) rfl ?_; refine kQv (ev_pick_t rfl rfl rfl) rfl ?_; refine kQm rfl rfl ?_; refine q_val rfl (ev_fa (m := _) fa_33_0 rfl rfl) (.on rfl rfl (beq_eq rfl)) rfl ?_; refine q_val rfl (ev_load Tryz.isAgg3 rfl rfl) (.on rfl rfl (beq_eq rfl)) rfl ?_
  refine q_val rfl (ev_cmp rfl rfl rfl) (.on rfl rfl (beq_eq rfl)) rfl ?_; refine kQv (ev_pick_t rfl rfl rfl) rfl ?_; refine kQm rfl rfl ?_; refine q_val rfl (ev_fa (m := _) fa_33_1 rfl rfl) (.on rfl rfl (beq_eq rfl)) rfl ?_; refine q_val rfl (ev_load Tryz.isAgg3 rfl rfl) (.on rfl rfl (beq_eq rfl)) rfl ?_; refine q_val rfl (ev_cmp rfl rfl rfl) (.on rfl rfl (beq_eq rfl)) rfl ?_; refine kQv (ev_pick_t rfl rfl rfl) rfl ?_; refine kQm rfl rfl ?_
  refine q_val rfl (ev_move rfl) (.on rfl rfl (beq_eq rfl)) rfl ?_; refine q_val rfl (ev_move rfl) (.on rfl rfl (beq_eq rfl)) rfl ?_; refine q_val rfl (ev_iaS Tryz.runUnderlying34 Tryz.sizeOf3 rfl rfl (by decide) (by decide)) (.on rfl rfl (beq_eq rfl)) rfl ?_; refine q_val rfl (ev_loadS (v := i64 42) Tryz.isAgg3 (vec_slr 7 rfl) rfl rfl) (.on rfl rfl (beq_eq rfl)) rfl ?_; refine q_val rfl (ev_conv (c := 42) Tryz.runUnderlying3 Tryz.runUnderlying52 rfl (by decide)) (.on rfl rfl (beq_eq rfl)) rfl ?_
  refine q_call rfl (en_f Tryz.call55 rfl) (ro_at (q := ColA) (fun Fr => cwent_ok B Fr x X 42)) (.on rfl rfl (beq_eq rfl)) rfl ?_; refine q_val rfl (ev_loadA Tryz.isAgg30 Tryz.sizeOf30 rfl rfl) (.on rfl rfl (beq_eq rfl)) rfl ?_; refine q_call rfl (en_f Tryz.call46 rfl) (from_ok _ _ ⟨3, 1, 48⟩ cfg48 1 (by decide) (by decide)) (.on rfl rfl (beq_eq rfl)) rfl ?_; refine q_val rfl (ev_cmp rfl rfl rfl) (.on rfl rfl (beq_eq rfl)) rfl ?_; refine kQv (ev_pick_t rfl rfl rfl) rfl ?_; refine kQa rfl rfl ?_
  refine q_nil ?_; refine go_sub (σ' := [(0, _)]) ⟨rfl, trivial⟩ ?_; refine g_ret ?_
  exact ret_tmp Tryz.results11 rfl (fun w hh => ⟨by rw [e13]; rfl, (hh.dp [0, 0, 0, 0, 0, 0, 0, 0, 0])⟩)
end Go.Proofs.YtbfheafpecgphaaGreat
namespace Go.Proofs.YtbfheafpecgphaaGreat
open Go
def idxI (v : Int) : List Int → Int → Int
  | [], _ => -1
  | a :: t, k => if v = a then k else idxI v t (k + 1)
theorem equali_ok (B : World) (H : List HP) (q1 q2 : Option Addr) (c1 c2 : Nat) (xs ys : List Int) (hx : xs.length ≤ 1000000) (hy : ys.length ≤ 1000000) (h1 : ∀ i, i < xs.length → ∃ b off, q1 = some ⟨b, off, none⟩) (h2 : ∀ i, i < ys.length → ∃ b off, q2 = some ⟨b, off, none⟩) (r1 : SlR B H (.slice q1 xs.length c1) (xs.map i64)) (r2 : SlR B H (.slice q2 ys.length c2) (ys.map i64)) :
    ∀ w, Holds B H w → Calls Tryz.prog 62 [.slice q1 xs.length c1, .slice q2 ys.length c2].toArray w (PureR B H (.bool (decide (xs = ys)))) := by
  refine fn_enter Tryz.func62 rfl Tryz.ntmps62 rfl ?_; refine g_seq ?_; refine g_region ?_; refine kPa rfl rfl ?_; refine p_nil ?_; refine g_seq ?_; refine g_seq ?_; refine g_region ?_; refine kPm rfl rfl ?_; refine kPv (ev_len rfl Tryz.runUnderlying34 ⟨_, rfl⟩ rfl) rfl ?_; refine kPm rfl rfl ?_; refine kPv (ev_len rfl Tryz.runUnderlying34 ⟨_, rfl⟩ rfl) rfl ?_; refine kPv (ev_cmp rfl rfl rfl) rfl ?_; refine p_nil ?_
  refine g_if rfl (fun h10 => ?_) (fun h10 => ?_)
  · have hne : xs.length ≠ ys.length := by intro e; rw [e] at h10; simp at h10
    refine g_seq ?_; refine g_region ?_; refine kPa rfl rfl ?_; refine p_nil ?_; refine g_ret ?_
    exact ret_tmp Tryz.results62 rfl (fun w hw => ⟨by rw [decide_eq_false (fun e => hne (by rw [e]))], hw⟩)
  · have hle : xs.length = ys.length := by simp at h10; omega
    refine g_skip ?_; refine g_seq ?_; refine g_seq ?_; refine g_region ?_; refine kPm rfl rfl ?_; refine kPv (ev_len rfl Tryz.runUnderlying34 ⟨_, rfl⟩ rfl) rfl ?_; refine kPm rfl rfl ?_; refine p_nil ?_; refine g_block ?_
    refine g_loopk (ι := Nat) [12, 4, 0, 1] (fun k => (k ≤ xs.length) ∧ (∀ j, j < k → xs[j]? = ys[j]?)) (fun k => [(13, i64 k)]) (fun k => H) (fun k => xs.length - k) (0) (⟨Nat.zero_le _, fun j h => absurd h (Nat.not_lt_zero _)⟩) (fun a w st => st.to ⟨rfl, trivial⟩ (fun hh => hh)) ?_
    rintro k ⟨hk1, hk2⟩
    try simp only at hk1 hk2 ⊢
    refine go_sub (σ' := [(13, i64 k), (12, _), (4, _), (0, _), (1, _)]) ⟨rfl, rfl, rfl, rfl, rfl, trivial⟩ ?_; refine g_seq ?_; refine g_region ?_; refine kPv (ev_cmp rfl rfl rfl) rfl ?_; refine p_nil ?_; refine g_seq ?_
    refine g_if rfl (fun h14 => ?_) (fun h14 => ?_)
    · have hk : k < xs.length := by simp at h14; omega
      refine g_skip ?_; refine g_seq ?_; refine g_block ?_; refine g_seq ?_; refine g_region ?_; refine kPm rfl rfl ?_; refine kPa rfl rfl ?_; refine p_nil ?_; refine g_seq ?_; refine g_draw Tryz.mixed (by kernel_rfl) (by kernel_rfl) ?_
      obtain ⟨b1, o1, rfl⟩ := h1 k hk
      obtain ⟨b2, o2, rfl⟩ := h2 k (by omega)
      refine kQm rfl rfl ?_; refine kQm rfl rfl ?_; refine kQv (ev_iaS Tryz.runUnderlying34 Tryz.sizeOf3 rfl rfl (by omega) (by omega)) rfl ?_
      refine kQv (ev_loadS (v := i64 xs[k]) Tryz.isAgg3 r1 rfl (by rw [Int.toNat_natCast, List.getElem?_map, List.getElem?_eq_getElem hk]; rfl)) rfl ?_
      refine kQm rfl rfl ?_; refine kQm rfl rfl ?_; refine kQv (ev_iaS Tryz.runUnderlying34 Tryz.sizeOf3 rfl rfl (by omega) (by omega)) rfl ?_
      refine kQv (ev_loadS (v := i64 (ys[k]'(by omega))) Tryz.isAgg3 r2 rfl (by rw [Int.toNat_natCast, List.getElem?_map, List.getElem?_eq_getElem (by omega)]; rfl)) rfl ?_
      refine kQv (ev_cmp rfl rfl rfl) rfl ?_; refine q_nil ?_; refine go_sub (σ' := [(24, _), (13, _), (12, _), (4, _), (0, _), (1, _)]) ⟨rfl, rfl, rfl, rfl, rfl, rfl, trivial⟩ ?_
      refine g_if rfl (fun h24 => ?_) (fun h24 => ?_)
      · have hkk : xs[k]? ≠ ys[k]? := by
          rw [List.getElem?_eq_getElem hk, List.getElem?_eq_getElem (by omega)]
          simpa using h24
        refine g_seq ?_; refine g_region ?_; refine kPa rfl rfl ?_; refine p_nil ?_; refine g_ret ?_
        exact ret_tmp Tryz.results62 rfl (fun w hw => ⟨by rw [decide_eq_false (fun e => hkk (by rw [e]))], hw⟩)
      · have hkk : xs[k]? = ys[k]? := by
          rw [List.getElem?_eq_getElem hk, List.getElem?_eq_getElem (by omega)]
          simpa using h24
        refine g_skip ?_; refine g_region ?_
        first | refine p_val rfl (ev_add rfl rfl (wr64 (by omega))) .free rfl rfl ?_ | refine p_val rfl (ev_add rfl rfl rfl) .free rfl rfl ?_
        refine kPm rfl rfl ?_; refine p_nil ?_
        exact fun a w st_ => ⟨k + 1, ⟨by omega, fun j hj => (Nat.lt_succ_iff_lt_or_eq.1 hj).elim (hk2 j) (fun h => by subst h; exact hkk)⟩, by omega, st_.to ⟨rfl, rfl, rfl, rfl, rfl, trivial⟩ (fun hh => hh)⟩
    · have hk : ¬ k < xs.length := by simp at h14; omega
      refine g_exit ?_; refine g_seq ?_; refine g_region ?_; refine kPa rfl rfl ?_; refine p_nil ?_; refine g_ret ?_
      exact ret_tmp Tryz.results62 rfl (fun w hw => ⟨by
      have e : xs = ys := List.ext_getElem? fun j => by
        by_cases hj : j < k
        · exact hk2 j hj
        · rw [List.getElem?_eq_none (by omega), List.getElem?_eq_none (by omega)]
      rw [decide_eq_true e], hw⟩)
theorem indexi_ok (B : World) (H : List HP) (q : Option Addr) (c : Nat) (xs : List Int) (v : Int) (hx : xs.length ≤ 1000000) (hq : ∀ i, i < xs.length → ∃ b off, q = some ⟨b, off, none⟩) (hr : SlR B H (.slice q xs.length c) (xs.map i64)) :
    ∀ w, Holds B H w → Calls Tryz.prog 65 [.slice q xs.length c, i64 v].toArray w (PureR B H (i64 (idxI v xs 0))) := by
  refine fn_enter Tryz.func65 rfl Tryz.ntmps65 rfl ?_; refine g_seq ?_; refine g_region ?_; refine kPa rfl rfl ?_; refine p_nil ?_; refine g_seq ?_; refine g_seq ?_; refine g_region ?_; refine kPm rfl rfl ?_; refine kPv (ev_len rfl Tryz.runUnderlying34 ⟨_, rfl⟩ rfl) rfl ?_; refine kPm rfl rfl ?_; refine p_nil ?_; refine g_block ?_
  refine g_loopk (ι := Nat) [7, 4, 0, 1] (fun k => (k ≤ xs.length) ∧ (idxI v xs 0 = idxI v (xs.drop k) k)) (fun k => [(8, i64 k)]) (fun k => H) (fun k => xs.length - k) (0) (⟨Nat.zero_le _, rfl⟩) (fun a w st => st.to ⟨rfl, trivial⟩ (fun hh => hh)) ?_
  rintro k ⟨hk1, hinv⟩
  try simp only at hk1 hinv ⊢
  refine go_sub (σ' := [(8, i64 k), (7, _), (4, _), (0, _), (1, _)]) ⟨rfl, rfl, rfl, rfl, rfl, trivial⟩ ?_; refine g_seq ?_; refine g_region ?_; refine kPv (ev_cmp rfl rfl rfl) rfl ?_; refine p_nil ?_; refine g_seq ?_
  refine g_if rfl (fun h9 => ?_) (fun h9 => ?_)
  · have hk : k < xs.length := by simp at h9; omega
    obtain ⟨b1, o1, rfl⟩ := hq k hk
    have hst : idxI v (xs.drop k) k = if v = xs[k] then (k : Int) else idxI v (xs.drop (k + 1)) (k + 1 : Nat) := by rw [List.drop_eq_getElem_cons hk]; rfl
    refine g_skip ?_; refine g_seq ?_; refine g_block ?_; refine g_seq ?_; refine g_region ?_; refine kPm rfl rfl ?_; refine kPa rfl rfl ?_; refine p_nil ?_; refine g_seq ?_; refine g_region ?_; refine kPm rfl rfl ?_; refine kPm rfl rfl ?_; refine kPm rfl rfl ?_; refine kPv (ev_iaS Tryz.runUnderlying34 Tryz.sizeOf3 rfl rfl (by omega) (by omega)) rfl ?_
    refine kPv (ev_loadS (v := i64 xs[k]) Tryz.isAgg3 hr rfl (by rw [Int.toNat_natCast, List.getElem?_map, List.getElem?_eq_getElem hk]; rfl)) rfl ?_
    refine kPv (ev_cmp rfl rfl rfl) rfl ?_; refine p_nil ?_; refine go_sub (σ' := [(16, _), (5, _), (8, _), (7, _), (4, _), (0, _), (1, _)]) ⟨rfl, rfl, rfl, rfl, rfl, rfl, rfl, trivial⟩ ?_
    refine g_if rfl (fun h16 => ?_) (fun h16 => ?_)
    · have he : v = xs[k] := by simpa using h16
      refine g_seq ?_; refine g_region ?_; refine kPm rfl rfl ?_; refine kPa rfl rfl ?_; refine p_nil ?_; refine g_ret ?_
      exact ret_tmp Tryz.results65 rfl (fun w hw => ⟨by rw [hinv, hst, if_pos he], hw⟩)
    · have he : ¬ v = xs[k] := by simpa using h16
      refine g_skip ?_; refine g_region ?_
      first | refine p_val rfl (ev_add rfl rfl (wr64 (by omega))) .free rfl rfl ?_ | refine p_val rfl (ev_add rfl rfl rfl) .free rfl rfl ?_
      refine kPm rfl rfl ?_; refine p_nil ?_
      exact fun a w st_ => ⟨k + 1, ⟨by omega, by rw [hinv, hst, if_neg he]⟩, by omega, st_.to ⟨rfl, rfl, rfl, rfl, rfl, trivial⟩ (fun hh => hh)⟩
  · have hk : ¬ k < xs.length := by simp at h9; omega
    refine g_exit ?_; refine g_seq ?_; refine g_region ?_; refine kPa rfl rfl ?_; refine p_nil ?_; refine g_ret ?_
    exact ret_tmp Tryz.results65 rfl (fun w hw => ⟨by rw [hinv, List.drop_eq_nil_of_le (by omega)]; rfl, hw⟩)
end Go.Proofs.YtbfheafpecgphaaGreat
namespace Go.Proofs.YtbfheafpecgphaaGreat
open Go
theorem Tryz.ownKnobs : ownKnob Tryz.prog.godebug = none := by kernel_rfl
theorem Tryz.laidOut : laidOutB Tryz.prog = true := by kernel_rfl
theorem law_of {P : Program} {f : FuncId} {vs : Array Value} {W : World} (h : ∀ w, Holds W [old W] w → Calls P f vs w (PureR W [old W] (.bool true))) :
    Calls P f vs W (fun e w' => e = .returned (.bool true) ∧ RowKit.Below W.heap.size W w') := (h W (holds_old W)).mono fun _ _ ⟨h1, h2⟩ => ⟨h1, h2.oldb⟩
theorem ev_loadOA {B : World} {σ : Env} {H : List HP} {P : Program} {d : Option Tmp} {ty : TypeId} {p : String} {af : Array Edge} {g : Option (Nat × Bool)} {t : TypeId} {x : Operand} {b off m : Nat} {cs : List Value} (ht : ∀ w, (isAgg t).run P w = .ok true w) (hs : ∀ w, (sizeOf t).run P w = .ok m w) (hx : evO σ x = some (.pointer (some ⟨b, off, none⟩))) [HasOld H B] (hl : cs.length = m) (hv : ∀ i, i < cs.length → B.cell? ⟨b, off + i, none⟩ = cs[i]?) : Evs P B σ H ⟨d, .load t x, ty, p, af, g⟩ (.agg cs.toArray) := by
  intro a w kn hh
  have h1 : ∀ i, i < cs.length → w.cell? ⟨b, off + i, none⟩ = cs[i]? := fun i hi => by
    have h2 := hv i hi
    rw [List.getElem?_eq_getElem hi] at h2 ⊢
    exact hh.oldcell h2
  have h3 := run_loadCellsS (P := P) h1 m 0 #[] (by omega)
  rw [List.drop_zero, List.take_of_length_le (by omega)] at h3
  simp [execOp, kn.eval hx, Instr.loadAt, Instr.sureAddr, loadVar, ht, hs, loadCells, h3, Sem.run]
end Go.Proofs.YtbfheafpecgphaaGreat
namespace Go.Proofs.YtbfheafpecgphaaGreat
open Go
set_option maxRecDepth 100000 in
theorem arg_sl_st_u8_u8_u8 {H : Type} {enc : TypeId × Value → H} {W : World} {base : Nat} {held : Bool} {a : Option Addr} {len cap : Nat} {x : DataW H × List MemPlace}
    (h : ∃ fuel, DataW.trod enc Tryz.prog W base (fun _ => true) held fuel 101 (Value.slice a len cap).cells.toList = some x) : ∃ f : Nat → Int × Int × Int, len ≤ 9223372036854775807 ∧ (∀ i, i < len → 0 ≤ (f i).1 ∧ (f i).1 ≤ 255 ∧ 0 ≤ (f i).2.1 ∧ (f i).2.1 ≤ 255 ∧ 0 ≤ (f i).2.2 ∧ (f i).2.2 ≤ 255) ∧ ArgRow W a len 3 (fun i => [.int .u8 (f i).1, .int .u8 (f i).2.1, .int .u8 (f i).2.2]) := by
  obtain ⟨fuel, hf⟩ := h
  rcases Go.Deep.open_slice Tryz.underlying101 hf with ⟨hcs, _⟩ | ⟨y, l, c, m, n, D, Pl, hcs, _, hl, hm, hmm, _, hx⟩
  · simp [Value.cells] at hcs
    obtain ⟨rfl, rfl, rfl⟩ := hcs
    exact ⟨fun _ => (0, 0, 0), by omega, fun i hi => by omega, ⟨fun i hi => by omega⟩⟩
  · simp [Value.cells] at hcs
    obtain ⟨rfl, rfl, rfl⟩ := hcs
    unfold maxLen at hm
    simp only [if_true] at hmm
    have hc2 : Tryz.prog.cellsOf 103 = 3 := by kernel_rfl
    have each : ∀ i, i < len → ∃ p : Int × Int × Int, (0 ≤ p.1 ∧ p.1 ≤ 255 ∧ 0 ≤ p.2.1 ∧ p.2.1 ≤ 255 ∧ 0 ≤ p.2.2 ∧ p.2.2 ≤ 255) ∧ W.cell? (y.add (i * 3)) = some (.int .u8 p.1) ∧ W.cell? ((y.add (i * 3)).add 1) = some (.int .u8 p.2.1) ∧ W.cell? ((y.add (i * 3)).add 2) = some (.int .u8 p.2.2) := fun i hi => by
      obtain ⟨cs, h1, h2⟩ := hx i (by omega)
      rw [hc2] at h1
      obtain ⟨y0, y1, y2, n, _, hlen, g0, g1, g2⟩ := Go.Deep.trod_struct3 Tryz.underlying103 h2
      rw [hc2] at hlen
      match cs, hlen with
      | [u, v, t], _ =>
        obtain ⟨p, ep, _, wp⟩ := DataW.trod_int Tryz.underlying5 g0
        obtain ⟨q, eq, _, wq⟩ := DataW.trod_int Tryz.underlying5 g1
        obtain ⟨r, er, _, wr⟩ := DataW.trod_int Tryz.underlying5 g2
        have ep : [u] = [Value.int .u8 p] := ep
        have eq : [v] = [Value.int .u8 q] := eq
        have er : [t] = [Value.int .u8 r] := er
        cases ep; cases eq; cases er
        have bp := bounds_u8 wp
        have bq := bounds_u8 wq
        have br := bounds_u8 wr
        have hs := World.cells?_some h1
        exact ⟨(p, q, r), ⟨bp.1, bp.2, bq.1, bq.2, br.1, br.2⟩, hs.2.2 0 (by decide), hs.2.2 1 (by decide), hs.2.2 2 (by decide)⟩
    obtain ⟨b, o, s⟩ := y
    by_cases h0 : len = 0
    · exact ⟨fun _ => (0, 0, 0), by omega, fun i hi => by omega, ⟨fun i hi => by omega⟩⟩
    have hs : s = none := by
      obtain ⟨p, _, h1, _⟩ := each 0 (by omega)
      have e0 : (⟨b, o, s⟩ : Addr).add (0 * 3) = ⟨b, o, s⟩ := rfl
      rw [e0] at h1
      unfold World.cell? at h1
      split at h1
      · cases s with
        | none => rfl
        | some q => simp at h1
      · cases h1
    subst hs
    refine ⟨fun i => if hi : i < len then (each i hi).choose else (0, 0, 0), by omega, fun i hi => ?_, ⟨fun i hi => ⟨b, o, rfl, rfl, fun j hj => ?_⟩⟩⟩
    · simp only [dif_pos hi]
      exact (each i hi).choose_spec.1
    · obtain ⟨_, h1, h2, h3⟩ := (each i hi).choose_spec
      simp only [dif_pos hi]
      match j, hj with
      | 0, _ => exact (congrArg W.cell? (add_eq b o (i * 3))).symm.trans h1
      | 1, _ => exact ((congrArg (fun a : Addr => W.cell? (a.add 1)) (add_eq b o (i * 3))).trans (congrArg W.cell? (add_eq b (o + i * 3) 1))).symm.trans h2
      | 2, _ => exact ((congrArg (fun a : Addr => W.cell? (a.add 2)) (add_eq b o (i * 3))).trans (congrArg W.cell? (add_eq b (o + i * 3) 2))).symm.trans h3
end Go.Proofs.YtbfheafpecgphaaGreat
namespace Go.Proofs.YtbfheafpecgphaaGreat
open Go
theorem accv_vec {B : World} {sv : Value} {xs : List Int} {Fr : List HP} {w : World} (h : Holds B (AccV 0 (sv, xs) :: Fr) w) : Holds B (VecA 3 i64 0 (sv, xs) :: Fr) w := by
  rcases holds_accv h with ⟨rfl, rfl, h2⟩ | ⟨bd, rest, rfl, h2⟩
  · exact vec_nil h2
  · exact vec_row rfl rfl h2
theorem mdel_mem {α : Type} {k : Int} {p : Int × α} : ∀ {l : List (Int × α)}, p ∈ mdel l k → p ∈ l
  | [], h => h
  | q :: l, h => by
    unfold mdel at h
    split at h
    · exact List.mem_cons_of_mem _ h
    · rcases List.mem_cons.1 h with rfl | h
      · exact List.mem_cons_self ..
      · exact List.mem_cons_of_mem _ (mdel_mem h)
theorem mdel_nodup {α : Type} {k : Int} : ∀ {l : List (Int × α)}, (l.map Prod.fst).Nodup → ((mdel l k).map Prod.fst).Nodup
  | [], h => h
  | q :: l, h => by
    rw [List.map_cons, List.nodup_cons] at h
    unfold mdel
    split
    · exact h.2
    · rw [List.map_cons, List.nodup_cons]
      refine ⟨fun hm => h.1 ?_, mdel_nodup h.2⟩
      obtain ⟨p, hp, e⟩ := List.mem_map.1 hm
      exact List.mem_map.2 ⟨p, mdel_mem hp, e⟩
theorem mget_notin {α : Type} {k : Int} : ∀ {l : List (Int × α)}, k ∉ l.map Prod.fst → mget l k = none
  | [], _ => rfl
  | q :: l, h => by
    rw [List.map_cons, List.mem_cons] at h
    unfold mget
    rw [if_neg (fun e => h (.inl e.symm)), mget_notin fun hm => h (.inr hm)]
theorem mget_mdel {α : Type} {k j : Int} : ∀ {l : List (Int × α)}, (l.map Prod.fst).Nodup → mget (mdel l k) j = if j = k then none else mget l j
  | [], _ => by unfold mdel mget; split <;> rfl
  | q :: l, h => by
    rw [List.map_cons, List.nodup_cons] at h
    unfold mdel
    split
    · rename_i hq
      by_cases hj : j = k
      · rw [if_pos hj]; subst hj; subst hq; exact mget_notin h.1
      · rw [if_neg hj]; conv => rhs; unfold mget
        rw [if_neg (fun e => hj (by rw [← e, hq]))]
    · rename_i hq
      conv => lhs; unfold mget
      by_cases hj : q.1 = j
      · rw [if_pos hj, if_neg (fun e => hq (by rw [hj, e]))]; unfold mget; rw [if_pos hj]
      · rw [if_neg hj, mget_mdel h.2]; conv => rhs; unfold mget
        rw [if_neg hj]
theorem mset_nodup {α : Type} {k : Int} {a : α} {l : List (Int × α)} (h : (l.map Prod.fst).Nodup) : ((mset l k a).map Prod.fst).Nodup := by
  by_cases hk : k ∈ l.map Prod.fst
  · rw [mset_keys hk]; exact h
  · rw [mset_none (mget_notin hk), List.map_append, List.nodup_append]
    exact ⟨h, by simp, fun x hx y hy => by simp at hy; subst hy; intro e; subst e; exact hk hx⟩
structure TabW (T : TabS) : Prop where
  last : 0 ≤ T.last
  n1 : (T.at_.map Prod.fst).Nodup
  n2 : (T.no.map Prod.fst).Nodup
  fwd : ∀ n p, mget T.at_ n = some p → mget T.no p = some n ∧ 1 ≤ n ∧ n ≤ T.last ∧ p ≠ 0
  bwd : ∀ p n, mget T.no p = some n → mget T.at_ n = some p
theorem tab_w0 : TabW ⟨[], [], 0⟩ := ⟨Int.le_refl 0, List.nodup_nil, List.nodup_nil, (fun _ _ h => by cases h), (fun _ _ h => by cases h)⟩
theorem TabW.len {T : TabS} (h : TabW T) : (T.at_.length : Int) ≤ T.last := by
  have h0 := h.last
  have := nodup_len T.last.toNat 1 _ h.n1 fun k hk => by
    cases hm : mget T.at_ k with
    | none => exact absurd hk (mget_none hm)
    | some p => have := h.fwd k p hm; omega
  simp only [List.length_map] at this; omega
theorem TabW.take {T : TabS} (h : TabW T) {p : Int} (hp : p ≠ 0) : TabW (T.take p).2 ∧ mget (T.take p).2.at_ (T.take p).1 = some p ∧ (1 ≤ (T.take p).1 ∧ (T.take p).1 ≤ (T.take p).2.last) ∧ (T.last ≤ (T.take p).2.last ∧ (T.take p).2.last ≤ T.last + 1) ∧ (∀ n, n ≠ (T.take p).1 → mget (T.take p).2.at_ n = mget T.at_ n) ∧
    ((mget T.no p = some (T.take p).1 ∧ (T.take p).2 = T) ∨ (mget T.no p = none ∧ (T.take p).1 = T.last + 1 ∧ (T.take p).2 = ⟨T.at_ ++ [(T.last + 1, p)], T.no ++ [(p, T.last + 1)], T.last + 1⟩)) := by
  have h0 := h.last
  unfold TabS.take
  rw [if_neg hp]
  cases hm : mget T.no p with
  | some n =>
    simp only [Option.isSome_some, if_true, Option.getD_some]
    have h1 := h.bwd p n hm
    have h2 := h.fwd n p h1
    exact ⟨h, h1, ⟨h2.2.1, h2.2.2.1⟩, ⟨by omega, by omega⟩, fun _ _ => by first | rfl | trivial, .inl (by simp)⟩
  | none =>
    simp only [Option.isSome_none, Bool.false_eq_true, if_false]
    have hn : mget T.at_ (T.last + 1) = none := by
      cases hx : mget T.at_ (T.last + 1) with
      | none => rfl
      | some q => have := h.fwd _ _ hx; omega
    refine ⟨⟨by first | omega | (simp only; omega), mset_nodup h.n1, mset_nodup h.n2, fun n q hq => ?_, fun q n hq => ?_⟩, by simp only [mget_mset, if_true], ⟨by first | omega | (simp only; omega), by first | omega | (simp only; omega)⟩, ⟨by first | omega | (simp only; omega), by first | omega | (simp only; omega)⟩, fun n hne => by simp only [mget_mset]; rw [if_neg hne], .inr ⟨trivial, trivial, by rw [mset_none hn, mset_none hm]⟩⟩
    · simp only [mget_mset] at hq ⊢
      split at hq
      · rename_i e; cases hq; subst e; exact ⟨if_pos rfl, by omega, by omega, hp⟩
      · rename_i e
        have h1 := h.fwd n q hq
        exact ⟨by rw [if_neg (fun e => by subst e; rw [hm] at h1; cases h1.1)]; exact h1.1, h1.2.1, by omega, h1.2.2.2⟩
    · simp only [mget_mset] at hq ⊢
      split at hq
      · rename_i e; cases hq; subst e; exact if_pos rfl
      · rename_i e
        have h1 := h.bwd q n hq
        have h2 := h.fwd n q h1
        rw [if_neg (by omega)]; exact h1
def TabS.drop (T : TabS) (n : Int) : TabS := ⟨mdel T.at_ n, if (mget T.at_ n).isSome = true then mdel T.no ((mget T.at_ n).getD 0) else T.no, T.last⟩
theorem TabW.drop {T : TabS} (h : TabW T) (n : Int) : TabW (T.drop n) ∧ (∀ j, mget (T.drop n).at_ j = if j = n then none else mget T.at_ j) := by
  unfold TabS.drop
  have hd : ∀ j, mget (mdel T.at_ n) j = if j = n then none else mget T.at_ j := fun j => mget_mdel h.n1
  refine ⟨?_, hd⟩
  cases hm : mget T.at_ n with
  | none =>
    simp only [Option.isSome_none, Bool.false_eq_true, if_false]
    refine ⟨h.last, mdel_nodup h.n1, h.n2, fun j p hj => ?_, fun p j hj => ?_⟩
    · simp only [hd] at hj; split at hj
      · cases hj
      · exact h.fwd j p hj
    · have h1 := h.bwd p j hj
      simp only [hd]
      rw [if_neg (fun e => by subst e; rw [hm] at h1; cases h1)]; exact h1
  | some q =>
    simp only [Option.isSome_some, if_true, Option.getD_some]
    have hq := h.fwd n q hm
    have hd2 : ∀ j, mget (mdel T.no q) j = if j = q then none else mget T.no j := fun j => mget_mdel h.n2
    refine ⟨h.last, mdel_nodup h.n1, mdel_nodup h.n2, fun j p hj => ?_, fun p j hj => ?_⟩
    · simp only [hd] at hj; split at hj
      · cases hj
      · rename_i hjn
        have h1 := h.fwd j p hj
        refine ⟨?_, h1.2⟩
        simp only [hd2]
        rw [if_neg (fun e => by subst e; rw [h1.1] at hq; exact hjn (by injection hq.1))]; exact h1.1
    · simp only [hd2] at hj; split at hj
      · cases hj
      · rename_i hpq
        have h1 := h.bwd p j hj
        simp only [hd]
        rw [if_neg (fun e => by subst e; rw [hm] at h1; exact hpq (by injection h1 with h1; exact h1.symm))]; exact h1
theorem awake16_ok (B : World) (Fr : List HP) :
    ∀ w, Holds B Fr w → Calls Tryz.prog 29 [].toArray w (PureR B Fr (.bool true)) := by
  refine fn_enter Tryz.func29 rfl Tryz.ntmps29 rfl ?_; refine g_seq ?_; refine g_region ?_; refine kPa rfl rfl ?_; refine p_nil ?_; refine g_seq ?_; refine g_seq ?_; refine g_region ?_; refine p_callq rfl (en_f Tryz.call11 rfl) (awake15_ok _ _) .free rfl rfl ?_; refine kPv (ev_not rfl) rfl ?_; refine p_nil ?_; refine g_iff rfl (rfl) ?_; refine g_skip ?_; refine g_seq ?_; refine g_region ?_
  refine p_call rfl (en_f Tryz.call30 rfl) (hnew_ok _ _) .free rfl rfl ?_ ?_
  rotate_left
  · rintro _ _ ⟨⟩
  rintro _ _ ⟨tb, rfl, rfl⟩
  refine kPa rfl rfl ?_; refine p_nil ?_; refine g_seq ?_; refine g_region ?_; refine kPm rfl rfl ?_; refine kPv (ev_eqp Tryz.runUnderlying67 rfl rfl rfl) rfl ?_; refine kPm rfl rfl ?_; refine p_val rfl (ev_move rfl) (.on rfl rfl (beq_eq rfl)) rfl rfl ?_
  refine p_call rfl (en_f Tryz.call31 rfl) (htake_ok _ _ _ _ _ ⟨by decide, by decide⟩) (.on rfl rfl (beq_eq rfl)) rfl rfl ?_ ?_
  rotate_left
  · rintro _ _ ⟨⟩
  rintro _ _ ⟨rfl, rfl⟩
  refine p_val rfl (ev_cmp rfl rfl rfl) (.on rfl rfl (beq_eq rfl)) rfl rfl ?_; refine kPv (ev_pick_t rfl rfl rfl) rfl ?_; refine kPm rfl rfl ?_; refine p_val rfl (ev_move rfl) (.on rfl rfl (beq_eq rfl)) rfl rfl ?_
  refine p_call rfl (en_f Tryz.call31 rfl) (htake_ok _ _ _ _ _ ⟨by decide, by decide⟩) (.on rfl rfl (beq_eq rfl)) rfl rfl ?_ ?_
  rotate_left
  · rintro _ _ ⟨⟩
  rintro _ _ ⟨rfl, rfl⟩
  refine p_val rfl (ev_cmp rfl rfl rfl) (.on rfl rfl (beq_eq rfl)) rfl rfl ?_; refine kPv (ev_pick_t rfl rfl rfl) rfl ?_; refine kPm rfl rfl ?_; refine p_val rfl (ev_move rfl) (.on rfl rfl (beq_eq rfl)) rfl rfl ?_
  refine p_call rfl (en_f Tryz.call31 rfl) (htake_ok _ _ _ _ _ ⟨by decide, by decide⟩) (.on rfl rfl (beq_eq rfl)) rfl rfl ?_ ?_
  rotate_left
  · rintro _ _ ⟨⟩
  rintro _ _ ⟨rfl, rfl⟩
  refine p_val rfl (ev_cmp rfl rfl rfl) (.on rfl rfl (beq_eq rfl)) rfl rfl ?_; refine kPv (ev_pick_t rfl rfl rfl) rfl ?_; refine kPm rfl rfl ?_; refine p_val rfl (ev_move rfl) (.on rfl rfl (beq_eq rfl)) rfl rfl ?_
  refine p_call rfl (en_f Tryz.call31 rfl) (htake_ok _ _ _ _ _ ⟨by decide, by decide⟩) (.on rfl rfl (beq_eq rfl)) rfl rfl ?_ ?_
  rotate_left
  · rintro _ _ ⟨⟩
  rintro _ _ ⟨rfl, rfl⟩
  refine p_val rfl (ev_cmp rfl rfl rfl) (.on rfl rfl (beq_eq rfl)) rfl rfl ?_; refine kPv (ev_pick_t rfl rfl rfl) rfl ?_; refine kPa rfl rfl ?_; refine p_nil ?_; refine go_sub (σ' := [(0, _)]) ⟨rfl, trivial⟩ ?_; refine g_ret ?_
  exact ret_tmp Tryz.results29 rfl (fun w hh => ⟨rfl, (hh.dp [0])⟩)
end Go.Proofs.YtbfheafpecgphaaGreat
namespace Go.Proofs.YtbfheafpecgphaaGreat
open Go
section
variable {B : World} {σ : Env} {H : List HP} {P : Program} {d : Option Tmp} {ty : TypeId} {p : String} {af : Array Edge} {g : Option (Nat × Bool)}
theorem run_eq_map {t k e : TypeId} {q : Option Nat} (ht : ∀ w, (underlying t).run P w = .ok (.map k e) w) (w : World) : (Op.equal t (.map q) (.map none)).run P w = .ok q.isNone w := by
  show (Op.equalIn (9999 + 1) t (.map q) (.map none)).run P w = _
  rw [Op.equalIn]; simp only [Sem.run_bind, ht, Result.andThen_ok]; cases q <;> rfl
theorem ev_eqm {op : BinOp} {x y : Operand} {q : Option Nat} {c : Bool} {t u k e : TypeId} (ht : ∀ w, (underlying t).run P w = .ok (.map k e) w) (hx : evO σ x = some (.map q)) (hy : evO σ y = some (.map none)) (hc : (match op with | .eql => some q.isNone | .neq => some (!q.isNone) | _ => none) = some c) :
    Evs P B σ H ⟨d, .binOp op t x y u, ty, p, af, g⟩ (.bool c) := by
  intro a w kn _
  cases op <;> simp at hc <;> subst hc <;> simp only [execOp, kn.eval hx, kn.eval hy] <;> simp [binOp, eqGuard, run_eq_map ht]
theorem ev_ta1 {x : Operand} {s t : TypeId} {v : Value} {td : TypeDesc} (ht : ∀ w, (underlying t).run P w = .ok td w) (hi : isIf td = false) (hx : evO σ x = some (.iface t v)) : Evs P B σ H ⟨d, .typeAssert x s t false, ty, p, af, g⟩ v := by
  intro a w kn _
  cases td <;> simp [isIf] at hi <;> simp [execOp, kn.eval hx, Instr.typeAssert, ht]
theorem ch_mclone {α : Type} {kk : IntKind} {enc : α → Value} {r : Nat} {l : List (Int × α)} {U : List (Int × α) → List HP} {f : FuncId} {x : Operand} {t : TypeId} {at_ : Array TypeId} (hc : ∀ (args : Array Value) (w : World), (callFunc f args).run P w = ((Extern.MapsClone.clone args).run P w).andThen fun v w' => .ok (.value v) w')
    (hx : evO σ x = some (.iface t (.map (some r)))) [m : MapU H r kk enc l U] :
    Chg P B σ H ⟨d, .call ⟨.value (.func f), #[x], at_⟩, ty, p, af, g⟩ (fun v H' => ∃ b, v = .iface t (.map (some b)) ∧ H' = mapA kk enc b l :: H) := by
  intro a w kn hh
  obtain ⟨bn, clock, ho, hm⟩ := m.obj hh
  refine ⟨.value (.iface t (.map (some w.heap.size))), { w with heap := w.heap.push (.map (ments kk enc bn l).toArray clock) }, ?_, _, .inl rfl, _, ⟨_, rfl, rfl⟩, ?_⟩
  · have e : Extern.MapsClone.clone #[.iface t (.map (some r))] = (getObj r >>= fun o => match o with
        | .map entries clock => (newObj (.map entries clock) >>= fun n => pure (.iface t (.map (some n))))
        | _ => stuck "maps.clone: a map expected") := rfl
    have hg : (getObj r).run P w = .ok (.map (ments kk enc bn l).toArray clock) w := by simp [getObj, Sem.run, ho]
    have hfe : a.eval (.func f) = .func (.func f) #[] #[] := rfl
    simp [execOp, resolve, Deferred.ofValue, invoke, hfe, kn.eval hx, hc, e, hg]
  · exact (hh.new (.map (ments kk enc bn l).toArray clock)).map fun _ a => sat_head (fun k hk => ⟨bn, clock, hk, hm⟩) a
end
theorem mclone_ok (B : World) (H : List HP) (r : Nat) (l : List (Int × Int)) (U : List (Int × Int) → List HP) (m : MapU H r .i64 i64 l U) :
    ∀ w, Holds B H w → Calls Tryz.prog 98 [.map (some r)].toArray w (Ret B (fun rv H' => ∃ b, rv = .map (some b) ∧ H' = mapA .i64 i64 b l :: H) (fun _ _ => False)) := by
  refine fn_enter Tryz.func98 rfl Tryz.ntmps98 rfl ?_; refine g_seq ?_; refine g_region ?_; refine kPa rfl rfl ?_; refine p_nil ?_; refine g_seq ?_; refine g_seq ?_; refine g_region ?_; refine kPm rfl rfl ?_; refine kPv (ev_eqm Tryz.runUnderlying69 rfl rfl rfl) rfl ?_; refine p_nil ?_; refine g_iff rfl (rfl) ?_; refine g_skip ?_; refine g_seq ?_; refine g_region ?_; refine kPm rfl rfl ?_; refine kPv (ev_mki Tryz.runUnderlying69 rfl rfl) rfl ?_
  refine p_chg rfl (ch_mclone (fun args w => run_callFunc_extern Tryz.func117 (by kernel_rfl) (by kernel_rfl) (by kernel_rfl) (e := Extern.MapsClone.clone) (by kernel_rfl) args w) rfl) .free rfl rfl ?_
  rintro _ _ ⟨b, rfl, rfl⟩
  refine kPv (ev_ta1 Tryz.runUnderlying69 rfl rfl) rfl ?_; refine kPa rfl rfl ?_; refine p_nil ?_; refine go_sub (σ' := [(2, _)]) ⟨rfl, trivial⟩ ?_; refine g_ret ?_
  exact ret_tmp Tryz.results98 rfl (fun w hh => ⟨_, ⟨b, rfl, rfl⟩, hh⟩)
structure MoveF (B : World) (f : FuncId) (fi ca : List Value) (ε : Type) (ExL : ε → List HP) (okp : Int → Prop) (to_ : Int → Int) (st : Int → ε → ε) : Prop where
  enter : ∀ args w, (callFunc f args).run Tryz.prog w = .ok (.enter f args) w
  says : ∀ (Fr : List HP) (p : Int) (e : ε), okp p → ∀ w, Holds B (ExL e ++ Fr) w → Calls Tryz.prog f (fi ++ [i64 p] ++ ca).toArray w (Ret B (fun rv H' => rv = i64 (to_ p) ∧ H' = ExL (st p e) ++ Fr) (fun _ _ => False))
def mvStep (to_ : Int → Int) (x : List (Int × Int) × List (Int × Int)) (p : Int × Int) : List (Int × Int) × List (Int × Int) := if to_ p.2 ≠ 0 then (mset x.1 p.1 (to_ p.2), mset x.2 (to_ p.2) p.1) else x
def TabS.moved (to_ : Int → Int) (last : Int) (ord : List (Int × Int)) : TabS := ⟨(ord.foldl (mvStep to_) ([], [])).1, (ord.foldl (mvStep to_) ([], [])).2, last⟩
theorem Holds.hop0 {B : World} {w : World} (L M : List HP) {E : List HP} (h : Holds B (L ++ (M ++ E)) w) : Holds B (M ++ (L ++ E)) w :=
  h.perm (by rw [← List.append_assoc, ← List.append_assoc]; exact List.Perm.append_right _ List.perm_append_comm)
theorem nodup_of {α : Type} {l : List (Int × α)} (h : (l.map Prod.fst).Nodup) : l.Nodup := List.Pairwise.of_map Prod.fst (fun a b h e => h (by rw [e])) h
theorem foldl_snoc {α β : Type} (f : β → α → β) (l : List α) (a : α) (b : β) : (l ++ [a]).foldl f b = f (l.foldl f b) a := by rw [List.foldl_append]; rfl
theorem hmoved_ok (B : World) (Fr : List HP) (b : Nat) (T : TabS) (f : FuncId) (fi ca : List Value) (ε : Type) (ExL : ε → List HP) (okp : Int → Prop) (to_ : Int → Int) (st : Int → ε → ε) (hM : MoveF B f fi ca ε ExL okp to_ st) (hok : ∀ p ∈ T.at_, okp p.2) (e0 : ε) :
    ∀ w, Holds B (TabA b T :: (ExL e0 ++ Fr)) w → Calls Tryz.prog 58 [ptr b, .func (.func f) fi.toArray ca.toArray].toArray w (Ret B (fun _ H' => ∃ ord : List (Int × Int), ord.Perm T.at_ ∧ H' = TabA b (TabS.moved to_ T.last ord) :: (ExL (ord.foldl (fun e (p : Int × Int) => st p.2 e) e0) ++ Fr)) (fun _ _ => False)) := by
  refine fn_enter Tryz.func58 rfl Tryz.ntmps58 rfl ?_; refine go_tab fun b1 b2 => ?_; refine g_seq ?_; refine g_region ?_; refine kPm rfl rfl ?_
  first | refine kPv (ev_nil rfl) rfl ?_ | refine kPv (ev_nilf rfl) rfl ?_
  refine kPv (ev_fa (m := _) fa_139_0 rfl rfl) rfl ?_; refine kPv (ev_load Tryz.isAgg69 rfl rfl) rfl ?_
  refine p_call rfl (en_f Tryz.call98 rfl) (mclone_ok B _ b1 T.at_ _ inferInstance) .free rfl rfl ?_ ?_
  rotate_left
  · rintro _ _ ⟨⟩
  rintro _ _ ⟨bo, rfl, rfl⟩
  refine kPa rfl rfl ?_; refine p_nil ?_; refine g_seq ?_; refine g_region ?_; refine kPm rfl rfl ?_
  first | refine kPv (ev_nil rfl) rfl ?_ | refine kPv (ev_nilf rfl) rfl ?_
  refine kPv (ev_fa (m := _) fa_139_0 rfl rfl) rfl ?_; refine kPv (ev_load Tryz.isAgg69 rfl rfl) rfl ?_; refine p_chg0 rfl (ch_clear rfl Tryz.runUnderlying69 rfl) .free rfl ?_
  rintro _ _ rfl
  refine p_nil ?_; refine go_sub (σ' := [(4, _), (0, _), (1, _)]) ⟨rfl, rfl, rfl, trivial⟩ ?_; refine g_seq ?_; refine g_region ?_; refine kPm rfl rfl ?_
  first | refine kPv (ev_nil rfl) rfl ?_ | refine kPv (ev_nilf rfl) rfl ?_
  refine kPv (ev_fa (m := _) fa_139_1 rfl rfl) rfl ?_; refine kPv (ev_load Tryz.isAgg69 rfl rfl) rfl ?_; refine p_chg0 rfl (ch_clear rfl Tryz.runUnderlying69 rfl) .free rfl ?_
  rintro _ _ rfl
  refine p_nil ?_; refine g_seq ?_; refine g_region ?_; refine kPm rfl rfl ?_; refine p_chg rfl (ch_range Tryz.runUnderlying69 rfl) .free rfl rfl ?_
  rintro _ _ ⟨it, rfl, rfl⟩
  refine p_nil ?_; refine g_block ?_
  refine g_loopk (ι := List (Int × Int)) [22, 0, 1] (fun done => (done.length ≤ T.at_.length)) (fun done => []) (fun done => row b [.map (some b1), .map (some b2), i64 T.last] 139 :: mapA .i64 i64 b1 (done.foldl (mvStep to_) ([], [])).1 :: mapA .i64 i64 b2 (done.foldl (mvStep to_) ([], [])).2 :: iterA .i64 i64 bo it T.at_ done :: (ExL (done.foldl (fun e (p : Int × Int) => st p.2 e) e0) ++ Fr)) (fun done => T.at_.length - done.length) ([]) (Nat.zero_le _) (fun a w st => st.to trivial (fun hh => (hh.pk [1, 1, 1]))) ?_
  rintro done hdl
  try simp only at hdl ⊢
  refine go_sub (σ' := [(22, _), (0, _), (1, _)]) ⟨rfl, rfl, rfl, trivial⟩ ?_; refine g_seq ?_; refine g_region ?_; refine p_chg rfl (ch_next rfl) .free rfl rfl ?_
  rintro _ _ ⟨bb0, vs, done', rfl, hvs, rfl, hno, hyes⟩
  refine kPv (ev_ext rfl hvs) rfl ?_; refine p_nil ?_; refine g_seq ?_
  refine g_if rfl (fun h24 => ?_) (fun h24 => ?_)
  · obtain ⟨pp, hpl, hpn, rfl⟩ := hyes h24
    refine go_iter it fun hl hd hsub => ?_; refine g_skip ?_; refine g_block ?_; refine g_seq ?_; refine g_region ?_; refine kPv (ev_entry (p0 := pp) (dn := done) rfl) rfl ?_; refine kPv (ev_ext rfl rfl) rfl ?_; refine kPv (ev_ext rfl rfl) rfl ?_; refine kPa rfl rfl ?_; refine kPa rfl rfl ?_; refine p_nil ?_; refine g_seq ?_; refine g_region ?_; refine kPm rfl rfl ?_; refine kPm rfl rfl ?_
    refine p_call rfl (en_c hM.enter rfl rfl) (fun w hh => hM.says ([row b [.map (some b1), .map (some b2), i64 T.last] 139, mapA .i64 i64 b1 (done.foldl (mvStep to_) ([], [])).1, mapA .i64 i64 b2 (done.foldl (mvStep to_) ([], [])).2, iterA .i64 i64 bo it T.at_ (done ++ [pp])] ++ Fr) pp.2 (done.foldl (fun e (p : Int × Int) => st p.2 e) e0) (hok pp hpl) w (Holds.hop0 [row b [.map (some b1), .map (some b2), i64 T.last] 139, mapA .i64 i64 b1 (done.foldl (mvStep to_) ([], [])).1, mapA .i64 i64 b2 (done.foldl (mvStep to_) ([], [])).2, iterA .i64 i64 bo it T.at_ (done ++ [pp])] (ExL (done.foldl (fun e (p : Int × Int) => st p.2 e) e0)) hh)) .free rfl rfl ?_ ?_
    rotate_left
    · rintro _ _ ⟨⟩
    rintro _ _ ⟨rfl, rfl⟩
    refine go_conv (H' := [row b [.map (some b1), .map (some b2), i64 T.last] 139, mapA .i64 i64 b1 (done.foldl (mvStep to_) ([], [])).1, mapA .i64 i64 b2 (done.foldl (mvStep to_) ([], [])).2, iterA .i64 i64 bo it T.at_ (done ++ [pp])] ++ (ExL (st pp.2 (done.foldl (fun e (p : Int × Int) => st p.2 e) e0)) ++ Fr)) (fun w hh => Holds.hop0 (ExL (st pp.2 (done.foldl (fun e (p : Int × Int) => st p.2 e) e0))) [row b [.map (some b1), .map (some b2), i64 T.last] 139, mapA .i64 i64 b1 (done.foldl (mvStep to_) ([], [])).1, mapA .i64 i64 b2 (done.foldl (mvStep to_) ([], [])).2, iterA .i64 i64 bo it T.at_ (done ++ [pp])] hh) ?_
    simp only [List.cons_append, List.nil_append]
    refine kPa rfl rfl ?_; refine p_nil ?_; refine go_sub (σ' := [(7, _), (5, _), (22, _), (0, _), (1, _)]) ⟨rfl, rfl, rfl, rfl, rfl, trivial⟩ ?_; refine g_seq ?_; refine g_region ?_; refine kPm rfl rfl ?_; refine kPv (ev_cmp rfl rfl rfl) rfl ?_; refine p_nil ?_
    refine g_if rfl (fun h32 => ?_) (fun h32 => ?_)
    · have hnz : to_ pp.2 ≠ 0 := by simpa using h32
      refine g_drawv [0, 1, 2, 3, 4, 5, 6, 7, 8, 9, 10, 11, 12, 13, 14, 15, 16, 17] [12, 14, 15, 17] [9, 10, 11] [12, 14, 15] [row b [.map (some b1), .map (some b2), i64 T.last] 139] Tryz.mixed (by kernel_rfl) ?_; refine v_val rfl rfl rfl (ev_move rfl) .free rfl ?_
      first | refine v_val rfl rfl rfl (ev_nil rfl) .free rfl ?_ | refine v_val rfl rfl rfl (ev_nilf rfl) .free rfl ?_
      refine v_val rfl rfl rfl (ev_fa (m := _) fa_139_0 rfl rfl) .free rfl ?_; refine v_val rfl rfl rfl (ev_load Tryz.isAgg69 rfl rfl) .free rfl ?_; refine v_val rfl rfl rfl (ev_move rfl) .free rfl ?_; refine v_val rfl rfl rfl (ev_move rfl) .free rfl ?_
      first | refine v_val rfl rfl rfl (ev_nil rfl) .free rfl ?_ | refine v_val rfl rfl rfl (ev_nilf rfl) .free rfl ?_
      refine v_val rfl rfl rfl (ev_fa (m := _) fa_139_1 rfl rfl) .free rfl ?_; refine v_val rfl rfl rfl (ev_load Tryz.isAgg69 rfl rfl) .free rfl ?_; refine v_hoist rfl rfl rfl (ev_move rfl) .free rfl ?_; refine v_hoist rfl rfl rfl (ev_move rfl) .free rfl ?_; refine v_hoist rfl rfl rfl (ev_move rfl) .free rfl ?_; refine v_mark rfl rfl ?_; refine go_pk [1] ?_; refine p_chg rfl (ch_mapentry (u0 := (0 : Int)) Tryz.runUnderlying69 Tryz.runUnderlying3 Tryz.zeroValue3 rfl rfl) .free rfl rfl ?_
      rintro _ _ ⟨z1, st1, rfl, rfl⟩
      refine p_nil ?_; refine v_on ?_; refine v_val rfl rfl rfl (ev_ext rfl rfl) .free rfl ?_; refine v_mark rfl rfl ?_; refine p_chg0 rfl (ch_entrystore rfl rfl rfl rfl) .free rfl ?_
      rintro _ _ rfl
      refine p_nil ?_; refine v_on ?_; refine v_mark rfl rfl ?_; refine go_pk [2] ?_; refine p_chg rfl (ch_mapentry (u0 := (0 : Int)) Tryz.runUnderlying69 Tryz.runUnderlying3 Tryz.zeroValue3 rfl rfl) .free rfl rfl ?_
      rintro _ _ ⟨z2, st2, rfl, rfl⟩
      refine p_nil ?_; refine v_on ?_; refine v_val rfl rfl rfl (ev_ext rfl rfl) .free rfl ?_; refine v_mark rfl rfl ?_; refine p_chg0 rfl (ch_entrystore rfl rfl rfl rfl) .free rfl ?_
      rintro _ _ rfl
      refine p_nil ?_; refine v_off rfl ?_; refine v_nil ?_; refine go_sub (σ' := [(22, _), (0, _), (1, _)]) ⟨rfl, rfl, rfl, trivial⟩ ?_
      have hle := iter_le hd hsub
      exact fun a w st_ => ⟨done ++ [pp], by first | omega | (simp; omega), by first | omega | (simp; omega), st_.to ⟨rfl, rfl, rfl, trivial⟩ (fun hh => (by have h := (hh.pk [2, 1]); rw [mset_entry, mset_entry] at h; rw [foldl_snoc, foldl_snoc, show mvStep to_ (done.foldl (mvStep to_) ([], [])) pp = (mset _ pp.1 (to_ pp.2), mset _ (to_ pp.2) pp.1) from if_pos hnz]; exact h))⟩
    · have hnz : to_ pp.2 = 0 := by simpa using h32
      refine g_skip ?_
      have hle := iter_le hd hsub
      exact fun a w st_ => ⟨done ++ [pp], by first | omega | (simp; omega), by first | omega | (simp; omega), st_.to ⟨rfl, rfl, rfl, trivial⟩ (fun hh => (by have h := hh; rw [foldl_snoc, foldl_snoc, show mvStep to_ (done.foldl (mvStep to_) ([], [])) pp = _ from if_neg (by simpa using hnz)]; exact h))⟩
  · obtain ⟨rfl, hall⟩ := hno h24
    refine go_iter it fun hl hd hsub => ?_; refine g_exit ?_
    exact end_none Tryz.results58 (fun w hh => ⟨_, ⟨done', (List.perm_ext_iff_of_nodup (nodup_of hd) (nodup_of hl)).2 fun x => ⟨hsub x, hall x⟩, rfl⟩, tab_holds (T := TabS.moved to_ T.last done') (hh.dp [3])⟩)
end Go.Proofs.YtbfheafpecgphaaGreat
namespace Go.Proofs.YtbfheafpecgphaaGreat
open Go
theorem mget_in {α : Type} {k : Int} {v : α} : ∀ {l : List (Int × α)}, mget l k = some v → (k, v) ∈ l
  | [], h => by cases h
  | q :: l, h => by
    unfold mget at h
    split at h
    · rename_i e; cases h; subst e; exact List.mem_cons_self ..
    · exact List.mem_cons_of_mem _ (mget_in h)
theorem mget_of {α : Type} {k : Int} {v : α} : ∀ {l : List (Int × α)}, (l.map Prod.fst).Nodup → (k, v) ∈ l → mget l k = some v
  | [], _, h => by cases h
  | q :: l, hn, h => by
    rw [List.map_cons, List.nodup_cons] at hn
    unfold mget
    rcases List.mem_cons.1 h with rfl | h
    · rw [if_pos rfl]
    · rw [if_neg (fun e => hn.1 (by rw [e]; exact List.mem_map.2 ⟨_, h, rfl⟩))]; exact mget_of hn.2 h
def mvA (to_ : Int → Int) (o : List (Int × Int)) : List (Int × Int) := (o.filter fun p => decide (to_ p.2 ≠ 0)).map fun p => (p.1, to_ p.2)
def mvN (to_ : Int → Int) (o : List (Int × Int)) : List (Int × Int) := (o.filter fun p => decide (to_ p.2 ≠ 0)).map fun p => (to_ p.2, p.1)
theorem mset_fresh {α : Type} {l : List (Int × α)} {k : Int} {a : α} (h : k ∉ l.map Prod.fst) : mset l k a = l ++ [(k, a)] := mset_none (mget_notin h)
theorem moved_fold {to_ : Int → Int} : ∀ (o A N : List (Int × Int)), (o.map Prod.fst).Nodup → (∀ p ∈ o, p.1 ∉ A.map Prod.fst) → (∀ p ∈ o, to_ p.2 ≠ 0 → to_ p.2 ∉ N.map Prod.fst) → (∀ p ∈ o, ∀ q ∈ o, to_ p.2 = to_ q.2 → to_ p.2 ≠ 0 → p = q) →
    o.foldl (mvStep to_) (A, N) = (A ++ mvA to_ o, N ++ mvN to_ o)
  | [], A, N, _, _, _, _ => by simp [mvA, mvN]
  | x :: t, A, N, h1, h2, h3, h4 => by
    rw [List.map_cons, List.nodup_cons] at h1
    by_cases hx : to_ x.2 = 0
    · have e1 : mvA to_ (x :: t) = mvA to_ t := by simp [mvA, hx]
      have e2 : mvN to_ (x :: t) = mvN to_ t := by simp [mvN, hx]
      rw [e1, e2, List.foldl_cons, show mvStep to_ (A, N) x = (A, N) from if_neg (by simpa using hx)]
      exact moved_fold t A N h1.2 (fun p hp => h2 p (List.mem_cons_of_mem _ hp)) (fun p hp => h3 p (List.mem_cons_of_mem _ hp)) (fun p hp q hq => h4 p (List.mem_cons_of_mem _ hp) q (List.mem_cons_of_mem _ hq))
    · have e1 : mvA to_ (x :: t) = (x.1, to_ x.2) :: mvA to_ t := by simp [mvA, hx]
      have e2 : mvN to_ (x :: t) = (to_ x.2, x.1) :: mvN to_ t := by simp [mvN, hx]
      rw [e1, e2, List.foldl_cons, show mvStep to_ (A, N) x = (mset A x.1 (to_ x.2), mset N (to_ x.2) x.1) from if_pos hx, mset_fresh (h2 x (List.mem_cons_self ..)), mset_fresh (h3 x (List.mem_cons_self ..) hx)]
      rw [moved_fold t _ _ h1.2 (fun p hp hm => ?_) (fun p hp hz hm => ?_) (fun p hp q hq => h4 p (List.mem_cons_of_mem _ hp) q (List.mem_cons_of_mem _ hq))]
      · simp
      · rw [List.map_append, List.mem_append] at hm
        rcases hm with hm | hm
        · exact h2 p (List.mem_cons_of_mem _ hp) hm
        · simp at hm; exact h1.1 (by rw [← hm]; exact List.mem_map_of_mem hp)
      · rw [List.map_append, List.mem_append] at hm
        rcases hm with hm | hm
        · exact h3 p (List.mem_cons_of_mem _ hp) hz hm
        · simp at hm
          have := h4 p (List.mem_cons_of_mem _ hp) x (List.mem_cons_self ..) hm hz
          subst this; exact h1.1 (List.mem_map_of_mem hp)
theorem TabW.moved {T : TabS} (h : TabW T) {to_ : Int → Int} (hi : ∀ p ∈ T.at_, ∀ q ∈ T.at_, to_ p.2 = to_ q.2 → to_ p.2 ≠ 0 → p.2 = q.2) {ord : List (Int × Int)} (ho : ord.Perm T.at_) :
    TabW (TabS.moved to_ T.last ord) ∧ (∀ n, mget (TabS.moved to_ T.last ord).at_ n = match mget T.at_ n with | some p => if to_ p = 0 then none else some (to_ p) | none => none) ∧ (TabS.moved to_ T.last ord).at_ = mvA to_ ord := by
  have hm : ∀ p : Int × Int, p ∈ ord ↔ p ∈ T.at_ := fun p => ho.mem_iff
  have n1 : (ord.map Prod.fst).Nodup := (ho.map _).nodup_iff.2 h.n1
  have hj : ∀ p ∈ T.at_, ∀ q ∈ T.at_, to_ p.2 = to_ q.2 → to_ p.2 ≠ 0 → p = q := fun p hp q hq e hz => by
    have e2 := hi p hp q hq e hz
    have a1 := (h.fwd p.1 p.2 (mget_of h.n1 hp)).1
    have a2 := (h.fwd q.1 q.2 (mget_of h.n1 hq)).1
    rw [e2, a2] at a1
    exact Prod.ext (by injection a1 with a1; exact a1.symm) e2
  have hf := moved_fold (to_ := to_) ord [] [] n1 (by simp) (by simp) (fun p hp q hq => hj p ((hm p).1 hp) q ((hm q).1 hq))
  have eA : (TabS.moved to_ T.last ord).at_ = mvA to_ ord := by unfold TabS.moved; rw [hf]; simp
  have eN : (TabS.moved to_ T.last ord).no = mvN to_ ord := by unfold TabS.moved; rw [hf]; simp
  have nA : ((mvA to_ ord).map Prod.fst).Nodup := by
    unfold mvA
    rw [List.map_map]
    have : (Prod.fst ∘ fun p : Int × Int => (p.1, to_ p.2)) = Prod.fst := rfl
    rw [this]
    exact n1.sublist (List.Sublist.map _ List.filter_sublist)
  have nN : ((mvN to_ ord).map Prod.fst).Nodup := by
    unfold mvN
    rw [List.map_map]
    refine List.Pairwise.map _ (R := fun a b : Int × Int => a ∈ ord ∧ b ∈ ord ∧ a ≠ b ∧ to_ a.2 ≠ 0) (fun a b hab e => ?_) ?_
    · exact hab.2.2.1 (hj a ((hm a).1 hab.1) b ((hm b).1 hab.2.1) e hab.2.2.2)
    · have hn : (ord.filter fun p => decide (to_ p.2 ≠ 0)).Nodup := (nodup_of n1).sublist List.filter_sublist
      refine hn.imp_of_mem fun {a b} ha hb hne => ?_
      have ha := List.mem_filter.1 ha
      have hb := List.mem_filter.1 hb
      exact ⟨ha.1, hb.1, hne, by simpa using ha.2⟩
  have iA : ∀ n q, mget (mvA to_ ord) n = some q ↔ ∃ p, mget T.at_ n = some p ∧ to_ p ≠ 0 ∧ to_ p = q := fun n q => by
    constructor
    · intro hq
      obtain ⟨p, hp, e⟩ := List.mem_map.1 (mget_in hq)
      have hp := List.mem_filter.1 hp
      cases e
      exact ⟨p.2, mget_of h.n1 ((hm _).1 hp.1), by simpa using hp.2, rfl⟩
    · rintro ⟨p, hp, hz, rfl⟩
      exact mget_of nA (List.mem_map.2 ⟨(n, p), List.mem_filter.2 ⟨(hm _).2 (mget_in hp), by simpa using hz⟩, rfl⟩)
  have iN : ∀ n q, mget (mvN to_ ord) q = some n ↔ mget (mvA to_ ord) n = some q := fun n q => by
    constructor
    · intro hq
      obtain ⟨p, hp, e⟩ := List.mem_map.1 (mget_in hq)
      cases e
      exact mget_of nA (List.mem_map.2 ⟨p, hp, rfl⟩)
    · intro hq
      obtain ⟨p, hp, e⟩ := List.mem_map.1 (mget_in hq)
      cases e
      exact mget_of nN (List.mem_map.2 ⟨p, hp, rfl⟩)
  refine ⟨⟨h.last, by rw [eA]; exact nA, by rw [eN]; exact nN, fun n q hq => ?_, fun q n hq => ?_⟩, fun n => ?_, eA⟩
  · rw [eA] at hq; rw [eN]
    obtain ⟨p, hp, hz, rfl⟩ := (iA n q).1 hq
    have h1 := h.fwd n p hp
    exact ⟨(iN n _).2 hq, h1.2.1, h1.2.2.1, hz⟩
  · rw [eN] at hq; rw [eA]; exact (iN n q).1 hq
  · rw [eA]
    cases hx : mget T.at_ n with
    | none =>
      cases hy : mget (mvA to_ ord) n with
      | none => rfl
      | some q => obtain ⟨p, hp, _⟩ := (iA n q).1 hy; rw [hx] at hp; cases hp
    | some p =>
      show _ = if to_ p = 0 then none else some (to_ p)
      split
      · rename_i hz
        cases hy : mget (mvA to_ ord) n with
        | none => rfl
        | some q => obtain ⟨p', hp, hz', _⟩ := (iA n q).1 hy; rw [hx] at hp; cases hp; exact absurd hz hz'
      · rename_i hz
        exact (iA n _).2 ⟨p, hx, hz, rfl⟩
end Go.Proofs.YtbfheafpecgphaaGreat
namespace Go.Proofs.YtbfheafpecgphaaGreat
open Go
abbrev isP (P : List Int) (n : Int) : Bool := (decide (n ≥ 1) && decide (n ≤ (P.length : Int))) && (P.getD (n - 1).toNat 0 != 0)
structure PlI (T : TabS) (P : List Int) (m : Nat) : Prop where
  w : TabW T
  last : T.last = P.length
  at_ : ∀ n : Int, mget T.at_ n = if isP P n = true then some (P.getD (n - 1).toNat 0) else none
  bd : ∀ p ∈ P, 0 ≤ p ∧ p ≤ 11 + 4 * m
theorem pl_nil : PlI ⟨[], [], 0⟩ [] 0 := ⟨tab_w0, rfl, fun n => by simp [isP, mget], fun p h => by cases h⟩
theorem isP_iff {P : List Int} {n : Int} : isP P n = true ↔ (1 ≤ n ∧ n ≤ P.length) ∧ P.getD (n - 1).toNat 0 ≠ 0 := by simp [isP]
theorem PlI.is {T : TabS} {P : List Int} {m : Nat} (h : PlI T P m) (n : Int) : (mget T.at_ n).isSome = isP P n := by
  rw [h.at_]; cases isP P n <;> rfl
theorem PlI.mono {T : TabS} {P : List Int} {m : Nat} (h : PlI T P m) : PlI T P (m + 1) := ⟨h.w, h.last, h.at_, fun p hp => by have := h.bd p hp; omega⟩
theorem getD_set {P : List Int} {i j : Nat} {v : Int} (hi : i < P.length) : (P.set i v).getD j 0 = if j = i then v else P.getD j 0 := by
  simp only [List.getD_eq_getElem?_getD]
  split
  · rename_i e; subst e; rw [List.getElem?_set_self hi]; rfl
  · rename_i e; rw [List.getElem?_set_ne (Ne.symm e)]
theorem PlI.drop {T : TabS} {P : List Int} {m : Nat} (h : PlI T P m) {n : Int} (hn : isP P n = true) : PlI (T.drop n) (P.set (n - 1).toNat 0) m := by
  obtain ⟨w1, g1⟩ := h.w.drop n
  have hb := isP_iff.1 hn
  refine ⟨w1, by rw [List.length_set]; exact h.last, fun j => ?_, fun p hp => ?_⟩
  · rw [g1, h.at_]
    by_cases e : j = n
    · subst e
      rw [if_pos rfl, if_neg]
      rw [isP_iff, getD_set (by omega), if_pos rfl]
      simp
    · rw [if_neg e]
      by_cases hj : 1 ≤ j ∧ j ≤ P.length
      · have e2 : (P.set (n - 1).toNat 0).getD (j - 1).toNat 0 = P.getD (j - 1).toNat 0 := by rw [getD_set (by omega), if_neg (by omega)]
        unfold isP
        rw [e2, List.length_set]
      · rw [if_neg (by rw [isP_iff]; exact fun h => hj h.1), if_neg (by rw [isP_iff, List.length_set]; exact fun h => hj h.1)]
  · rcases List.mem_or_eq_of_mem_set hp with hp | rfl
    · exact h.bd p hp
    · omega
theorem PlI.drop_not {T : TabS} {P : List Int} {m : Nat} (h : PlI T P m) {n : Int} (hn : isP P n = false) : PlI (T.drop n) P m := by
  obtain ⟨w1, g1⟩ := h.w.drop n
  refine ⟨w1, h.last, fun j => ?_, h.bd⟩
  rw [g1]
  split
  · rename_i e; subst e; rw [hn]; rfl
  · exact h.at_ j
theorem PlI.place {T : TabS} {P : List Int} {m : Nat} (h : PlI T P m) (n : Int) : ((isP P n && (((mget T.at_ n).getD 0) != P.getD (n - 1).toNat 0)) || (!isP P n && (((mget T.at_ n).getD 0) != 0))) = false := by
  rw [h.at_]
  cases isP P n <;> simp
def mvf (b g p : Int) : Int := if p = 0 then 0 else if p = g then 0 else p + b
abbrev mvt (b g p : Int) : Int := if p = g then 0 else p + b
def mvP (b g : Int) (j : Nat) (P : List Int) : List Int := (P.take j).map (mvf b g) ++ P.drop j
theorem mvP_len {b g : Int} {j : Nat} {P : List Int} : (mvP b g j P).length = P.length := by unfold mvP; simp; omega
theorem mvP_get {b g : Int} {j : Nat} {P : List Int} (hj : j < P.length) : (mvP b g j P)[j]? = some P[j] := by
  unfold mvP
  rw [List.getElem?_append_right (by simp; omega)]
  simp [List.length_take, show min j P.length = j by omega, hj]
theorem mvP_succ {b g : Int} {j : Nat} {P : List Int} (hj : j < P.length) {v : Int} (hv : mvf b g P[j] = v) : (mvP b g j P).set j v = mvP b g (j + 1) P := by
  subst hv
  unfold mvP
  have hl : ((P.take j).map (mvf b g)).length = j := by simp; omega
  rw [List.set_append_right _ _ (by omega), hl, Nat.sub_self, List.take_add_one, List.getElem?_eq_getElem hj, List.drop_eq_getElem_cons hj, List.set_cons_zero, List.map_append, List.append_assoc]
  rfl
theorem mvP_zero {b g : Int} {j : Nat} {P : List Int} (hj : j < P.length) (h0 : P[j] = 0) : mvP b g j P = mvP b g (j + 1) P := by
  rw [← mvP_succ hj rfl, show mvf b g P[j] = 0 by unfold mvf; rw [if_pos h0]]
  have := mvP_get (b := b) (g := g) hj
  apply List.ext_getElem?
  intro i
  by_cases hi : i = j
  · subst hi; rw [this, List.getElem?_set_self (by rw [mvP_len]; exact hj), h0]
  · rw [List.getElem?_set_ne (Ne.symm hi)]
theorem mvP_all {b g : Int} {j : Nat} {P : List Int} (hj : ¬ j < P.length) : mvP b g j P = P.map (mvf b g) := by
  unfold mvP; rw [List.take_of_length_le (by omega), List.drop_eq_nil_of_le (by omega), List.append_nil]
theorem PlI.moved {T : TabS} {P : List Int} {m : Nat} (h : PlI T P m) {b g : Int} (hb : 0 ≤ b ∧ b ≤ 4) {o : List (Int × Int)} (ho : o.Perm T.at_) : PlI (TabS.moved (mvt b g) T.last o) (P.map (mvf b g)) (m + 1) := by
  obtain ⟨w1, g1, _⟩ := h.w.moved (to_ := mvt b g) (fun p hp q hq e hz => by
    unfold mvt at e hz
    split at e <;> split at e <;> simp_all <;> omega) ho
  refine ⟨w1, by rw [List.length_map]; exact h.last, fun n => ?_, fun p hp => ?_⟩
  · rw [g1, h.at_]
    by_cases hj : 1 ≤ n ∧ n ≤ P.length
    · have e2 : (P.map (mvf b g)).getD (n - 1).toNat 0 = mvf b g (P.getD (n - 1).toNat 0) := by
        simp only [List.getD_eq_getElem?_getD, List.getElem?_map]
        rw [List.getElem?_eq_getElem (show (n - 1).toNat < P.length by omega)]; rfl
      have hm : P.getD (n - 1).toNat 0 ∈ P := by
        rw [List.getD_eq_getElem?_getD, List.getElem?_eq_getElem (show (n - 1).toNat < P.length by omega)]; exact List.getElem_mem ..
      have hbd := h.bd _ hm
      by_cases h0 : P.getD (n - 1).toNat 0 = 0
      · rw [if_neg (by rw [isP_iff]; exact fun h => h.2 h0), if_neg (by rw [isP_iff, e2, h0]; exact fun h => h.2 (by simp [mvf]))]
      · rw [if_pos (isP_iff.2 ⟨hj, h0⟩)]
        simp only
        by_cases hg : P.getD (n - 1).toNat 0 = g
        · rw [if_pos (by unfold mvt; rw [if_pos hg]), if_neg (by rw [isP_iff, e2]; exact fun h => h.2 (by unfold mvf; rw [if_neg h0, if_pos hg]))]
        · have hne : mvt b g (P.getD (n - 1).toNat 0) = P.getD (n - 1).toNat 0 + b := if_neg hg
          have hne2 : mvf b g (P.getD (n - 1).toNat 0) = P.getD (n - 1).toNat 0 + b := by unfold mvf; rw [if_neg h0, if_neg hg]
          rw [hne, if_neg (by omega), if_pos (by rw [isP_iff, e2, hne2, List.length_map]; exact ⟨hj, by omega⟩), e2, hne2]
    · rw [if_neg (by rw [isP_iff]; exact fun h => hj h.1), if_neg (by rw [isP_iff, List.length_map]; exact fun h => hj h.1)]
  · obtain ⟨q, hq, rfl⟩ := List.mem_map.1 hp
    have := h.bd q hq
    unfold mvf
    split
    · omega
    · split <;> omega
abbrev askS (p : Int) (e : List (Int × Int)) : List (Int × Int) := mset e p (IntKind.i64.wrap ((mget e p).getD 0 + 1))
theorem ask_not {q : Int} : ∀ (o : List (Int × Int)) (e : List (Int × Int)), q ∉ o.map Prod.snd → mget (o.foldl (fun e (p : Int × Int) => askS p.2 e) e) q = mget e q
  | [], e, _ => rfl
  | x :: t, e, h => by
    rw [List.map_cons, List.mem_cons] at h
    rw [List.foldl_cons, ask_not t _ (fun hm => h (.inr hm)), mget_mset, if_neg (fun e => h (.inl e))]
theorem ask_one {q : Int} : ∀ (o : List (Int × Int)) (e : List (Int × Int)), (o.map Prod.snd).Nodup → q ∈ o.map Prod.snd → mget e q = none → mget (o.foldl (fun e (p : Int × Int) => askS p.2 e) e) q = some 1
  | [], e, _, h, _ => by cases h
  | x :: t, e, hn, h, he => by
    rw [List.map_cons, List.nodup_cons] at hn
    rw [List.foldl_cons]
    by_cases hx : q = x.2
    · subst hx
      rw [ask_not t _ hn.1, mget_mset, if_pos rfl, he]; rfl
    · rw [List.map_cons, List.mem_cons] at h
      exact ask_one t _ hn.2 (h.resolve_left hx) (by rw [mget_mset, if_neg hx]; exact he)
theorem TabW.places {T : TabS} (h : TabW T) : (T.at_.map Prod.snd).Nodup := by
  refine List.Pairwise.map _ (R := fun a b : Int × Int => a ∈ T.at_ ∧ b ∈ T.at_ ∧ a ≠ b) (fun a b hab e => ?_) ((nodup_of h.n1).imp_of_mem fun {a b} ha hb hne => ⟨ha, hb, hne⟩)
  have a1 := (h.fwd a.1 a.2 (mget_of h.n1 hab.1)).1
  have a2 := (h.fwd b.1 b.2 (mget_of h.n1 hab.2.1)).1
  rw [e, a2] at a1
  exact hab.2.2 (Prod.ext (by injection a1 with a1; exact a1.symm) e)
theorem PlI.asked {T : TabS} {P : List Int} {m : Nat} (h : PlI T P m) {o : List (Int × Int)} (ho : o.Perm T.at_) {j : Nat} (hj : j < P.length) (h0 : P[j] ≠ 0) : mget (o.foldl (fun e (p : Int × Int) => askS p.2 e) []) P[j] = some 1 := by
  refine ask_one o [] ((ho.map _).nodup_iff.2 h.w.places) ((ho.map _).mem_iff.2 ?_) rfl
  have hg : P.getD ((j : Int) + 1 - 1).toNat 0 = P[j] := by
    rw [show ((j : Int) + 1 - 1).toNat = j by omega, List.getD_eq_getElem?_getD, List.getElem?_eq_getElem hj]; rfl
  have h1 := h.at_ ((j : Int) + 1)
  rw [if_pos (isP_iff.2 ⟨by omega, by rw [hg]; exact h0⟩), hg] at h1
  exact List.mem_map.2 ⟨_, mget_in h1, rfl⟩
theorem PlI.ok {T : TabS} {P : List Int} {m : Nat} (h : PlI T P m) : ∀ p ∈ T.at_, 0 ≤ p.2 ∧ p.2 ≤ 11 + 4 * m := fun p hp => by
  have h1 := mget_of h.w.n1 hp
  rw [h.at_] at h1
  split at h1
  · rename_i hi
    have hb := isP_iff.1 hi
    injection h1 with h1
    rw [← h1]
    apply h.bd
    rw [List.getD_eq_getElem?_getD, List.getElem?_eq_getElem (show (p.1 - 1).toNat < P.length by omega)]; exact List.getElem_mem ..
  · cases h1
theorem idx_bd (v : Int) : ∀ (P : List Int) (k : Nat), (idxI v P k = -1 ∧ v ∉ P) ∨ ∃ i : Nat, idxI v P k = k + i ∧ P[i]? = some v
  | [], k => .inl ⟨rfl, by simp⟩
  | a :: t, k => by
    unfold idxI
    by_cases h : v = a
    · rw [if_pos h]; subst h; exact .inr ⟨0, by simp, rfl⟩
    · rw [if_neg h]
      rcases idx_bd v t (k + 1) with ⟨h1, h2⟩ | ⟨i, h1, h2⟩
      · exact .inl ⟨by simpa using h1, by simp [h, h2]⟩
      · exact .inr ⟨i + 1, by simp only [Int.natCast_add, Int.natCast_one] at h1 ⊢; rw [h1]; omega, by simpa using h2⟩
theorem idx_le (v : Int) (P : List Int) : -1 ≤ idxI v P 0 ∧ idxI v P 0 < P.length ∨ idxI v P 0 = -1 := by
  rcases idx_bd v P 0 with ⟨h, _⟩ | ⟨i, h, hi⟩
  · exact .inr h
  · have := (List.getElem?_eq_some_iff.1 hi).1
    simp only [Int.natCast_zero, Int.zero_add] at h
    exact .inl (by omega)
theorem PlI.old {T : TabS} {P : List Int} {m : Nat} (h : PlI T P m) {p : Int} (hp : p ≠ 0) (hi : idxI p P 0 + 1 ≠ 0) : T.take p = (idxI p P 0 + 1, T) := by
  rcases idx_bd p P 0 with ⟨h1, _⟩ | ⟨i, h1, h2⟩
  · simp only [Int.natCast_zero] at h1; omega
  · simp only [Int.natCast_zero, Int.zero_add] at h1
    have hl := (List.getElem?_eq_some_iff.1 h2).1
    have hg : P.getD ((i : Int) + 1 - 1).toNat 0 = p := by
      rw [show ((i : Int) + 1 - 1).toNat = i by omega, List.getD_eq_getElem?_getD, h2]; rfl
    have h3 := h.at_ ((i : Int) + 1)
    rw [if_pos (isP_iff.2 ⟨by omega, by rw [hg]; exact hp⟩), hg] at h3
    have h4 := (h.w.fwd _ _ h3).1
    unfold TabS.take
    rw [if_neg hp, h4, h1]; rfl
theorem PlI.new {T : TabS} {P : List Int} {m : Nat} (h : PlI T P m) {p : Int} (hp : 1 ≤ p ∧ p ≤ 11) (hi : idxI p P 0 + 1 = 0) : (T.take p).1 = P.length + 1 ∧ PlI (T.take p).2 (P ++ [p]) m := by
  have hni : p ∉ P := by
    rcases idx_bd p P 0 with ⟨_, h2⟩ | ⟨i, h1, _⟩
    · exact h2
    · simp only [Int.natCast_zero] at h1; omega
  have hno : mget T.no p = none := by
    cases hx : mget T.no p with
    | none => rfl
    | some n =>
      have h1 := h.w.bwd p n hx
      rw [h.at_] at h1
      split at h1
      · rename_i hi
        have hb := isP_iff.1 hi
        injection h1 with h1
        exact absurd (by rw [← h1, List.getD_eq_getElem?_getD, List.getElem?_eq_getElem (show (n - 1).toNat < P.length by omega)]; exact List.getElem_mem ..) hni
      · cases h1
  obtain ⟨w1, a1, a2, a3, a4, a5⟩ := h.w.take (p := p) (by omega)
  rcases a5 with ⟨e, _⟩ | ⟨_, e1, e2⟩
  · rw [hno] at e; cases e
  · have hlast := h.last
    refine ⟨by omega, w1, by rw [e2, List.length_append]; simp; omega, fun n => ?_, fun q hq => ?_⟩
    · by_cases en : n = (T.take p).1
      · rw [en, a1, e1, hlast, if_pos]
        · rw [show ((P.length : Int) + 1 - 1).toNat = P.length by omega, List.getD_eq_getElem?_getD, List.getElem?_append_right (Nat.le_refl _)]; simp
        · rw [isP_iff, show ((P.length : Int) + 1 - 1).toNat = P.length by omega, List.getD_eq_getElem?_getD, List.getElem?_append_right (Nat.le_refl _)]
          simp; omega
      · rw [a4 n en, h.at_]
        by_cases hj : 1 ≤ n ∧ n ≤ P.length
        · have e3 : (P ++ [p]).getD (n - 1).toNat 0 = P.getD (n - 1).toNat 0 := by
            rw [List.getD_eq_getElem?_getD, List.getElem?_append_left (by omega), List.getD_eq_getElem?_getD]
          have e4 : isP (P ++ [p]) n = isP P n := by
            rw [Bool.eq_iff_iff, isP_iff, isP_iff, e3]; simp; omega
          rw [e4, e3]
        · rw [if_neg (by rw [isP_iff]; exact fun h => hj h.1), if_neg (by rw [isP_iff]; simp; omega)]
    · rcases List.mem_append.1 hq with hq | hq
      · exact h.bd q hq
      · simp at hq; omega
theorem PlI.zero {T : TabS} : T.take 0 = (0, T) := by unfold TabS.take; rw [if_pos rfl]
def allP (P : List Int) (j : Nat) : List Int := ((List.range j).filter fun i => P.getD i 0 != 0).map fun (i : Nat) => (i : Int) + 1
theorem allP_succ {P : List Int} {j : Nat} (hj : j < P.length) : allP P (j + 1) = if P[j] = 0 then allP P j else allP P j ++ [(j : Int) + 1] := by
  unfold allP
  rw [List.range_succ, List.filter_append, List.map_append]
  have e : P.getD j 0 = P[j] := by rw [List.getD_eq_getElem?_getD, List.getElem?_eq_getElem hj]; rfl
  by_cases h : P[j] = 0
  · rw [if_pos h, List.filter_cons, if_neg (by rw [e, h]; simp)]; simp
  · rw [if_neg h, List.filter_cons, if_pos (by rw [e]; simpa using h)]; simp
theorem allP_len {P : List Int} {j : Nat} : (allP P j).length ≤ j := by
  unfold allP
  rw [List.length_map]
  exact Nat.le_trans (List.length_filter_le ..) (by simp)
theorem PlI.all {T : TabS} {P : List Int} {m : Nat} (h : PlI T P m) : sortI (T.at_.map Prod.fst) = allP P P.length := by
  have hp : (T.at_.map Prod.fst).Perm (allP P P.length) := by
    refine (List.perm_ext_iff_of_nodup h.w.n1 ?_).2 fun n => ?_
    · unfold allP
      refine List.Pairwise.map _ (R := fun a b : Nat => a ≠ b) (fun a b hab e => hab (by omega)) (List.nodup_range.sublist List.filter_sublist)
    · constructor
      · intro hm
        obtain ⟨q, hq, rfl⟩ := List.mem_map.1 hm
        have h1 := mget_of h.w.n1 hq
        rw [h.at_] at h1
        split at h1
        · rename_i hi
          have hb := isP_iff.1 hi
          exact List.mem_map.2 ⟨(q.1 - 1).toNat, List.mem_filter.2 ⟨List.mem_range.2 (by omega), by simpa using hb.2⟩, by omega⟩
        · cases h1
      · intro hm
        obtain ⟨i, hi, rfl⟩ := List.mem_map.1 hm
        have hi := List.mem_filter.1 hi
        have hl := List.mem_range.1 hi.1
        have h1 := h.at_ ((i : Int) + 1)
        rw [if_pos (isP_iff.2 ⟨by omega, by rw [show ((i : Int) + 1 - 1).toNat = i by omega]; simpa using hi.2⟩)] at h1
        exact List.mem_map.2 ⟨_, mget_in h1, rfl⟩
  rw [sortI_perm hp]
  have hs : (allP P P.length).Pairwise (fun a b => decide (a ≤ b) = true) := by
    unfold allP
    refine List.Pairwise.map _ (R := fun a b : Nat => a < b) (fun a b hab => by simp; omega) ?_
    exact List.pairwise_lt_range.sublist List.filter_sublist
  unfold sortI
  exact List.mergeSort_of_pairwise hs
section
variable {B : World} {H : List HP} {T : TypeId} {enc : Int → Value} {xs : List Int}
theorem vec_slrm {q : Option Addr} {m cap : Nat} (hm : m = xs.length) (i : Nat) (e : H[i]? = some (VecA T enc 0 (.slice q m cap, xs))) : SlR B H (.slice q m cap) (xs.map enc) := by
  subst hm; exact vec_slr i e
end
end Go.Proofs.YtbfheafpecgphaaGreat
