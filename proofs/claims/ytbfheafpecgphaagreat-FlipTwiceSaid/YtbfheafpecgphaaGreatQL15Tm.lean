/- Part of the texts beneath a law: what its proof names. Conditions: none. -/
import Derived.Test.YtbfheafpecgphaaGreatQL15Tl
import Derived.ProofKit
import Derived.OpenShut
import Derived.ChangeOld
import Derived.Below
import Derived.ChangeSlices
import Derived.Deep.Grids
import Derived.Deep.Strs
import Derived.ChangeSame
set_option linter.unusedSimpArgs false
set_option linter.unusedVariables false
set_option linter.unnecessarySimpa false
set_option linter.unusedSectionVars false
namespace Go.Proofs.YtbfheafpecgphaaGreat
open Go
def hs2 : List (Int × Int) := [(0, 1), (0, 2)]
theorem hh2 : ∀ h ∈ [((0 : Int), (1 : Int)), (0, 2)], (0 ≤ h.1 ∧ h.1 < 256) ∧ (0 ≤ h.2 ∧ h.2 < 256) := fun h hm => by
  simp only [List.mem_cons, List.not_mem_nil, or_false] at hm
  rcases hm with rfl | rfl <;> exact ⟨by decide, by decide⟩
theorem sln2 {B : World} {H : List HP} {b : Nat} {x y z u : Value} {T1 : TypeId} {U : List Value → List HP} [RowU H b [x, y, z, u] T1 U] {cap : Nat} : SlN B H (.slice (some ⟨b, 0, none⟩) 2 cap) 2 [[x, y], [z, u]] :=
  SlN.row (cs := [[x, y], [z, u]]) fun i c h => by
    cases i with
    | zero =>
      cases h
      refine ⟨rfl, fun j hj => ?_⟩
      rcases j with _ | _ | j
      · rfl
      · rfl
      · omega
    | succ i =>
      cases i with
      | zero =>
        cases h
        refine ⟨rfl, fun j hj => ?_⟩
        rcases j with _ | _ | j
        · rfl
        · rfl
        · omega
      | succ i => cases h
theorem ch_bsG2 {α : Type} {B : World} {σ : Env} {H : List HP} {P : Program} {m : Nat} {enc : α → List Value} (he : EncW m enc) {d : Option Tmp} {ty : TypeId} {p : String} {af : Array Edge} {g : Option (Nat × Bool)} {t e : TypeId} {x y : Operand} {v u : α} {xv yv z : Value} (ht : ∀ w, (underlying t).run P w = .ok (.slice e) w) (hs : ∀ w, (sizeOf e).run P w = .ok m w) (hz : ∀ w, (zeroValue e).run P w = .ok z w) (hm0 : (0 < m ∧ m ≤ 1000) ∧ z.cells.size = m) (hx : evO σ x = some xv) (hv : xv.cells = (enc v).toArray) (hy : evO σ y = some yv) (hu : yv.cells = (enc u).toArray) :
    Chg P B σ H ⟨d, .buildSlice t 2 #[(0, x), (1, y)], ty, p, af, g⟩ (fun r H' => ∃ b, r = .slice (some ⟨b, 0, none⟩) 2 2 ∧ H' = row b (enc v ++ enc u) e :: H) := by
  intro a w kn hh
  refine ⟨.value (.slice (some ⟨w.heap.size, 0, none⟩) 2 2), { w with heap := w.heap.push (.cells (enc v ++ enc u).toArray e) }, ?_, _, .inl rfl, _, ⟨_, rfl, rfl⟩, by simpa [row] using hh.new _⟩
  have h1 : m ≠ 0 := by omega
  have h2 : ¬ 16777216 < 2 * m := by omega
  have hl : (enc v).length = m := he.len v
  have hl2 : (enc u).length = m := he.len u
  have key : ∀ (k : Nat) (vs : List Value) (a : Array Value) (j : Nat), k + vs.length ≤ a.size → (List.foldl (fun (cs : Array Value) (x : Value × Nat) => cs.setIfInBounds (k + x.2) x.1) a vs.zipIdx)[j]? = if k ≤ j ∧ j < k + vs.length then vs[j - k]? else a[j]? := by
    intro k vs a j h
    have := foldl_get vs k a h j
    rw [← this]
    congr 1
    have hz : vs.zipIdx k = vs.zipIdx.map fun x => (x.1, k + x.2) := by
      apply List.ext_getElem?
      intro i
      simp [List.getElem?_zipIdx]
      cases vs[i]? <;> simp
    rw [hz, List.foldl_map]
  have hsz : ∀ (g : Nat → Nat) (l : List (Value × Nat)) (a : Array Value), (List.foldl (fun (cs : Array Value) (x : Value × Nat) => cs.setIfInBounds (g x.2) x.1) a l).size = a.size := by
    intro g l
    induction l with
    | nil => intro a; rfl
    | cons x l ih => intro a; rw [List.foldl_cons, ih]; simp
  simp [execOp, Instr.buildSlice, ht, hs, Instr.fill, run_newRow, hz, kn.eval hx, hv, kn.eval hy, hu, h1, h2, hl, hl2]
  generalize hA : Array.map (fun x => z.cells[x % z.cells.size]!) (Array.range (2 * m)) = A
  have hAs : A.size = 2 * m := by rw [← hA]; simp
  rw [if_neg (by omega), if_neg (by omega), if_neg (by rw [hsz (fun x => x) _ A]; omega)]
  generalize hF : List.foldl (fun (cs : Array Value) (x : Value × Nat) => cs.setIfInBounds x.snd x.fst) A (enc v).zipIdx = F
  have hFs : F.size = 2 * m := by rw [← hF, hsz (fun x => x) _ A]; exact hAs
  have hF2 : ∀ j, F[j]? = if j < m then (enc v)[j]? else A[j]? := fun j => by
    have := foldl_get (enc v) 0 A (by omega) j
    rw [← hF, this]
    simp [hl]
  have e9 : List.foldl (fun (cs : Array Value) (x : Value × Nat) => cs.setIfInBounds (m + x.snd) x.fst) F (enc u).zipIdx = (enc v ++ enc u).toArray := by
    apply Array.ext_getElem?
    intro j
    rw [key m (enc u) F j (by omega), hF2, show (enc v ++ enc u).toArray[j]? = (enc v ++ enc u)[j]? by simp, List.getElem?_append, hl, hl2]
    by_cases h3 : j < m
    · rw [if_neg (by omega), if_pos h3, if_pos h3]
    · rw [if_neg h3]
      by_cases h4 : j < m + m
      · rw [if_pos (by omega), if_neg h3]
      · rw [if_neg (by omega), if_neg h3, List.getElem?_eq_none (by omega), Array.getElem?_eq_none (by omega)]
  simp only [e9]
  rfl
theorem d13_eval (pa : Nat) : okB ((dev0 pa [] 136).format c48) (fun _ s => okB (fillN c48 [(0, 1), (0, 2)] s []) fun out sF => out == [40, 42] && blkIs (sF.block c48) ⟨0, 5, [0]⟩ 0 && okB (linkObjs c48 ⟨0, 5, [0]⟩ (pickL [] [40, 42] 0) [40, 42] 0 sF) fun n1 s1 => n1 == some 0 && okB (linkRoots c48 (pickL [] [40, 42] 0) 1 0 0 s1) fun _ s2 => blkIs (s2.block c48) ⟨0, 5, [0]⟩ 0 && s2.reachSize c48 ⟨0, 5, [0]⟩ [] == 0 && s2.reachSize c48 ⟨0, 5, [0]⟩ [42] == 3) = true := by kernel_rfl
theorem d14_eval (pa bd : Nat) : okB ((dev0 pa [] 136).format c48) (fun _ s => okB (fillN c48 [(0, 1)] s []) fun out sF => out == [40] && blkIs (sF.block c48) ⟨0, 2, [0]⟩ 0 && okB (linkObjs c48 ⟨0, 2, [0]⟩ (pickL [] [40] 0) [40] 0 sF) fun n1 s1 => n1 == some 0 && okB (linkRoots c48 (pickL [] [40] 0) 1 0 0 s1) fun _ s2 => blkIs (s2.block c48) ⟨0, 2, [0]⟩ 0 && okB ((newCol bd c48 ⟨0, 2, [0]⟩ [0]).step s2) fun r s3 => !r.1 && okB (r.2.step s3) fun r2 _ => r2.1 && blkIs (r2.2.block, 0) ⟨1, 0, [0]⟩ 0) = true := by kernel_rfl
def went1 (o : Option ColS) (w v : Int) : Bool := match o with
  | some X => (mget X.went w).getD 0 == v
  | none => false
theorem d15_eval (pa bd : Nat) : okB ((dev0 pa [] 136).format c48) (fun _ s => okB (fillN c48 [(0, 1), (0, 2)] s []) fun out sF => out == [40, 42] && blkIs (sF.block c48) ⟨0, 5, [0]⟩ 0 && okB (linkObjs c48 ⟨0, 5, [0]⟩ (pickL [] [40, 42] 0) [40, 42] 0 sF) fun n1 s1 => n1 == some 0 && okB (linkRoots c48 (pickL [] [40, 42] 0) 1 0 0 s1) fun _ s2 => blkIs (s2.block c48) ⟨0, 5, [0]⟩ 0 && (openL bd c48 s2).n == 0 && okB (collectM bd c48 ⟨openL bd c48 s2, 0, 0, [], []⟩ s2 [42]) fun r s3 => r.2.1 == 0 && went1 r.1 42 88 && blkIs (s3.block c48) ⟨1, 3, [0]⟩ 0) = true := by kernel_rfl
theorem awake12_ok (B : World) (Fr : List HP) :
    ∀ w, Holds B Fr w → Calls Tryz.prog 118 [].toArray w (PureR B Fr (.bool true)) := by
  refine fn_enter Tryz.func118 rfl Tryz.ntmps118 rfl ?_; refine g_seq ?_; refine g_region ?_; refine kPa rfl rfl ?_; refine p_nil ?_; refine g_seq ?_; refine g_seq ?_; refine g_region ?_; refine p_callq rfl (en_f Tryz.call126 rfl) (awake11_ok _ _) .free rfl rfl ?_; refine kPv (ev_not rfl) rfl ?_; refine p_nil ?_; refine g_iff rfl (rfl) ?_; refine g_skip ?_; refine g_seq ?_; refine g_region ?_; refine kPv (ev_build rfl (bld_30_0_1_2 _ _ _ rfl rfl rfl)) rfl ?_
  refine p_chg rfl (ch_allocA Tryz.zeroValue30 rfl) .free rfl rfl ?_
  rintro _ _ ⟨b1, rfl, rfl⟩
  refine p_chg0 rfl (ch_storeA (vs := _) Tryz.sizeOf30 rfl rfl rfl rfl rfl) .free rfl ?_
  rintro _ _ rfl
  refine p_nil ?_; refine g_seq ?_; refine g_region ?_; refine kPv (ev_loadA Tryz.isAgg30 Tryz.sizeOf30 rfl rfl) rfl ?_
  refine p_call rfl (en_f Tryz.call101 rfl) (formatted_ok _ _ ⟨3, 1, 8⟩ cfg1 none 0 [] (by decide) (fun _ h => absurd h (Nat.not_lt_zero _)) SlR.nil) .free rfl rfl ?_ ?_
  rotate_left
  · rintro _ _ ⟨⟩
  rintro _ _ ⟨bd, pa, N, s0, hN, hf, rfl, rfl⟩
  obtain rfl : N = 56 := by have : (N : Int) = 56 := hN.trans (by decide); omega
  have hfm := fmt_of cfg1 hN hf
  have hu0 := format_u64 (dev0_u64 pa 56) cfg1 hf
  have hev := okB_ok (d12_eval pa) hf
  simp only [Bool.and_eq_true, beq_iff_eq] at hev
  refine kPm rfl rfl ?_; refine kPv (ev_ext rfl rfl) rfl ?_; refine kPv (ev_ext rfl rfl) rfl ?_; refine kPa rfl rfl ?_; refine kPa rfl rfl ?_; refine p_nil ?_; refine go_sub (σ' := [(3, _), (2, _), (1, _), (0, _)]) ⟨rfl, rfl, rfl, rfl, trivial⟩ ?_; refine g_seq ?_; refine g_seq ?_; refine g_region ?_; refine kPm rfl rfl ?_; refine kPv (ev_not rfl) rfl ?_; refine kPm rfl rfl ?_; refine p_val rfl (ev_move rfl) (.on rfl rfl (beq_eq rfl)) rfl rfl ?_
  refine p_val rfl (ev_loadA Tryz.isAgg30 Tryz.sizeOf30 rfl rfl) (.on rfl rfl (beq_eq rfl)) rfl rfl ?_; refine p_callq rfl (en_f Tryz.call27 rfl) (ro_at (q := DevA) (fun Fr => ccheck_ok _ Fr _ s0 ⟨3, 1, 8⟩ cfg1 hu0)) (.on rfl rfl (beq_eq rfl)) rfl rfl ?_; refine p_val rfl (ev_cmp rfl rfl rfl) (.on rfl rfl (beq_eq rfl)) rfl rfl ?_; refine kPv (ev_pick_f rfl rfl rfl) rfl ?_; refine p_nil ?_; refine go_sub (σ' := [(19, _), (2, _), (1, _), (0, _)]) ⟨rfl, rfl, rfl, rfl, trivial⟩ ?_
  refine g_iff rfl (by rw [hev.1]; rfl) ?_
  refine g_skip ?_; refine g_seq ?_; refine g_region ?_; refine kPm rfl rfl ?_; refine kPv (ev_loadA Tryz.isAgg30 Tryz.sizeOf30 rfl rfl) rfl ?_; refine p_callq rfl (en_f Tryz.call71 rfl) (root_ok _ _ ⟨3, 1, 8⟩ cfg1 0 (by decide) (by decide)) .free rfl rfl ?_
  refine p_call rfl (en_f Tryz.call70 rfl) (nstoreL_ok _ _ bd s0 34 5 hfm.lim hu0 (by decide)) .free rfl rfl ?_ ?_
  rotate_left
  · rintro _ _ ⟨⟩
  rintro _ _ ⟨x1, s1, hm1, rfl, hl1, hn1, hu1, rfl⟩
  have hev2 := okB_ok hev.2 hm1
  simp only [beq_iff_eq] at hev2
  refine p_nil ?_; refine g_seq ?_; refine g_region ?_; refine kPm rfl rfl ?_; refine kPv (ev_loadA Tryz.isAgg30 Tryz.sizeOf30 rfl rfl) rfl ?_; refine p_callq rfl (en_f Tryz.call27 rfl) (ro_at (q := DevA) (fun Fr => ccheck_ok _ Fr _ s1 ⟨3, 1, 8⟩ cfg1 hu1)) .free rfl rfl ?_; refine kPv (ev_cmp rfl rfl rfl) rfl ?_; refine kPa rfl rfl ?_; refine p_nil ?_; refine go_sub (σ' := [(0, _)]) ⟨rfl, trivial⟩ ?_; refine g_ret ?_
  exact ret_tmp Tryz.results118 rfl (fun w hh => ⟨by rw [hev2]; rfl, (hh.dp [0, 0])⟩)
theorem awake13_ok (B : World) (Fr : List HP) :
    ∀ w, Holds B Fr w → Calls Tryz.prog 99 [].toArray w (PureR B Fr (.bool true)) := by
  refine fn_enter Tryz.func99 rfl Tryz.ntmps99 rfl ?_; refine g_seq ?_; refine g_region ?_; refine kPa rfl rfl ?_; refine p_nil ?_; refine g_seq ?_; refine g_seq ?_; refine g_region ?_; refine p_callq rfl (en_f Tryz.call118 rfl) (awake12_ok _ _) .free rfl rfl ?_; refine kPv (ev_not rfl) rfl ?_; refine p_nil ?_; refine g_iff rfl (rfl) ?_; refine g_skip ?_; refine g_seq ?_; refine g_region ?_; refine kPv (ev_build rfl (bld_24_2 _ rfl)) rfl ?_; refine kPv (ev_build rfl (bld_107_1 _ rfl)) rfl ?_
  refine kPv (ev_build rfl (bld_107_1 _ rfl)) rfl ?_; refine p_chg rfl (ch_bsG2 encH_w (v := (0, 1)) (u := (0, 2)) Tryz.runUnderlying25 Tryz.sizeOf107 Tryz.zeroValue107 ⟨⟨by decide, by decide⟩, rfl⟩ rfl rfl rfl rfl) .free rfl rfl ?_
  rintro _ _ ⟨b11, rfl, rfl⟩
  refine p_call rfl (en_f Tryz.call12 rfl) (linked_ok _ _ 0 0 40 ⟨by decide, by decide, by decide⟩ ⟨3, 1, 48⟩ mkC48 [(0, 1), (0, 2)] (hh2) (by decide) (some ⟨b11, 0, none⟩) _ sln2 none 0 [] SlR.nil (fun _ h => (by cases h)) (by decide) (fun _ h => absurd h (Nat.not_lt_zero _)) 0 (by decide)) .free rfl rfl ?_ ?_
  rotate_left
  · rintro _ _ ⟨⟩
  rintro _ _ ⟨bd, pa, N, s0, sF, out, hfm, hN, ⟨hus0, hf⟩, hfill, hor⟩
  obtain rfl := n48 hN
  have hev := okB_ok (okB_ok (d13_eval pa) hf) hfill
  simp only [Bool.and_eq_true, beq_iff_eq] at hev
  obtain ⟨⟨rfl, e1⟩, e2⟩ := hev
  rw [blkIs_eq e1] at hor
  rcases hor with ⟨n1, n2, s1, s2, ov, sv, hl1, hl2, hu2, hlm2, hn2, hov, hsv, rfl, rfl⟩ | ⟨s1, hl1, _⟩
  rotate_left
  · have e3 := okB_ok e2 hl1
    simp only [Bool.and_eq_true, beq_iff_eq] at e3
    exact absurd e3.1 (by simp)
  have e3 := okB_ok e2 hl1
  simp only [Bool.and_eq_true, beq_iff_eq] at e3
  obtain ⟨e4, e5⟩ := e3
  obtain rfl : n1 = 0 := by injection e4
  have e6 := okB_ok e5 hl2
  simp only [Bool.and_eq_true, beq_iff_eq] at e6
  obtain ⟨⟨e7, e8⟩, e9⟩ := e6
  rw [blkIs_eq e7]
  refine go_pk [2] ?_; refine go_vecq fun qo co hqo hqi => ?_
  subst hqo
  obtain ⟨bO, oO, rfl⟩ := hqi 0 (by decide)
  refine kPm rfl rfl ?_; refine kPv (ev_ext rfl rfl) rfl ?_; refine kPv (ev_ext rfl rfl) rfl ?_; refine kPv (ev_ext rfl rfl) rfl ?_; refine kPv (ev_ext rfl rfl) rfl ?_; refine p_chg rfl (ch_allocA Tryz.zeroValue30 rfl) .free rfl rfl ?_
  rintro _ _ ⟨b2, rfl, rfl⟩
  refine p_chg rfl (ch_allocA Tryz.zeroValue33 rfl) .free rfl rfl ?_
  rintro _ _ ⟨b3, rfl, rfl⟩
  refine kPa rfl rfl ?_; refine p_chg0 rfl (ch_storeA (vs := _) Tryz.sizeOf30 rfl rfl rfl rfl rfl) .free rfl ?_
  rintro _ _ rfl
  refine p_chg0 rfl (ch_storeA (vs := _) Tryz.sizeOf33 rfl rfl rfl (by first | rfl | exact all3 (by assumption)) rfl) .free rfl ?_
  rintro _ _ rfl
  refine kPa rfl rfl ?_; refine p_nil ?_; refine go_sub (σ' := [(4, _), (1, _), (3, _), (2, _), (0, _)]) ⟨rfl, rfl, rfl, rfl, rfl, trivial⟩ ?_; refine g_seq ?_; refine g_seq ?_; refine g_region ?_; refine kPm rfl rfl ?_; refine kPv (ev_eqp Tryz.runUnderlying28 rfl rfl rfl) rfl ?_; refine kPm rfl rfl ?_; refine p_val rfl (ev_move rfl) (.on rfl rfl (beq_eq rfl)) rfl rfl ?_; refine p_val rfl (ev_len rfl Tryz.runUnderlying34 ⟨_, rfl⟩ rfl) (.on rfl rfl (beq_eq rfl)) rfl rfl ?_
  refine p_val rfl (ev_cmp rfl rfl rfl) (.on rfl rfl (beq_eq rfl)) rfl rfl ?_; refine kPv (ev_pick_f rfl rfl rfl) rfl ?_; refine kPm rfl rfl ?_; refine p_val rfl (ev_move rfl) (.on rfl rfl (beq_eq rfl)) rfl rfl ?_; refine p_val rfl (ev_loadA Tryz.isAgg30 Tryz.sizeOf30 rfl rfl) (.on rfl rfl (beq_eq rfl)) rfl rfl ?_; refine p_val rfl (ev_loadA Tryz.isAgg33 Tryz.sizeOf33 rfl rfl) (.on rfl rfl (beq_eq rfl)) rfl rfl ?_
  refine p_call rfl (en_f Tryz.call119 rfl) (wfrom_ok _ _ bd ⟨3, 1, 48⟩ ⟨0, 5, [0]⟩ sv hsv (.slice none 0 0) rfl) (.on rfl rfl (beq_eq rfl)) rfl rfl ?_ ?_
  rotate_left
  · rintro _ _ ⟨⟩
  rintro _ _ ⟨c1, c2, c3, c4, rfl, rfl⟩
  refine p_val rfl (ev_eqfn Tryz.runUnderlying178 ⟨_, _, _, rfl⟩ rfl rfl rfl) (.on rfl rfl (beq_eq rfl)) rfl rfl ?_; refine kPv (ev_pick_f rfl rfl rfl) rfl ?_; refine p_nil ?_; refine go_sub (σ' := [(30, _), (4, _), (1, _), (3, _), (2, _), (0, _)]) ⟨rfl, rfl, rfl, rfl, rfl, rfl, trivial⟩ ?_; refine g_iff rfl (rfl) ?_; refine g_skip ?_; refine g_seq ?_
  refine go_conv (H' := DevA bd s2 :: VecA 3 i64 0 (.slice (some ⟨bO, oO, none⟩) 2 co, [40, 42]) :: row b3 [i64 0, i64 5, sv] 33 :: row b2 [i64 3, i64 1, i64 48] 30 :: VecU 0 (sv, [0]) :: Fr) (fun w hh => by have h := ((hh.dp [0, 0, 0, 0, 5]).pk [4, 2]); exact h) ?_
  refine g_drawv [0, 1, 2, 3, 4, 5, 6, 7, 8, 9, 10, 11, 12, 13, 14, 15, 16, 17] [3, 13, 14] [6, 7, 8] [13] [row b2 [i64 3, i64 1, i64 48] 30, row b3 [i64 0, i64 5, sv] 33, VecA 3 i64 0 (.slice (some ⟨bO, oO, none⟩) 2 co, [40, 42])] Tryz.mixed (by kernel_rfl) ?_; refine v_val rfl rfl rfl (ev_move rfl) .free rfl ?_; refine v_val rfl rfl rfl (ev_loadA Tryz.isAgg30 Tryz.sizeOf30 rfl rfl) .free rfl ?_; refine v_val rfl rfl rfl (ev_loadA Tryz.isAgg33 Tryz.sizeOf33 rfl rfl) .free rfl ?_
  refine v_mark rfl rfl ?_; refine p_callq rfl (en_f Tryz.call120 rfl) (wsize_ok B _ bd ⟨3, 1, 48⟩ cfg48 ⟨0, 5, [0]⟩ sv ⟨⟨by decide, by decide⟩, ⟨by decide, by decide⟩⟩ hsv s2 none 0 [] (fun _ h => (by cases h)) (by decide) (fun _ h => absurd h (Nat.not_lt_zero _)) SlR.nil) .free rfl rfl ?_; refine p_nil ?_; refine v_off rfl ?_; refine v_val rfl rfl rfl (ev_cmp rfl rfl rfl) .free rfl ?_; refine v_val rfl rfl rfl (ev_move rfl) .free rfl ?_
  refine v_hoist rfl rfl rfl (ev_move rfl) (.on rfl rfl (beq_eq (by rw [e8]; rfl))) rfl ?_
  refine v_hoist rfl rfl rfl (ev_loadA Tryz.isAgg30 Tryz.sizeOf30 rfl rfl) (.on rfl rfl (beq_eq (by rw [e8]; rfl))) rfl ?_
  refine v_hoist rfl rfl rfl (ev_loadA Tryz.isAgg33 Tryz.sizeOf33 rfl rfl) (.on rfl rfl (beq_eq (by rw [e8]; rfl))) rfl ?_
  refine v_val rfl rfl rfl (ev_move rfl) (.on rfl rfl (beq_eq (by rw [e8]; rfl))) rfl ?_
  refine v_val rfl rfl rfl (ev_iaS Tryz.runUnderlying34 Tryz.sizeOf3 rfl rfl (by decide) (by decide)) (.on rfl rfl (beq_eq (by rw [e8]; rfl))) rfl ?_
  refine v_val rfl rfl rfl (ev_loadS (v := i64 42) Tryz.isAgg3 (vec_slr 1 rfl) rfl rfl) (.on rfl rfl (beq_eq (by rw [e8]; rfl))) rfl ?_
  refine v_val rfl rfl rfl (ev_conv (c := 42) Tryz.runUnderlying3 Tryz.runUnderlying52 rfl (by decide)) (.on rfl rfl (beq_eq (by rw [e8]; rfl))) rfl ?_
  refine v_mark rfl rfl ?_; refine p_chg rfl (ch_bs1 Tryz.runUnderlying31 Tryz.sizeOf52 Tryz.zeroValue52 rfl rfl rfl) (.on rfl rfl (beq_eq (by rw [e8]; rfl))) rfl rfl ?_
  rintro _ _ ⟨b44, rfl, rfl⟩
  refine p_nil ?_; refine v_on ?_; refine go_pk [1] ?_; refine v_mark rfl rfl ?_; refine p_callq rfl (en_f Tryz.call120 rfl) (wsize_ok B _ bd ⟨3, 1, 48⟩ cfg48 ⟨0, 5, [0]⟩ sv ⟨⟨by decide, by decide⟩, ⟨by decide, by decide⟩⟩ hsv s2 (some ⟨b44, 0, none⟩) 1 [42] (fun v h => by rw [List.mem_singleton.1 h]; decide) (by decide) (fun _ _ => ⟨_, _, rfl⟩) (SlR.row (b := b44) rfl rfl)) (.on rfl rfl (beq_eq (by rw [e8]; rfl))) rfl rfl ?_
  refine p_nil ?_; refine v_off rfl ?_; refine v_val rfl rfl rfl (ev_cmp rfl rfl rfl) (.on rfl rfl (beq_eq (by rw [e8]; rfl))) rfl ?_
  refine v_val rfl rfl rfl (ev_pick_t rfl (by rw [e8]; rfl) rfl) .free rfl ?_
  refine v_val rfl rfl rfl (ev_assign rfl) .free rfl ?_; refine v_nil ?_; refine go_sub (σ' := [(0, _)]) ⟨rfl, trivial⟩ ?_; refine g_ret ?_
  exact ret_tmp Tryz.results99 rfl (fun w hh => ⟨by rw [e9]; rfl, (hh.dp [0, 0, 0, 0, 0, 0])⟩)
theorem awake14_ok (B : World) (Fr : List HP) :
    ∀ w, Holds B Fr w → Calls Tryz.prog 66 [].toArray w (PureR B Fr (.bool true)) := by
  refine fn_enter Tryz.func66 rfl Tryz.ntmps66 rfl ?_; refine g_seq ?_; refine g_region ?_; refine kPa rfl rfl ?_; refine p_nil ?_; refine g_seq ?_; refine g_seq ?_; refine g_region ?_; refine p_callq rfl (en_f Tryz.call99 rfl) (awake13_ok _ _) .free rfl rfl ?_; refine kPv (ev_not rfl) rfl ?_; refine p_nil ?_; refine g_iff rfl (rfl) ?_; refine g_skip ?_; refine g_seq ?_; refine g_region ?_; refine kPv (ev_build rfl (bld_24_2 _ rfl)) rfl ?_; refine kPv (ev_build rfl (bld_107_1 _ rfl)) rfl ?_
  refine p_chg rfl (ch_bsG encH_w (v := (0, 1)) Tryz.runUnderlying25 Tryz.sizeOf107 Tryz.zeroValue107 ⟨⟨by decide, by decide⟩, rfl⟩ rfl rfl) .free rfl rfl ?_
  rintro _ _ ⟨b13, rfl, rfl⟩
  refine p_call rfl (en_f Tryz.call12 rfl) (linked_ok _ _ 0 0 40 ⟨by decide, by decide, by decide⟩ ⟨3, 1, 48⟩ mkC48 [(0, 1)] (hh1 ⟨by decide, by decide⟩ ⟨by decide, by decide⟩) (by decide) (some ⟨b13, 0, none⟩) _ sln1 none 0 [] SlR.nil (fun _ h => (by cases h)) (by decide) (fun _ h => absurd h (Nat.not_lt_zero _)) 0 (by decide)) .free rfl rfl ?_ ?_
  rotate_left
  · rintro _ _ ⟨⟩
  rintro _ _ ⟨bd, pa, N, s0, sF, out, hfm, hN, ⟨hus0, hf⟩, hfill, hor⟩
  obtain rfl := n48 hN
  have hev := okB_ok (okB_ok (d14_eval pa bd) hf) hfill
  simp only [Bool.and_eq_true, beq_iff_eq] at hev
  obtain ⟨⟨rfl, e1⟩, e2⟩ := hev
  rw [blkIs_eq e1] at hor
  rcases hor with ⟨n1, n2, s1, s2, ov, sv, hl1, hl2, hu2, hlm2, hn2, hov, hsv, rfl, rfl⟩ | ⟨s1, hl1, _⟩
  rotate_left
  · have e3 := okB_ok e2 hl1
    simp only [Bool.and_eq_true, beq_iff_eq] at e3
    exact absurd e3.1 (by simp)
  have e3 := okB_ok e2 hl1
  simp only [Bool.and_eq_true, beq_iff_eq] at e3
  obtain ⟨e4, e5⟩ := e3
  obtain rfl : n1 = 0 := by injection e4
  have e6 := okB_ok e5 hl2
  simp only [Bool.and_eq_true, beq_iff_eq] at e6
  obtain ⟨e7, e8⟩ := e6
  rw [blkIs_eq e7]
  refine go_pk [2] ?_; refine go_vecq fun qo co hqo hqi => ?_
  subst hqo
  obtain ⟨bO, oO, rfl⟩ := hqi 0 (by decide)
  refine kPm rfl rfl ?_; refine kPv (ev_ext rfl rfl) rfl ?_; refine kPv (ev_ext rfl rfl) rfl ?_; refine kPv (ev_ext rfl rfl) rfl ?_; refine kPv (ev_ext rfl rfl) rfl ?_; refine p_chg rfl (ch_allocA Tryz.zeroValue30 rfl) .free rfl rfl ?_
  rintro _ _ ⟨b2, rfl, rfl⟩
  refine p_chg rfl (ch_allocA Tryz.zeroValue33 rfl) .free rfl rfl ?_
  rintro _ _ ⟨b3, rfl, rfl⟩
  refine kPa rfl rfl ?_; refine p_chg0 rfl (ch_storeA (vs := _) Tryz.sizeOf30 rfl rfl rfl rfl rfl) .free rfl ?_
  rintro _ _ rfl
  refine p_chg0 rfl (ch_storeA (vs := _) Tryz.sizeOf33 rfl rfl rfl (by first | rfl | exact all3 (by assumption)) rfl) .free rfl ?_
  rintro _ _ rfl
  refine kPa rfl rfl ?_; refine p_nil ?_; refine go_sub (σ' := [(4, _), (1, _), (3, _), (2, _), (0, _)]) ⟨rfl, rfl, rfl, rfl, rfl, trivial⟩ ?_; refine g_seq ?_; refine g_seq ?_; refine g_region ?_; refine kPm rfl rfl ?_; refine kPv (ev_eqp Tryz.runUnderlying28 rfl rfl rfl) rfl ?_; refine kPm rfl rfl ?_; refine p_val rfl (ev_move rfl) (.on rfl rfl (beq_eq rfl)) rfl rfl ?_; refine p_val rfl (ev_len rfl Tryz.runUnderlying34 ⟨_, rfl⟩ rfl) (.on rfl rfl (beq_eq rfl)) rfl rfl ?_
  refine p_val rfl (ev_cmp rfl rfl rfl) (.on rfl rfl (beq_eq rfl)) rfl rfl ?_; refine kPv (ev_pick_f rfl rfl rfl) rfl ?_; refine p_nil ?_; refine go_sub (σ' := [(25, _), (1, _), (3, _), (2, _), (0, _)]) ⟨rfl, rfl, rfl, rfl, rfl, trivial⟩ ?_; refine g_iff rfl (rfl) ?_; refine g_skip ?_; refine g_seq ?_; refine g_region ?_; refine kPm rfl rfl ?_; refine kPv (ev_loadA Tryz.isAgg30 Tryz.sizeOf30 rfl rfl) rfl ?_; refine kPv (ev_loadA Tryz.isAgg33 Tryz.sizeOf33 rfl rfl) rfl ?_
  refine p_chg rfl (ch_bs1 Tryz.runUnderlying31 Tryz.sizeOf52 Tryz.zeroValue52 rfl rfl rfl) .free rfl rfl ?_
  rintro _ _ ⟨b29, rfl, rfl⟩
  refine go_pk [4] ?_
  refine p_call rfl (en_f Tryz.call16 rfl) (cnew_ok B _ bd ⟨3, 1, 48⟩ cfg48 ⟨0, 2, [0]⟩ ⟨⟨by decide, by decide⟩, ⟨by decide, by decide⟩⟩ sv hsv (some ⟨b29, 0, none⟩) 1 [0] (by decide) (fun h => by cases h) (SlR.row (b := b29) rfl rfl)) .free rfl rfl ?_ ?_
  rotate_left
  · rintro _ _ ⟨⟩
  rintro _ _ ⟨x, rfl, rfl⟩
  have hX0 : ColW (newCol bd ⟨3, 1, 48⟩ ⟨0, 2, [0]⟩ [0]) := newCol_w cfg48 ⟨⟨by decide, by decide⟩, ⟨by decide, by decide⟩⟩ (by decide) (fun v h => by rw [List.mem_singleton.1 h]; decide) (fun v h => by rw [List.mem_singleton.1 h]; decide)
  refine kPa rfl rfl ?_; refine p_nil ?_; refine go_sub (σ' := [(5, _), (0, _)]) ⟨rfl, rfl, trivial⟩ ?_; refine g_seq ?_; refine g_seq ?_; refine g_region ?_; refine kPm rfl rfl ?_; refine kPv (ev_eqp Tryz.runUnderlying45 rfl rfl rfl) rfl ?_; refine p_nil ?_; refine g_iff rfl (rfl) ?_; refine g_skip ?_; refine g_seq ?_; refine g_region ?_; refine kPm rfl rfl ?_; refine go_pk [0, 4] ?_
  refine p_call rfl (en_f Tryz.call74 rfl) (cstep_ok B _ x (newCol bd ⟨3, 1, 48⟩ ⟨0, 2, [0]⟩ [0]) hX0 s2 hu2) .free rfl rfl ?_ ?_
  rotate_left
  · rintro _ _ ⟨s9, hm9, _⟩
    exact (okB_off e8 hm9).elim
  rintro _ _ ⟨r1, s3, hm1, rfl, rfl⟩
  have e9 := okB_ok e8 hm1
  simp only [Bool.and_eq_true, Bool.not_eq_true'] at e9
  obtain ⟨e10, e11⟩ := e9
  obtain ⟨hX1, hu3, _, hbd1, _⟩ := step_w hX0 hu2 hm1
  refine go_conv (H' := ColA x r1.2 :: DevA r1.2.bd s3 :: _) (fun w hh => by rw [hbd1]; exact hh) ?_
  refine kPm rfl rfl ?_
  refine p_call rfl (en_f Tryz.call74 rfl) (cstep_ok B _ x r1.2 hX1 s3 hu3) .free rfl rfl ?_ ?_
  rotate_left
  · rintro _ _ ⟨s9, hm9, _⟩
    exact (okB_off e11 hm9).elim
  rintro _ _ ⟨r2, s4, hm2, rfl, rfl⟩
  have e12 := okB_ok e11 hm2
  simp only [Bool.and_eq_true] at e12
  obtain ⟨hX2, hu4, _⟩ := step_w hX1 hu3 hm2
  have hbl : r2.2.block = ⟨1, 0, [0]⟩ := congrArg Prod.fst (blkIs_eq e12.2)
  rw [e10, e12.1]
  refine kPa rfl rfl ?_; refine kPa rfl rfl ?_; refine p_nil ?_; refine g_seq ?_; refine g_region ?_; refine kPm rfl rfl ?_; refine kPv (ev_not rfl) rfl ?_; refine kPm rfl rfl ?_; refine p_val rfl (ev_move rfl) (.on rfl rfl (beq_eq rfl)) rfl rfl ?_; refine kPv (ev_pick_t rfl rfl rfl) rfl ?_; refine kPm rfl rfl ?_; refine p_val rfl (ev_move rfl) (.on rfl rfl (beq_eq rfl)) rfl rfl ?_
  refine p_call rfl (en_f Tryz.call76 rfl) (cblock_ok B _ x r2.2 hX2) (.on rfl rfl (beq_eq rfl)) rfl rfl ?_ ?_
  rotate_left
  · rintro _ _ ⟨⟩
  rintro _ _ ⟨bv5, hbv5, rfl, rfl⟩
  rw [hbl]
  refine p_val rfl (ev_field1 Tryz.runUnderlying33 (t := 3) (off := 1) rfl Tryz.isAgg3 rfl rfl) (.on rfl rfl (beq_eq rfl)) rfl rfl ?_; refine p_val rfl (ev_cmp rfl rfl rfl) (.on rfl rfl (beq_eq rfl)) rfl rfl ?_; refine kPv (ev_pick_t rfl rfl rfl) rfl ?_; refine kPm rfl rfl ?_; refine p_val rfl (ev_move rfl) (.on rfl rfl (beq_eq rfl)) rfl rfl ?_; refine go_pk [1] ?_
  refine p_call rfl (en_f Tryz.call76 rfl) (cblock_ok B _ x r2.2 hX2) (.on rfl rfl (beq_eq rfl)) rfl rfl ?_ ?_
  rotate_left
  · rintro _ _ ⟨⟩
  rintro _ _ ⟨bv6, hbv6, rfl, rfl⟩
  rw [hbl]
  refine p_val rfl (ev_field1 Tryz.runUnderlying33 (t := 3) (off := 0) rfl Tryz.isAgg3 rfl rfl) (.on rfl rfl (beq_eq rfl)) rfl rfl ?_; refine p_val rfl (ev_cmp rfl rfl rfl) (.on rfl rfl (beq_eq rfl)) rfl rfl ?_; refine kPv (ev_pick_t rfl rfl rfl) rfl ?_; refine kPa rfl rfl ?_; refine p_nil ?_; refine go_sub (σ' := [(0, _)]) ⟨rfl, trivial⟩ ?_; refine g_ret ?_
  exact ret_tmp Tryz.results66 rfl (fun w hh => ⟨rfl, (hh.dp [0, 0, 0, 0, 0, 0, 0, 0, 0])⟩)
theorem awake15_ok (B : World) (Fr : List HP) :
    ∀ w, Holds B Fr w → Calls Tryz.prog 11 [].toArray w (PureR B Fr (.bool true)) := by
  refine fn_enter Tryz.func11 rfl Tryz.ntmps11 rfl ?_; refine g_seq ?_; refine g_region ?_; refine kPa rfl rfl ?_; refine p_nil ?_; refine g_seq ?_; refine g_seq ?_; refine g_region ?_; refine p_callq rfl (en_f Tryz.call66 rfl) (awake14_ok _ _) .free rfl rfl ?_; refine kPv (ev_not rfl) rfl ?_; refine p_nil ?_; refine g_iff rfl (rfl) ?_; refine g_skip ?_; refine g_seq ?_; refine g_region ?_; refine kPv (ev_build rfl (bld_24_2 _ rfl)) rfl ?_; refine kPv (ev_build rfl (bld_107_1 _ rfl)) rfl ?_
  refine kPv (ev_build rfl (bld_107_1 _ rfl)) rfl ?_; refine p_chg rfl (ch_bsG2 encH_w (v := (0, 1)) (u := (0, 2)) Tryz.runUnderlying25 Tryz.sizeOf107 Tryz.zeroValue107 ⟨⟨by decide, by decide⟩, rfl⟩ rfl rfl rfl rfl) .free rfl rfl ?_
  rintro _ _ ⟨b16, rfl, rfl⟩
  refine p_call rfl (en_f Tryz.call12 rfl) (linked_ok _ _ 0 0 40 ⟨by decide, by decide, by decide⟩ ⟨3, 1, 48⟩ mkC48 [(0, 1), (0, 2)] (hh2) (by decide) (some ⟨b16, 0, none⟩) _ sln2 none 0 [] SlR.nil (fun _ h => (by cases h)) (by decide) (fun _ h => absurd h (Nat.not_lt_zero _)) 0 (by decide)) .free rfl rfl ?_ ?_
  rotate_left
  · rintro _ _ ⟨⟩
  rintro _ _ ⟨bd, pa, N, s0, sF, out, hfm, hN, ⟨hus0, hf⟩, hfill, hor⟩
  obtain rfl := n48 hN
  have hev := okB_ok (okB_ok (d15_eval pa bd) hf) hfill
  simp only [Bool.and_eq_true, beq_iff_eq] at hev
  obtain ⟨⟨rfl, e1⟩, e2⟩ := hev
  rw [blkIs_eq e1] at hor
  rcases hor with ⟨n1, n2, s1, s2, ov, sv, hl1, hl2, hu2, hlm2, hn2, hov, hsv, rfl, rfl⟩ | ⟨s1, hl1, _⟩
  rotate_left
  · have e3 := okB_ok e2 hl1
    simp only [Bool.and_eq_true, beq_iff_eq] at e3
    exact absurd e3.1 (by simp)
  have e3 := okB_ok e2 hl1
  simp only [Bool.and_eq_true, beq_iff_eq] at e3
  obtain ⟨e4, e5⟩ := e3
  obtain rfl : n1 = 0 := by injection e4
  have e6 := okB_ok e5 hl2
  simp only [Bool.and_eq_true, beq_iff_eq] at e6
  obtain ⟨⟨e7, e14⟩, e8⟩ := e6
  rw [blkIs_eq e7]
  refine go_pk [2] ?_; refine go_vecq fun qo co hqo hqi => ?_
  subst hqo
  obtain ⟨bO, oO, rfl⟩ := hqi 0 (by decide)
  refine kPm rfl rfl ?_; refine kPv (ev_ext rfl rfl) rfl ?_; refine kPv (ev_ext rfl rfl) rfl ?_; refine kPv (ev_ext rfl rfl) rfl ?_; refine kPv (ev_ext rfl rfl) rfl ?_; refine p_chg rfl (ch_allocA Tryz.zeroValue30 rfl) .free rfl rfl ?_
  rintro _ _ ⟨b2, rfl, rfl⟩
  refine p_chg rfl (ch_allocA Tryz.zeroValue33 rfl) .free rfl rfl ?_
  rintro _ _ ⟨b3, rfl, rfl⟩
  refine kPa rfl rfl ?_; refine p_chg0 rfl (ch_storeA (vs := _) Tryz.sizeOf30 rfl rfl rfl rfl rfl) .free rfl ?_
  rintro _ _ rfl
  refine p_chg0 rfl (ch_storeA (vs := _) Tryz.sizeOf33 rfl rfl rfl (by first | rfl | exact all3 (by assumption)) rfl) .free rfl ?_
  rintro _ _ rfl
  refine kPa rfl rfl ?_; refine p_nil ?_; refine go_sub (σ' := [(4, _), (1, _), (3, _), (2, _), (0, _)]) ⟨rfl, rfl, rfl, rfl, rfl, trivial⟩ ?_; refine g_seq ?_; refine g_seq ?_; refine g_region ?_; refine kPm rfl rfl ?_; refine kPv (ev_eqp Tryz.runUnderlying28 rfl rfl rfl) rfl ?_; refine kPm rfl rfl ?_; refine p_val rfl (ev_move rfl) (.on rfl rfl (beq_eq rfl)) rfl rfl ?_; refine p_val rfl (ev_len rfl Tryz.runUnderlying34 ⟨_, rfl⟩ rfl) (.on rfl rfl (beq_eq rfl)) rfl rfl ?_
  refine p_val rfl (ev_cmp rfl rfl rfl) (.on rfl rfl (beq_eq rfl)) rfl rfl ?_; refine kPv (ev_pick_f rfl rfl rfl) rfl ?_; refine kPm rfl rfl ?_; refine p_val rfl (ev_fa (m := _) fa_33_1 rfl rfl) (.on rfl rfl (beq_eq rfl)) rfl rfl ?_; refine p_val rfl (ev_load Tryz.isAgg3 rfl rfl) (.on rfl rfl (beq_eq rfl)) rfl rfl ?_; refine p_val rfl (ev_cmp rfl rfl rfl) (.on rfl rfl (beq_eq rfl)) rfl rfl ?_; refine kPv (ev_pick_f rfl rfl rfl) rfl ?_; refine p_nil ?_
  refine go_sub (σ' := [(33, _), (4, _), (1, _), (2, _), (0, _)]) ⟨rfl, rfl, rfl, rfl, rfl, trivial⟩ ?_; refine g_iff rfl (rfl) ?_; refine g_skip ?_; refine g_seq ?_; refine g_region ?_; refine kPm rfl rfl ?_; refine kPv (ev_loadA Tryz.isAgg30 Tryz.sizeOf30 rfl rfl) rfl ?_; refine go_pk [4] ?_
  refine p_call rfl (en_f Tryz.call13 rfl) (snew_ok _ _ bd s2 ⟨3, 1, 48⟩ cfg48) .free rfl rfl ?_ ?_
  rotate_left
  · rintro _ _ ⟨⟩
  rintro _ _ ⟨bs, rfl, rfl⟩
  refine kPa rfl rfl ?_; refine p_nil ?_; refine g_seq ?_; refine g_seq ?_; refine g_region ?_; refine go_secC fun bl o1 o2 => ?_; refine kPm rfl rfl ?_; refine kPv (ev_eqp Tryz.runUnderlying37 rfl rfl rfl) rfl ?_; refine kPm rfl rfl ?_; refine p_val rfl (ev_move rfl) (.on rfl rfl (beq_eq rfl)) rfl rfl ?_
  first | refine p_val rfl (ev_nil rfl) (.on rfl rfl (beq_eq rfl)) rfl rfl ?_ | refine p_val rfl (ev_nilf rfl) (.on rfl rfl (beq_eq rfl)) rfl rfl ?_
  refine p_val rfl (ev_fa (m := _) fa_44_0 rfl rfl) (.on rfl rfl (beq_eq rfl)) rfl rfl ?_; refine p_val rfl (ev_load Tryz.isAgg39 rfl rfl) (.on rfl rfl (beq_eq rfl)) rfl rfl ?_; refine p_val rfl (ev_eqp Tryz.runUnderlying39 rfl rfl rfl) (.on rfl rfl (beq_eq rfl)) rfl rfl ?_; refine kPv (ev_pick_f rfl rfl rfl) rfl ?_; refine p_nil ?_; refine go_sub (σ' := [(45, _), (5, _), (4, _), (1, _), (2, _), (0, _)]) ⟨rfl, rfl, rfl, rfl, rfl, rfl, trivial⟩ ?_; refine g_iff rfl (rfl) ?_; refine g_skip ?_
  refine g_seq ?_; refine go_conv (fun w hh => secC_holds (S := (⟨openL bd ⟨3, 1, 48⟩ s2, 0, 0, [], []⟩ : SecS)) hh) ?_; refine go_conv (H' := SecC bs (⟨openL bd ⟨3, 1, 48⟩ s2, 0, 0, [], []⟩ : SecS) :: DevA bd s2 :: row b2 [i64 3, i64 1, i64 48] 30 :: VecA 3 i64 0 (.slice (some ⟨bO, oO, none⟩) 2 co, [40, 42]) :: VecU 0 (sv, [0]) :: Fr) (fun w hh => by have h := (hh.dp [2, 5]); exact h) ?_
  refine g_drawv [0, 1, 2, 3, 4, 5, 6, 7, 8, 9, 10, 11, 12, 13] [7, 8] [0, 1, 2] [7] [row b2 [i64 3, i64 1, i64 48] 30, VecA 3 i64 0 (.slice (some ⟨bO, oO, none⟩) 2 co, [40, 42])] Tryz.mixed (by kernel_rfl) ?_; refine v_hoist rfl rfl rfl (ev_move rfl) .free rfl ?_; refine v_hoist rfl rfl rfl (ev_loadA Tryz.isAgg30 Tryz.sizeOf30 rfl rfl) .free rfl ?_; refine v_hoist rfl rfl rfl (ev_move rfl) .free rfl ?_; refine v_val rfl rfl rfl (ev_move rfl) .free rfl ?_
  refine v_val rfl rfl rfl (ev_iaS Tryz.runUnderlying34 Tryz.sizeOf3 rfl rfl (by decide) (by decide)) .free rfl ?_; refine v_val rfl rfl rfl (ev_loadS (v := i64 42) Tryz.isAgg3 (vec_slr 3 rfl) rfl rfl) .free rfl ?_; refine v_val rfl rfl rfl (ev_conv (c := 42) Tryz.runUnderlying3 Tryz.runUnderlying52 rfl (by decide)) .free rfl ?_; refine v_mark rfl rfl ?_; refine p_chg rfl (ch_bs1 Tryz.runUnderlying31 Tryz.sizeOf52 Tryz.zeroValue52 rfl rfl rfl) .free rfl rfl ?_
  rintro _ _ ⟨b54, rfl, rfl⟩
  refine p_nil ?_; refine v_on ?_; refine v_mark rfl rfl ?_; refine go_pk [1, 1] ?_
  refine p_call rfl (en_f Tryz.call14 rfl) (fcollect_ok B _ bs bd (⟨openL bd ⟨3, 1, 48⟩ s2, 0, 0, [], []⟩ : SecS) ⟨3, 1, 48⟩ cfg48 s2 hu2 ⟨openL_w cfg48, by rw [hn2]; decide, rfl, rfl⟩ (some ⟨b54, 0, none⟩) 1 [42] (by decide) (fun v h => by rw [List.mem_singleton.1 h]; decide) (SlR.row (b := b54) rfl rfl)) .free rfl rfl ?_ ?_
  rotate_left
  · rintro _ _ ⟨s9, hm9, _⟩
    exact (okB_off e8 hm9).elim
  rintro _ _ ⟨r, s3, hm3, hor⟩
  have e9 := okB_ok e8 hm3
  simp only [Bool.and_eq_true, beq_iff_eq] at e9
  obtain ⟨⟨e10, e11⟩, e12⟩ := e9
  rcases hor with ⟨h1, _⟩ | ⟨x, X, hX, h0, rfl, rfl⟩
  · rw [h1] at e11; cases e11
  rw [hX] at e11
  have e13 : (mget X.went 42).getD 0 = 88 := by simpa [went1] using e11
  have hu3 := (collect_k cfg48 (fun v h => by rw [List.mem_singleton.1 h]; decide) (openL_w cfg48) hu2 (by rw [hn2]; decide) e14 hm3).1
  refine p_nil ?_; refine v_off rfl ?_; refine v_val rfl rfl rfl (ev_move rfl) .free rfl ?_; refine v_val rfl rfl rfl (ev_ext rfl rfl) .free rfl ?_; refine v_val rfl rfl rfl (ev_ext rfl rfl) .free rfl ?_; refine v_val rfl rfl rfl (ev_assign rfl) .free rfl ?_; refine v_val rfl rfl rfl (ev_assign rfl) .free rfl ?_; refine v_nil ?_; refine go_sub (σ' := [(7, _), (6, _), (4, _), (1, _), (2, _), (0, _)]) ⟨rfl, rfl, rfl, rfl, rfl, rfl, trivial⟩ ?_; refine g_seq ?_; refine g_region ?_
  refine kPm rfl rfl ?_; refine kPv (ev_loadA Tryz.isAgg30 Tryz.sizeOf30 rfl rfl) rfl ?_; refine go_pk [2] ?_
  refine p_call rfl (en_f Tryz.call15 rfl) (rread_ok _ _ _ _ ⟨3, 1, 48⟩ cfg48 hu3) .free rfl rfl ?_ ?_
  rotate_left
  · rintro _ _ ⟨⟩
  rintro _ _ ⟨sv3, hsv3, rfl, rfl⟩
  rw [blkIs_eq e12]
  refine kPm rfl rfl ?_; refine kPv (ev_ext rfl rfl) rfl ?_; refine kPv (ev_ext rfl rfl) rfl ?_; refine p_chg rfl (ch_allocA Tryz.zeroValue33 rfl) .free rfl rfl ?_
  rintro _ _ ⟨b8, rfl, rfl⟩
  refine p_chg0 rfl (ch_storeA (vs := _) Tryz.sizeOf33 rfl rfl rfl (by first | rfl | exact all3 (by assumption)) rfl) .free rfl ?_
  rintro _ _ rfl
  refine kPa rfl rfl ?_; refine p_nil ?_; refine go_sub (σ' := [(9, _), (8, _), (7, _), (6, _), (4, _), (2, _), (0, _)]) ⟨rfl, rfl, rfl, rfl, rfl, rfl, rfl, trivial⟩ ?_; refine g_seq ?_; refine g_draw Tryz.mixed (by kernel_rfl) (by kernel_rfl) ?_; refine kQm rfl rfl ?_; refine kQv (ev_cmp rfl rfl rfl) rfl ?_; refine kQm rfl rfl ?_; refine q_val rfl (ev_move rfl) (.on rfl rfl (beq_eq rfl)) rfl ?_; refine q_val rfl (ev_eqp Tryz.runUnderlying45 rfl rfl rfl) (.on rfl rfl (beq_eq rfl)) rfl ?_
  refine kQv (ev_pick_t rfl rfl rfl) rfl ?_; refine kQm rfl rfl ?_; refine q_val rfl (ev_move rfl) (.on rfl rfl (beq_eq rfl)) rfl ?_; refine q_val rfl (ev_cmp rfl rfl rfl) (.on rfl rfl (beq_eq rfl)) rfl ?_; refine kQv (ev_pick_t rfl rfl rfl) rfl ?_; refine kQm rfl rfl ?_; refine q_val rfl (ev_fa (m := _) fa_33_0 rfl rfl) (.on rfl rfl (beq_eq rfl)) rfl ?_; refine q_val rfl (ev_load Tryz.isAgg3 rfl rfl) (.on rfl rfl (beq_eq rfl)) rfl ?_
  refine q_val rfl (ev_cmp rfl rfl rfl) (.on rfl rfl (beq_eq rfl)) rfl ?_; refine kQv (ev_pick_t rfl rfl rfl) rfl ?_; refine kQm rfl rfl ?_; refine q_val rfl (ev_fa (m := _) fa_33_1 rfl rfl) (.on rfl rfl (beq_eq rfl)) rfl ?_; refine q_val rfl (ev_load Tryz.isAgg3 rfl rfl) (.on rfl rfl (beq_eq rfl)) rfl ?_; refine q_val rfl (ev_cmp rfl rfl rfl) (.on rfl rfl (beq_eq rfl)) rfl ?_; refine kQv (ev_pick_t rfl rfl rfl) rfl ?_; refine kQm rfl rfl ?_
  refine q_val rfl (ev_move rfl) (.on rfl rfl (beq_eq rfl)) rfl ?_; refine q_val rfl (ev_move rfl) (.on rfl rfl (beq_eq rfl)) rfl ?_; refine q_val rfl (ev_iaS Tryz.runUnderlying34 Tryz.sizeOf3 rfl rfl (by decide) (by decide)) (.on rfl rfl (beq_eq rfl)) rfl ?_; refine q_val rfl (ev_loadS (v := i64 42) Tryz.isAgg3 (vec_slr 7 rfl) rfl rfl) (.on rfl rfl (beq_eq rfl)) rfl ?_; refine q_val rfl (ev_conv (c := 42) Tryz.runUnderlying3 Tryz.runUnderlying52 rfl (by decide)) (.on rfl rfl (beq_eq rfl)) rfl ?_
  refine q_call rfl (en_f Tryz.call55 rfl) (ro_at (q := ColA) (fun Fr => cwent_ok B Fr x X 42)) (.on rfl rfl (beq_eq rfl)) rfl ?_; refine q_val rfl (ev_loadA Tryz.isAgg30 Tryz.sizeOf30 rfl rfl) (.on rfl rfl (beq_eq rfl)) rfl ?_; refine q_call rfl (en_f Tryz.call46 rfl) (from_ok _ _ ⟨3, 1, 48⟩ cfg48 1 (by decide) (by decide)) (.on rfl rfl (beq_eq rfl)) rfl ?_; refine q_val rfl (ev_cmp rfl rfl rfl) (.on rfl rfl (beq_eq rfl)) rfl ?_; refine kQv (ev_pick_t rfl rfl rfl) rfl ?_; refine kQa rfl rfl ?_
  refine q_nil ?_; refine go_sub (σ' := [(0, _)]) ⟨rfl, trivial⟩ ?_; refine g_ret ?_
  exact ret_tmp Tryz.results11 rfl (fun w hh => ⟨by rw [e13]; rfl, (hh.dp [0, 0, 0, 0, 0, 0, 0, 0, 0])⟩)
end Go.Proofs.YtbfheafpecgphaaGreat
namespace Go.Proofs.YtbfheafpecgphaaGreat
open Go
theorem Tryz.ownKnobs : ownKnob Tryz.prog.godebug = none := by kernel_rfl
theorem Tryz.laidOut : laidOutB Tryz.prog = true := by kernel_rfl
theorem law_of {P : Program} {f : FuncId} {vs : Array Value} {W : World} (h : ∀ w, Holds W [old W] w → Calls P f vs w (PureR W [old W] (.bool true))) :
    Calls P f vs W (fun e w' => e = .returned (.bool true) ∧ RowKit.Below W.heap.size W w') := (h W (holds_old W)).mono fun _ _ ⟨h1, h2⟩ => ⟨h1, h2.oldb⟩
theorem arg_sl_u16 {H : Type} {enc : TypeId × Value → H} {W : World} {base : Nat} {held : Bool} {a : Option Addr} {len cap : Nat} {x : DataW H × List MemPlace}
    (h : ∃ fuel, DataW.trod enc Tryz.prog W base (fun _ => true) held fuel 26 (Value.slice a len cap).cells.toList = some x) : ∃ xs : List Int, len = xs.length ∧ len ≤ 9223372036854775807 ∧ ArgRow W a len 1 (fun i => [u16 (xs.getD i 0)]) ∧ ∀ x ∈ xs, 0 ≤ x ∧ x ≤ 65535 := by
  obtain ⟨fuel, hf⟩ := h
  rcases Go.ChangeShapes.open_ints Tryz.underlying26 Tryz.underlying22 (by kernel_rfl) hf with ⟨hcs, _⟩ | ⟨y, l, c, zs, hcs, _, hl, hm, hlen, hbd, hcell, hbd2⟩
  · simp [Value.cells] at hcs
    obtain ⟨rfl, rfl, rfl⟩ := hcs
    exact ⟨[], rfl, by omega, ⟨fun i hi => by omega⟩, fun x hx => by simp at hx⟩
  · simp [Value.cells] at hcs
    obtain ⟨rfl, rfl, rfl⟩ := hcs
    unfold maxLen at hm
    simp only [if_true] at hlen
    refine ⟨zs.take len, by rw [List.length_take]; omega, by omega, ⟨fun i hi => ?_⟩, fun x hx => bounds_u16 (hbd2 x (List.mem_of_mem_take hx))⟩
    have h0 := hcell i (by omega)
    obtain ⟨b, o, s⟩ := y
    have hs : s = none := by
      have h1 := hcell 0 (by omega)
      have e0 : (⟨b, o, s⟩ : Addr).add 0 = ⟨b, o, s⟩ := rfl
      rw [e0] at h1
      unfold World.cell? at h1
      split at h1
      · cases s with
        | none => rfl
        | some q => simp at h1
      · cases h1
    subst hs
    refine ⟨b, o, rfl, rfl, fun j hj => ?_⟩
    obtain rfl : j = 0 := by omega
    rw [add_eq] at h0
    have e1 : (List.take len zs)[i]?.getD 0 = zs[i]?.getD 0 := by
      rw [List.getElem?_take_of_lt hi]
    simpa [e1] using h0
theorem slr_u16 {W : World} {H : List HP} [HasOld H W] {a : Option Addr} {cap : Nat} {xs : List Int} (h : ArgRow W a xs.length 1 (fun i => [u16 (xs.getD i 0)])) : SlR W H (.slice a xs.length cap) (xs.map u16) := by
  have h1 := SlR.arg (H := H) (cap := cap) h
  have e : (List.range xs.length).map (fun i => u16 (xs.getD i 0)) = xs.map u16 := by
    apply List.ext_getElem
    · simp
    · intro i h1 h2
      simp at h1
      simp [h1]
  rwa [e] at h1
open Go.ChangeShapes Go.WideShapes in
set_option maxRecDepth 100000 in
theorem arg_st_u16_u16_u16 {H : Type} {enc : TypeId × Value → H} {W : World} {r : Reach} {base b1 : Nat} {held : Bool} {sp : Nat → Bool} {v : Value} {x : DataW H × List MemPlace}
    (hv : Value.okWide Tryz.prog W r b1 24 v) (h : ∃ fuel, DataW.trod enc Tryz.prog W base sp held fuel 24 v.cells.toList = some x) :
    ∃ z : Int × Int × Int, v = .agg #[u16 z.1, u16 z.2.1, u16 z.2.2] ∧ (Lit.int .u16 z.1).wf = true ∧ (Lit.int .u16 z.2.1).wf = true ∧ (Lit.int .u16 z.2.2).wf = true := by
  obtain ⟨fuel, hf⟩ := h
  obtain ⟨cs, rfl, hsz⟩ := okWide_struct Tryz.underlying24 hv
  have hsz : cs.size = 3 := hsz
  obtain ⟨y0, y1, y2, n, _, _, h0, h1, h2⟩ := Go.Deep.trod_struct3 Tryz.underlying24 hf
  obtain ⟨a, e0, _, w0⟩ := DataW.trod_int Tryz.underlying22 h0
  obtain ⟨b, e1, _, w1⟩ := DataW.trod_int Tryz.underlying22 h1
  obtain ⟨c, e2, _, w2⟩ := DataW.trod_int Tryz.underlying22 h2
  refine ⟨(a, b, c), ?_, w0, w1, w2⟩
  obtain ⟨l⟩ := cs
  match l, hsz with
  | [p, q, s], _ =>
    have e0 : [p] = [Value.int .u16 a] := e0
    have e1 : [q] = [Value.int .u16 b] := e1
    have e2 : [s] = [Value.int .u16 c] := e2
    cases e0; cases e1; cases e2; rfl
end Go.Proofs.YtbfheafpecgphaaGreat
namespace Go.Proofs.YtbfheafpecgphaaGreat
open Go
theorem some_u8 {W : World} {a : Option Addr} {n : Nat} {f : Nat → Value} (h : ArgRow W a n 1 (fun i => [f i])) : ∀ i, i < n → ∃ b off, a = some ⟨b, off, none⟩ := fun i hi => by
  obtain ⟨b, o, e, _⟩ := h.cell i hi; exact ⟨b, o, e⟩
end Go.Proofs.YtbfheafpecgphaaGreat
namespace Go.Proofs.YtbfheafpecgphaaGreat
open Go
set_option maxRecDepth 100000 in
theorem arg_sl_st_u8_u8 {H : Type} {enc : TypeId × Value → H} {W : World} {base : Nat} {held : Bool} {a : Option Addr} {len cap : Nat} {x : DataW H × List MemPlace}
    (h : ∃ fuel, DataW.trod enc Tryz.prog W base (fun _ => true) held fuel 25 (Value.slice a len cap).cells.toList = some x) : ∃ f : Nat → Int × Int, len ≤ 9223372036854775807 ∧ (∀ i, i < len → 0 ≤ (f i).1 ∧ (f i).1 ≤ 255 ∧ 0 ≤ (f i).2 ∧ (f i).2 ≤ 255) ∧ ArgRow W a len 2 (fun i => [.int .u8 (f i).1, .int .u8 (f i).2]) := by
  obtain ⟨fuel, hf⟩ := h
  rcases Go.Deep.open_slice Tryz.underlying25 hf with ⟨hcs, _⟩ | ⟨y, l, c, m, n, D, Pl, hcs, _, hl, hm, hmm, _, hx⟩
  · simp [Value.cells] at hcs
    obtain ⟨rfl, rfl, rfl⟩ := hcs
    exact ⟨fun _ => (0, 0), by omega, fun i hi => by omega, ⟨fun i hi => by omega⟩⟩
  · simp [Value.cells] at hcs
    obtain ⟨rfl, rfl, rfl⟩ := hcs
    unfold maxLen at hm
    simp only [if_true] at hmm
    have hc2 : Tryz.prog.cellsOf 107 = 2 := by kernel_rfl
    have each : ∀ i, i < len → ∃ p : Int × Int, (0 ≤ p.1 ∧ p.1 ≤ 255 ∧ 0 ≤ p.2 ∧ p.2 ≤ 255) ∧ W.cell? (y.add (i * 2)) = some (.int .u8 p.1) ∧ W.cell? ((y.add (i * 2)).add 1) = some (.int .u8 p.2) := fun i hi => by
      obtain ⟨cs, h1, h2⟩ := hx i (by omega)
      rw [hc2] at h1
      obtain ⟨y0, y1, n, _, hlen, g0, g1⟩ := Go.ChangeShapes.trod_struct2 Tryz.underlying107 h2
      rw [hc2] at hlen
      match cs, hlen with
      | [u, v], _ =>
        obtain ⟨p, ep, _, wp⟩ := DataW.trod_int Tryz.underlying5 g0
        obtain ⟨q, eq, _, wq⟩ := DataW.trod_int Tryz.underlying5 g1
        have ep : [u] = [Value.int .u8 p] := ep
        have eq : [v] = [Value.int .u8 q] := eq
        cases ep; cases eq
        have bp := bounds_u8 wp
        have bq := bounds_u8 wq
        have hs := World.cells?_some h1
        exact ⟨(p, q), ⟨bp.1, bp.2, bq.1, bq.2⟩, hs.2.2 0 (by decide), hs.2.2 1 (by decide)⟩
    obtain ⟨b, o, s⟩ := y
    by_cases h0 : len = 0
    · exact ⟨fun _ => (0, 0), by omega, fun i hi => by omega, ⟨fun i hi => by omega⟩⟩
    have hs : s = none := by
      obtain ⟨p, _, h1, _⟩ := each 0 (by omega)
      have e0 : (⟨b, o, s⟩ : Addr).add (0 * 2) = ⟨b, o, s⟩ := rfl
      rw [e0] at h1
      unfold World.cell? at h1
      split at h1
      · cases s with
        | none => rfl
        | some q => simp at h1
      · cases h1
    subst hs
    refine ⟨fun i => if hi : i < len then (each i hi).choose else (0, 0), by omega, fun i hi => ?_, ⟨fun i hi => ⟨b, o, rfl, rfl, fun j hj => ?_⟩⟩⟩
    · simp only [dif_pos hi]
      exact (each i hi).choose_spec.1
    · obtain ⟨_, h1, h2⟩ := (each i hi).choose_spec
      simp only [dif_pos hi]
      match j, hj with
      | 0, _ => exact (congrArg W.cell? (add_eq b o (i * 2))).symm.trans h1
      | 1, _ => exact ((congrArg (fun a : Addr => W.cell? (a.add 1)) (add_eq b o (i * 2))).trans (congrArg W.cell? (add_eq b (o + i * 2) 1))).symm.trans h2
end Go.Proofs.YtbfheafpecgphaaGreat
namespace Go.Proofs.YtbfheafpecgphaaGreat
open Go
theorem GcH.lo0 {c : Cfg} {b : Blk} {m0 : Int → Int} {L : List Int} {lo hi : Int} (G : GcH c b m0 L lo hi) : c.frm 0 ≤ lo := by
  have h1 := G.hb.act
  have hs1 := G.hc.s1
  have h5 := lines_b (n := c.space) (by omega)
  rw [G.lo_]
  rcases (by omega : b.act = 0 ∨ b.act = 1) with e | e
  · rw [e]; simp [Cfg.frm]; omega
  · rw [e]; simp
structure HI (c : Cfg) (N bd : Nat) (S : SecS) (s : Dev) (b : Blk) (L : List Int) : Prop where
  sk : SK c N bd S s
  bl : s.block c = (b, 0)
  heap : HeapW c b s.load L
abbrev AllR (s : Dev) (b : Blk) (L : List Int) : Prop := ∀ k ∈ L, Rch s.load b.rts k
theorem hi_collect {c : Cfg} (hc : CfgW c) {N bd : Nat} {S : SecS} {s : Dev} {b : Blk} {L : List Int} (h : HI c N bd S s b L) : ∃ X S' s', collectM bd c S s [] = .ok (some X, 0, S') s' ∧ HI c N bd S' s' X.block (X.went.map Prod.snd) ∧ X.block.act = 1 - b.act ∧ 0 ≤ X.block.used ∧ X.block.used ≤ b.used ∧ AllR s' X.block (X.went.map Prod.snd) ∧ (AllR s b L → X.block.used = b.used) := by
  obtain ⟨X, S', s', e1, e2, e3, e4, G, s1, hD, e5⟩ := collect_run hc h.sk h.bl h.heap (ws := []) (fun _ h => by cases h)
  have hb := hD.block G
  have hu := hD.used G
  have hm : ∀ j, c.frm (1 - b.act) ≤ j → j < X.free → s'.load j = s1.load j := fun j h1 _ => e5 j (by have := G.lo0; omega)
  refine ⟨X, S', s', e1, ⟨e2, e4, hD.heap G (fun w hw => List.mem_append_left _ hw) hm⟩, by rw [hb], hu.2.1, hu.2.2, fun k hk => ?_, fun ha => hD.again G (fun k hk => by rw [List.append_nil]; exact ha k hk)⟩
  have := hD.all G hm hk
  rw [List.append_nil] at this
  rw [hb]; exact this
theorem sln_arg2 {W : World} {H : List HP} [HasOld H W] {a : Option Addr} {n cap : Nat} {f : Nat → Int × Int} (h : ArgRow W a n 2 (fun i => [.int .u8 (f i).1, .int .u8 (f i).2])) : SlN W H (.slice a ((List.range n).map f).length cap) 2 (((List.range n).map f).map fun h => [u8 h.1, u8 h.2]) := by
  have h1 := SlN.arg (H := H) (cap := cap) h
  rw [List.length_map, List.length_range, List.map_map]
  exact h1
end Go.Proofs.YtbfheafpecgphaaGreat
