/- Arguments of the laws' functions, opened: more kinds. Conditions: none. -/
import Derived.Test.YtbfheafpecgphaaGreatArg
import Derived.Test.YtbfheafpecgphaaGreatFil
set_option linter.unusedSimpArgs false
set_option linter.unusedVariables false
set_option linter.unnecessarySimpa false
set_option linter.unusedSectionVars false
namespace Go.Proofs.YtbfheafpecgphaaGreat
set_option linter.unusedSimpArgs false
set_option linter.unusedVariables false
open Go


theorem arg_sl_u8 {H : Type} {enc : TypeId × Value → H} {W : World} {base : Nat} {held : Bool} {a : Option Addr} {len cap : Nat} {x : DataW H × List MemPlace}
    (h : ∃ fuel, DataW.trod enc Tryz.prog W base (fun _ => true) held fuel 66 (Value.slice a len cap).cells.toList = some x) : ∃ xs : List Int, len = xs.length ∧ len ≤ 9223372036854775807 ∧ ArgRow W a len 1 (fun i => [u8 (xs.getD i 0)]) ∧ ∀ x ∈ xs, 0 ≤ x ∧ x ≤ 255 := by
  obtain ⟨fuel, hf⟩ := h
  rcases Go.ChangeShapes.open_ints Tryz.underlying66 Tryz.underlying5 (by kernel_rfl) hf with ⟨hcs, _⟩ | ⟨y, l, c, zs, hcs, _, hl, hm, hlen, hbd, hcell, hbd2⟩
  · simp [Value.cells] at hcs
    obtain ⟨rfl, rfl, rfl⟩ := hcs
    exact ⟨[], rfl, by omega, ⟨fun i hi => by omega⟩, fun x hx => by simp at hx⟩
  · simp [Value.cells] at hcs
    obtain ⟨rfl, rfl, rfl⟩ := hcs
    unfold maxLen at hm
    simp only [if_true] at hlen
    refine ⟨zs.take len, by rw [List.length_take]; omega, by omega, ⟨fun i hi => ?_⟩, fun x hx => bounds_u8 (hbd2 x (List.mem_of_mem_take hx))⟩
    have h0 := hcell i (by omega)
    obtain ⟨b, o, s⟩ := y
    have hs : s = none := by
      have h1 := hcell 0 (by omega)
      have e0 : (⟨b, o, s⟩ : Addr).add 0 = ⟨b, o, s⟩ := rfl
      rw [e0] at h1
      unfold World.cell? at h1
      split at h1
      · cases s with
        | none => rfl
        | some q => simp at h1
      · cases h1
    subst hs
    refine ⟨b, o, rfl, rfl, fun j hj => ?_⟩
    obtain rfl : j = 0 := by omega
    rw [add_eq] at h0
    have e1 : (List.take len zs)[i]?.getD 0 = zs[i]?.getD 0 := by
      rw [List.getElem?_take_of_lt hi]
    simpa [e1] using h0
theorem some_u8 {W : World} {a : Option Addr} {n : Nat} {f : Nat → Value} (h : ArgRow W a n 1 (fun i => [f i])) : ∀ i, i < n → ∃ b off, a = some ⟨b, off, none⟩ := fun i hi => by
  obtain ⟨b, o, e, _⟩ := h.cell i hi; exact ⟨b, o, e⟩
theorem slr_u8 {W : World} {H : List HP} [HasOld H W] {a : Option Addr} {cap : Nat} {xs : List Int} (h : ArgRow W a xs.length 1 (fun i => [u8 (xs.getD i 0)])) : SlR W H (.slice a xs.length cap) (xs.map u8) := by
  have h1 := SlR.arg (H := H) (cap := cap) h
  have e : (List.range xs.length).map (fun i => u8 (xs.getD i 0)) = xs.map u8 := by
    apply List.ext_getElem
    · simp
    · intro i h1 h2
      simp at h1
      simp [h1]
  rwa [e] at h1


set_option maxRecDepth 100000 in
theorem arg_sl_st_u8_u8_u8 {H : Type} {enc : TypeId × Value → H} {W : World} {base : Nat} {held : Bool} {a : Option Addr} {len cap : Nat} {x : DataW H × List MemPlace}
    (h : ∃ fuel, DataW.trod enc Tryz.prog W base (fun _ => true) held fuel 101 (Value.slice a len cap).cells.toList = some x) : ∃ f : Nat → Int × Int × Int, len ≤ 9223372036854775807 ∧ (∀ i, i < len → 0 ≤ (f i).1 ∧ (f i).1 ≤ 255 ∧ 0 ≤ (f i).2.1 ∧ (f i).2.1 ≤ 255 ∧ 0 ≤ (f i).2.2 ∧ (f i).2.2 ≤ 255) ∧ ArgRow W a len 3 (fun i => [.int .u8 (f i).1, .int .u8 (f i).2.1, .int .u8 (f i).2.2]) := by
  obtain ⟨fuel, hf⟩ := h
  rcases Go.Deep.open_slice Tryz.underlying101 hf with ⟨hcs, _⟩ | ⟨y, l, c, m, n, D, Pl, hcs, _, hl, hm, hmm, _, hx⟩
  · simp [Value.cells] at hcs
    obtain ⟨rfl, rfl, rfl⟩ := hcs
    exact ⟨fun _ => (0, 0, 0), by omega, fun i hi => by omega, ⟨fun i hi => by omega⟩⟩
  · simp [Value.cells] at hcs
    obtain ⟨rfl, rfl, rfl⟩ := hcs
    unfold maxLen at hm
    simp only [if_true] at hmm
    have hc2 : Tryz.prog.cellsOf 103 = 3 := by kernel_rfl
    have each : ∀ i, i < len → ∃ p : Int × Int × Int, (0 ≤ p.1 ∧ p.1 ≤ 255 ∧ 0 ≤ p.2.1 ∧ p.2.1 ≤ 255 ∧ 0 ≤ p.2.2 ∧ p.2.2 ≤ 255) ∧ W.cell? (y.add (i * 3)) = some (.int .u8 p.1) ∧ W.cell? ((y.add (i * 3)).add 1) = some (.int .u8 p.2.1) ∧ W.cell? ((y.add (i * 3)).add 2) = some (.int .u8 p.2.2) := fun i hi => by
      obtain ⟨cs, h1, h2⟩ := hx i (by omega)
      rw [hc2] at h1
      obtain ⟨y0, y1, y2, n, _, hlen, g0, g1, g2⟩ := Go.Deep.trod_struct3 Tryz.underlying103 h2
      rw [hc2] at hlen
      match cs, hlen with
      | [u, v, t], _ =>
        obtain ⟨p, ep, _, wp⟩ := DataW.trod_int Tryz.underlying5 g0
        obtain ⟨q, eq, _, wq⟩ := DataW.trod_int Tryz.underlying5 g1
        obtain ⟨r, er, _, wr⟩ := DataW.trod_int Tryz.underlying5 g2
        have ep : [u] = [Value.int .u8 p] := ep
        have eq : [v] = [Value.int .u8 q] := eq
        have er : [t] = [Value.int .u8 r] := er
        cases ep; cases eq; cases er
        have bp := bounds_u8 wp
        have bq := bounds_u8 wq
        have br := bounds_u8 wr
        have hs := World.cells?_some h1
        exact ⟨(p, q, r), ⟨bp.1, bp.2, bq.1, bq.2, br.1, br.2⟩, hs.2.2 0 (by decide), hs.2.2 1 (by decide), hs.2.2 2 (by decide)⟩
    obtain ⟨b, o, s⟩ := y
    by_cases h0 : len = 0
    · exact ⟨fun _ => (0, 0, 0), by omega, fun i hi => by omega, ⟨fun i hi => by omega⟩⟩
    have hs : s = none := by
      obtain ⟨p, _, h1, _⟩ := each 0 (by omega)
      have e0 : (⟨b, o, s⟩ : Addr).add (0 * 3) = ⟨b, o, s⟩ := rfl
      rw [e0] at h1
      unfold World.cell? at h1
      split at h1
      · cases s with
        | none => rfl
        | some q => simp at h1
      · cases h1
    subst hs
    refine ⟨fun i => if hi : i < len then (each i hi).choose else (0, 0, 0), by omega, fun i hi => ?_, ⟨fun i hi => ⟨b, o, rfl, rfl, fun j hj => ?_⟩⟩⟩
    · simp only [dif_pos hi]
      exact (each i hi).choose_spec.1
    · obtain ⟨_, h1, h2, h3⟩ := (each i hi).choose_spec
      simp only [dif_pos hi]
      match j, hj with
      | 0, _ => exact (congrArg W.cell? (add_eq b o (i * 3))).symm.trans h1
      | 1, _ => exact ((congrArg (fun a : Addr => W.cell? (a.add 1)) (add_eq b o (i * 3))).trans (congrArg W.cell? (add_eq b (o + i * 3) 1))).symm.trans h2
      | 2, _ => exact ((congrArg (fun a : Addr => W.cell? (a.add 2)) (add_eq b o (i * 3))).trans (congrArg W.cell? (add_eq b (o + i * 3) 2))).symm.trans h3

end Go.Proofs.YtbfheafpecgphaaGreat
