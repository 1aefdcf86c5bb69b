/- Arguments of the laws' functions, opened. Conditions: none. -/
import Derived.Test.YtbhpbnedocdneaaHlp
import Derived.ProofKit
import Derived.OpenShut
import Derived.ChangeOld
import Derived.Below
import Derived.ChangeSlices
import Derived.Deep.Grids
import Derived.Deep.Strs
set_option linter.unusedSimpArgs false
set_option linter.unusedVariables false
set_option linter.unnecessarySimpa false
set_option linter.unusedSectionVars false
namespace Go.Proofs.Ytbhpbnedocdneaa
set_option linter.unusedSimpArgs false
set_option linter.unusedVariables false
open Go
theorem Try.ownKnobs : ownKnob Try.prog.godebug = none := by kernel_rfl
theorem Try.laidOut : laidOutB Try.prog = true := by kernel_rfl
theorem law_of {P : Program} {f : FuncId} {vs : Array Value} {W : World} (h : ∀ w, Holds W [old W] w → Calls P f vs w (PureR W [old W] (.bool true))) :
    Calls P f vs W (fun e w' => e = .returned (.bool true) ∧ RowKit.Below W.heap.size W w') := (h W (holds_old W)).mono fun _ _ ⟨h1, h2⟩ => ⟨h1, h2.oldb⟩
theorem arg_sl_u64 {H : Type} {enc : TypeId × Value → H} {W : World} {base : Nat} {held : Bool} {a : Option Addr} {len cap : Nat} {x : DataW H × List MemPlace}
    (h : ∃ fuel, DataW.trod enc Try.prog W base (fun _ => true) held fuel 39 (Value.slice a len cap).cells.toList = some x) : ∃ xs : List Int, len = xs.length ∧ len ≤ 9223372036854775807 ∧ ArgRow W a len 1 (fun i => [w64 (xs.getD i 0)]) := by
  obtain ⟨fuel, hf⟩ := h
  rcases Go.ChangeShapes.open_ints Try.underlying39 Try.underlying46 (by kernel_rfl) hf with ⟨hcs, _⟩ | ⟨y, l, c, zs, hcs, _, hl, hm, hlen, _, hcell, _⟩
  · simp [Value.cells] at hcs
    obtain ⟨rfl, rfl, rfl⟩ := hcs
    exact ⟨[], rfl, by omega, ⟨fun i hi => by omega⟩⟩
  · simp [Value.cells] at hcs
    obtain ⟨rfl, rfl, rfl⟩ := hcs
    unfold maxLen at hm
    simp only [if_true] at hlen
    refine ⟨zs.take len, by rw [List.length_take]; omega, by omega, ⟨fun i hi => ?_⟩⟩
    have h0 := hcell i (by omega)
    obtain ⟨b, o, s⟩ := y
    have hs : s = none := by
      have h1 := hcell 0 (by omega)
      have e0 : (⟨b, o, s⟩ : Addr).add 0 = ⟨b, o, s⟩ := rfl
      rw [e0] at h1
      unfold World.cell? at h1
      split at h1
      · cases s with
        | none => rfl
        | some q => simp at h1
      · cases h1
    subst hs
    refine ⟨b, o, rfl, rfl, fun j hj => ?_⟩
    obtain rfl : j = 0 := by omega
    rw [add_eq] at h0
    have e1 : (List.take len zs)[i]?.getD 0 = zs[i]?.getD 0 := by
      rw [List.getElem?_take_of_lt hi]
    simpa [e1] using h0
theorem slr_u64 {W : World} {H : List HP} [HasOld H W] {a : Option Addr} {cap : Nat} {xs : List Int} (h : ArgRow W a xs.length 1 (fun i => [w64 (xs.getD i 0)])) : SlR W H (.slice a xs.length cap) (xs.map w64) := by
  have h1 := SlR.arg (H := H) (cap := cap) h
  have e : (List.range xs.length).map (fun i => w64 (xs.getD i 0)) = xs.map w64 := by
    apply List.ext_getElem
    · simp
    · intro i h1 h2
      simp at h1
      simp [h1]
  rwa [e] at h1
theorem arg_sl_u16 {H : Type} {enc : TypeId × Value → H} {W : World} {base : Nat} {held : Bool} {a : Option Addr} {len cap : Nat} {x : DataW H × List MemPlace}
    (h : ∃ fuel, DataW.trod enc Try.prog W base (fun _ => true) held fuel 25 (Value.slice a len cap).cells.toList = some x) : ∃ xs : List Int, len = xs.length ∧ len ≤ 9223372036854775807 ∧ ArgRow W a len 1 (fun i => [u16 (xs.getD i 0)]) ∧ ∀ x ∈ xs, 0 ≤ x ∧ x ≤ 65535 := by
  obtain ⟨fuel, hf⟩ := h
  rcases Go.ChangeShapes.open_ints Try.underlying25 Try.underlying22 (by kernel_rfl) hf with ⟨hcs, _⟩ | ⟨y, l, c, zs, hcs, _, hl, hm, hlen, hbd, hcell, hbd2⟩
  · simp [Value.cells] at hcs
    obtain ⟨rfl, rfl, rfl⟩ := hcs
    exact ⟨[], rfl, by omega, ⟨fun i hi => by omega⟩, fun x hx => by simp at hx⟩
  · simp [Value.cells] at hcs
    obtain ⟨rfl, rfl, rfl⟩ := hcs
    unfold maxLen at hm
    simp only [if_true] at hlen
    refine ⟨zs.take len, by rw [List.length_take]; omega, by omega, ⟨fun i hi => ?_⟩, fun x hx => bounds_u16 (hbd2 x (List.mem_of_mem_take hx))⟩
    have h0 := hcell i (by omega)
    obtain ⟨b, o, s⟩ := y
    have hs : s = none := by
      have h1 := hcell 0 (by omega)
      have e0 : (⟨b, o, s⟩ : Addr).add 0 = ⟨b, o, s⟩ := rfl
      rw [e0] at h1
      unfold World.cell? at h1
      split at h1
      · cases s with
        | none => rfl
        | some q => simp at h1
      · cases h1
    subst hs
    refine ⟨b, o, rfl, rfl, fun j hj => ?_⟩
    obtain rfl : j = 0 := by omega
    rw [add_eq] at h0
    have e1 : (List.take len zs)[i]?.getD 0 = zs[i]?.getD 0 := by
      rw [List.getElem?_take_of_lt hi]
    simpa [e1] using h0
theorem slr_u16 {W : World} {H : List HP} [HasOld H W] {a : Option Addr} {cap : Nat} {xs : List Int} (h : ArgRow W a xs.length 1 (fun i => [u16 (xs.getD i 0)])) : SlR W H (.slice a xs.length cap) (xs.map u16) := by
  have h1 := SlR.arg (H := H) (cap := cap) h
  have e : (List.range xs.length).map (fun i => u16 (xs.getD i 0)) = xs.map u16 := by
    apply List.ext_getElem
    · simp
    · intro i h1 h2
      simp at h1
      simp [h1]
  rwa [e] at h1
set_option maxRecDepth 100000 in
theorem arg_sl_ar2_u16 {H : Type} {enc : TypeId × Value → H} {W : World} {base : Nat} {held : Bool} {a : Option Addr} {len cap : Nat} {x : DataW H × List MemPlace}
    (h : ∃ fuel, DataW.trod enc Try.prog W base (fun _ => true) held fuel 60 (Value.slice a len cap).cells.toList = some x) : ∃ f g : Nat → Int, len ≤ 9223372036854775807 ∧ (∀ i, i < len → 0 ≤ f i ∧ f i ≤ 65535 ∧ 0 ≤ g i ∧ g i ≤ 65535) ∧ ArgRow W a len 2 (fun i => [u16 (f i), u16 (g i)]) := by
  obtain ⟨fuel, hf⟩ := h
  rcases Go.Deep.open_slice Try.underlying60 hf with ⟨hcs, _⟩ | ⟨y, l, c, m, n, D, Pl, hcs, _, hl, hm, hmm, _, hx⟩
  · simp [Value.cells] at hcs
    obtain ⟨rfl, rfl, rfl⟩ := hcs
    exact ⟨fun _ => 0, fun _ => 0, by omega, fun i hi => by omega, ⟨fun i hi => by omega⟩⟩
  · simp [Value.cells] at hcs
    obtain ⟨rfl, rfl, rfl⟩ := hcs
    unfold maxLen at hm
    simp only [if_true] at hmm
    have hc2 : Try.prog.cellsOf 62 = 2 := by kernel_rfl
    have hc1 : Try.prog.cellsOf 22 = 1 := by kernel_rfl
    have each : ∀ i, i < len → ∃ p q : Int, (0 ≤ p ∧ p ≤ 65535 ∧ 0 ≤ q ∧ q ≤ 65535) ∧ W.cell? (y.add (i * 2)) = some (u16 p) ∧ W.cell? ((y.add (i * 2)).add 1) = some (u16 q) := fun i hi => by
      obtain ⟨cs, h1, h2⟩ := hx i (by omega)
      rw [hc2] at h1
      obtain ⟨xs, m2, _, _, hlen, hxl, h3⟩ := DataW.trod_array Try.underlying62 h2
      rw [hc2] at hlen
      match cs, hlen with
      | [u, v], _ =>
        match xs, hxl with
        | [x0, x1], _ =>
          have g0 := h3 0 (by decide)
          have g1 := h3 1 (by decide)
          rw [hc1] at g0 g1
          obtain ⟨p, ep, _, wp⟩ := DataW.trod_int Try.underlying22 (g0.trans rfl)
          obtain ⟨q, eq, _, wq⟩ := DataW.trod_int Try.underlying22 (g1.trans rfl)
          have ep : [u] = [Value.int .u16 p] := ep
          have eq : [v] = [Value.int .u16 q] := eq
          cases ep; cases eq
          have bp := bounds_u16 wp
          have bq := bounds_u16 wq
          have hs := World.cells?_some h1
          refine ⟨p, q, ⟨bp.1, bp.2, bq.1, bq.2⟩, ?_, ?_⟩
          · have := hs.2.2 0 (by decide)
            exact this
          · exact hs.2.2 1 (by decide)
    obtain ⟨b, o, s⟩ := y
    by_cases h0 : len = 0
    · exact ⟨fun _ => 0, fun _ => 0, by omega, fun i hi => by omega, ⟨fun i hi => by omega⟩⟩
    have hs : s = none := by
      obtain ⟨p, q, _, h1, _⟩ := each 0 (by omega)
      have e0 : (⟨b, o, s⟩ : Addr).add (0 * 2) = ⟨b, o, s⟩ := rfl
      rw [e0] at h1
      unfold World.cell? at h1
      split at h1
      · cases s with
        | none => rfl
        | some q => simp at h1
      · cases h1
    subst hs
    refine ⟨fun i => if hi : i < len then (each i hi).choose else 0, fun i => if hi : i < len then (each i hi).choose_spec.choose else 0, by omega, fun i hi => ?_, ⟨fun i hi => ⟨b, o, rfl, rfl, fun j hj => ?_⟩⟩⟩
    · simp only [dif_pos hi]
      exact (each i hi).choose_spec.choose_spec.1
    · obtain ⟨_, h1, h2⟩ := (each i hi).choose_spec.choose_spec
      simp only [dif_pos hi]
      match j, hj with
      | 0, _ => exact (congrArg W.cell? (add_eq b o (i * 2))).symm.trans h1
      | 1, _ => exact ((congrArg (fun a : Addr => W.cell? (a.add 1)) (add_eq b o (i * 2))).trans (congrArg W.cell? (add_eq b (o + i * 2) 1))).symm.trans h2
theorem ev_loadOA {B : World} {σ : Env} {H : List HP} {P : Program} {d : Option Tmp} {ty : TypeId} {p : String} {af : Array Edge} {g : Option (Nat × Bool)} {t : TypeId} {x : Operand} {b off m : Nat} {cs : List Value} (ht : ∀ w, (isAgg t).run P w = .ok true w) (hs : ∀ w, (sizeOf t).run P w = .ok m w) (hx : evO σ x = some (.pointer (some ⟨b, off, none⟩))) [HasOld H B] (hl : cs.length = m) (hv : ∀ i, i < cs.length → B.cell? ⟨b, off + i, none⟩ = cs[i]?) : Evs P B σ H ⟨d, .load t x, ty, p, af, g⟩ (.agg cs.toArray) := by
  intro a w kn hh
  have h1 : ∀ i, i < cs.length → w.cell? ⟨b, off + i, none⟩ = cs[i]? := fun i hi => by
    have h2 := hv i hi
    rw [List.getElem?_eq_getElem hi] at h2 ⊢
    exact hh.oldcell h2
  have h3 := run_loadCellsS (P := P) h1 m 0 #[] (by omega)
  rw [List.drop_zero, List.take_of_length_le (by omega)] at h3
  simp [execOp, kn.eval hx, Instr.loadAt, Instr.sureAddr, loadVar, ht, hs, loadCells, h3, Sem.run]
theorem some_u64 {W : World} {a : Option Addr} {n : Nat} {z : Nat → List Value} (h : ArgRow W a n 1 z) : ∀ i, i < n → ∃ b off, a = some ⟨b, off, none⟩ := fun i hi => by
  obtain ⟨b, o, e, _⟩ := h.cell i hi
  exact ⟨b, o, e⟩
open Go.ChangeShapes Go.WideShapes in
set_option maxRecDepth 100000 in
theorem arg_st_u16_u16_u16 {H : Type} {enc : TypeId × Value → H} {W : World} {r : Reach} {base b1 : Nat} {held : Bool} {sp : Nat → Bool} {v : Value} {x : DataW H × List MemPlace}
    (hv : Value.okWide Try.prog W r b1 24 v) (h : ∃ fuel, DataW.trod enc Try.prog W base sp held fuel 24 v.cells.toList = some x) :
    ∃ z : Int × Int × Int, v = .agg #[u16 z.1, u16 z.2.1, u16 z.2.2] ∧ (Lit.int .u16 z.1).wf = true ∧ (Lit.int .u16 z.2.1).wf = true ∧ (Lit.int .u16 z.2.2).wf = true := by
  obtain ⟨fuel, hf⟩ := h
  obtain ⟨cs, rfl, hsz⟩ := okWide_struct Try.underlying24 hv
  have hsz : cs.size = 3 := hsz
  obtain ⟨y0, y1, y2, n, _, _, h0, h1, h2⟩ := Go.Deep.trod_struct3 Try.underlying24 hf
  obtain ⟨a, e0, _, w0⟩ := DataW.trod_int Try.underlying22 h0
  obtain ⟨b, e1, _, w1⟩ := DataW.trod_int Try.underlying22 h1
  obtain ⟨c, e2, _, w2⟩ := DataW.trod_int Try.underlying22 h2
  refine ⟨(a, b, c), ?_, w0, w1, w2⟩
  obtain ⟨l⟩ := cs
  match l, hsz with
  | [p, q, s], _ =>
    have e0 : [p] = [Value.int .u16 a] := e0
    have e1 : [q] = [Value.int .u16 b] := e1
    have e2 : [s] = [Value.int .u16 c] := e2
    cases e0; cases e1; cases e2; rfl


set_option maxRecDepth 100000 in
theorem arg_sl_st_u8_u16_u64 {H : Type} {enc : TypeId × Value → H} {W : World} {base : Nat} {held : Bool} {a : Option Addr} {len cap : Nat} {x : DataW H × List MemPlace}
    (h : ∃ fuel, DataW.trod enc Try.prog W base (fun _ => true) held fuel 54 (Value.slice a len cap).cells.toList = some x) : ∃ f : Nat → Int × Int × Int, len ≤ 9223372036854775807 ∧ (∀ i, i < len → 0 ≤ (f i).1 ∧ (f i).1 ≤ 255 ∧ 0 ≤ (f i).2.1 ∧ (f i).2.1 ≤ 65535) ∧ ArgRow W a len 3 (fun i => [.int .u8 (f i).1, u16 (f i).2.1, w64 (f i).2.2]) := by
  obtain ⟨fuel, hf⟩ := h
  rcases Go.Deep.open_slice Try.underlying54 hf with ⟨hcs, _⟩ | ⟨y, l, c, m, n, D, Pl, hcs, _, hl, hm, hmm, _, hx⟩
  · simp [Value.cells] at hcs
    obtain ⟨rfl, rfl, rfl⟩ := hcs
    exact ⟨fun _ => (0, 0, 0), by omega, fun i hi => by omega, ⟨fun i hi => by omega⟩⟩
  · simp [Value.cells] at hcs
    obtain ⟨rfl, rfl, rfl⟩ := hcs
    unfold maxLen at hm
    simp only [if_true] at hmm
    have hc2 : Try.prog.cellsOf 56 = 3 := by kernel_rfl
    have each : ∀ i, i < len → ∃ p : Int × Int × Int, (0 ≤ p.1 ∧ p.1 ≤ 255 ∧ 0 ≤ p.2.1 ∧ p.2.1 ≤ 65535) ∧ W.cell? (y.add (i * 3)) = some (.int .u8 p.1) ∧ W.cell? ((y.add (i * 3)).add 1) = some (u16 p.2.1) ∧ W.cell? ((y.add (i * 3)).add 2) = some (w64 p.2.2) := fun i hi => by
      obtain ⟨cs, h1, h2⟩ := hx i (by omega)
      rw [hc2] at h1
      obtain ⟨y0, y1, y2, n, _, hlen, g0, g1, g2⟩ := Go.Deep.trod_struct3 Try.underlying56 h2
      rw [hc2] at hlen
      match cs, hlen with
      | [u, v, t], _ =>
        obtain ⟨p, ep, _, wp⟩ := DataW.trod_int Try.underlying5 g0
        obtain ⟨q, eq, _, wq⟩ := DataW.trod_int Try.underlying22 g1
        obtain ⟨r, er, _, wr⟩ := DataW.trod_int Try.underlying46 g2
        have ep : [u] = [Value.int .u8 p] := ep
        have eq : [v] = [Value.int .u16 q] := eq
        have er : [t] = [Value.int .u64 r] := er
        cases ep; cases eq; cases er
        have bp := bounds_u8 wp
        have bq := bounds_u16 wq
        have hs := World.cells?_some h1
        exact ⟨(p, q, r), ⟨bp.1, bp.2, bq.1, bq.2⟩, hs.2.2 0 (by decide), hs.2.2 1 (by decide), hs.2.2 2 (by decide)⟩
    obtain ⟨b, o, s⟩ := y
    by_cases h0 : len = 0
    · exact ⟨fun _ => (0, 0, 0), by omega, fun i hi => by omega, ⟨fun i hi => by omega⟩⟩
    have hs : s = none := by
      obtain ⟨p, _, h1, _⟩ := each 0 (by omega)
      have e0 : (⟨b, o, s⟩ : Addr).add (0 * 3) = ⟨b, o, s⟩ := rfl
      rw [e0] at h1
      unfold World.cell? at h1
      split at h1
      · cases s with
        | none => rfl
        | some q => simp at h1
      · cases h1
    subst hs
    refine ⟨fun i => if hi : i < len then (each i hi).choose else (0, 0, 0), by omega, fun i hi => ?_, ⟨fun i hi => ⟨b, o, rfl, rfl, fun j hj => ?_⟩⟩⟩
    · simp only [dif_pos hi]
      exact (each i hi).choose_spec.1
    · obtain ⟨_, h1, h2, h3⟩ := (each i hi).choose_spec
      simp only [dif_pos hi]
      match j, hj with
      | 0, _ => exact (congrArg W.cell? (add_eq b o (i * 3))).symm.trans h1
      | 1, _ => exact ((congrArg (fun a : Addr => W.cell? (a.add 1)) (add_eq b o (i * 3))).trans (congrArg W.cell? (add_eq b (o + i * 3) 1))).symm.trans h2
      | 2, _ => exact ((congrArg (fun a : Addr => W.cell? (a.add 2)) (add_eq b o (i * 3))).trans (congrArg W.cell? (add_eq b (o + i * 3) 2))).symm.trans h3
end Go.Proofs.Ytbhpbnedocdneaa

