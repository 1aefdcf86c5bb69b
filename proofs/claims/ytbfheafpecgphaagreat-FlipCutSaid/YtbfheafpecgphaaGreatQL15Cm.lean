/- Part of the texts beneath a law: what its proof names. Conditions: none. -/
import Derived.Test.YtbfheafpecgphaaGreatQL15Cl
import Derived.ProofKit
import Derived.OpenShut
import Derived.ChangeOld
import Derived.Below
import Derived.ChangeSlices
import Derived.Deep.Grids
import Derived.Deep.Strs
import Derived.ChangeSame
set_option linter.unusedSimpArgs false
set_option linter.unusedVariables false
set_option linter.unnecessarySimpa false
set_option linter.unusedSectionVars false
namespace Go.Proofs.YtbfheafpecgphaaGreat
open Go
theorem Tryz.ownKnobs : ownKnob Tryz.prog.godebug = none := by kernel_rfl
theorem Tryz.laidOut : laidOutB Tryz.prog = true := by kernel_rfl
theorem law_of {P : Program} {f : FuncId} {vs : Array Value} {W : World} (h : ∀ w, Holds W [old W] w → Calls P f vs w (PureR W [old W] (.bool true))) :
    Calls P f vs W (fun e w' => e = .returned (.bool true) ∧ RowKit.Below W.heap.size W w') := (h W (holds_old W)).mono fun _ _ ⟨h1, h2⟩ => ⟨h1, h2.oldb⟩
theorem arg_sl_u16 {H : Type} {enc : TypeId × Value → H} {W : World} {base : Nat} {held : Bool} {a : Option Addr} {len cap : Nat} {x : DataW H × List MemPlace}
    (h : ∃ fuel, DataW.trod enc Tryz.prog W base (fun _ => true) held fuel 26 (Value.slice a len cap).cells.toList = some x) : ∃ xs : List Int, len = xs.length ∧ len ≤ 9223372036854775807 ∧ ArgRow W a len 1 (fun i => [u16 (xs.getD i 0)]) ∧ ∀ x ∈ xs, 0 ≤ x ∧ x ≤ 65535 := by
  obtain ⟨fuel, hf⟩ := h
  rcases Go.ChangeShapes.open_ints Tryz.underlying26 Tryz.underlying22 (by kernel_rfl) hf with ⟨hcs, _⟩ | ⟨y, l, c, zs, hcs, _, hl, hm, hlen, hbd, hcell, hbd2⟩
  · simp [Value.cells] at hcs
    obtain ⟨rfl, rfl, rfl⟩ := hcs
    exact ⟨[], rfl, by omega, ⟨fun i hi => by omega⟩, fun x hx => by simp at hx⟩
  · simp [Value.cells] at hcs
    obtain ⟨rfl, rfl, rfl⟩ := hcs
    unfold maxLen at hm
    simp only [if_true] at hlen
    refine ⟨zs.take len, by rw [List.length_take]; omega, by omega, ⟨fun i hi => ?_⟩, fun x hx => bounds_u16 (hbd2 x (List.mem_of_mem_take hx))⟩
    have h0 := hcell i (by omega)
    obtain ⟨b, o, s⟩ := y
    have hs : s = none := by
      have h1 := hcell 0 (by omega)
      have e0 : (⟨b, o, s⟩ : Addr).add 0 = ⟨b, o, s⟩ := rfl
      rw [e0] at h1
      unfold World.cell? at h1
      split at h1
      · cases s with
        | none => rfl
        | some q => simp at h1
      · cases h1
    subst hs
    refine ⟨b, o, rfl, rfl, fun j hj => ?_⟩
    obtain rfl : j = 0 := by omega
    rw [add_eq] at h0
    have e1 : (List.take len zs)[i]?.getD 0 = zs[i]?.getD 0 := by
      rw [List.getElem?_take_of_lt hi]
    simpa [e1] using h0
theorem slr_u16 {W : World} {H : List HP} [HasOld H W] {a : Option Addr} {cap : Nat} {xs : List Int} (h : ArgRow W a xs.length 1 (fun i => [u16 (xs.getD i 0)])) : SlR W H (.slice a xs.length cap) (xs.map u16) := by
  have h1 := SlR.arg (H := H) (cap := cap) h
  have e : (List.range xs.length).map (fun i => u16 (xs.getD i 0)) = xs.map u16 := by
    apply List.ext_getElem
    · simp
    · intro i h1 h2
      simp at h1
      simp [h1]
  rwa [e] at h1
open Go.ChangeShapes Go.WideShapes in
set_option maxRecDepth 100000 in
theorem arg_st_u16_u16_u16 {H : Type} {enc : TypeId × Value → H} {W : World} {r : Reach} {base b1 : Nat} {held : Bool} {sp : Nat → Bool} {v : Value} {x : DataW H × List MemPlace}
    (hv : Value.okWide Tryz.prog W r b1 24 v) (h : ∃ fuel, DataW.trod enc Tryz.prog W base sp held fuel 24 v.cells.toList = some x) :
    ∃ z : Int × Int × Int, v = .agg #[u16 z.1, u16 z.2.1, u16 z.2.2] ∧ (Lit.int .u16 z.1).wf = true ∧ (Lit.int .u16 z.2.1).wf = true ∧ (Lit.int .u16 z.2.2).wf = true := by
  obtain ⟨fuel, hf⟩ := h
  obtain ⟨cs, rfl, hsz⟩ := okWide_struct Tryz.underlying24 hv
  have hsz : cs.size = 3 := hsz
  obtain ⟨y0, y1, y2, n, _, _, h0, h1, h2⟩ := Go.Deep.trod_struct3 Tryz.underlying24 hf
  obtain ⟨a, e0, _, w0⟩ := DataW.trod_int Tryz.underlying22 h0
  obtain ⟨b, e1, _, w1⟩ := DataW.trod_int Tryz.underlying22 h1
  obtain ⟨c, e2, _, w2⟩ := DataW.trod_int Tryz.underlying22 h2
  refine ⟨(a, b, c), ?_, w0, w1, w2⟩
  obtain ⟨l⟩ := cs
  match l, hsz with
  | [p, q, s], _ =>
    have e0 : [p] = [Value.int .u16 a] := e0
    have e1 : [q] = [Value.int .u16 b] := e1
    have e2 : [s] = [Value.int .u16 c] := e2
    cases e0; cases e1; cases e2; rfl
end Go.Proofs.YtbfheafpecgphaaGreat
namespace Go.Proofs.YtbfheafpecgphaaGreat
open Go
theorem some_u8 {W : World} {a : Option Addr} {n : Nat} {f : Nat → Value} (h : ArgRow W a n 1 (fun i => [f i])) : ∀ i, i < n → ∃ b off, a = some ⟨b, off, none⟩ := fun i hi => by
  obtain ⟨b, o, e, _⟩ := h.cell i hi; exact ⟨b, o, e⟩
end Go.Proofs.YtbfheafpecgphaaGreat
namespace Go.Proofs.YtbfheafpecgphaaGreat
open Go
set_option maxRecDepth 100000 in
theorem arg_sl_st_u8_u8 {H : Type} {enc : TypeId × Value → H} {W : World} {base : Nat} {held : Bool} {a : Option Addr} {len cap : Nat} {x : DataW H × List MemPlace}
    (h : ∃ fuel, DataW.trod enc Tryz.prog W base (fun _ => true) held fuel 25 (Value.slice a len cap).cells.toList = some x) : ∃ f : Nat → Int × Int, len ≤ 9223372036854775807 ∧ (∀ i, i < len → 0 ≤ (f i).1 ∧ (f i).1 ≤ 255 ∧ 0 ≤ (f i).2 ∧ (f i).2 ≤ 255) ∧ ArgRow W a len 2 (fun i => [.int .u8 (f i).1, .int .u8 (f i).2]) := by
  obtain ⟨fuel, hf⟩ := h
  rcases Go.Deep.open_slice Tryz.underlying25 hf with ⟨hcs, _⟩ | ⟨y, l, c, m, n, D, Pl, hcs, _, hl, hm, hmm, _, hx⟩
  · simp [Value.cells] at hcs
    obtain ⟨rfl, rfl, rfl⟩ := hcs
    exact ⟨fun _ => (0, 0), by omega, fun i hi => by omega, ⟨fun i hi => by omega⟩⟩
  · simp [Value.cells] at hcs
    obtain ⟨rfl, rfl, rfl⟩ := hcs
    unfold maxLen at hm
    simp only [if_true] at hmm
    have hc2 : Tryz.prog.cellsOf 107 = 2 := by kernel_rfl
    have each : ∀ i, i < len → ∃ p : Int × Int, (0 ≤ p.1 ∧ p.1 ≤ 255 ∧ 0 ≤ p.2 ∧ p.2 ≤ 255) ∧ W.cell? (y.add (i * 2)) = some (.int .u8 p.1) ∧ W.cell? ((y.add (i * 2)).add 1) = some (.int .u8 p.2) := fun i hi => by
      obtain ⟨cs, h1, h2⟩ := hx i (by omega)
      rw [hc2] at h1
      obtain ⟨y0, y1, n, _, hlen, g0, g1⟩ := Go.ChangeShapes.trod_struct2 Tryz.underlying107 h2
      rw [hc2] at hlen
      match cs, hlen with
      | [u, v], _ =>
        obtain ⟨p, ep, _, wp⟩ := DataW.trod_int Tryz.underlying5 g0
        obtain ⟨q, eq, _, wq⟩ := DataW.trod_int Tryz.underlying5 g1
        have ep : [u] = [Value.int .u8 p] := ep
        have eq : [v] = [Value.int .u8 q] := eq
        cases ep; cases eq
        have bp := bounds_u8 wp
        have bq := bounds_u8 wq
        have hs := World.cells?_some h1
        exact ⟨(p, q), ⟨bp.1, bp.2, bq.1, bq.2⟩, hs.2.2 0 (by decide), hs.2.2 1 (by decide)⟩
    obtain ⟨b, o, s⟩ := y
    by_cases h0 : len = 0
    · exact ⟨fun _ => (0, 0), by omega, fun i hi => by omega, ⟨fun i hi => by omega⟩⟩
    have hs : s = none := by
      obtain ⟨p, _, h1, _⟩ := each 0 (by omega)
      have e0 : (⟨b, o, s⟩ : Addr).add (0 * 2) = ⟨b, o, s⟩ := rfl
      rw [e0] at h1
      unfold World.cell? at h1
      split at h1
      · cases s with
        | none => rfl
        | some q => simp at h1
      · cases h1
    subst hs
    refine ⟨fun i => if hi : i < len then (each i hi).choose else (0, 0), by omega, fun i hi => ?_, ⟨fun i hi => ⟨b, o, rfl, rfl, fun j hj => ?_⟩⟩⟩
    · simp only [dif_pos hi]
      exact (each i hi).choose_spec.1
    · obtain ⟨_, h1, h2⟩ := (each i hi).choose_spec
      simp only [dif_pos hi]
      match j, hj with
      | 0, _ => exact (congrArg W.cell? (add_eq b o (i * 2))).symm.trans h1
      | 1, _ => exact ((congrArg (fun a : Addr => W.cell? (a.add 1)) (add_eq b o (i * 2))).trans (congrArg W.cell? (add_eq b (o + i * 2) 1))).symm.trans h2
end Go.Proofs.YtbfheafpecgphaaGreat
namespace Go.Proofs.YtbfheafpecgphaaGreat
open Go
structure HI (c : Cfg) (N bd : Nat) (S : SecS) (s : Dev) (b : Blk) (L : List Int) : Prop where
  sk : SK c N bd S s
  bl : s.block c = (b, 0)
  heap : HeapW c b s.load L
theorem sln_arg2 {W : World} {H : List HP} [HasOld H W] {a : Option Addr} {n cap : Nat} {f : Nat → Int × Int} (h : ArgRow W a n 2 (fun i => [.int .u8 (f i).1, .int .u8 (f i).2])) : SlN W H (.slice a ((List.range n).map f).length cap) 2 (((List.range n).map f).map fun h => [u8 h.1, u8 h.2]) := by
  have h1 := SlN.arg (H := H) (cap := cap) h
  rw [List.length_map, List.length_range, List.map_map]
  exact h1
theorem was_load {s t : Dev} {N : Nat} (hn : s.n = N) (ht : t.n = N) (h : ∀ i, i < N → t.now i = s.now i) : t.load = s.load := by
  funext j
  unfold Dev.load Dev.has
  rw [hn, ht]
  split
  · rename_i hj
    simp only [Bool.and_eq_true, decide_eq_true_eq] at hj
    exact h _ (by omega)
  · rfl
theorem SlR.tab {B : World} {H : List HP} {n b cap : Nat} {f : Nat → Value} {rest : List Value} {T : TypeId} {U : List Value → List HP} [RowU H b (tab n f ++ rest) T U] : SlR B H (.slice (some ⟨b, 0, none⟩) n cap) (tab n f) :=
  SlR.row (cs := Proofs.YtbfheafpecgphaaGreat.tab n f ++ rest) (T := T) (U := U) (by rw [List.drop_zero, List.take_append_of_le_length (by rw [tab_len]; omega), List.take_of_length_le (by rw [tab_len]; omega)]) (by rw [tab_len])
theorem tab_gd {n i : Nat} {f : Nat → Int} (h : i < n) : (tab n f).getD i 0 = f i := by
  have e : tab n f = (List.range n).map f := rfl
  rw [e, List.getD_eq_getElem?_getD]
  simp [h]
theorem was_dev {c : Cfg} {N : Nat} (hN : (N : Int) = c.words) {s t : Dev} (hn : s.n = N) (hu : U64 s) {pa : Nat} (h : (⟨pa, ⟨-1, 0⟩, ((tab s.n s.now).length + 7) / 8 * 8, fun i => (tab s.n s.now).getD i 0, fun i => (tab s.n s.now).getD i 0, fun _ => none⟩ : Dev) = t) : t.load = s.load ∧ U64 t := by
  have h8 : c.words % 8 = 0 := lo_line
  have hb : ∀ i, 0 ≤ (tab s.n s.now).getD i 0 ∧ (tab s.n s.now).getD i 0 < 18446744073709551616 := fun i => by
    by_cases hi : i < s.n
    · rw [tab_gd hi]; exact hu i
    · rw [List.getD_eq_getElem?_getD, List.getElem?_eq_none (by rw [tab_len]; omega)]; decide
  subst h
  refine ⟨was_load hn (by show ((tab s.n s.now).length + 7) / 8 * 8 = N; rw [tab_len, hn]; omega) fun i hi => tab_gd (by omega), hb⟩
end Go.Proofs.YtbfheafpecgphaaGreat
namespace Go.Proofs.YtbfheafpecgphaaGreat
open Go
abbrev PrR (R : List (Int × Int)) (v w : Int) : Prop := (v = 0 ∧ w = 0) ∨ (v, w) ∈ R
structure IsoR (c : Cfg) (a : Blk) (s : Dev) (b : Blk) (t : Dev) (R : List (Int × Int)) : Prop where
  nz : ∀ p ∈ R, (1 ≤ p.1 ∧ p.1 < 20000) ∧ (1 ≤ p.2 ∧ p.2 < 20000)
  i1 : ∀ p ∈ R, ∀ q ∈ R, p.1 = q.1 → p = q
  i2 : ∀ p ∈ R, ∀ q ∈ R, p.2 = q.2 → p = q
  of : ∀ p ∈ R, ∃ w r, s.objOf c a p.1 = ((w, r, p.1), 0) ∧ t.objOf c b p.2 = ((w, r, p.2), 0) ∧ (0 ≤ w ∧ w ≤ 64) ∧ (0 ≤ r ∧ r ≤ w) ∧ ∀ i : Nat, (i : Int) < w → if (i : Int) < r then PrR R (s.load (p.1 + 1 + i)) (t.load (p.2 + 1 + i)) else s.load (p.1 + 1 + i) = t.load (p.2 + 1 + i)
theorem nodup_leP {α : Type} [BEq α] [LawfulBEq α] : ∀ {d l : List α}, d.Nodup → (∀ x ∈ d, x ∈ l) → d.length ≤ l.length
  | [], _, _, _ => Nat.zero_le _
  | x :: d, l, hn, h => by
    rw [List.nodup_cons] at hn
    have h1 := h x (List.mem_cons_self ..)
    have h2 := nodup_leP (l := l.erase x) hn.2 (fun y hy => (List.mem_erase_of_ne (by intro e; subst e; exact hn.1 hy)).2 (h y (List.mem_cons_of_mem _ hy)))
    have h3 := List.length_erase_of_mem h1
    have h4 := List.length_pos_of_mem h1
    simp only [List.length_cons]; omega
abbrev encP (p : Int × Int) : List Value := [w64 p.1, w64 p.2]
theorem encP_w : EncW 2 encP := ⟨fun _ => rfl, fun _ => rfl⟩
theorem mval_w (o : Option Int) : mval w64 (w64 0) o = w64 (o.getD 0) := by cases o <;> rfl
theorem smget_in {k v : Int} : ∀ {l : List (Int × Int)}, mget l k = some v → (k, v) ∈ l
  | [], h => by cases h
  | q :: l, h => by
    unfold mget at h
    split at h
    · rename_i e; cases h; subst e; exact List.mem_cons_self ..
    · exact List.mem_cons_of_mem _ (smget_in h)
theorem smget_of {k v : Int} : ∀ {l : List (Int × Int)}, (k, v) ∈ l → ∃ u, mget l k = some u
  | [], h => by cases h
  | q :: l, h => by
    unfold mget
    by_cases e : q.1 = k
    · rw [if_pos e]; exact ⟨_, rfl⟩
    · rw [if_neg e]
      rcases List.mem_cons.1 h with rfl | h
      · exact absurd rfl e
      · exact smget_of h
theorem same_to {R M : List (Int × Int)} (hi : ∀ p ∈ R, ∀ q ∈ R, p.1 = q.1 → p = q) (hM : ∀ p ∈ M, p ∈ R) {p : Int × Int} (hp : p ∈ R) {x : Int} (h : mget M p.1 = some x) : x = p.2 ∧ p ∈ M := by
  have h1 := smget_in h
  have h2 := hi _ (hM _ h1) p hp rfl
  exact ⟨congrArg Prod.snd h2, h2 ▸ h1⟩
theorem same_swap {M : List (Int × Int)} {p : Int × Int} : (p.2, p.1) ∈ M.map Prod.swap ↔ p ∈ M := by
  rw [List.mem_map]
  exact ⟨fun ⟨q, hq, e⟩ => by cases q; cases p; cases e; exact hq, fun h => ⟨p, h, rfl⟩⟩
theorem same_from {R M : List (Int × Int)} (hi : ∀ p ∈ R, ∀ q ∈ R, p.2 = q.2 → p = q) (hM : ∀ p ∈ M, p ∈ R) {p : Int × Int} (hp : p ∈ R) {x : Int} (h : mget (M.map Prod.swap) p.2 = some x) : x = p.1 ∧ p ∈ M := by
  have h1 := smget_in h
  have h3 : ((x, p.2) : Int × Int) ∈ M := (same_swap (p := (x, p.2))).1 h1
  have h2 := hi _ (hM _ h3) p hp rfl
  exact ⟨congrArg Prod.fst h2, h2 ▸ h3⟩
theorem same_ok (B : World) (Fr : List HP) (bd be : Nat) (s t : Dev) (c : Cfg) (hc : CfgW c) (a b : Blk) (sva svb : Value) (hba : BlkW c a) (hbb : BlkW c b) (hsva : cell1 sva = true) (hsvb : cell1 svb = true) (hus : U64 s) (hut : U64 t) (R : List (Int × Int)) (hR : IsoR c a s b t R) (hRl : R.length ≤ 1000000) (vs ws : List Int) (hvw : vs.length = ws.length) (hvl : vs.length ≤ 1000000) (hpr : ∀ i (h : i < vs.length), PrR R vs[i] (ws[i]'(by omega))) (qv qw : Option Addr) (cv cw : Nat) (hqv : ∀ i, i < vs.length → ∃ b off, qv = some ⟨b, off, none⟩) (hqw : ∀ i, i < ws.length → ∃ b off, qw = some ⟨b, off, none⟩) (hv : SlR B Fr (.slice qv vs.length cv) (vs.map w64)) (hw : SlR B Fr (.slice qw ws.length cw) (ws.map w64)) :
    ∀ w, Holds B (DevA bd s :: DevA be t :: Fr) w → Calls Tryz.prog 28 [ptr bd, cfgV c, blkV a sva, .slice qv vs.length cv, ptr be, blkV b svb, .slice qw ws.length cw].toArray w (PureR B (DevA bd s :: DevA be t :: Fr) (.bool true)) := by
  refine fn_enter Tryz.func28 rfl Tryz.ntmps28 rfl ?_; refine g_seq ?_; refine g_region ?_; refine p_chg rfl (ch_boxA rfl) .free rfl rfl ?_
  rintro _ _ ⟨b8, rfl, rfl⟩
  refine p_chg rfl (ch_boxA rfl) .free rfl rfl ?_
  rintro _ _ ⟨b9, rfl, rfl⟩
  refine p_chg rfl (ch_boxA rfl) .free rfl rfl ?_
  rintro _ _ ⟨b12, rfl, rfl⟩
  refine kPa rfl rfl ?_; refine p_nil ?_; refine g_seq ?_; refine g_seq ?_; refine g_region ?_; refine kPm rfl rfl ?_; refine kPv (ev_len rfl Tryz.runUnderlying31 ⟨_, rfl⟩ rfl) rfl ?_; refine kPm rfl rfl ?_; refine kPv (ev_len rfl Tryz.runUnderlying31 ⟨_, rfl⟩ rfl) rfl ?_; refine kPv (ev_cmp rfl rfl rfl) rfl ?_; refine p_nil ?_; refine go_sub (σ' := [(35, _), (14, _), (12, _), (9, _), (8, _), (0, _), (3, _), (4, _), (6, _)]) ⟨rfl, rfl, rfl, rfl, rfl, rfl, rfl, rfl, rfl, trivial⟩ ?_
  refine g_iff rfl ((by rw [hvw]; simp)) ?_
  refine g_skip ?_; refine g_seq ?_; refine g_region ?_; refine p_chg rfl (ch_makeMap .u64 w64) .free rfl rfl ?_
  rintro _ _ ⟨m1, rfl, rfl⟩
  refine p_chg rfl (ch_makeMap .u64 w64) .free rfl rfl ?_
  rintro _ _ ⟨m2, rfl, rfl⟩
  refine kPa rfl rfl ?_; refine kPa rfl rfl ?_; refine p_nil ?_; refine g_seq ?_; refine g_region ?_; refine kPa rfl rfl ?_; refine p_nil ?_; refine g_seq ?_; refine g_seq ?_; refine go_conv (fun w hh => vecg_nil (α := Int × Int) (T := 136) (m := 2) (enc := encP) hh) ?_; refine g_region ?_; refine kPm rfl rfl ?_; refine kPv (ev_len rfl Tryz.runUnderlying31 ⟨_, rfl⟩ rfl) rfl ?_; refine kPm rfl rfl ?_; refine p_nil ?_; refine g_block ?_
  refine g_loopk (ι := Nat × List (Int × Int) × Value) [39, 16, 15, 14, 12, 9, 8, 0, 3, 4, 6] (fun (k, TD, tv) => (k ≤ vs.length) ∧ (∀ x ∈ TD, PrR R x.1 x.2) ∧ (TD.length ≤ k) ∧ (cell1 tv = true)) (fun (k, TD, tv) => [(40, i64 k), (17, tv)]) (fun (k, TD, tv) => VecG 136 2 encP 0 (tv, TD) :: mapA .u64 w64 m1 [] :: mapA .u64 w64 m2 [] :: row b8 [i64 c.log, i64 c.roots, i64 c.space] 30 :: row b9 [i64 a.act, i64 a.used, sva] 33 :: row b12 [i64 b.act, i64 b.used, svb] 33 :: DevA bd s :: DevA be t :: Fr) (fun (k, TD, tv) => vs.length - k) (0, [], .slice none 0 0) (⟨Nat.zero_le _, fun _ h => (by cases h), Nat.zero_le _, rfl⟩) (fun a w st => st.to ⟨rfl, rfl, trivial⟩ (fun hh => (hh.pk [0, 1, 0, 2, 1]))) ?_
  rintro ⟨k, TD, tv⟩ ⟨hk0, hT, htl, htv⟩
  try simp only at hk0 hT htl htv ⊢
  refine go_sub (σ' := [(40, i64 k), (17, tv), (39, _), (16, _), (15, _), (14, _), (12, _), (9, _), (8, _), (0, _), (3, _), (4, _), (6, _)]) ⟨rfl, rfl, rfl, rfl, rfl, rfl, rfl, rfl, rfl, rfl, rfl, rfl, rfl, trivial⟩ ?_; refine g_seq ?_; refine g_region ?_; refine kPv (ev_cmp rfl rfl rfl) rfl ?_; refine p_nil ?_; refine g_seq ?_
  refine g_if rfl (fun h41 => ?_) (fun h41 => ?_)
  · have hk : k < vs.length := by simp at h41; omega
    have hk' : k < ws.length := by omega
    obtain ⟨b1, o1, rfl⟩ := hqv k hk
    obtain ⟨b2, o2, rfl⟩ := hqw k (by omega)
    refine g_skip ?_; refine g_seq ?_; refine g_block ?_; refine g_seq ?_; refine g_region ?_; refine kPm rfl rfl ?_; refine kPa rfl rfl ?_; refine p_nil ?_; refine g_drawv [0, 1, 2, 3, 4, 5, 6, 7, 8, 9, 10, 11, 12] [10, 11] [0] [10] [] Tryz.mixed (by kernel_rfl) ?_; refine v_hoist rfl rfl rfl (ev_move rfl) .free rfl ?_; refine v_val rfl rfl rfl (ev_move rfl) .free rfl ?_; refine v_val rfl rfl rfl (ev_move rfl) .free rfl ?_
    refine v_val rfl rfl rfl (ev_iaS Tryz.runUnderlying31 Tryz.sizeOf52 rfl rfl (by omega) (by omega)) .free rfl ?_
    refine v_val rfl rfl rfl (ev_loadS (v := w64 vs[k]) Tryz.isAgg52 hv.up rfl (by rw [Int.toNat_natCast, List.getElem?_map, List.getElem?_eq_getElem (by omega)]; rfl)) .free rfl ?_
    refine v_val rfl rfl rfl (ev_move rfl) .free rfl ?_; refine v_val rfl rfl rfl (ev_move rfl) .free rfl ?_; refine v_val rfl rfl rfl (ev_iaS Tryz.runUnderlying31 Tryz.sizeOf52 rfl rfl (by omega) (by omega)) .free rfl ?_
    refine v_val rfl rfl rfl (ev_loadS (v := w64 (ws[k]'hk')) Tryz.isAgg52 hw.up rfl (by rw [Int.toNat_natCast, List.getElem?_map, List.getElem?_eq_getElem (by omega)]; rfl)) .free rfl ?_
    refine v_val rfl rfl rfl (ev_build rfl (bld_136_0_1 _ _ rfl rfl)) .free rfl ?_; refine v_mark rfl rfl ?_; refine p_chg rfl (ch_bsG encP_w (v := (vs[k], ws[k]'hk')) Tryz.runUnderlying134 Tryz.sizeOf136 Tryz.zeroValue136 ⟨⟨by decide, by decide⟩, rfl⟩ rfl rfl) .free rfl rfl ?_
    rintro _ _ ⟨b53, rfl, rfl⟩
    refine p_nil ?_; refine v_on ?_; refine v_mark rfl rfl ?_; refine go_pk [1, 0] ?_; refine p_chg rfl (ch_append_vecg encP_w (ys := [(vs[k], ws[k]'hk')]) rfl rfl Tryz.runUnderlying134 Tryz.runUnderlying134 ⟨_, rfl⟩ Tryz.sizeOf136 Tryz.zeroValue136 rfl tb_136 rfl rfl (SlM.row (b := b53) rfl rfl) (Nat.succ_pos _) (by simp; omega)) .free rfl rfl ?_
    rintro tv2 _ ⟨htv2, rfl⟩
    refine p_nil ?_; refine v_off rfl ?_; refine v_val rfl rfl rfl (ev_assign rfl) .free rfl ?_; refine v_nil ?_; refine go_sub (σ' := [(17, _), (40, _), (39, _), (16, _), (15, _), (14, _), (12, _), (9, _), (8, _), (0, _), (3, _), (4, _), (6, _)]) ⟨rfl, rfl, rfl, rfl, rfl, rfl, rfl, rfl, rfl, rfl, rfl, rfl, rfl, trivial⟩ ?_; refine g_region ?_
    first | refine p_val rfl (ev_add rfl rfl (wr64 (by omega))) .free rfl rfl ?_ | refine p_val rfl (ev_add rfl rfl rfl) .free rfl rfl ?_
    refine kPm rfl rfl ?_; refine p_nil ?_
    exact fun a w st_ => ⟨(k + 1, TD ++ [(vs[k], ws[k]'hk')], tv2), ⟨by omega, fun x hx => (List.mem_append.1 hx).elim (hT x) (fun h => by rw [List.mem_singleton.1 h]; exact hpr k hk), by simp only [List.length_append, List.length_cons, List.length_nil]; omega, htv2⟩, by simp only; omega, st_.to ⟨rfl, rfl, rfl, rfl, rfl, rfl, rfl, rfl, rfl, rfl, rfl, rfl, rfl, trivial⟩ (fun hh => (hh.dp [1]))⟩
  · have hk : ¬ k < vs.length := by simp at h41; omega
    refine g_exit ?_; refine g_seq ?_; refine g_block ?_
    refine g_loopk (ι := List (Int × Int) × List (Int × Int) × Value) [16, 15, 14, 12, 9, 8, 0, 4] (fun (M, TD, tv) => (∀ x ∈ M, x ∈ R) ∧ (M.Nodup) ∧ (∀ x ∈ TD, PrR R x.1 x.2) ∧ (66 * (R.length - M.length) + TD.length ≤ 66 * R.length + vs.length) ∧ (cell1 tv = true)) (fun (M, TD, tv) => [(17, tv)]) (fun (M, TD, tv) => VecG 136 2 encP 0 (tv, TD) :: mapA .u64 w64 m1 M :: mapA .u64 w64 m2 (M.map Prod.swap) :: row b8 [i64 c.log, i64 c.roots, i64 c.space] 30 :: row b9 [i64 a.act, i64 a.used, sva] 33 :: row b12 [i64 b.act, i64 b.used, svb] 33 :: DevA bd s :: DevA be t :: Fr) (fun (M, TD, tv) => 66 * (R.length - M.length) + TD.length) ([], TD, tv) (⟨fun _ h => (by cases h), List.nodup_nil, hT, by simp only [List.length_nil]; omega, htv⟩) (fun a w st => st.to ⟨rfl, trivial⟩ (fun hh => hh)) ?_
    rintro ⟨M, TD, tv⟩ ⟨hM, hnd, hT, hms, htv⟩
    try simp only at hM hnd hT hms htv ⊢
    refine go_sub (σ' := [(17, tv), (16, _), (15, _), (14, _), (12, _), (9, _), (8, _), (0, _), (4, _)]) ⟨rfl, rfl, rfl, rfl, rfl, rfl, rfl, rfl, rfl, trivial⟩ ?_; refine g_seq ?_; refine g_seq ?_; refine go_vecgq fun q2 cap2 hq2 hqi => ?_
    subst hq2
    refine g_region ?_; refine kPm rfl rfl ?_; refine kPv (ev_len rfl Tryz.runUnderlying134 ⟨_, rfl⟩ rfl) rfl ?_; refine kPv (ev_cmp rfl rfl rfl) rfl ?_; refine p_nil ?_
    refine g_if rfl (fun h58 => ?_) (fun h58 => ?_)
    · obtain ⟨p, TD', rfl⟩ : ∃ p TD', TD = p :: TD' := by
        cases TD with
        | nil => simp at h58
        | cons p t => exact ⟨p, t, rfl⟩
      obtain ⟨bq2, oq2, rfl⟩ := hqi 0 (Nat.succ_pos _)
      have hpp := hT p (List.mem_cons_self ..)
      have hT' : ∀ x ∈ TD', PrR R x.1 x.2 := fun x hx => hT x (List.mem_cons_of_mem _ hx)
      simp only [List.length_cons] at hms
      refine g_skip ?_; refine g_block ?_; refine g_seq ?_; refine g_region ?_; refine kPm rfl rfl ?_; refine kPv (ev_ia (m := oq2 + 0 * 2) Tryz.runUnderlying134 Tryz.sizeOf136 rfl rfl (by decide) (by simp only [List.length_cons]; omega) rfl) rfl ?_
      refine kPv (ev_loadN (i := 0) Tryz.isAgg136 Tryz.sizeOf136 (vecg_sln encP_w 0 rfl) rfl rfl) rfl ?_; refine p_chg rfl (ch_allocA Tryz.zeroValue136 rfl) .free rfl rfl ?_
      rintro _ _ ⟨b19, rfl, rfl⟩
      refine p_chg0 rfl (ch_storeA (vs := [w64 p.1, w64 p.2]) Tryz.sizeOf136 rfl rfl rfl rfl rfl) .free rfl ?_
      rintro _ _ rfl
      refine go_conv (H' := row b19 [w64 p.1, w64 p.2] 136 :: _) (fun w hh => hh) ?_; refine p_nil ?_; refine g_seq ?_; refine g_region ?_; refine kPm rfl rfl ?_; refine go_pk [1] ?_; refine p_chg rfl (ch_tail_vecg encP_w (v := p) (xs := TD') Tryz.runUnderlying134 Tryz.sizeOf136 rfl rfl) .free rfl rfl ?_
      rintro tv3 _ ⟨htv3, rfl⟩
      refine kPa rfl rfl ?_; refine p_nil ?_; refine go_sub (σ' := [(17, _), (19, _), (16, _), (15, _), (14, _), (12, _), (9, _), (8, _), (0, _), (4, _)]) ⟨rfl, rfl, rfl, rfl, rfl, rfl, rfl, rfl, rfl, rfl, trivial⟩ ?_; refine g_seq ?_; refine g_seq ?_
      rcases Bool.eq_false_or_eq_true (p.1 == 0) with hz | hz
      · skip
        have hp1 : p.1 = 0 := by simpa using hz
        have hp2 : p.2 = 0 := hpp.elim (fun h => h.2) (fun h => absurd hp1 (by have := (hR.nz _ h).1; simp only at this; omega))
        refine g_region ?_; refine kPv (ev_fa (m := _) fa_136_0 rfl rfl) rfl ?_; refine kPv (ev_load Tryz.isAgg52 rfl rfl) rfl ?_; refine kPv (ev_cmp rfl rfl rfl) rfl ?_; refine kPm rfl rfl ?_; refine p_skip rfl (.on rfl rfl (beq_ne hz)) rfl ?_; refine p_skip rfl (.on rfl rfl (beq_ne hz)) rfl ?_; refine p_skip rfl (.on rfl rfl (beq_ne hz)) rfl ?_; refine kPv (ev_pick_t rfl hz rfl) rfl ?_; refine p_nil ?_
        refine go_sub (σ' := [(71, _), (17, _), (19, _), (16, _), (15, _), (14, _), (12, _), (9, _), (8, _), (0, _), (4, _)]) ⟨rfl, rfl, rfl, rfl, rfl, rfl, rfl, rfl, rfl, rfl, rfl, trivial⟩ ?_; refine g_ift rfl (rfl) ?_; refine g_seq ?_; refine g_seq ?_; refine g_region ?_; refine kPv (ev_fa (m := _) fa_136_0 rfl rfl) rfl ?_; refine kPv (ev_load Tryz.isAgg52 rfl rfl) rfl ?_; refine kPv (ev_fa (m := _) fa_136_1 rfl rfl) rfl ?_; refine kPv (ev_load Tryz.isAgg52 rfl rfl) rfl ?_
        refine kPv (ev_cmp rfl rfl rfl) rfl ?_; refine p_nil ?_; refine g_iff rfl ((by rw [hp1, hp2]; rfl)) ?_
        refine g_skip ?_; refine g_exit ?_
        exact fun a w st_ => ⟨(M, TD', tv3), ⟨hM, hnd, hT', by simp only; omega, htv3⟩, by simp only [List.length_cons]; omega, st_.to ⟨rfl, rfl, rfl, rfl, rfl, rfl, rfl, rfl, rfl, trivial⟩ (fun hh => (by have h9 := (hh.dp [1]); first | exact h9 | (simp only [List.map_append]; exact h9)))⟩
      · skip
        have hp1 : p.1 ≠ 0 := by simpa using hz
        have hpR : p ∈ R := hpp.resolve_left (fun h => hp1 h.1)
        have hnz := hR.nz p hpR
        have hms' := hms
        refine g_region ?_; refine kPv (ev_fa (m := _) fa_136_0 rfl rfl) rfl ?_; refine kPv (ev_load Tryz.isAgg52 rfl rfl) rfl ?_; refine kPv (ev_cmp rfl rfl rfl) rfl ?_; refine kPm rfl rfl ?_; refine p_val rfl (ev_fa (m := _) fa_136_1 rfl rfl) (.on rfl rfl (beq_eq hz)) rfl rfl ?_; refine p_val rfl (ev_load Tryz.isAgg52 rfl rfl) (.on rfl rfl (beq_eq hz)) rfl rfl ?_; refine p_val rfl (ev_cmp rfl rfl rfl) (.on rfl rfl (beq_eq hz)) rfl rfl ?_; refine kPv (ev_pick_f rfl hz rfl) rfl ?_
        refine p_nil ?_; refine go_sub (σ' := [(71, _), (17, _), (19, _), (16, _), (15, _), (14, _), (12, _), (9, _), (8, _), (0, _), (4, _)]) ⟨rfl, rfl, rfl, rfl, rfl, rfl, rfl, rfl, rfl, rfl, rfl, trivial⟩ ?_; refine g_iff rfl ((by simp; omega)) ?_
        refine g_skip ?_; refine g_seq ?_; refine g_region ?_; refine kPm rfl rfl ?_; refine kPv (ev_fa (m := _) fa_136_0 rfl rfl) rfl ?_; refine kPv (ev_load Tryz.isAgg52 rfl rfl) rfl ?_; refine kPv ((ev_lookup2 Tryz.runUnderlying133 Tryz.runUnderlying52 Tryz.zeroValue52 rfl rfl).eq (congrArg (fun v => Value.tuple #[v, .bool _]) (mval_w _))) rfl ?_; refine kPm rfl rfl ?_; refine kPv (ev_ext rfl rfl) rfl ?_; refine kPv (ev_ext rfl rfl) rfl ?_; refine kPa rfl rfl ?_; refine kPa rfl rfl ?_
        refine p_nil ?_; refine go_sub (σ' := [(21, _), (20, _), (17, _), (19, _), (16, _), (15, _), (14, _), (12, _), (9, _), (8, _), (0, _), (4, _)]) ⟨rfl, rfl, rfl, rfl, rfl, rfl, rfl, rfl, rfl, rfl, rfl, rfl, trivial⟩ ?_; refine g_seq ?_; refine g_region ?_; refine kPm rfl rfl ?_; refine kPv (ev_fa (m := _) fa_136_1 rfl rfl) rfl ?_; refine kPv (ev_load Tryz.isAgg52 rfl rfl) rfl ?_
        refine kPv ((ev_lookup2 Tryz.runUnderlying133 Tryz.runUnderlying52 Tryz.zeroValue52 rfl rfl).eq (congrArg (fun v => Value.tuple #[v, .bool _]) (mval_w _))) rfl ?_; refine kPm rfl rfl ?_; refine kPv (ev_ext rfl rfl) rfl ?_; refine kPv (ev_ext rfl rfl) rfl ?_; refine kPa rfl rfl ?_; refine kPa rfl rfl ?_; refine p_nil ?_
        refine go_sub (σ' := [(23, _), (22, _), (21, _), (20, _), (17, _), (19, _), (16, _), (15, _), (14, _), (12, _), (9, _), (8, _), (0, _), (4, _)]) ⟨rfl, rfl, rfl, rfl, rfl, rfl, rfl, rfl, rfl, rfl, rfl, rfl, rfl, rfl, trivial⟩ ?_; refine g_seq ?_; refine g_seq ?_
        rcases Bool.eq_false_or_eq_true ((mget M p.1).isSome) with ho | ho
        · skip
          obtain ⟨x, hx⟩ := Option.isSome_iff_exists.1 ho
          obtain ⟨rfl, hpM⟩ := same_to hR.i1 hM hpR hx
          have hx1 := hx
          obtain ⟨y, hy⟩ := smget_of ((same_swap (p := p)).2 hpM)
          obtain ⟨rfl, _⟩ := same_from hR.i2 hM hpR hy
          have hx2 := hy
          refine g_region ?_; refine kPm rfl rfl ?_; refine kPm rfl rfl ?_; refine p_skip rfl (.on rfl rfl (beq_ne ho)) rfl ?_; refine kPv (ev_pick_t rfl ho rfl) rfl ?_; refine p_nil ?_; refine g_ift rfl (rfl) ?_; refine g_seq ?_; refine g_seq ?_; refine g_region ?_; refine kPm rfl rfl ?_; refine kPv (ev_not rfl) rfl ?_; refine kPm rfl rfl ?_; refine p_val rfl (ev_move rfl) (.on rfl rfl (beq_eq (by rw [hx1]; rfl))) rfl rfl ?_
          refine p_val rfl (ev_not rfl) (.on rfl rfl (beq_eq (by rw [hx1]; rfl))) rfl rfl ?_
          refine kPv (ev_pick_f rfl (by rw [hx1]; rfl) rfl) rfl ?_
          refine kPm rfl rfl ?_; refine p_val rfl (ev_move rfl) (.on rfl rfl (beq_eq (by rw [hx2]; rfl))) rfl rfl ?_
          refine p_val rfl (ev_fa (m := _) fa_136_1 rfl rfl) (.on rfl rfl (beq_eq (by rw [hx2]; rfl))) rfl rfl ?_
          refine p_val rfl (ev_load Tryz.isAgg52 rfl rfl) (.on rfl rfl (beq_eq (by rw [hx2]; rfl))) rfl rfl ?_
          refine p_val rfl (ev_cmp rfl rfl rfl) (.on rfl rfl (beq_eq (by rw [hx2]; rfl))) rfl rfl ?_
          refine kPv (ev_pick_f rfl (by rw [hx2]; rfl) rfl) rfl ?_
          refine kPm rfl rfl ?_; refine p_val rfl (ev_move rfl) (.on rfl rfl (beq_eq (by rw [hx1]; simp))) rfl rfl ?_
          refine p_val rfl (ev_fa (m := _) fa_136_0 rfl rfl) (.on rfl rfl (beq_eq (by rw [hx1]; simp))) rfl rfl ?_
          refine p_val rfl (ev_load Tryz.isAgg52 rfl rfl) (.on rfl rfl (beq_eq (by rw [hx1]; simp))) rfl rfl ?_
          refine p_val rfl (ev_cmp rfl rfl rfl) (.on rfl rfl (beq_eq (by rw [hx1]; simp))) rfl rfl ?_
          refine kPv (ev_pick_f rfl (by rw [hx1]; simp) rfl) rfl ?_
          refine p_nil ?_; refine go_sub (σ' := [(112, _), (17, _), (19, _), (16, _), (15, _), (14, _), (12, _), (9, _), (8, _), (0, _), (4, _)]) ⟨rfl, rfl, rfl, rfl, rfl, rfl, rfl, rfl, rfl, rfl, rfl, trivial⟩ ?_; refine g_iff rfl ((by rw [hx2]; simp)) ?_
          refine g_skip ?_; refine g_exit ?_
          exact fun a w st_ => ⟨(M, TD', tv3), ⟨hM, hnd, hT', by simp only; omega, htv3⟩, by simp only [List.length_cons]; omega, st_.to ⟨rfl, rfl, rfl, rfl, rfl, rfl, rfl, rfl, rfl, trivial⟩ (fun hh => (by have h9 := (hh.dp [1]); first | exact h9 | (simp only [List.map_append]; exact h9)))⟩
        · skip
          have hno : mget M p.1 = none := by simpa using ho
          have hpM : p ∉ M := fun hm => by
            obtain ⟨u, hu⟩ := smget_of (k := p.1) (v := p.2) hm
            rw [hno] at hu; cases hu
          have hno2 : mget (M.map Prod.swap) p.2 = none := by
            cases hy : mget (M.map Prod.swap) p.2 with
            | none => rfl
            | some y => exact absurd (same_from hR.i2 hM hpR hy).2 hpM
          obtain ⟨w_, r_, ho1, ho2, hw_, hr_, hfl⟩ := hR.of p hpR
          have hnd' : (M ++ [p]).Nodup := by rw [List.nodup_append]; exact ⟨hnd, by simp, fun a ha b' hb' => by simp at hb'; subst hb'; intro e; subst e; exact hpM ha⟩
          have hM' : ∀ x ∈ M ++ [p], x ∈ R := fun x hx => (List.mem_append.1 hx).elim (hM x) (fun h => by rw [List.mem_singleton.1 h]; exact hpR)
          have hle' := nodup_leP hnd' hM'
          simp only [List.length_append, List.length_cons, List.length_nil] at hle'
          refine g_region ?_; refine kPm rfl rfl ?_; refine kPm rfl rfl ?_; refine p_val rfl (ev_move rfl) (.on rfl rfl (beq_eq ho)) rfl rfl ?_; refine kPv (ev_pick_f rfl ho rfl) rfl ?_; refine p_nil ?_; refine g_iff rfl ((by rw [hno2]; rfl)) ?_
          refine g_skip ?_; refine g_seq ?_; refine g_drawv [0, 1, 2, 3, 4, 5, 6, 7, 8, 9, 10, 11] [10, 11] [3, 4, 5, 8, 9] [10] [row b19 [w64 p.1, w64 p.2] 136] Tryz.mixed (by kernel_rfl) ?_; refine v_val rfl rfl rfl (ev_move rfl) .free rfl ?_; refine v_val rfl rfl rfl (ev_fa (m := _) fa_136_0 rfl rfl) .free rfl ?_; refine v_val rfl rfl rfl (ev_load Tryz.isAgg52 rfl rfl) .free rfl ?_; refine v_hoist rfl rfl rfl (ev_move rfl) .free rfl ?_
          refine v_hoist rfl rfl rfl (ev_fa (m := _) fa_136_1 rfl rfl) .free rfl ?_; refine v_hoist rfl rfl rfl (ev_load Tryz.isAgg52 rfl rfl) .free rfl ?_; refine v_val rfl rfl rfl (ev_fa (m := _) fa_136_1 rfl rfl) .free rfl ?_; refine v_val rfl rfl rfl (ev_load Tryz.isAgg52 rfl rfl) .free rfl ?_; refine v_hoist rfl rfl rfl (ev_fa (m := _) fa_136_0 rfl rfl) .free rfl ?_; refine v_hoist rfl rfl rfl (ev_load Tryz.isAgg52 rfl rfl) .free rfl ?_; refine v_mark rfl rfl ?_
          refine p_chg0 rfl (ch_mapset (enc := w64) Tryz.runUnderlying133 Tryz.runUnderlying52 rfl rfl rfl rfl) .free rfl ?_
          rintro _ _ rfl
          refine p_nil ?_; refine v_on ?_; refine v_mark rfl rfl ?_; refine p_chg0 rfl (ch_mapset (enc := w64) Tryz.runUnderlying133 Tryz.runUnderlying52 rfl rfl rfl rfl) .free rfl ?_
          rintro _ _ rfl
          refine p_nil ?_; refine v_off rfl ?_; refine v_nil ?_; refine go_sub (σ' := [(17, _), (19, _), (16, _), (15, _), (14, _), (12, _), (9, _), (8, _), (0, _), (4, _)]) ⟨rfl, rfl, rfl, rfl, rfl, rfl, rfl, rfl, rfl, rfl, trivial⟩ ?_; refine g_seq ?_
          rw [mset_none hno, mset_none hno2]
          refine g_region ?_; refine kPm rfl rfl ?_; refine kPv (ev_loadA Tryz.isAgg30 Tryz.sizeOf30 rfl rfl) rfl ?_; refine kPv (ev_loadA Tryz.isAgg33 Tryz.sizeOf33 rfl rfl) rfl ?_; refine kPv (ev_fa (m := _) fa_136_0 rfl rfl) rfl ?_; refine kPv (ev_load Tryz.isAgg52 rfl rfl) rfl ?_
          first | refine p_val rfl (ev_conv Tryz.runUnderlying52 Tryz.runUnderlying3 rfl (wr64 (by omega))) .free rfl rfl ?_ | refine p_val rfl (ev_conv Tryz.runUnderlying52 Tryz.runUnderlying3 rfl rfl) .free rfl rfl ?_
          refine p_callq rfl (en_f Tryz.call51 rfl) (ro_at (q := DevA) (fun Fr => obj_ok _ Fr bd s c hc a sva hba hsva p.1 (by omega))) .free rfl rfl ?_; refine kPm rfl rfl ?_; refine kPv (ev_ext rfl rfl) rfl ?_; refine kPv (ev_ext rfl rfl) rfl ?_; refine p_chg rfl (ch_allocA Tryz.zeroValue89 rfl) .free rfl rfl ?_
          rintro _ _ ⟨b24, rfl, rfl⟩
          rw [ho1]
          refine p_chg0 rfl (ch_storeA (vs := [i64 w_, i64 r_, i64 p.1]) Tryz.sizeOf89 rfl rfl rfl rfl rfl) .free rfl ?_
          rintro _ _ rfl
          refine go_conv (H' := row b24 [i64 w_, i64 r_, i64 p.1] 89 :: _) (fun w hh => hh) ?_; refine kPa rfl rfl ?_; refine p_nil ?_; refine go_sub (σ' := [(25, _), (24, _), (17, _), (19, _), (16, _), (15, _), (14, _), (12, _), (9, _), (8, _), (0, _), (4, _)]) ⟨rfl, rfl, rfl, rfl, rfl, rfl, rfl, rfl, rfl, rfl, rfl, rfl, trivial⟩ ?_; refine g_seq ?_; refine g_region ?_; refine kPm rfl rfl ?_; refine kPv (ev_loadA Tryz.isAgg30 Tryz.sizeOf30 rfl rfl) rfl ?_
          refine kPv (ev_loadA Tryz.isAgg33 Tryz.sizeOf33 rfl rfl) rfl ?_; refine kPv (ev_fa (m := _) fa_136_1 rfl rfl) rfl ?_; refine kPv (ev_load Tryz.isAgg52 rfl rfl) rfl ?_
          first | refine p_val rfl (ev_conv Tryz.runUnderlying52 Tryz.runUnderlying3 rfl (wr64 (by omega))) .free rfl rfl ?_ | refine p_val rfl (ev_conv Tryz.runUnderlying52 Tryz.runUnderlying3 rfl rfl) .free rfl rfl ?_
          refine p_callq rfl (en_f Tryz.call51 rfl) (ro_at (q := DevA) (fun Fr => obj_ok _ Fr be t c hc b svb hbb hsvb p.2 (by omega))) .free rfl rfl ?_; refine kPm rfl rfl ?_; refine kPv (ev_ext rfl rfl) rfl ?_; refine kPv (ev_ext rfl rfl) rfl ?_; refine p_chg rfl (ch_allocA Tryz.zeroValue89 rfl) .free rfl rfl ?_
          rintro _ _ ⟨b26, rfl, rfl⟩
          rw [ho2]
          refine p_chg0 rfl (ch_storeA (vs := [i64 w_, i64 r_, i64 p.2]) Tryz.sizeOf89 rfl rfl rfl rfl rfl) .free rfl ?_
          rintro _ _ rfl
          refine go_conv (H' := row b26 [i64 w_, i64 r_, i64 p.2] 89 :: _) (fun w hh => hh) ?_; refine kPa rfl rfl ?_; refine p_nil ?_; refine go_sub (σ' := [(27, _), (26, _), (25, _), (24, _), (17, _), (16, _), (15, _), (14, _), (12, _), (9, _), (8, _), (0, _), (4, _)]) ⟨rfl, rfl, rfl, rfl, rfl, rfl, rfl, rfl, rfl, rfl, rfl, rfl, rfl, trivial⟩ ?_; refine g_seq ?_; refine g_seq ?_; refine g_region ?_; refine kPm rfl rfl ?_; refine kPv (ev_cmp rfl rfl rfl) rfl ?_; refine kPm rfl rfl ?_
          refine p_val rfl (ev_move rfl) (.on rfl rfl (beq_eq rfl)) rfl rfl ?_; refine p_val rfl (ev_cmp rfl rfl rfl) (.on rfl rfl (beq_eq rfl)) rfl rfl ?_; refine kPv (ev_pick_f rfl rfl rfl) rfl ?_; refine kPm rfl rfl ?_; refine p_val rfl (ev_fa (m := _) fa_89_0 rfl rfl) (.on rfl rfl (beq_eq rfl)) rfl rfl ?_; refine p_val rfl (ev_fa (m := _) fa_87_0 rfl rfl) (.on rfl rfl (beq_eq rfl)) rfl rfl ?_; refine p_val rfl (ev_load Tryz.isAgg3 rfl rfl) (.on rfl rfl (beq_eq rfl)) rfl rfl ?_
          refine p_val rfl (ev_fa (m := _) fa_89_0 rfl rfl) (.on rfl rfl (beq_eq rfl)) rfl rfl ?_; refine p_val rfl (ev_fa (m := _) fa_87_0 rfl rfl) (.on rfl rfl (beq_eq rfl)) rfl rfl ?_; refine p_val rfl (ev_load Tryz.isAgg3 rfl rfl) (.on rfl rfl (beq_eq rfl)) rfl rfl ?_; refine p_val rfl (ev_cmp rfl rfl rfl) (.on rfl rfl (beq_eq rfl)) rfl rfl ?_; refine kPv (ev_pick_f rfl rfl rfl) rfl ?_; refine kPm rfl rfl ?_
          refine p_val rfl (ev_fa (m := _) fa_89_0 rfl rfl) (.on rfl rfl (beq_eq (by simp))) rfl rfl ?_; refine p_val rfl (ev_fa (m := _) fa_87_1 rfl rfl) (.on rfl rfl (beq_eq (by simp))) rfl rfl ?_; refine p_val rfl (ev_load Tryz.isAgg3 rfl rfl) (.on rfl rfl (beq_eq (by simp))) rfl rfl ?_; refine p_val rfl (ev_fa (m := _) fa_89_0 rfl rfl) (.on rfl rfl (beq_eq (by simp))) rfl rfl ?_; refine p_val rfl (ev_fa (m := _) fa_87_1 rfl rfl) (.on rfl rfl (beq_eq (by simp))) rfl rfl ?_
          refine p_val rfl (ev_load Tryz.isAgg3 rfl rfl) (.on rfl rfl (beq_eq (by simp))) rfl rfl ?_; refine p_val rfl (ev_cmp rfl rfl rfl) (.on rfl rfl (beq_eq (by simp))) rfl rfl ?_; refine kPv (ev_pick_f rfl (by simp) rfl) rfl ?_; refine p_nil ?_; refine go_sub (σ' := [(166, _), (26, _), (24, _), (17, _), (16, _), (15, _), (14, _), (12, _), (9, _), (8, _), (0, _), (4, _)]) ⟨rfl, rfl, rfl, rfl, rfl, rfl, rfl, rfl, rfl, rfl, rfl, rfl, trivial⟩ ?_; refine g_iff rfl ((by simp)) ?_
          refine g_skip ?_; refine g_seq ?_; refine g_region ?_; refine kPv (ev_fa (m := _) fa_89_0 rfl rfl) rfl ?_; refine kPv (ev_fa (m := _) fa_87_0 rfl rfl) rfl ?_; refine kPv (ev_load Tryz.isAgg3 rfl rfl) rfl ?_; refine kPm rfl rfl ?_; refine p_nil ?_; refine g_block ?_
          refine g_loopk (ι := Nat × List (Int × Int) × Value) [169, 26, 24, 16, 15, 14, 12, 9, 8, 0, 4] (fun (j, TD2, tv4) => ((j : Int) ≤ w_) ∧ (∀ x ∈ TD2, PrR R x.1 x.2) ∧ (TD2.length ≤ TD'.length + j) ∧ (cell1 tv4 = true)) (fun (j, TD2, tv4) => [(170, i64 j), (17, tv4)]) (fun (j, TD2, tv4) => VecG 136 2 encP 0 (tv4, TD2) :: mapA .u64 w64 m1 (M ++ [p]) :: mapA .u64 w64 m2 (M.map Prod.swap ++ [(p.2, p.1)]) :: row b24 [i64 w_, i64 r_, i64 p.1] 89 :: row b26 [i64 w_, i64 r_, i64 p.2] 89 :: row b19 [w64 p.1, w64 p.2] 136 :: row b8 [i64 c.log, i64 c.roots, i64 c.space] 30 :: row b9 [i64 a.act, i64 a.used, sva] 33 :: row b12 [i64 b.act, i64 b.used, svb] 33 :: DevA bd s :: DevA be t :: Fr) (fun (j, TD2, tv4) => (w_ - j).toNat) (0, TD', tv3) (⟨by omega, hT', Nat.le_refl _, htv3⟩) (fun a w st => st.to ⟨rfl, rfl, trivial⟩ (fun hh => (hh.pk [2, 3, 3, 1]))) ?_
          rintro ⟨j, TD2, tv4⟩ ⟨hj0, hT2, htl2, htv4⟩
          try simp only at hj0 hT2 htl2 htv4 ⊢
          refine go_sub (σ' := [(170, i64 j), (17, tv4), (169, _), (26, _), (24, _), (16, _), (15, _), (14, _), (12, _), (9, _), (8, _), (0, _), (4, _)]) ⟨rfl, rfl, rfl, rfl, rfl, rfl, rfl, rfl, rfl, rfl, rfl, rfl, rfl, trivial⟩ ?_; refine g_seq ?_; refine g_region ?_; refine kPv (ev_cmp rfl rfl rfl) rfl ?_; refine p_nil ?_; refine g_seq ?_
          refine g_if rfl (fun h171 => ?_) (fun h171 => ?_)
          · have hj : (j : Int) < w_ := by simpa using h171
            refine g_skip ?_; refine g_seq ?_; refine g_block ?_; refine g_seq ?_; refine g_region ?_; refine kPm rfl rfl ?_; refine kPa rfl rfl ?_; refine p_nil ?_; refine g_seq ?_; refine g_draw Tryz.mixed (by kernel_rfl) (by kernel_rfl) ?_; refine kQm rfl rfl ?_; refine kQv (ev_fa (m := _) fa_89_1 rfl rfl) rfl ?_; refine kQv (ev_load Tryz.isAgg3 rfl rfl) rfl ?_
            first | refine q_val rfl (ev_add rfl rfl (wr64 (by omega))) .free rfl ?_ | refine q_val rfl (ev_add rfl rfl rfl) .free rfl ?_
            refine kQm rfl rfl ?_
            first | refine q_val rfl (ev_add rfl rfl (wr64 (by omega))) .free rfl ?_ | refine q_val rfl (ev_add rfl rfl rfl) .free rfl ?_
            refine q_call rfl (en_f Tryz.call72 rfl) (ro_at (q := DevA) (fun Fr => nload_ok _ Fr bd s _)) .free rfl ?_; refine kQm rfl rfl ?_; refine kQv (ev_fa (m := _) fa_89_1 rfl rfl) rfl ?_; refine kQv (ev_load Tryz.isAgg3 rfl rfl) rfl ?_
            first | refine q_val rfl (ev_add rfl rfl (wr64 (by omega))) .free rfl ?_ | refine q_val rfl (ev_add rfl rfl rfl) .free rfl ?_
            refine kQm rfl rfl ?_
            first | refine q_val rfl (ev_add rfl rfl (wr64 (by omega))) .free rfl ?_ | refine q_val rfl (ev_add rfl rfl rfl) .free rfl ?_
            refine q_call rfl (en_f Tryz.call72 rfl) (ro_at (q := DevA) (fun Fr => nload_ok _ Fr be t _)) .free rfl ?_; refine kQa rfl rfl ?_; refine kQa rfl rfl ?_; refine q_nil ?_; refine go_sub (σ' := [(30, _), (29, _), (28, _), (170, _), (17, _), (169, _), (26, _), (24, _), (16, _), (15, _), (14, _), (12, _), (9, _), (8, _), (0, _), (4, _)]) ⟨rfl, rfl, rfl, rfl, rfl, rfl, rfl, rfl, rfl, rfl, rfl, rfl, rfl, rfl, rfl, rfl, trivial⟩ ?_; refine g_seq ?_; refine g_region ?_; refine kPm rfl rfl ?_
            refine kPv (ev_fa (m := _) fa_89_0 rfl rfl) rfl ?_; refine kPv (ev_fa (m := _) fa_87_1 rfl rfl) rfl ?_; refine kPv (ev_load Tryz.isAgg3 rfl rfl) rfl ?_; refine kPv (ev_cmp rfl rfl rfl) rfl ?_; refine p_nil ?_
            refine g_if rfl (fun h191 => ?_) (fun h191 => ?_)
            · have hjr : (j : Int) < r_ := by simpa using h191
              have hfj := hfl j hj
              rw [if_pos hjr] at hfj
              refine g_region ?_; refine kPm rfl rfl ?_; refine kPm rfl rfl ?_; refine kPm rfl rfl ?_; refine kPv (ev_build rfl (bld_136_0_1 _ _ rfl rfl)) rfl ?_; refine p_chg rfl (ch_bsG encP_w (v := (s.load (p.1 + 1 + j), t.load (p.2 + 1 + j))) Tryz.runUnderlying134 Tryz.sizeOf136 Tryz.zeroValue136 ⟨⟨by decide, by decide⟩, rfl⟩ rfl rfl) .free rfl rfl ?_
              rintro _ _ ⟨b196, rfl, rfl⟩
              refine go_pk [1, 0] ?_; refine p_chg rfl (ch_append_vecg encP_w (ys := [(s.load (p.1 + 1 + j), t.load (p.2 + 1 + j))]) rfl rfl Tryz.runUnderlying134 Tryz.runUnderlying134 ⟨_, rfl⟩ Tryz.sizeOf136 Tryz.zeroValue136 rfl tb_136 rfl rfl (SlM.row (b := b196) rfl rfl) (Nat.succ_pos _) (by simp; omega)) .free rfl rfl ?_
              rintro tv5 _ ⟨htv5, rfl⟩
              refine kPa rfl rfl ?_; refine p_nil ?_; refine go_sub (σ' := [(17, _), (170, _), (169, _), (26, _), (24, _), (16, _), (15, _), (14, _), (12, _), (9, _), (8, _), (0, _), (4, _)]) ⟨rfl, rfl, rfl, rfl, rfl, rfl, rfl, rfl, rfl, rfl, rfl, rfl, rfl, trivial⟩ ?_; refine g_region ?_
              first | refine p_val rfl (ev_add rfl rfl (wr64 (by omega))) .free rfl rfl ?_ | refine p_val rfl (ev_add rfl rfl rfl) .free rfl rfl ?_
              refine kPm rfl rfl ?_; refine p_nil ?_
              exact fun a w st_ => ⟨(j + 1, TD2 ++ [(s.load (p.1 + 1 + j), t.load (p.2 + 1 + j))], tv5), ⟨by simp only; omega, fun x hx => (List.mem_append.1 hx).elim (hT2 x) (fun h => by rw [List.mem_singleton.1 h]; exact hfj), by simp only [List.length_append, List.length_cons, List.length_nil]; omega, htv5⟩, by simp only; omega, st_.to ⟨rfl, rfl, rfl, rfl, rfl, rfl, rfl, rfl, rfl, rfl, rfl, rfl, rfl, trivial⟩ (fun hh => (hh.dp [1]))⟩
            · have hjr : ¬ (j : Int) < r_ := by simpa using h191
              have hfj := hfl j hj
              rw [if_neg hjr] at hfj
              refine g_seq ?_; refine g_region ?_; refine kPm rfl rfl ?_; refine kPm rfl rfl ?_; refine kPv (ev_cmp rfl rfl rfl) rfl ?_; refine p_nil ?_; refine go_sub (σ' := [(200, _), (170, _), (17, _), (169, _), (26, _), (24, _), (16, _), (15, _), (14, _), (12, _), (9, _), (8, _), (0, _), (4, _)]) ⟨rfl, rfl, rfl, rfl, rfl, rfl, rfl, rfl, rfl, rfl, rfl, rfl, rfl, rfl, trivial⟩ ?_; refine g_iff rfl ((by rw [hfj]; simp)) ?_
              refine g_skip ?_; refine g_region ?_
              first | refine p_val rfl (ev_add rfl rfl (wr64 (by omega))) .free rfl rfl ?_ | refine p_val rfl (ev_add rfl rfl rfl) .free rfl rfl ?_
              refine kPm rfl rfl ?_; refine p_nil ?_
              exact fun a w st_ => ⟨(j + 1, TD2, tv4), ⟨by simp only; omega, hT2, by simp only; omega, htv4⟩, by simp only; omega, st_.to ⟨rfl, rfl, rfl, rfl, rfl, rfl, rfl, rfl, rfl, rfl, rfl, rfl, rfl, trivial⟩ (fun hh => hh)⟩
          · have hj : ¬ (j : Int) < w_ := by simpa using h171
            refine g_exit ?_
            exact fun a w st_ => ⟨(M ++ [p], TD2, tv4), ⟨hM', hnd', hT2, by simp only [List.length_append, List.length_cons, List.length_nil]; omega, htv4⟩, by simp only [List.length_append, List.length_cons, List.length_nil]; omega, st_.to ⟨rfl, rfl, rfl, rfl, rfl, rfl, rfl, rfl, rfl, trivial⟩ (fun hh => (by have h9 := (hh.dp [3, 3, 3]); first | exact h9 | (simp only [List.map_append]; exact h9)))⟩
    · try simp only [decide_eq_true_eq, decide_eq_false_iff_not, Bool.not_eq_true', Bool.not_eq_false', Bool.or_eq_true, Bool.and_eq_true, Bool.and_eq_false_iff, Bool.or_eq_false_iff, beq_iff_eq, bne_iff_ne, beq_eq_false_iff_ne, bne_eq_false_iff_eq, ge_iff_le, gt_iff_lt, ne_eq] at h58
      refine g_exit ?_; refine g_seq ?_; refine g_region ?_; refine kPa rfl rfl ?_; refine p_nil ?_; refine go_sub (σ' := [(14, _)]) ⟨rfl, trivial⟩ ?_; refine g_ret ?_
      exact ret_tmp Tryz.results28 rfl (fun w hh => ⟨rfl, (hh.dp [0, 0, 0, 0, 0, 0])⟩)
end Go.Proofs.YtbfheafpecgphaaGreat
namespace Go.Proofs.YtbfheafpecgphaaGreat
open Go
theorem Tile.len {m : Int → Int} : ∀ {L : List Int} {a e : Int}, Tile m a L e → (L.length : Int) ≤ e - a
  | [], a, e, h => by cases h; simp
  | x :: t, a, e, h => by have := h.2.2.len; have := osz_b m a; simp only [List.length_cons]; omega
section
variable {c : Cfg} {b : Blk} {L : List Int} {s : Dev}
def hobj (s : Dev) (k : Int) : Obj3 := (osz s.load k - 1, orf s.load k, k)
theorem objs_heap (hc : CfgW c) (hb : BlkW c b) (h : HeapW c b s.load L) : ∀ (t : List Int) (a : Int) (f : Nat), Tile s.load a t (b.place c b.used) → (∀ k ∈ t, k ∈ L) → t.length < f → s.objs c b f a = t.map fun k => (hobj s k, 0)
  | [], a, f + 1, ht, _, _ => by
    unfold Dev.objs
    rw [if_pos (by rw [show a = b.place c b.used from ht]; exact Int.le_refl _)]; rfl
  | k :: t, a, f + 1, ht, hl, hf => by
    obtain ⟨rfl, h2, h3⟩ := ht
    have hz := osz_b s.load k
    have hle := h3.le
    have ho := (heap_of hc hb h (hl k (List.mem_cons_self ..))).1
    simp only [List.length_cons] at hf
    unfold Dev.objs
    rw [if_neg (by omega), ho, if_neg (by simp)]
    simp only [List.map_cons]
    rw [show k + (osz s.load k - 1 + 1) = k + osz s.load k by omega, objs_heap hc hb h t _ f h3 (fun x hx => hl x (List.mem_cons_of_mem _ hx)) (by omega)]
    rfl
  | _, _, 0, _, _, hf => absurd hf (Nat.not_lt_zero _)
theorem heap_objs (hc : CfgW c) (hb : BlkW c b) (h : HeapW c b s.load L) : s.objs c b (b.used.toNat + 1) (b.place c 0) = L.map fun k => (hobj s k, 0) := by
  have h1 := h.tile.len
  have h2 := hb.used
  exact objs_heap hc hb h L _ _ h.tile (fun _ h => h) (by unfold Blk.place at h1; omega)
theorem itl_all {α ι : Type} {st : α → ι → Bool × ι} {g : ι → α → ι} : ∀ (l : List α) (x : ι), (∀ a ∈ l, ∀ x, st a x = (true, g x a)) → itl st l x = (true, l.foldl g x)
  | [], x, _ => rfl
  | a :: t, x, h => by
    have e := h a (List.mem_cons_self ..) x
    unfold itl
    rw [if_pos (by rw [e]), e]
    exact itl_all t _ fun b hb => h b (List.mem_cons_of_mem _ hb)
theorem fold_keys {β : Type} (f : Int → β) : ∀ (l : List Int) (x : List (Int × β) × Int) (k : Int), (k ∈ l ∨ (mget x.1 k).isSome = true) → (mget (l.foldl (fun y k => (mset y.1 k (f k), y.2)) x).1 k).isSome = true
  | [], x, k, h => h.resolve_left (by simp)
  | a :: t, x, k, h => by
    refine fold_keys f t _ k ?_
    by_cases e : k = a
    · right; simp only; rw [mget_mset, if_pos e]; rfl
    · rcases h with h | h
      · exact .inl ((List.mem_cons.1 h).resolve_left e)
      · right; simp only; rw [mget_mset, if_neg e]; exact h
theorem fold_snd {β : Type} (f : Int → β) : ∀ (l : List Int) (x : List (Int × β) × Int), (l.foldl (fun y k => (mset y.1 k (f k), y.2)) x).2 = x.2
  | [], _ => rfl
  | a :: t, x => fold_snd f t _
theorem heap_starts (hc : CfgW c) (hb : BlkW c b) (h : HeapW c b s.load L) : (s.starts c b).2 = 0 ∧ ∀ k ∈ L, (mget (s.starts c b).1 k).isSome = true := by
  have e : s.starts c b = L.foldl (fun y k => (mset y.1 k (hobj s k), y.2)) ([], 0) := by
    unfold Dev.starts Dev.startsI
    rw [heap_objs hc hb h, itl_all (g := fun y (p : Obj3 × Int) => (mset y.1 p.1.2.2 p.1, y.2)) _ _ (fun p hp x => by
      obtain ⟨k, _, rfl⟩ := List.mem_map.1 hp
      unfold stS
      rw [if_neg (by simp)]), List.foldl_map]
    rfl
  rw [e]
  exact ⟨fold_snd _ _ _, fun k hk => fold_keys _ _ _ _ (.inl hk)⟩
theorem heap_check (hc : CfgW c) (hu : U64 s) (hbl : s.block c = (b, 0)) (h : HeapW c b s.load L) : s.check c = 0 := by
  have hb0 : b = (s.block c).1 := by rw [hbl]
  have hb : BlkW c b := by rw [hb0]; exact block_w hc hu
  obtain ⟨h1, h2⟩ := heap_starts hc hb h
  have hn : ∀ v, v = 0 ∨ v ∈ L → namesM c b (s.starts c b).1 v = true := fun v hv => by
    unfold namesM
    rcases hv with rfl | hv
    · simp
    · rw [(heap_of hc hb h hv).2, h2 v hv]; simp
  unfold Dev.check
  rw [hbl]
  simp only
  rw [if_neg (by simp), if_neg (by rw [h1]; simp), if_pos]
  · rw [heap_objs hc hb h, itl_all (g := fun y _ => y)]
    · have : ∀ (l : List (Obj3 × Int)) (x : Int), l.foldl (fun y _ => y) x = x := fun l => by
        induction l with
        | nil => intro x; rfl
        | cons a t ih => intro x; exact ih x
      rw [this]
    · intro p hp x
      obtain ⟨k, hk, rfl⟩ := List.mem_map.1 hp
      unfold stC
      rw [if_pos]
      unfold refsM
      rw [List.all_eq_true]
      intro j hj
      have := List.mem_range.1 hj
      simp only [hobj] at this ⊢
      exact hn _ (h.names k hk j (by omega) (by omega))
  · rw [List.all_eq_true]
    exact fun v hv => hn v (h.roots v hv)
theorem HeapW.congr {m m' : Int → Int} (h : HeapW c b m L) (e : ∀ j, b.place c 0 ≤ j → j < b.place c b.used → m' j = m j) : HeapW c b m' L := by
  have hm : ∀ k ∈ L, ∀ j, 0 ≤ j → j < osz m k → m' (k + j) = m (k + j) := fun k hk j h0 h1 => by
    have := h.tile.mem hk
    exact e _ (by omega) (by omega)
  have h0 : ∀ k ∈ L, m' k = m k := fun k hk => by
    have := hm k hk 0 (Int.le_refl 0) (by have := osz_b m k; omega)
    simpa using this
  refine ⟨h.tile.congr h0, fun k hk i g0 g1 => ?_, h.roots⟩
  have eo : orf m' k = orf m k := by unfold orf; rw [h0 k hk]
  rw [eo] at g1
  have hz := osz_b m k
  have := hm k hk (1 + i) (by omega) (by omega)
  rw [← Int.add_assoc] at this
  rw [this]; exact h.names k hk i g0 g1
end
end Go.Proofs.YtbfheafpecgphaaGreat
namespace Go.Proofs.YtbfheafpecgphaaGreat
open Go
theorem iso_went {c : Cfg} {b : Blk} {s s1 t : Dev} {L ws : List Int} {lo hi : Int} {X : ColS} (hc : CfgW c) (G : GcH c b s.load L lo hi) (h : DI c b s.load L lo ws X s1) (hbX : BlkW c X.block) (hX : HeapW c X.block t.load (X.went.map Prod.snd)) (ht : ∀ j, lo ≤ j → j < X.free → t.load j = s1.load j) : IsoR c b s X.block t X.went := by
  refine ⟨fun p hp => ?_, fun p hp q hq e => ?_, fun p hp q hq e => h.ci.offs.inj hp hq e, fun p hp => ?_⟩
  · have h1 := heap_b hc G.hb G.heap (h.ci.inL p hp)
    have h2 := heap_b hc hbX hX (List.mem_map_of_mem hp)
    omega
  · have h1 := tr_of h.ci.nd hp
    have h2 := tr_of h.ci.nd hq
    rw [e, h2] at h1
    exact Prod.ext e h1.symm
  · have hz := osz_b s.load p.1
    have hm := h.ci.offs.mem hp
    have hd := h.head hp
    have e0 : t.load p.2 = s.load p.1 := by rw [ht _ (by omega) (by omega)]; exact hd.2.2
    refine ⟨osz s.load p.1 - 1, orf s.load p.1, (heap_of hc G.hb G.heap (h.ci.inL p hp)).1, ?_, by omega, by omega, fun i hi => ?_⟩
    · rw [(heap_of hc hbX hX (List.mem_map_of_mem hp)).1]
      unfold osz orf; rw [e0]
    · rw [ht _ (by omega) (by omega), h.fld hp (by omega) (by omega)]
      by_cases hr : (i : Int) < orf s.load p.1
      · rw [if_pos hr, if_pos hr]
        rcases h.name hp (by omega) hr with hz0 | hk
        · exact .inl ⟨hz0, by rw [hz0]; exact tr_not (h.ci.zero G)⟩
        · exact .inr (h.trm hk).2
      · rw [if_neg hr, if_neg hr]
end Go.Proofs.YtbfheafpecgphaaGreat
namespace Go.Proofs.YtbfheafpecgphaaGreat
open Go
def Dev.P (s : Dev) (x : Nat) (v : Int) : Prop := v = s.kept x ∨ v = s.pk x ∨ v = s.now x
theorem p_st {s : Dev} {i x : Nat} {v w : Int} (h : (s.up.st i v).P x w) : (x = i ∧ w = v) ∨ s.P x w := by
  rcases h with h | h | h
  · exact .inr (.inl h)
  · exact .inr (.inr (.inl h))
  · have h : w = upd s.now i v x := h
    simp only [upd] at h
    by_cases e : x = i
    · rw [if_pos e] at h; exact .inl ⟨e, h⟩
    · rw [if_neg e] at h; exact .inr (.inr (.inr h))
theorem p_fl {s : Dev} {i x : Nat} {w : Int} (h : (s.up.fl i).P x w) : s.P x w := by
  rcases h with h | h | h
  · exact .inl h
  · rw [pk_flush] at h
    by_cases e : x / 8 = i / 8
    · rw [if_pos e] at h; exact .inr (.inr h)
    · rw [if_neg e] at h; exact .inr (.inl h)
  · exact .inr (.inr h)
theorem p_fe {s : Dev} {x : Nat} {w : Int} (h : s.up.fe.P x w) : s.P x w := by
  rcases h with h | h | h
  · exact .inr (.inl h)
  · exact .inr (.inl h)
  · exact .inr (.inr h)
def Dev.Set (s : Dev) (x : Nat) : Prop := ∀ w, s.P x w → w = s.now x
theorem set_pk {s : Dev} {x : Nat} (h : s.pk x = s.now x) : s.up.fe.Set x := fun w hw => by
  rcases hw with h1 | h1 | h1
  · exact h1.trans h
  · exact h1.trans h
  · exact h1
theorem set_flfe {s : Dev} {i x : Nat} (h : x / 8 = i / 8) : (s.up.fl i).up.fe.Set x := set_pk (s := s.up.fl i) (by rw [pk_flush, if_pos h]; rfl)
structure Left (s t : Dev) : Prop where
  n : t.n = s.n
  kept : t.kept = t.now
  q : t.q = fun _ => none
  p : ∀ x, s.P x (t.now x)
theorem left_crash (s : Dev) (ch : Nat → Int) : Left s (s.crash ch) := ⟨rfl, rfl, rfl, fun x => by
  show s.P x (if ch x % 3 = 1 then fkept s.kept s.q x else if ch x % 3 = 2 then s.now x else s.kept x)
  split
  · exact .inr (.inl rfl)
  · split
    · exact .inr (.inr rfl)
    · exact .inl rfl⟩
theorem Left.one {s t : Dev} (h : Left s t) {x : Nat} {w : Int} (hw : t.P x w) : w = t.now x := by
  rcases hw with h1 | h1 | h1
  · rw [h1, h.kept]
  · rw [h1, still_pk h.q, h.kept]
  · exact h1
theorem Left.sub {s t : Dev} (h : Left s t) {x : Nat} {w : Int} (hw : t.P x w) : s.P x w := by rw [h.one hw]; exact h.p x
theorem Left.of {s s' t : Dev} (h : Left s' t) (hn : s'.n = s.n) (hp : ∀ x w, s'.P x w → s.P x w) : Left s t := ⟨h.n.trans hn, h.kept, h.q, fun x => hp x _ (h.p x)⟩
structure CutI (c : Cfg) (N : Nat) (F : Nat → Prop) (K : Nat → Int) (e : Int) (js : List Nat) (s : Dev) : Prop where
  n : s.n = N
  e1 : 0 ≤ e
  e2 : e < 4294967296
  len : (js.length : Int) ≤ c.log
  ep : ∀ v, s.P 8 v → v = e
  recs : ∀ k (h : k < js.length), (∀ v, s.P (16 + 4 * k) v → v = stampI e k) ∧ (∀ v, s.P (16 + 4 * k + 1) v → v = js[k]) ∧ (∀ v, s.P (16 + 4 * k + 2) v → v = K js[k]) ∧ c.active ≤ js[k] ∧ js[k] < N
  stale : ∀ k : Nat, js.length ≤ k → (k : Int) < c.log → ∀ v, s.P (16 + 4 * k) v → v ≤ e * 4294967296
  same : ∀ x : Nat, x ∉ js → c.active ≤ x → x < N → ¬ F x → ∀ v, s.P x v → v = K x
theorem CutI.sub {c : Cfg} {N : Nat} {F : Nat → Prop} {K : Nat → Int} {e : Int} {js : List Nat} {s s' : Dev} (h : CutI c N F K e js s) (hn : s'.n = s.n) (hp : ∀ x w, s'.P x w → s.P x w) : CutI c N F K e js s' :=
  ⟨hn.trans h.n, h.e1, h.e2, h.len, fun v hv => h.ep v (hp _ _ hv), fun k hk => ⟨fun v hv => (h.recs k hk).1 v (hp _ _ hv), fun v hv => (h.recs k hk).2.1 v (hp _ _ hv), fun v hv => (h.recs k hk).2.2.1 v (hp _ _ hv), (h.recs k hk).2.2.2⟩,
   fun k h1 h2 v hv => h.stale k h1 h2 v (hp _ _ hv), fun x h1 h2 h3 h4 v hv => h.same x h1 h2 h3 h4 v (hp _ _ hv)⟩
def RecI (c : Cfg) (N : Nat) (F : Nat → Prop) (K : Nat → Int) (s : Dev) : Prop := ∀ t, Left s t → ∃ e js, CutI c N F K e js t
def Rec2 (c : Cfg) (N : Nat) (F : Nat → Prop) (K : Nat → Int) (F' : Nat → Prop) (M : Nat → Int) (s : Dev) : Prop := ∀ t, Left s t → (∃ e js, CutI c N F K e js t) ∨ ∃ e js, CutI c N F' M e js t
theorem CutI.reci {c : Cfg} {N : Nat} {F : Nat → Prop} {K : Nat → Int} {e : Int} {js : List Nat} {s : Dev} (h : CutI c N F K e js s) : RecI c N F K s := fun _ ht => ⟨e, js, h.sub ht.n fun _ _ hw => ht.sub hw⟩
theorem RecI.two {c : Cfg} {N : Nat} {F F' : Nat → Prop} {K M : Nat → Int} {s : Dev} (h : RecI c N F K s) : Rec2 c N F K F' M s := fun t ht => .inl (h t ht)
theorem RecI.sub {c : Cfg} {N : Nat} {F : Nat → Prop} {K : Nat → Int} {s s' : Dev} (h : RecI c N F K s) (hn : s'.n = s.n) (hp : ∀ x w, s'.P x w → s.P x w) : RecI c N F K s' := fun t ht => h t (ht.of hn hp)
theorem Rec2.sub {c : Cfg} {N : Nat} {F F' : Nat → Prop} {K M : Nat → Int} {s s' : Dev} (h : Rec2 c N F K F' M s) (hn : s'.n = s.n) (hp : ∀ x w, s'.P x w → s.P x w) : Rec2 c N F K F' M s' := fun t ht => h t (ht.of hn hp)
def OutW {α : Type} (m : Out α) (Q : α → Dev → Prop) (I : Dev → Prop) : Prop := match m with
  | .ok a s => Q a s
  | .off s => I s
theorem outw_then {α β : Type} {m : Out α} {f : α → Dev → Out β} {Q' : α → Dev → Prop} {Q : β → Dev → Prop} {I : Dev → Prop} (h : OutW m Q' I) (g : ∀ a s, Q' a s → OutW (f a s) Q I) : OutW (m.then f) Q I := by
  cases m with
  | ok a s => exact g a s h
  | off s => exact h
theorem OutW.mono {α : Type} {m : Out α} {Q Q' : α → Dev → Prop} {I I' : Dev → Prop} (h : OutW m Q I) (f : ∀ a s, Q a s → Q' a s) (g : ∀ s, I s → I' s) : OutW m Q' I' := by
  cases m with
  | ok a s => exact f a s h
  | off s => exact g s h
theorem outw_store {β : Type} {s : Dev} {i : Int} {k : Nat} {v : Int} {f : Int → Dev → Out β} {Q : β → Dev → Prop} {I : Dev → Prop} (hk : (k : Int) = i) (hi : k < s.n) (h0 : I s) (h : OutW (f 0 (s.up.st k v)) Q I) : OutW ((s.store i v).then f) Q I := by
  subst hk
  unfold Dev.store
  rw [if_neg (by simp [Dev.has, hi])]
  split
  · exact h0
  · exact h
theorem outw_flush {β : Type} {s : Dev} {i : Int} {k : Nat} {f : Int → Dev → Out β} {Q : β → Dev → Prop} {I : Dev → Prop} (hk : (k : Int) = i) (hi : k < s.n) (h0 : I s) (h : OutW (f 0 (s.up.fl k)) Q I) : OutW ((s.flush i).then f) Q I := by
  subst hk
  unfold Dev.flush
  rw [if_neg (by simp [Dev.has, hi])]
  split
  · exact h0
  · exact h
theorem outw_fence {β : Type} {s : Dev} {f : Unit → Dev → Out β} {Q : β → Dev → Prop} {I : Dev → Prop} (h0 : I s) (h : OutW (f () s.up.fe) Q I) : OutW (s.fence.then f) Q I := by
  unfold Dev.fence
  split
  · exact h0
  · exact h
theorem CutI.store {c : Cfg} {N : Nat} {F : Nat → Prop} {K : Nat → Int} {e : Int} {js : List Nat} {s : Dev} (h : CutI c N F K e js s) {y : Nat} (v : Int) (h8 : y ≠ 8) (hst : ∀ k : Nat, (k : Int) < c.log → y ≠ 16 + 4 * k) (hrec : ∀ k, k < js.length → y ≠ 16 + 4 * k + 1 ∧ y ≠ 16 + 4 * k + 2) (hdat : c.active ≤ y → y ∈ js ∨ F y) : CutI c N F K e js (s.up.st y v) := by
  have key : ∀ x w, x ≠ y → (s.up.st y v).P x w → s.P x w := fun x w hx hw => (p_st hw).resolve_left fun hh => hx hh.1
  have hlen := h.len
  refine ⟨h.n, h.e1, h.e2, h.len, fun v hv => h.ep v (key _ _ (Ne.symm h8) hv), fun k hk => ?_, fun k h1 h2 v hv => h.stale k h1 h2 v (key _ _ (Ne.symm (hst k h2)) hv), fun x h1 h2 h3 h4 v hv => h.same x h1 h2 h3 h4 v (key _ _ ?_ hv)⟩
  · obtain ⟨r1, r2, r3, r4⟩ := h.recs k hk
    exact ⟨fun v hv => r1 v (key _ _ (Ne.symm (hst k (by omega))) hv), fun v hv => r2 v (key _ _ (Ne.symm (hrec k hk).1) hv), fun v hv => r3 v (key _ _ (Ne.symm (hrec k hk).2) hv), r4⟩
  · rintro rfl
    rcases hdat h2 with h5 | h5
    · exact h1 h5
    · exact h4 h5
theorem CutI.now {c : Cfg} {N : Nat} {F : Nat → Prop} {K : Nat → Int} {e : Int} {js : List Nat} {s : Dev} (h : CutI c N F K e js s) {x : Nat} (h1 : x ∉ js) (h2 : c.active ≤ x) (h3 : x < N) (h4 : ¬ F x) : s.now x = K x := h.same x h1 h2 h3 h4 _ (.inr (.inr rfl))
structure Kp (A : Int) (s s' : Dev) : Prop where
  now : ∀ x : Nat, A ≤ x → s'.now x = s.now x
  p : ∀ x : Nat, A ≤ x → ∀ w, s'.P x w → s.P x w
theorem Kp.set {A : Int} {s s' : Dev} (h : Kp A s s') {x : Nat} (hx : A ≤ x) (hs : s.Set x) : s'.Set x := fun w hw => by rw [h.now x hx]; exact hs w (h.p x hx w hw)
theorem Kp.refl {A : Int} {s : Dev} : Kp A s s := ⟨fun _ _ => rfl, fun _ _ _ h => h⟩
theorem Kp.trans {A : Int} {s s' s'' : Dev} (h : Kp A s s') (g : Kp A s' s'') : Kp A s s'' := ⟨fun x hx => (g.now x hx).trans (h.now x hx), fun x hx w hw => h.p x hx w (g.p x hx w hw)⟩
theorem kp_st {A : Int} {s : Dev} {y : Nat} {v : Int} (hy : (y : Int) < A) : Kp A s (s.up.st y v) := ⟨fun x hx => by show upd s.now y v x = _; simp only [upd]; rw [if_neg (by omega)], fun x hx w hw => (p_st hw).resolve_left fun hh => by omega⟩
theorem kp_fl {A : Int} {s : Dev} {y : Nat} : Kp A s (s.up.fl y) := ⟨fun _ _ => rfl, fun _ _ _ hw => p_fl hw⟩
theorem kp_fe {A : Int} {s : Dev} : Kp A s s.up.fe := ⟨fun _ _ => rfl, fun _ _ _ hw => p_fe hw⟩
theorem cut_append {c : Cfg} {N : Nat} {F : Nat → Prop} {K : Nat → Int} {e : Int} {js : List Nat} {s : Dev} {d : Nat} (h : CutI c N F K e js s) (hc : CfgW c) (hNw : (N : Int) = c.words) {i : Nat} (hi : c.active ≤ i ∧ i < N) (hno : i ∉ js) (hf : ¬ F i) (hroom : (js.length : Int) < c.log) :
    OutW (LogS.append ⟨d, c, e, js.length⟩ s i) (fun x s' => x = (0, ⟨d, c, e, js.length + 1⟩) ∧ CutI c N F K e (js ++ [i]) s' ∧ Kp c.active s s') (RecI c N F K) := by
  have hact := hc.act
  have hal := act_le hc
  have hn := h.n
  obtain ⟨r, hr⟩ : ∃ r, r = 16 + 4 * js.length := ⟨_, rfl⟩
  have hrc : (r : Int) = c.record js.length := by simp only [Cfg.record]; omega
  have hki := h.now hno hi.1 hi.2 hf
  unfold LogS.append
  rw [if_neg (by omega), if_neg (by simp only; omega)]
  simp only
  have c1 : CutI c N F K e js (s.up.st (r + 1) i) := h.store _ (by omega) (fun k hk => by omega) (fun k hk => by omega) (fun h => by omega)
  refine outw_store (k := r + 1) (by omega) (by omega) h.reci ?_
  have hld : (s.up.st (r + 1) (i : Int)).load i = K i := by
    rw [load_nat (k := i) rfl (by show i < s.n; omega)]
    show upd s.now (r + 1) (i : Int) i = _
    simp only [upd]; rw [if_neg (by omega), hki]
  rw [hld]
  have c2 : CutI c N F K e js ((s.up.st (r + 1) i).up.st (r + 2) (K i)) := c1.store _ (by omega) (fun k hk => by omega) (fun k hk => by omega) (fun h => by omega)
  refine outw_store (k := r + 2) (by omega) (by show r + 2 < s.n; omega) c1.reci ?_
  obtain ⟨s2, hs2⟩ : ∃ s2, s2 = (s.up.st (r + 1) (i : Int)).up.st (r + 2) (K i) := ⟨_, rfl⟩
  have n2 : s2.n = s.n := by rw [hs2]; rfl
  have k2 : Kp c.active s s2 := by rw [hs2]; exact (kp_st (by omega)).trans (kp_st (by omega))
  have v1 : s2.now (r + 1) = i := by rw [hs2]; show upd (upd s.now (r + 1) _) (r + 2) _ (r + 1) = _; simp only [upd]; rw [if_neg (by omega), if_pos trivial]
  have v2 : s2.now (r + 2) = K i := by rw [hs2]; show upd (upd s.now (r + 1) _) (r + 2) _ (r + 2) = _; simp only [upd]; rw [if_pos trivial]
  rw [← hs2] at c2 ⊢
  refine outw_flush (k := r) hrc (by omega) c2.reci ?_
  have c3 := c2.sub (s' := s2.up.fl r) rfl fun _ _ hw => p_fl hw
  refine outw_fence c3.reci ?_
  have c4 := c3.sub (s' := (s2.up.fl r).up.fe) rfl fun _ _ hw => p_fe hw
  have g1 : (s2.up.fl r).up.fe.Set (r + 1) := set_flfe (by omega)
  have g2 : (s2.up.fl r).up.fe.Set (r + 2) := set_flfe (by omega)
  obtain ⟨s4, hs4⟩ : ∃ s4, s4 = (s2.up.fl r).up.fe := ⟨_, rfl⟩
  have n4 : s4.n = s.n := by rw [hs4]; exact n2
  have k4 : Kp c.active s s4 := by rw [hs4]; exact k2.trans (kp_fl.trans kp_fe)
  have w1 : s4.now (r + 1) = i := by rw [hs4]; exact v1
  have w2 : s4.now (r + 2) = K i := by rw [hs4]; exact v2
  rw [← hs4] at c4 g1 g2 ⊢
  refine outw_store (k := r) hrc (by omega) c4.reci ?_
  -- the stamp stands: each crash leaves it, or not
  have key : ∀ x w, x ≠ r → (s4.up.st r (stampI e js.length)).P x w → s4.P x w := fun x w hx hw => (p_st hw).resolve_left fun hh => hx hh.1
  have full : ∀ t : Dev, t.n = s.n → (∀ x w, t.P x w → (s4.up.st r (stampI e js.length)).P x w) → (∀ w, t.P r w → w = stampI e js.length) → CutI c N F K e (js ++ [i]) t := fun t htn htp htr => by
    refine ⟨htn.trans h.n, h.e1, h.e2, by simp; omega, fun v hv => c4.ep v (key _ _ (by omega) (htp _ _ hv)), fun k hk => ?_, fun k hk1 hk2 v hv => ?_, fun x hx1 hx2 hx3 hx4 v hv => ?_⟩
    · rw [List.length_append, List.length_singleton] at hk
      by_cases hk' : k < js.length
      · obtain ⟨r1, r2, r3, r4⟩ := c4.recs k hk'
        simp only [List.getElem_append_left hk']
        exact ⟨fun v hv => r1 v (key _ _ (by omega) (htp _ _ hv)), fun v hv => r2 v (key _ _ (by omega) (htp _ _ hv)), fun v hv => r3 v (key _ _ (by omega) (htp _ _ hv)), r4⟩
      · obtain rfl : k = js.length := by omega
        simp only [List.getElem_concat_length]
        refine ⟨fun v hv => htr v (by rw [hr]; exact hv), fun v hv => ?_, fun v hv => ?_, hi.1, hi.2⟩
        · rw [← hr] at hv; rw [g1 v (key _ _ (by omega) (htp _ _ hv)), w1]
        · rw [← hr] at hv; rw [g2 v (key _ _ (by omega) (htp _ _ hv)), w2]
    · rw [List.length_append, List.length_singleton] at hk1
      exact c4.stale k (by omega) hk2 v (key _ _ (by omega) (htp _ _ hv))
    · have h1 : x ∉ js := fun hh => hx1 (List.mem_append_left _ hh)
      exact c4.same x h1 hx2 hx3 hx4 v (key _ _ (by omega) (htp _ _ hv))
  have c5 : RecI c N F K (s4.up.st r (stampI e js.length)) := fun t ht => by
    by_cases ht5 : t.now r = stampI e js.length
    · exact ⟨e, js ++ [i], full t (ht.n.trans n4) (fun x w hw => ht.sub hw) fun w hw => by rw [ht.one hw, ht5]⟩
    · refine ⟨e, js, c4.sub (ht.n.trans rfl) fun x w hw => ?_⟩
      rcases p_st (ht.sub hw) with ⟨hx, hw2⟩ | h1
      · subst hx; rw [ht.one hw] at hw2; exact absurd hw2 ht5
      · exact h1
  refine outw_flush (k := r) hrc (by show r < s4.n; omega) c5 ?_
  refine outw_fence (c5.sub rfl fun _ _ hw => p_fl hw) ?_
  refine ⟨rfl, full _ n4 (fun x w hw => p_fl (p_fe hw)) fun w hw => ?_, k4.trans ((kp_st (by omega)).trans (kp_fl.trans kp_fe))⟩
  rw [set_flfe (s := s4.up.st r (stampI e js.length)) (i := r) (x := r) rfl w hw]
  show upd s4.now r _ r = _
  simp only [upd, if_true]
theorem cut_trunc {c : Cfg} {N : Nat} {F F' : Nat → Prop} {K M : Nat → Int} {e : Int} {js : List Nat} {s : Dev} {d : Nat} (h : CutI c N F K e js s) (hc : CfgW c) (hNw : (N : Int) = c.words) (he : e + 1 < 4294967296) (hM : ∀ x : Nat, c.active ≤ x → x < N → ¬ F' x → ∀ w, s.P x w → w = M x) :
    OutW (LogS.truncate ⟨d, c, e, js.length⟩ s) (fun L' s' => L' = (⟨d, c, e, js.length⟩ : LogS).shut ∧ CutI c N F' M L'.epoch [] s' ∧ Kp c.active s s') (Rec2 c N F K F' M) := by
  have hact := hc.act
  have hal := act_w hc
  have hn := h.n
  have h1 := h.e1
  have hlog : 0 ≤ c.log := by have := hc.l1; have := hc.r1; omega
  unfold LogS.truncate LogS.shut
  by_cases h0 : (js.length : Int) = 0
  · simp only [if_pos h0]
    refine ⟨rfl, ⟨h.n, h.e1, h.e2, by simpa using hlog, h.ep, fun k hk => absurd hk (Nat.not_lt_zero _), fun k _ hk v hv => h.stale k (by omega) hk v hv, fun x _ h2 h3 h4 v hv => hM x h2 h3 h4 v hv⟩, Kp.refl⟩
  · simp only [if_neg h0]
    have hem : (e + 1) % 4294967296 = e + 1 := Int.emod_eq_of_lt (by omega) he
    rw [hem]
    refine outw_store (k := 8) rfl (by omega) h.reci.two ?_
    have key : ∀ x w, x ≠ 8 → (s.up.st 8 (e + 1)).P x w → s.P x w := fun x w hx hw => (p_st hw).resolve_left fun hh => hx hh.1
    have full : ∀ t : Dev, t.n = s.n → (∀ x w, t.P x w → (s.up.st 8 (e + 1)).P x w) → (∀ w, t.P 8 w → w = e + 1) → CutI c N F' M (e + 1) [] t := fun t htn htp ht8 => by
      refine ⟨htn.trans h.n, by omega, he, by simpa using hlog, ht8, fun k hk => absurd hk (Nat.not_lt_zero _), fun k _ hk2 v hv => ?_, fun x _ hx2 hx3 hx4 v hv => hM x hx2 hx3 hx4 v (key _ _ (by omega) (htp _ _ hv))⟩
      have hv' := key _ _ (by omega) (htp _ _ hv)
      by_cases hk' : k < js.length
      · rw [(h.recs k hk').1 v hv']
        have := h.len
        have := hc.l2
        simp only [stampI]; omega
      · have := h.stale k (by omega) hk2 v hv'
        omega
    have c1 : Rec2 c N F K F' M (s.up.st 8 (e + 1)) := fun t ht => by
      by_cases ht8 : t.now 8 = e + 1
      · exact .inr ⟨e + 1, [], full t ht.n (fun x w hw => ht.sub hw) fun w hw => by rw [ht.one hw, ht8]⟩
      · refine .inl ⟨e, js, h.sub ht.n fun x w hw => ?_⟩
        rcases p_st (ht.sub hw) with ⟨hx, hw2⟩ | h1
        · subst hx; rw [ht.one hw] at hw2; exact absurd hw2 ht8
        · exact h1
    refine outw_flush (k := 8) rfl (by show 8 < s.n; omega) c1 ?_
    refine outw_fence (c1.sub rfl fun _ _ hw => p_fl hw) ?_
    refine ⟨rfl, full _ rfl (fun x w hw => p_fl (p_fe hw)) fun w hw => ?_, (kp_st (by omega)).trans (kp_fl.trans kp_fe)⟩
    have h8 : upd s.now 8 (e + 1) 8 = e + 1 := by simp only [upd, if_true]
    exact (set_flfe (s := s.up.st 8 (e + 1)) (i := 8) (x := 8) rfl w hw).trans h8
theorem cut_flushAll {c : Cfg} {N : Nat} {F : Nat → Prop} {K : Nat → Int} {e : Int} {js : List Nat} {I : Dev → Prop} (hI : ∀ s, CutI c N F K e js s → I s) : ∀ (ks : List Int) (s : Dev), CutI c N F K e js s → (∀ k ∈ ks, 0 ≤ k ∧ k * 8 < N) →
    OutW (flushAll ks s) (fun _ s' => CutI c N F K e js s' ∧ s'.now = s.now ∧ (∀ x w, s'.P x w → s.P x w) ∧ (∀ x, s'.pk x = if ((x / 8 : Nat) : Int) ∈ ks then s.now x else s.pk x)) I
  | [], s, h, _ => ⟨h, rfl, fun _ _ hw => hw, fun x => by rw [if_neg (by simp)]⟩
  | k :: ks, s, h, hk => by
    obtain ⟨k1, k2⟩ := hk k (by simp)
    simp only [flushAll]
    have hn := h.n
    refine outw_flush (k := (k * 8).toNat) (by omega) (by omega) (hI s h) ?_
    refine (cut_flushAll hI ks (s.up.fl (k * 8).toNat) (h.sub rfl fun _ _ hw => p_fl hw) fun j hj => hk j (by simp [hj])).mono ?_ fun _ h => h
    rintro _ s' ⟨g1, g2, g3, g4⟩
    refine ⟨g1, g2, fun x w hw => p_fl (g3 x w hw), fun x => ?_⟩
    rw [g4, pk_flush]
    show (if ((x / 8 : Nat) : Int) ∈ ks then s.now x else _) = _
    by_cases h1 : ((x / 8 : Nat) : Int) ∈ ks
    · rw [if_pos h1, if_pos (List.mem_cons_of_mem _ h1)]
    · rw [if_neg h1]
      by_cases h2 : x / 8 = (k * 8).toNat / 8
      · rw [if_pos h2, if_pos]
        have : ((x / 8 : Nat) : Int) = k := by omega
        rw [this]; exact List.mem_cons_self
      · rw [if_neg h2, if_neg]
        have : ((x / 8 : Nat) : Int) ≠ k := by omega
        exact fun h => (List.mem_cons.1 h).elim this h1
theorem Rec2.one {c : Cfg} {N : Nat} {F : Nat → Prop} {K : Nat → Int} {s : Dev} (h : Rec2 c N F K F K s) : RecI c N F K s := fun t ht => (h t ht).elim id id
theorem cut_open {c : Cfg} {N : Nat} {F : Nat → Prop} {K : Nat → Int} {e : Int} {js : List Nat} {s : Dev} (h : CutI c N F K e js s) (hc : CfgW c) (hNw : (N : Int) = c.words) (d : Nat) : openL d c s = ⟨d, c, e, js.length⟩ := by
  have hact := hc.act
  have hal := act_w hc
  have hn := h.n
  have e8 : s.load 8 = e := by rw [load_nat (i := 8) (k := 8) rfl (by omega)]; exact h.ep _ (.inr (.inr rfl))
  have hlen := h.len
  have h1 := h.e1
  have h2 := h.e2
  have key : ∀ (f k : Nat), k ≤ js.length → js.length ≤ k + f → (k + f : Int) = c.log → openN s c e f k = js.length := by
    intro f
    induction f with
    | zero => intro k hk hkf _; simp only [openN]; omega
    | succ f ih =>
      intro k hk hkf hkl
      have hld : s.load (c.record k) = s.now (16 + 4 * k) := load_nat (k := 16 + 4 * k) (by simp only [Cfg.record]; omega) (by omega)
      simp only [openN]
      by_cases hlt : k < js.length
      · rw [hld, (h.recs k hlt).1 _ (.inr (.inr rfl)), if_pos rfl]
        exact ih (k + 1) (by omega) (by omega) (by omega)
      · have hs := h.stale k (by omega) (by omega) _ (.inr (.inr rfl))
        rw [hld, if_neg (by simp only [stampI]; omega)]
        omega
  unfold openL
  rw [e8, Int.emod_eq_of_lt h1 h2]
  have := key c.log.toNat 0 (Nat.zero_le _) (by omega) (by omega)
  rw [show openN s c e c.log.toNat 0 = js.length from this]
theorem cut_good {c : Cfg} {N : Nat} {F : Nat → Prop} {K : Nat → Int} {e : Int} {js : List Nat} {s : Dev} (h : CutI c N F K e js s) (hc : CfgW c) (hNw : (N : Int) = c.words) : goodN s c js.length 0 = -1 := by
  have hact := hc.act
  have hal := act_w hc
  have hn := h.n
  have hlen := h.len
  have key : ∀ (f k : Nat), k + f = js.length → goodN s c f k = -1 := by
    intro f
    induction f with
    | zero => intro k _; rfl
    | succ f ih =>
      intro k hk
      obtain ⟨_, r2, _, r4, r5⟩ := h.recs k (by omega)
      have hld : s.load (c.record k + 1) = js[k] := by rw [load_nat (k := 16 + 4 * k + 1) (by simp only [Cfg.record]; omega) (by omega)]; exact r2 _ (.inr (.inr rfl))
      simp only [goodN]
      rw [hld, if_neg (by omega)]
      exact ih (k + 1) (by omega)
  exact key js.length 0 (by omega)
theorem cut_recover {c : Cfg} {N : Nat} {F : Nat → Prop} {K : Nat → Int} {e : Int} {js : List Nat} {s : Dev} {d : Nat} (h : CutI c N F K e js s) (hc : CfgW c) (hNw : (N : Int) = c.words) (hl : s.pow.lim < 0) : ∃ L' s', LogS.undo ⟨d, c, e, js.length⟩ s = .ok L' s' ∧ s'.n = N ∧ ∀ x : Nat, c.active ≤ x → x < N → ¬ F x → s'.now x = K x := by
  have hact := hc.act
  have hal := act_w hc
  have hn := h.n
  have hlen := h.len
  obtain ⟨s1, e1, e2, e3, e4, _⟩ := recN_ne (js := fun k => js.getD k 0) (old := K) hc js.length s hl (by omega) hlen (by omega) (fun k hk => by
    obtain ⟨_, r2, r3, r4, r5⟩ := h.recs k hk
    have hg : js.getD k 0 = js[k] := by simp [hk]
    simp only [hg]
    exact ⟨r2 _ (.inr (.inr rfl)), r3 _ (.inr (.inr rfl)), r4, by omega⟩)
  have hex : ∀ x, (∃ j, j < js.length ∧ js.getD j 0 = x) ↔ x ∈ js := fun x => by
    rw [List.mem_iff_getElem]
    exact ⟨fun ⟨j, hj, e⟩ => ⟨j, hj, by simpa [hj] using e⟩, fun ⟨j, hj, e⟩ => ⟨j, hj, by simpa [hj] using e⟩⟩
  have hnow : ∀ x : Nat, c.active ≤ x → x < N → ¬ F x → s1.now x = K x := fun x h1 h2 h3 => by
    rw [e4]
    by_cases c1 : x ∈ js
    · rw [if_pos ((hex x).2 c1)]
    · rw [if_neg (fun hh => c1 ((hex x).1 hh))]; exact h.now c1 h1 h2 h3
  unfold LogS.undo
  simp only [Int.toNat_natCast]
  rw [e1, then_ok]
  by_cases h0 : (0 : Int) < js.length
  · rw [if_pos h0, fn_then e2, trunc_ne (by rw [fn_lim]; exact e2) (by rw [fn_n, e3]; omega) (by show (js.length : Int) ≠ 0; omega)]
    refine ⟨_, _, rfl, by rw [ff_n, sv_n, fn_n, e3, hn], fun x h1 h2 h3 => ?_⟩
    rw [ff_now, sv_now, fn_now]
    simp only [upd]
    rw [if_neg (by omega)]
    exact hnow x h1 h2 h3
  · rw [if_neg h0, then_ok]
    refine ⟨_, s1, by unfold LogS.truncate; rw [if_pos (by show (js.length : Int) = 0; omega)], e3.trans hn, hnow⟩
end Go.Proofs.YtbfheafpecgphaaGreat
namespace Go.Proofs.YtbfheafpecgphaaGreat
open Go
theorem setw_st {s : Dev} {y x : Nat} {v : Int} (h : s.Set x) (hx : x ≠ y) : (s.up.st y v).Set x := fun w hw => by
  rcases p_st hw with ⟨e, _⟩ | h1
  · exact absurd e hx
  · rw [h w h1]
    show s.now x = upd s.now y v x
    simp only [upd]; rw [if_neg hx]
structure FC (c : Cfg) (N bd : Nat) (F : Nat → Prop) (K : Nat → Int) (e : Int) (js : List Nat) (S : SecS) (s : Dev) : Prop where
  cut : CutI c N F K e js s
  log : S.L = ⟨bd, c, e, js.length⟩
  seen : ∀ i : Int, (mget S.seen i).isSome = true ↔ ∃ j ∈ js, (j : Int) = i
  ff : S.ff = 0 ∧ S.ft = 0
  dirty : ∀ k ∈ S.dirty.map Prod.fst, c.active ≤ k * 8 ∧ k * 8 < N
  set : ∀ x : Nat, c.active ≤ x → x < N → ¬ F x → ((x / 8 : Nat) : Int) ∉ S.dirty.map Prod.fst → s.Set x
theorem FC.begin {c : Cfg} {N bd : Nat} {F : Nat → Prop} {K : Nat → Int} {e : Int} {S : SecS} {s : Dev} (h : CutI c N F K e [] s) (hL : S.L = ⟨bd, c, e, 0⟩) : FC c N bd F K e [] (S.fresh 0 0) s :=
  ⟨h, hL, fun i => by simp [SecS.fresh, mget], ⟨rfl, rfl⟩, fun k hk => by simp [SecS.fresh] at hk, fun x h1 h2 h3 _ w hw => by rw [h.same x (by simp) h1 h2 h3 w hw, h.now (by simp) h1 h2 h3]⟩
theorem FC.store {c : Cfg} (hc : CfgW c) {N bd : Nat} (hN : (N : Int) = c.words) {F : Nat → Prop} {K : Nat → Int} {e : Int} {js : List Nat} {S : SecS} {s : Dev} (h : FC c N bd F K e js S s) {k : Nat} (v : Int) (hk : c.active ≤ k ∧ k < N) (hf : ¬ F k) (hno : k ∉ js) (hroom : (js.length : Int) < c.log) :
    OutW (S.store s k v) (fun x s' => x.1 = 0 ∧ FC c N bd F K e (js ++ [k]) x.2 s' ∧ s'.now k = v ∧ ∀ x : Nat, c.active ≤ x → x ≠ k → s'.now x = s.now x) (RecI c N F K) := by
  have hA := act_w hc
  have hact := hc.act
  have hn := h.cut.n
  have hseen : (mget S.seen (k : Int)).isSome = false := by
    cases hm : (mget S.seen (k : Int)).isSome with
    | false => rfl
    | true => obtain ⟨j, hj, e⟩ := (h.seen k).1 hm; exact absurd (by rwa [show k = j by omega]) hno
  unfold SecS.store
  rw [if_neg (by rw [h.log]; simp only; omega), if_pos ⟨hseen, by rw [h.ff.1, h.ff.2]; omega⟩, h.log]
  refine outw_then (cut_append (d := bd) h.cut hc hN hk hno hf hroom) ?_
  rintro _ s1 ⟨rfl, c1, kp⟩
  simp only
  rw [if_neg (by simp)]
  have hlen := c1.len
  refine outw_store (k := k) rfl (by rw [c1.n]; omega) c1.reci ?_
  refine ⟨rfl, ⟨c1.store v (by omega) (fun q hq => by omega) (fun q hq => by omega) (fun _ => .inl (by simp)), by simp, fun i => ?_, h.ff, fun q hq => ?_, fun x h1 h2 h3 h4 => ?_⟩, ?_, fun x h1 h2 => ?_⟩
  · simp only [mget_mset]
    by_cases hi : i = (k : Int)
    · rw [if_pos hi]; exact ⟨fun _ => ⟨k, by simp, hi.symm⟩, fun _ => rfl⟩
    · rw [if_neg hi, h.seen]
      exact ⟨fun ⟨j, hj, e⟩ => ⟨j, List.mem_append_left _ hj, e⟩, fun ⟨j, hj, e⟩ => by
        rcases List.mem_append.1 hj with hj | hj
        · exact ⟨j, hj, e⟩
        · rw [List.mem_singleton.1 hj] at e; exact absurd e.symm hi⟩
  · rcases mset_keyI.1 hq with e | e
    · subst e; omega
    · exact h.dirty q e
  · rw [mset_keyI] at h4
    exact setw_st (kp.set h1 (h.set x h1 h2 h3 fun hd => h4 (.inr hd))) (fun e => h4 (.inl (by subst e; omega)))
  · show upd s1.now k v k = v
    simp only [upd, if_true]
  · show upd s1.now k v x = s.now x
    simp only [upd]
    rw [if_neg h2]; exact kp.now x h1
theorem cut_commitF {c : Cfg} {N : Nat} {F F' : Nat → Prop} {K : Nat → Int} {e : Int} {js : List Nat} {s : Dev} {S : SecS} {d : Nat} (h : CutI c N F K e js s) (hc : CfgW c) (hNw : (N : Int) = c.words) (he : e + 1 < 4294967296) (hL : S.L = ⟨d, c, e, js.length⟩) (hd : ∀ k ∈ S.dirty.map Prod.fst, 0 ≤ k ∧ k * 8 < N) (hset : ∀ x : Nat, c.active ≤ x → x < N → ¬ F' x → ((x / 8 : Nat) : Int) ∉ S.dirty.map Prod.fst → s.Set x) :
    OutW (S.commit s) (fun S' s' => S' = { S with L := S.L.shut } ∧ CutI c N F' s.now S.L.shut.epoch [] s' ∧ (∀ x : Nat, c.active ≤ x → x < N → s'.now x = s.now x)) (Rec2 c N F K F' s.now) := by
  have hmem : ∀ k, k ∈ sortI (S.dirty.map Prod.fst) ↔ k ∈ S.dirty.map Prod.fst := fun k => List.mem_mergeSort
  unfold SecS.commit
  refine outw_then (cut_flushAll (I := Rec2 c N F K F' s.now) (fun s hs => hs.reci.two) _ s h fun k hk => hd k ((hmem k).1 hk)) ?_
  rintro _ s1 ⟨g1, g2, g3, g4⟩
  have fin : ∀ s2 : Dev, CutI c N F K e js s2 → s2.now = s.now → (∀ x : Nat, c.active ≤ x → x < N → ¬ F' x → s2.Set x) → OutW ((S.L.truncate s2).then fun L s => Out.ok { S with L := L } s) (fun S' s' => S' = { S with L := S.L.shut } ∧ CutI c N F' s.now S.L.shut.epoch [] s' ∧ (∀ x : Nat, c.active ≤ x → x < N → s'.now x = s.now x)) (Rec2 c N F K F' s.now) := fun s2 h2 hn2 hs2 => by
    rw [hL]
    refine outw_then (cut_trunc (F' := F') (M := s.now) h2 hc hNw he fun x h3 h4 h5 w hw => by rw [← hn2]; exact hs2 x h3 h4 h5 w hw) ?_
    rintro L' s3 ⟨rfl, g6, g7⟩
    exact ⟨rfl, g6, fun x h3 _ => by rw [g7.now x h3, hn2]⟩
  by_cases hdl : 0 < S.dirty.length
  · rw [if_pos hdl]
    refine outw_fence g1.reci.two (fin _ (g1.sub rfl fun _ _ hw => p_fe hw) g2 fun x h3 h4 h5 => ?_)
    by_cases hx : ((x / 8 : Nat) : Int) ∈ S.dirty.map Prod.fst
    · exact set_pk (by rw [g4, if_pos ((hmem _).2 hx), g2])
    · intro w hw
      rw [hset x h3 h4 h5 hx w (g3 x w (p_fe hw))]
      exact (congrFun g2 x).symm
  · rw [if_neg hdl, then_ok]
    refine fin s1 g1 g2 fun x h3 h4 h5 w hw => ?_
    have hd0 : S.dirty = [] := List.length_eq_zero_iff.1 (by omega)
    rw [hset x h3 h4 h5 (by rw [hd0]; simp) w (g3 x w hw), g2]
theorem FC.wrN {c : Cfg} (hc : CfgW c) {N bd : Nat} (hN : (N : Int) = c.words) {F : Nat → Prop} {K : Nat → Int} {e : Int} : ∀ (l : List Int) (i : Nat) (js : List Nat) (S : SecS) (s : Dev), FC c N bd F K e js S s → c.active ≤ i → i + l.length ≤ N → (∀ x : Nat, i ≤ x → x < i + l.length → ¬ F x) → (∀ j ∈ js, j < i) → (js.length : Int) + l.length ≤ c.log →
    OutW (writeN secOp l i s S) (fun x s' => x.1 = 0 ∧ (∃ js', FC c N bd F K e js' x.2 s') ∧ ∀ x : Nat, c.active ≤ x → s'.now x = if i ≤ x ∧ x < i + l.length then l.getD (x - i) 0 else s.now x) (RecI c N F K)
  | [], i, js, S, s, h, _, _, _, _, _ => ⟨rfl, ⟨js, h⟩, fun x _ => by rw [if_neg (by simp only [List.length_nil]; omega)]⟩
  | v :: t, i, js, S, s, h, h1, h2, h3, h4, h5 => by
    simp only [List.length_cons] at h2 h3 h5
    have hld : s.load i = s.now i := load_nat rfl (by rw [h.cut.n]; omega)
    have fin : ∀ (s1 s' : Dev), (∀ x : Nat, c.active ≤ x → s1.now x = if x = i then v else s.now x) → (∀ x : Nat, c.active ≤ x → s'.now x = if i + 1 ≤ x ∧ x < i + 1 + t.length then t.getD (x - (i + 1)) 0 else s1.now x) → ∀ x : Nat, c.active ≤ x → s'.now x = if i ≤ x ∧ x < i + (v :: t).length then (v :: t).getD (x - i) 0 else s.now x := fun s1 s' g1 g2 x hx => by
      rw [g2 x hx, List.length_cons]
      by_cases e : x = i
      · subst e
        rw [if_neg (by omega), g1 x hx, if_pos rfl, if_pos (by omega), Nat.sub_self]; rfl
      · by_cases hr : i + 1 ≤ x ∧ x < i + 1 + t.length
        · rw [if_pos hr, if_pos (by omega), show x - i = (x - (i + 1)) + 1 by omega]; rfl
        · rw [if_neg hr, g1 x hx, if_neg e, if_neg (by omega)]
    unfold writeN
    by_cases he : s.load i = v
    · rw [if_pos he]
      refine (FC.wrN hc hN t (i + 1) js S s h (by omega) (by omega) (fun x a b => h3 x (by omega) (by omega)) (fun j hj => by have := h4 j hj; omega) (by omega)).mono (fun x s' ⟨a1, a2, a3⟩ => ⟨a1, a2, fin s s' (fun x hx => ?_) a3⟩) (fun _ h => h)
      split
      · rename_i e; rw [e, ← hld, he]
      · rfl
    · rw [if_neg he]
      refine outw_then (h.store hc hN v ⟨h1, by omega⟩ (h3 i (Nat.le_refl _) (by omega)) (fun hm => by have := h4 i hm; omega) (by omega)) fun x s1 ⟨a1, a2, a3, a4⟩ => ?_
      rw [if_neg (by rw [a1]; simp)]
      refine (FC.wrN hc hN t (i + 1) (js ++ [i]) x.2 s1 a2 (by omega) (by omega) (fun x a b => h3 x (by omega) (by omega)) (fun j hj => by
        rcases List.mem_append.1 hj with hj | hj
        · have := h4 j hj; omega
        · rw [List.mem_singleton.1 hj]; omega) (by rw [List.length_append, List.length_singleton]; omega)).mono (fun x s' ⟨b1, b2, b3⟩ => ⟨b1, b2, fin s1 s' (fun x hx => ?_) b3⟩) (fun _ h => h)
      split
      · rename_i e; rw [e]; exact a3
      · rename_i e; exact a4 x hx e
theorem CutI.cong {c : Cfg} {N : Nat} {F : Nat → Prop} {K K' : Nat → Int} {e : Int} {js : List Nat} {s : Dev} (h : CutI c N F K e js s) (hk : ∀ x : Nat, c.active ≤ x → x < N → K x = K' x) : CutI c N F K' e js s :=
  ⟨h.n, h.e1, h.e2, h.len, h.ep, fun k hk2 => by
    obtain ⟨r1, r2, r3, r4, r5⟩ := h.recs k hk2
    exact ⟨r1, r2, fun v hv => by rw [r3 v hv, hk _ r4 r5], r4, r5⟩, h.stale, fun x h1 h2 h3 h4 v hv => by rw [h.same x h1 h2 h3 h4 v hv, hk x h2 h3]⟩
theorem flip_cut {c : Cfg} (hc : CfgW c) {N bd : Nat} (hN : (N : Int) = c.words) {F : Nat → Prop} {K : Nat → Int} {e : Int} {S : SecS} {s : Dev} (h : CutI c N F K e [] s) (he : e + 1 < 4294967296) (hL : S.L = ⟨bd, c, e, 0⟩) {b : Blk} (hl : (b.rts.length : Int) = c.roots) (hF : ∀ x : Nat, c.active ≤ x → (x : Int) < c.active + 2 + c.roots → ¬ F x) :
    ∃ M : Nat → Int, (∀ x : Nat, c.active ≤ x → M x = if (x : Int) < c.active + 2 + c.roots then (b.act :: b.used :: b.rts).getD (x - c.active.toNat) 0 else s.now x) ∧ OutW (flipM c b S s) (fun x s' => x.1 = 0 ∧ ∃ e', CutI c N F M e' [] s') (Rec2 c N F K F M) := by
  have hA := act_w hc
  have hf := frm_b hc (k := 0) (by omega)
  have hr := hc.r1
  have hlog := hc.l1
  refine ⟨fun x => if (x : Int) < c.active + 2 + c.roots then (b.act :: b.used :: b.rts).getD (x - c.active.toNat) 0 else s.now x, fun x _ => rfl, ?_⟩
  have hact : (c.active : Int) = ((c.active.toNat : Nat) : Int) := by omega
  unfold flipM writeM
  have hw : writeN secOp (b.act :: b.used :: b.rts) c.active s (S.fresh 0 0) = writeN secOp (b.act :: b.used :: b.rts) ((c.active.toNat : Nat) : Int) s (S.fresh 0 0) := by rw [← hact]
  rw [hw]
  refine outw_then ((FC.wrN hc hN (b.act :: b.used :: b.rts) c.active.toNat [] (S.fresh 0 0) s (FC.begin h hL) (by omega) (by simp only [List.length_cons]; omega) (fun x a1 a2 => hF x (by omega) (by simp only [List.length_cons] at a2; omega)) (fun j hj => by cases hj) (by simp only [List.length_cons, List.length_nil]; omega)).mono (fun _ _ h => h) (fun _ h => h.two)) ?_
  rintro ⟨a, S1⟩ s1 ⟨h0, ⟨js, h1⟩, h2⟩
  simp only at h0
  subst h0
  simp only [List.length_cons] at h2
  rw [if_neg (by simp)]
  have hM : ∀ x : Nat, c.active ≤ x → x < N → s1.now x = if (x : Int) < c.active + 2 + c.roots then (b.act :: b.used :: b.rts).getD (x - c.active.toNat) 0 else s.now x := fun x hx _ => by
    rw [h2 x hx]
    by_cases hx2 : (x : Int) < c.active + 2 + c.roots
    · rw [if_pos (by omega), if_pos hx2]
    · rw [if_neg (by omega), if_neg hx2]
  refine outw_then ((cut_commitF (F' := F) h1.cut hc hN he h1.log (fun k hk => by have := h1.dirty k hk; omega) h1.set).mono (fun _ _ h => h) (fun t ht t' ht' => ?_)) ?_
  · rcases ht t' ht' with hx | ⟨e', js', hx⟩
    · exact .inl hx
    · exact .inr ⟨e', js', hx.cong hM⟩
  · rintro S2 s2 ⟨_, g1, _⟩
    exact ⟨rfl, _, g1.cong hM⟩
end Go.Proofs.YtbfheafpecgphaaGreat
namespace Go.Proofs.YtbfheafpecgphaaGreat
open Go
structure UQ (s : Dev) : Prop where
  u : U64 s
  k : ∀ x, 0 ≤ s.kept x ∧ s.kept x < 18446744073709551616
  q : ∀ k f, s.q k = some f → ∀ i, 0 ≤ f i ∧ f i < 18446744073709551616
theorem UQ.st {s : Dev} (h : UQ s) {i : Nat} {v : Int} (hv : 0 ≤ v ∧ v < 18446744073709551616) : UQ (s.up.st i v) := ⟨fun x => by
  show 0 ≤ upd s.now i v x ∧ upd s.now i v x < _
  unfold upd; split
  · exact hv
  · exact h.u x, h.k, h.q⟩
theorem UQ.fl {s : Dev} (h : UQ s) (i : Nat) : UQ (s.up.fl i) := ⟨h.u, h.k, fun k f e => by
  have e : upd s.q (i / 8) (some fun k => s.now (i / 8 * 8 + k)) k = some f := e
  unfold upd at e
  split at e
  · cases e; exact fun j => h.u _
  · exact h.q k f e⟩
theorem UQ.fk {s : Dev} (h : UQ s) (x : Nat) : 0 ≤ fkept s.kept s.q x ∧ fkept s.kept s.q x < 18446744073709551616 := by
  unfold fkept
  split
  · rename_i f e; exact h.q _ _ e _
  · exact h.k x
theorem UQ.fe {s : Dev} (h : UQ s) : UQ s.up.fe := ⟨h.u, h.fk, fun _ _ e => by cases e⟩
theorem UQ.crash {s : Dev} (h : UQ s) (ch : Nat → Int) : U64 (s.crash ch) := fun x => by
  show 0 ≤ (if ch x % 3 = 1 then fkept s.kept s.q x else if ch x % 3 = 2 then s.now x else s.kept x) ∧ (if ch x % 3 = 1 then fkept s.kept s.q x else if ch x % 3 = 2 then s.now x else s.kept x) < _
  split
  · exact h.fk x
  · split
    · exact h.u x
    · exact h.k x
theorem uq_store {s s' : Dev} {i v a : Int} (h : UQ s) (hv : 0 ≤ v ∧ v < 18446744073709551616) (e : s.store i v = .ok a s') : UQ s' := by
  unfold Dev.store at e
  split at e
  · cases e; exact h
  · split at e
    · cases e
    · cases e; exact h.st hv
theorem uq_flush {s s' : Dev} {i a : Int} (h : UQ s) (e : s.flush i = .ok a s') : UQ s' := by
  unfold Dev.flush at e
  split at e
  · cases e; exact h
  · split at e
    · cases e
    · cases e; exact h.fl _
theorem uq_fence {s s' : Dev} {a : Unit} (h : UQ s) (e : s.fence = .ok a s') : UQ s' := by
  unfold Dev.fence at e
  split at e
  · cases e
  · cases e; exact h.fe
theorem uq_append {L : LogS} {s s' : Dev} {i : Int} {r : Int × LogS} (hL : LogW L) (hn : s.n ≤ 1000000) (h : UQ s) (e : L.append s i = .ok r s') : UQ s' := by
  unfold LogS.append at e
  split at e
  · cases e; exact h
  rename_i hi
  split at e
  · cases e; exact h
  have l1 := hL.e1; have l2 := hL.e2; have l3 := hL.n1; have l4 := hL.n2; have l5 := hL.c.l2
  obtain ⟨_, s1, e1, e⟩ := then_inv e
  have h1 := uq_store h ⟨by omega, by omega⟩ e1
  obtain ⟨_, s2, e2, e⟩ := then_inv e
  have h2 := uq_store h1 (h1.u.load i) e2
  obtain ⟨_, s3, e3, e⟩ := then_inv e
  have h3 := uq_flush h2 e3
  obtain ⟨_, s4, e4, e⟩ := then_inv e
  have h4 := uq_fence h3 e4
  obtain ⟨_, s5, e5, e⟩ := then_inv e
  have h5 := uq_store h4 (by simp only [stampI]; omega) e5
  obtain ⟨_, s6, e6, e⟩ := then_inv e
  have h6 := uq_flush h5 e6
  obtain ⟨_, s7, e7, e⟩ := then_inv e
  have h7 := uq_fence h6 e7
  cases e; exact h7
theorem uq_sstore {S : SecS} {s s' : Dev} {i v : Int} {r : Int × SecS} (hL : LogW S.L) (hn : s.n ≤ 1000000) (h : UQ s) (hv : 0 ≤ v ∧ v < 18446744073709551616) (e : S.store s i v = .ok r s') : UQ s' := by
  unfold SecS.store at e
  split at e
  · cases e; exact h
  split at e
  · obtain ⟨x, t, e1, e⟩ := then_inv e
    have h1 := uq_append hL hn h e1
    split at e
    · cases e; exact h1
    · obtain ⟨y, u, e2, e⟩ := then_inv e
      cases e; exact uq_store h1 hv e2
  · obtain ⟨y, u, e2, e⟩ := then_inv e
    cases e; exact uq_store h hv e2
theorem uq_writeN : ∀ (l : List Int) (i : Int) (S S' : SecS) (s s' : Dev) (a : Int), (∀ v ∈ l, 0 ≤ v ∧ v < 18446744073709551616) → SecW S → UQ s → s.n ≤ 1000000 → writeN secOp l i s S = .ok (a, S') s' → UQ s' ∧ s'.n = s.n ∧ SecW S'
  | [], i, S, S', s, s', a, _, hS, h, _, e => by cases e; exact ⟨h, rfl, hS⟩
  | v :: vs, i, S, S', s, s', a, hv, hS, h, hn, e => by
    unfold writeN at e
    split at e
    · exact uq_writeN vs _ S S' s s' a (fun x hx => hv x (List.mem_cons_of_mem _ hx)) hS h hn e
    · obtain ⟨⟨x, S1⟩, s1, e1, e⟩ := then_inv e
      have h1 := uq_sstore hS.L hn h (hv v (List.mem_cons_self ..)) e1
      have hca := hS.L.c.act
      have k3 : SecW S1 := store_w hS hn (by have := hS.L.c.l1; have := hS.L.c.r1; omega) e1 (store_lw hS.L e1)
      have hn1 := (sstore_u64 hS h.u hn (hv v (List.mem_cons_self ..)) e1).2
      split at e
      · cases e; exact ⟨h1, hn1, k3⟩
      · obtain ⟨g1, g2, g3⟩ := uq_writeN vs _ S1 S' s1 s' a (fun x hx => hv x (List.mem_cons_of_mem _ hx)) k3 h1 (by omega) e
        exact ⟨g1, g2.trans hn1, g3⟩
theorem uq_flushAll : ∀ (l : List Int) (s s' : Dev), UQ s → flushAll l s = .ok () s' → UQ s'
  | [], s, s', h, e => by cases e; exact h
  | k :: ks, s, s', h, e => by
    unfold flushAll at e
    obtain ⟨_, s1, e1, e⟩ := then_inv e
    exact uq_flushAll ks s1 s' (uq_flush h e1) e
theorem uq_trunc {L L' : LogS} {s s' : Dev} (h : UQ s) (e : L.truncate s = .ok L' s') : UQ s' := by
  unfold LogS.truncate at e
  split at e
  · cases e; exact h
  · obtain ⟨_, s1, e1, e⟩ := then_inv e
    obtain ⟨_, s2, e2, e⟩ := then_inv e
    obtain ⟨_, s3, e3, e⟩ := then_inv e
    cases e; exact uq_fence (uq_flush (uq_store h ⟨by omega, by omega⟩ e1) e2) e3
theorem uq_commit {S S' : SecS} {s s' : Dev} (h : UQ s) (e : S.commit s = .ok S' s') : UQ s' := by
  unfold SecS.commit at e
  obtain ⟨_, s1, e1, e⟩ := then_inv e
  obtain ⟨_, s2, e2, e⟩ := then_inv e
  obtain ⟨L, s3, e3, e⟩ := then_inv e
  cases e
  have h1 := uq_flushAll _ _ _ h e1
  refine uq_trunc ?_ e3
  split at e2
  · exact uq_fence h1 e2
  · cases e2; exact h1
theorem uq_flip {c : Cfg} {b : Blk} {S S' : SecS} {s s' : Dev} (hb : ∀ v ∈ b.act :: b.used :: b.rts, 0 ≤ v ∧ v < 18446744073709551616) (hL : LogW S.L) (h : UQ s) (hn : s.n ≤ 1000000) (e : flipM c b S s = .ok (0, S') s') : UQ s' := by
  unfold flipM writeM at e
  obtain ⟨⟨x, S1⟩, s1, e1, e⟩ := then_inv e
  obtain ⟨g1, g2, g3⟩ := uq_writeN _ _ _ _ _ _ _ hb (fresh_w hL 0 0) h hn e1
  split at e
  · rename_i hx
    obtain ⟨S2, s2, e2, e⟩ := then_inv e
    cases e; exact absurd rfl hx
  · obtain ⟨S2, s2, e2, e⟩ := then_inv e
    cases e; exact uq_commit g1 e2
end Go.Proofs.YtbfheafpecgphaaGreat
namespace Go.Proofs.YtbfheafpecgphaaGreat
open Go
theorem then_offi {α β : Type} {m : Out α} {f : α → Dev → Out β} {s' : Dev} (h : m.then f = .off s') : m = .off s' ∨ ∃ a s1, m = .ok a s1 ∧ f a s1 = .off s' := by
  cases m with
  | ok a s1 => exact .inr ⟨a, s1, rfl, h⟩
  | off s => exact .inl (by cases h; rfl)
theorem uf_store {s s' : Dev} {i v : Int} (h : UQ s) (e : s.store i v = .off s') : UQ s' := by
  unfold Dev.store at e
  split at e
  · cases e
  · split at e
    · cases e; exact h
    · cases e
theorem uf_flush {s s' : Dev} {i : Int} (h : UQ s) (e : s.flush i = .off s') : UQ s' := by
  unfold Dev.flush at e
  split at e
  · cases e
  · split at e
    · cases e; exact h
    · cases e
theorem uf_fence {s s' : Dev} (h : UQ s) (e : s.fence = .off s') : UQ s' := by
  unfold Dev.fence at e
  split at e
  · cases e; exact h
  · cases e
theorem uf_append {L : LogS} {s s' : Dev} {i : Int} (hL : LogW L) (hn : s.n ≤ 1000000) (h : UQ s) (e : L.append s i = .off s') : UQ s' := by
  unfold LogS.append at e
  split at e
  · cases e
  rename_i hi
  split at e
  · cases e
  have l1 := hL.e1; have l2 := hL.e2; have l3 := hL.n1; have l4 := hL.n2; have l5 := hL.c.l2
  rcases then_offi e with e | ⟨_, s1, e1, e⟩
  · exact uf_store h e
  have h1 := uq_store h ⟨by omega, by omega⟩ e1
  rcases then_offi e with e | ⟨_, s2, e2, e⟩
  · exact uf_store h1 e
  have h2 := uq_store h1 (h1.u.load i) e2
  rcases then_offi e with e | ⟨_, s3, e3, e⟩
  · exact uf_flush h2 e
  have h3 := uq_flush h2 e3
  rcases then_offi e with e | ⟨_, s4, e4, e⟩
  · exact uf_fence h3 e
  have h4 := uq_fence h3 e4
  rcases then_offi e with e | ⟨_, s5, e5, e⟩
  · exact uf_store h4 e
  have h5 := uq_store h4 (by simp only [stampI]; omega) e5
  rcases then_offi e with e | ⟨_, s6, e6, e⟩
  · exact uf_flush h5 e
  have h6 := uq_flush h5 e6
  rcases then_offi e with e | ⟨_, s7, e7, e⟩
  · exact uf_fence h6 e
  cases e
theorem uf_sstore {S : SecS} {s s' : Dev} {i v : Int} (hL : LogW S.L) (hn : s.n ≤ 1000000) (h : UQ s) (hv : 0 ≤ v ∧ v < 18446744073709551616) (e : S.store s i v = .off s') : UQ s' := by
  unfold SecS.store at e
  split at e
  · cases e
  split at e
  · rcases then_offi e with e | ⟨x, t, e1, e⟩
    · exact uf_append hL hn h e
    have h1 := uq_append hL hn h e1
    split at e
    · cases e
    · rcases then_offi e with e | ⟨y, u, e2, e⟩
      · exact uf_store h1 e
      cases e
  · rcases then_offi e with e | ⟨y, u, e2, e⟩
    · exact uf_store h e
    cases e
theorem uf_writeN : ∀ (l : List Int) (i : Int) (S : SecS) (s s' : Dev), (∀ v ∈ l, 0 ≤ v ∧ v < 18446744073709551616) → SecW S → UQ s → s.n ≤ 1000000 → writeN secOp l i s S = .off s' → UQ s'
  | [], i, S, s, s', _, hS, h, _, e => by cases e
  | v :: vs, i, S, s, s', hv, hS, h, hn, e => by
    unfold writeN at e
    split at e
    · exact uf_writeN vs _ S s s' (fun x hx => hv x (List.mem_cons_of_mem _ hx)) hS h hn e
    · rcases then_offi e with e | ⟨⟨x, S1⟩, s1, e1, e⟩
      · exact uf_sstore hS.L hn h (hv v (List.mem_cons_self ..)) e
      have h1 := uq_sstore hS.L hn h (hv v (List.mem_cons_self ..)) e1
      have hca := hS.L.c.act
      have k3 : SecW S1 := store_w hS hn (by have := hS.L.c.l1; have := hS.L.c.r1; omega) e1 (store_lw hS.L e1)
      have hn1 := (sstore_u64 hS h.u hn (hv v (List.mem_cons_self ..)) e1).2
      split at e
      · cases e
      · exact uf_writeN vs _ S1 s1 s' (fun x hx => hv x (List.mem_cons_of_mem _ hx)) k3 h1 (by omega) e
theorem uf_flushAll : ∀ (l : List Int) (s s' : Dev), UQ s → flushAll l s = .off s' → UQ s'
  | [], s, s', h, e => by cases e
  | k :: ks, s, s', h, e => by
    unfold flushAll at e
    rcases then_offi e with e | ⟨_, s1, e1, e⟩
    · exact uf_flush h e
    exact uf_flushAll ks s1 s' (uq_flush h e1) e
theorem uf_trunc {L : LogS} {s s' : Dev} (h : UQ s) (e : L.truncate s = .off s') : UQ s' := by
  unfold LogS.truncate at e
  split at e
  · cases e
  · rcases then_offi e with e | ⟨_, s1, e1, e⟩
    · exact uf_store h e
    have h1 := uq_store h ⟨by omega, by omega⟩ e1
    rcases then_offi e with e | ⟨_, s2, e2, e⟩
    · exact uf_flush h1 e
    have h2 := uq_flush h1 e2
    rcases then_offi e with e | ⟨_, s3, e3, e⟩
    · exact uf_fence h2 e
    cases e
theorem uf_commit {S : SecS} {s s' : Dev} (h : UQ s) (e : S.commit s = .off s') : UQ s' := by
  unfold SecS.commit at e
  rcases then_offi e with e | ⟨_, s1, e1, e⟩
  · exact uf_flushAll _ _ _ h e
  have h1 := uq_flushAll _ _ _ h e1
  rcases then_offi e with e | ⟨_, s2, e2, e⟩
  · split at e
    · exact uf_fence h1 e
    · cases e
  have h2 : UQ s2 := by
    split at e2
    · exact uq_fence h1 e2
    · cases e2; exact h1
  rcases then_offi e with e | ⟨L, s3, e3, e⟩
  · exact uf_trunc h2 e
  cases e
theorem uq_recN {c : Cfg} : ∀ (k : Nat) (s s' : Dev), UQ s → recN undoS c k s = .ok () s' → UQ s'
  | 0, s, s', h, e => by cases e; exact h
  | k + 1, s, s', h, e => by
    unfold recN at e
    obtain ⟨_, s1, e1, e⟩ := then_inv e
    unfold undoS at e1
    obtain ⟨_, s2, e2, e1⟩ := then_inv e1
    obtain ⟨_, s3, e3, e1⟩ := then_inv e1
    cases e1
    exact uq_recN k _ s' (uq_flush (uq_store h (h.u.load _) e2) e3) e
theorem uf_recN {c : Cfg} : ∀ (k : Nat) (s s' : Dev), UQ s → recN undoS c k s = .off s' → UQ s'
  | 0, s, s', h, e => by cases e
  | k + 1, s, s', h, e => by
    unfold recN at e
    rcases then_offi e with e | ⟨_, s1, e1, e⟩
    · unfold undoS at e
      rcases then_offi e with e | ⟨_, s2, e2, e⟩
      · exact uf_store h e
      rcases then_offi e with e | ⟨_, s3, e3, e⟩
      · exact uf_flush (uq_store h (h.u.load _) e2) e
      cases e
    unfold undoS at e1
    obtain ⟨_, s2, e2, e1⟩ := then_inv e1
    obtain ⟨_, s3, e3, e1⟩ := then_inv e1
    cases e1
    exact uf_recN k _ s' (uq_flush (uq_store h (h.u.load _) e2) e3) e
theorem uq_undo {L L' : LogS} {s s' : Dev} (h : UQ s) (e : L.undo s = .ok L' s') : UQ s' := by
  unfold LogS.undo at e
  obtain ⟨_, s1, e1, e⟩ := then_inv e
  have h1 := uq_recN _ _ _ h e1
  obtain ⟨_, s2, e2, e⟩ := then_inv e
  refine uq_trunc ?_ e
  split at e2
  · exact uq_fence h1 e2
  · cases e2; exact h1
theorem uf_undo {L : LogS} {s s' : Dev} (h : UQ s) (e : L.undo s = .off s') : UQ s' := by
  unfold LogS.undo at e
  rcases then_offi e with e | ⟨_, s1, e1, e⟩
  · exact uf_recN _ _ _ h e
  have h1 := uq_recN _ _ _ h e1
  rcases then_offi e with e | ⟨_, s2, e2, e⟩
  · split at e
    · exact uf_fence h1 e
    · cases e
  refine uf_trunc ?_ e
  split at e2
  · exact uq_fence h1 e2
  · cases e2; exact h1
theorem uf_flip {c : Cfg} {b : Blk} {S : SecS} {s s' : Dev} (hb : ∀ v ∈ b.act :: b.used :: b.rts, 0 ≤ v ∧ v < 18446744073709551616) (hL : LogW S.L) (h : UQ s) (hn : s.n ≤ 1000000) (e : flipM c b S s = .off s') : UQ s' := by
  unfold flipM writeM at e
  rcases then_offi e with e | ⟨⟨x, S1⟩, s1, e1, e⟩
  · exact uf_writeN _ _ _ _ _ hb (fresh_w hL 0 0) h hn e
  obtain ⟨g1, g2, g3⟩ := uq_writeN _ _ _ _ _ _ _ hb (fresh_w hL 0 0) h hn e1
  split at e
  · rcases then_offi e with e | ⟨S2, s2, e2, e⟩
    · unfold SecS.abort at e
      rcases then_offi e with e | ⟨S2, s2, e2, e⟩
      · exact uf_undo g1 e
      cases e
    cases e
  · rcases then_offi e with e | ⟨S2, s2, e2, e⟩
    · exact uf_commit g1 e
    cases e
end Go.Proofs.YtbfheafpecgphaaGreat
namespace Go.Proofs.YtbfheafpecgphaaGreat
open Go
abbrev CutJ (c : Cfg) (N : Nat) (lo : Int) (K : Nat → Int) (e : Int) (s : Dev) : Prop := UQ s ∧ CutI c N (fun x => lo ≤ (x : Int)) K e [] s
theorem cutJ_stab {c : Cfg} (hc : CfgW c) {N : Nat} {lo hi : Int} {K : Nat → Int} {e : Int} (h0 : c.active ≤ lo) (h1 : hi ≤ N) : Stab lo hi (CutJ c N lo K e) where
  n := fun s h => ⟨by have := (act_w hc).1; omega, by rw [h.2.n]; exact h1⟩
  st := fun s i v h a1 a2 a3 a4 => ⟨h.1.st ⟨a3, a4⟩, by
    have hA := act_w hc
    have hact := hc.act
    exact h.2.store v (by omega) (fun k hk => by omega) (fun k hk => absurd hk (Nat.not_lt_zero _)) (fun _ => .inr (by show lo ≤ ((i.toNat : Nat) : Int); omega))⟩
  fl := fun s i h _ _ => ⟨h.1.fl _, h.2.sub rfl fun _ _ hw => p_fl hw⟩
  fe := fun s h => ⟨h.1.fe, h.2.sub rfl fun _ _ hw => p_fe hw⟩
theorem cut_dur {c : Cfg} {N : Nat} {lo fr : Int} {K : Nat → Int} {e : Int} {s : Dev} (h : CutI c N (fun x => lo ≤ (x : Int)) K e [] s) (hd : Dur lo fr s) : CutI c N (fun x => lo ≤ (x : Int) ∧ ¬ (x : Int) < fr) s.now e [] s := by
  refine ⟨h.n, h.e1, h.e2, h.len, h.ep, fun k hk => absurd hk (Nat.not_lt_zero _), h.stale, fun x h1 h2 h3 h4 v hv => ?_⟩
  by_cases hl : lo ≤ (x : Int)
  · have hf : (x : Int) < fr := by
      apply Classical.byContradiction; intro hn; exact h4 ⟨hl, hn⟩
    obtain ⟨g1, g2⟩ := hd x hl hf
    rcases hv with hv | hv | hv
    · rw [hv, g1]
    · rw [hv]
      show fkept s.kept s.q x = s.now x
      unfold fkept; rw [g2]; exact g1
    · exact hv
  · rw [h.same x h1 h2 h3 hl v hv, h.now h1 h2 h3 hl]
def CutR (c : Cfg) (N bd : Nat) (b : Blk) (m0 : Int → Int) (L : List Int) (K : Nat → Int) (s : Dev) : Prop :=
  RecI c N (fun x => c.frm 1 ≤ (x : Int)) K s ∨ ∃ (X : ColS) (s1 : Dev) (M : Nat → Int), DI c b m0 L (c.frm 1) b.rts X s1 ∧ s1.n = N ∧ U64 s1 ∧ (∀ x : Nat, c.active ≤ x → (x : Int) < c.frm 1 → s1.now x = K x) ∧
    (∀ x : Nat, c.active ≤ x → M x = if (x : Int) < c.active + 2 + c.roots then (X.block.act :: X.block.used :: X.block.rts).getD (x - c.active.toNat) 0 else s1.now x) ∧ Rec2 c N (fun x => c.frm 1 ≤ (x : Int) ∧ ¬ (x : Int) < X.free) s1.now (fun x => c.frm 1 ≤ (x : Int) ∧ ¬ (x : Int) < X.free) M s
theorem collect_cut {c : Cfg} (hc : CfgW c) {N bd : Nat} (hN : (N : Int) = c.words) {S : SecS} {s : Dev} {b : Blk} (hb : s.block c = (b, 0)) (hb0 : b.act = 0) {L : List Int} (hh : HeapW c b s.load L) (hq : UQ s) {K : Nat → Int} {e : Int} (h : CutI c N (fun x => c.frm 1 ≤ (x : Int)) K e [] s) (he : e + 1 < 4294967296) (hL : S.L = ⟨bd, c, e, 0⟩) :
    OutW (collectM bd c S s []) (fun _ s' => CutR c N bd b s.load L K s' ∧ UQ s') (fun s' => CutR c N bd b s.load L K s' ∧ UQ s') := by
  have hu := hq.u
  have hA := act_w hc
  have hs1 := hc.s1
  have hbe : b = (s.block c).1 := by rw [hb]
  have hbw : BlkW c b := by rw [hbe]; exact block_w hc hu
  have G : GcH c b s.load L (c.frm 1) (c.frm 1 + c.space) := ⟨hc, hbw, hh, by rw [hb0]; rfl, rfl, fun x => hu.load x⟩
  have hap := G.apart
  have hlo0 := G.lo0
  have hf0 := frm_b hc (k := 0) (by omega)
  have hwl : ∀ w ∈ b.rts, w = 0 ∨ w ∈ L := hh.roots
  have hwb : ∀ v ∈ b.rts, 0 ≤ v ∧ v < 18446744073709551616 := fun v hv => by
    rcases hwl v hv with rfl | hv
    · decide
    · have := heap_b hc hbw hh hv; omega
  have hrl : (b.rts.length : Int) = c.roots := by
    have : (s.block c).2 = 0 := by rw [hb]
    rw [hbe]
    unfold Dev.block at this ⊢
    split at this
    · cases this
    · rename_i hne
      rw [if_neg hne, tab_len]; have := hc.r1; omega
  have hW : ColW (newCol bd c b b.rts) := newCol_w hc hbw (by have := hc.r2; omega) hwb hwb
  have hrun := SI.run G (cutJ_stab (lo := c.frm 1) (K := K) (e := e) hc (by omega) (by omega)) (fun s h => h.1.u) hwl _ _ s (si_new (bd := bd) G rfl _) ⟨hq, h⟩ hW (Nat.lt_succ_self _)
  unfold collectM
  rw [hb]
  rw [if_neg (by simp)]
  rw [List.append_nil]
  show OutW (((newCol bd c b b.rts).run s).then _) _ _
  unfold ColS.run
  cases hr : runN ((newCol bd c b b.rts).meas + 1) (newCol bd c b b.rts) s with
  | off s1 =>
    rw [hr] at hrun
    exact ⟨.inl hrun.1.2.reci, hrun.1.1⟩
  | ok X s1 =>
    rw [hr] at hrun
    obtain ⟨⟨j1, j2⟩, hD, _⟩ := hrun
    have hbl := hD.block G
    have hcd := cut_dur j2 hD.dur
    have hlx : (X.block.rts.length : Int) = c.roots := by rw [hbl]; simp only [List.length_map]; exact hrl
    obtain ⟨M, hM, hfl⟩ := flip_cut hc hN hcd he hL (b := X.block) hlx (fun x h1 h2 hx => by have h3 : c.frm 1 ≤ (x : Int) := hx.1; have h4 := hap.2.2.2.2; omega)
    have hlow : ∀ x : Nat, c.active ≤ x → (x : Int) < c.frm 1 → s1.now x = K x := fun x h1 h2 => j2.now (by simp) h1 (by omega) (fun hx => by have h3 : c.frm 1 ≤ (x : Int) := hx; omega)
    have mk : ∀ s', Rec2 c N (fun x => c.frm 1 ≤ (x : Int) ∧ ¬ (x : Int) < X.free) s1.now (fun x => c.frm 1 ≤ (x : Int) ∧ ¬ (x : Int) < X.free) M s' → CutR c N bd b s.load L K s' := fun s' h => .inr ⟨X, s1, M, hD, j2.n, j1.u, hlow, hM, h⟩
    have hXw := (runN_w _ _ _ _ _ hW hu hr).1
    have hcb := colblk_w hXw
    have hlw : LogW S.L := by
      rw [hL]
      have := hc.l1; have := hc.r1
      exact ⟨hc, j2.e1, j2.e2, by show (0 : Int) ≤ 0; omega, by show (0 : Int) ≤ c.log; omega⟩
    have hn1 : s1.n ≤ 1000000 := by rw [j2.n]; omega
    simp only [then_ok]
    cases hf : flipM c X.block S s1 with
    | off s2 =>
      rw [hf] at hfl
      exact ⟨mk s2 hfl, uf_flip hcb hlw j1 hn1 hf⟩
    | ok x s2 =>
      rw [hf] at hfl
      obtain ⟨a, S2⟩ := x
      obtain ⟨h0, e', hC⟩ := hfl
      simp only at h0
      subst h0
      simp only [then_ok]
      rw [if_neg (by simp)]
      exact ⟨mk s2 fun t ht => .inr (hC.reci t ht), uq_flip hcb hlw j1 hn1 hf⟩
end Go.Proofs.YtbfheafpecgphaaGreat
namespace Go.Proofs.YtbfheafpecgphaaGreat
open Go
theorem cutR_recover {c : Cfg} (hc : CfgW c) {N bd : Nat} (hN : (N : Int) = c.words) {b : Blk} {m0 : Int → Int} {L : List Int} {K : Nat → Int} {s t : Dev} (h : CutR c N bd b m0 L K s) (ht : Left s t) (hl : t.pow.lim < 0) (d : Nat) :
    ∃ e js, openL d c t = ⟨d, c, e, (js : List Nat).length⟩ ∧ goodN t c js.length 0 = -1 ∧ (0 ≤ e ∧ e < 4294967296 ∧ (js.length : Int) ≤ c.log) ∧ ∃ L' s', LogS.undo ⟨d, c, e, js.length⟩ t = .ok L' s' ∧ s'.n = N ∧
      ((∀ x : Nat, c.active ≤ x → x < N → (x : Int) < c.frm 1 → s'.now x = K x) ∨ ∃ (X : ColS) (s1 : Dev), DI c b m0 L (c.frm 1) b.rts X s1 ∧ s1.n = N ∧ U64 s1 ∧
        ∀ x : Nat, c.active ≤ x → x < N → ((x : Int) < c.frm 1 ∨ (x : Int) < X.free) → s'.now x = if (x : Int) < c.active + 2 + c.roots then (X.block.act :: X.block.used :: X.block.rts).getD (x - c.active.toNat) 0 else s1.now x) := by
  have go : ∀ {F : Nat → Prop} {M : Nat → Int} {e : Int} {js : List Nat}, CutI c N F M e js t → openL d c t = ⟨d, c, e, js.length⟩ ∧ goodN t c js.length 0 = -1 ∧ (0 ≤ e ∧ e < 4294967296 ∧ (js.length : Int) ≤ c.log) ∧ ∃ L' s', LogS.undo ⟨d, c, e, js.length⟩ t = .ok L' s' ∧ s'.n = N ∧ ∀ x : Nat, c.active ≤ x → x < N → ¬ F x → s'.now x = M x := fun {F M e js} hI =>
    ⟨cut_open hI hc hN d, cut_good hI hc hN, ⟨hI.e1, hI.e2, hI.len⟩, cut_recover hI hc hN hl⟩
  rcases h with h | ⟨X, s1, M, hD, hn1, hu1, hlow, hM, h⟩
  · obtain ⟨e, js, hI⟩ := h t ht
    obtain ⟨g1, g2, g3, L', s', g4, g5, g6⟩ := go hI
    exact ⟨e, js, g1, g2, g3, L', s', g4, g5, .inl fun x h1 h2 h3 => g6 x h1 h2 (by omega)⟩
  · rcases h t ht with ⟨e, js, hI⟩ | ⟨e, js, hI⟩
    · obtain ⟨g1, g2, g3, L', s', g4, g5, g6⟩ := go hI
      exact ⟨e, js, g1, g2, g3, L', s', g4, g5, .inl fun x h1 h2 h3 => by rw [g6 x h1 h2 (fun hx => by have := hx.1; omega)]; exact hlow x h1 h3⟩
    · obtain ⟨g1, g2, g3, L', s', g4, g5, g6⟩ := go hI
      exact ⟨e, js, g1, g2, g3, L', s', g4, g5, .inr ⟨X, s1, hD, hn1, hu1, fun x h1 h2 h3 => by
        rw [g6 x h1 h2 (fun hx => h3.elim (fun h => by have := hx.1; omega) hx.2)]; exact hM x h1⟩⟩
end Go.Proofs.YtbfheafpecgphaaGreat
