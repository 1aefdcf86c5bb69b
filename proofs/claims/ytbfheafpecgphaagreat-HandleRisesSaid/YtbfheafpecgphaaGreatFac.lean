/- Facts on the program's struct types. Conditions: none. -/
import Derived.Test.YtbfheafpecgphaaGreatSlj
import Derived.Test.YtbfheafpecgphaaGreatRows
set_option linter.unusedSimpArgs false
set_option linter.unusedVariables false
set_option linter.unnecessarySimpa false
set_option linter.unusedSectionVars false
namespace Go.Proofs.YtbfheafpecgphaaGreat
set_option linter.unusedSimpArgs false
set_option linter.unusedVariables false
open Go
theorem fa_gen {P : Program} {S f sz : Nat} {fs : Array Field} (t off : Nat) (hS : ∀ w, (underlying S).run P w = .ok (.struct fs) w) (hf : (fs[f]?).map (fun fd => (fd.type, fd.offset)) = some (t, off)) (hz : ∀ w, (sizeOf t).run P w = .ok sz w) (h0 : sz ≠ 0) (b k : Nat) (w : World) :
    (Instr.fieldAt S (.pointer (some ⟨b, k, none⟩)) f).run P w = .ok (.pointer (some ⟨b, k + off, none⟩)) w := by
  have ha : (⟨b, k, none⟩ : Addr).add off = ⟨b, k + off, none⟩ := by
    unfold Addr.add; split
    · rename_i e; rw [e]; rfl
    · rfl
  cases e : fs[f]? with
  | none => rw [e] at hf; cases hf
  | some fd =>
    rw [e] at hf
    simp only [Option.map_some, Option.some.injEq, Prod.mk.injEq] at hf
    obtain ⟨h1, h2⟩ := hf
    subst h1; subst h2
    simp [Instr.fieldAt, hS, e, Instr.sureAddr, fieldPlace, hz, h0, ha]
theorem Tryz.mixed : Tryz.prog.follows .mixedOrders = true := by kernel_rfl

theorem fa_24_0 : ∀ b k w, (Instr.fieldAt 24 (.pointer (some ⟨b, k, none⟩)) 0).run Tryz.prog w = .ok (.pointer (some ⟨b, k + 0, none⟩)) w := fa_gen 22 0 Tryz.runUnderlying24 rfl Tryz.sizeOf22 (by decide)
theorem fa_24_1 : ∀ b k w, (Instr.fieldAt 24 (.pointer (some ⟨b, k, none⟩)) 1).run Tryz.prog w = .ok (.pointer (some ⟨b, k + 1, none⟩)) w := fa_gen 22 1 Tryz.runUnderlying24 rfl Tryz.sizeOf22 (by decide)
theorem fa_24_2 : ∀ b k w, (Instr.fieldAt 24 (.pointer (some ⟨b, k, none⟩)) 2).run Tryz.prog w = .ok (.pointer (some ⟨b, k + 2, none⟩)) w := fa_gen 22 2 Tryz.runUnderlying24 rfl Tryz.sizeOf22 (by decide)
theorem fa_30_0 : ∀ b k w, (Instr.fieldAt 30 (.pointer (some ⟨b, k, none⟩)) 0).run Tryz.prog w = .ok (.pointer (some ⟨b, k + 0, none⟩)) w := fa_gen 3 0 Tryz.runUnderlying30 rfl Tryz.sizeOf3 (by decide)
theorem fa_30_1 : ∀ b k w, (Instr.fieldAt 30 (.pointer (some ⟨b, k, none⟩)) 1).run Tryz.prog w = .ok (.pointer (some ⟨b, k + 1, none⟩)) w := fa_gen 3 1 Tryz.runUnderlying30 rfl Tryz.sizeOf3 (by decide)
theorem fa_30_2 : ∀ b k w, (Instr.fieldAt 30 (.pointer (some ⟨b, k, none⟩)) 2).run Tryz.prog w = .ok (.pointer (some ⟨b, k + 2, none⟩)) w := fa_gen 3 2 Tryz.runUnderlying30 rfl Tryz.sizeOf3 (by decide)
theorem fa_33_0 : ∀ b k w, (Instr.fieldAt 33 (.pointer (some ⟨b, k, none⟩)) 0).run Tryz.prog w = .ok (.pointer (some ⟨b, k + 0, none⟩)) w := fa_gen 3 0 Tryz.runUnderlying33 rfl Tryz.sizeOf3 (by decide)
theorem fa_33_1 : ∀ b k w, (Instr.fieldAt 33 (.pointer (some ⟨b, k, none⟩)) 1).run Tryz.prog w = .ok (.pointer (some ⟨b, k + 1, none⟩)) w := fa_gen 3 1 Tryz.runUnderlying33 rfl Tryz.sizeOf3 (by decide)
theorem fa_33_2 : ∀ b k w, (Instr.fieldAt 33 (.pointer (some ⟨b, k, none⟩)) 2).run Tryz.prog w = .ok (.pointer (some ⟨b, k + 2, none⟩)) w := fa_gen 31 2 Tryz.runUnderlying33 rfl Tryz.sizeOf31 (by decide)
theorem fa_41_0 : ∀ b k w, (Instr.fieldAt 41 (.pointer (some ⟨b, k, none⟩)) 0).run Tryz.prog w = .ok (.pointer (some ⟨b, k + 0, none⟩)) w := fa_gen 3 0 Tryz.runUnderlying41 rfl Tryz.sizeOf3 (by decide)
theorem fa_41_1 : ∀ b k w, (Instr.fieldAt 41 (.pointer (some ⟨b, k, none⟩)) 1).run Tryz.prog w = .ok (.pointer (some ⟨b, k + 1, none⟩)) w := fa_gen 3 1 Tryz.runUnderlying41 rfl Tryz.sizeOf3 (by decide)
theorem fa_44_0 : ∀ b k w, (Instr.fieldAt 44 (.pointer (some ⟨b, k, none⟩)) 0).run Tryz.prog w = .ok (.pointer (some ⟨b, k + 0, none⟩)) w := fa_gen 39 0 Tryz.runUnderlying44 rfl Tryz.sizeOf39 (by decide)
theorem fa_44_1 : ∀ b k w, (Instr.fieldAt 44 (.pointer (some ⟨b, k, none⟩)) 1).run Tryz.prog w = .ok (.pointer (some ⟨b, k + 1, none⟩)) w := fa_gen 28 1 Tryz.runUnderlying44 rfl Tryz.sizeOf28 (by decide)
theorem fa_44_2 : ∀ b k w, (Instr.fieldAt 44 (.pointer (some ⟨b, k, none⟩)) 2).run Tryz.prog w = .ok (.pointer (some ⟨b, k + 2, none⟩)) w := fa_gen 30 2 Tryz.runUnderlying44 rfl Tryz.sizeOf30 (by decide)
theorem fa_44_3 : ∀ b k w, (Instr.fieldAt 44 (.pointer (some ⟨b, k, none⟩)) 3).run Tryz.prog w = .ok (.pointer (some ⟨b, k + 5, none⟩)) w := fa_gen 4 5 Tryz.runUnderlying44 rfl Tryz.sizeOf4 (by decide)
theorem fa_44_4 : ∀ b k w, (Instr.fieldAt 44 (.pointer (some ⟨b, k, none⟩)) 4).run Tryz.prog w = .ok (.pointer (some ⟨b, k + 6, none⟩)) w := fa_gen 41 6 Tryz.runUnderlying44 rfl Tryz.sizeOf41 (by decide)
theorem fa_44_5 : ∀ b k w, (Instr.fieldAt 44 (.pointer (some ⟨b, k, none⟩)) 5).run Tryz.prog w = .ok (.pointer (some ⟨b, k + 8, none⟩)) w := fa_gen 42 8 Tryz.runUnderlying44 rfl Tryz.sizeOf42 (by decide)
theorem fa_44_6 : ∀ b k w, (Instr.fieldAt 44 (.pointer (some ⟨b, k, none⟩)) 6).run Tryz.prog w = .ok (.pointer (some ⟨b, k + 9, none⟩)) w := fa_gen 42 9 Tryz.runUnderlying44 rfl Tryz.sizeOf42 (by decide)
theorem fa_87_0 : ∀ b k w, (Instr.fieldAt 87 (.pointer (some ⟨b, k, none⟩)) 0).run Tryz.prog w = .ok (.pointer (some ⟨b, k + 0, none⟩)) w := fa_gen 3 0 Tryz.runUnderlying87 rfl Tryz.sizeOf3 (by decide)
theorem fa_87_1 : ∀ b k w, (Instr.fieldAt 87 (.pointer (some ⟨b, k, none⟩)) 1).run Tryz.prog w = .ok (.pointer (some ⟨b, k + 1, none⟩)) w := fa_gen 3 1 Tryz.runUnderlying87 rfl Tryz.sizeOf3 (by decide)
theorem fa_89_0 : ∀ b k w, (Instr.fieldAt 89 (.pointer (some ⟨b, k, none⟩)) 0).run Tryz.prog w = .ok (.pointer (some ⟨b, k + 0, none⟩)) w := fa_gen 87 0 Tryz.runUnderlying89 rfl Tryz.sizeOf87 (by decide)
theorem fa_89_1 : ∀ b k w, (Instr.fieldAt 89 (.pointer (some ⟨b, k, none⟩)) 1).run Tryz.prog w = .ok (.pointer (some ⟨b, k + 2, none⟩)) w := fa_gen 3 2 Tryz.runUnderlying89 rfl Tryz.sizeOf3 (by decide)
theorem fa_103_0 : ∀ b k w, (Instr.fieldAt 103 (.pointer (some ⟨b, k, none⟩)) 0).run Tryz.prog w = .ok (.pointer (some ⟨b, k + 0, none⟩)) w := fa_gen 5 0 Tryz.runUnderlying103 rfl Tryz.sizeOf5 (by decide)
theorem fa_103_1 : ∀ b k w, (Instr.fieldAt 103 (.pointer (some ⟨b, k, none⟩)) 1).run Tryz.prog w = .ok (.pointer (some ⟨b, k + 1, none⟩)) w := fa_gen 5 1 Tryz.runUnderlying103 rfl Tryz.sizeOf5 (by decide)
theorem fa_103_2 : ∀ b k w, (Instr.fieldAt 103 (.pointer (some ⟨b, k, none⟩)) 2).run Tryz.prog w = .ok (.pointer (some ⟨b, k + 2, none⟩)) w := fa_gen 5 2 Tryz.runUnderlying103 rfl Tryz.sizeOf5 (by decide)
theorem fa_107_0 : ∀ b k w, (Instr.fieldAt 107 (.pointer (some ⟨b, k, none⟩)) 0).run Tryz.prog w = .ok (.pointer (some ⟨b, k + 0, none⟩)) w := fa_gen 5 0 Tryz.runUnderlying107 rfl Tryz.sizeOf5 (by decide)
theorem fa_107_1 : ∀ b k w, (Instr.fieldAt 107 (.pointer (some ⟨b, k, none⟩)) 1).run Tryz.prog w = .ok (.pointer (some ⟨b, k + 1, none⟩)) w := fa_gen 5 1 Tryz.runUnderlying107 rfl Tryz.sizeOf5 (by decide)
theorem fa_115_0 : ∀ b k w, (Instr.fieldAt 115 (.pointer (some ⟨b, k, none⟩)) 0).run Tryz.prog w = .ok (.pointer (some ⟨b, k + 0, none⟩)) w := fa_gen 28 0 Tryz.runUnderlying115 rfl Tryz.sizeOf28 (by decide)
theorem fa_115_1 : ∀ b k w, (Instr.fieldAt 115 (.pointer (some ⟨b, k, none⟩)) 1).run Tryz.prog w = .ok (.pointer (some ⟨b, k + 1, none⟩)) w := fa_gen 30 1 Tryz.runUnderlying115 rfl Tryz.sizeOf30 (by decide)
theorem fa_115_2 : ∀ b k w, (Instr.fieldAt 115 (.pointer (some ⟨b, k, none⟩)) 2).run Tryz.prog w = .ok (.pointer (some ⟨b, k + 4, none⟩)) w := fa_gen 33 4 Tryz.runUnderlying115 rfl Tryz.sizeOf33 (by decide)
theorem fa_115_3 : ∀ b k w, (Instr.fieldAt 115 (.pointer (some ⟨b, k, none⟩)) 3).run Tryz.prog w = .ok (.pointer (some ⟨b, k + 7, none⟩)) w := fa_gen 3 7 Tryz.runUnderlying115 rfl Tryz.sizeOf3 (by decide)
theorem fa_115_4 : ∀ b k w, (Instr.fieldAt 115 (.pointer (some ⟨b, k, none⟩)) 4).run Tryz.prog w = .ok (.pointer (some ⟨b, k + 8, none⟩)) w := fa_gen 3 8 Tryz.runUnderlying115 rfl Tryz.sizeOf3 (by decide)
theorem fa_115_5 : ∀ b k w, (Instr.fieldAt 115 (.pointer (some ⟨b, k, none⟩)) 5).run Tryz.prog w = .ok (.pointer (some ⟨b, k + 9, none⟩)) w := fa_gen 3 9 Tryz.runUnderlying115 rfl Tryz.sizeOf3 (by decide)
theorem fa_115_6 : ∀ b k w, (Instr.fieldAt 115 (.pointer (some ⟨b, k, none⟩)) 6).run Tryz.prog w = .ok (.pointer (some ⟨b, k + 10, none⟩)) w := fa_gen 31 10 Tryz.runUnderlying115 rfl Tryz.sizeOf31 (by decide)
theorem fa_115_7 : ∀ b k w, (Instr.fieldAt 115 (.pointer (some ⟨b, k, none⟩)) 7).run Tryz.prog w = .ok (.pointer (some ⟨b, k + 11, none⟩)) w := fa_gen 113 11 Tryz.runUnderlying115 rfl Tryz.sizeOf113 (by decide)
theorem fa_115_8 : ∀ b k w, (Instr.fieldAt 115 (.pointer (some ⟨b, k, none⟩)) 8).run Tryz.prog w = .ok (.pointer (some ⟨b, k + 12, none⟩)) w := fa_gen 4 12 Tryz.runUnderlying115 rfl Tryz.sizeOf4 (by decide)
theorem fa_121_0 : ∀ b k w, (Instr.fieldAt 121 (.pointer (some ⟨b, k, none⟩)) 0).run Tryz.prog w = .ok (.pointer (some ⟨b, k + 0, none⟩)) w := fa_gen 77 0 Tryz.runUnderlying121 rfl Tryz.sizeOf77 (by decide)
theorem fa_121_1 : ∀ b k w, (Instr.fieldAt 121 (.pointer (some ⟨b, k, none⟩)) 1).run Tryz.prog w = .ok (.pointer (some ⟨b, k + 1, none⟩)) w := fa_gen 31 1 Tryz.runUnderlying121 rfl Tryz.sizeOf31 (by decide)
theorem fa_121_2 : ∀ b k w, (Instr.fieldAt 121 (.pointer (some ⟨b, k, none⟩)) 2).run Tryz.prog w = .ok (.pointer (some ⟨b, k + 2, none⟩)) w := fa_gen 31 2 Tryz.runUnderlying121 rfl Tryz.sizeOf31 (by decide)
theorem fa_121_3 : ∀ b k w, (Instr.fieldAt 121 (.pointer (some ⟨b, k, none⟩)) 3).run Tryz.prog w = .ok (.pointer (some ⟨b, k + 3, none⟩)) w := fa_gen 119 3 Tryz.runUnderlying121 rfl Tryz.sizeOf119 (by decide)
theorem fa_136_0 : ∀ b k w, (Instr.fieldAt 136 (.pointer (some ⟨b, k, none⟩)) 0).run Tryz.prog w = .ok (.pointer (some ⟨b, k + 0, none⟩)) w := fa_gen 52 0 Tryz.runUnderlying136 rfl Tryz.sizeOf52 (by decide)
theorem fa_136_1 : ∀ b k w, (Instr.fieldAt 136 (.pointer (some ⟨b, k, none⟩)) 1).run Tryz.prog w = .ok (.pointer (some ⟨b, k + 1, none⟩)) w := fa_gen 52 1 Tryz.runUnderlying136 rfl Tryz.sizeOf52 (by decide)
theorem fa_139_0 : ∀ b k w, (Instr.fieldAt 139 (.pointer (some ⟨b, k, none⟩)) 0).run Tryz.prog w = .ok (.pointer (some ⟨b, k + 0, none⟩)) w := fa_gen 69 0 Tryz.runUnderlying139 rfl Tryz.sizeOf69 (by decide)
theorem fa_139_1 : ∀ b k w, (Instr.fieldAt 139 (.pointer (some ⟨b, k, none⟩)) 1).run Tryz.prog w = .ok (.pointer (some ⟨b, k + 1, none⟩)) w := fa_gen 69 1 Tryz.runUnderlying139 rfl Tryz.sizeOf69 (by decide)
theorem fa_139_2 : ∀ b k w, (Instr.fieldAt 139 (.pointer (some ⟨b, k, none⟩)) 2).run Tryz.prog w = .ok (.pointer (some ⟨b, k + 2, none⟩)) w := fa_gen 3 2 Tryz.runUnderlying139 rfl Tryz.sizeOf3 (by decide)
theorem fa_141_0 : ∀ b k w, (Instr.fieldAt 141 (.pointer (some ⟨b, k, none⟩)) 0).run Tryz.prog w = .ok (.pointer (some ⟨b, k + 0, none⟩)) w := fa_gen 3 0 Tryz.runUnderlying141 rfl Tryz.sizeOf3 (by decide)
theorem fa_141_1 : ∀ b k w, (Instr.fieldAt 141 (.pointer (some ⟨b, k, none⟩)) 1).run Tryz.prog w = .ok (.pointer (some ⟨b, k + 1, none⟩)) w := fa_gen 3 1 Tryz.runUnderlying141 rfl Tryz.sizeOf3 (by decide)
theorem fa_146_0 : ∀ b k w, (Instr.fieldAt 146 (.pointer (some ⟨b, k, none⟩)) 0).run Tryz.prog w = .ok (.pointer (some ⟨b, k + 0, none⟩)) w := fa_gen 28 0 Tryz.runUnderlying146 rfl Tryz.sizeOf28 (by decide)
theorem fa_146_1 : ∀ b k w, (Instr.fieldAt 146 (.pointer (some ⟨b, k, none⟩)) 1).run Tryz.prog w = .ok (.pointer (some ⟨b, k + 1, none⟩)) w := fa_gen 30 1 Tryz.runUnderlying146 rfl Tryz.sizeOf30 (by decide)
theorem fa_146_2 : ∀ b k w, (Instr.fieldAt 146 (.pointer (some ⟨b, k, none⟩)) 2).run Tryz.prog w = .ok (.pointer (some ⟨b, k + 4, none⟩)) w := fa_gen 52 4 Tryz.runUnderlying146 rfl Tryz.sizeOf52 (by decide)
theorem fa_146_3 : ∀ b k w, (Instr.fieldAt 146 (.pointer (some ⟨b, k, none⟩)) 3).run Tryz.prog w = .ok (.pointer (some ⟨b, k + 5, none⟩)) w := fa_gen 3 5 Tryz.runUnderlying146 rfl Tryz.sizeOf3 (by decide)
theorem tb_3 : ((Tryz.prog.info? 3).map fun i => decide (i.bytes ≤ 65536) && decide (i.bytes ≠ 0)) = some true := by kernel_rfl
theorem tb_52 : ((Tryz.prog.info? 52).map fun i => decide (i.bytes ≤ 65536) && decide (i.bytes ≠ 0)) = some true := by kernel_rfl
theorem tb_89 : ((Tryz.prog.info? 89).map fun i => decide (i.bytes ≤ 65536) && decide (i.bytes ≠ 0)) = some true := by kernel_rfl
theorem tb_136 : ((Tryz.prog.info? 136).map fun i => decide (i.bytes ≤ 65536) && decide (i.bytes ≠ 0)) = some true := by kernel_rfl
theorem bld_24_2 (v2 : Value) (h2 : cell1 v2 = true) (w : World) : (Instr.build 24 #[(2, v2)]).run Tryz.prog w = .ok (.agg #[.int .u16 0, .int .u16 0, v2]) w := by
  simp [Instr.build, Instr.fill, agg_cells, Tryz.zeroValue24, Tryz.runUnderlying24, Tryz.sizeOf22, cell1_cells h2]
theorem bld_30   (w : World) : (Instr.build 30 #[]).run Tryz.prog w = .ok (.agg #[.int .i64 0, .int .i64 0, .int .i64 0]) w := by
  simp [Instr.build, Instr.fill, agg_cells, Tryz.zeroValue30, Tryz.runUnderlying30, Tryz.sizeOf3]
theorem bld_30_0_1_2 (v0 : Value) (v1 : Value) (v2 : Value) (h0 : cell1 v0 = true) (h1 : cell1 v1 = true) (h2 : cell1 v2 = true) (w : World) : (Instr.build 30 #[(0, v0), (1, v1), (2, v2)]).run Tryz.prog w = .ok (.agg #[v0, v1, v2]) w := by
  simp [Instr.build, Instr.fill, agg_cells, Tryz.zeroValue30, Tryz.runUnderlying30, Tryz.sizeOf3, cell1_cells h0, cell1_cells h1, cell1_cells h2]
theorem bld_30_1_0_2 (v0 : Value) (v1 : Value) (v2 : Value) (h0 : cell1 v0 = true) (h1 : cell1 v1 = true) (h2 : cell1 v2 = true) (w : World) : (Instr.build 30 #[(1, v1), (0, v0), (2, v2)]).run Tryz.prog w = .ok (.agg #[v0, v1, v2]) w := by
  simp [Instr.build, Instr.fill, agg_cells, Tryz.zeroValue30, Tryz.runUnderlying30, Tryz.sizeOf3, cell1_cells h1, cell1_cells h0, cell1_cells h2]
theorem bld_33   (w : World) : (Instr.build 33 #[]).run Tryz.prog w = .ok (.agg #[.int .i64 0, .int .i64 0, .slice none 0 0]) w := by
  simp [Instr.build, Instr.fill, agg_cells, Tryz.zeroValue33, Tryz.runUnderlying33, Tryz.sizeOf3, Tryz.sizeOf31]
theorem bld_33_0_1 (v0 : Value) (v1 : Value) (h0 : cell1 v0 = true) (h1 : cell1 v1 = true) (w : World) : (Instr.build 33 #[(0, v0), (1, v1)]).run Tryz.prog w = .ok (.agg #[v0, v1, .slice none 0 0]) w := by
  simp [Instr.build, Instr.fill, agg_cells, Tryz.zeroValue33, Tryz.runUnderlying33, Tryz.sizeOf3, Tryz.sizeOf31, cell1_cells h0, cell1_cells h1]
theorem bld_41   (w : World) : (Instr.build 41 #[]).run Tryz.prog w = .ok (.agg #[.int .i64 0, .int .i64 0]) w := by
  simp [Instr.build, Instr.fill, agg_cells, Tryz.zeroValue41, Tryz.runUnderlying41, Tryz.sizeOf3]
theorem bld_44_0_1_2 (v0 : Value) (v1 : Value) (v2_0 v2_1 v2_2 : Value) (h0 : cell1 v0 = true) (h1 : cell1 v1 = true) (w : World) : (Instr.build 44 #[(0, v0), (1, v1), (2, .agg #[v2_0, v2_1, v2_2])]).run Tryz.prog w = .ok (.agg #[v0, v1, v2_0, v2_1, v2_2, .bool false, .int .i64 0, .int .i64 0, .map none, .map none]) w := by
  simp [Instr.build, Instr.fill, agg_cells, Tryz.zeroValue44, Tryz.runUnderlying44, Tryz.sizeOf28, Tryz.sizeOf30, Tryz.sizeOf39, Tryz.sizeOf4, Tryz.sizeOf41, Tryz.sizeOf42, cell1_cells h0, cell1_cells h1]
theorem bld_87   (w : World) : (Instr.build 87 #[]).run Tryz.prog w = .ok (.agg #[.int .i64 0, .int .i64 0]) w := by
  simp [Instr.build, Instr.fill, agg_cells, Tryz.zeroValue87, Tryz.runUnderlying87, Tryz.sizeOf3]
theorem bld_87_0 (v0 : Value) (h0 : cell1 v0 = true) (w : World) : (Instr.build 87 #[(0, v0)]).run Tryz.prog w = .ok (.agg #[v0, .int .i64 0]) w := by
  simp [Instr.build, Instr.fill, agg_cells, Tryz.zeroValue87, Tryz.runUnderlying87, Tryz.sizeOf3, cell1_cells h0]
theorem bld_87_0_1 (v0 : Value) (v1 : Value) (h0 : cell1 v0 = true) (h1 : cell1 v1 = true) (w : World) : (Instr.build 87 #[(0, v0), (1, v1)]).run Tryz.prog w = .ok (.agg #[v0, v1]) w := by
  simp [Instr.build, Instr.fill, agg_cells, Tryz.zeroValue87, Tryz.runUnderlying87, Tryz.sizeOf3, cell1_cells h0, cell1_cells h1]
theorem bld_89   (w : World) : (Instr.build 89 #[]).run Tryz.prog w = .ok (.agg #[.int .i64 0, .int .i64 0, .int .i64 0]) w := by
  simp [Instr.build, Instr.fill, agg_cells, Tryz.zeroValue89, Tryz.runUnderlying89, Tryz.sizeOf3, Tryz.sizeOf87]
theorem bld_89_0_1 (v0_0 v0_1 : Value) (v1 : Value) (h1 : cell1 v1 = true) (w : World) : (Instr.build 89 #[(0, .agg #[v0_0, v0_1]), (1, v1)]).run Tryz.prog w = .ok (.agg #[v0_0, v0_1, v1]) w := by
  simp [Instr.build, Instr.fill, agg_cells, Tryz.zeroValue89, Tryz.runUnderlying89, Tryz.sizeOf3, Tryz.sizeOf87, cell1_cells h1]
theorem bld_89_1 (v1 : Value) (h1 : cell1 v1 = true) (w : World) : (Instr.build 89 #[(1, v1)]).run Tryz.prog w = .ok (.agg #[.int .i64 0, .int .i64 0, v1]) w := by
  simp [Instr.build, Instr.fill, agg_cells, Tryz.zeroValue89, Tryz.runUnderlying89, Tryz.sizeOf3, Tryz.sizeOf87, cell1_cells h1]
theorem bld_107_0_1 (v0 : Value) (v1 : Value) (h0 : cell1 v0 = true) (h1 : cell1 v1 = true) (w : World) : (Instr.build 107 #[(0, v0), (1, v1)]).run Tryz.prog w = .ok (.agg #[v0, v1]) w := by
  simp [Instr.build, Instr.fill, agg_cells, Tryz.zeroValue107, Tryz.runUnderlying107, Tryz.sizeOf5, cell1_cells h0, cell1_cells h1]
theorem bld_107_1 (v1 : Value) (h1 : cell1 v1 = true) (w : World) : (Instr.build 107 #[(1, v1)]).run Tryz.prog w = .ok (.agg #[.int .u8 0, v1]) w := by
  simp [Instr.build, Instr.fill, agg_cells, Tryz.zeroValue107, Tryz.runUnderlying107, Tryz.sizeOf5, cell1_cells h1]
theorem bld_115_0_1_2_3_4_5_6_7 (v0 : Value) (v1_0 v1_1 v1_2 : Value) (v2_0 v2_1 v2_2 : Value) (v3 : Value) (v4 : Value) (v5 : Value) (v6 : Value) (v7 : Value) (h0 : cell1 v0 = true) (h3 : cell1 v3 = true) (h4 : cell1 v4 = true) (h5 : cell1 v5 = true) (h6 : cell1 v6 = true) (h7 : cell1 v7 = true) (w : World) : (Instr.build 115 #[(0, v0), (1, .agg #[v1_0, v1_1, v1_2]), (2, .agg #[v2_0, v2_1, v2_2]), (3, v3), (4, v4), (5, v5), (6, v6), (7, v7)]).run Tryz.prog w = .ok (.agg #[v0, v1_0, v1_1, v1_2, v2_0, v2_1, v2_2, v3, v4, v5, v6, v7, .bool false]) w := by
  simp [Instr.build, Instr.fill, agg_cells, Tryz.zeroValue115, Tryz.runUnderlying115, Tryz.sizeOf113, Tryz.sizeOf28, Tryz.sizeOf3, Tryz.sizeOf30, Tryz.sizeOf31, Tryz.sizeOf33, Tryz.sizeOf4, cell1_cells h0, cell1_cells h3, cell1_cells h4, cell1_cells h5, cell1_cells h6, cell1_cells h7]
theorem bld_121_0_1_2_3 (v0 : Value) (v1 : Value) (v2 : Value) (v3 : Value) (h0 : cell1 v0 = true) (h1 : cell1 v1 = true) (h2 : cell1 v2 = true) (h3 : cell1 v3 = true) (w : World) : (Instr.build 121 #[(0, v0), (1, v1), (2, v2), (3, v3)]).run Tryz.prog w = .ok (.agg #[v0, v1, v2, v3]) w := by
  simp [Instr.build, Instr.fill, agg_cells, Tryz.zeroValue121, Tryz.runUnderlying121, Tryz.sizeOf119, Tryz.sizeOf31, Tryz.sizeOf77, cell1_cells h0, cell1_cells h1, cell1_cells h2, cell1_cells h3]
theorem bld_136_0_1 (v0 : Value) (v1 : Value) (h0 : cell1 v0 = true) (h1 : cell1 v1 = true) (w : World) : (Instr.build 136 #[(0, v0), (1, v1)]).run Tryz.prog w = .ok (.agg #[v0, v1]) w := by
  simp [Instr.build, Instr.fill, agg_cells, Tryz.zeroValue136, Tryz.runUnderlying136, Tryz.sizeOf52, cell1_cells h0, cell1_cells h1]
theorem bld_139_0_1 (v0 : Value) (v1 : Value) (h0 : cell1 v0 = true) (h1 : cell1 v1 = true) (w : World) : (Instr.build 139 #[(0, v0), (1, v1)]).run Tryz.prog w = .ok (.agg #[v0, v1, .int .i64 0]) w := by
  simp [Instr.build, Instr.fill, agg_cells, Tryz.zeroValue139, Tryz.runUnderlying139, Tryz.sizeOf3, Tryz.sizeOf69, cell1_cells h0, cell1_cells h1]
theorem bld_141_0 (v0 : Value) (h0 : cell1 v0 = true) (w : World) : (Instr.build 141 #[(0, v0)]).run Tryz.prog w = .ok (.agg #[v0, .int .i64 0]) w := by
  simp [Instr.build, Instr.fill, agg_cells, Tryz.zeroValue141, Tryz.runUnderlying141, Tryz.sizeOf3, cell1_cells h0]
theorem bld_142   (w : World) : (Instr.build 142 #[]).run Tryz.prog w = .ok (.agg #[]) w := by
  simp [Instr.build, Instr.fill, agg_cells, Tryz.zeroValue142, Tryz.runUnderlying142]
theorem bld_143   (w : World) : (Instr.build 143 #[]).run Tryz.prog w = .ok (.agg #[]) w := by
  simp [Instr.build, Instr.fill, agg_cells, Tryz.zeroValue143, Tryz.runUnderlying143]
theorem bld_146_0_1_2 (v0 : Value) (v1_0 v1_1 v1_2 : Value) (v2 : Value) (h0 : cell1 v0 = true) (h2 : cell1 v2 = true) (w : World) : (Instr.build 146 #[(0, v0), (1, .agg #[v1_0, v1_1, v1_2]), (2, v2)]).run Tryz.prog w = .ok (.agg #[v0, v1_0, v1_1, v1_2, v2, .int .i64 0]) w := by
  simp [Instr.build, Instr.fill, agg_cells, Tryz.zeroValue146, Tryz.runUnderlying146, Tryz.sizeOf28, Tryz.sizeOf3, Tryz.sizeOf30, Tryz.sizeOf52, cell1_cells h0, cell1_cells h2]
end Go.Proofs.YtbfheafpecgphaaGreat
