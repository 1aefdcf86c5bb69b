/- Facts on the program's struct types. Conditions: none. -/
import Derived.Test.YtbhpbnedocdneaaSlf
import Derived.Test.YtbhpbnedocdneaaRows
set_option linter.unusedSimpArgs false
set_option linter.unusedVariables false
set_option linter.unnecessarySimpa false
set_option linter.unusedSectionVars false
namespace Go.Proofs.Ytbhpbnedocdneaa
set_option linter.unusedSimpArgs false
set_option linter.unusedVariables false
open Go
theorem fa_gen {P : Program} {S f sz : Nat} {fs : Array Field} (t off : Nat) (hS : ∀ w, (underlying S).run P w = .ok (.struct fs) w) (hf : (fs[f]?).map (fun fd => (fd.type, fd.offset)) = some (t, off)) (hz : ∀ w, (sizeOf t).run P w = .ok sz w) (h0 : sz ≠ 0) (b k : Nat) (w : World) :
    (Instr.fieldAt S (.pointer (some ⟨b, k, none⟩)) f).run P w = .ok (.pointer (some ⟨b, k + off, none⟩)) w := by
  have ha : (⟨b, k, none⟩ : Addr).add off = ⟨b, k + off, none⟩ := by
    unfold Addr.add; split
    · rename_i e; rw [e]; rfl
    · rfl
  cases e : fs[f]? with
  | none => rw [e] at hf; cases hf
  | some fd =>
    rw [e] at hf
    simp only [Option.map_some, Option.some.injEq, Prod.mk.injEq] at hf
    obtain ⟨h1, h2⟩ := hf
    subst h1; subst h2
    simp [Instr.fieldAt, hS, e, Instr.sureAddr, fieldPlace, hz, h0, ha]
theorem Try.mixed : Try.prog.follows .mixedOrders = true := by kernel_rfl

theorem fa_24_0 : ∀ b k w, (Instr.fieldAt 24 (.pointer (some ⟨b, k, none⟩)) 0).run Try.prog w = .ok (.pointer (some ⟨b, k + 0, none⟩)) w := fa_gen 22 0 Try.runUnderlying24 rfl Try.sizeOf22 (by decide)
theorem fa_24_1 : ∀ b k w, (Instr.fieldAt 24 (.pointer (some ⟨b, k, none⟩)) 1).run Try.prog w = .ok (.pointer (some ⟨b, k + 1, none⟩)) w := fa_gen 22 1 Try.runUnderlying24 rfl Try.sizeOf22 (by decide)
theorem fa_24_2 : ∀ b k w, (Instr.fieldAt 24 (.pointer (some ⟨b, k, none⟩)) 2).run Try.prog w = .ok (.pointer (some ⟨b, k + 2, none⟩)) w := fa_gen 22 2 Try.runUnderlying24 rfl Try.sizeOf22 (by decide)
theorem fa_35_0 : ∀ b k w, (Instr.fieldAt 35 (.pointer (some ⟨b, k, none⟩)) 0).run Try.prog w = .ok (.pointer (some ⟨b, k + 0, none⟩)) w := fa_gen 3 0 Try.runUnderlying35 rfl Try.sizeOf3 (by decide)
theorem fa_35_1 : ∀ b k w, (Instr.fieldAt 35 (.pointer (some ⟨b, k, none⟩)) 1).run Try.prog w = .ok (.pointer (some ⟨b, k + 1, none⟩)) w := fa_gen 3 1 Try.runUnderlying35 rfl Try.sizeOf3 (by decide)
theorem fa_38_0 : ∀ b k w, (Instr.fieldAt 38 (.pointer (some ⟨b, k, none⟩)) 0).run Try.prog w = .ok (.pointer (some ⟨b, k + 0, none⟩)) w := fa_gen 3 0 Try.runUnderlying38 rfl Try.sizeOf3 (by decide)
theorem fa_38_1 : ∀ b k w, (Instr.fieldAt 38 (.pointer (some ⟨b, k, none⟩)) 1).run Try.prog w = .ok (.pointer (some ⟨b, k + 1, none⟩)) w := fa_gen 3 1 Try.runUnderlying38 rfl Try.sizeOf3 (by decide)
theorem fa_38_2 : ∀ b k w, (Instr.fieldAt 38 (.pointer (some ⟨b, k, none⟩)) 2).run Try.prog w = .ok (.pointer (some ⟨b, k + 2, none⟩)) w := fa_gen 3 2 Try.runUnderlying38 rfl Try.sizeOf3 (by decide)
theorem fa_42_0 : ∀ b k w, (Instr.fieldAt 42 (.pointer (some ⟨b, k, none⟩)) 0).run Try.prog w = .ok (.pointer (some ⟨b, k + 0, none⟩)) w := fa_gen 38 0 Try.runUnderlying42 rfl Try.sizeOf38 (by decide)
theorem fa_42_1 : ∀ b k w, (Instr.fieldAt 42 (.pointer (some ⟨b, k, none⟩)) 1).run Try.prog w = .ok (.pointer (some ⟨b, k + 3, none⟩)) w := fa_gen 39 3 Try.runUnderlying42 rfl Try.sizeOf39 (by decide)
theorem fa_42_2 : ∀ b k w, (Instr.fieldAt 42 (.pointer (some ⟨b, k, none⟩)) 2).run Try.prog w = .ok (.pointer (some ⟨b, k + 4, none⟩)) w := fa_gen 39 4 Try.runUnderlying42 rfl Try.sizeOf39 (by decide)
theorem fa_42_3 : ∀ b k w, (Instr.fieldAt 42 (.pointer (some ⟨b, k, none⟩)) 3).run Try.prog w = .ok (.pointer (some ⟨b, k + 5, none⟩)) w := fa_gen 40 5 Try.runUnderlying42 rfl Try.sizeOf40 (by decide)
theorem fa_42_4 : ∀ b k w, (Instr.fieldAt 42 (.pointer (some ⟨b, k, none⟩)) 4).run Try.prog w = .ok (.pointer (some ⟨b, k + 6, none⟩)) w := fa_gen 4 6 Try.runUnderlying42 rfl Try.sizeOf4 (by decide)
theorem fa_42_5 : ∀ b k w, (Instr.fieldAt 42 (.pointer (some ⟨b, k, none⟩)) 5).run Try.prog w = .ok (.pointer (some ⟨b, k + 7, none⟩)) w := fa_gen 35 7 Try.runUnderlying42 rfl Try.sizeOf35 (by decide)
theorem fa_51_0 : ∀ b k w, (Instr.fieldAt 51 (.pointer (some ⟨b, k, none⟩)) 0).run Try.prog w = .ok (.pointer (some ⟨b, k + 0, none⟩)) w := fa_gen 48 0 Try.runUnderlying51 rfl Try.sizeOf48 (by decide)
theorem fa_51_1 : ∀ b k w, (Instr.fieldAt 51 (.pointer (some ⟨b, k, none⟩)) 1).run Try.prog w = .ok (.pointer (some ⟨b, k + 1, none⟩)) w := fa_gen 27 1 Try.runUnderlying51 rfl Try.sizeOf27 (by decide)
theorem fa_51_2 : ∀ b k w, (Instr.fieldAt 51 (.pointer (some ⟨b, k, none⟩)) 2).run Try.prog w = .ok (.pointer (some ⟨b, k + 2, none⟩)) w := fa_gen 38 2 Try.runUnderlying51 rfl Try.sizeOf38 (by decide)
theorem fa_51_3 : ∀ b k w, (Instr.fieldAt 51 (.pointer (some ⟨b, k, none⟩)) 3).run Try.prog w = .ok (.pointer (some ⟨b, k + 5, none⟩)) w := fa_gen 4 5 Try.runUnderlying51 rfl Try.sizeOf4 (by decide)
theorem fa_51_4 : ∀ b k w, (Instr.fieldAt 51 (.pointer (some ⟨b, k, none⟩)) 4).run Try.prog w = .ok (.pointer (some ⟨b, k + 6, none⟩)) w := fa_gen 35 6 Try.runUnderlying51 rfl Try.sizeOf35 (by decide)
theorem fa_51_5 : ∀ b k w, (Instr.fieldAt 51 (.pointer (some ⟨b, k, none⟩)) 5).run Try.prog w = .ok (.pointer (some ⟨b, k + 8, none⟩)) w := fa_gen 49 8 Try.runUnderlying51 rfl Try.sizeOf49 (by decide)
theorem fa_51_6 : ∀ b k w, (Instr.fieldAt 51 (.pointer (some ⟨b, k, none⟩)) 6).run Try.prog w = .ok (.pointer (some ⟨b, k + 9, none⟩)) w := fa_gen 49 9 Try.runUnderlying51 rfl Try.sizeOf49 (by decide)
theorem fa_56_0 : ∀ b k w, (Instr.fieldAt 56 (.pointer (some ⟨b, k, none⟩)) 0).run Try.prog w = .ok (.pointer (some ⟨b, k + 0, none⟩)) w := fa_gen 5 0 Try.runUnderlying56 rfl Try.sizeOf5 (by decide)
theorem fa_56_1 : ∀ b k w, (Instr.fieldAt 56 (.pointer (some ⟨b, k, none⟩)) 1).run Try.prog w = .ok (.pointer (some ⟨b, k + 1, none⟩)) w := fa_gen 22 1 Try.runUnderlying56 rfl Try.sizeOf22 (by decide)
theorem fa_56_2 : ∀ b k w, (Instr.fieldAt 56 (.pointer (some ⟨b, k, none⟩)) 2).run Try.prog w = .ok (.pointer (some ⟨b, k + 2, none⟩)) w := fa_gen 46 2 Try.runUnderlying56 rfl Try.sizeOf46 (by decide)
theorem fa_89_0 : ∀ b k w, (Instr.fieldAt 89 (.pointer (some ⟨b, k, none⟩)) 0).run Try.prog w = .ok (.pointer (some ⟨b, k + 0, none⟩)) w := fa_gen 73 0 Try.runUnderlying89 rfl Try.sizeOf73 (by decide)
theorem fa_89_1 : ∀ b k w, (Instr.fieldAt 89 (.pointer (some ⟨b, k, none⟩)) 1).run Try.prog w = .ok (.pointer (some ⟨b, k + 1, none⟩)) w := fa_gen 39 1 Try.runUnderlying89 rfl Try.sizeOf39 (by decide)
theorem fa_89_2 : ∀ b k w, (Instr.fieldAt 89 (.pointer (some ⟨b, k, none⟩)) 2).run Try.prog w = .ok (.pointer (some ⟨b, k + 2, none⟩)) w := fa_gen 39 2 Try.runUnderlying89 rfl Try.sizeOf39 (by decide)
theorem fa_89_3 : ∀ b k w, (Instr.fieldAt 89 (.pointer (some ⟨b, k, none⟩)) 3).run Try.prog w = .ok (.pointer (some ⟨b, k + 3, none⟩)) w := fa_gen 87 3 Try.runUnderlying89 rfl Try.sizeOf87 (by decide)
theorem fa_91_0 : ∀ b k w, (Instr.fieldAt 91 (.pointer (some ⟨b, k, none⟩)) 0).run Try.prog w = .ok (.pointer (some ⟨b, k + 0, none⟩)) w := fa_gen 27 0 Try.runUnderlying91 rfl Try.sizeOf27 (by decide)
theorem fa_91_1 : ∀ b k w, (Instr.fieldAt 91 (.pointer (some ⟨b, k, none⟩)) 1).run Try.prog w = .ok (.pointer (some ⟨b, k + 1, none⟩)) w := fa_gen 38 1 Try.runUnderlying91 rfl Try.sizeOf38 (by decide)
theorem fa_91_2 : ∀ b k w, (Instr.fieldAt 91 (.pointer (some ⟨b, k, none⟩)) 2).run Try.prog w = .ok (.pointer (some ⟨b, k + 4, none⟩)) w := fa_gen 46 4 Try.runUnderlying91 rfl Try.sizeOf46 (by decide)
theorem fa_91_3 : ∀ b k w, (Instr.fieldAt 91 (.pointer (some ⟨b, k, none⟩)) 3).run Try.prog w = .ok (.pointer (some ⟨b, k + 5, none⟩)) w := fa_gen 3 5 Try.runUnderlying91 rfl Try.sizeOf3 (by decide)
theorem fa_102_0 : ∀ b k w, (Instr.fieldAt 102 (.pointer (some ⟨b, k, none⟩)) 0).run Try.prog w = .ok (.pointer (some ⟨b, k + 0, none⟩)) w := fa_gen 3 0 Try.runUnderlying102 rfl Try.sizeOf3 (by decide)
theorem fa_102_1 : ∀ b k w, (Instr.fieldAt 102 (.pointer (some ⟨b, k, none⟩)) 1).run Try.prog w = .ok (.pointer (some ⟨b, k + 1, none⟩)) w := fa_gen 3 1 Try.runUnderlying102 rfl Try.sizeOf3 (by decide)
theorem fa_122_0 : ∀ b k w, (Instr.fieldAt 122 (.pointer (some ⟨b, k, none⟩)) 0).run Try.prog w = .ok (.pointer (some ⟨b, k + 0, none⟩)) w := fa_gen 3 0 Try.runUnderlying122 rfl Try.sizeOf3 (by decide)
theorem fa_122_1 : ∀ b k w, (Instr.fieldAt 122 (.pointer (some ⟨b, k, none⟩)) 1).run Try.prog w = .ok (.pointer (some ⟨b, k + 1, none⟩)) w := fa_gen 3 1 Try.runUnderlying122 rfl Try.sizeOf3 (by decide)
theorem tb_3 : ((Try.prog.info? 3).map fun i => decide (i.bytes ≤ 65536) && decide (i.bytes ≠ 0)) = some true := by kernel_rfl
theorem tb_46 : ((Try.prog.info? 46).map fun i => decide (i.bytes ≤ 65536) && decide (i.bytes ≠ 0)) = some true := by kernel_rfl
theorem bld_35   (w : World) : (Instr.build 35 #[]).run Try.prog w = .ok (.agg #[.int .i64 0, .int .i64 0]) w := by
  simp [Instr.build, Instr.fill, agg_cells, Try.zeroValue35, Try.runUnderlying35, Try.sizeOf3]
theorem bld_35_0_1 (v0 : Value) (v1 : Value) (h0 : cell1 v0 = true) (h1 : cell1 v1 = true) (w : World) : (Instr.build 35 #[(0, v0), (1, v1)]).run Try.prog w = .ok (.agg #[v0, v1]) w := by
  simp [Instr.build, Instr.fill, agg_cells, Try.zeroValue35, Try.runUnderlying35, Try.sizeOf3, cell1_cells h0, cell1_cells h1]
theorem bld_38   (w : World) : (Instr.build 38 #[]).run Try.prog w = .ok (.agg #[.int .i64 0, .int .i64 0, .int .i64 0]) w := by
  simp [Instr.build, Instr.fill, agg_cells, Try.zeroValue38, Try.runUnderlying38, Try.sizeOf3]
theorem bld_38_0_1_2 (v0 : Value) (v1 : Value) (v2 : Value) (h0 : cell1 v0 = true) (h1 : cell1 v1 = true) (h2 : cell1 v2 = true) (w : World) : (Instr.build 38 #[(0, v0), (1, v1), (2, v2)]).run Try.prog w = .ok (.agg #[v0, v1, v2]) w := by
  simp [Instr.build, Instr.fill, agg_cells, Try.zeroValue38, Try.runUnderlying38, Try.sizeOf3, cell1_cells h0, cell1_cells h1, cell1_cells h2]
theorem bld_38_1_0_2 (v0 : Value) (v1 : Value) (v2 : Value) (h0 : cell1 v0 = true) (h1 : cell1 v1 = true) (h2 : cell1 v2 = true) (w : World) : (Instr.build 38 #[(1, v1), (0, v0), (2, v2)]).run Try.prog w = .ok (.agg #[v0, v1, v2]) w := by
  simp [Instr.build, Instr.fill, agg_cells, Try.zeroValue38, Try.runUnderlying38, Try.sizeOf3, cell1_cells h1, cell1_cells h0, cell1_cells h2]
theorem bld_42_0_1 (v0_0 v0_1 v0_2 : Value) (v1 : Value) (h1 : cell1 v1 = true) (w : World) : (Instr.build 42 #[(0, .agg #[v0_0, v0_1, v0_2]), (1, v1)]).run Try.prog w = .ok (.agg #[v0_0, v0_1, v0_2, v1, .slice none 0 0, .slice none 0 0, .bool false, .int .i64 0, .int .i64 0]) w := by
  simp [Instr.build, Instr.fill, agg_cells, Try.zeroValue42, Try.runUnderlying42, Try.sizeOf35, Try.sizeOf38, Try.sizeOf39, Try.sizeOf4, Try.sizeOf40, cell1_cells h1]
theorem bld_51_0_1_2 (v0 : Value) (v1 : Value) (v2_0 v2_1 v2_2 : Value) (h0 : cell1 v0 = true) (h1 : cell1 v1 = true) (w : World) : (Instr.build 51 #[(0, v0), (1, v1), (2, .agg #[v2_0, v2_1, v2_2])]).run Try.prog w = .ok (.agg #[v0, v1, v2_0, v2_1, v2_2, .bool false, .int .i64 0, .int .i64 0, .map none, .map none]) w := by
  simp [Instr.build, Instr.fill, agg_cells, Try.zeroValue51, Try.runUnderlying51, Try.sizeOf27, Try.sizeOf35, Try.sizeOf38, Try.sizeOf4, Try.sizeOf48, Try.sizeOf49, cell1_cells h0, cell1_cells h1]
theorem bld_56   (w : World) : (Instr.build 56 #[]).run Try.prog w = .ok (.agg #[.int .u8 0, .int .u16 0, .int .u64 0]) w := by
  simp [Instr.build, Instr.fill, agg_cells, Try.zeroValue56, Try.runUnderlying56, Try.sizeOf22, Try.sizeOf46, Try.sizeOf5]
theorem bld_56_0 (v0 : Value) (h0 : cell1 v0 = true) (w : World) : (Instr.build 56 #[(0, v0)]).run Try.prog w = .ok (.agg #[v0, .int .u16 0, .int .u64 0]) w := by
  simp [Instr.build, Instr.fill, agg_cells, Try.zeroValue56, Try.runUnderlying56, Try.sizeOf22, Try.sizeOf46, Try.sizeOf5, cell1_cells h0]
theorem bld_83   (w : World) : (Instr.build 83 #[]).run Try.prog w = .ok (.agg #[]) w := by
  simp [Instr.build, Instr.fill, agg_cells, Try.zeroValue83, Try.runUnderlying83]
theorem bld_89_0_1_2_3 (v0 : Value) (v1 : Value) (v2 : Value) (v3 : Value) (h0 : cell1 v0 = true) (h1 : cell1 v1 = true) (h2 : cell1 v2 = true) (h3 : cell1 v3 = true) (w : World) : (Instr.build 89 #[(0, v0), (1, v1), (2, v2), (3, v3)]).run Try.prog w = .ok (.agg #[v0, v1, v2, v3]) w := by
  simp [Instr.build, Instr.fill, agg_cells, Try.zeroValue89, Try.runUnderlying89, Try.sizeOf39, Try.sizeOf73, Try.sizeOf87, cell1_cells h0, cell1_cells h1, cell1_cells h2, cell1_cells h3]
theorem bld_91_0_1_2 (v0 : Value) (v1_0 v1_1 v1_2 : Value) (v2 : Value) (h0 : cell1 v0 = true) (h2 : cell1 v2 = true) (w : World) : (Instr.build 91 #[(0, v0), (1, .agg #[v1_0, v1_1, v1_2]), (2, v2)]).run Try.prog w = .ok (.agg #[v0, v1_0, v1_1, v1_2, v2, .int .i64 0]) w := by
  simp [Instr.build, Instr.fill, agg_cells, Try.zeroValue91, Try.runUnderlying91, Try.sizeOf27, Try.sizeOf3, Try.sizeOf38, Try.sizeOf46, cell1_cells h0, cell1_cells h2]
theorem bld_102_0 (v0 : Value) (h0 : cell1 v0 = true) (w : World) : (Instr.build 102 #[(0, v0)]).run Try.prog w = .ok (.agg #[v0, .int .i64 0]) w := by
  simp [Instr.build, Instr.fill, agg_cells, Try.zeroValue102, Try.runUnderlying102, Try.sizeOf3, cell1_cells h0]
theorem bld_103   (w : World) : (Instr.build 103 #[]).run Try.prog w = .ok (.agg #[]) w := by
  simp [Instr.build, Instr.fill, agg_cells, Try.zeroValue103, Try.runUnderlying103]
theorem bld_122   (w : World) : (Instr.build 122 #[]).run Try.prog w = .ok (.agg #[.int .i64 0, .int .i64 0]) w := by
  simp [Instr.build, Instr.fill, agg_cells, Try.zeroValue122, Try.runUnderlying122, Try.sizeOf3]
theorem bld_122_0_1 (v0 : Value) (v1 : Value) (h0 : cell1 v0 = true) (h1 : cell1 v1 = true) (w : World) : (Instr.build 122 #[(0, v0), (1, v1)]).run Try.prog w = .ok (.agg #[v0, v1]) w := by
  simp [Instr.build, Instr.fill, agg_cells, Try.zeroValue122, Try.runUnderlying122, Try.sizeOf3, cell1_cells h0, cell1_cells h1]
end Go.Proofs.Ytbhpbnedocdneaa
