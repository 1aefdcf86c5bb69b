/- Part of the texts beneath a law: what its proof names. Conditions: none. -/
import Derived.Test.YtlcibdhmgclfjaaGreatQL17Nd
import Derived.Test.YtlcibdhmgclfjaaGreatRows
set_option linter.unusedSimpArgs false
set_option linter.unusedVariables false
set_option linter.unnecessarySimpa false
set_option linter.unusedSectionVars false
namespace Go.Proofs.YtlcibdhmgclfjaaGreat
open Go
theorem fa_gen {P : Program} {S f sz : Nat} {fs : Array Field} (t off : Nat) (hS : ∀ w, (underlying S).run P w = .ok (.struct fs) w) (hf : (fs[f]?).map (fun fd => (fd.type, fd.offset)) = some (t, off)) (hz : ∀ w, (sizeOf t).run P w = .ok sz w) (h0 : sz ≠ 0) (b k : Nat) (w : World) :
    (Instr.fieldAt S (.pointer (some ⟨b, k, none⟩)) f).run P w = .ok (.pointer (some ⟨b, k + off, none⟩)) w := by
  have ha : (⟨b, k, none⟩ : Addr).add off = ⟨b, k + off, none⟩ := by
    unfold Addr.add; split
    · rename_i e; rw [e]; rfl
    · rfl
  cases e : fs[f]? with
  | none => rw [e] at hf; cases hf
  | some fd =>
    rw [e] at hf
    simp only [Option.map_some, Option.some.injEq, Prod.mk.injEq] at hf
    obtain ⟨h1, h2⟩ := hf
    subst h1; subst h2
    simp [Instr.fieldAt, hS, e, Instr.sureAddr, fieldPlace, hz, h0, ha]
theorem Tryz.mixed : Tryz.prog.follows .mixedOrders = true := by kernel_rfl
theorem fa_24_0 : ∀ b k w, (Instr.fieldAt 24 (.pointer (some ⟨b, k, none⟩)) 0).run Tryz.prog w = .ok (.pointer (some ⟨b, k + 0, none⟩)) w := fa_gen 22 0 Tryz.runUnderlying24 rfl Tryz.sizeOf22 (by decide)
theorem fa_24_1 : ∀ b k w, (Instr.fieldAt 24 (.pointer (some ⟨b, k, none⟩)) 1).run Tryz.prog w = .ok (.pointer (some ⟨b, k + 1, none⟩)) w := fa_gen 22 1 Tryz.runUnderlying24 rfl Tryz.sizeOf22 (by decide)
theorem fa_24_2 : ∀ b k w, (Instr.fieldAt 24 (.pointer (some ⟨b, k, none⟩)) 2).run Tryz.prog w = .ok (.pointer (some ⟨b, k + 2, none⟩)) w := fa_gen 22 2 Tryz.runUnderlying24 rfl Tryz.sizeOf22 (by decide)
theorem fa_38_0 : ∀ b k w, (Instr.fieldAt 38 (.pointer (some ⟨b, k, none⟩)) 0).run Tryz.prog w = .ok (.pointer (some ⟨b, k + 0, none⟩)) w := fa_gen 3 0 Tryz.runUnderlying38 rfl Tryz.sizeOf3 (by decide)
theorem fa_38_1 : ∀ b k w, (Instr.fieldAt 38 (.pointer (some ⟨b, k, none⟩)) 1).run Tryz.prog w = .ok (.pointer (some ⟨b, k + 1, none⟩)) w := fa_gen 3 1 Tryz.runUnderlying38 rfl Tryz.sizeOf3 (by decide)
theorem fa_40_0 : ∀ b k w, (Instr.fieldAt 40 (.pointer (some ⟨b, k, none⟩)) 0).run Tryz.prog w = .ok (.pointer (some ⟨b, k + 0, none⟩)) w := fa_gen 3 0 Tryz.runUnderlying40 rfl Tryz.sizeOf3 (by decide)
theorem fa_40_1 : ∀ b k w, (Instr.fieldAt 40 (.pointer (some ⟨b, k, none⟩)) 1).run Tryz.prog w = .ok (.pointer (some ⟨b, k + 1, none⟩)) w := fa_gen 3 1 Tryz.runUnderlying40 rfl Tryz.sizeOf3 (by decide)
theorem fa_40_2 : ∀ b k w, (Instr.fieldAt 40 (.pointer (some ⟨b, k, none⟩)) 2).run Tryz.prog w = .ok (.pointer (some ⟨b, k + 2, none⟩)) w := fa_gen 3 2 Tryz.runUnderlying40 rfl Tryz.sizeOf3 (by decide)
theorem fa_45_1 : ∀ b k w, (Instr.fieldAt 45 (.pointer (some ⟨b, k, none⟩)) 1).run Tryz.prog w = .ok (.pointer (some ⟨b, k + 3, none⟩)) w := fa_gen 41 3 Tryz.runUnderlying45 rfl Tryz.sizeOf41 (by decide)
theorem fa_45_2 : ∀ b k w, (Instr.fieldAt 45 (.pointer (some ⟨b, k, none⟩)) 2).run Tryz.prog w = .ok (.pointer (some ⟨b, k + 4, none⟩)) w := fa_gen 3 4 Tryz.runUnderlying45 rfl Tryz.sizeOf3 (by decide)
theorem fa_45_3 : ∀ b k w, (Instr.fieldAt 45 (.pointer (some ⟨b, k, none⟩)) 3).run Tryz.prog w = .ok (.pointer (some ⟨b, k + 5, none⟩)) w := fa_gen 41 5 Tryz.runUnderlying45 rfl Tryz.sizeOf41 (by decide)
theorem fa_45_4 : ∀ b k w, (Instr.fieldAt 45 (.pointer (some ⟨b, k, none⟩)) 4).run Tryz.prog w = .ok (.pointer (some ⟨b, k + 6, none⟩)) w := fa_gen 4 6 Tryz.runUnderlying45 rfl Tryz.sizeOf4 (by decide)
theorem fa_45_5 : ∀ b k w, (Instr.fieldAt 45 (.pointer (some ⟨b, k, none⟩)) 5).run Tryz.prog w = .ok (.pointer (some ⟨b, k + 7, none⟩)) w := fa_gen 42 7 Tryz.runUnderlying45 rfl Tryz.sizeOf42 (by decide)
theorem fa_58_0 : ∀ b k w, (Instr.fieldAt 58 (.pointer (some ⟨b, k, none⟩)) 0).run Tryz.prog w = .ok (.pointer (some ⟨b, k + 0, none⟩)) w := fa_gen 3 0 Tryz.runUnderlying58 rfl Tryz.sizeOf3 (by decide)
theorem fa_58_1 : ∀ b k w, (Instr.fieldAt 58 (.pointer (some ⟨b, k, none⟩)) 1).run Tryz.prog w = .ok (.pointer (some ⟨b, k + 1, none⟩)) w := fa_gen 3 1 Tryz.runUnderlying58 rfl Tryz.sizeOf3 (by decide)
theorem fa_58_2 : ∀ b k w, (Instr.fieldAt 58 (.pointer (some ⟨b, k, none⟩)) 2).run Tryz.prog w = .ok (.pointer (some ⟨b, k + 2, none⟩)) w := fa_gen 3 2 Tryz.runUnderlying58 rfl Tryz.sizeOf3 (by decide)
theorem fa_58_3 : ∀ b k w, (Instr.fieldAt 58 (.pointer (some ⟨b, k, none⟩)) 3).run Tryz.prog w = .ok (.pointer (some ⟨b, k + 3, none⟩)) w := fa_gen 3 3 Tryz.runUnderlying58 rfl Tryz.sizeOf3 (by decide)
theorem fa_58_4 : ∀ b k w, (Instr.fieldAt 58 (.pointer (some ⟨b, k, none⟩)) 4).run Tryz.prog w = .ok (.pointer (some ⟨b, k + 4, none⟩)) w := fa_gen 4 4 Tryz.runUnderlying58 rfl Tryz.sizeOf4 (by decide)
theorem fa_93_0 : ∀ b k w, (Instr.fieldAt 93 (.pointer (some ⟨b, k, none⟩)) 0).run Tryz.prog w = .ok (.pointer (some ⟨b, k + 0, none⟩)) w := fa_gen 28 0 Tryz.runUnderlying93 rfl Tryz.sizeOf28 (by decide)
theorem fa_93_1 : ∀ b k w, (Instr.fieldAt 93 (.pointer (some ⟨b, k, none⟩)) 1).run Tryz.prog w = .ok (.pointer (some ⟨b, k + 1, none⟩)) w := fa_gen 40 1 Tryz.runUnderlying93 rfl Tryz.sizeOf40 (by decide)
theorem fa_93_2 : ∀ b k w, (Instr.fieldAt 93 (.pointer (some ⟨b, k, none⟩)) 2).run Tryz.prog w = .ok (.pointer (some ⟨b, k + 4, none⟩)) w := fa_gen 89 4 Tryz.runUnderlying93 rfl Tryz.sizeOf89 (by decide)
theorem fa_93_3 : ∀ b k w, (Instr.fieldAt 93 (.pointer (some ⟨b, k, none⟩)) 3).run Tryz.prog w = .ok (.pointer (some ⟨b, k + 5, none⟩)) w := fa_gen 90 5 Tryz.runUnderlying93 rfl Tryz.sizeOf90 (by decide)
theorem fa_93_4 : ∀ b k w, (Instr.fieldAt 93 (.pointer (some ⟨b, k, none⟩)) 4).run Tryz.prog w = .ok (.pointer (some ⟨b, k + 6, none⟩)) w := fa_gen 91 6 Tryz.runUnderlying93 rfl Tryz.sizeOf91 (by decide)
theorem fa_95_0 : ∀ b k w, (Instr.fieldAt 95 (.pointer (some ⟨b, k, none⟩)) 0).run Tryz.prog w = .ok (.pointer (some ⟨b, k + 0, none⟩)) w := fa_gen 3 0 Tryz.runUnderlying95 rfl Tryz.sizeOf3 (by decide)
theorem fa_95_1 : ∀ b k w, (Instr.fieldAt 95 (.pointer (some ⟨b, k, none⟩)) 1).run Tryz.prog w = .ok (.pointer (some ⟨b, k + 1, none⟩)) w := fa_gen 3 1 Tryz.runUnderlying95 rfl Tryz.sizeOf3 (by decide)
theorem fa_95_2 : ∀ b k w, (Instr.fieldAt 95 (.pointer (some ⟨b, k, none⟩)) 2).run Tryz.prog w = .ok (.pointer (some ⟨b, k + 2, none⟩)) w := fa_gen 25 2 Tryz.runUnderlying95 rfl Tryz.sizeOf25 (by decide)
theorem fa_99_0 : ∀ b k w, (Instr.fieldAt 99 (.pointer (some ⟨b, k, none⟩)) 0).run Tryz.prog w = .ok (.pointer (some ⟨b, k + 0, none⟩)) w := fa_gen 3 0 Tryz.runUnderlying99 rfl Tryz.sizeOf3 (by decide)
theorem fa_99_1 : ∀ b k w, (Instr.fieldAt 99 (.pointer (some ⟨b, k, none⟩)) 1).run Tryz.prog w = .ok (.pointer (some ⟨b, k + 1, none⟩)) w := fa_gen 3 1 Tryz.runUnderlying99 rfl Tryz.sizeOf3 (by decide)
theorem fa_105_0 : ∀ b k w, (Instr.fieldAt 105 (.pointer (some ⟨b, k, none⟩)) 0).run Tryz.prog w = .ok (.pointer (some ⟨b, k + 0, none⟩)) w := fa_gen 38 0 Tryz.runUnderlying105 rfl Tryz.sizeOf38 (by decide)
theorem fa_105_1 : ∀ b k w, (Instr.fieldAt 105 (.pointer (some ⟨b, k, none⟩)) 1).run Tryz.prog w = .ok (.pointer (some ⟨b, k + 2, none⟩)) w := fa_gen 3 2 Tryz.runUnderlying105 rfl Tryz.sizeOf3 (by decide)
theorem fa_111_0 : ∀ b k w, (Instr.fieldAt 111 (.pointer (some ⟨b, k, none⟩)) 0).run Tryz.prog w = .ok (.pointer (some ⟨b, k + 0, none⟩)) w := fa_gen 78 0 Tryz.runUnderlying111 rfl Tryz.sizeOf78 (by decide)
theorem fa_111_1 : ∀ b k w, (Instr.fieldAt 111 (.pointer (some ⟨b, k, none⟩)) 1).run Tryz.prog w = .ok (.pointer (some ⟨b, k + 1, none⟩)) w := fa_gen 25 1 Tryz.runUnderlying111 rfl Tryz.sizeOf25 (by decide)
theorem fa_111_2 : ∀ b k w, (Instr.fieldAt 111 (.pointer (some ⟨b, k, none⟩)) 2).run Tryz.prog w = .ok (.pointer (some ⟨b, k + 2, none⟩)) w := fa_gen 25 2 Tryz.runUnderlying111 rfl Tryz.sizeOf25 (by decide)
theorem fa_111_3 : ∀ b k w, (Instr.fieldAt 111 (.pointer (some ⟨b, k, none⟩)) 3).run Tryz.prog w = .ok (.pointer (some ⟨b, k + 3, none⟩)) w := fa_gen 109 3 Tryz.runUnderlying111 rfl Tryz.sizeOf109 (by decide)
theorem fa_129_0 : ∀ b k w, (Instr.fieldAt 129 (.pointer (some ⟨b, k, none⟩)) 0).run Tryz.prog w = .ok (.pointer (some ⟨b, k + 0, none⟩)) w := fa_gen 116 0 Tryz.runUnderlying129 rfl Tryz.sizeOf116 (by decide)
theorem fa_129_1 : ∀ b k w, (Instr.fieldAt 129 (.pointer (some ⟨b, k, none⟩)) 1).run Tryz.prog w = .ok (.pointer (some ⟨b, k + 1, none⟩)) w := fa_gen 28 1 Tryz.runUnderlying129 rfl Tryz.sizeOf28 (by decide)
theorem fa_129_2 : ∀ b k w, (Instr.fieldAt 129 (.pointer (some ⟨b, k, none⟩)) 2).run Tryz.prog w = .ok (.pointer (some ⟨b, k + 2, none⟩)) w := fa_gen 40 2 Tryz.runUnderlying129 rfl Tryz.sizeOf40 (by decide)
theorem fa_129_3 : ∀ b k w, (Instr.fieldAt 129 (.pointer (some ⟨b, k, none⟩)) 3).run Tryz.prog w = .ok (.pointer (some ⟨b, k + 5, none⟩)) w := fa_gen 4 5 Tryz.runUnderlying129 rfl Tryz.sizeOf4 (by decide)
theorem fa_129_4 : ∀ b k w, (Instr.fieldAt 129 (.pointer (some ⟨b, k, none⟩)) 4).run Tryz.prog w = .ok (.pointer (some ⟨b, k + 6, none⟩)) w := fa_gen 99 6 Tryz.runUnderlying129 rfl Tryz.sizeOf99 (by decide)
theorem fa_129_5 : ∀ b k w, (Instr.fieldAt 129 (.pointer (some ⟨b, k, none⟩)) 5).run Tryz.prog w = .ok (.pointer (some ⟨b, k + 8, none⟩)) w := fa_gen 127 8 Tryz.runUnderlying129 rfl Tryz.sizeOf127 (by decide)
theorem fa_129_6 : ∀ b k w, (Instr.fieldAt 129 (.pointer (some ⟨b, k, none⟩)) 6).run Tryz.prog w = .ok (.pointer (some ⟨b, k + 9, none⟩)) w := fa_gen 127 9 Tryz.runUnderlying129 rfl Tryz.sizeOf127 (by decide)
theorem fa_148_0 : ∀ b k w, (Instr.fieldAt 148 (.pointer (some ⟨b, k, none⟩)) 0).run Tryz.prog w = .ok (.pointer (some ⟨b, k + 0, none⟩)) w := fa_gen 3 0 Tryz.runUnderlying148 rfl Tryz.sizeOf3 (by decide)
theorem fa_148_1 : ∀ b k w, (Instr.fieldAt 148 (.pointer (some ⟨b, k, none⟩)) 1).run Tryz.prog w = .ok (.pointer (some ⟨b, k + 1, none⟩)) w := fa_gen 3 1 Tryz.runUnderlying148 rfl Tryz.sizeOf3 (by decide)
theorem fa_161_0 : ∀ b k w, (Instr.fieldAt 161 (.pointer (some ⟨b, k, none⟩)) 0).run Tryz.prog w = .ok (.pointer (some ⟨b, k + 0, none⟩)) w := fa_gen 159 0 Tryz.runUnderlying161 rfl Tryz.sizeOf159 (by decide)
theorem fa_161_1 : ∀ b k w, (Instr.fieldAt 161 (.pointer (some ⟨b, k, none⟩)) 1).run Tryz.prog w = .ok (.pointer (some ⟨b, k + 1, none⟩)) w := fa_gen 159 1 Tryz.runUnderlying161 rfl Tryz.sizeOf159 (by decide)
theorem fa_161_2 : ∀ b k w, (Instr.fieldAt 161 (.pointer (some ⟨b, k, none⟩)) 2).run Tryz.prog w = .ok (.pointer (some ⟨b, k + 2, none⟩)) w := fa_gen 3 2 Tryz.runUnderlying161 rfl Tryz.sizeOf3 (by decide)
theorem fa_171_0 : ∀ b k w, (Instr.fieldAt 171 (.pointer (some ⟨b, k, none⟩)) 0).run Tryz.prog w = .ok (.pointer (some ⟨b, k + 0, none⟩)) w := fa_gen 28 0 Tryz.runUnderlying171 rfl Tryz.sizeOf28 (by decide)
theorem fa_171_1 : ∀ b k w, (Instr.fieldAt 171 (.pointer (some ⟨b, k, none⟩)) 1).run Tryz.prog w = .ok (.pointer (some ⟨b, k + 1, none⟩)) w := fa_gen 40 1 Tryz.runUnderlying171 rfl Tryz.sizeOf40 (by decide)
theorem fa_171_2 : ∀ b k w, (Instr.fieldAt 171 (.pointer (some ⟨b, k, none⟩)) 2).run Tryz.prog w = .ok (.pointer (some ⟨b, k + 4, none⟩)) w := fa_gen 26 4 Tryz.runUnderlying171 rfl Tryz.sizeOf26 (by decide)
theorem fa_171_3 : ∀ b k w, (Instr.fieldAt 171 (.pointer (some ⟨b, k, none⟩)) 3).run Tryz.prog w = .ok (.pointer (some ⟨b, k + 5, none⟩)) w := fa_gen 3 5 Tryz.runUnderlying171 rfl Tryz.sizeOf3 (by decide)
theorem fa_191_0 : ∀ b k w, (Instr.fieldAt 191 (.pointer (some ⟨b, k, none⟩)) 0).run Tryz.prog w = .ok (.pointer (some ⟨b, k + 0, none⟩)) w := fa_gen 28 0 Tryz.runUnderlying191 rfl Tryz.sizeOf28 (by decide)
theorem fa_191_1 : ∀ b k w, (Instr.fieldAt 191 (.pointer (some ⟨b, k, none⟩)) 1).run Tryz.prog w = .ok (.pointer (some ⟨b, k + 1, none⟩)) w := fa_gen 40 1 Tryz.runUnderlying191 rfl Tryz.sizeOf40 (by decide)
theorem fa_191_2 : ∀ b k w, (Instr.fieldAt 191 (.pointer (some ⟨b, k, none⟩)) 2).run Tryz.prog w = .ok (.pointer (some ⟨b, k + 4, none⟩)) w := fa_gen 95 4 Tryz.runUnderlying191 rfl Tryz.sizeOf95 (by decide)
theorem fa_191_3 : ∀ b k w, (Instr.fieldAt 191 (.pointer (some ⟨b, k, none⟩)) 3).run Tryz.prog w = .ok (.pointer (some ⟨b, k + 7, none⟩)) w := fa_gen 3 7 Tryz.runUnderlying191 rfl Tryz.sizeOf3 (by decide)
theorem fa_191_4 : ∀ b k w, (Instr.fieldAt 191 (.pointer (some ⟨b, k, none⟩)) 4).run Tryz.prog w = .ok (.pointer (some ⟨b, k + 8, none⟩)) w := fa_gen 3 8 Tryz.runUnderlying191 rfl Tryz.sizeOf3 (by decide)
theorem fa_191_5 : ∀ b k w, (Instr.fieldAt 191 (.pointer (some ⟨b, k, none⟩)) 5).run Tryz.prog w = .ok (.pointer (some ⟨b, k + 9, none⟩)) w := fa_gen 3 9 Tryz.runUnderlying191 rfl Tryz.sizeOf3 (by decide)
theorem fa_191_6 : ∀ b k w, (Instr.fieldAt 191 (.pointer (some ⟨b, k, none⟩)) 6).run Tryz.prog w = .ok (.pointer (some ⟨b, k + 10, none⟩)) w := fa_gen 25 10 Tryz.runUnderlying191 rfl Tryz.sizeOf25 (by decide)
theorem fa_191_7 : ∀ b k w, (Instr.fieldAt 191 (.pointer (some ⟨b, k, none⟩)) 7).run Tryz.prog w = .ok (.pointer (some ⟨b, k + 11, none⟩)) w := fa_gen 189 11 Tryz.runUnderlying191 rfl Tryz.sizeOf189 (by decide)
theorem fa_191_8 : ∀ b k w, (Instr.fieldAt 191 (.pointer (some ⟨b, k, none⟩)) 8).run Tryz.prog w = .ok (.pointer (some ⟨b, k + 12, none⟩)) w := fa_gen 4 12 Tryz.runUnderlying191 rfl Tryz.sizeOf4 (by decide)
theorem fa_209_0 : ∀ b k w, (Instr.fieldAt 209 (.pointer (some ⟨b, k, none⟩)) 0).run Tryz.prog w = .ok (.pointer (some ⟨b, k + 0, none⟩)) w := fa_gen 5 0 Tryz.runUnderlying209 rfl Tryz.sizeOf5 (by decide)
theorem fa_209_1 : ∀ b k w, (Instr.fieldAt 209 (.pointer (some ⟨b, k, none⟩)) 1).run Tryz.prog w = .ok (.pointer (some ⟨b, k + 1, none⟩)) w := fa_gen 5 1 Tryz.runUnderlying209 rfl Tryz.sizeOf5 (by decide)
theorem tb_3 : ((Tryz.prog.info? 3).map fun i => decide (i.bytes ≤ 65536) && decide (i.bytes ≠ 0)) = some true := by kernel_rfl
theorem tb_26 : ((Tryz.prog.info? 26).map fun i => decide (i.bytes ≤ 65536) && decide (i.bytes ≠ 0)) = some true := by kernel_rfl
theorem tb_105 : ((Tryz.prog.info? 105).map fun i => decide (i.bytes ≤ 65536) && decide (i.bytes ≠ 0)) = some true := by kernel_rfl
theorem tb_136 : ((Tryz.prog.info? 136).map fun i => decide (i.bytes ≤ 65536) && decide (i.bytes ≠ 0)) = some true := by kernel_rfl
theorem bld_24_2 (v2 : Value) (h2 : cell1 v2 = true) (w : World) : (Instr.build 24 #[(2, v2)]).run Tryz.prog w = .ok (.agg #[.int .u16 0, .int .u16 0, v2]) w := by
  simp [Instr.build, Instr.fill, agg_cells, Tryz.zeroValue24, Tryz.runUnderlying24, Tryz.sizeOf22, cell1_cells h2]
theorem bld_38   (w : World) : (Instr.build 38 #[]).run Tryz.prog w = .ok (.agg #[.int .i64 0, .int .i64 0]) w := by
  simp [Instr.build, Instr.fill, agg_cells, Tryz.zeroValue38, Tryz.runUnderlying38, Tryz.sizeOf3]
theorem bld_38_0 (v0 : Value) (h0 : cell1 v0 = true) (w : World) : (Instr.build 38 #[(0, v0)]).run Tryz.prog w = .ok (.agg #[v0, .int .i64 0]) w := by
  simp [Instr.build, Instr.fill, agg_cells, Tryz.zeroValue38, Tryz.runUnderlying38, Tryz.sizeOf3, cell1_cells h0]
theorem bld_38_0_1 (v0 : Value) (v1 : Value) (h0 : cell1 v0 = true) (h1 : cell1 v1 = true) (w : World) : (Instr.build 38 #[(0, v0), (1, v1)]).run Tryz.prog w = .ok (.agg #[v0, v1]) w := by
  simp [Instr.build, Instr.fill, agg_cells, Tryz.zeroValue38, Tryz.runUnderlying38, Tryz.sizeOf3, cell1_cells h0, cell1_cells h1]
theorem bld_38_1_0 (v0 : Value) (v1 : Value) (h0 : cell1 v0 = true) (h1 : cell1 v1 = true) (w : World) : (Instr.build 38 #[(1, v1), (0, v0)]).run Tryz.prog w = .ok (.agg #[v0, v1]) w := by
  simp [Instr.build, Instr.fill, agg_cells, Tryz.zeroValue38, Tryz.runUnderlying38, Tryz.sizeOf3, cell1_cells h1, cell1_cells h0]
theorem bld_40   (w : World) : (Instr.build 40 #[]).run Tryz.prog w = .ok (.agg #[.int .i64 0, .int .i64 0, .int .i64 0]) w := by
  simp [Instr.build, Instr.fill, agg_cells, Tryz.zeroValue40, Tryz.runUnderlying40, Tryz.sizeOf3]
theorem bld_40_0_1_2 (v0 : Value) (v1 : Value) (v2 : Value) (h0 : cell1 v0 = true) (h1 : cell1 v1 = true) (h2 : cell1 v2 = true) (w : World) : (Instr.build 40 #[(0, v0), (1, v1), (2, v2)]).run Tryz.prog w = .ok (.agg #[v0, v1, v2]) w := by
  simp [Instr.build, Instr.fill, agg_cells, Tryz.zeroValue40, Tryz.runUnderlying40, Tryz.sizeOf3, cell1_cells h0, cell1_cells h1, cell1_cells h2]
theorem bld_40_1_0_2 (v0 : Value) (v1 : Value) (v2 : Value) (h0 : cell1 v0 = true) (h1 : cell1 v1 = true) (h2 : cell1 v2 = true) (w : World) : (Instr.build 40 #[(1, v1), (0, v0), (2, v2)]).run Tryz.prog w = .ok (.agg #[v0, v1, v2]) w := by
  simp [Instr.build, Instr.fill, agg_cells, Tryz.zeroValue40, Tryz.runUnderlying40, Tryz.sizeOf3, cell1_cells h1, cell1_cells h0, cell1_cells h2]
theorem bld_45_0_1_8 (v0_0 v0_1 v0_2 : Value) (v1 : Value) (v8 : Value) (h1 : cell1 v1 = true) (h8 : cell1 v8 = true) (w : World) : (Instr.build 45 #[(0, .agg #[v0_0, v0_1, v0_2]), (1, v1), (8, v8)]).run Tryz.prog w = .ok (.agg #[v0_0, v0_1, v0_2, v1, .int .i64 0, .slice none 0 0, .bool false, .slice none 0 0, .slice none 0 0, .slice none 0 0, v8, .int .i64 0]) w := by
  simp [Instr.build, Instr.fill, agg_cells, Tryz.zeroValue45, Tryz.runUnderlying45, Tryz.sizeOf3, Tryz.sizeOf4, Tryz.sizeOf40, Tryz.sizeOf41, Tryz.sizeOf42, Tryz.sizeOf43, cell1_cells h1, cell1_cells h8]
theorem bld_58_0_1_2_3_4 (v0 : Value) (v1 : Value) (v2 : Value) (v3 : Value) (v4 : Value) (h0 : cell1 v0 = true) (h1 : cell1 v1 = true) (h2 : cell1 v2 = true) (h3 : cell1 v3 = true) (h4 : cell1 v4 = true) (w : World) : (Instr.build 58 #[(0, v0), (1, v1), (2, v2), (3, v3), (4, v4)]).run Tryz.prog w = .ok (.agg #[v0, v1, v2, v3, v4]) w := by
  simp [Instr.build, Instr.fill, agg_cells, Tryz.zeroValue58, Tryz.runUnderlying58, Tryz.sizeOf3, Tryz.sizeOf4, cell1_cells h0, cell1_cells h1, cell1_cells h2, cell1_cells h3, cell1_cells h4]
theorem bld_93_0_1_2_3 (v0 : Value) (v1_0 v1_1 v1_2 : Value) (v2 : Value) (v3 : Value) (h0 : cell1 v0 = true) (h2 : cell1 v2 = true) (h3 : cell1 v3 = true) (w : World) : (Instr.build 93 #[(0, v0), (1, .agg #[v1_0, v1_1, v1_2]), (2, v2), (3, v3)]).run Tryz.prog w = .ok (.agg #[v0, v1_0, v1_1, v1_2, v2, v3, .pointer none]) w := by
  simp [Instr.build, Instr.fill, agg_cells, Tryz.zeroValue93, Tryz.runUnderlying93, Tryz.sizeOf28, Tryz.sizeOf40, Tryz.sizeOf89, Tryz.sizeOf90, Tryz.sizeOf91, cell1_cells h0, cell1_cells h2, cell1_cells h3]
theorem bld_95   (w : World) : (Instr.build 95 #[]).run Tryz.prog w = .ok (.agg #[.int .i64 0, .int .i64 0, .slice none 0 0]) w := by
  simp [Instr.build, Instr.fill, agg_cells, Tryz.zeroValue95, Tryz.runUnderlying95, Tryz.sizeOf25, Tryz.sizeOf3]
theorem bld_95_0_1 (v0 : Value) (v1 : Value) (h0 : cell1 v0 = true) (h1 : cell1 v1 = true) (w : World) : (Instr.build 95 #[(0, v0), (1, v1)]).run Tryz.prog w = .ok (.agg #[v0, v1, .slice none 0 0]) w := by
  simp [Instr.build, Instr.fill, agg_cells, Tryz.zeroValue95, Tryz.runUnderlying95, Tryz.sizeOf25, Tryz.sizeOf3, cell1_cells h0, cell1_cells h1]
theorem bld_99   (w : World) : (Instr.build 99 #[]).run Tryz.prog w = .ok (.agg #[.int .i64 0, .int .i64 0]) w := by
  simp [Instr.build, Instr.fill, agg_cells, Tryz.zeroValue99, Tryz.runUnderlying99, Tryz.sizeOf3]
theorem bld_99_0_1 (v0 : Value) (v1 : Value) (h0 : cell1 v0 = true) (h1 : cell1 v1 = true) (w : World) : (Instr.build 99 #[(0, v0), (1, v1)]).run Tryz.prog w = .ok (.agg #[v0, v1]) w := by
  simp [Instr.build, Instr.fill, agg_cells, Tryz.zeroValue99, Tryz.runUnderlying99, Tryz.sizeOf3, cell1_cells h0, cell1_cells h1]
theorem bld_105   (w : World) : (Instr.build 105 #[]).run Tryz.prog w = .ok (.agg #[.int .i64 0, .int .i64 0, .int .i64 0]) w := by
  simp [Instr.build, Instr.fill, agg_cells, Tryz.zeroValue105, Tryz.runUnderlying105, Tryz.sizeOf3, Tryz.sizeOf38]
theorem bld_105_0_1 (v0_0 v0_1 : Value) (v1 : Value) (h1 : cell1 v1 = true) (w : World) : (Instr.build 105 #[(0, .agg #[v0_0, v0_1]), (1, v1)]).run Tryz.prog w = .ok (.agg #[v0_0, v0_1, v1]) w := by
  simp [Instr.build, Instr.fill, agg_cells, Tryz.zeroValue105, Tryz.runUnderlying105, Tryz.sizeOf3, Tryz.sizeOf38, cell1_cells h1]
theorem bld_105_1 (v1 : Value) (h1 : cell1 v1 = true) (w : World) : (Instr.build 105 #[(1, v1)]).run Tryz.prog w = .ok (.agg #[.int .i64 0, .int .i64 0, v1]) w := by
  simp [Instr.build, Instr.fill, agg_cells, Tryz.zeroValue105, Tryz.runUnderlying105, Tryz.sizeOf3, Tryz.sizeOf38, cell1_cells h1]
theorem bld_111_0_1_2_3 (v0 : Value) (v1 : Value) (v2 : Value) (v3 : Value) (h0 : cell1 v0 = true) (h1 : cell1 v1 = true) (h2 : cell1 v2 = true) (h3 : cell1 v3 = true) (w : World) : (Instr.build 111 #[(0, v0), (1, v1), (2, v2), (3, v3)]).run Tryz.prog w = .ok (.agg #[v0, v1, v2, v3]) w := by
  simp [Instr.build, Instr.fill, agg_cells, Tryz.zeroValue111, Tryz.runUnderlying111, Tryz.sizeOf109, Tryz.sizeOf25, Tryz.sizeOf78, cell1_cells h0, cell1_cells h1, cell1_cells h2, cell1_cells h3]
theorem bld_129_0_1_2 (v0 : Value) (v1 : Value) (v2_0 v2_1 v2_2 : Value) (h0 : cell1 v0 = true) (h1 : cell1 v1 = true) (w : World) : (Instr.build 129 #[(0, v0), (1, v1), (2, .agg #[v2_0, v2_1, v2_2])]).run Tryz.prog w = .ok (.agg #[v0, v1, v2_0, v2_1, v2_2, .bool false, .int .i64 0, .int .i64 0, .map none, .map none]) w := by
  simp [Instr.build, Instr.fill, agg_cells, Tryz.zeroValue129, Tryz.runUnderlying129, Tryz.sizeOf116, Tryz.sizeOf127, Tryz.sizeOf28, Tryz.sizeOf4, Tryz.sizeOf40, Tryz.sizeOf99, cell1_cells h0, cell1_cells h1]
theorem bld_148_0 (v0 : Value) (h0 : cell1 v0 = true) (w : World) : (Instr.build 148 #[(0, v0)]).run Tryz.prog w = .ok (.agg #[v0, .int .i64 0]) w := by
  simp [Instr.build, Instr.fill, agg_cells, Tryz.zeroValue148, Tryz.runUnderlying148, Tryz.sizeOf3, cell1_cells h0]
theorem bld_149   (w : World) : (Instr.build 149 #[]).run Tryz.prog w = .ok (.agg #[]) w := by
  simp [Instr.build, Instr.fill, agg_cells, Tryz.zeroValue149, Tryz.runUnderlying149]
theorem bld_150   (w : World) : (Instr.build 150 #[]).run Tryz.prog w = .ok (.agg #[]) w := by
  simp [Instr.build, Instr.fill, agg_cells, Tryz.zeroValue150, Tryz.runUnderlying150]
theorem bld_161_0_1 (v0 : Value) (v1 : Value) (h0 : cell1 v0 = true) (h1 : cell1 v1 = true) (w : World) : (Instr.build 161 #[(0, v0), (1, v1)]).run Tryz.prog w = .ok (.agg #[v0, v1, .int .i64 0]) w := by
  simp [Instr.build, Instr.fill, agg_cells, Tryz.zeroValue161, Tryz.runUnderlying161, Tryz.sizeOf159, Tryz.sizeOf3, cell1_cells h0, cell1_cells h1]
theorem bld_171_0_1_2 (v0 : Value) (v1_0 v1_1 v1_2 : Value) (v2 : Value) (h0 : cell1 v0 = true) (h2 : cell1 v2 = true) (w : World) : (Instr.build 171 #[(0, v0), (1, .agg #[v1_0, v1_1, v1_2]), (2, v2)]).run Tryz.prog w = .ok (.agg #[v0, v1_0, v1_1, v1_2, v2, .int .i64 0]) w := by
  simp [Instr.build, Instr.fill, agg_cells, Tryz.zeroValue171, Tryz.runUnderlying171, Tryz.sizeOf26, Tryz.sizeOf28, Tryz.sizeOf3, Tryz.sizeOf40, cell1_cells h0, cell1_cells h2]
theorem bld_191_0_1_2_3_4_5_6_7 (v0 : Value) (v1_0 v1_1 v1_2 : Value) (v2_0 v2_1 v2_2 : Value) (v3 : Value) (v4 : Value) (v5 : Value) (v6 : Value) (v7 : Value) (h0 : cell1 v0 = true) (h3 : cell1 v3 = true) (h4 : cell1 v4 = true) (h5 : cell1 v5 = true) (h6 : cell1 v6 = true) (h7 : cell1 v7 = true) (w : World) : (Instr.build 191 #[(0, v0), (1, .agg #[v1_0, v1_1, v1_2]), (2, .agg #[v2_0, v2_1, v2_2]), (3, v3), (4, v4), (5, v5), (6, v6), (7, v7)]).run Tryz.prog w = .ok (.agg #[v0, v1_0, v1_1, v1_2, v2_0, v2_1, v2_2, v3, v4, v5, v6, v7, .bool false]) w := by
  simp [Instr.build, Instr.fill, agg_cells, Tryz.zeroValue191, Tryz.runUnderlying191, Tryz.sizeOf189, Tryz.sizeOf25, Tryz.sizeOf28, Tryz.sizeOf3, Tryz.sizeOf4, Tryz.sizeOf40, Tryz.sizeOf95, cell1_cells h0, cell1_cells h3, cell1_cells h4, cell1_cells h5, cell1_cells h6, cell1_cells h7]
theorem bld_209_0_1 (v0 : Value) (v1 : Value) (h0 : cell1 v0 = true) (h1 : cell1 v1 = true) (w : World) : (Instr.build 209 #[(0, v0), (1, v1)]).run Tryz.prog w = .ok (.agg #[v0, v1]) w := by
  simp [Instr.build, Instr.fill, agg_cells, Tryz.zeroValue209, Tryz.runUnderlying209, Tryz.sizeOf5, cell1_cells h0, cell1_cells h1]
theorem bld_209_1 (v1 : Value) (h1 : cell1 v1 = true) (w : World) : (Instr.build 209 #[(1, v1)]).run Tryz.prog w = .ok (.agg #[.int .u8 0, v1]) w := by
  simp [Instr.build, Instr.fill, agg_cells, Tryz.zeroValue209, Tryz.runUnderlying209, Tryz.sizeOf5, cell1_cells h1]
end Go.Proofs.YtlcibdhmgclfjaaGreat
namespace Go.Proofs.YtlcibdhmgclfjaaGreat
open Go
structure Pow where
  lim : Int
  used : Int
def Pow.out (s : Pow) : Bool := decide (0 ≤ s.lim) && decide (s.lim ≤ s.used)
def Pow.up (s : Pow) : Pow := { s with used := IntKind.i64.wrap (s.used + 1) }
def PowA (b : Nat) (s : Pow) : HP := row b [.int .i64 s.lim, .int .i64 s.used] 148
def offc : List PanicEntry := [{ v := .iface 150 (.agg #[]), recovered := false }]
abbrev ptr (b : Nat) : Value := .pointer (some ⟨b, 0, none⟩)
theorem pnew_ok (B : World) (Fr : List HP) (n : Int) :
    ∀ w, Holds B Fr w → Calls Tryz.prog 35 [.int .i64 n].toArray w (Ret B (fun v H' => ∃ b, v = ptr b ∧ H' = PowA b ⟨n, 0⟩ :: Fr) (fun _ _ => False)) := by
  refine fn_enter Tryz.func35 rfl Tryz.ntmps35 rfl (g_seq (g_region (kPa rfl rfl (p_nil (g_seq (g_region (kPm rfl rfl (kPv (ev_build rfl (bld_148_0 _ rfl)) rfl (p_chg rfl (ch_boxA rfl) .free rfl rfl ?_)))))))))
  rintro _ _ ⟨b5, rfl, rfl⟩
  refine kPa rfl rfl (p_nil (g_ret ?_))
  exact ret_tmp Tryz.results35 rfl (fun w hw => ⟨_, ⟨_, rfl, rfl⟩, hw⟩)
theorem used_ok (B : World) (Fr : List HP) (b : Nat) (s : Pow) :
    ∀ w, Holds B (PowA b s :: Fr) w → Calls Tryz.prog 223 [ptr b].toArray w (PureR B (PowA b s :: Fr) (.int .i64 s.used)) := by
  rw [PowA]
  refine fn_enter Tryz.func223 rfl Tryz.ntmps223 rfl (g_seq (g_region (kPa rfl rfl (p_nil (g_seq (g_region (kPm rfl rfl ?_)))))))
  first | refine kPv (ev_nil rfl) rfl ?_ | refine kPv (ev_nilf rfl) rfl ?_
  refine kPv (ev_fa (m := _) fa_148_1 rfl rfl) rfl (kPv (ev_load Tryz.isAgg3 rfl rfl) rfl (kPa rfl rfl (p_nil (g_ret ?_))))
  exact ret_tmp Tryz.results223 rfl (fun w hw => ⟨rfl, hw⟩)
theorem tick_ok (B : World) (Fr : List HP) (b : Nat) (s : Pow) :
    ∀ w, Holds B (PowA b s :: Fr) w → Calls Tryz.prog 165 [ptr b].toArray w (Ret B (fun v H' => ∃ s', (s.out = false ∧ v = .tuple #[] ∧ s.up = s') ∧ H' = PowA b s' :: Fr) (fun c H' => ∃ s', (s.out = true ∧ c = offc ∧ s = s') ∧ H' = PowA b s' :: Fr)) := by
  rw [PowA]
  refine fn_enter Tryz.func165 rfl Tryz.ntmps165 rfl (g_seq (g_seq (g_draw Tryz.mixed (by kernel_rfl) (by kernel_rfl) ?_)))
  refine kQm rfl rfl ?_
  first | refine kQv (ev_nil rfl) rfl ?_ | refine kQv (ev_nilf rfl) rfl ?_
  refine kQv (ev_fa (m := _) fa_148_0 rfl rfl) rfl (kQv (ev_load Tryz.isAgg3 rfl rfl) rfl (kQv (ev_cmp rfl rfl rfl) rfl (kQm rfl rfl ?_)))
  apply q_and (tp := 17) (t := 7) (σ1 := [(7, _), (0, _)]) 10 rfl ⟨rfl, rfl, trivial⟩
  · intro hg1
    refine q_val rfl (ev_move rfl) (.on rfl rfl (beq_eq hg1)) rfl ?_
    first | refine q_val rfl (ev_nil rfl) (.on rfl rfl (beq_eq hg1)) rfl ?_ | refine q_val rfl (ev_nilf rfl) (.on rfl rfl (beq_eq hg1)) rfl ?_
    refine q_val rfl (ev_fa (m := _) fa_148_1 rfl rfl) (.on rfl rfl (beq_eq hg1)) rfl (q_val rfl (ev_load Tryz.isAgg3 rfl rfl) (.on rfl rfl (beq_eq hg1)) rfl (q_val rfl (ev_move rfl) (.on rfl rfl (beq_eq hg1)) rfl ?_))
    first | refine q_val rfl (ev_nil rfl) (.on rfl rfl (beq_eq hg1)) rfl ?_ | refine q_val rfl (ev_nilf rfl) (.on rfl rfl (beq_eq hg1)) rfl ?_
    refine q_val rfl (ev_fa (m := _) fa_148_0 rfl rfl) (.on rfl rfl (beq_eq hg1)) rfl (q_val rfl (ev_load Tryz.isAgg3 rfl rfl) (.on rfl rfl (beq_eq hg1)) rfl (q_val rfl (ev_cmp rfl rfl rfl) (.on rfl rfl (beq_eq hg1)) rfl (kQv (ev_pick_t rfl hg1 rfl) rfl ?_)))
    exact q_seg rfl ⟨rfl, rfl, trivial⟩ (and_t hg1)
  · intro hg1
    refine q_skip rfl (.on rfl rfl (beq_ne hg1)) rfl (q_skip rfl (.on rfl rfl (beq_ne hg1)) rfl (q_skip rfl (.on rfl rfl (beq_ne hg1)) rfl (q_skip rfl (.on rfl rfl (beq_ne hg1)) rfl (q_skip rfl (.on rfl rfl (beq_ne hg1)) rfl (q_skip rfl (.on rfl rfl (beq_ne hg1)) rfl (q_skip rfl (.on rfl rfl (beq_ne hg1)) rfl (q_skip rfl (.on rfl rfl (beq_ne hg1)) rfl (q_skip rfl (.on rfl rfl (beq_ne hg1)) rfl (kQv (ev_pick_f rfl hg1 rfl) rfl ?_)))))))))
    exact q_seg rfl ⟨rfl, rfl, trivial⟩ (and_f hg1)
  refine q_nil ?_
  refine g_if rfl (fun h17 => ?_) (fun h17 => ?_)
  · try simp only [decide_eq_true_eq, decide_eq_false_iff_not, Bool.not_eq_true', Bool.not_eq_false', Bool.or_eq_true, Bool.and_eq_true, Bool.and_eq_false_iff, Bool.or_eq_false_iff, beq_iff_eq, bne_iff_ne, beq_eq_false_iff_ne, bne_eq_false_iff_eq, ge_iff_le, gt_iff_lt, ne_eq] at h17
    refine g_region (kPv (ev_build rfl (bld_150)) rfl (kPv (ev_mki Tryz.runUnderlying150 rfl rfl) rfl (p_panico rfl .free ?_)))
    exact pan_fn (fun w hw => ⟨_, ⟨_, ⟨by simp [Pow.out]; omega, rfl, rfl⟩, rfl⟩, hw⟩)
  · try simp only [decide_eq_true_eq, decide_eq_false_iff_not, Bool.not_eq_true', Bool.not_eq_false', Bool.or_eq_true, Bool.and_eq_true, Bool.and_eq_false_iff, Bool.or_eq_false_iff, beq_iff_eq, bne_iff_ne, beq_eq_false_iff_ne, bne_eq_false_iff_eq, ge_iff_le, gt_iff_lt, ne_eq] at h17
    refine g_skip (g_region (kPm rfl rfl ?_))
    first | refine kPv (ev_nil rfl) rfl ?_ | refine kPv (ev_nilf rfl) rfl ?_
    refine kPv (ev_fa (m := _) fa_148_1 rfl rfl) rfl (kPv (ev_load Tryz.isAgg3 rfl rfl) rfl ?_)
    first | refine p_val rfl (ev_add rfl rfl (wr64 (by omega))) .free rfl rfl ?_ | refine p_val rfl (ev_add rfl rfl rfl) .free rfl rfl ?_
    first | refine kPv (ev_nil rfl) rfl ?_ | refine kPv (ev_nilf rfl) rfl ?_
    refine kPv (ev_fa (m := _) fa_148_1 rfl rfl) rfl (p_chg0 rfl (ch_store Tryz.sizeOf3 rfl rfl rfl rfl) .free rfl ?_)
    rintro _ _ rfl
    refine p_nil (go_sb [] rfl ?_)
    exact end_none Tryz.results165 (fun w hw => ⟨_, ⟨_, ⟨by simp [Pow.out]; omega, rfl, rfl⟩, rfl⟩, hw⟩)
theorem rec_pan {B : World} {H : List HP} {b : Nat} {x : Bool} {w : World} (hw : Holds B (row b [.bool x] 4 :: H) w) :
    CallsD Tryz.prog 105 #[ptr b] (.panicking offc) w fun e u' w' => e = .returned (.tuple #[]) ∧ u' = .panicking [{ v := .iface 150 (.agg #[]), recovered := true }] ∧ Holds B (row b [.bool false] 4 :: H) w' := by
  refine callsD_of_wpS Tryz.func105 rfl fun c₀ cs hu => ?_
  apply wpS_seq
  apply wpS_region
  simp [wpOpsS, go_sem, recoverD, hu, offc, Tryz.ntmps105, Exit.thenS]
  refine wpS_go (n := 15) (σ := [(0, ptr b), (1, .iface 150 (.agg #[]))]) (K := endK (Holds B (row b [.bool false] 4 :: H))) (X := noX) (by simp) rfl (by simp [KnA]) hw ?_ ?_
  · skip
    refine g_seq (g_region (kPm rfl rfl ?_))
    first | refine p_val rfl (ev_neqi Tryz.runUnderlying20 rfl (.inr ⟨_, _, rfl⟩)) .free rfl rfl ?_ | refine p_val rfl (ev_neqi Tryz.runUnderlying20 rfl (.inl rfl)) .free rfl rfl ?_
    refine p_nil (g_ift rfl (rfl) (g_seq (g_seq (g_region (kPm rfl rfl (kPv (ev_ta Tryz.runUnderlying150 rfl rfl) rfl (kPm rfl rfl (kPv (ev_ext rfl rfl) rfl (kPv (ev_ext rfl rfl) rfl (p_chg rfl (ch_allocA Tryz.zeroValue150 rfl) .free rfl rfl ?_))))))))))
    rintro _ _ ⟨b2, rfl, rfl⟩
    refine p_chg0 rfl (ch_storeA (vs := _) Tryz.sizeOf150 rfl rfl rfl rfl rfl) .free rfl ?_
    rintro _ _ rfl
    refine kPa rfl rfl (p_nil (go_sb [3, 0, 1] rfl (g_seq (g_region (kPm rfl rfl (kPv (ev_not rfl) rfl (p_nil (g_iff rfl (rfl) (g_skip (g_region (p_chg0 rfl (ch_store Tryz.sizeOf4 rfl rfl rfl rfl) .free rfl ?_)))))))))))
    rintro _ _ rfl
    refine p_nil ?_
    exact go_endK fun _ h => by first | exact h | exact (h.front 1 rfl).map fun _ k => sat_cons (fun _ k => sat_tail k) k
  · intro e a w' q
    obtain ⟨rfl, q1, q2⟩ := toQ_end q
    refine ⟨q1, .panicking [{ v := .iface 150 (.agg #[]), recovered := true }], rfl, .tuple #[], ?_, rfl, rfl, q2⟩
    exact results_none Tryz.results105 _ _ _
theorem rec_idle {B : World} {H : List HP} {b : Nat} {x : Bool} {w : World} (hw : Holds B (row b [.bool x] 4 :: H) w) :
    CallsD Tryz.prog 105 #[ptr b] .returning w fun e u' w' => e = .returned (.tuple #[]) ∧ u' = .returning ∧ Holds B (row b [.bool x] 4 :: H) w' := by
  refine callsD_of_wpS Tryz.func105 rfl fun c₀ cs hu => ?_
  apply wpS_seq
  apply wpS_region
  simp [wpOpsS, go_sem, recoverD, hu, Tryz.ntmps105, Exit.thenS]
  refine wpS_go (n := 15) (σ := [(0, ptr b), (1, .nilIface)]) (K := endK (Holds B (row b [.bool x] 4 :: H))) (X := noX) (by simp) rfl (by simp [KnA]) hw ?_ ?_
  · skip
    refine g_seq (g_region (kPm rfl rfl ?_))
    first | refine p_val rfl (ev_neqi Tryz.runUnderlying20 rfl (.inr ⟨_, _, rfl⟩)) .free rfl rfl ?_ | refine p_val rfl (ev_neqi Tryz.runUnderlying20 rfl (.inl rfl)) .free rfl rfl ?_
    refine p_nil (g_iff rfl (rfl) (g_skip ?_))
    exact go_endK fun _ h => h
  · intro e a w' q
    obtain ⟨rfl, q1, q2⟩ := toQ_end q
    refine ⟨q1, .returning, ?_, .tuple #[], ?_, rfl, rfl, q2⟩
    · cases c₀; simp_all
    · exact results_none Tryz.results105 _ _ _
theorem run_ok {B : World} {g : FuncId} {cap : List Value} {H : List HP} {Φ Ψ : List HP → Prop} (hc : ∀ args w, (callFunc g args).run Tryz.prog w = .ok (.enter g args) w)
    (h : ∀ A w, Holds B (A :: H) w → Calls Tryz.prog g cap.toArray w (Ret B (fun _ H' => ∃ H1, Φ H1 ∧ ∀ w, Holds B H' w → Holds B (A :: H1) w) (fun c H' => c = offc ∧ ∃ H1, Ψ H1 ∧ ∀ w, Holds B H' w → Holds B (A :: H1) w))) :
    ∀ w, Holds B H w → Calls Tryz.prog 36 [.func (.func g) #[] cap.toArray].toArray w (Ret B (fun v H' => (v = .bool true ∧ Φ H') ∨ (v = .bool false ∧ Ψ H')) (fun _ _ => False)) := by
  refine fn_enter_d Tryz.func36 rfl Tryz.ntmps36 rfl (g_seq (g_region (p_chg rfl (ch_alloc1 Tryz.zeroValue4 rfl) .free rfl rfl ?_)))
  rintro _ _ ⟨b, rfl, rfl⟩
  refine p_nil (g_seq (g_region (kPv (ev_mkf rfl rfl) rfl (p_defer rfl rfl .free (p_nil (g_seq (g_region (kPm rfl rfl ?_))))))))
  refine p_call rfl (en_c hc rfl rfl) (by simpa using h (row b [.bool false] 4)) .free rfl rfl ?_ ?_
  · rintro v H' ⟨H1, hΦ, hi⟩
    refine go_conv hi (p_nil (g_seq (g_region (p_chg0 rfl (ch_store Tryz.sizeOf4 rfl rfl rfl rfl) .free rfl ?_))))
    rintro _ _ rfl
    refine p_nil (g_ret ?_)
    intro a w s
    show Leaves _ _ _ _ a.defers .returning w
    rw [s.defers]
    refine leaves_cons (f := 105) (args := #[ptr b]) (by simp) (by simp [invoke, Tryz.call105]) ((rec_idle (x := true) s.holds).mono ?_)
    rintro e u' w' ⟨rfl, rfl, hw'⟩
    refine ⟨.bool true, ?_, H1, .inl ⟨rfl, hΦ⟩, hw'.tail⟩
    have h1 := s.env 2 (ptr b) rfl
    have h2 := hw'.ucell (b := b) 0
    simp [results, Tryz.results36, h1, asAddr, loadVar, Tryz.isAgg4, load, Sem.run, h2]
  · rintro c H' ⟨rfl, H1, hΨ, hi⟩
    refine go_conv hi ?_
    intro a w s
    show Leaves _ _ _ _ a.defers (.panicking offc) w
    rw [s.defers]
    refine leaves_cons (f := 105) (args := #[ptr b]) (by simp) (by simp [invoke, Tryz.call105]) ((rec_pan (x := false) s.holds).mono ?_)
    rintro e u' w' ⟨rfl, rfl, hw'⟩
    refine ⟨.bool false, ?_, H1, .inr ⟨rfl, hΨ⟩, hw'.tail⟩
    have h1 := s.env 2 (ptr b) rfl
    have h2 := hw'.ucell (b := b) 0
    simp [results, Tryz.results36, h1, asAddr, loadVar, Tryz.isAgg4, load, Sem.run, h2]
theorem run_det {B : World} {g : FuncId} {cap : List Value} {H : List HP} (r : Bool) (F : List HP) (hc : ∀ args w, (callFunc g args).run Tryz.prog w = .ok (.enter g args) w)
    (h : ∀ A w, Holds B (A :: H) w → Calls Tryz.prog g cap.toArray w (Ret B (fun _ H' => r = true ∧ ∀ w, Holds B H' w → Holds B (A :: F) w) (fun c H' => r = false ∧ c = offc ∧ ∀ w, Holds B H' w → Holds B (A :: F) w))) :
    ∀ w, Holds B H w → Calls Tryz.prog 36 [.func (.func g) #[] cap.toArray].toArray w (Ret B (fun v H' => v = .bool r ∧ H' = F) (fun _ _ => False)) := by
  intro w hw
  refine (run_ok (Φ := fun H1 => r = true ∧ H1 = F) (Ψ := fun H1 => r = false ∧ H1 = F) hc (fun A w hw => (h A w hw).mono (Ret.mono (fun v H' h => ⟨F, ⟨h.1, rfl⟩, h.2⟩) (fun c H' h => ⟨h.2.1, F, ⟨h.1, rfl⟩, h.2.2⟩))) w hw).mono (Ret.mono ?_ (fun _ _ h => h))
  rintro v H' (⟨rfl, rfl, rfl⟩ | ⟨rfl, rfl, rfl⟩) <;> exact ⟨rfl, rfl⟩
end Go.Proofs.YtlcibdhmgclfjaaGreat
namespace Go.Proofs.YtlcibdhmgclfjaaGreat
open Go
abbrev w64 (x : Int) : Value := .int .u64 x
abbrev encL (ws : List Int) : Value := .agg (ws.map w64).toArray
abbrev i64 (x : Int) : Value := .int .i64 x
structure Dev where
  pa : Nat
  pow : Pow
  n : Nat
  now : Nat → Int
  kept : Nat → Int
  q : Nat → Option (Nat → Int)
structure QRep (n : Nat) (q : Nat → Option (Nat → Int)) (l : List (Int × List Int)) : Prop where
  pos : ∀ p ∈ l, 0 ≤ p.1
  get : ∀ k : Nat, mget l k = (q k).map (tab 8)
  lt : ∀ k f, q k = some f → k * 8 + 8 ≤ n
structure DevW (s : Dev) (l : List (Int × List Int)) : Prop where
  line : s.n % 8 = 0
  pos : 0 < s.n
  le : s.n ≤ 1000000
  rep : QRep s.n s.q l
def DevB (b bn bk bq : Nat) (rest : List Value) (l : List (Int × List Int)) (s : Dev) : List HP :=
  [row b [.pointer (some ⟨s.pa, 0, none⟩), .slice (some ⟨bn, 0, none⟩) s.n s.n, .slice (some ⟨bk, 0, none⟩) s.n (s.n + rest.length), .map (some bq)] 111,
   row bn (tab s.n fun i => w64 (s.now i)) 26, row bk (tab s.n (fun i => w64 (s.kept i)) ++ rest) 26, mapA .i64 encL bq l, PowA s.pa s.pow, pr (DevW s l)]
def DevA (b : Nat) (s : Dev) : HP := hex fun (x : Nat × Nat × Nat × List Value × List (Int × List Int)) => grp (DevB b x.1 x.2.1 x.2.2.1 x.2.2.2.1 x.2.2.2.2 s)
theorem holds_dev {B : World} {b : Nat} {s : Dev} {Fr : List HP} {w : World} (h : Holds B (DevA b s :: Fr) w) : ∃ bn bk bq rest l, DevW s l ∧ Holds B (row b [.pointer (some ⟨s.pa, 0, none⟩), .slice (some ⟨bn, 0, none⟩) s.n s.n, .slice (some ⟨bk, 0, none⟩) s.n (s.n + rest.length), .map (some bq)] 111 ::
   row bn (tab s.n fun i => w64 (s.now i)) 26 :: row bk (tab s.n (fun i => w64 (s.kept i)) ++ rest) 26 :: mapA .i64 encL bq l :: PowA s.pa s.pow :: Fr) w := by
  obtain ⟨x, hx⟩ := h.hex
  have h2 := hx.grp
  simp only [DevB, List.cons_append, List.nil_append] at h2
  have h3 := (h2.front 5 rfl).pr
  exact ⟨_, _, _, _, _, h3.1, h3.2⟩
theorem dev_holds {B : World} {b : Nat} {s : Dev} {Fr : List HP} {w : World} {bn bk bq : Nat} {rest : List Value} {l : List (Int × List Int)} (hw : DevW s l) (h : Holds B (row b [.pointer (some ⟨s.pa, 0, none⟩), .slice (some ⟨bn, 0, none⟩) s.n s.n, .slice (some ⟨bk, 0, none⟩) s.n (s.n + rest.length), .map (some bq)] 111 ::
   row bn (tab s.n fun i => w64 (s.now i)) 26 :: row bk (tab s.n (fun i => w64 (s.kept i)) ++ rest) 26 :: mapA .i64 encL bq l :: PowA s.pa s.pow :: Fr) w) : Holds B (DevA b s :: Fr) w := by
  refine Holds.unhex (bn, bk, bq, rest, l) (Holds.ungrp (l := DevB b bn bk bq rest l s) ?_)
  exact (h.unpr hw).back 5 (by simp)
theorem go_dev {B : World} {n : Nat} {D : List Deferred} {σ : Env} {b : Nat} {s : Dev} {Fr : List HP} {K : Act → World → Prop} (h : ∀ bn bk bq rest l, DevW s l → GO B n D σ (row b [.pointer (some ⟨s.pa, 0, none⟩), .slice (some ⟨bn, 0, none⟩) s.n s.n, .slice (some ⟨bk, 0, none⟩) s.n (s.n + rest.length), .map (some bq)] 111 ::
   row bn (tab s.n fun i => w64 (s.now i)) 26 :: row bk (tab s.n (fun i => w64 (s.kept i)) ++ rest) 26 :: mapA .i64 encL bq l :: PowA s.pa s.pow :: Fr) K) : GO B n D σ (DevA b s :: Fr) K := fun a w st => by
  obtain ⟨bn, bk, bq, rest, l, h1, h2⟩ := holds_dev st.holds
  exact h bn bk bq rest l h1 a w ⟨st.toStA, h2⟩
theorem go_dw {B : World} {n : Nat} {D : List Deferred} {σ : Env} {H : List HP} {K : Act → World → Prop} (b : Nat) {s : Dev} {Fr : List HP} [At H DevA b s Fr] (h : s.n % 8 = 0 → 0 < s.n → s.n ≤ 1000000 → GO B n D σ H K) : GO B n D σ H K := fun a w st => by
  obtain ⟨_, _, _, _, _, hw, _⟩ := holds_dev (st.holds.pull DevA b)
  exact h hw.line hw.pos hw.le a w st
inductive Out (α : Type) where
  | ok (a : α) (s : Dev)
  | off (s : Dev)
abbrev okV {α : Type} (enc : α → Value) (m : Out α) (v : Value) (s : Dev) : Prop := ∃ a, m = .ok a s ∧ v = enc a
abbrev offV {α : Type} (m : Out α) (c : List PanicEntry) (s : Dev) : Prop := m = .off s ∧ c = offc
abbrev unitV (_ : Unit) : Value := .tuple #[]
def Dev.has (s : Dev) (i : Int) : Bool := decide (0 ≤ i) && decide (i < s.n)
def Dev.load (s : Dev) (i : Int) : Int := if s.has i = true then s.now i.toNat else 0
def Dev.up (s : Dev) : Dev := { s with pow := s.pow.up }
def Dev.st (s : Dev) (i : Nat) (v : Int) : Dev := { s with now := upd s.now i v }
def Dev.fl (s : Dev) (i : Nat) : Dev := { s with q := upd s.q (i / 8) (some fun k => s.now (i / 8 * 8 + k)) }
def fkept (kept : Nat → Int) (q : Nat → Option (Nat → Int)) (i : Nat) : Int := match q (i / 8) with
  | some f => f (i % 8)
  | none => kept i
def Dev.fe (s : Dev) : Dev := { s with kept := fkept s.kept s.q, q := fun _ => none }
def Dev.store (s : Dev) (i v : Int) : Out Int := if s.has i = false then .ok 1 s else if s.pow.out = true then .off s else .ok 0 (s.up.st i.toNat v)
def Dev.flush (s : Dev) (i : Int) : Out Int := if s.has i = false then .ok 1 s else if s.pow.out = true then .off s else .ok 0 (s.up.fl i.toNat)
def Dev.fence (s : Dev) : Out Unit := if s.pow.out = true then .off s else .ok () s.up.fe
def Dev.crash (s : Dev) (c : Nat → Int) : Dev :=
  let k := fun i => if c i % 3 = 1 then fkept s.kept s.q i else if c i % 3 = 2 then s.now i else s.kept i
  { s with now := k, kept := k, q := fun _ => none }
theorem nlen_ok (B : World) (Fr : List HP) (b : Nat) (s : Dev) :
    ∀ w, Holds B (DevA b s :: Fr) w → Calls Tryz.prog 118 [ptr b].toArray w (PureR B (DevA b s :: Fr) (i64 s.n)) := by
  refine fn_enter Tryz.func118 rfl Tryz.ntmps118 rfl (go_dev fun bn bk bq rest l hw => ?_)
  have hw1 := hw.line
  have hw2 := hw.pos
  have hw3 := hw.le
  refine g_seq (g_region (kPa rfl rfl (p_nil (g_seq (g_region (kPm rfl rfl ?_))))))
  first | refine kPv (ev_nil rfl) rfl ?_ | refine kPv (ev_nilf rfl) rfl ?_
  refine kPv (ev_fa (m := _) fa_111_1 rfl rfl) rfl (kPv (ev_load Tryz.isAgg25 rfl rfl) rfl (kPv (ev_len rfl Tryz.runUnderlying25 ⟨_, rfl⟩ rfl) rfl (kPa rfl rfl (p_nil (g_ret ?_)))))
  exact ret_tmp Tryz.results118 rfl (fun w hh => ⟨rfl, dev_holds hw hh⟩)
theorem nhas_ok (B : World) (Fr : List HP) (b : Nat) (s : Dev) (i : Int) :
    ∀ w, Holds B (DevA b s :: Fr) w → Calls Tryz.prog 137 [ptr b, i64 i].toArray w (PureR B (DevA b s :: Fr) (.bool (s.has i))) := by
  refine fn_enter Tryz.func137 rfl Tryz.ntmps137 rfl (go_dev fun bn bk bq rest l hw => ?_)
  have hw1 := hw.line
  have hw2 := hw.pos
  have hw3 := hw.le
  refine g_seq (g_region (kPa rfl rfl (p_nil (g_seq (g_region (kPm rfl rfl (kPv (ev_cmp rfl rfl rfl) rfl (kPm rfl rfl ?_))))))))
  apply p_and (tp := 15) (t := 7) (σ1 := [(7, _), (4, _)]) 8 rfl ⟨rfl, rfl, trivial⟩
  · intro hg1
    refine p_val rfl (ev_move rfl) (.on rfl rfl (beq_eq hg1)) rfl rfl (p_val rfl (ev_move rfl) (.on rfl rfl (beq_eq hg1)) rfl rfl ?_)
    first | refine p_val rfl (ev_nil rfl) (.on rfl rfl (beq_eq hg1)) rfl rfl ?_ | refine p_val rfl (ev_nilf rfl) (.on rfl rfl (beq_eq hg1)) rfl rfl ?_
    refine p_val rfl (ev_fa (m := _) fa_111_1 rfl rfl) (.on rfl rfl (beq_eq hg1)) rfl rfl (p_val rfl (ev_load Tryz.isAgg25 rfl rfl) (.on rfl rfl (beq_eq hg1)) rfl rfl (p_val rfl (ev_len rfl Tryz.runUnderlying25 ⟨_, rfl⟩ rfl) (.on rfl rfl (beq_eq hg1)) rfl rfl (p_val rfl (ev_cmp rfl rfl rfl) (.on rfl rfl (beq_eq hg1)) rfl rfl (kPv (ev_pick_t rfl hg1 rfl) rfl ?_))))
    exact p_seg rfl ⟨rfl, rfl, trivial⟩ (and_t hg1)
  · intro hg1
    refine p_skip rfl (.on rfl rfl (beq_ne hg1)) rfl (p_skip rfl (.on rfl rfl (beq_ne hg1)) rfl (p_skip rfl (.on rfl rfl (beq_ne hg1)) rfl (p_skip rfl (.on rfl rfl (beq_ne hg1)) rfl (p_skip rfl (.on rfl rfl (beq_ne hg1)) rfl (p_skip rfl (.on rfl rfl (beq_ne hg1)) rfl (p_skip rfl (.on rfl rfl (beq_ne hg1)) rfl (kPv (ev_pick_f rfl hg1 rfl) rfl ?_)))))))
    exact p_seg rfl ⟨rfl, rfl, trivial⟩ (and_f hg1)
  refine kPa rfl rfl (p_nil (g_ret ?_))
  exact ret_tmp Tryz.results137 rfl (fun w hh => ⟨rfl, dev_holds hw hh⟩)
theorem clone64_ok (B : World) (Fr : List HP) (q : Option Addr) (n cap : Nat) (cs : List Value) (hq : q ≠ none) (hn : cs.length ≤ 1000000) (hc : cs.all cell1 = true) (hr : SlR B Fr (.slice q n cap) cs) :
    ∀ w, Holds B Fr w → Calls Tryz.prog 104 [.slice q n cap].toArray w (Ret B (fun v H' => ∃ bn rest, v = .slice (some ⟨bn, 0, none⟩) n (n + rest.length) ∧ H' = row bn (cs ++ rest) 26 :: Fr) (fun _ _ => False)) := by
  refine fn_enter Tryz.func104 rfl Tryz.ntmps104 rfl ?_
  obtain ⟨_, _, e0, _⟩ := hr.ex
  obtain rfl : n = cs.length := by injection e0
  refine g_seq (g_region (kPa rfl rfl (p_nil (g_seq (g_seq (g_region (kPm rfl rfl (kPv (ev_eqsl Tryz.runUnderlying25 rfl rfl rfl) rfl (p_nil (g_iff rfl (by cases q with | none => exact absurd rfl hq | some _ => rfl) (g_skip ?_)))))))))))
  refine g_seq (g_region (p_chg rfl (ev_bs0 Tryz.runUnderlying25 Tryz.sizeOf26) .free rfl rfl ?_))
  rintro _ _ ⟨b0, rfl, rfl⟩
  refine kPm rfl rfl (p_chg rfl (ch_append rfl rfl Tryz.runUnderlying25 Tryz.runUnderlying25 ⟨_, rfl⟩ Tryz.sizeOf26 Tryz.zeroValue26 rfl tb_26 rfl rfl (hr.cons _) (by simp) (by simp) (by simp; omega) hc) .free rfl rfl (fun v H' hY => ?_))
  have hY2 : ∃ bn rest, v = .slice (some ⟨bn, 0, none⟩) cs.length (cs.length + rest.length) ∧ ∀ w, Holds B H' w → Holds B (row bn (cs ++ rest) 26 :: Fr) w := by
    rcases hY with ⟨h1, rfl, rfl⟩ | ⟨h1, bn, cn, rest, h2, _, rfl, rfl⟩
    · have : cs = [] := by simpa using h1
      subst this
      exact ⟨b0, [], rfl, fun w h => h⟩
    · exact ⟨bn, rest, by simp [← h2], fun w h => by simpa using (h.front 1 rfl).tail⟩
  obtain ⟨bn, rest, rfl, hY3⟩ := hY2
  refine go_conv hY3 (kPa rfl rfl (p_nil (g_ret ?_)))
  exact ret_tmp Tryz.results104 rfl (fun w hw => ⟨_, ⟨_, _, rfl, rfl⟩, hw⟩)
theorem nload_ok (B : World) (Fr : List HP) (b : Nat) (s : Dev) (i : Int) :
    ∀ w, Holds B (DevA b s :: Fr) w → Calls Tryz.prog 71 [ptr b, i64 i].toArray w (PureR B (DevA b s :: Fr) (w64 (s.load i))) := by
  refine fn_enter Tryz.func71 rfl Tryz.ntmps71 rfl (g_seq (g_region (kPa rfl rfl (p_nil (g_seq (g_seq (g_region (kPm rfl rfl (kPm rfl rfl (p_callq rfl (en_f Tryz.call137 rfl) (ro_at (fun Fr => nhas_ok _ Fr _ _ _)) .free rfl rfl ?_))))))))))
  refine kPv (ev_not rfl) rfl (p_nil ?_)
  refine g_if rfl (fun h8 => ?_) (fun h8 => ?_)
  · try simp only [decide_eq_true_eq, decide_eq_false_iff_not, Bool.not_eq_true', Bool.not_eq_false', Bool.or_eq_true, Bool.and_eq_true, Bool.and_eq_false_iff, Bool.or_eq_false_iff, beq_iff_eq, bne_iff_ne, beq_eq_false_iff_ne, bne_eq_false_iff_eq, ge_iff_le, gt_iff_lt, ne_eq] at h8
    refine g_seq (g_region (kPa rfl rfl (p_nil (g_ret ?_))))
    exact ret_tmp Tryz.results71 rfl (fun w hh => by
      first
        | exact ⟨by simp [Dev.load, h8], dev_holds hw hh⟩
        | exact ⟨by simp [Dev.load, h8], hh⟩)
  · try simp only [decide_eq_true_eq, decide_eq_false_iff_not, Bool.not_eq_true', Bool.not_eq_false', Bool.or_eq_true, Bool.and_eq_true, Bool.and_eq_false_iff, Bool.or_eq_false_iff, beq_iff_eq, bne_iff_ne, beq_eq_false_iff_ne, bne_eq_false_iff_eq, ge_iff_le, gt_iff_lt, ne_eq] at h8
    refine g_skip (g_seq (g_region (go_dev fun bn bk bq rest l hw => ?_)))
    have hw1 := hw.line
    have hw2 := hw.pos
    have hw3 := hw.le
    have hi : 0 ≤ i ∧ i < s.n := by simpa [Dev.has] using h8
    refine kPm rfl rfl ?_
    first | refine kPv (ev_nil rfl) rfl ?_ | refine kPv (ev_nilf rfl) rfl ?_
    refine kPv (ev_fa (m := _) fa_111_1 rfl rfl) rfl (kPv (ev_load Tryz.isAgg25 rfl rfl) rfl (kPm rfl rfl (kPv (ev_iaS Tryz.runUnderlying25 Tryz.sizeOf26 rfl rfl hi.1 hi.2) rfl (kPv (ev_load Tryz.isAgg26 rfl (by rw [Nat.zero_add]; exact tab_get (by omega))) rfl (kPa rfl rfl (p_nil (go_sb [4] rfl (g_ret ?_))))))))
    exact ret_tmp Tryz.results71 rfl (fun w hh => by
      first
        | exact ⟨by simp [Dev.load, h8], dev_holds hw hh⟩
        | exact ⟨by simp [Dev.load, h8], hh⟩)
theorem nstore_ok (B : World) (Fr : List HP) (b : Nat) (s : Dev) (i v : Int) :
    ∀ w, Holds B (DevA b s :: Fr) w → Calls Tryz.prog 120 [ptr b, i64 i, w64 v].toArray w (Ret B (fun rv H' => ∃ s', okV (fun e => i64 e) (s.store i v) rv s' ∧ H' = DevA b s' :: Fr) (fun c H' => ∃ s', offV (s.store i v) c s' ∧ H' = DevA b s' :: Fr)) := by
  refine fn_enter Tryz.func120 rfl Tryz.ntmps120 rfl (g_seq (g_region (kPa rfl rfl (p_nil (g_seq (g_seq (g_region (kPm rfl rfl (kPm rfl rfl (p_callq rfl (en_f Tryz.call137 rfl) (ro_at (fun Fr => nhas_ok _ Fr _ _ _)) .free rfl rfl ?_))))))))))
  refine kPv (ev_not rfl) rfl (p_nil ?_)
  refine g_if rfl (fun h10 => ?_) (fun h10 => ?_)
  · have hhas : s.has i = false := by simpa using h10
    refine g_seq (g_region (kPa rfl rfl (p_nil (g_ret ?_))))
    exact ret_tmp Tryz.results120 rfl (fun w hh => ⟨_, ⟨s, ⟨1, by simp [Dev.store, hhas], rfl⟩, rfl⟩, hh⟩)
  · have hhas : s.has i = true := by simpa using h10
    have hi : 0 ≤ i ∧ i < s.n := by simpa [Dev.has] using hhas
    refine g_skip (g_seq (g_region (go_dev fun bn bk bq rest l hw => ?_)))
    have hw1 := hw.line
    have hw2 := hw.pos
    have hw3 := hw.le
    refine kPm rfl rfl ?_
    first | refine kPv (ev_nil rfl) rfl ?_ | refine kPv (ev_nilf rfl) rfl ?_
    refine kPv (ev_fa (m := _) fa_111_0 rfl rfl) rfl (kPv (ev_load Tryz.isAgg78 rfl rfl) rfl ?_)
    refine p_call rfl (en_f Tryz.call165 rfl) (up_at (fun Fr => tick_ok _ Fr _ _)) .free rfl rfl ?_ ?_
    rotate_left
    · rintro _ _ ⟨_, ⟨ho, rfl, rfl⟩, rfl⟩
      exact pan_fn fun w hh => ⟨_, ⟨s, ⟨by simp [Dev.store, hhas, ho], rfl⟩, rfl⟩, dev_holds hw hh⟩
    rintro _ _ ⟨_, ⟨ho, rfl, rfl⟩, rfl⟩
    refine p_nil (go_sb [6, 0, 1, 2] rfl (g_seq (g_region (kPm rfl rfl ?_))))
    first | refine kPv (ev_nil rfl) rfl ?_ | refine kPv (ev_nilf rfl) rfl ?_
    refine kPv (ev_fa (m := _) fa_111_1 rfl rfl) rfl (kPv (ev_load Tryz.isAgg25 rfl rfl) rfl (kPm rfl rfl (kPm rfl rfl (kPv (ev_iaS Tryz.runUnderlying25 Tryz.sizeOf26 rfl rfl hi.1 hi.2) rfl (p_chg0 rfl (ch_store Tryz.sizeOf26 rfl rfl rfl (by simp [Nat.blt_eq, tab_len]; omega)) .free rfl ?_)))))
    rintro _ _ rfl
    refine p_nil (go_sb [6] rfl (g_seq (g_region (kPa rfl rfl (p_nil (g_ret ?_))))))
    exact ret_tmp Tryz.results120 rfl (fun w hh => by
      refine ⟨_, ⟨s.up.st i.toNat v, ⟨0, by simp [Dev.store, hhas, ho], rfl⟩, rfl⟩, dev_holds (s := s.up.st i.toNat v) (bn := bn) (bk := bk) (bq := bq) (rest := rest) (l := l) ⟨hw.line, hw.pos, hw.le, hw.rep⟩ ?_⟩
      rw [Nat.zero_add, tab_set] at hh
      have e : (tab s.n fun j => w64 ((s.up.st i.toNat v).now j)) = tab s.n (upd (fun i => w64 (s.now i)) i.toNat (w64 v)) := tab_congr fun j _ => by
        simp only [Dev.st, upd]; split <;> rfl
      rw [← e] at hh
      exact hh)
theorem quo8 {k : Nat} (h : k ≤ 1000000000) : IntKind.i64.wrap ((k : Int).tdiv 8) = ((k / 8 : Nat) : Int) := by
  rw [wr64 (by rw [Int.tdiv_eq_ediv_of_nonneg (by omega)]; omega), Int.tdiv_eq_ediv_of_nonneg (by omega)]; omega
theorem rem8 {k : Nat} : ((k : Int).tmod 8) = ((k % 8 : Nat) : Int) := by
  rw [Int.tmod_eq_emod_of_nonneg (by omega)]; omega
theorem tab_slice {α : Type} {n a m : Nat} {f : Nat → α} (h : a + m ≤ n) : ((tab n f).drop a).take m = tab m (fun j => f (a + j)) := by
  apply List.ext_getElem?
  intro j
  by_cases hj : j < m
  · rw [List.getElem?_take_of_lt hj, List.getElem?_drop, tab_get (by omega), tab_get hj]
  · rw [List.getElem?_eq_none (by rw [List.length_take, List.length_drop, tab_len]; omega), List.getElem?_eq_none (by rw [tab_len]; omega)]
theorem qrep_set {n : Nat} {qq : Nat → Option (Nat → Int)} {l : List (Int × List Int)} (h : QRep n qq l) (k : Nat) (f : Nat → Int) (hk : k * 8 + 8 ≤ n) : QRep n (upd qq k (some f)) (mset l k (tab 8 f)) := by
  refine ⟨fun p hp => ?_, fun j => ?_, fun j g hg => ?_⟩
  · rcases mset_mem hp with rfl | hp
    · simp
    · exact h.pos p hp
  · rw [mget_mset]
    simp only [upd]
    by_cases e : j = k
    · subst e; simp
    · rw [if_neg (by omega), if_neg e]; exact h.get j
  · simp only [upd] at hg
    split at hg
    · rename_i e; subst e; exact hk
    · exact h.lt j g hg
theorem qrep_nil (n : Nat) : QRep n (fun _ => none) [] := ⟨by simp, fun k => rfl, fun _ _ h => by cases h⟩
theorem nflush_ok (B : World) (Fr : List HP) (b : Nat) (s : Dev) (i : Int) :
    ∀ w, Holds B (DevA b s :: Fr) w → Calls Tryz.prog 126 [ptr b, i64 i].toArray w (Ret B (fun rv H' => ∃ s', okV (fun e => i64 e) (s.flush i) rv s' ∧ H' = DevA b s' :: Fr) (fun c H' => ∃ s', offV (s.flush i) c s' ∧ H' = DevA b s' :: Fr)) := by
  refine fn_enter Tryz.func126 rfl Tryz.ntmps126 rfl (g_seq (g_region (kPa rfl rfl (p_nil (g_seq (g_seq (g_region (kPm rfl rfl (kPm rfl rfl (p_callq rfl (en_f Tryz.call137 rfl) (ro_at (fun Fr => nhas_ok _ Fr _ _ _)) .free rfl rfl ?_))))))))))
  refine kPv (ev_not rfl) rfl (p_nil ?_)
  refine g_if rfl (fun h9 => ?_) (fun h9 => ?_)
  · have hhas : s.has i = false := by simpa using h9
    refine g_seq (g_region (kPa rfl rfl (p_nil (g_ret ?_))))
    exact ret_tmp Tryz.results126 rfl (fun w hh => ⟨_, ⟨s, ⟨1, by simp [Dev.flush, hhas], rfl⟩, rfl⟩, hh⟩)
  · have hhas : s.has i = true := by simpa using h9
    have hi : 0 ≤ i ∧ i < s.n := by simpa [Dev.has] using hhas
    obtain ⟨k, rfl⟩ : ∃ k : Nat, i = k := ⟨i.toNat, by omega⟩
    have hk : k < s.n := by omega
    refine g_skip (g_seq (g_region (go_dev fun bn bk bq rest l hw => ?_)))
    have hw1 := hw.line
    have hw2 := hw.pos
    have hw3 := hw.le
    have hk8 : k / 8 * 8 + 8 ≤ s.n := by omega
    refine kPm rfl rfl ?_
    first | refine kPv (ev_nil rfl) rfl ?_ | refine kPv (ev_nilf rfl) rfl ?_
    refine kPv (ev_fa (m := _) fa_111_0 rfl rfl) rfl (kPv (ev_load Tryz.isAgg78 rfl rfl) rfl ?_)
    refine p_call rfl (en_f Tryz.call165 rfl) (up_at (fun Fr => tick_ok _ Fr _ _)) .free rfl rfl ?_ ?_
    rotate_left
    · rintro _ _ ⟨_, ⟨ho, rfl, rfl⟩, rfl⟩
      exact pan_fn fun w hh => ⟨_, ⟨s, ⟨by simp [Dev.flush, hhas, ho], rfl⟩, rfl⟩, dev_holds hw hh⟩
    rintro _ _ ⟨_, ⟨ho, rfl, rfl⟩, rfl⟩
    refine p_nil (go_sb [4, 0, 1] rfl (g_seq (g_region (kPm rfl rfl (kPv (ev_quo rfl rfl (by decide) (quo8 (by omega))) rfl (kPa rfl rfl (p_nil (g_seq (g_drawt 17 Tryz.mixed (by kernel_rfl) (by kernel_rfl) ?_)))))))))
    refine kQm rfl rfl ?_
    first | refine kQv (ev_nil rfl) rfl ?_ | refine kQv (ev_nilf rfl) rfl ?_
    refine kQv (ev_fa (m := _) fa_111_3 rfl rfl) rfl (kQv (ev_load Tryz.isAgg109 rfl rfl) rfl (kQm rfl rfl (kQm rfl rfl ?_)))
    first | refine kQv (ev_nil rfl) rfl ?_ | refine kQv (ev_nilf rfl) rfl ?_
    refine kQv (ev_fa (m := _) fa_111_1 rfl rfl) rfl (kQv (ev_load Tryz.isAgg25 rfl rfl) rfl (kQm rfl rfl (kQv (ev_mul (c := ((k / 8 * 8 : Nat) : Int)) rfl rfl (by rw [wr64 (by omega)]; omega)) rfl (kQm rfl rfl (kQv (ev_add (c := ((k / 8 + 1 : Nat) : Int)) rfl rfl (by rw [wr64 (by omega)]; omega)) rfl (kQv (ev_mul (c := (((k / 8 + 1) * 8 : Nat) : Int)) rfl rfl (by rw [wr64 (by omega)]; omega)) rfl (kQv (ev_slice (m := k / 8 * 8) Tryz.runUnderlying25 Tryz.sizeOf26 rfl (.yes rfl) (.yes rfl) (by omega) (by omega) (.inl (by omega)) (by omega)) rfl (kQv (ev_s2a Tryz.runUnderlying112 rfl (by omega)) rfl (kQv (ev_loadA Tryz.isAgg112 Tryz.sizeOf112 rfl (by rw [Nat.ble_eq, tab_len]; omega)) rfl ?_)))))))))
    refine q_nil (p_chg0 rfl (ch_mapset (u := tab 8 fun j => s.now (k / 8 * 8 + j)) Tryz.runUnderlying109 Tryz.runUnderlying3 rfl rfl rfl (by rw [tab_slice hk8, ← tab_map (g := w64)])) .free rfl ?_)
    rintro _ _ rfl
    refine p_nil (go_sb [4] rfl (g_seq (g_region (kPa rfl rfl (p_nil (g_ret ?_))))))
    exact ret_tmp Tryz.results126 rfl (fun w hh => by
      refine ⟨_, ⟨s.up.fl k, ⟨0, by simp [Dev.flush, hhas, ho], rfl⟩, rfl⟩, dev_holds (s := s.up.fl k) (bn := bn) (bk := bk) (bq := bq) (rest := rest) (l := mset l ((k / 8 : Nat) : Int) (tab 8 fun j => s.now (k / 8 * 8 + j))) ⟨hw.line, hw.pos, hw.le, ?_⟩ hh⟩
      exact qrep_set hw.rep (k / 8) _ hk8)
theorem new_cells {N : Nat} {xs : List Int} (h : xs.length ≤ N) : setAll (List.replicate N (.int .u64 0)) 0 (xs.map w64) = tab N fun i => w64 (xs.getD i 0) := by
  apply List.ext_getElem?
  intro j
  rw [setAll_get _ _ _ _ (by simp; omega)]
  by_cases hj : j < N
  · rw [tab_get hj]
    by_cases h2 : j < xs.length
    · rw [if_pos (by simp; omega)]; simp [h2, List.getD]
    · rw [if_neg (by simp; omega)]
      simp [hj, List.getD, List.getElem?_eq_none (Nat.le_of_not_lt h2)]
  · rw [if_neg (by simp; omega), List.getElem?_eq_none (by simp; omega), List.getElem?_eq_none (by rw [tab_len]; omega)]
def qof (l : List (Int × List Int)) (k : Nat) : Option (Nat → Int) := (mget l k).map fun ws j => ws.getD j 0
theorem mget_append {α : Type} {l : List (Int × α)} {p : Int × α} (h : p.1 ∉ l.map Prod.fst) (k : Int) : mget (l ++ [p]) k = if k = p.1 then some p.2 else mget l k := by
  induction l with
  | nil =>
    simp only [List.nil_append, mget]
    by_cases e : p.1 = k
    · simp [e]
    · rw [if_neg e, if_neg (Ne.symm e)]
  | cons a l ih =>
    simp only [List.map_cons, List.mem_cons, not_or] at h
    simp only [List.cons_append, mget]
    by_cases e : a.1 = k
    · rw [if_pos e, if_pos e, if_neg (by rintro rfl; exact h.1 e.symm)]
    · rw [if_neg e, if_neg e, ih h.2]
theorem mget_same {α : Type} {l d : List (Int × α)} (hl : (l.map Prod.fst).Nodup) (hd : (d.map Prod.fst).Nodup) (h1 : ∀ p ∈ d, p ∈ l) (h2 : ∀ p ∈ l, p ∈ d) (k : Int) : mget d k = mget l k := by
  cases e : mget d k with
  | some a => exact (mem_mget hl (h1 _ (mget_mem e))).symm
  | none =>
    cases e2 : mget l k with
    | none => rfl
    | some a => have := mem_mget hd (h2 _ (mget_mem e2)); simp only at this; rw [e] at this; cases this
theorem setAll_all {cs vs : List Value} (h : vs.length = cs.length) : setAll cs 0 vs = vs := by
  apply List.ext_getElem?
  intro j
  rw [setAll_get _ _ _ _ (by omega)]
  by_cases hj : j < vs.length
  · rw [if_pos (by omega)]; simp
  · rw [if_neg (by omega), List.getElem?_eq_none (by omega), List.getElem?_eq_none (by omega)]
theorem tab_getD {n j : Nat} {f : Nat → Int} (h : j < n) : (tab n f).getD j 0 = f j := by simp [List.getD, tab_get h]
theorem all_w64 (l : List Int) : (l.map w64).all cell1 = true := by simp [cell1]
theorem fkept_step {kept : Nat → Int} {d : List (Int × List Int)} {k : Nat} {f : Nat → Int} (hn : (k : Int) ∉ d.map Prod.fst) (j : Nat) :
    fkept kept (qof (d ++ [((k : Int), tab 8 f)])) j = if k * 8 ≤ j ∧ j < k * 8 + 8 then f (j - k * 8) else fkept kept (qof d) j := by
  simp only [fkept, qof]
  rw [mget_append hn]
  by_cases e : j / 8 = k
  · subst e
    rw [if_pos rfl, if_pos (by omega)]
    simp only [Option.map_some]
    rw [tab_getD (by omega)]
    congr 1; omega
  · rw [if_neg (by omega), if_neg (by omega)]
theorem fkept_all {kept : Nat → Int} {q : Nat → Option (Nat → Int)} {l d : List (Int × List Int)} {n : Nat} (hr : QRep n q l) (hl : (l.map Prod.fst).Nodup) (hd : (d.map Prod.fst).Nodup) (h1 : ∀ p ∈ d, p ∈ l) (h2 : ∀ p ∈ l, p ∈ d) : fkept kept (qof d) = fkept kept q := by
  funext j
  simp only [fkept, qof]
  rw [mget_same hl hd h1 h2, hr.get]
  cases q (j / 8) with
  | none => rfl
  | some f => simp only [Option.map_some]; exact tab_getD (by omega)
theorem qrep_entry {n : Nat} {q : Nat → Option (Nat → Int)} {l : List (Int × List Int)} (h : QRep n q l) (hl : (l.map Prod.fst).Nodup) {p : Int × List Int} (hp : p ∈ l) : ∃ (k : Nat) (f : Nat → Int), p = ((k : Int), tab 8 f) ∧ k * 8 + 8 ≤ n := by
  have h0 := h.pos p hp
  have h1 := mem_mget hl hp
  have h2 := h.get p.1.toNat
  rw [show ((p.1.toNat : Nat) : Int) = p.1 by omega, h1] at h2
  cases e : q p.1.toNat with
  | none => rw [e] at h2; cases h2
  | some f =>
    rw [e] at h2
    refine ⟨p.1.toNat, f, ?_, h.lt _ _ e⟩
    injection h2 with h2
    cases p; simp only at h0 h2 ⊢; rw [h2, Int.toNat_of_nonneg h0]
theorem nodup_le {d l : List Int} (hd : d.Nodup) (h : ∀ x ∈ d, x ∈ l) : d.length ≤ l.length := by
  induction d generalizing l with
  | nil => simp
  | cons a d ih =>
    rw [List.nodup_cons] at hd
    have ha := h a (by simp)
    have := ih (l := l.erase a) hd.2 (fun x hx => (List.mem_erase_of_ne (by rintro rfl; exact hd.1 hx)).2 (h x (by simp [hx])))
    rw [List.length_erase_of_mem ha] at this
    have := List.length_pos_of_mem ha
    simp; omega
theorem iter_le {α : Type} {l d : List (Int × α)} {p : Int × α} (hd : ((d ++ [p]).map Prod.fst).Nodup) (h : ∀ x ∈ d ++ [p], x ∈ l) : d.length < l.length := by
  have := nodup_le (l := l.map Prod.fst) hd (fun x hx => by
    obtain ⟨y, hy, rfl⟩ := List.mem_map.1 hx
    exact List.mem_map_of_mem (h y hy))
  simp at this; omega
theorem Holds.iter_w {B : World} {H : List HP} {α : Type} {kk : IntKind} {enc : α → Value} {r it : Nat} {l done : List (Int × α)} {U : List (Int × α) → List HP} {E : List HP} {w : World} (h : Holds B H w) [m : IterU H it kk enc r l done U E] : (l.map Prod.fst).Nodup ∧ (done.map Prod.fst).Nodup ∧ ∀ p ∈ done, p ∈ l := by
  obtain ⟨bn, c, _, _, h3, h4, h5⟩ := m.obj h
  exact ⟨h3.keys, h5, h4⟩
theorem go_iter {B : World} {n : Nat} {D : List Deferred} {σ : Env} {H : List HP} {K : Act → World → Prop} {α : Type} {kk : IntKind} {enc : α → Value} {r : Nat} (it : Nat) {l done : List (Int × α)} {U : List (Int × α) → List HP} {E : List HP} [m : IterU H it kk enc r l done U E] (h : (l.map Prod.fst).Nodup → (done.map Prod.fst).Nodup → (∀ p ∈ done, p ∈ l) → GO B n D σ H K) : GO B n D σ H K := fun a w st => by
  obtain ⟨h1, h2, h3⟩ := st.holds.iter_w (it := it)
  exact h h1 h2 h3 a w st
theorem nfence_ok (B : World) (Fr : List HP) (b : Nat) (s : Dev) :
    ∀ w, Holds B (DevA b s :: Fr) w → Calls Tryz.prog 127 [ptr b].toArray w (Ret B (fun rv H' => ∃ s', okV unitV (s.fence) rv s' ∧ H' = DevA b s' :: Fr) (fun c H' => ∃ s', offV (s.fence) c s' ∧ H' = DevA b s' :: Fr)) := by
  refine fn_enter Tryz.func127 rfl Tryz.ntmps127 rfl (go_dev fun bn bk bq rest l hw => ?_)
  have hw1 := hw.line
  have hw2 := hw.pos
  have hw3 := hw.le
  refine g_seq (g_region (kPm rfl rfl ?_))
  first | refine kPv (ev_nil rfl) rfl ?_ | refine kPv (ev_nilf rfl) rfl ?_
  refine kPv (ev_fa (m := _) fa_111_0 rfl rfl) rfl (kPv (ev_load Tryz.isAgg78 rfl rfl) rfl ?_)
  refine p_call rfl (en_f Tryz.call165 rfl) (up_at (fun Fr => tick_ok _ Fr _ _)) .free rfl rfl ?_ ?_
  rotate_left
  · rintro _ _ ⟨_, ⟨ho, rfl, rfl⟩, rfl⟩
    exact pan_fn fun w hh => ⟨_, ⟨s, ⟨by simp [Dev.fence, ho], rfl⟩, rfl⟩, dev_holds hw hh⟩
  rintro _ _ ⟨_, ⟨ho, rfl, rfl⟩, rfl⟩
  refine p_nil (g_seq (g_seq (g_region (kPm rfl rfl ?_))))
  first | refine kPv (ev_nil rfl) rfl ?_ | refine kPv (ev_nilf rfl) rfl ?_
  refine kPv (ev_fa (m := _) fa_111_3 rfl rfl) rfl (kPv (ev_load Tryz.isAgg109 rfl rfl) rfl (p_chg rfl (ch_range Tryz.runUnderlying109 rfl) .free rfl rfl ?_))
  rintro _ _ ⟨it, rfl, rfl⟩
  refine p_nil (go_sb [13, 0] rfl (g_block (g_loop (ι := List (Int × List Int)) (fun d => d.length ≤ l.length) (fun d => [(0, ptr b), (13, .pointer (some ⟨it, 0, none⟩))]) (fun done => row b [.pointer (some ⟨s.pa, 0, none⟩), .slice (some ⟨bn, 0, none⟩) s.n s.n, .slice (some ⟨bk, 0, none⟩) s.n (s.n + rest.length), .map (some bq)] 111 :: row bn (tab s.n fun i => w64 (s.now i)) 26 :: row bk (tab s.n (fun i => w64 (fkept s.kept (qof done) i)) ++ rest) 26 :: iterA .i64 encL bq it l done :: PowA s.pa s.pow.up :: Fr) (fun d => l.length - d.length) [] (Nat.zero_le _) (fun a w st => st.to ⟨rfl, rfl, trivial⟩ id) ?_)))
  intro done hdone
  refine g_seq (g_region (p_chg rfl (ch_next rfl) .free rfl rfl ?_))
  rintro _ _ ⟨bb, vs, done', rfl, hvs, rfl, hno, hyes⟩
  refine kPv (ev_ext rfl hvs) rfl (p_nil (g_seq ?_))
  refine g_if rfl (fun h15 => ?_) (fun h15 => ?_)
  · obtain ⟨pp, hpl, hpn, rfl⟩ := hyes h15
    refine go_iter it fun hl hd hsub => ?_
    obtain ⟨k, f, rfl, hk⟩ := qrep_entry hw.rep hl hpl
    refine g_skip (g_block (g_seq (g_region (kPv (ev_entry (p0 := ((k : Int), tab 8 f)) (dn := done) rfl) rfl (kPv (ev_ext rfl rfl) rfl (kPv (ev_ext rfl rfl) rfl (p_chg rfl (ch_allocA Tryz.zeroValue112 rfl) .free rfl rfl ?_)))))))
    rintro _ _ ⟨b3, rfl, rfl⟩
    refine kPa rfl rfl (p_chg0 rfl (ch_storeA (vs := (tab 8 f).map w64) Tryz.sizeOf112 rfl rfl (by rw [List.length_map, tab_len]) (all_w64 _) (by rw [List.length_map, tab_len]; rfl)) .free rfl ?_)
    rintro _ _ rfl
    refine p_nil (g_drawt 8 Tryz.mixed (by kernel_rfl) (by kernel_rfl) ?_)
    refine kQm rfl rfl ?_
    first | refine kQv (ev_nil rfl) rfl ?_ | refine kQv (ev_nilf rfl) rfl ?_
    refine kQv (ev_fa (m := _) fa_111_2 rfl rfl) rfl (kQv (ev_load Tryz.isAgg25 rfl rfl) rfl (kQm rfl rfl (kQv (ev_mul (c := ((k * 8 : Nat) : Int)) rfl rfl (by rw [wr64 (by omega)]; omega)) rfl (kQv (ev_slice (m := k * 8) (h := s.n) Tryz.runUnderlying25 Tryz.sizeOf26 rfl (.yes rfl) .no (by omega) (by omega) (.inl (by omega)) (by omega)) rfl (kQv (ev_sliceA (m := 0) (l := 0) (h := 8) Tryz.runUnderlying112 Tryz.sizeOf26 rfl .no .no (by omega) (by omega) (.inr rfl) (by omega)) rfl (q_nil (p_chg rfl (ch_copy (n := 8) (cs := (tab 8 f).map w64) rfl Tryz.runUnderlying25 Tryz.sizeOf26 rfl rfl (SlR.row (by rw [setAll_all (by rw [List.length_map, tab_len]; rfl), List.drop_zero, List.take_of_length_le (by rw [List.length_map, tab_len]; omega)]) (by rw [List.length_map, tab_len])) (by rw [List.length_map, tab_len]; omega) (by rw [List.length_append, tab_len]; omega) (all_w64 _)) .free rfl rfl ?_)))))))
    rintro _ _ ⟨rfl, rfl⟩
    refine p_nil (go_sb [13, 0] rfl (go_sub (σ' := [(0, _), (13, _)]) ⟨rfl, rfl, trivial⟩ ?_))
    exact fun a w st => ⟨done ++ [((k : Int), tab 8 f)], by have := iter_le hd hsub; simp; omega, by have := iter_le hd hsub; simp; omega, st.to ⟨rfl, rfl, trivial⟩ (fun hh => by
        have h := hh.tail
        rw [List.take_of_length_le (by rw [List.length_map, tab_len]; omega), tab_map, setAll_tab hk] at h
        have e : (tab s.n fun j => if k * 8 ≤ j ∧ j < k * 8 + 8 then w64 (f (j - k * 8)) else w64 (fkept s.kept (qof done) j)) = tab s.n fun j => w64 (fkept s.kept (qof (done ++ [((k : Int), tab 8 f)])) j) := tab_congr fun j _ => by
          rw [fkept_step hpn]; split <;> rfl
        rw [e] at h
        exact h)⟩
  · obtain ⟨rfl, hall⟩ := hno h15
    refine go_iter it fun hl hd hsub => ?_
    rw [fkept_all hw.rep hl hd hsub hall]
    refine go_conv (fun w hh => hh.iter_end it) (g_exit (g_region (kPm rfl rfl ?_)))
    first | refine kPv (ev_nil rfl) rfl ?_ | refine kPv (ev_nilf rfl) rfl ?_
    refine kPv (ev_fa (m := _) fa_111_3 rfl rfl) rfl (kPv (ev_load Tryz.isAgg109 rfl rfl) rfl (p_chg0 rfl (ch_clear rfl Tryz.runUnderlying109 rfl) .free rfl ?_))
    rintro _ _ rfl
    refine p_nil (go_sb [] rfl ?_)
    exact end_none Tryz.results127 (fun w hh => by
      refine ⟨_, ⟨s.up.fe, ⟨(), by simp [Dev.fence, ho], rfl⟩, rfl⟩, dev_holds (s := s.up.fe) (bn := bn) (bk := bk) (bq := bq) (rest := rest) (l := []) ⟨hw.line, hw.pos, hw.le, qrep_nil _⟩ hh⟩)
theorem nwords_ok (B : World) (Fr : List HP) (b : Nat) (s : Dev) :
    ∀ w, Holds B (DevA b s :: Fr) w → Calls Tryz.prog 42 [ptr b].toArray w (Ret B (fun rv H' => ∃ bw rest, rv = .slice (some ⟨bw, 0, none⟩) s.n (s.n + rest.length) ∧ H' = row bw (tab s.n (fun i => w64 (s.now i)) ++ rest) 26 :: DevA b s :: Fr) (fun _ _ => False)) := by
  refine fn_enter Tryz.func42 rfl Tryz.ntmps42 rfl (go_dev fun bn bk bq rest l hw => ?_)
  have hw1 := hw.line
  have hw2 := hw.pos
  have hw3 := hw.le
  refine g_seq (g_region (kPa rfl rfl (p_nil (g_seq (g_region (kPm rfl rfl ?_))))))
  first | refine kPv (ev_nil rfl) rfl ?_ | refine kPv (ev_nilf rfl) rfl ?_
  refine kPv (ev_fa (m := _) fa_111_1 rfl rfl) rfl (kPv (ev_load Tryz.isAgg25 rfl rfl) rfl ?_)
  refine p_call rfl (en_f Tryz.call104 rfl) (clone64_ok _ _ _ _ _ (tab s.n fun i => w64 (s.now i)) (by simp) (by rw [tab_len]; omega) (by simp [tab, cell1]) (SlR.row (by first | (rw [List.drop_zero, List.take_of_length_le (by rw [tab_len]; omega)]) | (rw [List.drop_zero, List.take_append_of_le_length (by rw [tab_len]; omega), List.take_of_length_le (by rw [tab_len]; omega)])) (by rw [tab_len]))) .free rfl rfl ?_ ?_
  rotate_left
  · rintro _ _ ⟨⟩
  rintro _ _ ⟨bw, rest', rfl, rfl⟩
  refine kPa rfl rfl (p_nil (g_ret ?_))
  exact ret_tmp Tryz.results42 rfl (fun w hh => ⟨_, ⟨bw, rest', rfl, rfl⟩, (dev_holds (Fr := row bw _ _ :: Fr) hw (hh.back 5 (by simp))).front 1 rfl⟩)
theorem nnew_ok (B : World) (Fr : List HP) (pa : Nat) (pw : Pow) (sv : Value) (xs : List Int) (hx0 : 0 < xs.length) (hx1 : xs.length ≤ 100000) (hr : SlR B Fr sv (xs.map w64)) :
    ∀ w, Holds B (PowA pa pw :: Fr) w → Calls Tryz.prog 66 [ptr pa, sv].toArray w (Ret B (fun rv H' => ∃ b, rv = ptr b ∧ H' = DevA b ⟨pa, pw, (xs.length + 7) / 8 * 8, fun i => xs.getD i 0, fun i => xs.getD i 0, fun _ => none⟩ :: Fr) (fun _ _ => False)) := by
  refine fn_enter Tryz.func66 rfl Tryz.ntmps66 rfl ?_
  obtain ⟨qa, qc, rfl, hqc⟩ := hr.ex
  rw [List.length_map] at hqc ⊢
  generalize hN : (xs.length + 7) / 8 * 8 = N
  rw [List.length_map] at hr
  refine g_seq (g_region (kPa rfl rfl (p_nil (g_seq (g_region (kPm rfl rfl (kPv (ev_len rfl Tryz.runUnderlying25 ⟨_, rfl⟩ rfl) rfl (kPv (ev_add (c := ((xs.length + 8 : Nat) : Int)) rfl rfl (by rw [wr64 (by omega)]; omega)) rfl (kPv (ev_sub (c := ((xs.length + 7 : Nat) : Int)) rfl rfl (by rw [wr64 (by omega)]; omega)) rfl (kPv (ev_quo rfl rfl (by decide) (quo8 (by omega))) rfl (kPv (ev_mul (c := (N : Int)) rfl rfl (by rw [wr64 (by omega)]; omega)) rfl ?_)))))))))))
  refine kPa rfl rfl (p_nil (g_seq (g_region (kPm rfl rfl (p_chg rfl (ch_make Tryz.runUnderlying25 tb_26 Tryz.sizeOf26 Tryz.zeroValue26 rfl rfl rfl (by omega)) .free rfl rfl ?_)))))
  rintro _ _ ⟨bn, rfl, rfl⟩
  refine kPa rfl rfl (p_nil (go_sb [6, 4, 0, 1] rfl (g_seq (g_region (kPm rfl rfl (kPm rfl rfl (p_chg rfl (ch_copy (n := xs.length) (cs := xs.map w64) rfl Tryz.runUnderlying25 Tryz.sizeOf26 rfl rfl ((hr.cons _).cons _) (by rw [List.length_map]; omega) (by simp; omega) (all_w64 _)) .free rfl rfl ?_)))))))
  rintro _ _ ⟨rfl, rfl⟩
  rw [List.take_of_length_le (by simp), new_cells (by omega)]
  refine p_nil (g_seq (g_region (kPm rfl rfl (kPm rfl rfl (kPm rfl rfl ?_)))))
  refine p_call rfl (en_f Tryz.call104 rfl) (clone64_ok _ _ _ _ _ (tab N fun i => w64 (xs.getD i 0)) (by simp) (by rw [tab_len]; omega) (by simp [tab, cell1]) (SlR.row (by rw [List.drop_zero, List.take_of_length_le (by rw [tab_len]; omega)]) (by rw [tab_len]))) .free rfl rfl ?_ ?_
  rotate_left
  · rintro _ _ ⟨⟩
  rintro _ _ ⟨bk, rest', rfl, rfl⟩
  refine p_chg rfl (ch_makeMap .i64 encL) .free rfl rfl ?_
  rintro _ _ ⟨bq, rfl, rfl⟩
  refine p_val rfl (ev_build rfl (bld_111_0_1_2_3 _ _ _ _ (by first | rfl | assumption) (by first | rfl | assumption) (by first | rfl | assumption) (by first | rfl | assumption))) .free rfl rfl ?_; refine p_chg rfl (ch_boxA rfl) .free rfl rfl ?_
  rintro _ _ ⟨b24, rfl, rfl⟩
  refine kPa rfl rfl (p_nil (go_sb [4] rfl (g_ret ?_)))
  exact ret_tmp Tryz.results66 rfl (fun w hh => ⟨_, ⟨_, rfl, rfl⟩, dev_holds (s := ⟨pa, pw, N, fun i => xs.getD i 0, fun i => xs.getD i 0, fun _ => none⟩) (rest := rest') (l := []) ⟨by simp only; omega, by simp only; omega, by simp only; omega, qrep_nil _⟩ ((((hh.front 1 rfl).front 2 rfl).front 3 rfl).front 3 rfl)⟩)
def cgo (s : Dev) (c : Nat → Int) (i : Nat) (j : Nat) : Value := w64 (if j < i then (s.crash c).kept j else s.kept j)
theorem cgo_keep {s : Dev} {c : Nat → Int} {i : Nat} (h : (s.crash c).kept i = s.kept i) : cgo s c (i + 1) = cgo s c i := by
  funext j
  simp only [cgo]
  by_cases e : j = i
  · subst e; simp [h]
  · by_cases e2 : j < i
    · rw [if_pos e2, if_pos (by omega)]
    · rw [if_neg e2, if_neg (by omega)]
theorem cgo_set {s : Dev} {c : Nat → Int} {i n : Nat} {rest : List Value} {x : Int} (hi : i < n) (h : (s.crash c).kept i = x) : (tab n (cgo s c i) ++ rest).set (0 + (i : Int).toNat) (w64 x) = tab n (cgo s c (i + 1)) ++ rest := by
  rw [Nat.zero_add, Int.toNat_natCast, List.set_append_left _ _ (by rw [tab_len]; exact hi), tab_set]
  congr 1
  refine tab_congr fun j _ => ?_
  simp only [upd, cgo]
  by_cases e : j = i
  · subst e; simp [h]
  · rw [if_neg e]
    by_cases e2 : j < i
    · rw [if_pos e2, if_pos (by omega)]
    · rw [if_neg e2, if_neg (by omega)]
theorem cgo_zero (s : Dev) (c : Nat → Int) : cgo s c 0 = fun j => w64 (s.kept j) := by funext j; simp [cgo]
theorem cgo_all (s : Dev) (c : Nat → Int) : tab s.n (cgo s c s.n) = tab s.n fun j => w64 ((s.crash c).kept j) := tab_congr fun j hj => by simp [cgo, hj]
theorem lk_val {s : Dev} {l : List (Int × List Int)} (hw : DevW s l) (k : Nat) : (Value.tuple #[mval encL (.agg #[.int .u64 0, .int .u64 0, .int .u64 0, .int .u64 0, .int .u64 0, .int .u64 0, .int .u64 0, .int .u64 0]) (mget l (k : Int)), .bool (mget l (k : Int)).isSome]) = .tuple #[encL (tab 8 ((s.q k).getD fun _ => 0)), .bool (s.q k).isSome] := by
  rw [hw.rep.get]
  cases s.q k <;> rfl
structure Chooses (B : World) (Fr : List HP) (g : FuncId) (cap : List Value) (n : Nat) (c : Nat → Int) : Prop where
  enter : ∀ args w, (callFunc g args).run Tryz.prog w = .ok (.enter g args) w
  pos : ∀ i, 0 ≤ c i
  says : ∀ (H : List HP) [FrameOf H Fr] (i : Nat), i < n → ∀ w, Holds B H w → Calls Tryz.prog g ([] ++ [i64 i] ++ cap).toArray w (PureR B H (.int .u8 (c i)))
theorem ncrash_ok (B : World) (Fr : List HP) (b : Nat) (s : Dev) (g : FuncId) (cap : List Value) (c : Nat → Int) (hg : Chooses B Fr g cap s.n c) :
    ∀ w, Holds B (DevA b s :: Fr) w → Calls Tryz.prog 16 [ptr b, .func (.func g) [].toArray cap.toArray].toArray w (Ret B (fun _ H' => H' = DevA b (s.crash c) :: Fr) (fun _ _ => False)) := by
  refine fn_enter Tryz.func16 rfl Tryz.ntmps16 rfl (go_dev fun bn bk bq rest l hw => ?_)
  have hw1 := hw.line
  have hw2 := hw.pos
  have hw3 := hw.le
  refine g_seq (g_seq (g_region (kPm rfl rfl ?_)))
  first | refine kPv (ev_nil rfl) rfl ?_ | refine kPv (ev_nilf rfl) rfl ?_
  refine kPv (ev_fa (m := _) fa_111_1 rfl rfl) rfl (kPv (ev_load Tryz.isAgg25 rfl rfl) rfl (kPv (ev_len rfl Tryz.runUnderlying25 ⟨_, rfl⟩ rfl) rfl (kPm rfl rfl (p_nil (g_block ?_)))))
  rw [← cgo_zero s c]
  refine g_loop (ι := Nat) (fun i => i ≤ s.n) (fun i => [(0, ptr b), (1, .func (.func g) [].toArray cap.toArray), (11, i64 s.n), (12, i64 i)]) (fun i => row b [.pointer (some ⟨s.pa, 0, none⟩), .slice (some ⟨bn, 0, none⟩) s.n s.n, .slice (some ⟨bk, 0, none⟩) s.n (s.n + rest.length), .map (some bq)] 111 :: row bn (tab s.n fun i => w64 (s.now i)) 26 :: row bk (tab s.n (cgo s c (i)) ++ rest) 26 :: mapA .i64 encL bq l :: PowA s.pa s.pow :: Fr) (fun i => s.n - i) 0 (Nat.zero_le _) (fun a w st => st.to ⟨rfl, rfl, rfl, rfl, trivial⟩ id) ?_
  intro i hi
  refine g_seq (g_region (kPv (ev_cmp rfl rfl rfl) rfl (p_nil (g_seq ?_))))
  refine g_if rfl (fun h13 => ?_) (fun h13 => ?_)
  · have hin : i < s.n := by simpa using h13
    refine g_skip (g_seq (g_block (g_seq (g_region (kPm rfl rfl (kPa rfl rfl (p_nil (g_seq (g_region (kPm rfl rfl ?_))))))))))
    first | refine kPv (ev_nil rfl) rfl ?_ | refine kPv (ev_nilf rfl) rfl ?_
    refine kPv (ev_fa (m := _) fa_111_3 rfl rfl) rfl (kPv (ev_load Tryz.isAgg109 rfl rfl) rfl (kPm rfl rfl (kPv (ev_quo rfl rfl (by decide) (quo8 (by omega))) rfl (kPv ((ev_lookup2 Tryz.runUnderlying109 Tryz.runUnderlying3 Tryz.zeroValue112 rfl rfl).eq (lk_val hw (i / 8))) rfl (kPm rfl rfl (kPv (ev_ext rfl rfl) rfl (kPv (ev_ext rfl rfl) rfl (p_chg rfl (ch_allocA Tryz.zeroValue112 rfl) .free rfl rfl ?_))))))))
    rintro _ _ ⟨b5, rfl, rfl⟩
    refine p_chg0 rfl (ch_storeA (vs := (tab 8 ((s.q (i / 8)).getD fun _ => 0)).map w64) Tryz.sizeOf112 rfl rfl (by rw [List.length_map, tab_len]) (all_w64 _) (by rw [List.length_map, tab_len]; rfl)) .free rfl ?_
    rintro _ _ rfl
    refine kPa rfl rfl (p_nil (go_sb [6, 5, 4, 12, 11, 0, 1] rfl (g_seq (g_region (kPm rfl rfl (kPm rfl rfl ?_))))))
    refine p_callq rfl (en_c hg.enter rfl rfl) (hg.says _ i hin) .free rfl rfl ?_
    refine kPv (ev_rem (c := c i % 3) rfl rfl (by decide) (Int.tmod_eq_emod_of_nonneg (hg.pos i))) rfl (p_nil (g_block (g_seq (g_region (kPv (ev_cmp rfl rfl rfl) rfl (kPa rfl rfl (p_nil ?_)))))))
    refine g_if rfl (fun h29 => ?_) (fun h29 => ?_)
    · try simp only [decide_eq_true_eq, decide_eq_false_iff_not, Bool.not_eq_true', Bool.not_eq_false', Bool.or_eq_true, Bool.and_eq_true, Bool.and_eq_false_iff, Bool.or_eq_false_iff, beq_iff_eq, bne_iff_ne, beq_eq_false_iff_ne, bne_eq_false_iff_eq, ge_iff_le, gt_iff_lt, ne_eq] at h29
      refine g_seq (g_region (kPm rfl rfl (p_nil (go_sb [31, 5, 4, 12, 11, 0, 1] rfl ?_))))
      refine g_if rfl (fun h31 => ?_) (fun h31 => ?_)
      · try simp only [decide_eq_true_eq, decide_eq_false_iff_not, Bool.not_eq_true', Bool.not_eq_false', Bool.or_eq_true, Bool.and_eq_true, Bool.and_eq_false_iff, Bool.or_eq_false_iff, beq_iff_eq, bne_iff_ne, beq_eq_false_iff_ne, bne_eq_false_iff_eq, ge_iff_le, gt_iff_lt, ne_eq] at h31
        refine g_drawt 10 Tryz.mixed (by kernel_rfl) (by kernel_rfl) ?_
        refine kQm rfl rfl ?_
        first | refine kQv (ev_nil rfl) rfl ?_ | refine kQv (ev_nilf rfl) rfl ?_
        refine kQv (ev_fa (m := _) fa_111_2 rfl rfl) rfl (kQv (ev_load Tryz.isAgg25 rfl rfl) rfl (kQm rfl rfl (kQm rfl rfl (kQv (ev_rem rfl rfl (by decide) rem8) rfl (kQv (ev_iaA (m := i % 8) Tryz.runUnderlying112 Tryz.sizeOf26 rfl rfl (by omega) (by omega) (by omega)) rfl (kQv (ev_load (v := w64 (((s.q (i / 8)).getD fun _ => 0) (i % 8))) Tryz.isAgg26 rfl (by rw [setAll_all (by rw [List.length_map, tab_len]; rfl), tab_map, tab_get (by omega)])) rfl (kQv (ev_iaS Tryz.runUnderlying25 Tryz.sizeOf26 rfl rfl (by omega) (by omega)) rfl (q_nil (p_chg0 rfl (ch_store Tryz.sizeOf26 rfl rfl rfl (by rw [Nat.blt_eq, List.length_append, tab_len]; omega)) .free rfl ?_)))))))))
        rintro _ _ rfl
        refine p_nil (go_sb [12, 11, 0, 1] rfl (g_region ?_))
        first | refine p_val rfl (ev_add rfl rfl (wr64 (by omega))) .free rfl rfl ?_ | refine p_val rfl (ev_add rfl rfl rfl) .free rfl rfl ?_
        refine kPm rfl rfl (p_nil ?_)
        first
          | exact fun a w st => ⟨i + 1, by omega, by omega, st.to ⟨rfl, rfl, rfl, rfl, trivial⟩ (fun hh => by
              have h := hh.tail
              rw [cgo_set hin (by (try simp only [beq_iff_eq] at h29); simp only [Dev.crash]; rw [if_pos h29]; unfold fkept; cases hq : s.q (i / 8) with | none => simp [hq] at h31 | some f => rfl)] at h
              exact h)⟩
          | exact fun a w st => ⟨i + 1, by omega, by omega, st.to ⟨rfl, rfl, rfl, rfl, trivial⟩ (fun hh => by
              have h := hh.tail
              rw [cgo_set hin (by (try simp only [beq_eq_false_iff_ne, beq_iff_eq] at h29 h42); simp only [Dev.crash]; rw [if_neg h29, if_pos h42])] at h
              exact h)⟩
          | exact fun a w st => ⟨i + 1, by omega, by omega, st.to ⟨rfl, rfl, rfl, rfl, trivial⟩ (fun hh => by
              have h := hh.tail
              rw [← cgo_keep (by (try simp only [beq_iff_eq] at h29); simp only [Dev.crash]; rw [if_pos h29]; unfold fkept; cases hq : s.q (i / 8) with | some f => simp [hq] at h31 | none => rfl)] at h
              exact h)⟩
          | exact fun a w st => ⟨i + 1, by omega, by omega, st.to ⟨rfl, rfl, rfl, rfl, trivial⟩ (fun hh => by
              have h := hh.tail
              rw [← cgo_keep (by (try simp only [beq_eq_false_iff_ne] at h29 h42); simp only [Dev.crash]; rw [if_neg h29, if_neg h42])] at h
              exact h)⟩
      · try simp only [decide_eq_true_eq, decide_eq_false_iff_not, Bool.not_eq_true', Bool.not_eq_false', Bool.or_eq_true, Bool.and_eq_true, Bool.and_eq_false_iff, Bool.or_eq_false_iff, beq_iff_eq, bne_iff_ne, beq_eq_false_iff_ne, bne_eq_false_iff_eq, ge_iff_le, gt_iff_lt, ne_eq] at h31
        refine g_skip (g_region ?_)
        first | refine p_val rfl (ev_add rfl rfl (wr64 (by omega))) .free rfl rfl ?_ | refine p_val rfl (ev_add rfl rfl rfl) .free rfl rfl ?_
        refine kPm rfl rfl (p_nil ?_)
        first
          | exact fun a w st => ⟨i + 1, by omega, by omega, st.to ⟨rfl, rfl, rfl, rfl, trivial⟩ (fun hh => by
              have h := hh.tail
              rw [cgo_set hin (by (try simp only [beq_iff_eq] at h29); simp only [Dev.crash]; rw [if_pos h29]; unfold fkept; cases hq : s.q (i / 8) with | none => simp [hq] at h31 | some f => rfl)] at h
              exact h)⟩
          | exact fun a w st => ⟨i + 1, by omega, by omega, st.to ⟨rfl, rfl, rfl, rfl, trivial⟩ (fun hh => by
              have h := hh.tail
              rw [cgo_set hin (by (try simp only [beq_eq_false_iff_ne, beq_iff_eq] at h29 h42); simp only [Dev.crash]; rw [if_neg h29, if_pos h42])] at h
              exact h)⟩
          | exact fun a w st => ⟨i + 1, by omega, by omega, st.to ⟨rfl, rfl, rfl, rfl, trivial⟩ (fun hh => by
              have h := hh.tail
              rw [← cgo_keep (by (try simp only [beq_iff_eq] at h29); simp only [Dev.crash]; rw [if_pos h29]; unfold fkept; cases hq : s.q (i / 8) with | some f => simp [hq] at h31 | none => rfl)] at h
              exact h)⟩
          | exact fun a w st => ⟨i + 1, by omega, by omega, st.to ⟨rfl, rfl, rfl, rfl, trivial⟩ (fun hh => by
              have h := hh.tail
              rw [← cgo_keep (by (try simp only [beq_eq_false_iff_ne] at h29 h42); simp only [Dev.crash]; rw [if_neg h29, if_neg h42])] at h
              exact h)⟩
    · try simp only [decide_eq_true_eq, decide_eq_false_iff_not, Bool.not_eq_true', Bool.not_eq_false', Bool.or_eq_true, Bool.and_eq_true, Bool.and_eq_false_iff, Bool.or_eq_false_iff, beq_iff_eq, bne_iff_ne, beq_eq_false_iff_ne, bne_eq_false_iff_eq, ge_iff_le, gt_iff_lt, ne_eq] at h29
      refine g_seq (g_region (kPv (ev_cmp rfl rfl rfl) rfl (kPa rfl rfl (p_nil (go_sb [42, 4, 12, 11, 0, 1] rfl ?_)))))
      refine g_if rfl (fun h42 => ?_) (fun h42 => ?_)
      · try simp only [decide_eq_true_eq, decide_eq_false_iff_not, Bool.not_eq_true', Bool.not_eq_false', Bool.or_eq_true, Bool.and_eq_true, Bool.and_eq_false_iff, Bool.or_eq_false_iff, beq_iff_eq, bne_iff_ne, beq_eq_false_iff_ne, bne_eq_false_iff_eq, ge_iff_le, gt_iff_lt, ne_eq] at h42
        refine g_drawt 13 Tryz.mixed (by kernel_rfl) (by kernel_rfl) ?_
        refine kQm rfl rfl ?_
        first | refine kQv (ev_nil rfl) rfl ?_ | refine kQv (ev_nilf rfl) rfl ?_
        refine kQv (ev_fa (m := _) fa_111_2 rfl rfl) rfl (kQv (ev_load Tryz.isAgg25 rfl rfl) rfl (kQm rfl rfl (kQm rfl rfl ?_)))
        first | refine kQv (ev_nil rfl) rfl ?_ | refine kQv (ev_nilf rfl) rfl ?_
        refine kQv (ev_fa (m := _) fa_111_1 rfl rfl) rfl (kQv (ev_load Tryz.isAgg25 rfl rfl) rfl (kQm rfl rfl (kQv (ev_iaS Tryz.runUnderlying25 Tryz.sizeOf26 rfl rfl (by omega) (by omega)) rfl (kQv (ev_load (v := w64 (s.now i)) Tryz.isAgg26 rfl (by rw [Nat.zero_add]; exact tab_get (by omega))) rfl (kQv (ev_iaS Tryz.runUnderlying25 Tryz.sizeOf26 rfl rfl (by omega) (by omega)) rfl (q_nil (p_chg0 rfl (ch_store Tryz.sizeOf26 rfl rfl rfl (by rw [Nat.blt_eq, List.length_append, tab_len]; omega)) .free rfl ?_)))))))
        rintro _ _ rfl
        refine p_nil (go_sb [12, 11, 0, 1] rfl (g_region ?_))
        first | refine p_val rfl (ev_add rfl rfl (wr64 (by omega))) .free rfl rfl ?_ | refine p_val rfl (ev_add rfl rfl rfl) .free rfl rfl ?_
        refine kPm rfl rfl (p_nil ?_)
        first
          | exact fun a w st => ⟨i + 1, by omega, by omega, st.to ⟨rfl, rfl, rfl, rfl, trivial⟩ (fun hh => by
              have h := hh.tail
              rw [cgo_set hin (by (try simp only [beq_iff_eq] at h29); simp only [Dev.crash]; rw [if_pos h29]; unfold fkept; cases hq : s.q (i / 8) with | none => simp [hq] at h31 | some f => rfl)] at h
              exact h)⟩
          | exact fun a w st => ⟨i + 1, by omega, by omega, st.to ⟨rfl, rfl, rfl, rfl, trivial⟩ (fun hh => by
              have h := hh.tail
              rw [cgo_set hin (by (try simp only [beq_eq_false_iff_ne, beq_iff_eq] at h29 h42); simp only [Dev.crash]; rw [if_neg h29, if_pos h42])] at h
              exact h)⟩
          | exact fun a w st => ⟨i + 1, by omega, by omega, st.to ⟨rfl, rfl, rfl, rfl, trivial⟩ (fun hh => by
              have h := hh.tail
              rw [← cgo_keep (by (try simp only [beq_iff_eq] at h29); simp only [Dev.crash]; rw [if_pos h29]; unfold fkept; cases hq : s.q (i / 8) with | some f => simp [hq] at h31 | none => rfl)] at h
              exact h)⟩
          | exact fun a w st => ⟨i + 1, by omega, by omega, st.to ⟨rfl, rfl, rfl, rfl, trivial⟩ (fun hh => by
              have h := hh.tail
              rw [← cgo_keep (by (try simp only [beq_eq_false_iff_ne] at h29 h42); simp only [Dev.crash]; rw [if_neg h29, if_neg h42])] at h
              exact h)⟩
      · try simp only [decide_eq_true_eq, decide_eq_false_iff_not, Bool.not_eq_true', Bool.not_eq_false', Bool.or_eq_true, Bool.and_eq_true, Bool.and_eq_false_iff, Bool.or_eq_false_iff, beq_iff_eq, bne_iff_ne, beq_eq_false_iff_ne, bne_eq_false_iff_eq, ge_iff_le, gt_iff_lt, ne_eq] at h42
        refine g_skip (g_region ?_)
        first | refine p_val rfl (ev_add rfl rfl (wr64 (by omega))) .free rfl rfl ?_ | refine p_val rfl (ev_add rfl rfl rfl) .free rfl rfl ?_
        refine kPm rfl rfl (p_nil ?_)
        first
          | exact fun a w st => ⟨i + 1, by omega, by omega, st.to ⟨rfl, rfl, rfl, rfl, trivial⟩ (fun hh => by
              have h := hh.tail
              rw [cgo_set hin (by (try simp only [beq_iff_eq] at h29); simp only [Dev.crash]; rw [if_pos h29]; unfold fkept; cases hq : s.q (i / 8) with | none => simp [hq] at h31 | some f => rfl)] at h
              exact h)⟩
          | exact fun a w st => ⟨i + 1, by omega, by omega, st.to ⟨rfl, rfl, rfl, rfl, trivial⟩ (fun hh => by
              have h := hh.tail
              rw [cgo_set hin (by (try simp only [beq_eq_false_iff_ne, beq_iff_eq] at h29 h42); simp only [Dev.crash]; rw [if_neg h29, if_pos h42])] at h
              exact h)⟩
          | exact fun a w st => ⟨i + 1, by omega, by omega, st.to ⟨rfl, rfl, rfl, rfl, trivial⟩ (fun hh => by
              have h := hh.tail
              rw [← cgo_keep (by (try simp only [beq_iff_eq] at h29); simp only [Dev.crash]; rw [if_pos h29]; unfold fkept; cases hq : s.q (i / 8) with | some f => simp [hq] at h31 | none => rfl)] at h
              exact h)⟩
          | exact fun a w st => ⟨i + 1, by omega, by omega, st.to ⟨rfl, rfl, rfl, rfl, trivial⟩ (fun hh => by
              have h := hh.tail
              rw [← cgo_keep (by (try simp only [beq_eq_false_iff_ne] at h29 h42); simp only [Dev.crash]; rw [if_neg h29, if_neg h42])] at h
              exact h)⟩
  · have hin : ¬ i < s.n := by simpa using h13
    obtain rfl : i = s.n := by omega
    refine g_exit (g_seq (g_region (kPm rfl rfl ?_)))
    first | refine kPv (ev_nil rfl) rfl ?_ | refine kPv (ev_nilf rfl) rfl ?_
    refine kPv (ev_fa (m := _) fa_111_3 rfl rfl) rfl (kPv (ev_load Tryz.isAgg109 rfl rfl) rfl (p_chg0 rfl (ch_clear rfl Tryz.runUnderlying109 rfl) .free rfl ?_))
    rintro _ _ rfl
    refine p_nil (go_sb [0] rfl (g_drawt 8 Tryz.mixed (by kernel_rfl) (by kernel_rfl) ?_))
    refine kQm rfl rfl ?_
    first | refine kQv (ev_nil rfl) rfl ?_ | refine kQv (ev_nilf rfl) rfl ?_
    refine kQv (ev_fa (m := _) fa_111_1 rfl rfl) rfl (kQv (ev_load Tryz.isAgg25 rfl rfl) rfl (kQm rfl rfl ?_))
    first | refine kQv (ev_nil rfl) rfl ?_ | refine kQv (ev_nilf rfl) rfl ?_
    refine kQv (ev_fa (m := _) fa_111_2 rfl rfl) rfl (kQv (ev_load Tryz.isAgg25 rfl rfl) rfl (q_nil (p_chg rfl (ch_copy (n := s.n) (cs := tab s.n (cgo s c s.n)) rfl Tryz.runUnderlying25 Tryz.sizeOf26 rfl rfl (SlR.row (by rw [List.drop_zero, List.take_append_of_le_length (by rw [tab_len]; omega), List.take_of_length_le (by rw [tab_len]; omega)]) (by rw [tab_len])) (by rw [tab_len]; omega) (by rw [tab_len]; omega) (by simp [tab, cell1, cgo])) .free rfl rfl ?_)))
    rintro _ _ ⟨rfl, rfl⟩
    refine p_nil (go_sb [] rfl ?_)
    exact end_none Tryz.results16 (fun w hh => by
      rw [List.take_of_length_le (by rw [tab_len]; omega), setAll_all (by rw [tab_len, tab_len]), cgo_all] at hh
      exact ⟨_, rfl, dev_holds (s := s.crash c) (bn := bn) (bk := bk) (bq := bq) (rest := rest) (l := []) ⟨hw.line, hw.pos, hw.le, qrep_nil _⟩ hh⟩)
end Go.Proofs.YtlcibdhmgclfjaaGreat
namespace Go.Proofs.YtlcibdhmgclfjaaGreat
open Go
structure Cfg where
  log : Int
  roots : Int
  space : Int
structure CfgW (c : Cfg) : Prop where
  r1 : 1 ≤ c.roots
  r2 : c.roots ≤ 16
  l1 : c.roots + 2 ≤ c.log
  l2 : c.log ≤ 200
  s1 : 8 ≤ c.space
  s2 : c.space ≤ 4096
def linesI (n : Int) : Int := (n + 7) / 8 * 8
def Cfg.record (_ : Cfg) (i : Int) : Int := 16 + 4 * i
def Cfg.active (c : Cfg) : Int := linesI (c.record c.log)
def Cfg.root (c : Cfg) (i : Int) : Int := c.active + 2 + i
def Cfg.frm (c : Cfg) (s : Int) : Int := linesI (c.root c.roots) + s * linesI c.space
def Cfg.words (c : Cfg) : Int := c.frm 2
abbrev cfgV (c : Cfg) : Value := .agg #[i64 c.log, i64 c.roots, i64 c.space]
theorem quoI {n : Int} (h : 0 ≤ n) (h2 : n ≤ 1000000000) : IntKind.i64.wrap (n.tdiv 8) = n / 8 := by
  rw [Int.tdiv_eq_ediv_of_nonneg h, wr64 (by omega)]
theorem lines_b {n : Int} (h : 0 ≤ n) : n ≤ linesI n ∧ linesI n ≤ n + 7 ∧ linesI n % 8 = 0 := by unfold linesI; omega
theorem CfgW.act {c : Cfg} (h : CfgW c) : 16 + 4 * c.log ≤ c.active ∧ c.active ≤ 16 + 4 * c.log + 7 ∧ c.active % 8 = 0 := by
  have := h.r1; have := h.l1
  exact lines_b (n := 16 + 4 * c.log) (by omega)
theorem lines_ok (B : World) (H : List HP) (n : Int) (h : 0 ≤ n) (h2 : n ≤ 100000000) :
    ∀ w, Holds B H w → Calls Tryz.prog 164 [i64 n].toArray w (PureR B H (i64 (linesI n))) := by
  refine fn_enter Tryz.func164 rfl Tryz.ntmps164 rfl (g_seq (g_region (kPa rfl rfl (p_nil (g_seq (g_region (kPm rfl rfl ?_)))))))
  first | refine p_val rfl (ev_add rfl rfl (wr64 (by omega))) .free rfl rfl ?_ | refine p_val rfl (ev_add rfl rfl rfl) .free rfl rfl ?_
  refine kPv (ev_sub (c := n + 7) rfl rfl (by rw [wr64 (by omega)]; omega)) rfl (kPv (ev_quo rfl rfl (by decide) (quoI (by omega) (by omega))) rfl ?_)
  first | refine p_val rfl (ev_mul rfl rfl (wr64 (by omega))) .free rfl rfl ?_ | refine p_val rfl (ev_mul rfl rfl rfl) .free rfl rfl ?_
  refine kPa rfl rfl (p_nil (g_ret ?_))
  exact ret_tmp Tryz.results164 rfl (fun w hw => ⟨rfl, hw⟩)
theorem record_ok (B : World) (H : List HP) (c : Cfg) (i : Int) (h : 0 ≤ i) (h2 : i ≤ 100000) :
    ∀ w, Holds B H w → Calls Tryz.prog 130 [cfgV c, i64 i].toArray w (PureR B H (i64 (c.record i))) := by
  refine fn_enter Tryz.func130 rfl Tryz.ntmps130 rfl (g_seq (g_region (p_chg rfl (ch_boxA rfl) .free rfl rfl ?_)))
  rintro _ _ ⟨b2, rfl, rfl⟩
  refine kPa rfl rfl (p_nil (g_seq (g_region (kPm rfl rfl ?_))))
  first | refine p_val rfl (ev_mul rfl rfl (wr64 (by omega))) .free rfl rfl ?_ | refine p_val rfl (ev_mul rfl rfl rfl) .free rfl rfl ?_
  first | refine p_val rfl (ev_add rfl rfl (wr64 (by omega))) .free rfl rfl ?_ | refine p_val rfl (ev_add rfl rfl rfl) .free rfl rfl ?_
  refine kPa rfl rfl (p_nil (g_ret ?_))
  exact ret_tmp Tryz.results130 rfl (fun w hw => ⟨rfl, hw.tail⟩)
theorem active_ok (B : World) (H : List HP) (c : Cfg) (hc : CfgW c) :
    ∀ w, Holds B H w → Calls Tryz.prog 117 [cfgV c].toArray w (PureR B H (i64 c.active)) := by
  refine fn_enter Tryz.func117 rfl Tryz.ntmps117 rfl ?_
  have hc1 := hc.r1
  have hc2 := hc.r2
  have hc3 := hc.l1
  have hc4 := hc.l2
  have hc5 := hc.s1
  have hc6 := hc.s2
  refine g_seq (g_region (p_chg rfl (ch_boxA rfl) .free rfl rfl ?_))
  rintro _ _ ⟨b1, rfl, rfl⟩
  refine kPa rfl rfl (p_nil (g_seq (g_region (kPv (ev_loadA Tryz.isAgg40 Tryz.sizeOf40 rfl rfl) rfl ?_))))
  refine kPv (ev_fa (m := _) fa_40_0 rfl rfl) rfl (kPv (ev_load Tryz.isAgg3 rfl rfl) rfl (p_callq rfl (en_f Tryz.call130 rfl) (record_ok _ _ c _ (by omega) (by omega)) .free rfl rfl ?_))
  refine p_callq rfl (en_f Tryz.call164 rfl) (lines_ok _ _ _ (by simp only [Cfg.record]; omega) (by simp only [Cfg.record]; omega)) .free rfl rfl ?_
  refine kPa rfl rfl (p_nil (go_sb [2] rfl (g_ret ?_)))
  exact ret_tmp Tryz.results117 rfl (fun w hw => ⟨rfl, hw.tail⟩)
theorem root_ok (B : World) (H : List HP) (c : Cfg) (hc : CfgW c) (i : Int) (h : 0 ≤ i) (h2 : i ≤ 100000) :
    ∀ w, Holds B H w → Calls Tryz.prog 59 [cfgV c, i64 i].toArray w (PureR B H (i64 (c.root i))) := by
  refine fn_enter Tryz.func59 rfl Tryz.ntmps59 rfl ?_
  have hc1 := hc.r1
  have hc2 := hc.r2
  have hc3 := hc.l1
  have hc4 := hc.l2
  have hc5 := hc.s1
  have hc6 := hc.s2
  have ha := hc.act
  refine g_seq (g_region (p_chg rfl (ch_boxA rfl) .free rfl rfl ?_))
  rintro _ _ ⟨b2, rfl, rfl⟩
  refine kPa rfl rfl (p_nil (g_seq (g_region (kPv (ev_loadA Tryz.isAgg40 Tryz.sizeOf40 rfl rfl) rfl ?_))))
  refine p_callq rfl (en_f Tryz.call117 rfl) (active_ok _ _ c hc) .free rfl rfl ?_
  first | refine p_val rfl (ev_add rfl rfl (wr64 (by omega))) .free rfl rfl ?_ | refine p_val rfl (ev_add rfl rfl rfl) .free rfl rfl ?_
  refine kPm rfl rfl ?_
  first | refine p_val rfl (ev_add rfl rfl (wr64 (by omega))) .free rfl rfl ?_ | refine p_val rfl (ev_add rfl rfl rfl) .free rfl rfl ?_
  refine kPa rfl rfl (p_nil (go_sb [4] rfl (g_ret ?_)))
  exact ret_tmp Tryz.results59 rfl (fun w hw => ⟨rfl, hw.tail⟩)
theorem from_ok (B : World) (H : List HP) (c : Cfg) (hc : CfgW c) (i : Int) (h : 0 ≤ i) (h2 : i ≤ 2) :
    ∀ w, Holds B H w → Calls Tryz.prog 140 [cfgV c, i64 i].toArray w (PureR B H (i64 (c.frm i))) := by
  refine fn_enter Tryz.func140 rfl Tryz.ntmps140 rfl ?_
  have hc1 := hc.r1
  have hc2 := hc.r2
  have hc3 := hc.l1
  have hc4 := hc.l2
  have hc5 := hc.s1
  have hc6 := hc.s2
  have ha := hc.act
  have hr : 0 ≤ c.root c.roots ∧ c.root c.roots ≤ 2000 := by simp only [Cfg.root]; omega
  have hl := lines_b hr.1
  have hs := lines_b (n := c.space) (by omega)
  have hm : 0 ≤ i * linesI c.space ∧ i * linesI c.space ≤ 2 * 5000 := ⟨Int.mul_nonneg h (by omega), Int.mul_le_mul h2 (by omega) (by omega) (by omega)⟩
  refine g_seq (g_region (p_chg rfl (ch_boxA rfl) .free rfl rfl ?_))
  rintro _ _ ⟨b2, rfl, rfl⟩
  refine kPa rfl rfl (p_nil (g_seq (g_draw Tryz.mixed (by kernel_rfl) (by kernel_rfl) ?_)))
  refine kQv (ev_loadA Tryz.isAgg40 Tryz.sizeOf40 rfl rfl) rfl ?_
  refine kQv (ev_fa (m := _) fa_40_1 rfl rfl) rfl (kQv (ev_load Tryz.isAgg3 rfl rfl) rfl (q_call rfl (en_f Tryz.call59 rfl) (root_ok _ _ c hc _ (by omega) (by omega)) .free rfl ?_))
  refine q_call rfl (en_f Tryz.call164 rfl) (lines_ok _ _ _ hr.1 (by have := hr.2; omega)) .free rfl ?_
  refine kQm rfl rfl (kQv (ev_fa (m := _) fa_40_2 rfl rfl) rfl (kQv (ev_load Tryz.isAgg3 rfl rfl) rfl (q_call rfl (en_f Tryz.call164 rfl) (lines_ok _ _ _ (by omega) (by omega)) .free rfl ?_)))
  first | refine q_val rfl (ev_mul rfl rfl (wr64 (by omega))) .free rfl ?_ | refine q_val rfl (ev_mul rfl rfl rfl) .free rfl ?_
  first | refine q_val rfl (ev_add rfl rfl (wr64 (by omega))) .free rfl ?_ | refine q_val rfl (ev_add rfl rfl rfl) .free rfl ?_
  refine kQa rfl rfl (q_nil (go_sb [4] rfl (g_ret ?_)))
  exact ret_tmp Tryz.results140 rfl (fun w hw => ⟨rfl, hw.tail⟩)
theorem cwords_ok (B : World) (H : List HP) (c : Cfg) (hc : CfgW c) :
    ∀ w, Holds B H w → Calls Tryz.prog 108 [cfgV c].toArray w (PureR B H (i64 c.words)) := by
  refine fn_enter Tryz.func108 rfl Tryz.ntmps108 rfl (g_seq (g_region (p_chg rfl (ch_boxA rfl) .free rfl rfl ?_)))
  rintro _ _ ⟨b1, rfl, rfl⟩
  refine kPa rfl rfl (p_nil (g_seq (g_region (kPv (ev_loadA Tryz.isAgg40 Tryz.sizeOf40 rfl rfl) rfl ?_))))
  refine p_callq rfl (en_f Tryz.call140 rfl) (from_ok _ _ c hc _ (by omega) (by omega)) .free rfl rfl ?_
  refine kPa rfl rfl (p_nil (g_ret ?_))
  exact ret_tmp Tryz.results108 rfl (fun w hw => ⟨rfl, hw.tail⟩)
theorem cused_ok (B : World) (H : List HP) (c : Cfg) (hc : CfgW c) :
    ∀ w, Holds B H w → Calls Tryz.prog 115 [cfgV c].toArray w (PureR B H (i64 (c.active + 1))) := by
  refine fn_enter Tryz.func115 rfl Tryz.ntmps115 rfl ?_
  have hc1 := hc.r1
  have hc2 := hc.r2
  have hc3 := hc.l1
  have hc4 := hc.l2
  have hc5 := hc.s1
  have hc6 := hc.s2
  have ha := hc.act
  refine g_seq (g_region (p_chg rfl (ch_boxA rfl) .free rfl rfl ?_))
  rintro _ _ ⟨b1, rfl, rfl⟩
  refine kPa rfl rfl (p_nil (g_seq (g_region (kPv (ev_loadA Tryz.isAgg40 Tryz.sizeOf40 rfl rfl) rfl ?_))))
  refine p_callq rfl (en_f Tryz.call117 rfl) (active_ok _ _ c hc) .free rfl rfl ?_
  first | refine p_val rfl (ev_add rfl rfl (wr64 (by omega))) .free rfl rfl ?_ | refine p_val rfl (ev_add rfl rfl rfl) .free rfl rfl ?_
  refine kPa rfl rfl (p_nil (g_ret ?_))
  exact ret_tmp Tryz.results115 rfl (fun w hw => ⟨rfl, hw.tail⟩)
instance (c : Cfg) : Decidable (CfgW c) := decidable_of_iff (1 ≤ c.roots ∧ c.roots ≤ 16 ∧ c.roots + 2 ≤ c.log ∧ c.log ≤ 200 ∧ 8 ≤ c.space ∧ c.space ≤ 4096) ⟨fun ⟨a, b, c, d, e, f⟩ => ⟨a, b, c, d, e, f⟩, fun ⟨a, b, c, d, e, f⟩ => ⟨a, b, c, d, e, f⟩⟩
end Go.Proofs.YtlcibdhmgclfjaaGreat
