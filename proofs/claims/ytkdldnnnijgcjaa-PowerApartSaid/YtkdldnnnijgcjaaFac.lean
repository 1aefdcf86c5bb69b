/- Facts on the program's struct types. Conditions: none. -/
import Derived.Test.YtkdldnnnijgcjaaSld
import Derived.Test.YtkdldnnnijgcjaaRows
namespace Go.Proofs.Ytkdldnnnijgcjaa
set_option linter.unusedSimpArgs false
set_option linter.unusedVariables false
open Go
theorem fa_gen {P : Program} {S f sz : Nat} {fs : Array Field} (t off : Nat) (hS : ∀ w, (underlying S).run P w = .ok (.struct fs) w) (hf : (fs[f]?).map (fun fd => (fd.type, fd.offset)) = some (t, off)) (hz : ∀ w, (sizeOf t).run P w = .ok sz w) (h0 : sz ≠ 0) (b k : Nat) (w : World) :
    (Instr.fieldAt S (.pointer (some ⟨b, k, none⟩)) f).run P w = .ok (.pointer (some ⟨b, k + off, none⟩)) w := by
  have ha : (⟨b, k, none⟩ : Addr).add off = ⟨b, k + off, none⟩ := by
    unfold Addr.add; split
    · rename_i e; rw [e]; rfl
    · rfl
  cases e : fs[f]? with
  | none => rw [e] at hf; cases hf
  | some fd =>
    rw [e] at hf
    simp only [Option.map_some, Option.some.injEq, Prod.mk.injEq] at hf
    obtain ⟨h1, h2⟩ := hf
    subst h1; subst h2
    simp [Instr.fieldAt, hS, e, Instr.sureAddr, fieldPlace, hz, h0, ha]
theorem Try.mixed : Try.prog.follows .mixedOrders = true := by kernel_rfl

theorem fa_34_0 : ∀ b k w, (Instr.fieldAt 34 (.pointer (some ⟨b, k, none⟩)) 0).run Try.prog w = .ok (.pointer (some ⟨b, k + 0, none⟩)) w := fa_gen 3 0 Try.runUnderlying34 rfl Try.sizeOf3 (by decide)
theorem fa_34_1 : ∀ b k w, (Instr.fieldAt 34 (.pointer (some ⟨b, k, none⟩)) 1).run Try.prog w = .ok (.pointer (some ⟨b, k + 1, none⟩)) w := fa_gen 3 1 Try.runUnderlying34 rfl Try.sizeOf3 (by decide)
theorem bld_34_0 (v0 : Value) (h0 : cell1 v0 = true) (w : World) : (Instr.build 34 #[(0, v0)]).run Try.prog w = .ok (.agg #[v0, .int .i64 0]) w := by
  simp [Instr.build, Instr.fill, agg_cells, Try.zeroValue34, Try.runUnderlying34, Try.sizeOf3, cell1_cells h0]
theorem bld_36   (w : World) : (Instr.build 36 #[]).run Try.prog w = .ok (.agg #[]) w := by
  simp [Instr.build, Instr.fill, agg_cells, Try.zeroValue36, Try.runUnderlying36]
end Go.Proofs.Ytkdldnnnijgcjaa
