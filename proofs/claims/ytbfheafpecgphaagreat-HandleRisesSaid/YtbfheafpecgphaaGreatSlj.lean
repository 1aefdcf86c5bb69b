/- A small logic of owned blocks: short names for the steps that come most. Conditions: none. -/
import Derived.Test.YtbfheafpecgphaaGreatSli
set_option linter.unusedSimpArgs false
set_option linter.unusedVariables false
set_option linter.unnecessarySimpa false
set_option linter.unusedSectionVars false
namespace Go.Proofs.YtbfheafpecgphaaGreat
open Go
section
variable {B : World} {n : Nat} {D : List Deferred} {σ : Env} {H : List HP} {P : Program} {ro : Cx} {K : Act → World → Prop} {X : Ext} {ops : Array Oper} {rest : List Oper} {Kq : Act → Prop} {d : Nat} {op : Op} {ty : TypeId} {p : String} {af : Array Edge} {v : Value} {x : Operand}
theorem kPv (he : Evs P B σ H ⟨some d, op, ty, p, af, none⟩ v) (hb : (Nat.blt d n && ndef op) = true) (k : GO B n D ((d, v) :: σ) H (lw ro P ops K X rest)) : GO B n D σ H (lw ro P ops K X (⟨some d, op, ty, p, af, none⟩ :: rest)) := by
  simp only [Bool.and_eq_true] at hb
  exact p_val rfl he .free hb.2 hb.1 k
theorem kPm (hx : evO σ x = some v) (hb : Nat.blt d n = true) (k : GO B n D ((d, v) :: σ) H (lw ro P ops K X rest)) : GO B n D σ H (lw ro P ops K X (⟨some d, .move x, ty, p, af, none⟩ :: rest)) := p_val rfl (ev_move hx) .free rfl hb k
theorem kPa (hx : evO σ x = some v) (hb : Nat.blt d n = true) (k : GO B n D ((d, v) :: σ) H (lw ro P ops K X rest)) : GO B n D σ H (lw ro P ops K X (⟨some d, .assign x, ty, p, af, none⟩ :: rest)) := p_val rfl (ev_assign hx) .free rfl hb k
theorem kQv (he : Evs P B σ H ⟨some d, op, ty, p, af, none⟩ v) (hb : Nat.blt d n = true) (k : QO n D ((d, v) :: σ) (qw P ops B H Kq rest)) : QO n D σ (qw P ops B H Kq (⟨some d, op, ty, p, af, none⟩ :: rest)) := q_val rfl he .free hb k
theorem kQm (hx : evO σ x = some v) (hb : Nat.blt d n = true) (k : QO n D ((d, v) :: σ) (qw P ops B H Kq rest)) : QO n D σ (qw P ops B H Kq (⟨some d, .move x, ty, p, af, none⟩ :: rest)) := q_val rfl (ev_move hx) .free hb k
theorem kQa (hx : evO σ x = some v) (hb : Nat.blt d n = true) (k : QO n D ((d, v) :: σ) (qw P ops B H Kq rest)) : QO n D σ (qw P ops B H Kq (⟨some d, .assign x, ty, p, af, none⟩ :: rest)) := q_val rfl (ev_assign hx) .free hb k
end
end Go.Proofs.YtbfheafpecgphaaGreat
