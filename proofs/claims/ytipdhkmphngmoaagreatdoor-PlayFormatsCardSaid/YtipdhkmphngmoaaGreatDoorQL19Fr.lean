/- Part of a law's texts. Conditions: none. -/
import Derived.Test.YtipdhkmphngmoaaGreatDoorQL19Fq
open Go.Proofs.Tryz
set_option linter.all false
namespace Go.Proofs.YtipdhkmphngmoaaGreatDoor
open Go
namespace playFormats
theorem DS:(Rows.playFormatsRow.inPlace==Tryz.pinned.checked.prog.inPlace 4)=true:=by kernel_rfl
theorem DR:(Rows.playFormatsRow.unfollowed==Tryz.pinned.checked.prog.unfollowed 4)=true:=by kernel_rfl
theorem DQ:(Rows.playFormatsRow.recurses==Tryz.pinned.checked.prog.recurses 4)=true:=by kernel_rfl
theorem DP:(Rows.playFormatsRow.named==Tryz.pinned.checked.prog.varsNamed 4)=true:=by kernel_rfl
theorem DO:joinedFacts Tryz.pinned.checked.prog 4 Tryz.f4 Rows.playFormatsSpec Rows.playFormatsRow=true:=by
 unfold joinedFacts
 rw[DS,DR,DQ,DP]
 kernel_rfl
theorem named:Tryz.pinned.checked.prog.funcNamed Rows.playFormatsRow.func=some 4:=by kernel_rfl
theorem Ea:Tryz.f4.isInstance Tryz.pinned.checked.prog Rows.playFormatsRow.origin Rows.playFormatsRow.targs:=of_decide_eq_true (by kernel_rfl)
theorem wrap:Tryz.f4.isWrapper Tryz.pinned.checked.prog Rows.playFormatsRow.wrapper Rows.playFormatsRow.mainSum:=by unfold Func.isWrapper;first | (rw[if_pos (by decide+kernel)];kernel_rfl) | (rw[if_neg (by decide+kernel)];exact⟨rfl,rfl⟩)
end playFormats
end Go.Proofs.YtipdhkmphngmoaaGreatDoor
