/-
  No cell of these rows narrows 'for every input' (looked for: loops, veiled, ifaces, maps, wideKeys, modest, calm, conditions, laid).
  DERIVED. THE GIVEN ROWS OF THIS SEAT. 8 by the template 'for every input the law returns true; each argument reads behind the call as it read before'; 0 by the template 'total and deterministic' (their statements: YtbfheafpecgphaaGreatTotals.lean).
  GIVEN WITH THE SEED: the statements are not yours to turn. If you find one false, say at which input.
  Laid BY PROGRAM, IN A SANDBOX (cutbox-rows.mjs): the forced cells as the released guide's own fill.sh prints them over the translation 48cdb340d26d46b2… (all of the seat's roots in one cut). By AI agents, Wed Nov 11 2026. No macro, syntax, notation, axiom, sorry.
-/
import Derived.Test.YtbfheafpecgphaaGreatChecked
import GoSem.Claim
import GoSem.ClaimJoined
import GoSem.ClaimMapViews
import Derived.JoinedTies
import Derived.KernelRfl
namespace Go.Proofs.YtbfheafpecgphaaGreat
/- THE CELL 'sum', in the pinned program and in every row, IS THE sha256 OF THE DUMP (.gsa) THAT YtbfheafpecgphaaGreatProg.lean LOADS. Nothing in Lean hashes anything: it is a label: what it is worth is what the hold of that sum in a sandbox is worth. -/
noncomputable def Tryz.pinned : Pinned := { name := "ytbfheafpecgphaagreat", sum := "48cdb340d26d46b2ebfaad93ee00b60fdc7e3e9015b727c33dcd108f0726a30c", checked := Tryz.checked }
namespace Rows
def none {H : Type} : Left H := { results := [], args := [] }

/-- 'tumuluslaw15.FlipTwice': WHATEVER THE INPUT: true; the input reads as it did. -/
def flipTwiceSpec : ChangeSpec := { name := "flipTwice", fn := fun _ => fun
  | [d1, d2, d3] => { results := [.lit (.bool true)], args := [d1, d2, d3] }
  | _ => none }
def flipTwiceRow : OpenClaim := { program := "ytbfheafpecgphaagreat", sum := "48cdb340d26d46b2ebfaad93ee00b60fdc7e3e9015b727c33dcd108f0726a30c", func := "tumulus/tumuluslaw15.FlipTwice", spec := "flipTwice", unfollowed := true, recurses := true, apart := false }
def FlipTwiceSaid : Prop := flipTwiceRow.holds Tryz.pinned (OpenSpec.ofChange flipTwiceSpec)

/-- ITS FALSE NEIGHBOUR: 'it returns false'. Refute it at one input. -/
def flipTwiceWrong : ChangeSpec := { name := "flipTwice", fn := fun _ => fun
  | [d1, d2, d3] => { results := [.lit (.bool false)], args := [d1, d2, d3] }
  | _ => none }
def FlipTwiceWrongFalsely : Prop := flipTwiceRow.holds Tryz.pinned (OpenSpec.ofChange flipTwiceWrong)

/-- 'tumuluslaw15.FlipKeeps': WHATEVER THE INPUT: true; the input reads as it did. -/
def flipKeepsSpec : ChangeSpec := { name := "flipKeeps", fn := fun _ => fun
  | [d1, d2, d3, d4] => { results := [.lit (.bool true)], args := [d1, d2, d3, d4] }
  | _ => none }
def flipKeepsRow : OpenClaim := { program := "ytbfheafpecgphaagreat", sum := "48cdb340d26d46b2ebfaad93ee00b60fdc7e3e9015b727c33dcd108f0726a30c", func := "tumulus/tumuluslaw15.FlipKeeps", spec := "flipKeeps", unfollowed := true, recurses := true, apart := false }
def FlipKeepsSaid : Prop := flipKeepsRow.holds Tryz.pinned (OpenSpec.ofChange flipKeepsSpec)

/-- ITS FALSE NEIGHBOUR: 'it returns false'. Refute it at one input. -/
def flipKeepsWrong : ChangeSpec := { name := "flipKeeps", fn := fun _ => fun
  | [d1, d2, d3, d4] => { results := [.lit (.bool false)], args := [d1, d2, d3, d4] }
  | _ => none }
def FlipKeepsWrongFalsely : Prop := flipKeepsRow.holds Tryz.pinned (OpenSpec.ofChange flipKeepsWrong)

/-- 'tumuluslaw16.HandleApart': WHATEVER THE INPUT: true; the input reads as it did. -/
def handleApartSpec : ChangeSpec := { name := "handleApart", fn := fun _ => fun
  | [d1, d2] => { results := [.lit (.bool true)], args := [d1, d2] }
  | _ => none }
def handleApartRow : OpenClaim := { program := "ytbfheafpecgphaagreat", sum := "48cdb340d26d46b2ebfaad93ee00b60fdc7e3e9015b727c33dcd108f0726a30c", func := "tumulus/tumuluslaw16.HandleApart", spec := "handleApart", unfollowed := true, recurses := true, apart := false }
def HandleApartSaid : Prop := handleApartRow.holds Tryz.pinned (OpenSpec.ofChange handleApartSpec)

/-- ITS FALSE NEIGHBOUR: 'it returns false'. Refute it at one input. -/
def handleApartWrong : ChangeSpec := { name := "handleApart", fn := fun _ => fun
  | [d1, d2] => { results := [.lit (.bool false)], args := [d1, d2] }
  | _ => none }
def HandleApartWrongFalsely : Prop := handleApartRow.holds Tryz.pinned (OpenSpec.ofChange handleApartWrong)

/-- 'tumuluslaw15.FlipCut': WHATEVER THE INPUT: true; the input reads as it did. -/
def flipCutSpec : ChangeSpec := { name := "flipCut", fn := fun _ => fun
  | [d1, d2, d3, d4, d5] => { results := [.lit (.bool true)], args := [d1, d2, d3, d4, d5] }
  | _ => none }
def flipCutRow : OpenClaim := { program := "ytbfheafpecgphaagreat", sum := "48cdb340d26d46b2ebfaad93ee00b60fdc7e3e9015b727c33dcd108f0726a30c", func := "tumulus/tumuluslaw15.FlipCut", spec := "flipCut", unfollowed := true, recurses := true, apart := false }
def FlipCutSaid : Prop := flipCutRow.holds Tryz.pinned (OpenSpec.ofChange flipCutSpec)

/-- ITS FALSE NEIGHBOUR: 'it returns false'. Refute it at one input. -/
def flipCutWrong : ChangeSpec := { name := "flipCut", fn := fun _ => fun
  | [d1, d2, d3, d4, d5] => { results := [.lit (.bool false)], args := [d1, d2, d3, d4, d5] }
  | _ => none }
def FlipCutWrongFalsely : Prop := flipCutRow.holds Tryz.pinned (OpenSpec.ofChange flipCutWrong)

/-- 'tumuluslaw15.FlipCollects': WHATEVER THE INPUT: true; the input reads as it did. -/
def flipCollectsSpec : ChangeSpec := { name := "flipCollects", fn := fun _ => fun
  | [d1, d2, d3, d4, d5] => { results := [.lit (.bool true)], args := [d1, d2, d3, d4, d5] }
  | _ => none }
def flipCollectsRow : OpenClaim := { program := "ytbfheafpecgphaagreat", sum := "48cdb340d26d46b2ebfaad93ee00b60fdc7e3e9015b727c33dcd108f0726a30c", func := "tumulus/tumuluslaw15.FlipCollects", spec := "flipCollects", unfollowed := true, recurses := true, apart := false }
def FlipCollectsSaid : Prop := flipCollectsRow.holds Tryz.pinned (OpenSpec.ofChange flipCollectsSpec)

/-- ITS FALSE NEIGHBOUR: 'it returns false'. Refute it at one input. -/
def flipCollectsWrong : ChangeSpec := { name := "flipCollects", fn := fun _ => fun
  | [d1, d2, d3, d4, d5] => { results := [.lit (.bool false)], args := [d1, d2, d3, d4, d5] }
  | _ => none }
def FlipCollectsWrongFalsely : Prop := flipCollectsRow.holds Tryz.pinned (OpenSpec.ofChange flipCollectsWrong)

/-- 'tumuluslaw16.HandleRises': WHATEVER THE INPUT: true; the input reads as it did. -/
def handleRisesSpec : ChangeSpec := { name := "handleRises", fn := fun _ => fun
  | [d] => { results := [.lit (.bool true)], args := [d] }
  | _ => none }
def handleRisesRow : OpenClaim := { program := "ytbfheafpecgphaagreat", sum := "48cdb340d26d46b2ebfaad93ee00b60fdc7e3e9015b727c33dcd108f0726a30c", func := "tumulus/tumuluslaw16.HandleRises", spec := "handleRises", unfollowed := true, recurses := true, apart := false }
def HandleRisesSaid : Prop := handleRisesRow.holds Tryz.pinned (OpenSpec.ofChange handleRisesSpec)

/-- ITS FALSE NEIGHBOUR: 'it returns false'. Refute it at one input. -/
def handleRisesWrong : ChangeSpec := { name := "handleRises", fn := fun _ => fun
  | [d] => { results := [.lit (.bool false)], args := [d] }
  | _ => none }
def HandleRisesWrongFalsely : Prop := handleRisesRow.holds Tryz.pinned (OpenSpec.ofChange handleRisesWrong)

/-- 'tumuluslaw16.HandleMoves': WHATEVER THE INPUT: true; the input reads as it did. -/
def handleMovesSpec : ChangeSpec := { name := "handleMoves", fn := fun _ => fun
  | [d1, d2, d3] => { results := [.lit (.bool true)], args := [d1, d2, d3] }
  | _ => none }
def handleMovesRow : OpenClaim := { program := "ytbfheafpecgphaagreat", sum := "48cdb340d26d46b2ebfaad93ee00b60fdc7e3e9015b727c33dcd108f0726a30c", func := "tumulus/tumuluslaw16.HandleMoves", spec := "handleMoves", inPlace := ["maps.clone"], unfollowed := true, recurses := true, apart := false }
def HandleMovesSaid : Prop := handleMovesRow.holds Tryz.pinned (OpenSpec.ofChange handleMovesSpec)

/-- ITS FALSE NEIGHBOUR: 'it returns false'. Refute it at one input. -/
def handleMovesWrong : ChangeSpec := { name := "handleMoves", fn := fun _ => fun
  | [d1, d2, d3] => { results := [.lit (.bool false)], args := [d1, d2, d3] }
  | _ => none }
def HandleMovesWrongFalsely : Prop := handleMovesRow.holds Tryz.pinned (OpenSpec.ofChange handleMovesWrong)

/-- 'tumuluslaw16.HandlePlays': WHATEVER THE INPUT: true; the input reads as it did. -/
def handlePlaysSpec : ChangeSpec := { name := "handlePlays", fn := fun _ => fun
  | [d] => { results := [.lit (.bool true)], args := [d] }
  | _ => none }
def handlePlaysRow : OpenClaim := { program := "ytbfheafpecgphaagreat", sum := "48cdb340d26d46b2ebfaad93ee00b60fdc7e3e9015b727c33dcd108f0726a30c", func := "tumulus/tumuluslaw16.HandlePlays", spec := "handlePlays", inPlace := ["maps.clone"], unfollowed := true, recurses := true, apart := false }
def HandlePlaysSaid : Prop := handlePlaysRow.holds Tryz.pinned (OpenSpec.ofChange handlePlaysSpec)

/-- ITS FALSE NEIGHBOUR: 'it returns false'. Refute it at one input. -/
def handlePlaysWrong : ChangeSpec := { name := "handlePlays", fn := fun _ => fun
  | [d] => { results := [.lit (.bool false)], args := [d] }
  | _ => none }
def HandlePlaysWrongFalsely : Prop := handlePlaysRow.holds Tryz.pinned (OpenSpec.ofChange handlePlaysWrong)

/- THE SECOND FORM. 'bulk': how many values and letters a reading holds, each counted each time it is reached (what is shared counts as often as it is met; a slice's spare places count too). A statement '..UptoSaid' is the law's where the arguments, and the package variables that the reading takes, are together of bulk at most 1048576: NARROWER than '..Said'. Prove '..Said' where nothing that the law and all that it calls make is longer than what came in: it says more and counts as full. Else prove '..UptoSaid'. A law counts once. -/
mutual
def uptoBulk {H : Type} : DataW H → Nat
  | .lit (.string bytes) => bytes.length + 1
  | .lit _ => 1
  | .nil => 1
  | .ptr d => uptoBulk d + 1
  | .slice elems spare => uptoBulkAll elems + uptoBulkAll spare + 1
  | .agg parts => uptoBulkAll parts + 1
  | .iface _ d => uptoBulk d + 1
  | .map entries => uptoBulkEntries entries + 1
  | .held _ => 1
def uptoBulkAll {H : Type} : List (DataW H) → Nat
  | [] => 0
  | d :: r => uptoBulk d + uptoBulkAll r
def uptoBulkEntries {H : Type} : List (Lit × DataW H) → Nat
  | [] => 0
  | x :: r => uptoBulkEntry x + uptoBulkEntries r
def uptoBulkEntry {H : Type} : Lit × DataW H → Nat
  | (.string bytes, d) => bytes.length + uptoBulk d + 1
  | (_, d) => uptoBulk d + 1
 end
def uptoSmall : (H : Type) → List (DataW H) → Bool := fun _ ds => decide (uptoBulkAll ds ≤ 1048576)
def OpenSpec.upto (s : _root_.Go.ChangeSpec) : _root_.Go.OpenSpec := { _root_.Go.OpenSpec.ofChange s with cond := some uptoSmall }

/-- 'tumuluslaw15.FlipTwice', WHERE WHAT IT READS IS OF BULK AT MOST 1048576: true; the input reads as it did. -/
def flipTwiceUptoRow : OpenClaim := { program := "ytbfheafpecgphaagreat", sum := "48cdb340d26d46b2ebfaad93ee00b60fdc7e3e9015b727c33dcd108f0726a30c", func := "tumulus/tumuluslaw15.FlipTwice", spec := "flipTwice", unfollowed := true, recurses := true, apart := false, narrowed := true }
def FlipTwiceUptoSaid : Prop := flipTwiceUptoRow.holds Tryz.pinned (OpenSpec.upto flipTwiceSpec)

/-- 'tumuluslaw15.FlipKeeps', WHERE WHAT IT READS IS OF BULK AT MOST 1048576: true; the input reads as it did. -/
def flipKeepsUptoRow : OpenClaim := { program := "ytbfheafpecgphaagreat", sum := "48cdb340d26d46b2ebfaad93ee00b60fdc7e3e9015b727c33dcd108f0726a30c", func := "tumulus/tumuluslaw15.FlipKeeps", spec := "flipKeeps", unfollowed := true, recurses := true, apart := false, narrowed := true }
def FlipKeepsUptoSaid : Prop := flipKeepsUptoRow.holds Tryz.pinned (OpenSpec.upto flipKeepsSpec)

/-- 'tumuluslaw16.HandleApart', WHERE WHAT IT READS IS OF BULK AT MOST 1048576: true; the input reads as it did. -/
def handleApartUptoRow : OpenClaim := { program := "ytbfheafpecgphaagreat", sum := "48cdb340d26d46b2ebfaad93ee00b60fdc7e3e9015b727c33dcd108f0726a30c", func := "tumulus/tumuluslaw16.HandleApart", spec := "handleApart", unfollowed := true, recurses := true, apart := false, narrowed := true }
def HandleApartUptoSaid : Prop := handleApartUptoRow.holds Tryz.pinned (OpenSpec.upto handleApartSpec)

/-- 'tumuluslaw15.FlipCut', WHERE WHAT IT READS IS OF BULK AT MOST 1048576: true; the input reads as it did. -/
def flipCutUptoRow : OpenClaim := { program := "ytbfheafpecgphaagreat", sum := "48cdb340d26d46b2ebfaad93ee00b60fdc7e3e9015b727c33dcd108f0726a30c", func := "tumulus/tumuluslaw15.FlipCut", spec := "flipCut", unfollowed := true, recurses := true, apart := false, narrowed := true }
def FlipCutUptoSaid : Prop := flipCutUptoRow.holds Tryz.pinned (OpenSpec.upto flipCutSpec)

/-- 'tumuluslaw15.FlipCollects', WHERE WHAT IT READS IS OF BULK AT MOST 1048576: true; the input reads as it did. -/
def flipCollectsUptoRow : OpenClaim := { program := "ytbfheafpecgphaagreat", sum := "48cdb340d26d46b2ebfaad93ee00b60fdc7e3e9015b727c33dcd108f0726a30c", func := "tumulus/tumuluslaw15.FlipCollects", spec := "flipCollects", unfollowed := true, recurses := true, apart := false, narrowed := true }
def FlipCollectsUptoSaid : Prop := flipCollectsUptoRow.holds Tryz.pinned (OpenSpec.upto flipCollectsSpec)

/-- 'tumuluslaw16.HandleRises', WHERE WHAT IT READS IS OF BULK AT MOST 1048576: true; the input reads as it did. -/
def handleRisesUptoRow : OpenClaim := { program := "ytbfheafpecgphaagreat", sum := "48cdb340d26d46b2ebfaad93ee00b60fdc7e3e9015b727c33dcd108f0726a30c", func := "tumulus/tumuluslaw16.HandleRises", spec := "handleRises", unfollowed := true, recurses := true, apart := false, narrowed := true }
def HandleRisesUptoSaid : Prop := handleRisesUptoRow.holds Tryz.pinned (OpenSpec.upto handleRisesSpec)

/-- 'tumuluslaw16.HandleMoves', WHERE WHAT IT READS IS OF BULK AT MOST 1048576: true; the input reads as it did. -/
def handleMovesUptoRow : OpenClaim := { program := "ytbfheafpecgphaagreat", sum := "48cdb340d26d46b2ebfaad93ee00b60fdc7e3e9015b727c33dcd108f0726a30c", func := "tumulus/tumuluslaw16.HandleMoves", spec := "handleMoves", inPlace := ["maps.clone"], unfollowed := true, recurses := true, apart := false, narrowed := true }
def HandleMovesUptoSaid : Prop := handleMovesUptoRow.holds Tryz.pinned (OpenSpec.upto handleMovesSpec)

/-- 'tumuluslaw16.HandlePlays', WHERE WHAT IT READS IS OF BULK AT MOST 1048576: true; the input reads as it did. -/
def handlePlaysUptoRow : OpenClaim := { program := "ytbfheafpecgphaagreat", sum := "48cdb340d26d46b2ebfaad93ee00b60fdc7e3e9015b727c33dcd108f0726a30c", func := "tumulus/tumuluslaw16.HandlePlays", spec := "handlePlays", inPlace := ["maps.clone"], unfollowed := true, recurses := true, apart := false, narrowed := true }
def HandlePlaysUptoSaid : Prop := handlePlaysUptoRow.holds Tryz.pinned (OpenSpec.upto handlePlaysSpec)

end Rows
end Go.Proofs.YtbfheafpecgphaaGreat
