/-
  No cell of these rows narrows 'for every input' (looked for: loops, veiled, ifaces, maps, wideKeys, modest, calm, conditions, laid).
  DERIVED. THE GIVEN ROWS OF THIS SEAT. 6 by the template 'for every input the law returns true; each argument reads behind the call as it read before'; 0 by the template 'total and deterministic' (their statements: YtlcibdhmgclfjaaGreatTotals.lean).
  GIVEN WITH THE SEED: the statements are not yours to turn. If you find one false, say at which input.
  Laid BY PROGRAM, IN A SANDBOX (cutbox-rows.mjs): the forced cells as the released guide's own fill.sh prints them over the translation 39010518d9af0363… (all of the seat's roots in one cut). By AI agents, Wed Nov 11 2026. No macro, syntax, notation, axiom, sorry.
-/
import Derived.Test.YtlcibdhmgclfjaaGreatChecked
import GoSem.Claim
import GoSem.ClaimJoined
import GoSem.ClaimMapViews
import Derived.JoinedTies
import Derived.KernelRfl
namespace Go.Proofs.YtlcibdhmgclfjaaGreat
/- THE CELL 'sum', in the pinned program and in every row, IS THE sha256 OF THE DUMP (.gsa) THAT YtlcibdhmgclfjaaGreatProg.lean LOADS. Nothing in Lean hashes anything: it is a label: what it is worth is what the hold of that sum in a sandbox is worth. -/
noncomputable def Tryz.pinned : Pinned := { name := "ytlcibdhmgclfjaagreat", sum := "39010518d9af0363a96302844a52c1181173d02b1954886d80c8ffa0d7073976", checked := Tryz.checked }
namespace Rows
def none {H : Type} : Left H := { results := [], args := [] }

/-- 'tumuluslaw17.HeapCommits': WHATEVER THE INPUT: true; the input reads as it did. -/
def heapCommitsSpec : ChangeSpec := { name := "heapCommits", fn := fun _ => fun
  | [d1, d2, d3] => { results := [.lit (.bool true)], args := [d1, d2, d3] }
  | _ => none }
def heapCommitsRow : OpenClaim := { program := "ytlcibdhmgclfjaagreat", sum := "39010518d9af0363a96302844a52c1181173d02b1954886d80c8ffa0d7073976", func := "tumulus/tumuluslaw17.HeapCommits", spec := "heapCommits", inPlace := ["maps.clone"], unfollowed := true, recurses := true, apart := false }
def HeapCommitsSaid : Prop := heapCommitsRow.holds Tryz.pinned (OpenSpec.ofChange heapCommitsSpec)

/-- ITS FALSE NEIGHBOUR: 'it returns false'. Refute it at one input. -/
def heapCommitsWrong : ChangeSpec := { name := "heapCommits", fn := fun _ => fun
  | [d1, d2, d3] => { results := [.lit (.bool false)], args := [d1, d2, d3] }
  | _ => none }
def HeapCommitsWrongFalsely : Prop := heapCommitsRow.holds Tryz.pinned (OpenSpec.ofChange heapCommitsWrong)

/-- 'tumuluslaw17.HeapNames': WHATEVER THE INPUT: true; the input reads as it did. -/
def heapNamesSpec : ChangeSpec := { name := "heapNames", fn := fun _ => fun
  | [d1, d2] => { results := [.lit (.bool true)], args := [d1, d2] }
  | _ => none }
def heapNamesRow : OpenClaim := { program := "ytlcibdhmgclfjaagreat", sum := "39010518d9af0363a96302844a52c1181173d02b1954886d80c8ffa0d7073976", func := "tumulus/tumuluslaw17.HeapNames", spec := "heapNames", inPlace := ["maps.clone"], unfollowed := true, recurses := true, apart := false }
def HeapNamesSaid : Prop := heapNamesRow.holds Tryz.pinned (OpenSpec.ofChange heapNamesSpec)

/-- ITS FALSE NEIGHBOUR: 'it returns false'. Refute it at one input. -/
def heapNamesWrong : ChangeSpec := { name := "heapNames", fn := fun _ => fun
  | [d1, d2] => { results := [.lit (.bool false)], args := [d1, d2] }
  | _ => none }
def HeapNamesWrongFalsely : Prop := heapNamesRow.holds Tryz.pinned (OpenSpec.ofChange heapNamesWrong)

/-- 'tumuluslaw17.HeapRoom': WHATEVER THE INPUT: true; the input reads as it did. -/
def heapRoomSpec : ChangeSpec := { name := "heapRoom", fn := fun _ => fun
  | [d1, d2, d3] => { results := [.lit (.bool true)], args := [d1, d2, d3] }
  | _ => none }
def heapRoomRow : OpenClaim := { program := "ytlcibdhmgclfjaagreat", sum := "39010518d9af0363a96302844a52c1181173d02b1954886d80c8ffa0d7073976", func := "tumulus/tumuluslaw17.HeapRoom", spec := "heapRoom", inPlace := ["maps.clone"], unfollowed := true, recurses := true, apart := false }
def HeapRoomSaid : Prop := heapRoomRow.holds Tryz.pinned (OpenSpec.ofChange heapRoomSpec)

/-- ITS FALSE NEIGHBOUR: 'it returns false'. Refute it at one input. -/
def heapRoomWrong : ChangeSpec := { name := "heapRoom", fn := fun _ => fun
  | [d1, d2, d3] => { results := [.lit (.bool false)], args := [d1, d2, d3] }
  | _ => none }
def HeapRoomWrongFalsely : Prop := heapRoomRow.holds Tryz.pinned (OpenSpec.ofChange heapRoomWrong)

/-- 'tumuluslaw17.HeapSteps': WHATEVER THE INPUT: true; the input reads as it did. -/
def heapStepsSpec : ChangeSpec := { name := "heapSteps", fn := fun _ => fun
  | [d1, d2, d3] => { results := [.lit (.bool true)], args := [d1, d2, d3] }
  | _ => none }
def heapStepsRow : OpenClaim := { program := "ytlcibdhmgclfjaagreat", sum := "39010518d9af0363a96302844a52c1181173d02b1954886d80c8ffa0d7073976", func := "tumulus/tumuluslaw17.HeapSteps", spec := "heapSteps", inPlace := ["maps.clone"], unfollowed := true, recurses := true, apart := false }
def HeapStepsSaid : Prop := heapStepsRow.holds Tryz.pinned (OpenSpec.ofChange heapStepsSpec)

/-- ITS FALSE NEIGHBOUR: 'it returns false'. Refute it at one input. -/
def heapStepsWrong : ChangeSpec := { name := "heapSteps", fn := fun _ => fun
  | [d1, d2, d3] => { results := [.lit (.bool false)], args := [d1, d2, d3] }
  | _ => none }
def HeapStepsWrongFalsely : Prop := heapStepsRow.holds Tryz.pinned (OpenSpec.ofChange heapStepsWrong)

/-- 'tumuluslaw17.HeapCut': WHATEVER THE INPUT: true; the input reads as it did. -/
def heapCutSpec : ChangeSpec := { name := "heapCut", fn := fun _ => fun
  | [d1, d2, d3, d4] => { results := [.lit (.bool true)], args := [d1, d2, d3, d4] }
  | _ => none }
def heapCutRow : OpenClaim := { program := "ytlcibdhmgclfjaagreat", sum := "39010518d9af0363a96302844a52c1181173d02b1954886d80c8ffa0d7073976", func := "tumulus/tumuluslaw17.HeapCut", spec := "heapCut", inPlace := ["maps.clone"], unfollowed := true, recurses := true, apart := false }
def HeapCutSaid : Prop := heapCutRow.holds Tryz.pinned (OpenSpec.ofChange heapCutSpec)

/-- ITS FALSE NEIGHBOUR: 'it returns false'. Refute it at one input. -/
def heapCutWrong : ChangeSpec := { name := "heapCut", fn := fun _ => fun
  | [d1, d2, d3, d4] => { results := [.lit (.bool false)], args := [d1, d2, d3, d4] }
  | _ => none }
def HeapCutWrongFalsely : Prop := heapCutRow.holds Tryz.pinned (OpenSpec.ofChange heapCutWrong)

/-- 'tumuluslaw17.HeapTwice': WHATEVER THE INPUT: true; the input reads as it did. -/
def heapTwiceSpec : ChangeSpec := { name := "heapTwice", fn := fun _ => fun
  | [d1, d2, d3, d4] => { results := [.lit (.bool true)], args := [d1, d2, d3, d4] }
  | _ => none }
def heapTwiceRow : OpenClaim := { program := "ytlcibdhmgclfjaagreat", sum := "39010518d9af0363a96302844a52c1181173d02b1954886d80c8ffa0d7073976", func := "tumulus/tumuluslaw17.HeapTwice", spec := "heapTwice", inPlace := ["maps.clone"], unfollowed := true, recurses := true, apart := false }
def HeapTwiceSaid : Prop := heapTwiceRow.holds Tryz.pinned (OpenSpec.ofChange heapTwiceSpec)

/-- ITS FALSE NEIGHBOUR: 'it returns false'. Refute it at one input. -/
def heapTwiceWrong : ChangeSpec := { name := "heapTwice", fn := fun _ => fun
  | [d1, d2, d3, d4] => { results := [.lit (.bool false)], args := [d1, d2, d3, d4] }
  | _ => none }
def HeapTwiceWrongFalsely : Prop := heapTwiceRow.holds Tryz.pinned (OpenSpec.ofChange heapTwiceWrong)

/- THE SECOND FORM. 'bulk': how many values and letters a reading holds, each counted each time it is reached (what is shared counts as often as it is met; a slice's spare places count too). A statement '..UptoSaid' is the law's where the arguments, and the package variables that the reading takes, are together of bulk at most 1048576: NARROWER than '..Said'. Prove '..Said' where nothing that the law and all that it calls make is longer than what came in: it says more and counts as full. Else prove '..UptoSaid'. A law counts once. -/
mutual
def uptoBulk {H : Type} : DataW H → Nat
  | .lit (.string bytes) => bytes.length + 1
  | .lit _ => 1
  | .nil => 1
  | .ptr d => uptoBulk d + 1
  | .slice elems spare => uptoBulkAll elems + uptoBulkAll spare + 1
  | .agg parts => uptoBulkAll parts + 1
  | .iface _ d => uptoBulk d + 1
  | .map entries => uptoBulkEntries entries + 1
  | .held _ => 1
def uptoBulkAll {H : Type} : List (DataW H) → Nat
  | [] => 0
  | d :: r => uptoBulk d + uptoBulkAll r
def uptoBulkEntries {H : Type} : List (Lit × DataW H) → Nat
  | [] => 0
  | x :: r => uptoBulkEntry x + uptoBulkEntries r
def uptoBulkEntry {H : Type} : Lit × DataW H → Nat
  | (.string bytes, d) => bytes.length + uptoBulk d + 1
  | (_, d) => uptoBulk d + 1
 end
def uptoSmall : (H : Type) → List (DataW H) → Bool := fun _ ds => decide (uptoBulkAll ds ≤ 1048576)
def OpenSpec.upto (s : _root_.Go.ChangeSpec) : _root_.Go.OpenSpec := { _root_.Go.OpenSpec.ofChange s with cond := some uptoSmall }

/-- 'tumuluslaw17.HeapCommits', WHERE WHAT IT READS IS OF BULK AT MOST 1048576: true; the input reads as it did. -/
def heapCommitsUptoRow : OpenClaim := { program := "ytlcibdhmgclfjaagreat", sum := "39010518d9af0363a96302844a52c1181173d02b1954886d80c8ffa0d7073976", func := "tumulus/tumuluslaw17.HeapCommits", spec := "heapCommits", inPlace := ["maps.clone"], unfollowed := true, recurses := true, apart := false, narrowed := true }
def HeapCommitsUptoSaid : Prop := heapCommitsUptoRow.holds Tryz.pinned (OpenSpec.upto heapCommitsSpec)

/-- 'tumuluslaw17.HeapNames', WHERE WHAT IT READS IS OF BULK AT MOST 1048576: true; the input reads as it did. -/
def heapNamesUptoRow : OpenClaim := { program := "ytlcibdhmgclfjaagreat", sum := "39010518d9af0363a96302844a52c1181173d02b1954886d80c8ffa0d7073976", func := "tumulus/tumuluslaw17.HeapNames", spec := "heapNames", inPlace := ["maps.clone"], unfollowed := true, recurses := true, apart := false, narrowed := true }
def HeapNamesUptoSaid : Prop := heapNamesUptoRow.holds Tryz.pinned (OpenSpec.upto heapNamesSpec)

/-- 'tumuluslaw17.HeapRoom', WHERE WHAT IT READS IS OF BULK AT MOST 1048576: true; the input reads as it did. -/
def heapRoomUptoRow : OpenClaim := { program := "ytlcibdhmgclfjaagreat", sum := "39010518d9af0363a96302844a52c1181173d02b1954886d80c8ffa0d7073976", func := "tumulus/tumuluslaw17.HeapRoom", spec := "heapRoom", inPlace := ["maps.clone"], unfollowed := true, recurses := true, apart := false, narrowed := true }
def HeapRoomUptoSaid : Prop := heapRoomUptoRow.holds Tryz.pinned (OpenSpec.upto heapRoomSpec)

/-- 'tumuluslaw17.HeapSteps', WHERE WHAT IT READS IS OF BULK AT MOST 1048576: true; the input reads as it did. -/
def heapStepsUptoRow : OpenClaim := { program := "ytlcibdhmgclfjaagreat", sum := "39010518d9af0363a96302844a52c1181173d02b1954886d80c8ffa0d7073976", func := "tumulus/tumuluslaw17.HeapSteps", spec := "heapSteps", inPlace := ["maps.clone"], unfollowed := true, recurses := true, apart := false, narrowed := true }
def HeapStepsUptoSaid : Prop := heapStepsUptoRow.holds Tryz.pinned (OpenSpec.upto heapStepsSpec)

/-- 'tumuluslaw17.HeapCut', WHERE WHAT IT READS IS OF BULK AT MOST 1048576: true; the input reads as it did. -/
def heapCutUptoRow : OpenClaim := { program := "ytlcibdhmgclfjaagreat", sum := "39010518d9af0363a96302844a52c1181173d02b1954886d80c8ffa0d7073976", func := "tumulus/tumuluslaw17.HeapCut", spec := "heapCut", inPlace := ["maps.clone"], unfollowed := true, recurses := true, apart := false, narrowed := true }
def HeapCutUptoSaid : Prop := heapCutUptoRow.holds Tryz.pinned (OpenSpec.upto heapCutSpec)

/-- 'tumuluslaw17.HeapTwice', WHERE WHAT IT READS IS OF BULK AT MOST 1048576: true; the input reads as it did. -/
def heapTwiceUptoRow : OpenClaim := { program := "ytlcibdhmgclfjaagreat", sum := "39010518d9af0363a96302844a52c1181173d02b1954886d80c8ffa0d7073976", func := "tumulus/tumuluslaw17.HeapTwice", spec := "heapTwice", inPlace := ["maps.clone"], unfollowed := true, recurses := true, apart := false, narrowed := true }
def HeapTwiceUptoSaid : Prop := heapTwiceUptoRow.holds Tryz.pinned (OpenSpec.upto heapTwiceSpec)

end Rows
end Go.Proofs.YtlcibdhmgclfjaaGreat
