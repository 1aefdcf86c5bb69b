/-
  No cell of these rows narrows 'for every input' (looked for: loops, veiled, ifaces, maps, wideKeys, modest, calm, conditions, laid).
  DERIVED. THE GIVEN ROWS OF THIS SEAT. 5 by the template 'for every input the law returns true; each argument reads behind the call as it read before'; 0 by the template 'total and deterministic' (their statements: YtkdldnnnijgcjaaTotals.lean).
  GIVEN WITH THE SEED: the statements are not yours to turn. If you find one false, say at which input.
  Laid BY PROGRAM, IN A SANDBOX (cutbox-rows.mjs): the forced cells as the released guide's own fill.sh prints them over the translation 0c03d1a1f61b8616… (all of the seat's roots in one cut). By AI agents, Wed Nov 11 2026. No macro, syntax, notation, axiom, sorry.
-/
import Derived.Test.YtkdldnnnijgcjaaChecked
import GoSem.Claim
import GoSem.ClaimJoined
import GoSem.ClaimMapViews
import Derived.JoinedTies
import Derived.KernelRfl
namespace Go.Proofs.Ytkdldnnnijgcjaa
/- THE CELL 'sum', in the pinned program and in every row, IS THE sha256 OF THE DUMP (.gsa) THAT YtkdldnnnijgcjaaProg.lean LOADS. Nothing in Lean hashes anything: it is a label: what it is worth is what the hold of that sum in a sandbox is worth. -/
noncomputable def Try.pinned : Pinned := { name := "ytkdldnnnijgcjaa", sum := "0c03d1a1f61b8616aa4eeec1be912766423f811210a9d44678514df5c168d6f4", checked := Try.checked }
namespace Rows
def none {H : Type} : Left H := { results := [], args := [] }

/-- 'tumuluslaw01.PowerRuns': WHATEVER THE INPUT: true; the input reads as it did. -/
def powerRunsSpec : ChangeSpec := { name := "powerRuns", fn := fun _ => fun
  | [d1, d2, d3] => { results := [.lit (.bool true)], args := [d1, d2, d3] }
  | _ => none }
def powerRunsRow : OpenClaim := { program := "ytkdldnnnijgcjaa", sum := "0c03d1a1f61b8616aa4eeec1be912766423f811210a9d44678514df5c168d6f4", func := "tumulus/tumuluslaw01.PowerRuns", spec := "powerRuns", unfollowed := true, recurses := true, apart := false }
def PowerRunsSaid : Prop := powerRunsRow.holds Try.pinned (OpenSpec.ofChange powerRunsSpec)

/-- ITS FALSE NEIGHBOUR: 'it returns false'. Refute it at one input. -/
def powerRunsWrong : ChangeSpec := { name := "powerRuns", fn := fun _ => fun
  | [d1, d2, d3] => { results := [.lit (.bool false)], args := [d1, d2, d3] }
  | _ => none }
def PowerRunsWrongFalsely : Prop := powerRunsRow.holds Try.pinned (OpenSpec.ofChange powerRunsWrong)

/-- 'tumuluslaw01.PowerNests': WHATEVER THE INPUT: true; the input reads as it did. -/
def powerNestsSpec : ChangeSpec := { name := "powerNests", fn := fun _ => fun
  | [d1, d2, d3] => { results := [.lit (.bool true)], args := [d1, d2, d3] }
  | _ => none }
def powerNestsRow : OpenClaim := { program := "ytkdldnnnijgcjaa", sum := "0c03d1a1f61b8616aa4eeec1be912766423f811210a9d44678514df5c168d6f4", func := "tumulus/tumuluslaw01.PowerNests", spec := "powerNests", unfollowed := true, recurses := true, apart := false }
def PowerNestsSaid : Prop := powerNestsRow.holds Try.pinned (OpenSpec.ofChange powerNestsSpec)

/-- ITS FALSE NEIGHBOUR: 'it returns false'. Refute it at one input. -/
def powerNestsWrong : ChangeSpec := { name := "powerNests", fn := fun _ => fun
  | [d1, d2, d3] => { results := [.lit (.bool false)], args := [d1, d2, d3] }
  | _ => none }
def PowerNestsWrongFalsely : Prop := powerNestsRow.holds Try.pinned (OpenSpec.ofChange powerNestsWrong)

/-- 'tumuluslaw01.PowerApart': WHATEVER THE INPUT: true; the input reads as it did. -/
def powerApartSpec : ChangeSpec := { name := "powerApart", fn := fun _ => fun
  | [d1, d2, d3] => { results := [.lit (.bool true)], args := [d1, d2, d3] }
  | _ => none }
def powerApartRow : OpenClaim := { program := "ytkdldnnnijgcjaa", sum := "0c03d1a1f61b8616aa4eeec1be912766423f811210a9d44678514df5c168d6f4", func := "tumulus/tumuluslaw01.PowerApart", spec := "powerApart", unfollowed := true, recurses := true, apart := false }
def PowerApartSaid : Prop := powerApartRow.holds Try.pinned (OpenSpec.ofChange powerApartSpec)

/-- ITS FALSE NEIGHBOUR: 'it returns false'. Refute it at one input. -/
def powerApartWrong : ChangeSpec := { name := "powerApart", fn := fun _ => fun
  | [d1, d2, d3] => { results := [.lit (.bool false)], args := [d1, d2, d3] }
  | _ => none }
def PowerApartWrongFalsely : Prop := powerApartRow.holds Try.pinned (OpenSpec.ofChange powerApartWrong)

/-- 'tumuluslaw01.PowerMore': WHATEVER THE INPUT: true; the input reads as it did. -/
def powerMoreSpec : ChangeSpec := { name := "powerMore", fn := fun _ => fun
  | [d1, d2, d3] => { results := [.lit (.bool true)], args := [d1, d2, d3] }
  | _ => none }
def powerMoreRow : OpenClaim := { program := "ytkdldnnnijgcjaa", sum := "0c03d1a1f61b8616aa4eeec1be912766423f811210a9d44678514df5c168d6f4", func := "tumulus/tumuluslaw01.PowerMore", spec := "powerMore", unfollowed := true, recurses := true, apart := false }
def PowerMoreSaid : Prop := powerMoreRow.holds Try.pinned (OpenSpec.ofChange powerMoreSpec)

/-- ITS FALSE NEIGHBOUR: 'it returns false'. Refute it at one input. -/
def powerMoreWrong : ChangeSpec := { name := "powerMore", fn := fun _ => fun
  | [d1, d2, d3] => { results := [.lit (.bool false)], args := [d1, d2, d3] }
  | _ => none }
def PowerMoreWrongFalsely : Prop := powerMoreRow.holds Try.pinned (OpenSpec.ofChange powerMoreWrong)

/-- 'tumuluslaw01.PowerParts': WHATEVER THE INPUT: true; the input reads as it did. -/
def powerPartsSpec : ChangeSpec := { name := "powerParts", fn := fun _ => fun
  | [d1, d2, d3] => { results := [.lit (.bool true)], args := [d1, d2, d3] }
  | _ => none }
def powerPartsRow : OpenClaim := { program := "ytkdldnnnijgcjaa", sum := "0c03d1a1f61b8616aa4eeec1be912766423f811210a9d44678514df5c168d6f4", func := "tumulus/tumuluslaw01.PowerParts", spec := "powerParts", unfollowed := true, recurses := true, apart := false }
def PowerPartsSaid : Prop := powerPartsRow.holds Try.pinned (OpenSpec.ofChange powerPartsSpec)

/-- ITS FALSE NEIGHBOUR: 'it returns false'. Refute it at one input. -/
def powerPartsWrong : ChangeSpec := { name := "powerParts", fn := fun _ => fun
  | [d1, d2, d3] => { results := [.lit (.bool false)], args := [d1, d2, d3] }
  | _ => none }
def PowerPartsWrongFalsely : Prop := powerPartsRow.holds Try.pinned (OpenSpec.ofChange powerPartsWrong)

/- THE SECOND FORM. 'bulk': how many values and letters a reading holds, each counted each time it is reached (what is shared counts as often as it is met; a slice's spare places count too). A statement '..UptoSaid' is the law's where the arguments, and the package variables that the reading takes, are together of bulk at most 1048576: NARROWER than '..Said'. Prove '..Said' where nothing that the law and all that it calls make is longer than what came in: it says more and counts as full. Else prove '..UptoSaid'. A law counts once. -/
mutual
def uptoBulk {H : Type} : DataW H → Nat
  | .lit (.string bytes) => bytes.length + 1
  | .lit _ => 1
  | .nil => 1
  | .ptr d => uptoBulk d + 1
  | .slice elems spare => uptoBulkAll elems + uptoBulkAll spare + 1
  | .agg parts => uptoBulkAll parts + 1
  | .iface _ d => uptoBulk d + 1
  | .map entries => uptoBulkEntries entries + 1
  | .held _ => 1
def uptoBulkAll {H : Type} : List (DataW H) → Nat
  | [] => 0
  | d :: r => uptoBulk d + uptoBulkAll r
def uptoBulkEntries {H : Type} : List (Lit × DataW H) → Nat
  | [] => 0
  | x :: r => uptoBulkEntry x + uptoBulkEntries r
def uptoBulkEntry {H : Type} : Lit × DataW H → Nat
  | (.string bytes, d) => bytes.length + uptoBulk d + 1
  | (_, d) => uptoBulk d + 1
 end
def uptoSmall : (H : Type) → List (DataW H) → Bool := fun _ ds => decide (uptoBulkAll ds ≤ 1048576)
def OpenSpec.upto (s : _root_.Go.ChangeSpec) : _root_.Go.OpenSpec := { _root_.Go.OpenSpec.ofChange s with cond := some uptoSmall }

/-- 'tumuluslaw01.PowerRuns', WHERE WHAT IT READS IS OF BULK AT MOST 1048576: true; the input reads as it did. -/
def powerRunsUptoRow : OpenClaim := { program := "ytkdldnnnijgcjaa", sum := "0c03d1a1f61b8616aa4eeec1be912766423f811210a9d44678514df5c168d6f4", func := "tumulus/tumuluslaw01.PowerRuns", spec := "powerRuns", unfollowed := true, recurses := true, apart := false, narrowed := true }
def PowerRunsUptoSaid : Prop := powerRunsUptoRow.holds Try.pinned (OpenSpec.upto powerRunsSpec)

/-- 'tumuluslaw01.PowerNests', WHERE WHAT IT READS IS OF BULK AT MOST 1048576: true; the input reads as it did. -/
def powerNestsUptoRow : OpenClaim := { program := "ytkdldnnnijgcjaa", sum := "0c03d1a1f61b8616aa4eeec1be912766423f811210a9d44678514df5c168d6f4", func := "tumulus/tumuluslaw01.PowerNests", spec := "powerNests", unfollowed := true, recurses := true, apart := false, narrowed := true }
def PowerNestsUptoSaid : Prop := powerNestsUptoRow.holds Try.pinned (OpenSpec.upto powerNestsSpec)

/-- 'tumuluslaw01.PowerApart', WHERE WHAT IT READS IS OF BULK AT MOST 1048576: true; the input reads as it did. -/
def powerApartUptoRow : OpenClaim := { program := "ytkdldnnnijgcjaa", sum := "0c03d1a1f61b8616aa4eeec1be912766423f811210a9d44678514df5c168d6f4", func := "tumulus/tumuluslaw01.PowerApart", spec := "powerApart", unfollowed := true, recurses := true, apart := false, narrowed := true }
def PowerApartUptoSaid : Prop := powerApartUptoRow.holds Try.pinned (OpenSpec.upto powerApartSpec)

/-- 'tumuluslaw01.PowerMore', WHERE WHAT IT READS IS OF BULK AT MOST 1048576: true; the input reads as it did. -/
def powerMoreUptoRow : OpenClaim := { program := "ytkdldnnnijgcjaa", sum := "0c03d1a1f61b8616aa4eeec1be912766423f811210a9d44678514df5c168d6f4", func := "tumulus/tumuluslaw01.PowerMore", spec := "powerMore", unfollowed := true, recurses := true, apart := false, narrowed := true }
def PowerMoreUptoSaid : Prop := powerMoreUptoRow.holds Try.pinned (OpenSpec.upto powerMoreSpec)

/-- 'tumuluslaw01.PowerParts', WHERE WHAT IT READS IS OF BULK AT MOST 1048576: true; the input reads as it did. -/
def powerPartsUptoRow : OpenClaim := { program := "ytkdldnnnijgcjaa", sum := "0c03d1a1f61b8616aa4eeec1be912766423f811210a9d44678514df5c168d6f4", func := "tumulus/tumuluslaw01.PowerParts", spec := "powerParts", unfollowed := true, recurses := true, apart := false, narrowed := true }
def PowerPartsUptoSaid : Prop := powerPartsUptoRow.holds Try.pinned (OpenSpec.upto powerPartsSpec)

end Rows
end Go.Proofs.Ytkdldnnnijgcjaa
