/-
  No cell of these rows narrows 'for every input' (looked for: loops, veiled, ifaces, maps, wideKeys, modest, calm, conditions, laid).
  DERIVED. THE GIVEN ROWS OF THIS SEAT. 6 by the template 'for every input the law returns true; each argument reads behind the call as it read before'; 0 by the template 'total and deterministic' (their statements: YtbhpbnedocdneaaTotals.lean).
  GIVEN WITH THE SEED: the statements are not yours to turn. If you find one false, say at which input.
  Laid BY PROGRAM, IN A SANDBOX (cutbox-rows.mjs): the forced cells as the released guide's own fill.sh prints them over the translation 89620f65c9057e28… (all of the seat's roots in one cut). By AI agents, Wed Nov 11 2026. No macro, syntax, notation, axiom, sorry.
-/
import Derived.Test.YtbhpbnedocdneaaChecked
import GoSem.Claim
import GoSem.ClaimJoined
import GoSem.ClaimMapViews
import Derived.JoinedTies
import Derived.KernelRfl
namespace Go.Proofs.Ytbhpbnedocdneaa
/- THE CELL 'sum', in the pinned program and in every row, IS THE sha256 OF THE DUMP (.gsa) THAT YtbhpbnedocdneaaProg.lean LOADS. Nothing in Lean hashes anything: it is a label: what it is worth is what the hold of that sum in a sandbox is worth. -/
noncomputable def Try.pinned : Pinned := { name := "ytbhpbnedocdneaa", sum := "89620f65c9057e28340cd9b71099b7bf5c31663712cac072b4affaf94acb8160", checked := Try.checked }
namespace Rows
def none {H : Type} : Left H := { results := [], args := [] }

/-- 'tumuluslaw07.SectionOnce': WHATEVER THE INPUT: true; the input reads as it did. -/
def sectionOnceSpec : ChangeSpec := { name := "sectionOnce", fn := fun _ => fun
  | [d1, d2, d3] => { results := [.lit (.bool true)], args := [d1, d2, d3] }
  | _ => none }
def sectionOnceRow : OpenClaim := { program := "ytbhpbnedocdneaa", sum := "89620f65c9057e28340cd9b71099b7bf5c31663712cac072b4affaf94acb8160", func := "tumulus/tumuluslaw07.SectionOnce", spec := "sectionOnce", unfollowed := true, recurses := true, apart := false }
def SectionOnceSaid : Prop := sectionOnceRow.holds Try.pinned (OpenSpec.ofChange sectionOnceSpec)

/-- ITS FALSE NEIGHBOUR: 'it returns false'. Refute it at one input. -/
def sectionOnceWrong : ChangeSpec := { name := "sectionOnce", fn := fun _ => fun
  | [d1, d2, d3] => { results := [.lit (.bool false)], args := [d1, d2, d3] }
  | _ => none }
def SectionOnceWrongFalsely : Prop := sectionOnceRow.holds Try.pinned (OpenSpec.ofChange sectionOnceWrong)

/-- 'tumuluslaw07.SectionPlays': WHATEVER THE INPUT: true; the input reads as it did. -/
def sectionPlaysSpec : ChangeSpec := { name := "sectionPlays", fn := fun _ => fun
  | [d1, d2, d3, d4] => { results := [.lit (.bool true)], args := [d1, d2, d3, d4] }
  | _ => none }
def sectionPlaysRow : OpenClaim := { program := "ytbhpbnedocdneaa", sum := "89620f65c9057e28340cd9b71099b7bf5c31663712cac072b4affaf94acb8160", func := "tumulus/tumuluslaw07.SectionPlays", spec := "sectionPlays", unfollowed := true, recurses := true, apart := false }
def SectionPlaysSaid : Prop := sectionPlaysRow.holds Try.pinned (OpenSpec.ofChange sectionPlaysSpec)

/-- ITS FALSE NEIGHBOUR: 'it returns false'. Refute it at one input. -/
def sectionPlaysWrong : ChangeSpec := { name := "sectionPlays", fn := fun _ => fun
  | [d1, d2, d3, d4] => { results := [.lit (.bool false)], args := [d1, d2, d3, d4] }
  | _ => none }
def SectionPlaysWrongFalsely : Prop := sectionPlaysRow.holds Try.pinned (OpenSpec.ofChange sectionPlaysWrong)

/-- 'tumuluslaw07.SectionRows': WHATEVER THE INPUT: true; the input reads as it did. -/
def sectionRowsSpec : ChangeSpec := { name := "sectionRows", fn := fun _ => fun
  | [d1, d2, d3] => { results := [.lit (.bool true)], args := [d1, d2, d3] }
  | _ => none }
def sectionRowsRow : OpenClaim := { program := "ytbhpbnedocdneaa", sum := "89620f65c9057e28340cd9b71099b7bf5c31663712cac072b4affaf94acb8160", func := "tumulus/tumuluslaw07.SectionRows", spec := "sectionRows", unfollowed := true, recurses := true, apart := false }
def SectionRowsSaid : Prop := sectionRowsRow.holds Try.pinned (OpenSpec.ofChange sectionRowsSpec)

/-- ITS FALSE NEIGHBOUR: 'it returns false'. Refute it at one input. -/
def sectionRowsWrong : ChangeSpec := { name := "sectionRows", fn := fun _ => fun
  | [d1, d2, d3] => { results := [.lit (.bool false)], args := [d1, d2, d3] }
  | _ => none }
def SectionRowsWrongFalsely : Prop := sectionRowsRow.holds Try.pinned (OpenSpec.ofChange sectionRowsWrong)

/-- 'tumuluslaw07.SectionEmpty': WHATEVER THE INPUT: true; the input reads as it did. -/
def sectionEmptySpec : ChangeSpec := { name := "sectionEmpty", fn := fun _ => fun
  | [d1, d2, d3, d4, d5] => { results := [.lit (.bool true)], args := [d1, d2, d3, d4, d5] }
  | _ => none }
def sectionEmptyRow : OpenClaim := { program := "ytbhpbnedocdneaa", sum := "89620f65c9057e28340cd9b71099b7bf5c31663712cac072b4affaf94acb8160", func := "tumulus/tumuluslaw07.SectionEmpty", spec := "sectionEmpty", unfollowed := true, recurses := true, apart := false }
def SectionEmptySaid : Prop := sectionEmptyRow.holds Try.pinned (OpenSpec.ofChange sectionEmptySpec)

/-- ITS FALSE NEIGHBOUR: 'it returns false'. Refute it at one input. -/
def sectionEmptyWrong : ChangeSpec := { name := "sectionEmpty", fn := fun _ => fun
  | [d1, d2, d3, d4, d5] => { results := [.lit (.bool false)], args := [d1, d2, d3, d4, d5] }
  | _ => none }
def SectionEmptyWrongFalsely : Prop := sectionEmptyRow.holds Try.pinned (OpenSpec.ofChange sectionEmptyWrong)

/-- 'tumuluslaw07.SectionKeeps': WHATEVER THE INPUT: true; the input reads as it did. -/
def sectionKeepsSpec : ChangeSpec := { name := "sectionKeeps", fn := fun _ => fun
  | [d1, d2, d3, d4] => { results := [.lit (.bool true)], args := [d1, d2, d3, d4] }
  | _ => none }
def sectionKeepsRow : OpenClaim := { program := "ytbhpbnedocdneaa", sum := "89620f65c9057e28340cd9b71099b7bf5c31663712cac072b4affaf94acb8160", func := "tumulus/tumuluslaw07.SectionKeeps", spec := "sectionKeeps", unfollowed := true, recurses := true, apart := false }
def SectionKeepsSaid : Prop := sectionKeepsRow.holds Try.pinned (OpenSpec.ofChange sectionKeepsSpec)

/-- ITS FALSE NEIGHBOUR: 'it returns false'. Refute it at one input. -/
def sectionKeepsWrong : ChangeSpec := { name := "sectionKeeps", fn := fun _ => fun
  | [d1, d2, d3, d4] => { results := [.lit (.bool false)], args := [d1, d2, d3, d4] }
  | _ => none }
def SectionKeepsWrongFalsely : Prop := sectionKeepsRow.holds Try.pinned (OpenSpec.ofChange sectionKeepsWrong)

/-- 'tumuluslaw07.SectionCut': WHATEVER THE INPUT: true; the input reads as it did. -/
def sectionCutSpec : ChangeSpec := { name := "sectionCut", fn := fun _ => fun
  | [d1, d2, d3, d4, d5] => { results := [.lit (.bool true)], args := [d1, d2, d3, d4, d5] }
  | _ => none }
def sectionCutRow : OpenClaim := { program := "ytbhpbnedocdneaa", sum := "89620f65c9057e28340cd9b71099b7bf5c31663712cac072b4affaf94acb8160", func := "tumulus/tumuluslaw07.SectionCut", spec := "sectionCut", unfollowed := true, recurses := true, apart := false }
def SectionCutSaid : Prop := sectionCutRow.holds Try.pinned (OpenSpec.ofChange sectionCutSpec)

/-- ITS FALSE NEIGHBOUR: 'it returns false'. Refute it at one input. -/
def sectionCutWrong : ChangeSpec := { name := "sectionCut", fn := fun _ => fun
  | [d1, d2, d3, d4, d5] => { results := [.lit (.bool false)], args := [d1, d2, d3, d4, d5] }
  | _ => none }
def SectionCutWrongFalsely : Prop := sectionCutRow.holds Try.pinned (OpenSpec.ofChange sectionCutWrong)

/- THE SECOND FORM. 'bulk': how many values and letters a reading holds, each counted each time it is reached (what is shared counts as often as it is met; a slice's spare places count too). A statement '..UptoSaid' is the law's where the arguments, and the package variables that the reading takes, are together of bulk at most 1048576: NARROWER than '..Said'. Prove '..Said' where nothing that the law and all that it calls make is longer than what came in: it says more and counts as full. Else prove '..UptoSaid'. A law counts once. -/
mutual
def uptoBulk {H : Type} : DataW H → Nat
  | .lit (.string bytes) => bytes.length + 1
  | .lit _ => 1
  | .nil => 1
  | .ptr d => uptoBulk d + 1
  | .slice elems spare => uptoBulkAll elems + uptoBulkAll spare + 1
  | .agg parts => uptoBulkAll parts + 1
  | .iface _ d => uptoBulk d + 1
  | .map entries => uptoBulkEntries entries + 1
  | .held _ => 1
def uptoBulkAll {H : Type} : List (DataW H) → Nat
  | [] => 0
  | d :: r => uptoBulk d + uptoBulkAll r
def uptoBulkEntries {H : Type} : List (Lit × DataW H) → Nat
  | [] => 0
  | x :: r => uptoBulkEntry x + uptoBulkEntries r
def uptoBulkEntry {H : Type} : Lit × DataW H → Nat
  | (.string bytes, d) => bytes.length + uptoBulk d + 1
  | (_, d) => uptoBulk d + 1
 end
def uptoSmall : (H : Type) → List (DataW H) → Bool := fun _ ds => decide (uptoBulkAll ds ≤ 1048576)
def OpenSpec.upto (s : _root_.Go.ChangeSpec) : _root_.Go.OpenSpec := { _root_.Go.OpenSpec.ofChange s with cond := some uptoSmall }

/-- 'tumuluslaw07.SectionOnce', WHERE WHAT IT READS IS OF BULK AT MOST 1048576: true; the input reads as it did. -/
def sectionOnceUptoRow : OpenClaim := { program := "ytbhpbnedocdneaa", sum := "89620f65c9057e28340cd9b71099b7bf5c31663712cac072b4affaf94acb8160", func := "tumulus/tumuluslaw07.SectionOnce", spec := "sectionOnce", unfollowed := true, recurses := true, apart := false, narrowed := true }
def SectionOnceUptoSaid : Prop := sectionOnceUptoRow.holds Try.pinned (OpenSpec.upto sectionOnceSpec)

/-- 'tumuluslaw07.SectionPlays', WHERE WHAT IT READS IS OF BULK AT MOST 1048576: true; the input reads as it did. -/
def sectionPlaysUptoRow : OpenClaim := { program := "ytbhpbnedocdneaa", sum := "89620f65c9057e28340cd9b71099b7bf5c31663712cac072b4affaf94acb8160", func := "tumulus/tumuluslaw07.SectionPlays", spec := "sectionPlays", unfollowed := true, recurses := true, apart := false, narrowed := true }
def SectionPlaysUptoSaid : Prop := sectionPlaysUptoRow.holds Try.pinned (OpenSpec.upto sectionPlaysSpec)

/-- 'tumuluslaw07.SectionRows', WHERE WHAT IT READS IS OF BULK AT MOST 1048576: true; the input reads as it did. -/
def sectionRowsUptoRow : OpenClaim := { program := "ytbhpbnedocdneaa", sum := "89620f65c9057e28340cd9b71099b7bf5c31663712cac072b4affaf94acb8160", func := "tumulus/tumuluslaw07.SectionRows", spec := "sectionRows", unfollowed := true, recurses := true, apart := false, narrowed := true }
def SectionRowsUptoSaid : Prop := sectionRowsUptoRow.holds Try.pinned (OpenSpec.upto sectionRowsSpec)

/-- 'tumuluslaw07.SectionEmpty', WHERE WHAT IT READS IS OF BULK AT MOST 1048576: true; the input reads as it did. -/
def sectionEmptyUptoRow : OpenClaim := { program := "ytbhpbnedocdneaa", sum := "89620f65c9057e28340cd9b71099b7bf5c31663712cac072b4affaf94acb8160", func := "tumulus/tumuluslaw07.SectionEmpty", spec := "sectionEmpty", unfollowed := true, recurses := true, apart := false, narrowed := true }
def SectionEmptyUptoSaid : Prop := sectionEmptyUptoRow.holds Try.pinned (OpenSpec.upto sectionEmptySpec)

/-- 'tumuluslaw07.SectionKeeps', WHERE WHAT IT READS IS OF BULK AT MOST 1048576: true; the input reads as it did. -/
def sectionKeepsUptoRow : OpenClaim := { program := "ytbhpbnedocdneaa", sum := "89620f65c9057e28340cd9b71099b7bf5c31663712cac072b4affaf94acb8160", func := "tumulus/tumuluslaw07.SectionKeeps", spec := "sectionKeeps", unfollowed := true, recurses := true, apart := false, narrowed := true }
def SectionKeepsUptoSaid : Prop := sectionKeepsUptoRow.holds Try.pinned (OpenSpec.upto sectionKeepsSpec)

/-- 'tumuluslaw07.SectionCut', WHERE WHAT IT READS IS OF BULK AT MOST 1048576: true; the input reads as it did. -/
def sectionCutUptoRow : OpenClaim := { program := "ytbhpbnedocdneaa", sum := "89620f65c9057e28340cd9b71099b7bf5c31663712cac072b4affaf94acb8160", func := "tumulus/tumuluslaw07.SectionCut", spec := "sectionCut", unfollowed := true, recurses := true, apart := false, narrowed := true }
def SectionCutUptoSaid : Prop := sectionCutUptoRow.holds Try.pinned (OpenSpec.upto sectionCutSpec)

end Rows
end Go.Proofs.Ytbhpbnedocdneaa
