/-
  DERIVED. GIVEN WITH THE SEED: THE CARDS: each row of YtipdhkmphngmoaaGreatDoorRows.lean that lists a variable, with what it lists TIED to the program's text (the seventh form; the later family's looks); each row that meets fmt, with fmt's text TOLD by the authors' own Lean function (tested against real Go, not proved from fmt's source: count such statements apart). THE CARD IS WHAT COUNTS. Prove the row's statement (the work); the ties are given (YtipdhkmphngmoaaGreatDoorTie.lean); close each card by the builder's one call (the guide's Derived/Test/ToyasCard.lean, 'card_holds'). Laid BY PROGRAM, IN A SANDBOX (cutbox-door.mjs). By AI agents, Wed Nov 11 2026. No macro, syntax, notation, axiom, sorry.
-/
import Derived.Test.YtipdhkmphngmoaaGreatDoorRows
import GoSem.ClaimSeven
namespace Go.Proofs.YtipdhkmphngmoaaGreatDoor
namespace Rows

/-- THE TIED CARD OF 'tumuluslaw19.PlayClosed'. -/
def playClosedCard : Claim7 := { stood := { row := playClosedRow, standIns := [], harness := (true, "7f43e1e61eccd1bc38052b3779fc7a874ca6a4db7314601c174cb2e673e8a78e"), looks := true }, kinds := [], alts := [], laidByText := true, laidKinds := [.data, .data, .data, .data, .sentinel, .sentinel, .data, .pinned], laidTests := true, laidLooks := .later }
def PlayClosedCardSaid : Prop := Claim7.holds Tryz.pinned (.plain (OpenSpec.ofChange playClosedSpec)) playClosedCard

/-- THE TIED CARD OF 'tumuluslaw19.PlayFormats'. -/
def playFormatsCard : Claim7 := { stood := { row := playFormatsRow, standIns := [], harness := (true, "7f43e1e61eccd1bc38052b3779fc7a874ca6a4db7314601c174cb2e673e8a78e"), looks := true }, kinds := [], alts := [], laidByText := true, laidKinds := [.data, .data, .data, .data, .sentinel, .sentinel, .data, .pinned], laidTests := true, laidLooks := .later }
def PlayFormatsCardSaid : Prop := Claim7.holds Tryz.pinned (.plain (OpenSpec.ofChange playFormatsSpec)) playFormatsCard

/-- THE TIED CARD OF 'tumuluslaw19.PlayGreat'. -/
def playGreatCard : Claim7 := { stood := { row := playGreatRow, standIns := [], harness := (true, "7f43e1e61eccd1bc38052b3779fc7a874ca6a4db7314601c174cb2e673e8a78e"), looks := true }, kinds := [], alts := [], laidByText := true, laidKinds := [.data, .data, .data, .data, .sentinel, .sentinel, .data, .pinned], laidTests := true, laidLooks := .later }
def PlayGreatCardSaid : Prop := Claim7.holds Tryz.pinned (.plain (OpenSpec.ofChange playGreatSpec)) playGreatCard

/-- THE TIED CARD OF 'tumulustop.TopRing'. -/
def topRingCard : Claim7 := { stood := { row := topRingRow, standIns := [], harness := (true, "7f43e1e61eccd1bc38052b3779fc7a874ca6a4db7314601c174cb2e673e8a78e"), looks := true }, kinds := [], alts := [], laidByText := true, laidKinds := [.data, .data, .data, .data, .sentinel, .sentinel, .data, .pinned], laidTests := true, laidLooks := .later }
def TopRingCardSaid : Prop := Claim7.holds Tryz.pinned (.plain (OpenSpec.ofChange topRingSpec)) topRingCard

/-- THE TIED CARD OF 'tumulustop.TopRoom'. -/
def topRoomCard : Claim7 := { stood := { row := topRoomRow, standIns := [], harness := (true, "7f43e1e61eccd1bc38052b3779fc7a874ca6a4db7314601c174cb2e673e8a78e"), looks := true }, kinds := [], alts := [], laidByText := true, laidKinds := [.data, .data, .data, .data, .sentinel, .sentinel, .data, .pinned], laidTests := true, laidLooks := .later }
def TopRoomCardSaid : Prop := Claim7.holds Tryz.pinned (.plain (OpenSpec.ofChange topRoomSpec)) topRoomCard

/-- THE TIED CARD OF 'tumulustop.TopFull'. -/
def topFullCard : Claim7 := { stood := { row := topFullRow, standIns := [], harness := (true, "7f43e1e61eccd1bc38052b3779fc7a874ca6a4db7314601c174cb2e673e8a78e"), looks := true }, kinds := [], alts := [], laidByText := true, laidKinds := [.data, .data, .data, .data, .sentinel, .sentinel, .data, .pinned], laidTests := true, laidLooks := .later }
def TopFullCardSaid : Prop := Claim7.holds Tryz.pinned (.plain (OpenSpec.ofChange topFullSpec)) topFullCard

/-- THE TIED CARD OF 'tumulustop.TopShared'. -/
def topSharedCard : Claim7 := { stood := { row := topSharedRow, standIns := [], harness := (true, "7f43e1e61eccd1bc38052b3779fc7a874ca6a4db7314601c174cb2e673e8a78e"), looks := true }, kinds := [], alts := [], laidByText := true, laidKinds := [.data, .data, .data, .data, .sentinel, .sentinel, .data, .pinned], laidTests := true, laidLooks := .later }
def TopSharedCardSaid : Prop := Claim7.holds Tryz.pinned (.plain (OpenSpec.ofChange topSharedSpec)) topSharedCard

/-- THE TIED CARD OF 'tumulustop.TopTree'. -/
def topTreeCard : Claim7 := { stood := { row := topTreeRow, standIns := [], harness := (true, "7f43e1e61eccd1bc38052b3779fc7a874ca6a4db7314601c174cb2e673e8a78e"), looks := true }, kinds := [], alts := [], laidByText := true, laidKinds := [.data, .data, .data, .data, .sentinel, .sentinel, .data, .pinned], laidTests := true, laidLooks := .later }
def TopTreeCardSaid : Prop := Claim7.holds Tryz.pinned (.plain (OpenSpec.ofChange topTreeSpec)) topTreeCard

/-- THE TIED CARD OF 'tumulustop.TopRoots'. -/
def topRootsCard : Claim7 := { stood := { row := topRootsRow, standIns := [], harness := (true, "7f43e1e61eccd1bc38052b3779fc7a874ca6a4db7314601c174cb2e673e8a78e"), looks := true }, kinds := [], alts := [], laidByText := true, laidKinds := [.data, .data, .data, .data, .sentinel, .sentinel, .data, .pinned], laidTests := true, laidLooks := .later }
def TopRootsCardSaid : Prop := Claim7.holds Tryz.pinned (.plain (OpenSpec.ofChange topRootsSpec)) topRootsCard

/-- THE TIED CARD OF 'tumulustop.TopAborts'. -/
def topAbortsCard : Claim7 := { stood := { row := topAbortsRow, standIns := [], harness := (true, "7f43e1e61eccd1bc38052b3779fc7a874ca6a4db7314601c174cb2e673e8a78e"), looks := true }, kinds := [], alts := [], laidByText := true, laidKinds := [.data, .data, .data, .data, .sentinel, .sentinel, .data, .pinned], laidTests := true, laidLooks := .later }
def TopAbortsCardSaid : Prop := Claim7.holds Tryz.pinned (.plain (OpenSpec.ofChange topAbortsSpec)) topAbortsCard

/-- THE TIED CARD OF 'tumulustop.TopOpen'. -/
def topOpenCard : Claim7 := { stood := { row := topOpenRow, standIns := [], harness := (true, "7f43e1e61eccd1bc38052b3779fc7a874ca6a4db7314601c174cb2e673e8a78e"), looks := true }, kinds := [], alts := [], laidByText := true, laidKinds := [.data, .data, .data, .data, .sentinel, .sentinel, .data, .pinned], laidTests := true, laidLooks := .later }
def TopOpenCardSaid : Prop := Claim7.holds Tryz.pinned (.plain (OpenSpec.ofChange topOpenSpec)) topOpenCard

/-- THE TIED CARD OF 'tumulustop.TopConfig'. -/
def topConfigCard : Claim7 := { stood := { row := topConfigRow, standIns := [], harness := (true, "7f43e1e61eccd1bc38052b3779fc7a874ca6a4db7314601c174cb2e673e8a78e"), looks := true }, kinds := [], alts := [], laidByText := true, laidKinds := [.data, .data, .data, .data, .sentinel, .sentinel, .data, .pinned], laidTests := true, laidLooks := .later }
def TopConfigCardSaid : Prop := Claim7.holds Tryz.pinned (.plain (OpenSpec.ofChange topConfigSpec)) topConfigCard

/-- THE SECOND FORM's CARD OF 'tumuluslaw19.PlayClosed'. -/
def playClosedUptoCard : Claim7 := { stood := { row := playClosedUptoRow, standIns := [], harness := (true, "7f43e1e61eccd1bc38052b3779fc7a874ca6a4db7314601c174cb2e673e8a78e"), looks := true }, kinds := [], alts := [], laidByText := true, laidKinds := [.data, .data, .data, .data, .sentinel, .sentinel, .data, .pinned], laidTests := true, laidLooks := .later }
def PlayClosedUptoCardSaid : Prop := Claim7.holds Tryz.pinned (.plain (OpenSpec.upto playClosedSpec)) playClosedUptoCard

/-- THE SECOND FORM's CARD OF 'tumuluslaw19.PlayFormats'. -/
def playFormatsUptoCard : Claim7 := { stood := { row := playFormatsUptoRow, standIns := [], harness := (true, "7f43e1e61eccd1bc38052b3779fc7a874ca6a4db7314601c174cb2e673e8a78e"), looks := true }, kinds := [], alts := [], laidByText := true, laidKinds := [.data, .data, .data, .data, .sentinel, .sentinel, .data, .pinned], laidTests := true, laidLooks := .later }
def PlayFormatsUptoCardSaid : Prop := Claim7.holds Tryz.pinned (.plain (OpenSpec.upto playFormatsSpec)) playFormatsUptoCard

/-- THE SECOND FORM's CARD OF 'tumuluslaw19.PlayGreat'. -/
def playGreatUptoCard : Claim7 := { stood := { row := playGreatUptoRow, standIns := [], harness := (true, "7f43e1e61eccd1bc38052b3779fc7a874ca6a4db7314601c174cb2e673e8a78e"), looks := true }, kinds := [], alts := [], laidByText := true, laidKinds := [.data, .data, .data, .data, .sentinel, .sentinel, .data, .pinned], laidTests := true, laidLooks := .later }
def PlayGreatUptoCardSaid : Prop := Claim7.holds Tryz.pinned (.plain (OpenSpec.upto playGreatSpec)) playGreatUptoCard

/-- THE SECOND FORM's CARD OF 'tumulustop.TopRing'. -/
def topRingUptoCard : Claim7 := { stood := { row := topRingUptoRow, standIns := [], harness := (true, "7f43e1e61eccd1bc38052b3779fc7a874ca6a4db7314601c174cb2e673e8a78e"), looks := true }, kinds := [], alts := [], laidByText := true, laidKinds := [.data, .data, .data, .data, .sentinel, .sentinel, .data, .pinned], laidTests := true, laidLooks := .later }
def TopRingUptoCardSaid : Prop := Claim7.holds Tryz.pinned (.plain (OpenSpec.upto topRingSpec)) topRingUptoCard

/-- THE SECOND FORM's CARD OF 'tumulustop.TopRoom'. -/
def topRoomUptoCard : Claim7 := { stood := { row := topRoomUptoRow, standIns := [], harness := (true, "7f43e1e61eccd1bc38052b3779fc7a874ca6a4db7314601c174cb2e673e8a78e"), looks := true }, kinds := [], alts := [], laidByText := true, laidKinds := [.data, .data, .data, .data, .sentinel, .sentinel, .data, .pinned], laidTests := true, laidLooks := .later }
def TopRoomUptoCardSaid : Prop := Claim7.holds Tryz.pinned (.plain (OpenSpec.upto topRoomSpec)) topRoomUptoCard

/-- THE SECOND FORM's CARD OF 'tumulustop.TopFull'. -/
def topFullUptoCard : Claim7 := { stood := { row := topFullUptoRow, standIns := [], harness := (true, "7f43e1e61eccd1bc38052b3779fc7a874ca6a4db7314601c174cb2e673e8a78e"), looks := true }, kinds := [], alts := [], laidByText := true, laidKinds := [.data, .data, .data, .data, .sentinel, .sentinel, .data, .pinned], laidTests := true, laidLooks := .later }
def TopFullUptoCardSaid : Prop := Claim7.holds Tryz.pinned (.plain (OpenSpec.upto topFullSpec)) topFullUptoCard

/-- THE SECOND FORM's CARD OF 'tumulustop.TopShared'. -/
def topSharedUptoCard : Claim7 := { stood := { row := topSharedUptoRow, standIns := [], harness := (true, "7f43e1e61eccd1bc38052b3779fc7a874ca6a4db7314601c174cb2e673e8a78e"), looks := true }, kinds := [], alts := [], laidByText := true, laidKinds := [.data, .data, .data, .data, .sentinel, .sentinel, .data, .pinned], laidTests := true, laidLooks := .later }
def TopSharedUptoCardSaid : Prop := Claim7.holds Tryz.pinned (.plain (OpenSpec.upto topSharedSpec)) topSharedUptoCard

/-- THE SECOND FORM's CARD OF 'tumulustop.TopTree'. -/
def topTreeUptoCard : Claim7 := { stood := { row := topTreeUptoRow, standIns := [], harness := (true, "7f43e1e61eccd1bc38052b3779fc7a874ca6a4db7314601c174cb2e673e8a78e"), looks := true }, kinds := [], alts := [], laidByText := true, laidKinds := [.data, .data, .data, .data, .sentinel, .sentinel, .data, .pinned], laidTests := true, laidLooks := .later }
def TopTreeUptoCardSaid : Prop := Claim7.holds Tryz.pinned (.plain (OpenSpec.upto topTreeSpec)) topTreeUptoCard

/-- THE SECOND FORM's CARD OF 'tumulustop.TopRoots'. -/
def topRootsUptoCard : Claim7 := { stood := { row := topRootsUptoRow, standIns := [], harness := (true, "7f43e1e61eccd1bc38052b3779fc7a874ca6a4db7314601c174cb2e673e8a78e"), looks := true }, kinds := [], alts := [], laidByText := true, laidKinds := [.data, .data, .data, .data, .sentinel, .sentinel, .data, .pinned], laidTests := true, laidLooks := .later }
def TopRootsUptoCardSaid : Prop := Claim7.holds Tryz.pinned (.plain (OpenSpec.upto topRootsSpec)) topRootsUptoCard

/-- THE SECOND FORM's CARD OF 'tumulustop.TopAborts'. -/
def topAbortsUptoCard : Claim7 := { stood := { row := topAbortsUptoRow, standIns := [], harness := (true, "7f43e1e61eccd1bc38052b3779fc7a874ca6a4db7314601c174cb2e673e8a78e"), looks := true }, kinds := [], alts := [], laidByText := true, laidKinds := [.data, .data, .data, .data, .sentinel, .sentinel, .data, .pinned], laidTests := true, laidLooks := .later }
def TopAbortsUptoCardSaid : Prop := Claim7.holds Tryz.pinned (.plain (OpenSpec.upto topAbortsSpec)) topAbortsUptoCard

/-- THE SECOND FORM's CARD OF 'tumulustop.TopOpen'. -/
def topOpenUptoCard : Claim7 := { stood := { row := topOpenUptoRow, standIns := [], harness := (true, "7f43e1e61eccd1bc38052b3779fc7a874ca6a4db7314601c174cb2e673e8a78e"), looks := true }, kinds := [], alts := [], laidByText := true, laidKinds := [.data, .data, .data, .data, .sentinel, .sentinel, .data, .pinned], laidTests := true, laidLooks := .later }
def TopOpenUptoCardSaid : Prop := Claim7.holds Tryz.pinned (.plain (OpenSpec.upto topOpenSpec)) topOpenUptoCard

/-- THE SECOND FORM's CARD OF 'tumulustop.TopConfig'. -/
def topConfigUptoCard : Claim7 := { stood := { row := topConfigUptoRow, standIns := [], harness := (true, "7f43e1e61eccd1bc38052b3779fc7a874ca6a4db7314601c174cb2e673e8a78e"), looks := true }, kinds := [], alts := [], laidByText := true, laidKinds := [.data, .data, .data, .data, .sentinel, .sentinel, .data, .pinned], laidTests := true, laidLooks := .later }
def TopConfigUptoCardSaid : Prop := Claim7.holds Tryz.pinned (.plain (OpenSpec.upto topConfigSpec)) topConfigUptoCard
end Rows
end Go.Proofs.YtipdhkmphngmoaaGreatDoor
