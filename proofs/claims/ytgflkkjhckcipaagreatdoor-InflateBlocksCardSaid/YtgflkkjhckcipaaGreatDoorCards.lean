/-
  DERIVED. GIVEN WITH THE SEED: THE CARDS: each row of YtgflkkjhckcipaaGreatDoorRows.lean that lists a variable, with what it lists TIED to the program's text (the seventh form; the later family's looks); each row that meets fmt, with fmt's text TOLD by the authors' own Lean function (tested against real Go, not proved from fmt's source: count such statements apart). THE CARD IS WHAT COUNTS. Prove the row's statement (the work); the ties are given (YtgflkkjhckcipaaGreatDoorTie.lean); close each card by the builder's one call (the guide's Derived/Test/ToyasCard.lean, 'card_holds'). Laid BY PROGRAM, IN A SANDBOX (cutbox-door.mjs). By AI agents, Wed Nov 11 2026. No macro, syntax, notation, axiom, sorry.
-/
import Derived.Test.YtgflkkjhckcipaaGreatDoorRows
import GoSem.ClaimSeven
namespace Go.Proofs.YtgflkkjhckcipaaGreatDoor
namespace Rows

/-- THE TIED CARD OF 'valiselaw09.InflateDecodes'. -/
def inflateDecodesCard : Claim7 := { stood := { row := inflateDecodesRow, standIns := [], harness := (true, "a8acf308f934f97361d4c9c24d137a40e77f0dcfcaabbf9b004469834380946a"), looks := true }, kinds := [], alts := [], laidByText := true, laidKinds := [.handle], laidTests := true, laidLooks := .later }
def InflateDecodesCardSaid : Prop := Claim7.holds Tryz.pinned (.plain (OpenSpec.ofChange inflateDecodesSpec)) inflateDecodesCard

/-- THE TIED CARD OF 'valiselaw09.InflateBlocks'. -/
def inflateBlocksCard : Claim7 := { stood := { row := inflateBlocksRow, standIns := [], harness := (true, "a8acf308f934f97361d4c9c24d137a40e77f0dcfcaabbf9b004469834380946a"), looks := true }, kinds := [], alts := [], laidByText := true, laidKinds := [.handle], laidTests := true, laidLooks := .later }
def InflateBlocksCardSaid : Prop := Claim7.holds Tryz.pinned (.plain (OpenSpec.ofChange inflateBlocksSpec)) inflateBlocksCard

/-- THE SECOND FORM's CARD OF 'valiselaw09.InflateDecodes'. -/
def inflateDecodesUptoCard : Claim7 := { stood := { row := inflateDecodesUptoRow, standIns := [], harness := (true, "a8acf308f934f97361d4c9c24d137a40e77f0dcfcaabbf9b004469834380946a"), looks := true }, kinds := [], alts := [], laidByText := true, laidKinds := [.handle], laidTests := true, laidLooks := .later }
def InflateDecodesUptoCardSaid : Prop := Claim7.holds Tryz.pinned (.plain (OpenSpec.upto inflateDecodesSpec)) inflateDecodesUptoCard

/-- THE SECOND FORM's CARD OF 'valiselaw09.InflateBlocks'. -/
def inflateBlocksUptoCard : Claim7 := { stood := { row := inflateBlocksUptoRow, standIns := [], harness := (true, "a8acf308f934f97361d4c9c24d137a40e77f0dcfcaabbf9b004469834380946a"), looks := true }, kinds := [], alts := [], laidByText := true, laidKinds := [.handle], laidTests := true, laidLooks := .later }
def InflateBlocksUptoCardSaid : Prop := Claim7.holds Tryz.pinned (.plain (OpenSpec.upto inflateBlocksSpec)) inflateBlocksUptoCard
end Rows
end Go.Proofs.YtgflkkjhckcipaaGreatDoor
