/-
  DERIVED. GIVEN WITH THE SEED: THE CARDS: each row of YtgflkkjhckcipaaDoorRows.lean that lists a variable, with what it lists TIED to the program's text (the seventh form; the later family's looks); each row that meets fmt, with fmt's text TOLD by the authors' own Lean function (tested against real Go, not proved from fmt's source: count such statements apart). THE CARD IS WHAT COUNTS. Prove the row's statement (the work); the ties are given (YtgflkkjhckcipaaDoorTie.lean); close each card by the builder's one call (the guide's Derived/Test/ToyasCard.lean, 'card_holds'). Laid BY PROGRAM, IN A SANDBOX (cutbox-door.mjs). By AI agents, Wed Nov 11 2026. No macro, syntax, notation, axiom, sorry.
-/
import Derived.Test.YtgflkkjhckcipaaDoorRows
import GoSem.ClaimSeven
namespace Go.Proofs.YtgflkkjhckcipaaDoor
namespace Rows

/-- THE TIED CARD OF 'valiselaw09.InflateUsed'. -/
def inflateUsedCard : Claim7 := { stood := { row := inflateUsedRow, standIns := [], harness := (true, "05041c8e7b13d3369527e75d1957b91ed2c46f1e43a11972c51816a5667158ae"), looks := true }, kinds := [], alts := [], laidByText := true, laidKinds := [.handle], laidTests := true, laidLooks := .later }
def InflateUsedCardSaid : Prop := Claim7.holds Tryd.pinned (.plain (OpenSpec.ofChange inflateUsedSpec)) inflateUsedCard

/-- THE TIED CARD OF 'valiselaw09.InflateMost'. -/
def inflateMostCard : Claim7 := { stood := { row := inflateMostRow, standIns := [], harness := (true, "05041c8e7b13d3369527e75d1957b91ed2c46f1e43a11972c51816a5667158ae"), looks := true }, kinds := [], alts := [], laidByText := true, laidKinds := [.handle], laidTests := true, laidLooks := .later }
def InflateMostCardSaid : Prop := Claim7.holds Tryd.pinned (.plain (OpenSpec.ofChange inflateMostSpec)) inflateMostCard

/-- THE TIED CARD OF 'valiselaw09.InflateStored'. -/
def inflateStoredCard : Claim7 := { stood := { row := inflateStoredRow, standIns := [], harness := (true, "05041c8e7b13d3369527e75d1957b91ed2c46f1e43a11972c51816a5667158ae"), looks := true }, kinds := [], alts := [], laidByText := true, laidKinds := [.handle], laidTests := true, laidLooks := .later }
def InflateStoredCardSaid : Prop := Claim7.holds Tryd.pinned (.plain (OpenSpec.ofChange inflateStoredSpec)) inflateStoredCard

/-- THE TIED CARD OF 'valiselaw09.InflateCodes'. -/
def inflateCodesCard : Claim7 := { stood := { row := inflateCodesRow, standIns := [], harness := (true, "05041c8e7b13d3369527e75d1957b91ed2c46f1e43a11972c51816a5667158ae"), looks := true }, kinds := [], alts := [], laidByText := true, laidKinds := [.handle], laidTests := true, laidLooks := .later }
def InflateCodesCardSaid : Prop := Claim7.holds Tryd.pinned (.plain (OpenSpec.ofChange inflateCodesSpec)) inflateCodesCard

/-- THE SECOND FORM's CARD OF 'valiselaw09.InflateUsed'. -/
def inflateUsedUptoCard : Claim7 := { stood := { row := inflateUsedUptoRow, standIns := [], harness := (true, "05041c8e7b13d3369527e75d1957b91ed2c46f1e43a11972c51816a5667158ae"), looks := true }, kinds := [], alts := [], laidByText := true, laidKinds := [.handle], laidTests := true, laidLooks := .later }
def InflateUsedUptoCardSaid : Prop := Claim7.holds Tryd.pinned (.plain (OpenSpec.upto inflateUsedSpec)) inflateUsedUptoCard

/-- THE SECOND FORM's CARD OF 'valiselaw09.InflateMost'. -/
def inflateMostUptoCard : Claim7 := { stood := { row := inflateMostUptoRow, standIns := [], harness := (true, "05041c8e7b13d3369527e75d1957b91ed2c46f1e43a11972c51816a5667158ae"), looks := true }, kinds := [], alts := [], laidByText := true, laidKinds := [.handle], laidTests := true, laidLooks := .later }
def InflateMostUptoCardSaid : Prop := Claim7.holds Tryd.pinned (.plain (OpenSpec.upto inflateMostSpec)) inflateMostUptoCard

/-- THE SECOND FORM's CARD OF 'valiselaw09.InflateStored'. -/
def inflateStoredUptoCard : Claim7 := { stood := { row := inflateStoredUptoRow, standIns := [], harness := (true, "05041c8e7b13d3369527e75d1957b91ed2c46f1e43a11972c51816a5667158ae"), looks := true }, kinds := [], alts := [], laidByText := true, laidKinds := [.handle], laidTests := true, laidLooks := .later }
def InflateStoredUptoCardSaid : Prop := Claim7.holds Tryd.pinned (.plain (OpenSpec.upto inflateStoredSpec)) inflateStoredUptoCard

/-- THE SECOND FORM's CARD OF 'valiselaw09.InflateCodes'. -/
def inflateCodesUptoCard : Claim7 := { stood := { row := inflateCodesUptoRow, standIns := [], harness := (true, "05041c8e7b13d3369527e75d1957b91ed2c46f1e43a11972c51816a5667158ae"), looks := true }, kinds := [], alts := [], laidByText := true, laidKinds := [.handle], laidTests := true, laidLooks := .later }
def InflateCodesUptoCardSaid : Prop := Claim7.holds Tryd.pinned (.plain (OpenSpec.upto inflateCodesSpec)) inflateCodesUptoCard
end Rows
end Go.Proofs.YtgflkkjhckcipaaDoor
