/-
  DERIVED. GIVEN WITH THE SEED: THE CARDS: each row of YtodghlkodiidaaaGreatDoorRows.lean that lists a variable, with what it lists TIED to the program's text (the seventh form; the later family's looks); each row that meets fmt, with fmt's text TOLD by the authors' own Lean function (tested against real Go, not proved from fmt's source: count such statements apart). THE CARD IS WHAT COUNTS. Prove the row's statement (the work); the ties are given (YtodghlkodiidaaaGreatDoorTie.lean); close each card by the builder's one call (the guide's Derived/Test/ToyasCard.lean, 'card_holds'). Laid BY PROGRAM, IN A SANDBOX (cutbox-door.mjs). By AI agents, Wed Nov 11 2026. No macro, syntax, notation, axiom, sorry.
-/
import Derived.Test.YtodghlkodiidaaaGreatDoorRows
import GoSem.ClaimSeven
namespace Go.Proofs.YtodghlkodiidaaaGreatDoor
namespace Rows

/-- THE TIED CARD OF 'laws.FnReturns'. -/
def fnReturnsCard : Claim7 := { stood := { row := fnReturnsRow, standIns := [], harness := (true, "61215a8d8db10c29c7d9f4d9235a40c2e7e7025448b8a077e367d9fd718c127e"), looks := true }, kinds := [], alts := [], laidByText := true, laidKinds := [.data, .data, .data, .data, .sentinel, .sentinel, .pinned], laidTests := true, laidLooks := .later }
def FnReturnsCardSaid : Prop := Claim7.holds Tryz.pinned (.plain (OpenSpec.ofChange fnReturnsSpec)) fnReturnsCard

/-- THE TIED CARD OF 'laws.FnWaves'. -/
def fnWavesCard : Claim7 := { stood := { row := fnWavesRow, standIns := [], harness := (true, "61215a8d8db10c29c7d9f4d9235a40c2e7e7025448b8a077e367d9fd718c127e"), looks := true }, kinds := [], alts := [], laidByText := true, laidKinds := [.data, .data, .data, .data, .sentinel, .sentinel, .pinned], laidTests := true, laidLooks := .later }
def FnWavesCardSaid : Prop := Claim7.holds Tryz.pinned (.plain (OpenSpec.ofChange fnWavesSpec)) fnWavesCard

/-- THE SECOND FORM's CARD OF 'laws.FnReturns'. -/
def fnReturnsUptoCard : Claim7 := { stood := { row := fnReturnsUptoRow, standIns := [], harness := (true, "61215a8d8db10c29c7d9f4d9235a40c2e7e7025448b8a077e367d9fd718c127e"), looks := true }, kinds := [], alts := [], laidByText := true, laidKinds := [.data, .data, .data, .data, .sentinel, .sentinel, .pinned], laidTests := true, laidLooks := .later }
def FnReturnsUptoCardSaid : Prop := Claim7.holds Tryz.pinned (.plain (OpenSpec.upto fnReturnsSpec)) fnReturnsUptoCard

/-- THE SECOND FORM's CARD OF 'laws.FnWaves'. -/
def fnWavesUptoCard : Claim7 := { stood := { row := fnWavesUptoRow, standIns := [], harness := (true, "61215a8d8db10c29c7d9f4d9235a40c2e7e7025448b8a077e367d9fd718c127e"), looks := true }, kinds := [], alts := [], laidByText := true, laidKinds := [.data, .data, .data, .data, .sentinel, .sentinel, .pinned], laidTests := true, laidLooks := .later }
def FnWavesUptoCardSaid : Prop := Claim7.holds Tryz.pinned (.plain (OpenSpec.upto fnWavesSpec)) fnWavesUptoCard
end Rows
end Go.Proofs.YtodghlkodiidaaaGreatDoor
