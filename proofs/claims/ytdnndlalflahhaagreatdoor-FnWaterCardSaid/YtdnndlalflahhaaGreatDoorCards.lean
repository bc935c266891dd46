/-
  DERIVED. GIVEN WITH THE SEED: THE CARDS: each row of YtdnndlalflahhaaGreatDoorRows.lean that lists a variable, with what it lists TIED to the program's text (the seventh form; the later family's looks); each row that meets fmt, with fmt's text TOLD by the authors' own Lean function (tested against real Go, not proved from fmt's source: count such statements apart). THE CARD IS WHAT COUNTS. Prove the row's statement (the work); the ties are given (YtdnndlalflahhaaGreatDoorTie.lean); close each card by the builder's one call (the guide's Derived/Test/ToyasCard.lean, 'card_holds'). Laid BY PROGRAM, IN A SANDBOX (cutbox-door.mjs). By AI agents, Wed Nov 11 2026. No macro, syntax, notation, axiom, sorry.
-/
import Derived.Test.YtdnndlalflahhaaGreatDoorRows
import GoSem.ClaimSeven
namespace Go.Proofs.YtdnndlalflahhaaGreatDoor
namespace Rows

/-- THE TIED CARD OF 'laws.FnWater'. -/
def fnWaterCard : Claim7 := { stood := { row := fnWaterRow, standIns := [], harness := (true, "1bd2fc8e15a051bf761c43fac85c58bb13fa5d66524614916435297c7bcd0410"), looks := true }, kinds := [], alts := [], laidByText := true, laidKinds := [.data, .data, .data, .data, .sentinel, .sentinel, .pinned], laidTests := true, laidLooks := .later }
def FnWaterCardSaid : Prop := Claim7.holds Tryz.pinned (.plain (OpenSpec.ofChange fnWaterSpec)) fnWaterCard

/-- THE TIED CARD OF 'laws.FnPumps'. -/
def fnPumpsCard : Claim7 := { stood := { row := fnPumpsRow, standIns := [], harness := (true, "1bd2fc8e15a051bf761c43fac85c58bb13fa5d66524614916435297c7bcd0410"), looks := true }, kinds := [], alts := [], laidByText := true, laidKinds := [.data, .data, .data, .data, .sentinel, .sentinel, .pinned], laidTests := true, laidLooks := .later }
def FnPumpsCardSaid : Prop := Claim7.holds Tryz.pinned (.plain (OpenSpec.ofChange fnPumpsSpec)) fnPumpsCard

/-- THE TIED CARD OF 'laws.FnNetworks'. -/
def fnNetworksCard : Claim7 := { stood := { row := fnNetworksRow, standIns := [], harness := (true, "1bd2fc8e15a051bf761c43fac85c58bb13fa5d66524614916435297c7bcd0410"), looks := true }, kinds := [], alts := [], laidByText := true, laidKinds := [.data, .data, .data, .data, .sentinel, .sentinel, .pinned], laidTests := true, laidLooks := .later }
def FnNetworksCardSaid : Prop := Claim7.holds Tryz.pinned (.plain (OpenSpec.ofChange fnNetworksSpec)) fnNetworksCard

/-- THE SECOND FORM's CARD OF 'laws.FnWater'. -/
def fnWaterUptoCard : Claim7 := { stood := { row := fnWaterUptoRow, standIns := [], harness := (true, "1bd2fc8e15a051bf761c43fac85c58bb13fa5d66524614916435297c7bcd0410"), looks := true }, kinds := [], alts := [], laidByText := true, laidKinds := [.data, .data, .data, .data, .sentinel, .sentinel, .pinned], laidTests := true, laidLooks := .later }
def FnWaterUptoCardSaid : Prop := Claim7.holds Tryz.pinned (.plain (OpenSpec.upto fnWaterSpec)) fnWaterUptoCard

/-- THE SECOND FORM's CARD OF 'laws.FnPumps'. -/
def fnPumpsUptoCard : Claim7 := { stood := { row := fnPumpsUptoRow, standIns := [], harness := (true, "1bd2fc8e15a051bf761c43fac85c58bb13fa5d66524614916435297c7bcd0410"), looks := true }, kinds := [], alts := [], laidByText := true, laidKinds := [.data, .data, .data, .data, .sentinel, .sentinel, .pinned], laidTests := true, laidLooks := .later }
def FnPumpsUptoCardSaid : Prop := Claim7.holds Tryz.pinned (.plain (OpenSpec.upto fnPumpsSpec)) fnPumpsUptoCard

/-- THE SECOND FORM's CARD OF 'laws.FnNetworks'. -/
def fnNetworksUptoCard : Claim7 := { stood := { row := fnNetworksUptoRow, standIns := [], harness := (true, "1bd2fc8e15a051bf761c43fac85c58bb13fa5d66524614916435297c7bcd0410"), looks := true }, kinds := [], alts := [], laidByText := true, laidKinds := [.data, .data, .data, .data, .sentinel, .sentinel, .pinned], laidTests := true, laidLooks := .later }
def FnNetworksUptoCardSaid : Prop := Claim7.holds Tryz.pinned (.plain (OpenSpec.upto fnNetworksSpec)) fnNetworksUptoCard
end Rows
end Go.Proofs.YtdnndlalflahhaaGreatDoor
