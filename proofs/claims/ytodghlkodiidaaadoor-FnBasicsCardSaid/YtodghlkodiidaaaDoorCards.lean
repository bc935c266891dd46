/-
  DERIVED. GIVEN WITH THE SEED: THE CARDS: each row of YtodghlkodiidaaaDoorRows.lean that lists a variable, with what it lists TIED to the program's text (the seventh form; the later family's looks); each row that meets fmt, with fmt's text TOLD by the authors' own Lean function (tested against real Go, not proved from fmt's source: count such statements apart). THE CARD IS WHAT COUNTS. Prove the row's statement (the work); the ties are given (YtodghlkodiidaaaDoorTie.lean); close each card by the builder's one call (the guide's Derived/Test/ToyasCard.lean, 'card_holds'). Laid BY PROGRAM, IN A SANDBOX (cutbox-door.mjs). By AI agents, Wed Nov 11 2026. No macro, syntax, notation, axiom, sorry.
-/
import Derived.Test.YtodghlkodiidaaaDoorRows
import GoSem.ClaimSeven
namespace Go.Proofs.YtodghlkodiidaaaDoor
namespace Rows

/-- THE TIED CARD OF 'laws.FnExactTankText'. -/
def fnExactTankTextCard : Claim7 := { stood := { row := fnExactTankTextRow, standIns := [], harness := (true, "9f286dbaafee48551dee1c5e264ada1008981274726f7c580ed0038c0896a0ed"), looks := true }, kinds := [], alts := [], laidByText := true, laidKinds := [.data, .data, .data], laidTests := true, laidLooks := .later }
def FnExactTankTextCardSaid : Prop := Claim7.holds Tryd.pinned (.plain (OpenSpec.ofChange fnExactTankTextSpec)) fnExactTankTextCard

/-- THE TIED CARD OF 'laws.FnExactWaveText'. -/
def fnExactWaveTextCard : Claim7 := { stood := { row := fnExactWaveTextRow, standIns := [], harness := (true, "9f286dbaafee48551dee1c5e264ada1008981274726f7c580ed0038c0896a0ed"), looks := true }, kinds := [], alts := [], laidByText := true, laidKinds := [.data, .data, .data], laidTests := true, laidLooks := .later }
def FnExactWaveTextCardSaid : Prop := Claim7.holds Tryd.pinned (.plain (OpenSpec.ofChange fnExactWaveTextSpec)) fnExactWaveTextCard

/-- THE TIED CARD OF 'laws.FnExactSubstationText'. -/
def fnExactSubstationTextCard : Claim7 := { stood := { row := fnExactSubstationTextRow, standIns := [], harness := (true, "9f286dbaafee48551dee1c5e264ada1008981274726f7c580ed0038c0896a0ed"), looks := true }, kinds := [], alts := [], laidByText := true, laidKinds := [.data, .data, .data], laidTests := true, laidLooks := .later }
def FnExactSubstationTextCardSaid : Prop := Claim7.holds Tryd.pinned (.plain (OpenSpec.ofChange fnExactSubstationTextSpec)) fnExactSubstationTextCard

/-- THE TIED CARD OF 'laws.FnExactPumpText'. -/
def fnExactPumpTextCard : Claim7 := { stood := { row := fnExactPumpTextRow, standIns := [], harness := (true, "9f286dbaafee48551dee1c5e264ada1008981274726f7c580ed0038c0896a0ed"), looks := true }, kinds := [], alts := [], laidByText := true, laidKinds := [.data, .data, .data], laidTests := true, laidLooks := .later }
def FnExactPumpTextCardSaid : Prop := Claim7.holds Tryd.pinned (.plain (OpenSpec.ofChange fnExactPumpTextSpec)) fnExactPumpTextCard

/-- THE TIED CARD OF 'laws.FnExactReadTank'. -/
def fnExactReadTankCard : Claim7 := { stood := { row := fnExactReadTankRow, standIns := [], harness := (true, "9f286dbaafee48551dee1c5e264ada1008981274726f7c580ed0038c0896a0ed"), looks := true }, kinds := [], alts := [], laidByText := true, laidKinds := [.data, .data, .data, .data, .sentinel, .sentinel, .pinned], laidTests := true, laidLooks := .later }
def FnExactReadTankCardSaid : Prop := Claim7.holds Tryd.pinned (.plain (OpenSpec.ofChange fnExactReadTankSpec)) fnExactReadTankCard

/-- THE TIED CARD OF 'laws.FnExactReadWave'. -/
def fnExactReadWaveCard : Claim7 := { stood := { row := fnExactReadWaveRow, standIns := [], harness := (true, "9f286dbaafee48551dee1c5e264ada1008981274726f7c580ed0038c0896a0ed"), looks := true }, kinds := [], alts := [], laidByText := true, laidKinds := [.data, .data, .data, .data, .sentinel, .sentinel, .pinned], laidTests := true, laidLooks := .later }
def FnExactReadWaveCardSaid : Prop := Claim7.holds Tryd.pinned (.plain (OpenSpec.ofChange fnExactReadWaveSpec)) fnExactReadWaveCard

/-- THE TIED CARD OF 'laws.FnExactReadSubstation'. -/
def fnExactReadSubstationCard : Claim7 := { stood := { row := fnExactReadSubstationRow, standIns := [], harness := (true, "9f286dbaafee48551dee1c5e264ada1008981274726f7c580ed0038c0896a0ed"), looks := true }, kinds := [], alts := [], laidByText := true, laidKinds := [.data, .data, .data, .data, .sentinel, .sentinel, .pinned], laidTests := true, laidLooks := .later }
def FnExactReadSubstationCardSaid : Prop := Claim7.holds Tryd.pinned (.plain (OpenSpec.ofChange fnExactReadSubstationSpec)) fnExactReadSubstationCard

/-- THE TIED CARD OF 'laws.FnBasics'. -/
def fnBasicsCard : Claim7 := { stood := { row := fnBasicsRow, standIns := [], harness := (true, "9f286dbaafee48551dee1c5e264ada1008981274726f7c580ed0038c0896a0ed"), looks := true }, kinds := [], alts := [], laidByText := true, laidKinds := [.data, .data, .data, .data, .sentinel, .sentinel, .pinned], laidTests := true, laidLooks := .later }
def FnBasicsCardSaid : Prop := Claim7.holds Tryd.pinned (.plain (OpenSpec.ofChange fnBasicsSpec)) fnBasicsCard

/-- THE SECOND FORM's CARD OF 'laws.FnExactTankText'. -/
def fnExactTankTextUptoCard : Claim7 := { stood := { row := fnExactTankTextUptoRow, standIns := [], harness := (true, "9f286dbaafee48551dee1c5e264ada1008981274726f7c580ed0038c0896a0ed"), looks := true }, kinds := [], alts := [], laidByText := true, laidKinds := [.data, .data, .data], laidTests := true, laidLooks := .later }
def FnExactTankTextUptoCardSaid : Prop := Claim7.holds Tryd.pinned (.plain (OpenSpec.upto fnExactTankTextSpec)) fnExactTankTextUptoCard

/-- THE SECOND FORM's CARD OF 'laws.FnExactWaveText'. -/
def fnExactWaveTextUptoCard : Claim7 := { stood := { row := fnExactWaveTextUptoRow, standIns := [], harness := (true, "9f286dbaafee48551dee1c5e264ada1008981274726f7c580ed0038c0896a0ed"), looks := true }, kinds := [], alts := [], laidByText := true, laidKinds := [.data, .data, .data], laidTests := true, laidLooks := .later }
def FnExactWaveTextUptoCardSaid : Prop := Claim7.holds Tryd.pinned (.plain (OpenSpec.upto fnExactWaveTextSpec)) fnExactWaveTextUptoCard

/-- THE SECOND FORM's CARD OF 'laws.FnExactSubstationText'. -/
def fnExactSubstationTextUptoCard : Claim7 := { stood := { row := fnExactSubstationTextUptoRow, standIns := [], harness := (true, "9f286dbaafee48551dee1c5e264ada1008981274726f7c580ed0038c0896a0ed"), looks := true }, kinds := [], alts := [], laidByText := true, laidKinds := [.data, .data, .data], laidTests := true, laidLooks := .later }
def FnExactSubstationTextUptoCardSaid : Prop := Claim7.holds Tryd.pinned (.plain (OpenSpec.upto fnExactSubstationTextSpec)) fnExactSubstationTextUptoCard

/-- THE SECOND FORM's CARD OF 'laws.FnExactPumpText'. -/
def fnExactPumpTextUptoCard : Claim7 := { stood := { row := fnExactPumpTextUptoRow, standIns := [], harness := (true, "9f286dbaafee48551dee1c5e264ada1008981274726f7c580ed0038c0896a0ed"), looks := true }, kinds := [], alts := [], laidByText := true, laidKinds := [.data, .data, .data], laidTests := true, laidLooks := .later }
def FnExactPumpTextUptoCardSaid : Prop := Claim7.holds Tryd.pinned (.plain (OpenSpec.upto fnExactPumpTextSpec)) fnExactPumpTextUptoCard

/-- THE SECOND FORM's CARD OF 'laws.FnExactReadTank'. -/
def fnExactReadTankUptoCard : Claim7 := { stood := { row := fnExactReadTankUptoRow, standIns := [], harness := (true, "9f286dbaafee48551dee1c5e264ada1008981274726f7c580ed0038c0896a0ed"), looks := true }, kinds := [], alts := [], laidByText := true, laidKinds := [.data, .data, .data, .data, .sentinel, .sentinel, .pinned], laidTests := true, laidLooks := .later }
def FnExactReadTankUptoCardSaid : Prop := Claim7.holds Tryd.pinned (.plain (OpenSpec.upto fnExactReadTankSpec)) fnExactReadTankUptoCard

/-- THE SECOND FORM's CARD OF 'laws.FnExactReadWave'. -/
def fnExactReadWaveUptoCard : Claim7 := { stood := { row := fnExactReadWaveUptoRow, standIns := [], harness := (true, "9f286dbaafee48551dee1c5e264ada1008981274726f7c580ed0038c0896a0ed"), looks := true }, kinds := [], alts := [], laidByText := true, laidKinds := [.data, .data, .data, .data, .sentinel, .sentinel, .pinned], laidTests := true, laidLooks := .later }
def FnExactReadWaveUptoCardSaid : Prop := Claim7.holds Tryd.pinned (.plain (OpenSpec.upto fnExactReadWaveSpec)) fnExactReadWaveUptoCard

/-- THE SECOND FORM's CARD OF 'laws.FnExactReadSubstation'. -/
def fnExactReadSubstationUptoCard : Claim7 := { stood := { row := fnExactReadSubstationUptoRow, standIns := [], harness := (true, "9f286dbaafee48551dee1c5e264ada1008981274726f7c580ed0038c0896a0ed"), looks := true }, kinds := [], alts := [], laidByText := true, laidKinds := [.data, .data, .data, .data, .sentinel, .sentinel, .pinned], laidTests := true, laidLooks := .later }
def FnExactReadSubstationUptoCardSaid : Prop := Claim7.holds Tryd.pinned (.plain (OpenSpec.upto fnExactReadSubstationSpec)) fnExactReadSubstationUptoCard

/-- THE SECOND FORM's CARD OF 'laws.FnBasics'. -/
def fnBasicsUptoCard : Claim7 := { stood := { row := fnBasicsUptoRow, standIns := [], harness := (true, "9f286dbaafee48551dee1c5e264ada1008981274726f7c580ed0038c0896a0ed"), looks := true }, kinds := [], alts := [], laidByText := true, laidKinds := [.data, .data, .data, .data, .sentinel, .sentinel, .pinned], laidTests := true, laidLooks := .later }
def FnBasicsUptoCardSaid : Prop := Claim7.holds Tryd.pinned (.plain (OpenSpec.upto fnBasicsSpec)) fnBasicsUptoCard
end Rows
end Go.Proofs.YtodghlkodiidaaaDoor
