/-
  DERIVED. GIVEN WITH THE SEED: THE CARDS: each row of YtjpcdlnhpaigkaaDoorRows.lean that lists a variable, with what it lists TIED to the program's text (the seventh form; the later family's looks); each row that meets fmt, with fmt's text TOLD by the authors' own Lean function (tested against real Go, not proved from fmt's source: count such statements apart). THE CARD IS WHAT COUNTS. Prove the row's statement (the work); the ties are given (YtjpcdlnhpaigkaaDoorTie.lean); close each card by the builder's one call (the guide's Derived/Test/ToyasCard.lean, 'card_holds'). Laid BY PROGRAM, IN A SANDBOX (cutbox-door.mjs). By AI agents, Wed Nov 11 2026. No macro, syntax, notation, axiom, sorry.
-/
import Derived.Test.YtjpcdlnhpaigkaaDoorRows
import GoSem.ClaimSeven
namespace Go.Proofs.YtjpcdlnhpaigkaaDoor
namespace Rows

/-- THE TIED CARD OF 'honeycomblaw01.AxisTurns'. -/
def axisTurnsCard : Claim7 := { stood := { row := axisTurnsRow, standIns := [], harness := (true, "0a735a93e7e3efb0aa407d0d1e5461ebfbcf6a18a7c1619a637afc9cb9236b2c"), looks := true }, kinds := [], alts := [], laidByText := true, laidKinds := [.data], laidTests := true, laidLooks := .later }
def AxisTurnsCardSaid : Prop := Claim7.holds Tryd.pinned (.plain (OpenSpec.ofChange axisTurnsSpec)) axisTurnsCard

/-- THE TIED CARD OF 'honeycomblaw01.AxisSums'. -/
def axisSumsCard : Claim7 := { stood := { row := axisSumsRow, standIns := [], harness := (true, "0a735a93e7e3efb0aa407d0d1e5461ebfbcf6a18a7c1619a637afc9cb9236b2c"), looks := true }, kinds := [], alts := [], laidByText := true, laidKinds := [.data], laidTests := true, laidLooks := .later }
def AxisSumsCardSaid : Prop := Claim7.holds Tryd.pinned (.plain (OpenSpec.ofChange axisSumsSpec)) axisSumsCard

/-- THE TIED CARD OF 'honeycomblaw01.AxisLinear'. -/
def axisLinearCard : Claim7 := { stood := { row := axisLinearRow, standIns := [], harness := (true, "0a735a93e7e3efb0aa407d0d1e5461ebfbcf6a18a7c1619a637afc9cb9236b2c"), looks := true }, kinds := [], alts := [], laidByText := true, laidKinds := [.data], laidTests := true, laidLooks := .later }
def AxisLinearCardSaid : Prop := Claim7.holds Tryd.pinned (.plain (OpenSpec.ofChange axisLinearSpec)) axisLinearCard

/-- THE TIED CARD OF 'honeycomblaw01.AxisPoints'. -/
def axisPointsCard : Claim7 := { stood := { row := axisPointsRow, standIns := [], harness := (true, "0a735a93e7e3efb0aa407d0d1e5461ebfbcf6a18a7c1619a637afc9cb9236b2c"), looks := true }, kinds := [], alts := [], laidByText := true, laidKinds := [.data], laidTests := true, laidLooks := .later }
def AxisPointsCardSaid : Prop := Claim7.holds Tryd.pinned (.plain (OpenSpec.ofChange axisPointsSpec)) axisPointsCard

/-- THE TIED CARD OF 'honeycomblaw01.AxisOrder'. -/
def axisOrderCard : Claim7 := { stood := { row := axisOrderRow, standIns := [], harness := (true, "0a735a93e7e3efb0aa407d0d1e5461ebfbcf6a18a7c1619a637afc9cb9236b2c"), looks := true }, kinds := [], alts := [], laidByText := true, laidKinds := [.data], laidTests := true, laidLooks := .later }
def AxisOrderCardSaid : Prop := Claim7.holds Tryd.pinned (.plain (OpenSpec.ofChange axisOrderSpec)) axisOrderCard

/-- THE TIED CARD OF 'honeycomblaw01.AxisGroup'. -/
def axisGroupCard : Claim7 := { stood := { row := axisGroupRow, standIns := [], harness := (true, "0a735a93e7e3efb0aa407d0d1e5461ebfbcf6a18a7c1619a637afc9cb9236b2c"), looks := true }, kinds := [], alts := [], laidByText := true, laidKinds := [.data], laidTests := true, laidLooks := .later }
def AxisGroupCardSaid : Prop := Claim7.holds Tryd.pinned (.plain (OpenSpec.ofChange axisGroupSpec)) axisGroupCard

/-- THE SECOND FORM's CARD OF 'honeycomblaw01.AxisTurns'. -/
def axisTurnsUptoCard : Claim7 := { stood := { row := axisTurnsUptoRow, standIns := [], harness := (true, "0a735a93e7e3efb0aa407d0d1e5461ebfbcf6a18a7c1619a637afc9cb9236b2c"), looks := true }, kinds := [], alts := [], laidByText := true, laidKinds := [.data], laidTests := true, laidLooks := .later }
def AxisTurnsUptoCardSaid : Prop := Claim7.holds Tryd.pinned (.plain (OpenSpec.upto axisTurnsSpec)) axisTurnsUptoCard

/-- THE SECOND FORM's CARD OF 'honeycomblaw01.AxisSums'. -/
def axisSumsUptoCard : Claim7 := { stood := { row := axisSumsUptoRow, standIns := [], harness := (true, "0a735a93e7e3efb0aa407d0d1e5461ebfbcf6a18a7c1619a637afc9cb9236b2c"), looks := true }, kinds := [], alts := [], laidByText := true, laidKinds := [.data], laidTests := true, laidLooks := .later }
def AxisSumsUptoCardSaid : Prop := Claim7.holds Tryd.pinned (.plain (OpenSpec.upto axisSumsSpec)) axisSumsUptoCard

/-- THE SECOND FORM's CARD OF 'honeycomblaw01.AxisLinear'. -/
def axisLinearUptoCard : Claim7 := { stood := { row := axisLinearUptoRow, standIns := [], harness := (true, "0a735a93e7e3efb0aa407d0d1e5461ebfbcf6a18a7c1619a637afc9cb9236b2c"), looks := true }, kinds := [], alts := [], laidByText := true, laidKinds := [.data], laidTests := true, laidLooks := .later }
def AxisLinearUptoCardSaid : Prop := Claim7.holds Tryd.pinned (.plain (OpenSpec.upto axisLinearSpec)) axisLinearUptoCard

/-- THE SECOND FORM's CARD OF 'honeycomblaw01.AxisPoints'. -/
def axisPointsUptoCard : Claim7 := { stood := { row := axisPointsUptoRow, standIns := [], harness := (true, "0a735a93e7e3efb0aa407d0d1e5461ebfbcf6a18a7c1619a637afc9cb9236b2c"), looks := true }, kinds := [], alts := [], laidByText := true, laidKinds := [.data], laidTests := true, laidLooks := .later }
def AxisPointsUptoCardSaid : Prop := Claim7.holds Tryd.pinned (.plain (OpenSpec.upto axisPointsSpec)) axisPointsUptoCard

/-- THE SECOND FORM's CARD OF 'honeycomblaw01.AxisOrder'. -/
def axisOrderUptoCard : Claim7 := { stood := { row := axisOrderUptoRow, standIns := [], harness := (true, "0a735a93e7e3efb0aa407d0d1e5461ebfbcf6a18a7c1619a637afc9cb9236b2c"), looks := true }, kinds := [], alts := [], laidByText := true, laidKinds := [.data], laidTests := true, laidLooks := .later }
def AxisOrderUptoCardSaid : Prop := Claim7.holds Tryd.pinned (.plain (OpenSpec.upto axisOrderSpec)) axisOrderUptoCard

/-- THE SECOND FORM's CARD OF 'honeycomblaw01.AxisGroup'. -/
def axisGroupUptoCard : Claim7 := { stood := { row := axisGroupUptoRow, standIns := [], harness := (true, "0a735a93e7e3efb0aa407d0d1e5461ebfbcf6a18a7c1619a637afc9cb9236b2c"), looks := true }, kinds := [], alts := [], laidByText := true, laidKinds := [.data], laidTests := true, laidLooks := .later }
def AxisGroupUptoCardSaid : Prop := Claim7.holds Tryd.pinned (.plain (OpenSpec.upto axisGroupSpec)) axisGroupUptoCard
end Rows
end Go.Proofs.YtjpcdlnhpaigkaaDoor
