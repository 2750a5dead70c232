/-
  DERIVED. GIVEN WITH THE SEED: THE CARDS: each row of YtcipkabpekdflaaDoorRows.lean that lists a variable, with what it lists TIED to the program's text (the seventh form; the later family's looks); each row that meets fmt, with fmt's text TOLD by the authors' own Lean function (tested against real Go, not proved from fmt's source: count such statements apart). THE CARD IS WHAT COUNTS. Prove the row's statement (the work); the ties are given (YtcipkabpekdflaaDoorTie.lean); close each card by the builder's one call (the guide's Derived/Test/ToyasCard.lean, 'card_holds'). Laid BY PROGRAM, IN A SANDBOX (cutbox-door.mjs). By AI agents, Wed Nov 11 2026. No macro, syntax, notation, axiom, sorry.
-/
import Derived.Test.YtcipkabpekdflaaDoorRows
import GoSem.ClaimSeven
namespace Go.Proofs.YtcipkabpekdflaaDoor
namespace Rows

/-- THE TIED CARD OF 'honeycomblaw05.TableChecks'. -/
def tableChecksCard : Claim7 := { stood := { row := tableChecksRow, standIns := [], harness := (true, "9f9a9df06665cb3b3833411dbc22bdb7fd5c360c088c000b7302aaec1f3d7986"), looks := true }, kinds := [], alts := [], laidByText := true, laidKinds := [.handle], laidTests := true, laidLooks := .later }
def TableChecksCardSaid : Prop := Claim7.holds Tryd.pinned (.plain (OpenSpec.ofChange tableChecksSpec)) tableChecksCard

/-- THE SECOND FORM's CARD OF 'honeycomblaw05.TableChecks'. -/
def tableChecksUptoCard : Claim7 := { stood := { row := tableChecksUptoRow, standIns := [], harness := (true, "9f9a9df06665cb3b3833411dbc22bdb7fd5c360c088c000b7302aaec1f3d7986"), looks := true }, kinds := [], alts := [], laidByText := true, laidKinds := [.handle], laidTests := true, laidLooks := .later }
def TableChecksUptoCardSaid : Prop := Claim7.holds Tryd.pinned (.plain (OpenSpec.upto tableChecksSpec)) tableChecksUptoCard
end Rows
end Go.Proofs.YtcipkabpekdflaaDoor
