/-
  DERIVED. GIVEN WITH THE SEED: THE CARDS: each row of YtbeijhjafmalgaaDoorRows.lean that lists a variable, with what it lists TIED to the program's text (the seventh form; the later family's looks); each row that meets fmt, with fmt's text TOLD by the authors' own Lean function (tested against real Go, not proved from fmt's source: count such statements apart). THE CARD IS WHAT COUNTS. Prove the row's statement (the work); the ties are given (YtbeijhjafmalgaaDoorTie.lean); close each card by the builder's one call (the guide's Derived/Test/ToyasCard.lean, 'card_holds'). Laid BY PROGRAM, IN A SANDBOX (cutbox-door.mjs). By AI agents, Wed Nov 11 2026. No macro, syntax, notation, axiom, sorry.
-/
import Derived.Test.YtbeijhjafmalgaaDoorRows
import GoSem.ClaimSeven
namespace Go.Proofs.YtbeijhjafmalgaaDoor
namespace Rows

/-- THE TIED CARD OF 'honeycomblaw12.ArenaNone'. -/
def arenaNoneCard : Claim7 := { stood := { row := arenaNoneRow, standIns := [], harness := (true, "ab6ba594b7c43eb33187f72e3cda0b08649ee676d3095985b84db03a5c86ec3b"), looks := true }, kinds := [], alts := [], laidByText := true, laidKinds := [.handle], laidTests := true, laidLooks := .later }
def ArenaNoneCardSaid : Prop := Claim7.holds Tryd.pinned (.plain (OpenSpec.ofChange arenaNoneSpec)) arenaNoneCard

/-- THE TIED CARD OF 'honeycomblaw12.ArenaEmpties'. -/
def arenaEmptiesCard : Claim7 := { stood := { row := arenaEmptiesRow, standIns := [], harness := (true, "ab6ba594b7c43eb33187f72e3cda0b08649ee676d3095985b84db03a5c86ec3b"), looks := true }, kinds := [], alts := [], laidByText := true, laidKinds := [.handle], laidTests := true, laidLooks := .later }
def ArenaEmptiesCardSaid : Prop := Claim7.holds Tryd.pinned (.plain (OpenSpec.ofChange arenaEmptiesSpec)) arenaEmptiesCard

/-- THE TIED CARD OF 'honeycomblaw12.ArenaPlays'. -/
def arenaPlaysCard : Claim7 := { stood := { row := arenaPlaysRow, standIns := [], harness := (true, "ab6ba594b7c43eb33187f72e3cda0b08649ee676d3095985b84db03a5c86ec3b"), looks := true }, kinds := [], alts := [], laidByText := true, laidKinds := [.handle], laidTests := true, laidLooks := .later }
def ArenaPlaysCardSaid : Prop := Claim7.holds Tryd.pinned (.plain (OpenSpec.ofChange arenaPlaysSpec)) arenaPlaysCard

/-- THE SECOND FORM's CARD OF 'honeycomblaw12.ArenaNone'. -/
def arenaNoneUptoCard : Claim7 := { stood := { row := arenaNoneUptoRow, standIns := [], harness := (true, "ab6ba594b7c43eb33187f72e3cda0b08649ee676d3095985b84db03a5c86ec3b"), looks := true }, kinds := [], alts := [], laidByText := true, laidKinds := [.handle], laidTests := true, laidLooks := .later }
def ArenaNoneUptoCardSaid : Prop := Claim7.holds Tryd.pinned (.plain (OpenSpec.upto arenaNoneSpec)) arenaNoneUptoCard

/-- THE SECOND FORM's CARD OF 'honeycomblaw12.ArenaEmpties'. -/
def arenaEmptiesUptoCard : Claim7 := { stood := { row := arenaEmptiesUptoRow, standIns := [], harness := (true, "ab6ba594b7c43eb33187f72e3cda0b08649ee676d3095985b84db03a5c86ec3b"), looks := true }, kinds := [], alts := [], laidByText := true, laidKinds := [.handle], laidTests := true, laidLooks := .later }
def ArenaEmptiesUptoCardSaid : Prop := Claim7.holds Tryd.pinned (.plain (OpenSpec.upto arenaEmptiesSpec)) arenaEmptiesUptoCard

/-- THE SECOND FORM's CARD OF 'honeycomblaw12.ArenaPlays'. -/
def arenaPlaysUptoCard : Claim7 := { stood := { row := arenaPlaysUptoRow, standIns := [], harness := (true, "ab6ba594b7c43eb33187f72e3cda0b08649ee676d3095985b84db03a5c86ec3b"), looks := true }, kinds := [], alts := [], laidByText := true, laidKinds := [.handle], laidTests := true, laidLooks := .later }
def ArenaPlaysUptoCardSaid : Prop := Claim7.holds Tryd.pinned (.plain (OpenSpec.upto arenaPlaysSpec)) arenaPlaysUptoCard
end Rows
end Go.Proofs.YtbeijhjafmalgaaDoor
