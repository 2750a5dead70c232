/-
  No cell of these rows narrows 'for every input' (looked for: loops, veiled, ifaces, maps, wideKeys, modest, calm, conditions, laid).
  DERIVED. THE GIVEN ROWS OF THIS SEAT. 3 by the template 'for every input the law returns true; each argument reads behind the call as it read before'; 0 by the template 'total and deterministic' (their statements: YtcipkabpekdflaaTotals.lean).
  GIVEN WITH THE SEED: the statements are not yours to turn. If you find one false, say at which input.
  Laid BY PROGRAM, IN A SANDBOX (cutbox-rows.mjs): the forced cells as the released guide's own fill.sh prints them over the translation d71e16999ab753c4… (all of the seat's roots in one cut). By AI agents, Wed Nov 11 2026. No macro, syntax, notation, axiom, sorry.
-/
import Derived.Test.YtcipkabpekdflaaChecked
import GoSem.Claim
import GoSem.ClaimJoined
import GoSem.ClaimMapViews
import Derived.JoinedTies
import Derived.KernelRfl
namespace Go.Proofs.Ytcipkabpekdflaa
/- THE CELL 'sum', in the pinned program and in every row, IS THE sha256 OF THE DUMP (.gsa) THAT YtcipkabpekdflaaProg.lean LOADS. Nothing in Lean hashes anything: it is a label: what it is worth is what the hold of that sum in a sandbox is worth. -/
noncomputable def Try.pinned : Pinned := { name := "ytcipkabpekdflaa", sum := "d71e16999ab753c404e8f817fc3cc20b1482fa3be30d10e69a97d27f1a3e7768", checked := Try.checked }
namespace Rows
def none {H : Type} : Left H := { results := [], args := [] }

/-- 'honeycomblaw05.TableRings': WHATEVER THE INPUT: true; the input reads as it did. -/
def tableRingsSpec : ChangeSpec := { name := "tableRings", fn := fun _ => fun
  | [d] => { results := [.lit (.bool true)], args := [d] }
  | _ => none }
def tableRingsRow : OpenClaim := { program := "ytcipkabpekdflaa", sum := "d71e16999ab753c404e8f817fc3cc20b1482fa3be30d10e69a97d27f1a3e7768", func := "honeycomb/honeycomblaw05.TableRings", spec := "tableRings", apart := false }
def TableRingsSaid : Prop := tableRingsRow.holds Try.pinned (OpenSpec.ofChange tableRingsSpec)

/-- ITS FALSE NEIGHBOUR: 'it returns false'. Refute it at one input. -/
def tableRingsWrong : ChangeSpec := { name := "tableRings", fn := fun _ => fun
  | [d] => { results := [.lit (.bool false)], args := [d] }
  | _ => none }
def TableRingsWrongFalsely : Prop := tableRingsRow.holds Try.pinned (OpenSpec.ofChange tableRingsWrong)

/-- 'honeycomblaw05.TableClasses': WHATEVER THE INPUT: true; the input reads as it did. -/
def tableClassesSpec : ChangeSpec := { name := "tableClasses", fn := fun _ => fun
  | [d1, d2, d3] => { results := [.lit (.bool true)], args := [d1, d2, d3] }
  | _ => none }
def tableClassesRow : OpenClaim := { program := "ytcipkabpekdflaa", sum := "d71e16999ab753c404e8f817fc3cc20b1482fa3be30d10e69a97d27f1a3e7768", func := "honeycomb/honeycomblaw05.TableClasses", spec := "tableClasses", apart := false }
def TableClassesSaid : Prop := tableClassesRow.holds Try.pinned (OpenSpec.ofChange tableClassesSpec)

/-- ITS FALSE NEIGHBOUR: 'it returns false'. Refute it at one input. -/
def tableClassesWrong : ChangeSpec := { name := "tableClasses", fn := fun _ => fun
  | [d1, d2, d3] => { results := [.lit (.bool false)], args := [d1, d2, d3] }
  | _ => none }
def TableClassesWrongFalsely : Prop := tableClassesRow.holds Try.pinned (OpenSpec.ofChange tableClassesWrong)

/-- 'honeycomblaw05.TableParts': WHATEVER THE INPUT: true; the input reads as it did. -/
def tablePartsSpec : ChangeSpec := { name := "tableParts", fn := fun _ => fun
  | [d1, d2, d3, d4, d5] => { results := [.lit (.bool true)], args := [d1, d2, d3, d4, d5] }
  | _ => none }
def tablePartsRow : OpenClaim := { program := "ytcipkabpekdflaa", sum := "d71e16999ab753c404e8f817fc3cc20b1482fa3be30d10e69a97d27f1a3e7768", func := "honeycomb/honeycomblaw05.TableParts", spec := "tableParts", apart := false }
def TablePartsSaid : Prop := tablePartsRow.holds Try.pinned (OpenSpec.ofChange tablePartsSpec)

/-- ITS FALSE NEIGHBOUR: 'it returns false'. Refute it at one input. -/
def tablePartsWrong : ChangeSpec := { name := "tableParts", fn := fun _ => fun
  | [d1, d2, d3, d4, d5] => { results := [.lit (.bool false)], args := [d1, d2, d3, d4, d5] }
  | _ => none }
def TablePartsWrongFalsely : Prop := tablePartsRow.holds Try.pinned (OpenSpec.ofChange tablePartsWrong)

/- THE SECOND FORM. 'bulk': how many values and letters a reading holds, each counted each time it is reached (what is shared counts as often as it is met; a slice's spare places count too). A statement '..UptoSaid' is the law's where the arguments, and the package variables that the reading takes, are together of bulk at most 1048576: NARROWER than '..Said'. Prove '..Said' where nothing that the law and all that it calls make is longer than what came in: it says more and counts as full. Else prove '..UptoSaid'. A law counts once. -/
mutual
def uptoBulk {H : Type} : DataW H → Nat
  | .lit (.string bytes) => bytes.length + 1
  | .lit _ => 1
  | .nil => 1
  | .ptr d => uptoBulk d + 1
  | .slice elems spare => uptoBulkAll elems + uptoBulkAll spare + 1
  | .agg parts => uptoBulkAll parts + 1
  | .iface _ d => uptoBulk d + 1
  | .map entries => uptoBulkEntries entries + 1
  | .held _ => 1
def uptoBulkAll {H : Type} : List (DataW H) → Nat
  | [] => 0
  | d :: r => uptoBulk d + uptoBulkAll r
def uptoBulkEntries {H : Type} : List (Lit × DataW H) → Nat
  | [] => 0
  | x :: r => uptoBulkEntry x + uptoBulkEntries r
def uptoBulkEntry {H : Type} : Lit × DataW H → Nat
  | (.string bytes, d) => bytes.length + uptoBulk d + 1
  | (_, d) => uptoBulk d + 1
 end
def uptoSmall : (H : Type) → List (DataW H) → Bool := fun _ ds => decide (uptoBulkAll ds ≤ 1048576)
def OpenSpec.upto (s : _root_.Go.ChangeSpec) : _root_.Go.OpenSpec := { _root_.Go.OpenSpec.ofChange s with cond := some uptoSmall }

/-- 'honeycomblaw05.TableRings', WHERE WHAT IT READS IS OF BULK AT MOST 1048576: true; the input reads as it did. -/
def tableRingsUptoRow : OpenClaim := { program := "ytcipkabpekdflaa", sum := "d71e16999ab753c404e8f817fc3cc20b1482fa3be30d10e69a97d27f1a3e7768", func := "honeycomb/honeycomblaw05.TableRings", spec := "tableRings", apart := false, narrowed := true }
def TableRingsUptoSaid : Prop := tableRingsUptoRow.holds Try.pinned (OpenSpec.upto tableRingsSpec)

/-- 'honeycomblaw05.TableClasses', WHERE WHAT IT READS IS OF BULK AT MOST 1048576: true; the input reads as it did. -/
def tableClassesUptoRow : OpenClaim := { program := "ytcipkabpekdflaa", sum := "d71e16999ab753c404e8f817fc3cc20b1482fa3be30d10e69a97d27f1a3e7768", func := "honeycomb/honeycomblaw05.TableClasses", spec := "tableClasses", apart := false, narrowed := true }
def TableClassesUptoSaid : Prop := tableClassesUptoRow.holds Try.pinned (OpenSpec.upto tableClassesSpec)

/-- 'honeycomblaw05.TableParts', WHERE WHAT IT READS IS OF BULK AT MOST 1048576: true; the input reads as it did. -/
def tablePartsUptoRow : OpenClaim := { program := "ytcipkabpekdflaa", sum := "d71e16999ab753c404e8f817fc3cc20b1482fa3be30d10e69a97d27f1a3e7768", func := "honeycomb/honeycomblaw05.TableParts", spec := "tableParts", apart := false, narrowed := true }
def TablePartsUptoSaid : Prop := tablePartsUptoRow.holds Try.pinned (OpenSpec.upto tablePartsSpec)

end Rows
end Go.Proofs.Ytcipkabpekdflaa
