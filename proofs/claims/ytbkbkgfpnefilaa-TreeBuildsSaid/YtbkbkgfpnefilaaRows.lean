/-
  No cell of these rows narrows 'for every input' (looked for: loops, veiled, ifaces, maps, wideKeys, modest, calm, conditions, laid).
  DERIVED. THE GIVEN ROWS OF THIS SEAT. 12 by the template 'for every input the law returns true; each argument reads behind the call as it read before'; 0 by the template 'total and deterministic' (their statements: YtbkbkgfpnefilaaTotals.lean).
  GIVEN WITH THE SEED: the statements are not yours to turn. If you find one false, say at which input.
  Laid BY PROGRAM, IN A SANDBOX (cutbox-rows.mjs): the forced cells as the released guide's own fill.sh prints them over the translation 53d9c73edf1d069a… (all of the seat's roots in one cut). By AI agents, Wed Nov 11 2026. No macro, syntax, notation, axiom, sorry.
-/
import Derived.Test.YtbkbkgfpnefilaaChecked
import GoSem.Claim
import GoSem.ClaimJoined
import GoSem.ClaimMapViews
import Derived.JoinedTies
import Derived.KernelRfl
namespace Go.Proofs.Ytbkbkgfpnefilaa
/- THE CELL 'sum', in the pinned program and in every row, IS THE sha256 OF THE DUMP (.gsa) THAT YtbkbkgfpnefilaaProg.lean LOADS. Nothing in Lean hashes anything: it is a label: what it is worth is what the hold of that sum in a sandbox is worth. -/
noncomputable def Try.pinned : Pinned := { name := "ytbkbkgfpnefilaa", sum := "53d9c73edf1d069ad5fc144c421388db96959b71894c810388b7b39323be4379", checked := Try.checked }
namespace Rows
def none {H : Type} : Left H := { results := [], args := [] }

/-- 'honeycomblaw13.TreeLevels': WHATEVER THE INPUT: true; the input reads as it did. -/
def treeLevelsSpec : ChangeSpec := { name := "treeLevels", fn := fun _ => fun
  | [d1, d2, d3] => { results := [.lit (.bool true)], args := [d1, d2, d3] }
  | _ => none }
def treeLevelsRow : OpenClaim := { program := "ytbkbkgfpnefilaa", sum := "53d9c73edf1d069ad5fc144c421388db96959b71894c810388b7b39323be4379", func := "honeycomb/honeycomblaw13.TreeLevels", spec := "treeLevels", recurses := true, plainKeys := false, apart := false }
def TreeLevelsSaid : Prop := treeLevelsRow.holds Try.pinned (OpenSpec.ofChange treeLevelsSpec)

/-- ITS FALSE NEIGHBOUR: 'it returns false'. Refute it at one input. -/
def treeLevelsWrong : ChangeSpec := { name := "treeLevels", fn := fun _ => fun
  | [d1, d2, d3] => { results := [.lit (.bool false)], args := [d1, d2, d3] }
  | _ => none }
def TreeLevelsWrongFalsely : Prop := treeLevelsRow.holds Try.pinned (OpenSpec.ofChange treeLevelsWrong)

/-- 'honeycomblaw13.TreeShares': WHATEVER THE INPUT: true; the input reads as it did. -/
def treeSharesSpec : ChangeSpec := { name := "treeShares", fn := fun _ => fun
  | [d1, d2] => { results := [.lit (.bool true)], args := [d1, d2] }
  | _ => none }
def treeSharesRow : OpenClaim := { program := "ytbkbkgfpnefilaa", sum := "53d9c73edf1d069ad5fc144c421388db96959b71894c810388b7b39323be4379", func := "honeycomb/honeycomblaw13.TreeShares", spec := "treeShares", unfollowed := true, recurses := true, plainKeys := false, apart := false }
def TreeSharesSaid : Prop := treeSharesRow.holds Try.pinned (OpenSpec.ofChange treeSharesSpec)

/-- ITS FALSE NEIGHBOUR: 'it returns false'. Refute it at one input. -/
def treeSharesWrong : ChangeSpec := { name := "treeShares", fn := fun _ => fun
  | [d1, d2] => { results := [.lit (.bool false)], args := [d1, d2] }
  | _ => none }
def TreeSharesWrongFalsely : Prop := treeSharesRow.holds Try.pinned (OpenSpec.ofChange treeSharesWrong)

/-- 'honeycomblaw13.TreePuts': WHATEVER THE INPUT: true; the input reads as it did. -/
def treePutsSpec : ChangeSpec := { name := "treePuts", fn := fun _ => fun
  | [d1, d2, d3] => { results := [.lit (.bool true)], args := [d1, d2, d3] }
  | _ => none }
def treePutsRow : OpenClaim := { program := "ytbkbkgfpnefilaa", sum := "53d9c73edf1d069ad5fc144c421388db96959b71894c810388b7b39323be4379", func := "honeycomb/honeycomblaw13.TreePuts", spec := "treePuts", unfollowed := true, recurses := true, plainKeys := false, apart := false }
def TreePutsSaid : Prop := treePutsRow.holds Try.pinned (OpenSpec.ofChange treePutsSpec)

/-- ITS FALSE NEIGHBOUR: 'it returns false'. Refute it at one input. -/
def treePutsWrong : ChangeSpec := { name := "treePuts", fn := fun _ => fun
  | [d1, d2, d3] => { results := [.lit (.bool false)], args := [d1, d2, d3] }
  | _ => none }
def TreePutsWrongFalsely : Prop := treePutsRow.holds Try.pinned (OpenSpec.ofChange treePutsWrong)

/-- 'honeycomblaw13.TreeBuilds': WHATEVER THE INPUT: true; the input reads as it did. -/
def treeBuildsSpec : ChangeSpec := { name := "treeBuilds", fn := fun _ => fun
  | [d1, d2, d3] => { results := [.lit (.bool true)], args := [d1, d2, d3] }
  | _ => none }
def treeBuildsRow : OpenClaim := { program := "ytbkbkgfpnefilaa", sum := "53d9c73edf1d069ad5fc144c421388db96959b71894c810388b7b39323be4379", func := "honeycomb/honeycomblaw13.TreeBuilds", spec := "treeBuilds", unfollowed := true, recurses := true, plainKeys := false, apart := false }
def TreeBuildsSaid : Prop := treeBuildsRow.holds Try.pinned (OpenSpec.ofChange treeBuildsSpec)

/-- ITS FALSE NEIGHBOUR: 'it returns false'. Refute it at one input. -/
def treeBuildsWrong : ChangeSpec := { name := "treeBuilds", fn := fun _ => fun
  | [d1, d2, d3] => { results := [.lit (.bool false)], args := [d1, d2, d3] }
  | _ => none }
def TreeBuildsWrongFalsely : Prop := treeBuildsRow.holds Try.pinned (OpenSpec.ofChange treeBuildsWrong)

/-- 'honeycomblaw13.TreeFew': WHATEVER THE INPUT: true; the input reads as it did. -/
def treeFewSpec : ChangeSpec := { name := "treeFew", fn := fun _ => fun
  | [d1, d2] => { results := [.lit (.bool true)], args := [d1, d2] }
  | _ => none }
def treeFewRow : OpenClaim := { program := "ytbkbkgfpnefilaa", sum := "53d9c73edf1d069ad5fc144c421388db96959b71894c810388b7b39323be4379", func := "honeycomb/honeycomblaw13.TreeFew", spec := "treeFew", unfollowed := true, recurses := true, plainKeys := false, apart := false }
def TreeFewSaid : Prop := treeFewRow.holds Try.pinned (OpenSpec.ofChange treeFewSpec)

/-- ITS FALSE NEIGHBOUR: 'it returns false'. Refute it at one input. -/
def treeFewWrong : ChangeSpec := { name := "treeFew", fn := fun _ => fun
  | [d1, d2] => { results := [.lit (.bool false)], args := [d1, d2] }
  | _ => none }
def TreeFewWrongFalsely : Prop := treeFewRow.holds Try.pinned (OpenSpec.ofChange treeFewWrong)

/-- 'honeycomblaw17.SweepCollects': WHATEVER THE INPUT: true; the input reads as it did. -/
def sweepCollectsSpec : ChangeSpec := { name := "sweepCollects", fn := fun _ => fun
  | [d1, d2, d3] => { results := [.lit (.bool true)], args := [d1, d2, d3] }
  | _ => none }
def sweepCollectsRow : OpenClaim := { program := "ytbkbkgfpnefilaa", sum := "53d9c73edf1d069ad5fc144c421388db96959b71894c810388b7b39323be4379", func := "honeycomb/honeycomblaw17.SweepCollects", spec := "sweepCollects", recurses := true, plainKeys := false, apart := false }
def SweepCollectsSaid : Prop := sweepCollectsRow.holds Try.pinned (OpenSpec.ofChange sweepCollectsSpec)

/-- ITS FALSE NEIGHBOUR: 'it returns false'. Refute it at one input. -/
def sweepCollectsWrong : ChangeSpec := { name := "sweepCollects", fn := fun _ => fun
  | [d1, d2, d3] => { results := [.lit (.bool false)], args := [d1, d2, d3] }
  | _ => none }
def SweepCollectsWrongFalsely : Prop := sweepCollectsRow.holds Try.pinned (OpenSpec.ofChange sweepCollectsWrong)

/-- 'honeycomblaw17.SweepCopies': WHATEVER THE INPUT: true; the input reads as it did. -/
def sweepCopiesSpec : ChangeSpec := { name := "sweepCopies", fn := fun _ => fun
  | [d1, d2, d3] => { results := [.lit (.bool true)], args := [d1, d2, d3] }
  | _ => none }
def sweepCopiesRow : OpenClaim := { program := "ytbkbkgfpnefilaa", sum := "53d9c73edf1d069ad5fc144c421388db96959b71894c810388b7b39323be4379", func := "honeycomb/honeycomblaw17.SweepCopies", spec := "sweepCopies", unfollowed := true, recurses := true, plainKeys := false, apart := false }
def SweepCopiesSaid : Prop := sweepCopiesRow.holds Try.pinned (OpenSpec.ofChange sweepCopiesSpec)

/-- ITS FALSE NEIGHBOUR: 'it returns false'. Refute it at one input. -/
def sweepCopiesWrong : ChangeSpec := { name := "sweepCopies", fn := fun _ => fun
  | [d1, d2, d3] => { results := [.lit (.bool false)], args := [d1, d2, d3] }
  | _ => none }
def SweepCopiesWrongFalsely : Prop := sweepCopiesRow.holds Try.pinned (OpenSpec.ofChange sweepCopiesWrong)

/-- 'honeycomblaw17.SweepAgain': WHATEVER THE INPUT: true; the input reads as it did. -/
def sweepAgainSpec : ChangeSpec := { name := "sweepAgain", fn := fun _ => fun
  | [d1, d2] => { results := [.lit (.bool true)], args := [d1, d2] }
  | _ => none }
def sweepAgainRow : OpenClaim := { program := "ytbkbkgfpnefilaa", sum := "53d9c73edf1d069ad5fc144c421388db96959b71894c810388b7b39323be4379", func := "honeycomb/honeycomblaw17.SweepAgain", spec := "sweepAgain", unfollowed := true, recurses := true, plainKeys := false, apart := false }
def SweepAgainSaid : Prop := sweepAgainRow.holds Try.pinned (OpenSpec.ofChange sweepAgainSpec)

/-- ITS FALSE NEIGHBOUR: 'it returns false'. Refute it at one input. -/
def sweepAgainWrong : ChangeSpec := { name := "sweepAgain", fn := fun _ => fun
  | [d1, d2] => { results := [.lit (.bool false)], args := [d1, d2] }
  | _ => none }
def SweepAgainWrongFalsely : Prop := sweepAgainRow.holds Try.pinned (OpenSpec.ofChange sweepAgainWrong)

/-- 'honeycomblaw18.TurnMixes': WHATEVER THE INPUT: true; the input reads as it did. -/
def turnMixesSpec : ChangeSpec := { name := "turnMixes", fn := fun _ => fun
  | [d1, d2, d3, d4] => { results := [.lit (.bool true)], args := [d1, d2, d3, d4] }
  | _ => none }
def turnMixesRow : OpenClaim := { program := "ytbkbkgfpnefilaa", sum := "53d9c73edf1d069ad5fc144c421388db96959b71894c810388b7b39323be4379", func := "honeycomb/honeycomblaw18.TurnMixes", spec := "turnMixes", unfollowed := true, recurses := true, plainKeys := false, apart := false }
def TurnMixesSaid : Prop := turnMixesRow.holds Try.pinned (OpenSpec.ofChange turnMixesSpec)

/-- ITS FALSE NEIGHBOUR: 'it returns false'. Refute it at one input. -/
def turnMixesWrong : ChangeSpec := { name := "turnMixes", fn := fun _ => fun
  | [d1, d2, d3, d4] => { results := [.lit (.bool false)], args := [d1, d2, d3, d4] }
  | _ => none }
def TurnMixesWrongFalsely : Prop := turnMixesRow.holds Try.pinned (OpenSpec.ofChange turnMixesWrong)

/-- 'honeycomblaw18.TurnSets': WHATEVER THE INPUT: true; the input reads as it did. -/
def turnSetsSpec : ChangeSpec := { name := "turnSets", fn := fun _ => fun
  | [d1, d2] => { results := [.lit (.bool true)], args := [d1, d2] }
  | _ => none }
def turnSetsRow : OpenClaim := { program := "ytbkbkgfpnefilaa", sum := "53d9c73edf1d069ad5fc144c421388db96959b71894c810388b7b39323be4379", func := "honeycomb/honeycomblaw18.TurnSets", spec := "turnSets", unfollowed := true, recurses := true, plainKeys := false, apart := false }
def TurnSetsSaid : Prop := turnSetsRow.holds Try.pinned (OpenSpec.ofChange turnSetsSpec)

/-- ITS FALSE NEIGHBOUR: 'it returns false'. Refute it at one input. -/
def turnSetsWrong : ChangeSpec := { name := "turnSets", fn := fun _ => fun
  | [d1, d2] => { results := [.lit (.bool false)], args := [d1, d2] }
  | _ => none }
def TurnSetsWrongFalsely : Prop := turnSetsRow.holds Try.pinned (OpenSpec.ofChange turnSetsWrong)

/-- 'honeycomblaw18.TurnGroup': WHATEVER THE INPUT: true; the input reads as it did. -/
def turnGroupSpec : ChangeSpec := { name := "turnGroup", fn := fun _ => fun
  | [d1, d2, d3, d4] => { results := [.lit (.bool true)], args := [d1, d2, d3, d4] }
  | _ => none }
def turnGroupRow : OpenClaim := { program := "ytbkbkgfpnefilaa", sum := "53d9c73edf1d069ad5fc144c421388db96959b71894c810388b7b39323be4379", func := "honeycomb/honeycomblaw18.TurnGroup", spec := "turnGroup", unfollowed := true, recurses := true, plainKeys := false, apart := false }
def TurnGroupSaid : Prop := turnGroupRow.holds Try.pinned (OpenSpec.ofChange turnGroupSpec)

/-- ITS FALSE NEIGHBOUR: 'it returns false'. Refute it at one input. -/
def turnGroupWrong : ChangeSpec := { name := "turnGroup", fn := fun _ => fun
  | [d1, d2, d3, d4] => { results := [.lit (.bool false)], args := [d1, d2, d3, d4] }
  | _ => none }
def TurnGroupWrongFalsely : Prop := turnGroupRow.holds Try.pinned (OpenSpec.ofChange turnGroupWrong)

/-- 'honeycomblaw18.TurnKeeps': WHATEVER THE INPUT: true; the input reads as it did. -/
def turnKeepsSpec : ChangeSpec := { name := "turnKeeps", fn := fun _ => fun
  | [d1, d2, d3, d4] => { results := [.lit (.bool true)], args := [d1, d2, d3, d4] }
  | _ => none }
def turnKeepsRow : OpenClaim := { program := "ytbkbkgfpnefilaa", sum := "53d9c73edf1d069ad5fc144c421388db96959b71894c810388b7b39323be4379", func := "honeycomb/honeycomblaw18.TurnKeeps", spec := "turnKeeps", unfollowed := true, recurses := true, plainKeys := false, apart := false }
def TurnKeepsSaid : Prop := turnKeepsRow.holds Try.pinned (OpenSpec.ofChange turnKeepsSpec)

/-- ITS FALSE NEIGHBOUR: 'it returns false'. Refute it at one input. -/
def turnKeepsWrong : ChangeSpec := { name := "turnKeeps", fn := fun _ => fun
  | [d1, d2, d3, d4] => { results := [.lit (.bool false)], args := [d1, d2, d3, d4] }
  | _ => none }
def TurnKeepsWrongFalsely : Prop := turnKeepsRow.holds Try.pinned (OpenSpec.ofChange turnKeepsWrong)

/- THE SECOND FORM. 'bulk': how many values and letters a reading holds, each counted each time it is reached (what is shared counts as often as it is met; a slice's spare places count too). A statement '..UptoSaid' is the law's where the arguments, and the package variables that the reading takes, are together of bulk at most 1048576: NARROWER than '..Said'. Prove '..Said' where nothing that the law and all that it calls make is longer than what came in: it says more and counts as full. Else prove '..UptoSaid'. A law counts once. -/
mutual
def uptoBulk {H : Type} : DataW H → Nat
  | .lit (.string bytes) => bytes.length + 1
  | .lit _ => 1
  | .nil => 1
  | .ptr d => uptoBulk d + 1
  | .slice elems spare => uptoBulkAll elems + uptoBulkAll spare + 1
  | .agg parts => uptoBulkAll parts + 1
  | .iface _ d => uptoBulk d + 1
  | .map entries => uptoBulkEntries entries + 1
  | .held _ => 1
def uptoBulkAll {H : Type} : List (DataW H) → Nat
  | [] => 0
  | d :: r => uptoBulk d + uptoBulkAll r
def uptoBulkEntries {H : Type} : List (Lit × DataW H) → Nat
  | [] => 0
  | x :: r => uptoBulkEntry x + uptoBulkEntries r
def uptoBulkEntry {H : Type} : Lit × DataW H → Nat
  | (.string bytes, d) => bytes.length + uptoBulk d + 1
  | (_, d) => uptoBulk d + 1
 end
def uptoSmall : (H : Type) → List (DataW H) → Bool := fun _ ds => decide (uptoBulkAll ds ≤ 1048576)
def OpenSpec.upto (s : _root_.Go.ChangeSpec) : _root_.Go.OpenSpec := { _root_.Go.OpenSpec.ofChange s with cond := some uptoSmall }

/-- 'honeycomblaw13.TreeLevels', WHERE WHAT IT READS IS OF BULK AT MOST 1048576: true; the input reads as it did. -/
def treeLevelsUptoRow : OpenClaim := { program := "ytbkbkgfpnefilaa", sum := "53d9c73edf1d069ad5fc144c421388db96959b71894c810388b7b39323be4379", func := "honeycomb/honeycomblaw13.TreeLevels", spec := "treeLevels", recurses := true, plainKeys := false, apart := false, narrowed := true }
def TreeLevelsUptoSaid : Prop := treeLevelsUptoRow.holds Try.pinned (OpenSpec.upto treeLevelsSpec)

/-- 'honeycomblaw13.TreeShares', WHERE WHAT IT READS IS OF BULK AT MOST 1048576: true; the input reads as it did. -/
def treeSharesUptoRow : OpenClaim := { program := "ytbkbkgfpnefilaa", sum := "53d9c73edf1d069ad5fc144c421388db96959b71894c810388b7b39323be4379", func := "honeycomb/honeycomblaw13.TreeShares", spec := "treeShares", unfollowed := true, recurses := true, plainKeys := false, apart := false, narrowed := true }
def TreeSharesUptoSaid : Prop := treeSharesUptoRow.holds Try.pinned (OpenSpec.upto treeSharesSpec)

/-- 'honeycomblaw13.TreePuts', WHERE WHAT IT READS IS OF BULK AT MOST 1048576: true; the input reads as it did. -/
def treePutsUptoRow : OpenClaim := { program := "ytbkbkgfpnefilaa", sum := "53d9c73edf1d069ad5fc144c421388db96959b71894c810388b7b39323be4379", func := "honeycomb/honeycomblaw13.TreePuts", spec := "treePuts", unfollowed := true, recurses := true, plainKeys := false, apart := false, narrowed := true }
def TreePutsUptoSaid : Prop := treePutsUptoRow.holds Try.pinned (OpenSpec.upto treePutsSpec)

/-- 'honeycomblaw13.TreeBuilds', WHERE WHAT IT READS IS OF BULK AT MOST 1048576: true; the input reads as it did. -/
def treeBuildsUptoRow : OpenClaim := { program := "ytbkbkgfpnefilaa", sum := "53d9c73edf1d069ad5fc144c421388db96959b71894c810388b7b39323be4379", func := "honeycomb/honeycomblaw13.TreeBuilds", spec := "treeBuilds", unfollowed := true, recurses := true, plainKeys := false, apart := false, narrowed := true }
def TreeBuildsUptoSaid : Prop := treeBuildsUptoRow.holds Try.pinned (OpenSpec.upto treeBuildsSpec)

/-- 'honeycomblaw13.TreeFew', WHERE WHAT IT READS IS OF BULK AT MOST 1048576: true; the input reads as it did. -/
def treeFewUptoRow : OpenClaim := { program := "ytbkbkgfpnefilaa", sum := "53d9c73edf1d069ad5fc144c421388db96959b71894c810388b7b39323be4379", func := "honeycomb/honeycomblaw13.TreeFew", spec := "treeFew", unfollowed := true, recurses := true, plainKeys := false, apart := false, narrowed := true }
def TreeFewUptoSaid : Prop := treeFewUptoRow.holds Try.pinned (OpenSpec.upto treeFewSpec)

/-- 'honeycomblaw17.SweepCollects', WHERE WHAT IT READS IS OF BULK AT MOST 1048576: true; the input reads as it did. -/
def sweepCollectsUptoRow : OpenClaim := { program := "ytbkbkgfpnefilaa", sum := "53d9c73edf1d069ad5fc144c421388db96959b71894c810388b7b39323be4379", func := "honeycomb/honeycomblaw17.SweepCollects", spec := "sweepCollects", recurses := true, plainKeys := false, apart := false, narrowed := true }
def SweepCollectsUptoSaid : Prop := sweepCollectsUptoRow.holds Try.pinned (OpenSpec.upto sweepCollectsSpec)

/-- 'honeycomblaw17.SweepCopies', WHERE WHAT IT READS IS OF BULK AT MOST 1048576: true; the input reads as it did. -/
def sweepCopiesUptoRow : OpenClaim := { program := "ytbkbkgfpnefilaa", sum := "53d9c73edf1d069ad5fc144c421388db96959b71894c810388b7b39323be4379", func := "honeycomb/honeycomblaw17.SweepCopies", spec := "sweepCopies", unfollowed := true, recurses := true, plainKeys := false, apart := false, narrowed := true }
def SweepCopiesUptoSaid : Prop := sweepCopiesUptoRow.holds Try.pinned (OpenSpec.upto sweepCopiesSpec)

/-- 'honeycomblaw17.SweepAgain', WHERE WHAT IT READS IS OF BULK AT MOST 1048576: true; the input reads as it did. -/
def sweepAgainUptoRow : OpenClaim := { program := "ytbkbkgfpnefilaa", sum := "53d9c73edf1d069ad5fc144c421388db96959b71894c810388b7b39323be4379", func := "honeycomb/honeycomblaw17.SweepAgain", spec := "sweepAgain", unfollowed := true, recurses := true, plainKeys := false, apart := false, narrowed := true }
def SweepAgainUptoSaid : Prop := sweepAgainUptoRow.holds Try.pinned (OpenSpec.upto sweepAgainSpec)

/-- 'honeycomblaw18.TurnMixes', WHERE WHAT IT READS IS OF BULK AT MOST 1048576: true; the input reads as it did. -/
def turnMixesUptoRow : OpenClaim := { program := "ytbkbkgfpnefilaa", sum := "53d9c73edf1d069ad5fc144c421388db96959b71894c810388b7b39323be4379", func := "honeycomb/honeycomblaw18.TurnMixes", spec := "turnMixes", unfollowed := true, recurses := true, plainKeys := false, apart := false, narrowed := true }
def TurnMixesUptoSaid : Prop := turnMixesUptoRow.holds Try.pinned (OpenSpec.upto turnMixesSpec)

/-- 'honeycomblaw18.TurnSets', WHERE WHAT IT READS IS OF BULK AT MOST 1048576: true; the input reads as it did. -/
def turnSetsUptoRow : OpenClaim := { program := "ytbkbkgfpnefilaa", sum := "53d9c73edf1d069ad5fc144c421388db96959b71894c810388b7b39323be4379", func := "honeycomb/honeycomblaw18.TurnSets", spec := "turnSets", unfollowed := true, recurses := true, plainKeys := false, apart := false, narrowed := true }
def TurnSetsUptoSaid : Prop := turnSetsUptoRow.holds Try.pinned (OpenSpec.upto turnSetsSpec)

/-- 'honeycomblaw18.TurnGroup', WHERE WHAT IT READS IS OF BULK AT MOST 1048576: true; the input reads as it did. -/
def turnGroupUptoRow : OpenClaim := { program := "ytbkbkgfpnefilaa", sum := "53d9c73edf1d069ad5fc144c421388db96959b71894c810388b7b39323be4379", func := "honeycomb/honeycomblaw18.TurnGroup", spec := "turnGroup", unfollowed := true, recurses := true, plainKeys := false, apart := false, narrowed := true }
def TurnGroupUptoSaid : Prop := turnGroupUptoRow.holds Try.pinned (OpenSpec.upto turnGroupSpec)

/-- 'honeycomblaw18.TurnKeeps', WHERE WHAT IT READS IS OF BULK AT MOST 1048576: true; the input reads as it did. -/
def turnKeepsUptoRow : OpenClaim := { program := "ytbkbkgfpnefilaa", sum := "53d9c73edf1d069ad5fc144c421388db96959b71894c810388b7b39323be4379", func := "honeycomb/honeycomblaw18.TurnKeeps", spec := "turnKeeps", unfollowed := true, recurses := true, plainKeys := false, apart := false, narrowed := true }
def TurnKeepsUptoSaid : Prop := turnKeepsUptoRow.holds Try.pinned (OpenSpec.upto turnKeepsSpec)

end Rows
end Go.Proofs.Ytbkbkgfpnefilaa
