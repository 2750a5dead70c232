/-
  NARROWER THAN 'FOR EVERY INPUT', by the rows' own cells (each row's printed sentence says how): AxisTurns: laid · AxisSums: laid · AxisLinear: laid · AxisPoints: laid · AxisOrder: laid · AxisGroup: laid.
  DERIVED. THE GIVEN ROWS OF THIS SEAT. 6 by the template 'for every input the law returns true; each argument reads behind the call as it read before'; 0 by the template 'total and deterministic' (their statements: YtjpcdlnhpaigkaaDoorTotals.lean).
  GIVEN WITH THE SEED: the statements are not yours to turn. If you find one false, say at which input.
  Laid BY PROGRAM, IN A SANDBOX (cutbox-rows.mjs): the forced cells as the released guide's own fill.sh prints them over the translation d353874cd9f61bba… (all of the seat's roots in one cut). By AI agents, Wed Nov 11 2026. No macro, syntax, notation, axiom, sorry.
-/
import Derived.Test.YtjpcdlnhpaigkaaDoorChecked
import GoSem.Claim
import GoSem.ClaimJoined
import GoSem.ClaimMapViews
import Derived.JoinedTies
import Derived.KernelRfl
namespace Go.Proofs.YtjpcdlnhpaigkaaDoor
/- THE CELL 'sum', in the pinned program and in every row, IS THE sha256 OF THE DUMP (.gsa) THAT YtjpcdlnhpaigkaaDoorProg.lean LOADS. Nothing in Lean hashes anything: it is a label: what it is worth is what the hold of that sum in a sandbox is worth. -/
noncomputable def Tryd.pinned : Pinned := { name := "ytjpcdlnhpaigkaadoor", sum := "d353874cd9f61bba767f402f18309f5f5c6a9a61cbd0aef9f9e64f87dfc006cf", checked := Tryd.checked }
namespace Rows
def none {H : Type} : Left H := { results := [], args := [] }

/- WHAT THE LISTED PACKAGE-LEVEL VARIABLES READ AS WHEN THE CALL BEGINS. Each datum BY PROGRAM (the guide's laid-datum.mjs) off the statement by which the dump's own 'gosem.cut.vars' lays the variable. In a bare row this is a premise. The card (YtjpcdlnhpaigkaaDoorCards.lean) ties it to the program's text. -/
def laid_honeycomb_axis_six {H : Type} : DataW H := .agg [.agg [.lit (.int .i64 1), .lit (.int .i64 0)], .agg [.lit (.int .i64 0), .lit (.int .i64 1)], .agg [.lit (.int .i64 (-1)), .lit (.int .i64 1)], .agg [.lit (.int .i64 (-1)), .lit (.int .i64 0)], .agg [.lit (.int .i64 0), .lit (.int .i64 (-1))], .agg [.lit (.int .i64 1), .lit (.int .i64 (-1))]]

/-- 'honeycomblaw01.AxisTurns': WHATEVER THE INPUT: true; the input reads as it did. -/
def axisTurnsSpec : ChangeSpec := { name := "axisTurns", fn := fun _ => fun
  | [d1, d2, d3] => { results := [.lit (.bool true)], args := [d1, d2, d3] }
  | _ => none }
def axisTurnsRow : OpenClaim := { program := "ytjpcdlnhpaigkaadoor", sum := "d353874cd9f61bba767f402f18309f5f5c6a9a61cbd0aef9f9e64f87dfc006cf", func := "honeycomb/honeycomblaw01.AxisTurns", spec := "axisTurns", named := ["honeycomb/axis.six"], apart := false, laid := [("honeycomb/axis.six", laid_honeycomb_axis_six)] }
def AxisTurnsSaid : Prop := axisTurnsRow.holds Tryd.pinned (OpenSpec.ofChange axisTurnsSpec)

/-- ITS FALSE NEIGHBOUR: 'it returns false'. Refute it at one input. -/
def axisTurnsWrong : ChangeSpec := { name := "axisTurns", fn := fun _ => fun
  | [d1, d2, d3] => { results := [.lit (.bool false)], args := [d1, d2, d3] }
  | _ => none }
def AxisTurnsWrongFalsely : Prop := axisTurnsRow.holds Tryd.pinned (OpenSpec.ofChange axisTurnsWrong)

/-- 'honeycomblaw01.AxisSums': WHATEVER THE INPUT: true; the input reads as it did. -/
def axisSumsSpec : ChangeSpec := { name := "axisSums", fn := fun _ => fun
  | [d1, d2] => { results := [.lit (.bool true)], args := [d1, d2] }
  | _ => none }
def axisSumsRow : OpenClaim := { program := "ytjpcdlnhpaigkaadoor", sum := "d353874cd9f61bba767f402f18309f5f5c6a9a61cbd0aef9f9e64f87dfc006cf", func := "honeycomb/honeycomblaw01.AxisSums", spec := "axisSums", named := ["honeycomb/axis.six"], apart := false, laid := [("honeycomb/axis.six", laid_honeycomb_axis_six)] }
def AxisSumsSaid : Prop := axisSumsRow.holds Tryd.pinned (OpenSpec.ofChange axisSumsSpec)

/-- ITS FALSE NEIGHBOUR: 'it returns false'. Refute it at one input. -/
def axisSumsWrong : ChangeSpec := { name := "axisSums", fn := fun _ => fun
  | [d1, d2] => { results := [.lit (.bool false)], args := [d1, d2] }
  | _ => none }
def AxisSumsWrongFalsely : Prop := axisSumsRow.holds Tryd.pinned (OpenSpec.ofChange axisSumsWrong)

/-- 'honeycomblaw01.AxisLinear': WHATEVER THE INPUT: true; the input reads as it did. -/
def axisLinearSpec : ChangeSpec := { name := "axisLinear", fn := fun _ => fun
  | [d1, d2, d3] => { results := [.lit (.bool true)], args := [d1, d2, d3] }
  | _ => none }
def axisLinearRow : OpenClaim := { program := "ytjpcdlnhpaigkaadoor", sum := "d353874cd9f61bba767f402f18309f5f5c6a9a61cbd0aef9f9e64f87dfc006cf", func := "honeycomb/honeycomblaw01.AxisLinear", spec := "axisLinear", named := ["honeycomb/axis.six"], apart := false, laid := [("honeycomb/axis.six", laid_honeycomb_axis_six)] }
def AxisLinearSaid : Prop := axisLinearRow.holds Tryd.pinned (OpenSpec.ofChange axisLinearSpec)

/-- ITS FALSE NEIGHBOUR: 'it returns false'. Refute it at one input. -/
def axisLinearWrong : ChangeSpec := { name := "axisLinear", fn := fun _ => fun
  | [d1, d2, d3] => { results := [.lit (.bool false)], args := [d1, d2, d3] }
  | _ => none }
def AxisLinearWrongFalsely : Prop := axisLinearRow.holds Tryd.pinned (OpenSpec.ofChange axisLinearWrong)

/-- 'honeycomblaw01.AxisPoints': WHATEVER THE INPUT: true; the input reads as it did. -/
def axisPointsSpec : ChangeSpec := { name := "axisPoints", fn := fun _ => fun
  | [d1, d2, d3, d4] => { results := [.lit (.bool true)], args := [d1, d2, d3, d4] }
  | _ => none }
def axisPointsRow : OpenClaim := { program := "ytjpcdlnhpaigkaadoor", sum := "d353874cd9f61bba767f402f18309f5f5c6a9a61cbd0aef9f9e64f87dfc006cf", func := "honeycomb/honeycomblaw01.AxisPoints", spec := "axisPoints", named := ["honeycomb/axis.six"], apart := false, laid := [("honeycomb/axis.six", laid_honeycomb_axis_six)] }
def AxisPointsSaid : Prop := axisPointsRow.holds Tryd.pinned (OpenSpec.ofChange axisPointsSpec)

/-- ITS FALSE NEIGHBOUR: 'it returns false'. Refute it at one input. -/
def axisPointsWrong : ChangeSpec := { name := "axisPoints", fn := fun _ => fun
  | [d1, d2, d3, d4] => { results := [.lit (.bool false)], args := [d1, d2, d3, d4] }
  | _ => none }
def AxisPointsWrongFalsely : Prop := axisPointsRow.holds Tryd.pinned (OpenSpec.ofChange axisPointsWrong)

/-- 'honeycomblaw01.AxisOrder': WHATEVER THE INPUT: true; the input reads as it did. -/
def axisOrderSpec : ChangeSpec := { name := "axisOrder", fn := fun _ => fun
  | [d1, d2, d3, d4] => { results := [.lit (.bool true)], args := [d1, d2, d3, d4] }
  | _ => none }
def axisOrderRow : OpenClaim := { program := "ytjpcdlnhpaigkaadoor", sum := "d353874cd9f61bba767f402f18309f5f5c6a9a61cbd0aef9f9e64f87dfc006cf", func := "honeycomb/honeycomblaw01.AxisOrder", spec := "axisOrder", named := ["honeycomb/axis.six"], apart := false, laid := [("honeycomb/axis.six", laid_honeycomb_axis_six)] }
def AxisOrderSaid : Prop := axisOrderRow.holds Tryd.pinned (OpenSpec.ofChange axisOrderSpec)

/-- ITS FALSE NEIGHBOUR: 'it returns false'. Refute it at one input. -/
def axisOrderWrong : ChangeSpec := { name := "axisOrder", fn := fun _ => fun
  | [d1, d2, d3, d4] => { results := [.lit (.bool false)], args := [d1, d2, d3, d4] }
  | _ => none }
def AxisOrderWrongFalsely : Prop := axisOrderRow.holds Tryd.pinned (OpenSpec.ofChange axisOrderWrong)

/-- 'honeycomblaw01.AxisGroup': WHATEVER THE INPUT: true; the input reads as it did. -/
def axisGroupSpec : ChangeSpec := { name := "axisGroup", fn := fun _ => fun
  | [d1, d2, d3, d4, d5] => { results := [.lit (.bool true)], args := [d1, d2, d3, d4, d5] }
  | _ => none }
def axisGroupRow : OpenClaim := { program := "ytjpcdlnhpaigkaadoor", sum := "d353874cd9f61bba767f402f18309f5f5c6a9a61cbd0aef9f9e64f87dfc006cf", func := "honeycomb/honeycomblaw01.AxisGroup", spec := "axisGroup", named := ["honeycomb/axis.six"], apart := false, laid := [("honeycomb/axis.six", laid_honeycomb_axis_six)] }
def AxisGroupSaid : Prop := axisGroupRow.holds Tryd.pinned (OpenSpec.ofChange axisGroupSpec)

/-- ITS FALSE NEIGHBOUR: 'it returns false'. Refute it at one input. -/
def axisGroupWrong : ChangeSpec := { name := "axisGroup", fn := fun _ => fun
  | [d1, d2, d3, d4, d5] => { results := [.lit (.bool false)], args := [d1, d2, d3, d4, d5] }
  | _ => none }
def AxisGroupWrongFalsely : Prop := axisGroupRow.holds Tryd.pinned (OpenSpec.ofChange axisGroupWrong)

/- THE SECOND FORM. 'bulk': how many values and letters a reading holds, each counted each time it is reached (what is shared counts as often as it is met; a slice's spare places count too). A statement '..UptoSaid' is the law's where the arguments, and the package variables that the reading takes, are together of bulk at most 1048576: NARROWER than '..Said'. Prove '..Said' where nothing that the law and all that it calls make is longer than what came in: it says more and counts as full. Else prove '..UptoSaid'. A law counts once. -/
mutual
def uptoBulk {H : Type} : DataW H → Nat
  | .lit (.string bytes) => bytes.length + 1
  | .lit _ => 1
  | .nil => 1
  | .ptr d => uptoBulk d + 1
  | .slice elems spare => uptoBulkAll elems + uptoBulkAll spare + 1
  | .agg parts => uptoBulkAll parts + 1
  | .iface _ d => uptoBulk d + 1
  | .map entries => uptoBulkEntries entries + 1
  | .held _ => 1
def uptoBulkAll {H : Type} : List (DataW H) → Nat
  | [] => 0
  | d :: r => uptoBulk d + uptoBulkAll r
def uptoBulkEntries {H : Type} : List (Lit × DataW H) → Nat
  | [] => 0
  | x :: r => uptoBulkEntry x + uptoBulkEntries r
def uptoBulkEntry {H : Type} : Lit × DataW H → Nat
  | (.string bytes, d) => bytes.length + uptoBulk d + 1
  | (_, d) => uptoBulk d + 1
 end
def uptoSmall : (H : Type) → List (DataW H) → Bool := fun _ ds => decide (uptoBulkAll ds ≤ 1048576)
def OpenSpec.upto (s : _root_.Go.ChangeSpec) : _root_.Go.OpenSpec := { _root_.Go.OpenSpec.ofChange s with cond := some uptoSmall }

/-- 'honeycomblaw01.AxisTurns', WHERE WHAT IT READS IS OF BULK AT MOST 1048576: true; the input reads as it did. -/
def axisTurnsUptoRow : OpenClaim := { program := "ytjpcdlnhpaigkaadoor", sum := "d353874cd9f61bba767f402f18309f5f5c6a9a61cbd0aef9f9e64f87dfc006cf", func := "honeycomb/honeycomblaw01.AxisTurns", spec := "axisTurns", named := ["honeycomb/axis.six"], apart := false, laid := [("honeycomb/axis.six", laid_honeycomb_axis_six)], narrowed := true }
def AxisTurnsUptoSaid : Prop := axisTurnsUptoRow.holds Tryd.pinned (OpenSpec.upto axisTurnsSpec)

/-- 'honeycomblaw01.AxisSums', WHERE WHAT IT READS IS OF BULK AT MOST 1048576: true; the input reads as it did. -/
def axisSumsUptoRow : OpenClaim := { program := "ytjpcdlnhpaigkaadoor", sum := "d353874cd9f61bba767f402f18309f5f5c6a9a61cbd0aef9f9e64f87dfc006cf", func := "honeycomb/honeycomblaw01.AxisSums", spec := "axisSums", named := ["honeycomb/axis.six"], apart := false, laid := [("honeycomb/axis.six", laid_honeycomb_axis_six)], narrowed := true }
def AxisSumsUptoSaid : Prop := axisSumsUptoRow.holds Tryd.pinned (OpenSpec.upto axisSumsSpec)

/-- 'honeycomblaw01.AxisLinear', WHERE WHAT IT READS IS OF BULK AT MOST 1048576: true; the input reads as it did. -/
def axisLinearUptoRow : OpenClaim := { program := "ytjpcdlnhpaigkaadoor", sum := "d353874cd9f61bba767f402f18309f5f5c6a9a61cbd0aef9f9e64f87dfc006cf", func := "honeycomb/honeycomblaw01.AxisLinear", spec := "axisLinear", named := ["honeycomb/axis.six"], apart := false, laid := [("honeycomb/axis.six", laid_honeycomb_axis_six)], narrowed := true }
def AxisLinearUptoSaid : Prop := axisLinearUptoRow.holds Tryd.pinned (OpenSpec.upto axisLinearSpec)

/-- 'honeycomblaw01.AxisPoints', WHERE WHAT IT READS IS OF BULK AT MOST 1048576: true; the input reads as it did. -/
def axisPointsUptoRow : OpenClaim := { program := "ytjpcdlnhpaigkaadoor", sum := "d353874cd9f61bba767f402f18309f5f5c6a9a61cbd0aef9f9e64f87dfc006cf", func := "honeycomb/honeycomblaw01.AxisPoints", spec := "axisPoints", named := ["honeycomb/axis.six"], apart := false, laid := [("honeycomb/axis.six", laid_honeycomb_axis_six)], narrowed := true }
def AxisPointsUptoSaid : Prop := axisPointsUptoRow.holds Tryd.pinned (OpenSpec.upto axisPointsSpec)

/-- 'honeycomblaw01.AxisOrder', WHERE WHAT IT READS IS OF BULK AT MOST 1048576: true; the input reads as it did. -/
def axisOrderUptoRow : OpenClaim := { program := "ytjpcdlnhpaigkaadoor", sum := "d353874cd9f61bba767f402f18309f5f5c6a9a61cbd0aef9f9e64f87dfc006cf", func := "honeycomb/honeycomblaw01.AxisOrder", spec := "axisOrder", named := ["honeycomb/axis.six"], apart := false, laid := [("honeycomb/axis.six", laid_honeycomb_axis_six)], narrowed := true }
def AxisOrderUptoSaid : Prop := axisOrderUptoRow.holds Tryd.pinned (OpenSpec.upto axisOrderSpec)

/-- 'honeycomblaw01.AxisGroup', WHERE WHAT IT READS IS OF BULK AT MOST 1048576: true; the input reads as it did. -/
def axisGroupUptoRow : OpenClaim := { program := "ytjpcdlnhpaigkaadoor", sum := "d353874cd9f61bba767f402f18309f5f5c6a9a61cbd0aef9f9e64f87dfc006cf", func := "honeycomb/honeycomblaw01.AxisGroup", spec := "axisGroup", named := ["honeycomb/axis.six"], apart := false, laid := [("honeycomb/axis.six", laid_honeycomb_axis_six)], narrowed := true }
def AxisGroupUptoSaid : Prop := axisGroupUptoRow.holds Tryd.pinned (OpenSpec.upto axisGroupSpec)

end Rows
end Go.Proofs.YtjpcdlnhpaigkaaDoor
