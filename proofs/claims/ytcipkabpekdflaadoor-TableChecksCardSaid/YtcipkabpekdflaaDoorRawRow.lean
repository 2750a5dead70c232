/- A raw table among a law's arguments, opened: its lattice and its four words. -/
import Derived.Test.YtcipkabpekdflaaDoorRow
namespace Go.Proofs.YtcipkabpekdflaaDoor.bs
open Go.ChangeShapes Go.WideShapes Go.ChangeAt Go.RowKit Go.Joins

section
variable {H : Type} {enc : TypeId × Value → H} {w : World} {base : Nat} {sp : Nat → Bool} {held : Bool}
theorem u64x2_cells {fuel : Nat} {cs : List Value} {x : DataW H × List MemPlace} (h : DataW.trod enc Tryd.prog w base sp held fuel 23 cs = some x) :
    ∃ a b, cs = [.int .u64 a, .int .u64 b] := by
  obtain ⟨xs, m, _, hx, hl, hxl, hf⟩ := DataW.trod_array Tryd.underlying23 h
  rw [show Tryd.prog.cellsOf 23 = 2 by kernel_rfl] at hl
  have hU : Tryd.prog.cellsOf 22 = 1 := by kernel_rfl
  rw [hU] at hf
  have hxl2 : xs.length = 2 := hxl
  match cs, hl with
  | [c0, c1], _ =>
    match xs, hxl2 with
    | [y0, y1], _ =>
      have f0 := hf 0 (by omega)
      have f1 := hf 1 (by omega)
      obtain ⟨n0, e0, _, w0⟩ := DataW.trod_int Tryd.underlying22 f0
      obtain ⟨n1, e1, _, w1⟩ := DataW.trod_int Tryd.underlying22 f1
      simp at e0 e1
      subst e0 e1
      exact ⟨n0, n1, rfl⟩
theorem open_raw {r : Reach} {b0 : Nat} {v : Value} {d : DataW H} {p : List MemPlace} (hv : Value.okWide Tryd.prog w r b0 25 v) (h : DataW.Trod enc Tryd.prog w base sp held 25 v d p) :
    ∃ l a b c e, v = .agg #[.int .i64 l, .int .u64 a, .int .u64 b, .int .u64 c, .int .u64 e] := by
  obtain ⟨cs, rfl, hsz⟩ := okWide_struct Tryd.underlying25 hv
  obtain ⟨l⟩ := cs
  obtain ⟨fuel, hf⟩ := h
  obtain ⟨xs, n, _, hx, hl, hxl, hg⟩ := DataW.trod_struct Tryd.underlying25 hf
  rw [show Tryd.prog.cellsOf 25 = 5 by kernel_rfl] at hl
  have hI : Tryd.prog.cellsOf 3 = 1 := by kernel_rfl
  have hA : Tryd.prog.cellsOf 23 = 2 := by kernel_rfl
  have hxl2 : xs.length = 3 := hxl
  match xs, hxl2 with
  | [y0, y1, y2], _ =>
    obtain ⟨n0, e0, _, w0⟩ := DataW.trod_int Tryd.underlying3 (hg 0 _ rfl)
    obtain ⟨a, b, e1⟩ := u64x2_cells (hg 1 _ rfl)
    obtain ⟨c, e, e2⟩ := u64x2_cells (hg 2 _ rfl)
    simp [Value.cells, hI, hA] at e0 e1 e2 hl
    match l, hl with
    | [c0, c1, c2, c3, c4], _ =>
      simp at e0 e1 e2
      subst e0
      obtain ⟨rfl, rfl⟩ := e1
      obtain ⟨rfl, rfl⟩ := e2
      exact ⟨n0, a, b, c, e, rfl⟩
end
end Go.Proofs.YtcipkabpekdflaaDoor.bs
