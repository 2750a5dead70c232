/- What the row's list gives of the table of the six points: its cells; a world for the witness. -/
import Derived.Test.YtjpcdlnhpaigkaaDoorAxE
import Derived.Test.YtjpcdlnhpaigkaaDoorCards
import Derived.Test.YtjpcdlnhpaigkaaDoorTie
import Derived.Deep.DeepHandedRow
import Derived.Lib.LaidTab
namespace Go.Proofs.YtjpcdlnhpaigkaaDoor.ax
open Go.ChangeShapes Go.WideShapes Go.ChangeAt Go.RowKit

theorem own : ownKnob Tryd.prog.godebug = none := by kernel_rfl
theorem gSix : Tryd.prog.globalNamed "honeycomb/axis.six" = some 0 := by kernel_rfl
theorem gSixType : (Tryd.prog.globals[0]?).map (·.type) = some 44 := by kernel_rfl
theorem cellsP : Tryd.prog.cellsOf 24 = 2 := by kernel_rfl
theorem cellsI : Tryd.prog.cellsOf 2 = 1 := by kernel_rfl

theorem point_cells {H : Type} {enc : TypeId × Value → H} {w : World} {base : Nat} {sp : Nat → Bool} {held : Bool} {fuel : Nat} {cs : List Value} {a b : Int} {p : List MemPlace}
    (h : DataW.trod enc Tryd.prog w base sp held fuel 24 cs = some (.agg [.lit (.int .i64 a), .lit (.int .i64 b)], p)) : cs = [.int .i64 a, .int .i64 b] := by
  obtain ⟨xs, n, _, hx, hl, hxl, hf⟩ := DataW.trod_struct Tryd.underlying24 h
  rw [cellsP] at hl
  have hxl2 : xs.length = 2 := hxl
  match cs, hl with
  | [c0, c1], _ =>
    match xs, hxl2 with
    | [y0, y1], _ =>
      have f0 := hf 0 _ rfl
      have f1 := hf 1 _ rfl
      obtain ⟨n0, e0, r0, _⟩ := DataW.trod_int Tryd.underlying2 f0
      obtain ⟨n1, e1, r1, _⟩ := DataW.trod_int Tryd.underlying2 f1
      simp [cellsI] at e0 e1
      subst e0 e1 r0 r1
      simp at hx
      obtain ⟨⟨rfl, rfl⟩, _⟩ := hx
      rfl

theorem six_of_laid {W : World} (h : laidMet Tryd.prog [("honeycomb/axis.six", Rows.laid_honeycomb_axis_six)] W) : SixAt W := by
  obtain ⟨ps, ⟨g', t', cs, fuel, p, q, hg', ht', hvar, hd, _, _⟩, _⟩ := h
  obtain rfl := Option.some.inj (gSix.symm.trans hg')
  obtain rfl := Option.some.inj (gSixType.symm.trans ht')
  obtain ⟨xs, m, _, hx, hl, hxl, hf⟩ := DataW.trod_array Tryd.underlying44 hd
  rw [cellsP] at hf
  have key : ∀ i, i < 6 → (cs.toList.drop (i * 2)).take 2 = [.int .i64 ([1, 0, 0, 1, -1, 1, -1, 0, 0, -1, 1, -1].getD (i * 2) 0), .int .i64 ([1, 0, 0, 1, -1, 1, -1, 0, 0, -1, 1, -1].getD (i * 2 + 1) 0)] := by
    intro i hi
    have h1 := hf i hi
    have hxi : i < xs.length := by omega
    obtain ⟨d, pl, hd⟩ : ∃ d pl, xs[i]? = some (d, pl) := ⟨xs[i].1, xs[i].2, by rw [List.getElem?_eq_getElem hxi]⟩
    rw [hd] at h1
    have h2 : (xs.map (·.1))[i]? = some d := by rw [List.getElem?_map, hd]; rfl
    simp only [Prod.mk.injEq] at hx
    have h3 := hx.1
    unfold Rows.laid_honeycomb_axis_six at h3
    simp only [DataW.agg.injEq] at h3
    rw [← h3] at h2
    have hi6 : i = 0 ∨ i = 1 ∨ i = 2 ∨ i = 3 ∨ i = 4 ∨ i = 5 := by omega
    rcases hi6 with rfl | rfl | rfl | rfl | rfl | rfl <;>
    · simp only [List.getElem?_cons_zero, List.getElem?_cons_succ, Option.some.injEq] at h2
      subst h2
      exact point_cells h1
  have hlen : cs.size = 12 := by
    have : Tryd.prog.cellsOf 44 = 12 := by kernel_rfl
    rw [this] at hl; simpa using hl
  have cell : ∀ j, W.cell? ⟨0, j, none⟩ = cs[j]? := fun j => World.var?_cell gSix hvar j
  have val : ∀ j, j < 12 → cs[j]? = some (.int .i64 ([1, 0, 0, 1, -1, 1, -1, 0, 0, -1, 1, -1].getD j 0)) := by
    intro j hj
    rcases Nat.mod_two_eq_zero_or_one j with e | e
    · obtain ⟨i, rfl⟩ : ∃ i, j = i * 2 := ⟨j / 2, by omega⟩
      have hk := key i (by omega)
      have := congrArg (·[0]?) hk
      simpa [List.getElem?_take, List.getElem?_drop] using this
    · obtain ⟨i, rfl⟩ : ∃ i, j = i * 2 + 1 := ⟨j / 2, by omega⟩
      have hk := key i (by omega)
      have := congrArg (·[1]?) hk
      simpa [List.getElem?_take, List.getElem?_drop] using this
  refine ⟨?_, fun j hj => by rw [cell, val j hj]⟩
  have h0 := (cell 0).trans (val 0 (by omega))
  unfold World.cell? at h0
  split at h0
  · rename_i hh
    exact (Array.getElem?_eq_some_iff.1 hh).1
  · cases h0

/-- a world for the witness: the settled one, the table holding what its initialiser lays -/
noncomputable def laidWorld (os : Os) : World :=
  { World.holding Tryd.prog os ⟨#[], #[], []⟩ with heap := (World.holding Tryd.prog os ⟨#[], #[], []⟩).heap.modify 0 fun
      | .cells _ t frozen => .cells #[.int .i64 1, .int .i64 0, .int .i64 0, .int .i64 1, .int .i64 (-1), .int .i64 1, .int .i64 (-1), .int .i64 0, .int .i64 0, .int .i64 (-1), .int .i64 1, .int .i64 (-1)] t frozen
      | o => o }
end Go.Proofs.YtjpcdlnhpaigkaaDoor.ax
