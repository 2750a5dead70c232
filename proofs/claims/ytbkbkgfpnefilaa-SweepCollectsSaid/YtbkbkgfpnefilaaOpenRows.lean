/- A slice of structs among a law's arguments, opened as a row that is read. -/
import Derived.Test.YtbkbkgfpnefilaaRow
import Derived.Test.YtbkbkgfpnefilaaWWords
import Derived.ChangeArms
namespace Go.Proofs.Ytbkbkgfpnefilaa.bs
open Go.ChangeShapes Go.WideShapes Go.ChangeAt Go.RowKit Go.Joins Go.Proofs.YtbkbkgfpnefilaaW.PrintWords

theorem list_of_all {α : Type} (P : Nat → α → Prop) (n : Nat) (h : ∀ i, i < n → ∃ x, P i x) : ∃ xs : List α, xs.length = n ∧ ∀ (i : Nat) (x : α), xs[i]? = some x → P i x := by
  induction n with
  | zero => exact ⟨[], rfl, fun i x hx => by simp at hx⟩
  | succ n ih =>
    obtain ⟨xs, hl, hx⟩ := ih (fun i hi => h i (by omega))
    obtain ⟨y, hy⟩ := h n (by omega)
    refine ⟨xs ++ [y], by simp [hl], fun i x hi => ?_⟩
    rw [List.getElem?_append] at hi
    split at hi
    · exact hx i x hi
    · rename_i hge
      rw [List.getElem?_singleton] at hi
      split at hi
      · rename_i h0
        obtain rfl : i = n := by omega
        obtain rfl := Option.some.inj hi
        exact hy
      · cases hi
section
variable {H : Type} {enc : TypeId × Value → H} {P : Program} {w : World} {base : Nat} {sp : Nat → Bool} {held : Bool}
theorem open_rowsG {α : Type} (d : Kd α) (good : α → Prop) {r : Reach} {b0 : Nat} {t e : TypeId} {v : Value} {dd : DataW H} {p : List MemPlace} (ht : P.underlying t = some (.slice e)) (hc : P.cellsOf e = d.sz)
    (hel : ∀ (n : Nat) (cs : List Value) (y : DataW H × List MemPlace), DataW.trod enc P w base sp held n e cs = some y → ∃ x, good x ∧ d.K w x cs)
    (hv : Value.okWide P w r b0 t v) (h : DataW.Trod enc P w base sp held t v dd p) : ∃ A n c xs, v = .slice A n c ∧ xs.length = n ∧ d.C w A n xs ∧ ∀ x ∈ xs, good x := by
  obtain ⟨a0, l0, c0, rfl⟩ := okWide_slice ht hv
  obtain ⟨fuel, hf⟩ := h
  rcases DataW.trod_slice ht hf with ⟨hcs, _⟩ | ⟨a, len, cap, elems, rest, n, _, hcs, _, hb, hl, hm, hlen, hel', _⟩
  · simp [Value.cells] at hcs
    obtain ⟨rfl, rfl, rfl⟩ := hcs
    exact ⟨none, 0, 0, [], rfl, rfl, ⟨rfl, by decide, fun h => absurd h (by omega)⟩, fun x hx => by simp at hx⟩
  · simp [Value.cells] at hcs
    obtain ⟨rfl, rfl, rfl⟩ := hcs
    have each : ∀ i, i < l0 → ∃ x, good x ∧ ∃ cs, cs.length = d.sz ∧ d.K w x cs ∧ ∀ j u, cs[j]? = some u → w.cell? (a.add (i * d.sz + j)) = some u := by
      intro i hi
      have h1 := hel' i hi
      have h2 : elems[i]? = some (elems[i]'(by omega)) := List.getElem?_eq_getElem (by omega)
      rw [h2, Option.bind_eq_some_iff] at h1
      obtain ⟨cs, hcs, ht1⟩ := h1
      obtain ⟨x, hg, hK⟩ := hel n cs _ ht1
      obtain ⟨_, hcl, hce⟩ := World.cells?_some hcs
      refine ⟨x, hg, cs, by rw [hcl, hc], hK, fun j u hu => ?_⟩
      have hj : j < cs.length := (List.getElem?_eq_some_iff.1 hu).1
      have := hce j (by omega)
      rw [hu, hc] at this
      rw [← this]
      congr 1
      exact (Go.Proofs.YtbkbkgfpnefilaaW.PrintWords.add_add _ _ _).symm
    obtain ⟨xs, hxl, hx⟩ := list_of_all _ l0 each
    refine ⟨some a, l0, c0, xs, rfl, hxl, ⟨hxl, by have : maxLen = 9223372036854775807 := rfl; omega, fun _ => ⟨a, rfl, fun j q hj => (hx j q hj).2⟩⟩, fun x hm => ?_⟩
    obtain ⟨i, hi⟩ := List.getElem?_of_mem hm
    exact (hx i x hi).1
end
end Go.Proofs.Ytbkbkgfpnefilaa.bs
