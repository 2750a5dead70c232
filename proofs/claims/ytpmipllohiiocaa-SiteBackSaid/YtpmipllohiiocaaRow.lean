/- From a walk that answers true to the row of a law: what the arguments read as stays; small structs of numbers, opened. -/
import Derived.Test.YtpmipllohiiocaaBase
import Derived.WideKeyArgs
import Derived.Lib.SmallJoins
namespace Go.Proofs.Ytpmipllohiiocaa.bs
open Go.ChangeShapes Go.WideShapes Go.ChangeAt Go.RowKit Go.Joins

section
variable {H : Type} {enc : TypeId × Value → H} {P : Program}
theorem trodAll_stays {W W' : World} {sp : Nat → Bool} (hl : laidOutB P = true) :
    ∀ (ts : List TypeId) (vs : List Value) (ds : List (DataW H)) (ps : List MemPlace), (∀ t ∈ ts, P.readableRec t = true ∧ t < P.types.size) →
      DataW.TrodAll enc P W 0 (fun _ => true) true ts vs ds ps → (∀ p ∈ ps, W.sameAt W' p) → (∀ p ∈ ps, sp p.block = true) → DataW.TrodAll enc P W' 0 sp true ts vs ds ps := by
  intro ts
  induction ts with
  | nil =>
    intro vs ds ps _ h _ _
    obtain ⟨rfl, rfl, rfl⟩ := trodAll_nil h
    exact trodAll_mk0
  | cons t ts ih =>
    intro vs ds ps hr h hs hp
    obtain ⟨v, vs', d, ds', p, q, rfl, rfl, rfl, h1, h2⟩ := trodAll_cons h
    have hr1 := hr t (by simp)
    exact trodAll_cons_mk (WideElems.Trod_stays hl hr1.1 hr1.2 h1 (fun x hx => hs x (by simp [hx])) (fun x hx => hp x (by simp [hx])))
      (ih vs' ds' q (fun t' ht' => hr t' (by simp [ht'])) h2 (fun x hx => hs x (by simp [hx])) (fun x hx => hp x (by simp [hx])))

/-- the whole of a law's row behind its walk: it answers true, and memory that was there stays -/
theorem post_law {f : Func} {s : ChangeSpec} {tb : TypeId} {W W' : World} {args : Array Value} {ds gs : List (DataW H)} {before : List MemPlace}
    (hW : DataW.Whole enc P f.params.toList s.vars false W args.toList ds gs before) (hb : Below W.heap.size W W')
    (hl : laidOutB P = true) (hr : ∀ t ∈ f.params.toList, P.readableRec t = true ∧ t < P.types.size)
    (hvars : s.vars = []) (hres : f.resultTypes = #[tb]) (ht : P.underlying tb = some .bool)
    (hs : s.fn H (ds ++ gs) = { results := [.lit (.bool true)], args := ds }) (hok : ∀ W', Value.okWide P W' .any 0 tb (.bool true)) :
    s.post enc P f false true false false W args (.bool true) W' := by
  have hW' := hW
  obtain ⟨p, q, hA, hV, hpq, _, _⟩ := hW
  rw [hvars] at hV
  obtain ⟨rfl, rfl⟩ := trodVars_none hV
  have hbp : before = p := by rw [hpq]; simp
  refine post_of_below (pa := p) (pv := []) hW' (fun _ _ _ => ?_) (fun sp hsp => ?_) (fun _ _ => ?_) (by rw [hpq]) hb ?_
  · rw [hs, hres]
    exact trodAll_cons_mk (shut_bool ht _) trodAll_mk0
  · rw [hs]
    refine trodAll_stays hl _ _ _ _ hr hA (fun x hx => hb.same (hW'.lt x (by rw [hbp]; exact hx))) (fun x hx => hsp x (by rw [hbp]; exact hx))
  · rw [hs, hvars]
    rfl
  · intro j t r h1 h2
    rw [hres] at h1 h2
    match j with
    | 0 =>
      simp at h1
      subst h1
      simp [Value.resultList] at h2
      subst h2
      exact hok W'
    | j + 1 => simp at h1
end

section
variable {H : Type} {enc : TypeId × Value → H} {w : World} {base : Nat} {sp : Nat → Bool} {held : Bool}
set_option maxRecDepth 100000 in
theorem point_cells {fuel : Nat} {cs : List Value} {x : DataW H × List MemPlace} (h : DataW.trod enc Try.prog w base sp held fuel 32 cs = some x) :
    ∃ a b, cs = [.int .i64 a, .int .i64 b] ∧ (Lit.int .i64 a).wf = true ∧ (Lit.int .i64 b).wf = true := by
  obtain ⟨xs, n, _, hx, hl, hxl, hf⟩ := DataW.trod_struct Try.underlying32 h
  rw [show Try.prog.cellsOf 32 = 2 by kernel_rfl] at hl
  have hI : Try.prog.cellsOf 2 = 1 := by kernel_rfl
  have hxl2 : xs.length = 2 := hxl
  match cs, hl with
  | [c0, c1], _ =>
    match xs, hxl2 with
    | [y0, y1], _ =>
      have f0 := hf 0 _ rfl
      have f1 := hf 1 _ rfl
      obtain ⟨n0, e0, _, w0⟩ := DataW.trod_int Try.underlying2 f0
      obtain ⟨n1, e1, _, w1⟩ := DataW.trod_int Try.underlying2 f1
      simp [hI] at e0 e1
      subst e0 e1
      exact ⟨n0, n1, rfl, w0, w1⟩
set_option maxRecDepth 100000 in
theorem open_point {r : Reach} {b0 : Nat} {v : Value} {d : DataW H} {p : List MemPlace} (hv : Value.okWide Try.prog w r b0 32 v) (h : DataW.Trod enc Try.prog w base sp held 32 v d p) :
    ∃ a b, v = .agg #[.int .i64 a, .int .i64 b] ∧ (Lit.int .i64 a).wf = true ∧ (Lit.int .i64 b).wf = true := by
  obtain ⟨cs, rfl, hsz⟩ := okWide_struct Try.underlying32 hv
  obtain ⟨l⟩ := cs
  obtain ⟨fuel, hf⟩ := h
  obtain ⟨a, b, e, wa, wb⟩ := point_cells hf
  simp [Value.cells] at e
  subst e
  exact ⟨a, b, rfl, wa, wb⟩
set_option maxRecDepth 100000 in
theorem open_box {r : Reach} {b0 : Nat} {v : Value} {d : DataW H} {p : List MemPlace} (hv : Value.okWide Try.prog w r b0 55 v) (h : DataW.Trod enc Try.prog w base sp held 55 v d p) :
    ∃ a b c e, v = .agg #[.int .i64 a, .int .i64 b, .int .i64 c, .int .i64 e] ∧ (Lit.int .i64 a).wf = true ∧ (Lit.int .i64 b).wf = true ∧ (Lit.int .i64 c).wf = true ∧ (Lit.int .i64 e).wf = true := by
  obtain ⟨cs, rfl, hsz⟩ := okWide_struct Try.underlying55 hv
  obtain ⟨l⟩ := cs
  obtain ⟨fuel, hf⟩ := h
  obtain ⟨xs, n, _, hx, hl, hxl, hg⟩ := DataW.trod_struct Try.underlying55 hf
  rw [show Try.prog.cellsOf 55 = 4 by kernel_rfl] at hl
  have hP : Try.prog.cellsOf 32 = 2 := by kernel_rfl
  have hxl2 : xs.length = 2 := hxl
  match xs, hxl2 with
  | [y0, y1], _ =>
    obtain ⟨a, b, e0, wa, wb⟩ := point_cells (hg 0 _ rfl)
    obtain ⟨c, e, e1, wc, we⟩ := point_cells (hg 1 _ rfl)
    simp [Value.cells, hP] at e0 e1 hl
    match l, hl with
    | [c0, c1, c2, c3], _ =>
      simp at e0 e1
      obtain ⟨rfl, rfl⟩ := e0
      obtain ⟨rfl, rfl⟩ := e1
      exact ⟨a, b, c, e, rfl, wa, wb, wc, we⟩
end
end Go.Proofs.Ytpmipllohiiocaa.bs
