/- Empty nodes from a new arena on: plain facts, level by level. -/
import Derived.Test.YtbeijhjafmalgaaDoorArOwn
namespace Go.Proofs.YtbeijhjafmalgaaDoor.ar
open Go.RowKit

theorem Nd.eq_iff (a b : Nd) : a = b ↔ (a.key = b.key ∧ a.count = b.count) := by
  cases a; cases b; simp
instance : DecidableEq Nd := fun a b => decidable_of_iff _ (Nd.eq_iff a b).symm
def eR (n : Nat) : List Nd × List Int × Int × Int := emptyN [nd0] [0, 0, 0] 1000 ((n : Int) + 2)
def emB (em : List Int) : Bool := decide (3 ≤ em.length) && (decide (em.length ≤ 45) && em.all (fun x => decide (0 ≤ x) && decide (x < 4294967296)))
theorem emOk_of {nodes : List Nd} {em : List Int} (h : emB em = true) : EmOk nodes em := by
  simp only [emB, Bool.and_eq_true, decide_eq_true_eq, List.all_eq_true] at h
  refine ⟨h.1, h.2.1, fun i => ?_⟩
  rw [List.getD_eq_getElem?_getD]
  cases hx : em[i]? with
  | none => exact ⟨by simp, by simp⟩
  | some x => exact h.2.2 x (List.mem_of_getElem? hx)
def ansB (r : List Nd × List Int × Int × Int) (N : List Nd) (E : List Int) (i c : Int) : Bool := decide (r.1 = N) && (decide (r.2.1 = E) && (decide (r.2.2.1 = i) && decide (r.2.2.2 = c)))
theorem ans_of {r : List Nd × List Int × Int × Int} {N : List Nd} {E : List Int} {i c : Int} (h : ansB r N E i c = true) : r = (N, E, i, c) := by
  simp only [ansB, Bool.and_eq_true, decide_eq_true_eq] at h
  obtain ⟨r1, r2, r3, r4⟩ := r
  obtain ⟨rfl, rfl, rfl, rfl⟩ := h
  rfl
def up (n : Nat) : List Nd × Int × Int := joinN (eR n).1 1000 n n n n
def factB (n : Nat) : Bool :=
  ansB (eR n) (eR n).1 (eR n).2.1 n 0 && (emB (eR n).2.1 && (decide ((eR n).1.length = n + 1) && (ansB (emptyN (eR n).1 (eR n).2.1 1000 ((n : Int) + 2)) (eR n).1 (eR n).2.1 n 0 &&
  (decide (lvAt (eR n).1 n = (n : Int) + 2) && (decide (cntAt (eR n).1 n = 0) &&
  ((n == 0 || (ansB (emptyN (eR n).1 (eR n).2.1 1000 ((n : Int) + 1)) (eR n).1 (eR n).2.1 ((n : Int) - 1) 0 && decide (keyAt (eR n).1 n = ⟨(n : Int) + 2, 0, (n : Int) - 1, (n : Int) - 1, (n : Int) - 1, (n : Int) - 1⟩))) &&
  (if n = 42 then decide ((up n).1 = (eR n).1) && (decide ((up n).2.1 = 0) && (decide ((up n).2.2 = 7) && ansB (emptyN (eR n).1 (eR n).2.1 1000 45) (eR n).1 (eR n).2.1 0 7))
    else decide ((up n).2.1 = (n : Int) + 1) && (decide ((up n).2.2 = 0) && (decide ((up n).1.length < 1000) &&
      ansB (emptyN (up n).1 (eR n).2.1 1000 ((n : Int) + 3)) (up n).1 (emptyN (up n).1 (eR n).2.1 1000 ((n : Int) + 3)).2.1 ((n : Int) + 1) 0)))))))))
theorem facts_all : ((List.range 43).all factB) = true := by decide +kernel
theorem facts (n : Nat) (h : n < 43) : factB n = true := List.all_eq_true.1 facts_all n (List.mem_range.2 h)
structure Facts (n : Nat) : Prop where
  r : eR n = ((eR n).1, (eR n).2.1, (n : Int), 0)
  ok : EmOk (eR n).1 (eR n).2.1
  len : (eR n).1.length = n + 1
  again : emptyN (eR n).1 (eR n).2.1 1000 ((n : Int) + 2) = ((eR n).1, (eR n).2.1, (n : Int), 0)
  lv : lvAt (eR n).1 n = (n : Int) + 2
  cnt : cntAt (eR n).1 n = 0
  below : n ≠ 0 → emptyN (eR n).1 (eR n).2.1 1000 ((n : Int) + 1) = ((eR n).1, (eR n).2.1, (n : Int) - 1, 0) ∧ keyAt (eR n).1 n = ⟨(n : Int) + 2, 0, (n : Int) - 1, (n : Int) - 1, (n : Int) - 1, (n : Int) - 1⟩
  top : n = 42 → joinN (eR n).1 1000 n n n n = ((eR n).1, 0, 7) ∧ emptyN (eR n).1 (eR n).2.1 1000 45 = ((eR n).1, (eR n).2.1, 0, 7)
  more : n ≠ 42 → joinN (eR n).1 1000 n n n n = ((up n).1, (n : Int) + 1, 0) ∧ (up n).1.length < 1000 ∧ emptyN (up n).1 (eR n).2.1 1000 ((n : Int) + 3) = ((up n).1, (emptyN (up n).1 (eR n).2.1 1000 ((n : Int) + 3)).2.1, (n : Int) + 1, 0)
theorem facts_of (n : Nat) (h : n < 43) : Facts n := by
  have hf := facts n h
  simp only [factB, Bool.and_eq_true, decide_eq_true_eq, Bool.or_eq_true, beq_iff_eq] at hf
  obtain ⟨h1, h2, h3, h4, h5, h6, h7, h8⟩ := hf
  refine ⟨ans_of h1, emOk_of h2, h3, ans_of h4, h5, h6, fun hn => ?_, fun hn => ?_, fun hn => ?_⟩
  · rcases h7 with h7 | h7
    · exact absurd h7 hn
    · exact ⟨ans_of h7.1, h7.2⟩
  · rw [if_pos hn] at h8
    simp only [Bool.and_eq_true, decide_eq_true_eq] at h8
    obtain ⟨a, b, c, d⟩ := h8
    refine ⟨?_, ans_of d⟩
    show up n = _
    generalize up n = u at *
    obtain ⟨u1, u2, u3⟩ := u
    dsimp only at a b c
    rw [a, b, c]
  · rw [if_neg hn] at h8
    simp only [Bool.and_eq_true, decide_eq_true_eq] at h8
    obtain ⟨a, b, c, d⟩ := h8
    refine ⟨?_, c, ans_of d⟩
    show up n = _
    generalize up n = u at *
    obtain ⟨u1, u2, u3⟩ := u
    dsimp only at a b
    rw [a, b]
end Go.Proofs.YtbeijhjafmalgaaDoor.ar
