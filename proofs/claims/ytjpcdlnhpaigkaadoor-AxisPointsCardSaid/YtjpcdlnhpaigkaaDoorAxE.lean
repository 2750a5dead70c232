/- The head of the laws on axis: awake; and what the laws AxisSums, AxisPoints, AxisTurns answer. -/
import Derived.Test.YtjpcdlnhpaigkaaDoorAxD
namespace Go.Proofs.YtjpcdlnhpaigkaaDoor.ax
open Go.ChangeShapes Go.WideShapes Go.ChangeAt Go.RowKit

def sixV : Value := .agg #[.int .i64 1, .int .i64 0, .int .i64 0, .int .i64 1, .int .i64 (-1), .int .i64 1, .int .i64 (-1), .int .i64 0, .int .i64 0, .int .i64 (-1), .int .i64 1, .int .i64 (-1)]
/-- the table of the six points lies in its variable -/
def SixAt (w : World) : Prop := 0 < w.heap.size ∧ ∀ j, j < 12 → w.cell? ⟨0, j, none⟩ = some (.int .i64 ([1, 0, 0, 1, -1, 1, -1, 0, 0, -1, 1, -1].getD j 0))
theorem SixAt.below {w w' : World} (h : SixAt w) (hb : Below w.heap.size w w') : SixAt w' :=
  ⟨Nat.lt_of_lt_of_le h.1 hb.size, fun j hj => (hb.cell (p := ⟨0, j, none⟩) h.1).trans (h.2 j hj)⟩

theorem awake_walk (w : World) (hS : SixAt w) :
    Calls Tryd.prog 9 #[] w fun e w' => e = .returned (.bool true) ∧ Below w.heap.size w w' := by
  have HS := Lib.hid hS
  clear hS
  have i1 : img 1 1 0 = (0, 1) := by decide
  have i6 : img 6 2 (-1) = (-1, 2) := by decide
  have i5 : ∀ w, (Instr.index 44 sixV (.int .i64 5)).run Tryd.prog w = .ok (.agg #[.int .i64 1, .int .i64 (-1)]) w := fun _ => by kernel_rfl
  unfold sixV at i5
  go_enter Tryd.func9, Tryd.ntmps9
  go_wp2_with (fail)
  refine (on_ok 1 1 0 _ (by decide) (by decide) (by decide)).mono ?_; rintro e w1 ⟨rfl, hb⟩
  simp only [i1, ptV]
  have hz := hb.size; (try simp only [World.size_alloc, World.size_setCell, World.size_drew, World.heap_drewN] at hz); skip
  go_wp2_with (fail)
  refine (on_ok 6 2 (-1) _ (by decide) (by decide) (by decide)).mono ?_; rintro e w2 ⟨rfl, hb⟩
  simp only [i6, ptV]
  have hz := hb.size; (try simp only [World.size_alloc, World.size_setCell, World.size_drew, World.heap_drewN] at hz); obtain ⟨_, _, _⟩ := at_ (w1.heap.size) hb (by go_size)
  go_wp2_with (fail)
  have hS2 : SixAt (w2.alloc (.cells #[.int .i64 (-1), .int .i64 2] 24)) := HS.out.below (by (repeat' (first | (with_reducible exact Below.refl _ _) | (with_reducible assumption) | (with_reducible refine Below.alloc ?_ ?_ _) | (with_reducible refine Below.drew ?_) | (with_reducible refine Below.setCell ?_ ?_ _) | (with_reducible refine chain ?_ (by assumption) ?_) | go_size)))
  refine (six_walk _ hS2.1 hS2.2).mono ?_; rintro e w3 ⟨rfl, hb⟩
  clear hS2
  have hz := hb.size; (try simp only [World.size_alloc, World.size_setCell, World.size_drew, World.heap_drewN] at hz); skip
  go_wp2
  go_ret
  exact ⟨rfl, by (repeat' (first | (with_reducible exact Below.refl _ _) | (with_reducible assumption) | (with_reducible refine Below.alloc ?_ ?_ _) | (with_reducible refine Below.drew ?_) | (with_reducible refine Below.setCell ?_ ?_ _) | (with_reducible refine chain ?_ (by assumption) ?_) | go_size))⟩

theorem ret_bool {x : Bool} (h : x = true) : Ending.returned (.bool x) = .returned (.bool true) := by rw [h]
theorem sum_tells (a b : Int) (ha : -9223372036854775808 ≤ a ∧ a ≤ 9223372036854775807) (hb : -9223372036854775808 ≤ b ∧ b ≤ 9223372036854775807) :
    (decide (wrap64 (a + b) > a) == decide (b > 0)) = decide (-9223372036854775808 ≤ a + b ∧ a + b ≤ 9223372036854775807) := by
  have h : wrap64 (a + b) = if a + b > 9223372036854775807 then a + b - 18446744073709551616 else if a + b < -9223372036854775808 then a + b + 18446744073709551616 else a + b := by
    unfold wrap64; split <;> (try split) <;> omega
  rw [h, Bool.eq_iff_iff, beq_iff_eq, decide_eq_decide, decide_eq_true_eq]
  split <;> (try split) <;> omega
theorem sum_in (a b : Int) (ha : -9223372036854775808 ≤ a ∧ a ≤ 9223372036854775807) (hb : -9223372036854775808 ≤ b ∧ b ≤ 9223372036854775807) (h : -9223372036854775808 ≤ a + b ∧ a + b ≤ 9223372036854775807) :
    true = (decide (wrap64 (a + b) > a) == decide (b > 0)) := by rw [sum_tells a b ha hb, decide_eq_true h]
theorem sum_out (a b : Int) (ha : -9223372036854775808 ≤ a ∧ a ≤ 9223372036854775807) (hb : -9223372036854775808 ≤ b ∧ b ≤ 9223372036854775807) (h : ¬(-9223372036854775808 ≤ a + b ∧ a + b ≤ 9223372036854775807)) :
    false = (decide (wrap64 (a + b) > a) == decide (b > 0)) := by rw [sum_tells a b ha hb, decide_eq_false h]

set_option maxHeartbeats 400000 in
theorem sums_walk (a b : Int) (w : World) (hS : SixAt w) (ha : -9223372036854775808 ≤ a ∧ a ≤ 9223372036854775807) (hb0 : -9223372036854775808 ≤ b ∧ b ≤ 9223372036854775807) :
    Calls Tryd.prog 4 #[.int .i64 a, .int .i64 b] w fun e w' => e = .returned (.bool true) ∧ Below w.heap.size w w' := by
  have HS := Lib.hid hS
  clear hS
  have H1 := Lib.hid (sum_in a b ha hb0)
  have H2 := Lib.hid (sum_out a b ha hb0)
  obtain ⟨a1, a2⟩ := ha
  obtain ⟨b1, b2⟩ := hb0
  by_cases h0 : 0 < a
  · by_cases h1 : b ≤ 9223372036854775807 - a
    · have hwr : wrap64 (a + b) = a + b := by unfold wrap64; omega
      go_enter Tryd.func4, Tryd.ntmps4
      go_wp2_with (first | (go_at_call 14; refine (sum_walk _ _ _ true (H1.out (by omega))).mono ?_; rintro e w1 ⟨rfl, rfl⟩) | (go_at_call 9; refine (awake_walk _ HS.out).mono ?_; rintro e w1 ⟨rfl, hb⟩; have hz := hb.size; (try simp only [World.size_alloc, World.size_setCell, World.size_drew, World.heap_drewN] at hz); skip))
      go_ret
      exact ⟨ret_bool (by first | rfl | (simp; omega)), by (repeat' (first | (with_reducible exact Below.refl _ _) | (with_reducible assumption) | (with_reducible refine Below.alloc ?_ ?_ _) | (with_reducible refine Below.drew ?_) | (with_reducible refine Below.setCell ?_ ?_ _) | (with_reducible refine chain ?_ (by assumption) ?_) | go_size))⟩
    · go_enter Tryd.func4, Tryd.ntmps4
      go_wp2_with (first | (go_at_call 14; refine (sum_walk _ _ _ false (H2.out (by omega))).mono ?_; rintro e w1 ⟨rfl, rfl⟩) | (go_at_call 9; refine (awake_walk _ HS.out).mono ?_; rintro e w1 ⟨rfl, hb⟩; have hz := hb.size; (try simp only [World.size_alloc, World.size_setCell, World.size_drew, World.heap_drewN] at hz); skip))
      go_ret
      exact ⟨ret_bool (by first | rfl | (simp; omega)), by (repeat' (first | (with_reducible exact Below.refl _ _) | (with_reducible assumption) | (with_reducible refine Below.alloc ?_ ?_ _) | (with_reducible refine Below.drew ?_) | (with_reducible refine Below.setCell ?_ ?_ _) | (with_reducible refine chain ?_ (by assumption) ?_) | go_size))⟩
  · by_cases h1 : a < 0
    · by_cases h2 : b < -9223372036854775808 - a
      · go_enter Tryd.func4, Tryd.ntmps4
        go_wp2_with (first | (go_at_call 14; refine (sum_walk _ _ _ false (H2.out (by omega))).mono ?_; rintro e w1 ⟨rfl, rfl⟩) | (go_at_call 9; refine (awake_walk _ HS.out).mono ?_; rintro e w1 ⟨rfl, hb⟩; have hz := hb.size; (try simp only [World.size_alloc, World.size_setCell, World.size_drew, World.heap_drewN] at hz); skip))
        go_ret
        exact ⟨ret_bool (by first | rfl | (simp; omega)), by (repeat' (first | (with_reducible exact Below.refl _ _) | (with_reducible assumption) | (with_reducible refine Below.alloc ?_ ?_ _) | (with_reducible refine Below.drew ?_) | (with_reducible refine Below.setCell ?_ ?_ _) | (with_reducible refine chain ?_ (by assumption) ?_) | go_size))⟩
      · have hwr : wrap64 (a + b) = a + b := by unfold wrap64; omega
        go_enter Tryd.func4, Tryd.ntmps4
        go_wp2_with (first | (go_at_call 14; refine (sum_walk _ _ _ true (H1.out (by omega))).mono ?_; rintro e w1 ⟨rfl, rfl⟩) | (go_at_call 9; refine (awake_walk _ HS.out).mono ?_; rintro e w1 ⟨rfl, hb⟩; have hz := hb.size; (try simp only [World.size_alloc, World.size_setCell, World.size_drew, World.heap_drewN] at hz); skip))
        go_ret
        exact ⟨ret_bool (by first | rfl | (simp; omega)), by (repeat' (first | (with_reducible exact Below.refl _ _) | (with_reducible assumption) | (with_reducible refine Below.alloc ?_ ?_ _) | (with_reducible refine Below.drew ?_) | (with_reducible refine Below.setCell ?_ ?_ _) | (with_reducible refine chain ?_ (by assumption) ?_) | go_size))⟩
    · have hwr : wrap64 (a + b) = a + b := by unfold wrap64; omega
      go_enter Tryd.func4, Tryd.ntmps4
      go_wp2_with (first | (go_at_call 14; refine (sum_walk _ _ _ true (H1.out (by omega))).mono ?_; rintro e w1 ⟨rfl, rfl⟩) | (go_at_call 9; refine (awake_walk _ HS.out).mono ?_; rintro e w1 ⟨rfl, hb⟩; have hz := hb.size; (try simp only [World.size_alloc, World.size_setCell, World.size_drew, World.heap_drewN] at hz); skip))
      go_ret
      exact ⟨ret_bool (by first | rfl | (simp; omega)), by (repeat' (first | (with_reducible exact Below.refl _ _) | (with_reducible assumption) | (with_reducible refine Below.alloc ?_ ?_ _) | (with_reducible refine Below.drew ?_) | (with_reducible refine Below.setCell ?_ ?_ _) | (with_reducible refine chain ?_ (by assumption) ?_) | go_size))⟩
end Go.Proofs.YtjpcdlnhpaigkaaDoor.ax
