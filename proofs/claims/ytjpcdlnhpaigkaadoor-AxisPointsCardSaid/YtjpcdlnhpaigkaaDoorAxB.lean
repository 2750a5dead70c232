/- Walks over the package axis, continued: Plus, Less, Then, Back, Six, Sum; the reference's Good, On, Then. -/
import Derived.Test.YtjpcdlnhpaigkaaDoorAxA
namespace Go.Proofs.YtjpcdlnhpaigkaaDoor.ax
open Go.ChangeShapes Go.WideShapes Go.ChangeAt Go.RowKit

theorem plus_bad (a b c d : Int) (w : World) (h : good a b = false ∨ good c d = false ∨ good (a + c) (b + d) = false) :
    Calls Tryd.prog 15 #[.agg #[.int .i64 a, .int .i64 b], .agg #[.int .i64 c, .int .i64 d]] w fun e w' => e = .returned (.tuple #[zeroP, errV 6]) ∧ Below w.heap.size w w' := by
  by_cases h1 : good a b = true
  · by_cases h2 : good c d = true
    · have h3 : good (a + c) (b + d) = false := by simp_all
      have b1 := good_bd h1
      have b2 := good_bd h2
      clear h
      go_enter Tryd.func15, Tryd.ntmps15
      go_wp2_with (fail)
      (go_at_call 16; refine (good_walk _ _ _).mono ?_; rintro e w1 ⟨rfl, hb⟩; have Hz := Lib.hid hb.size; obtain ⟨_, _, _⟩ := at_ (w.heap.size) hb (by go_size); obtain ⟨_, _, _⟩ := at_ (w.heap.size + 1) hb (by go_size); obtain ⟨_, _, _⟩ := at_ (w.heap.size + 2) hb (by go_size))
      go_wp2_with (fail)
      (go_at_call 16; refine (good_walk _ _ _).mono ?_; rintro e w2 ⟨rfl, hb⟩; have Hz := Lib.hid hb.size; obtain ⟨_, _, _⟩ := at_ (w.heap.size) hb (by go_size); obtain ⟨_, _, _⟩ := at_ (w.heap.size + 1) hb (by go_size); obtain ⟨_, _, _⟩ := at_ (w.heap.size + 2) hb (by go_size))
      go_wp2_with (fail)
      (go_at_call 16; refine (good_walk _ _ _).mono ?_; rintro e w3 ⟨rfl, hb⟩; have Hz := Lib.hid hb.size; obtain ⟨_, _, _⟩ := at_ (w.heap.size + 2) hb (by go_size))
      go_wp2
      refine bodyPost_ret (v := .tuple #[zeroP, errV 6]) (by simp [results, Tryd.results15, go_sem, *, zeroP, errV]) rfl ⟨rfl, ?_⟩
      (repeat' (first | (with_reducible exact Below.refl _ _) | (with_reducible assumption) | (with_reducible refine Below.alloc ?_ ?_ _) | (with_reducible refine Below.drew ?_) | (with_reducible refine Below.setCell ?_ ?_ _) | (with_reducible refine chain ?_ (by assumption) ?_) | go_size))
    · have h2 : good c d = false := by simpa using h2
      clear h
      go_enter Tryd.func15, Tryd.ntmps15
      go_wp2_with (fail)
      (go_at_call 16; refine (good_walk _ _ _).mono ?_; rintro e w1 ⟨rfl, hb⟩; have Hz := Lib.hid hb.size; obtain ⟨_, _, _⟩ := at_ (w.heap.size) hb (by go_size); obtain ⟨_, _, _⟩ := at_ (w.heap.size + 1) hb (by go_size); obtain ⟨_, _, _⟩ := at_ (w.heap.size + 2) hb (by go_size))
      go_wp2_with (fail)
      (go_at_call 16; refine (good_walk _ _ _).mono ?_; rintro e w2 ⟨rfl, hb⟩; have Hz := Lib.hid hb.size; obtain ⟨_, _, _⟩ := at_ (w.heap.size + 2) hb (by go_size))
      go_wp2
      refine bodyPost_ret (v := .tuple #[zeroP, errV 6]) (by simp [results, Tryd.results15, go_sem, *, zeroP, errV]) rfl ⟨rfl, ?_⟩
      (repeat' (first | (with_reducible exact Below.refl _ _) | (with_reducible assumption) | (with_reducible refine Below.alloc ?_ ?_ _) | (with_reducible refine Below.drew ?_) | (with_reducible refine Below.setCell ?_ ?_ _) | (with_reducible refine chain ?_ (by assumption) ?_) | go_size))
  · have h1 : good a b = false := by simpa using h1
    clear h
    go_enter Tryd.func15, Tryd.ntmps15
    go_wp2_with (fail)
    (go_at_call 16; refine (good_walk _ _ _).mono ?_; rintro e w1 ⟨rfl, hb⟩; have Hz := Lib.hid hb.size; obtain ⟨_, _, _⟩ := at_ (w.heap.size + 2) hb (by go_size))
    go_wp2
    refine bodyPost_ret (v := .tuple #[zeroP, errV 6]) (by simp [results, Tryd.results15, go_sem, *, zeroP, errV]) rfl ⟨rfl, ?_⟩
    (repeat' (first | (with_reducible exact Below.refl _ _) | (with_reducible assumption) | (with_reducible refine Below.alloc ?_ ?_ _) | (with_reducible refine Below.drew ?_) | (with_reducible refine Below.setCell ?_ ?_ _) | (with_reducible refine chain ?_ (by assumption) ?_) | go_size))

theorem plus_ok (a b c d : Int) (w : World) (h1 : good a b = true) (h2 : good c d = true) (h3 : good (a + c) (b + d) = true) :
    Calls Tryd.prog 15 #[.agg #[.int .i64 a, .int .i64 b], .agg #[.int .i64 c, .int .i64 d]] w fun e w' => e = .returned (.tuple #[ptV (a + c, b + d), .nilIface]) ∧ Below w.heap.size w w' := by
  have b1 := good_bd h1
  have b2 := good_bd h2
  go_enter Tryd.func15, Tryd.ntmps15
  go_wp2_with (fail)
  (go_at_call 16; refine (good_walk _ _ _).mono ?_; rintro e w1 ⟨rfl, hb⟩; have Hz := Lib.hid hb.size; obtain ⟨_, _, _⟩ := at_ (w.heap.size) hb (by go_size); obtain ⟨_, _, _⟩ := at_ (w.heap.size + 1) hb (by go_size); obtain ⟨_, _, _⟩ := at_ (w.heap.size + 2) hb (by go_size))
  go_wp2_with (fail)
  (go_at_call 16; refine (good_walk _ _ _).mono ?_; rintro e w2 ⟨rfl, hb⟩; have Hz := Lib.hid hb.size; obtain ⟨_, _, _⟩ := at_ (w.heap.size) hb (by go_size); obtain ⟨_, _, _⟩ := at_ (w.heap.size + 1) hb (by go_size); obtain ⟨_, _, _⟩ := at_ (w.heap.size + 2) hb (by go_size))
  go_wp2_with (fail)
  (go_at_call 16; refine (good_walk _ _ _).mono ?_; rintro e w3 ⟨rfl, hb⟩; have Hz := Lib.hid hb.size; obtain ⟨_, _, _⟩ := at_ (w.heap.size + 2) hb (by go_size); obtain ⟨_, _, _⟩ := at_ (w2.heap.size) hb (by go_size))
  go_wp2
  refine bodyPost_ret (v := .tuple #[ptV (a + c, b + d), .nilIface]) (by simp [results, Tryd.results15, go_sem, *, ptV]) rfl ⟨rfl, ?_⟩
  (repeat' (first | (with_reducible exact Below.refl _ _) | (with_reducible assumption) | (with_reducible refine Below.alloc ?_ ?_ _) | (with_reducible refine Below.drew ?_) | (with_reducible refine Below.setCell ?_ ?_ _) | (with_reducible refine chain ?_ (by assumption) ?_) | go_size))

def less (a b c d : Int) : Bool := decide (b < d) || (decide (b = d) && decide (a < c))
theorem less_walk (a b c d : Int) (w : World) :
    Calls Tryd.prog 17 #[.agg #[.int .i64 a, .int .i64 b], .agg #[.int .i64 c, .int .i64 d]] w fun e w' => e = .returned (.bool (less a b c d)) ∧ Below w.heap.size w w' := by
  go_enter Tryd.func17, Tryd.ntmps17
  by_cases h1 : b < d
  · go_wp2
    all_goals go_ret
    all_goals exact ⟨by unfold less; simp [h1], by (repeat' (first | (with_reducible exact Below.refl _ _) | (with_reducible assumption) | (with_reducible refine Below.alloc ?_ ?_ _) | (with_reducible refine Below.drew ?_) | (with_reducible refine Below.setCell ?_ ?_ _) | (with_reducible refine chain ?_ (by assumption) ?_) | go_size))⟩
  · by_cases h2 : b = d
    · subst h2
      go_wp2
      all_goals go_ret
      all_goals exact ⟨by unfold less; simp, by (repeat' (first | (with_reducible exact Below.refl _ _) | (with_reducible assumption) | (with_reducible refine Below.alloc ?_ ?_ _) | (with_reducible refine Below.drew ?_) | (with_reducible refine Below.setCell ?_ ?_ _) | (with_reducible refine chain ?_ (by assumption) ?_) | go_size))⟩
    · go_wp2
      all_goals go_ret
      all_goals exact ⟨by unfold less; simp [h1, h2], by (repeat' (first | (with_reducible exact Below.refl _ _) | (with_reducible assumption) | (with_reducible refine Below.alloc ?_ ?_ _) | (with_reducible refine Below.drew ?_) | (with_reducible refine Below.setCell ?_ ?_ _) | (with_reducible refine chain ?_ (by assumption) ?_) | go_size))⟩

theorem six_walk (w : World) (hw : 0 < w.heap.size)
    (h : ∀ j, j < 12 → w.cell? ⟨0, j, none⟩ = some (.int .i64 ([1, 0, 0, 1, -1, 1, -1, 0, 0, -1, 1, -1].getD j 0))) :
    Calls Tryd.prog 21 #[] w fun e w' => e = .returned (.agg #[.int .i64 1, .int .i64 0, .int .i64 0, .int .i64 1, .int .i64 (-1), .int .i64 1, .int .i64 (-1), .int .i64 0, .int .i64 0, .int .i64 (-1), .int .i64 1, .int .i64 (-1)]) ∧ Below w.heap.size w w' := by
  have h0 := h 0 (by omega)
  have h1 := h 1 (by omega)
  have h2 := h 2 (by omega)
  have h3 := h 3 (by omega)
  have h4 := h 4 (by omega)
  have h5 := h 5 (by omega)
  have h6 := h 6 (by omega)
  have h7 := h 7 (by omega)
  have h8 := h 8 (by omega)
  have h9 := h 9 (by omega)
  have h10 := h 10 (by omega)
  have h11 := h 11 (by omega)
  simp at h0 h1 h2 h3 h4 h5 h6 h7 h8 h9 h10 h11
  clear h
  go_enter Tryd.func21, Tryd.ntmps21
  go_wp2
  refine bodyPost_ret (v := .agg #[.int .i64 1, .int .i64 0, .int .i64 0, .int .i64 1, .int .i64 (-1), .int .i64 1, .int .i64 (-1), .int .i64 0, .int .i64 0, .int .i64 (-1), .int .i64 1, .int .i64 (-1)]) (by simp [results, Tryd.results21, go_sem]) rfl ⟨rfl, ?_⟩
  (repeat' (first | (with_reducible exact Below.refl _ _) | (with_reducible assumption) | (with_reducible refine Below.alloc ?_ ?_ _) | (with_reducible refine Below.drew ?_) | (with_reducible refine Below.setCell ?_ ?_ _) | (with_reducible refine chain ?_ (by assumption) ?_) | go_size))

theorem sum_walk (a b : Int) (w : World) (ok : Bool) (hok : ok = (decide (wrap64 (a + b) > a) == decide (b > 0))) :
    Calls Tryd.prog 14 #[.int .i64 a, .int .i64 b] w fun e w' => e = .returned (.tuple #[.int .i64 (wrap64 (a + b)), .bool ok]) ∧ w = w' := by
  have H := Lib.hid hok
  clear hok
  go_enter Tryd.func14, Tryd.ntmps14
  go_wp2
  all_goals go_ret2
  all_goals exact ⟨by rw [H.out]; rfl, rfl⟩
theorem rgood_walk (a b : Int) (w : World) :
    Calls Tryd.prog 12 #[.int .i64 a, .int .i64 b] w fun e w' => e = .returned (.bool (good a b)) ∧ w = w' := by
  go_enter Tryd.func12, Tryd.ntmps12
  go_wp2
  all_goals go_ret
  all_goals refine ⟨?_, rfl⟩
  all_goals (unfold good; simp [*]; try omega)
end Go.Proofs.YtjpcdlnhpaigkaaDoor.ax
