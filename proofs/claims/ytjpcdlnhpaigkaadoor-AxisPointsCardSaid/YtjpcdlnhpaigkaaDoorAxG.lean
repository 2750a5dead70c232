/- What the law AxisPoints answers. -/
import Derived.Test.YtjpcdlnhpaigkaaDoorAxE
import Derived.Test.YtjpcdlnhpaigkaaDoorBase
namespace Go.Proofs.YtjpcdlnhpaigkaaDoor.ax
open Go.ChangeShapes Go.WideShapes Go.ChangeAt Go.RowKit

theorem five (a b c d : Int) : (b < d ∧ less a b c d = true ∧ less c d a b = false) ∨ (d < b ∧ less a b c d = false ∧ less c d a b = true) ∨
    (b = d ∧ a < c ∧ less a b c d = true ∧ less c d a b = false) ∨ (b = d ∧ c < a ∧ less a b c d = false ∧ less c d a b = true) ∨ (b = d ∧ a = c ∧ less a b c d = false ∧ less c d a b = false) := by
  unfold less
  simp
  omega

set_option maxHeartbeats 2000000 in
theorem points_bad (a b c d : Int) (w : World) (hS : SixAt w) (h : good a b = false ∨ (good a b = true ∧ good c d = false) ∨ (good a b = true ∧ good c d = true ∧ good (a + c) (b + d) = false)) :
    Calls Tryd.prog 6 #[.int .i64 a, .int .i64 b, .int .i64 c, .int .i64 d] w fun e w' => e = .returned (.bool true) ∧ Below w.heap.size w w' := by
  have HS := Lib.hid hS
  clear hS
  have hbad : good a b = false ∨ good c d = false ∨ good (a + c) (b + d) = false := by
    rcases h with h | h | h
    · exact .inl h
    · exact .inr (.inl h.2)
    · exact .inr (.inr h.2.2)
  have Hbad := Lib.hid hbad
  clear hbad
  have eE := bs.errEq
  have eN := bs.errNeq
  rcases h with hg | ⟨hg, hg2⟩ | ⟨hg, hg2, hg3⟩
  rotate_left 2
  have b1 := good_bd hg
  have b2 := good_bd hg2
  rotate_left 1
  all_goals
    rcases five a b c d with ⟨hl, l1, l2⟩ | ⟨hl, l1, l2⟩ | ⟨rfl, hl, l1, l2⟩ | ⟨rfl, hl, l1, l2⟩ | ⟨rfl, rfl, l1, l2⟩
  all_goals try (exact absurd (hg.symm.trans hg2) (by decide))
  all_goals
    go_enter Tryd.func6, Tryd.ntmps6
    go_wp2_with (first | (go_at_call 9; refine (awake_walk _ HS.out).mono ?_; rintro e w1 ⟨rfl, hb⟩; have hz := hb.size; (try simp only [World.size_alloc, World.size_setCell, World.size_drew, World.heap_drewN] at hz); skip) | (go_at_call 15; refine (plus_bad _ _ _ _ _ Hbad.out).mono ?_; rintro e w2 ⟨rfl, hb⟩; simp only [zeroP, errV]; have hz := hb.size; (try simp only [World.size_alloc, World.size_setCell, World.size_drew, World.heap_drewN] at hz); obtain ⟨_, _, _⟩ := at_ (w1.heap.size) hb (by go_size); obtain ⟨_, _, _⟩ := at_ (w1.heap.size + 1) hb (by go_size)) | (go_at_call 12; refine (rgood_walk _ _ _).mono ?_; rintro e w1 ⟨rfl, rfl⟩) | (go_at_call 16; refine (good_walk _ _ _).mono ?_; rintro e w3 ⟨rfl, hb⟩; have hz := hb.size; (try simp only [World.size_alloc, World.size_setCell, World.size_drew, World.heap_drewN] at hz); obtain ⟨_, _, _⟩ := at_ (w1.heap.size) hb (by go_size); obtain ⟨_, _, _⟩ := at_ (w1.heap.size + 1) hb (by go_size); obtain ⟨_, _, _⟩ := at_ (w2.heap.size) hb (by go_size)) | (go_at_call 17; refine (less_walk _ _ _ _ _).mono ?_; rintro e w4 ⟨rfl, hb⟩; have hz := hb.size; (try simp only [World.size_alloc, World.size_setCell, World.size_drew, World.heap_drewN] at hz); obtain ⟨_, _, _⟩ := at_ (w1.heap.size) hb (by go_size); obtain ⟨_, _, _⟩ := at_ (w1.heap.size + 1) hb (by go_size); obtain ⟨_, _, _⟩ := at_ (w2.heap.size) hb (by go_size)))
    go_ret
    exact ⟨ret_bool (by first | rfl | (simp; omega)), by (repeat' (first | (with_reducible exact Below.refl _ _) | (with_reducible assumption) | (with_reducible refine Below.alloc ?_ ?_ _) | (with_reducible refine Below.drew ?_) | (with_reducible refine Below.setCell ?_ ?_ _) | (with_reducible refine chain ?_ (by assumption) ?_) | go_size))⟩

set_option maxHeartbeats 2000000 in
theorem points_ok (a b c d : Int) (w : World) (hS : SixAt w) (hg : good a b = true) (hg2 : good c d = true) (hg3 : good (a + c) (b + d) = true) :
    Calls Tryd.prog 6 #[.int .i64 a, .int .i64 b, .int .i64 c, .int .i64 d] w fun e w' => e = .returned (.bool true) ∧ Below w.heap.size w w' := by
  have HS := Lib.hid hS
  clear hS
  have eE := bs.errEq
  have eN := bs.errNeq
  have b1 := good_bd hg
  have b2 := good_bd hg2
  rcases five a b c d with ⟨hl, l1, l2⟩ | ⟨hl, l1, l2⟩ | ⟨rfl, hl, l1, l2⟩ | ⟨rfl, hl, l1, l2⟩ | ⟨rfl, rfl, l1, l2⟩
  all_goals
    go_enter Tryd.func6, Tryd.ntmps6
    go_wp2_with (first | (go_at_call 9; refine (awake_walk _ HS.out).mono ?_; rintro e w1 ⟨rfl, hb⟩; have hz := hb.size; (try simp only [World.size_alloc, World.size_setCell, World.size_drew, World.heap_drewN] at hz); skip) | (go_at_call 15; refine (plus_ok _ _ _ _ _ hg hg2 hg3).mono ?_; rintro e w2 ⟨rfl, hb⟩; simp only [ptV]; have hz := hb.size; (try simp only [World.size_alloc, World.size_setCell, World.size_drew, World.heap_drewN] at hz); obtain ⟨_, _, _⟩ := at_ (w1.heap.size) hb (by go_size); obtain ⟨_, _, _⟩ := at_ (w1.heap.size + 1) hb (by go_size)) | (go_at_call 12; refine (rgood_walk _ _ _).mono ?_; rintro e w1 ⟨rfl, rfl⟩) | (go_at_call 16; refine (good_walk _ _ _).mono ?_; rintro e w3 ⟨rfl, hb⟩; have hz := hb.size; (try simp only [World.size_alloc, World.size_setCell, World.size_drew, World.heap_drewN] at hz); obtain ⟨_, _, _⟩ := at_ (w1.heap.size) hb (by go_size); obtain ⟨_, _, _⟩ := at_ (w1.heap.size + 1) hb (by go_size); obtain ⟨_, _, _⟩ := at_ (w2.heap.size) hb (by go_size)) | (go_at_call 17; refine (less_walk _ _ _ _ _).mono ?_; rintro e w4 ⟨rfl, hb⟩; have hz := hb.size; (try simp only [World.size_alloc, World.size_setCell, World.size_drew, World.heap_drewN] at hz); obtain ⟨_, _, _⟩ := at_ (w1.heap.size) hb (by go_size); obtain ⟨_, _, _⟩ := at_ (w1.heap.size + 1) hb (by go_size); obtain ⟨_, _, _⟩ := at_ (w2.heap.size) hb (by go_size)))
    go_ret
    exact ⟨ret_bool (by first | rfl | (simp; omega)), by (repeat' (first | (with_reducible exact Below.refl _ _) | (with_reducible assumption) | (with_reducible refine Below.alloc ?_ ?_ _) | (with_reducible refine Below.drew ?_) | (with_reducible refine Below.setCell ?_ ?_ _) | (with_reducible refine chain ?_ (by assumption) ?_) | go_size))⟩

theorem points_walk (a b c d : Int) (w : World) (hS : SixAt w) :
    Calls Tryd.prog 6 #[.int .i64 a, .int .i64 b, .int .i64 c, .int .i64 d] w fun e w' => e = .returned (.bool true) ∧ Below w.heap.size w w' := by
  cases hg : good a b with
  | false => exact points_bad a b c d w hS (.inl hg)
  | true =>
    cases hg2 : good c d with
    | false => exact points_bad a b c d w hS (.inr (.inl ⟨hg, hg2⟩))
    | true =>
      cases hg3 : good (a + c) (b + d) with
      | false => exact points_bad a b c d w hS (.inr (.inr ⟨hg, hg2, hg3⟩))
      | true => exact points_ok a b c d w hS hg hg2 hg3
end Go.Proofs.YtjpcdlnhpaigkaaDoor.ax
