/- What the law AxisOrder answers. -/
import Derived.Test.YtjpcdlnhpaigkaaDoorAxG
import Derived.Deep.RegionWith
import Derived.Deep.RegionHeld3
namespace Go.Proofs.YtjpcdlnhpaigkaaDoor.ax
open Go.ChangeShapes Go.WideShapes Go.ChangeAt Go.RowKit

theorem less_iff (a b c d : Int) : less a b c d = true ↔ (b < d ∨ b = d ∧ a < c) := by unfold less; simp
theorem less_shift (a b c d x y : Int) : less (a + x) (b + y) (c + x) (d + y) = less a b c d := by
  rw [Bool.eq_iff_iff, less_iff, less_iff]; omega
theorem less_irr (a b : Int) : less a b a b = false := by unfold less; simp
theorem less_trans (a b c d e f : Int) (h : less a b c d = true) (h2 : less c d e f = true) : less a b e f = true := by
  rw [less_iff] at *; omega
theorem parts (a b c d e f : Int) :
    (less a b c d = true ∧ less c d e f = false ∧ less c d a b = false ∧ ¬(a = c ∧ b = d)) ∨
    (less a b c d = true ∧ less c d e f = true ∧ less a b e f = true ∧ less c d a b = false ∧ ¬(a = c ∧ b = d)) ∨
    (less a b c d = false ∧ less c d a b = true ∧ ¬(a = c ∧ b = d)) ∨
    (less a b c d = false ∧ less c d a b = false ∧ a = c ∧ b = d) := by
  have h := less_trans a b c d e f
  rcases five a b c d with ⟨hl, l1, l2⟩ | ⟨hl, l1, l2⟩ | ⟨hl', hl, l1, l2⟩ | ⟨hl', hl, l1, l2⟩ | ⟨hl', hl, l1, l2⟩ <;> cases h2 : less c d e f <;> simp_all <;> omega
theorem notP {p q r : Bool} (h : ¬(p = true ∧ q = true ∧ r = true)) : p = false ∨ q = false ∨ r = false := by
  cases p <;> cases q <;> cases r <;> simp_all
theorem neq_of {a b c d : Int} (h : ¬(a = c ∧ b = d)) : (a == c) = false ∨ ((a == c) = true ∧ (b == d) = false) := by
  by_cases h1 : a = c
  · refine .inr ⟨by simp [h1], ?_⟩
    rw [beq_eq_false_iff_ne]
    exact fun h2 => h ⟨h1, h2⟩
  · exact .inl (by rw [beq_eq_false_iff_ne]; exact h1)

set_option maxHeartbeats 8000000 in
theorem order_core (a b c d e f x y : Int) (w : World) (hS : SixAt w) (l1 l2 l3 l4 q1 q2 : Bool)
    (h1 : less a b c d = l1) (h2 : less c d e f = l2) (h3 : less a b e f = l3) (h4 : less c d a b = l4) (e1 : (a == c) = q1) (e2 : (b == d) = q2)
    (hc : (l1 = true ∧ l2 = false ∧ l4 = false ∧ q1 = false) ∨ (l1 = true ∧ l2 = false ∧ l4 = false ∧ q1 = true ∧ q2 = false) ∨
      (l1 = true ∧ l2 = true ∧ l3 = true ∧ l4 = false ∧ q1 = false) ∨ (l1 = true ∧ l2 = true ∧ l3 = true ∧ l4 = false ∧ q1 = true ∧ q2 = false) ∨
      (l1 = false ∧ l4 = true ∧ q1 = false) ∨ (l1 = false ∧ l4 = true ∧ q1 = true ∧ q2 = false) ∨ (l1 = false ∧ l4 = false ∧ q1 = true ∧ q2 = true)) :
    Calls Tryd.prog 7 #[.agg #[.int .i64 a, .int .i64 b], .agg #[.int .i64 c, .int .i64 d], .agg #[.int .i64 e, .int .i64 f], .agg #[.int .i64 x, .int .i64 y]] w fun e w' => e = .returned (.bool true) ∧ Below w.heap.size w w' := by
  have HS := Lib.hid hS
  clear hS
  have l0 := less_irr a b
  have LS := Lib.hid (less_shift a b c d x y)
  rcases hc with ⟨rfl, rfl, rfl, rfl⟩ | ⟨rfl, rfl, rfl, rfl, rfl⟩ | ⟨rfl, rfl, rfl, rfl, rfl⟩ | ⟨rfl, rfl, rfl, rfl, rfl, rfl⟩ | ⟨rfl, rfl, rfl⟩ | ⟨rfl, rfl, rfl, rfl⟩ | ⟨rfl, rfl, rfl, rfl⟩
  all_goals
    go_enter Tryd.func7, Tryd.ntmps7
    go_wp2_with (first | (go_at_call 9; refine (awake_walk _ (HS.out.below (by (repeat' (first | (with_reducible exact Below.refl _ _) | (with_reducible assumption) | (with_reducible refine Below.alloc ?_ ?_ _) | (with_reducible refine Below.drew ?_) | (with_reducible refine Below.setCell ?_ ?_ _) | (with_reducible refine chain ?_ (by assumption) ?_) | go_size))))).mono ?_; rintro e w1 ⟨rfl, hb⟩; have hz := hb.size; (try simp only [World.size_alloc, World.size_setCell, World.size_drew, World.heap_drewN] at hz); obtain ⟨_, _, _⟩ := at_ (w.heap.size) hb (by go_size); obtain ⟨_, _, _⟩ := at_ (w.heap.size + 1) hb (by go_size); obtain ⟨_, _, _⟩ := at_ (w.heap.size + 2) hb (by go_size); obtain ⟨_, _, _⟩ := at_ (w.heap.size + 3) hb (by go_size)) | (go_at_call 17; refine (less_walk _ _ _ _ _).mono ?_; rintro e w4 ⟨rfl, hb⟩; have hz := hb.size; (try simp only [World.size_alloc, World.size_setCell, World.size_drew, World.heap_drewN] at hz); obtain ⟨_, _, _⟩ := at_ (w.heap.size) hb (by go_size); obtain ⟨_, _, _⟩ := at_ (w.heap.size + 1) hb (by go_size); obtain ⟨_, _, _⟩ := at_ (w.heap.size + 2) hb (by go_size); obtain ⟨_, _, _⟩ := at_ (w.heap.size + 3) hb (by go_size)))
    by_cases hP1 : good a b = true ∧ good x y = true ∧ good (a + x) (b + y) = true
    · have g1 := good_bd hP1.1
      have g2 := good_bd hP1.2.1
      have HP1 := Lib.hid hP1
      clear hP1
      refine (plus_ok _ _ _ _ _ HP1.out.1 HP1.out.2.1 HP1.out.2.2).mono ?_; rintro e' w5 ⟨rfl, hb⟩; simp only [ptV]; have hz := hb.size; (try simp only [World.size_alloc, World.size_setCell, World.size_drew, World.heap_drewN] at hz); obtain ⟨_, _, _⟩ := at_ (w.heap.size) hb (by go_size); obtain ⟨_, _, _⟩ := at_ (w.heap.size + 1) hb (by go_size); obtain ⟨_, _, _⟩ := at_ (w.heap.size + 3) hb (by go_size)
      go_wp2_with (fail)
      by_cases hP2 : good c d = true ∧ good x y = true ∧ good (c + x) (d + y) = true
      · have HP2 := Lib.hid hP2
        clear hP2
        refine (plus_ok _ _ _ _ _ HP2.out.1 HP2.out.2.1 HP2.out.2.2).mono ?_; rintro e' w6 ⟨rfl, hb⟩; simp only [ptV]; have hz := hb.size; (try simp only [World.size_alloc, World.size_setCell, World.size_drew, World.heap_drewN] at hz); obtain ⟨_, _, _⟩ := at_ (w.heap.size) hb (by go_size); obtain ⟨_, _, _⟩ := at_ (w.heap.size + 1) hb (by go_size); obtain ⟨_, _, _⟩ := at_ (w5.heap.size) hb (by go_size)
        obtain ⟨W7, hW⟩ : ∃ W7 : World, W7 = w6.alloc (.cells #[.int .i64 (c + x), .int .i64 (d + y)] 24) := ⟨_, rfl⟩
        have o1 : W7.cell? ⟨w.heap.size, 0, none⟩ = some (.int .i64 a) := by subst hW; simp (maxDischargeDepth := 6) [go_sem, *]
        have o2 : W7.cell? ⟨w.heap.size, 1, none⟩ = some (.int .i64 b) := by subst hW; simp (maxDischargeDepth := 6) [go_sem, *]
        have o3 : W7.cell? ⟨w.heap.size + 1, 0, none⟩ = some (.int .i64 c) := by subst hW; simp (maxDischargeDepth := 6) [go_sem, *]
        have o4 : W7.cell? ⟨w.heap.size + 1, 1, none⟩ = some (.int .i64 d) := by subst hW; simp (maxDischargeDepth := 6) [go_sem, *]
        have o5 : W7.cell? ⟨w5.heap.size, 0, none⟩ = some (.int .i64 (a + x)) := by subst hW; simp (maxDischargeDepth := 6) [go_sem, *]
        have o6 : W7.cell? ⟨w5.heap.size, 1, none⟩ = some (.int .i64 (b + y)) := by subst hW; simp (maxDischargeDepth := 6) [go_sem, *]
        have o7 : W7.cell? ⟨w6.heap.size, 0, none⟩ = some (.int .i64 (c + x)) := by subst hW; simp (maxDischargeDepth := 6) [go_sem, *]
        have o8 : W7.cell? ⟨w6.heap.size, 1, none⟩ = some (.int .i64 (d + y)) := by subst hW; simp (maxDischargeDepth := 6) [go_sem, *]
        have HO := Lib.hid (And.intro o1 (And.intro o2 (And.intro o3 (And.intro o4 (And.intro o5 (And.intro o6 (And.intro o7 o8)))))))
        clear o1 o2 o3 o4 o5 o6 o7 o8
        have hW' := Lib.hid hW
        clear hW
        have B7 : Below w.heap.size w W7 := by rw [hW'.out]; (repeat' (first | (with_reducible exact Below.refl _ _) | (with_reducible assumption) | (with_reducible refine Below.alloc ?_ ?_ _) | (with_reducible refine Below.drew ?_) | (with_reducible refine Below.setCell ?_ ?_ _) | (with_reducible refine chain ?_ (by assumption) ?_) | go_size))
        have z1 : w.heap.size < W7.heap.size := by rw [hW'.out]; go_size
        have z2 : w.heap.size + 1 < W7.heap.size := by rw [hW'.out]; go_size
        have z3 : w5.heap.size < W7.heap.size := by rw [hW'.out]; go_size
        have z4 : w6.heap.size < W7.heap.size := by rw [hW'.out]; go_size
        go_wp2_with (fail)
        rw [← hW'.out]
        obtain ⟨o1, o2, o3, o4, o5, o6, o7, o8⟩ := HO.out
        go_region_held3 (fun w' => w'.cell? ⟨w.heap.size, 0, none⟩ = some (.int .i64 a) ∧ w'.cell? ⟨w.heap.size, 1, none⟩ = some (.int .i64 b) ∧ w'.cell? ⟨w.heap.size + 1, 0, none⟩ = some (.int .i64 c) ∧ w'.cell? ⟨w.heap.size + 1, 1, none⟩ = some (.int .i64 d) ∧ w'.cell? ⟨w5.heap.size, 0, none⟩ = some (.int .i64 (a + x)) ∧ w'.cell? ⟨w5.heap.size, 1, none⟩ = some (.int .i64 (b + y)) ∧ w'.cell? ⟨w6.heap.size, 0, none⟩ = some (.int .i64 (c + x)) ∧ w'.cell? ⟨w6.heap.size, 1, none⟩ = some (.int .i64 (d + y))) (simp (maxDischargeDepth := 6) [go_sem, *]) (first | (go_at_call 17; refine (less_walk _ _ _ _ _).mono ?_; rintro e' w8 ⟨rfl, hb⟩; (try rw [LS.out]); have hz := hb.size; (try simp only [World.size_alloc, World.size_setCell, World.size_drew, World.heap_drewN] at hz); obtain ⟨_, _, _⟩ := at_ (w.heap.size) hb (by go_size); obtain ⟨_, _, _⟩ := at_ (w.heap.size + 1) hb (by go_size); obtain ⟨_, _, _⟩ := at_ (w5.heap.size) hb (by go_size); obtain ⟨_, _, _⟩ := at_ (w6.heap.size) hb (by go_size)))
        all_goals go_wp2
        all_goals go_ret
        all_goals exact ⟨rfl, by (repeat' (first | (with_reducible exact Below.refl _ _) | (with_reducible assumption) | (with_reducible refine Below.alloc ?_ ?_ _) | (with_reducible refine Below.drew ?_) | (with_reducible refine Below.setCell ?_ ?_ _) | (with_reducible refine chain ?_ (by assumption) ?_) | go_size))⟩
      · refine (plus_bad _ _ _ _ _ (notP hP2)).mono ?_; rintro e' w6 ⟨rfl, hb⟩; simp only [zeroP, errV]; clear hP2; have hz := hb.size; (try simp only [World.size_alloc, World.size_setCell, World.size_drew, World.heap_drewN] at hz); obtain ⟨_, _, _⟩ := at_ (w.heap.size) hb (by go_size); obtain ⟨_, _, _⟩ := at_ (w.heap.size + 1) hb (by go_size); obtain ⟨_, _, _⟩ := at_ (w5.heap.size) hb (by go_size)
        go_wp2_with (fail)
        go_quiet (fail)
        go_wp2
        go_ret
        exact ⟨rfl, below_drewN (by (repeat' (first | (with_reducible exact Below.refl _ _) | (with_reducible assumption) | (with_reducible refine Below.alloc ?_ ?_ _) | (with_reducible refine Below.drew ?_) | (with_reducible refine Below.setCell ?_ ?_ _) | (with_reducible refine chain ?_ (by assumption) ?_) | go_size))) _⟩
    · refine (plus_bad _ _ _ _ _ (notP hP1)).mono ?_; rintro e' w5 ⟨rfl, hb⟩; simp only [zeroP, errV]; clear hP1; have hz := hb.size; (try simp only [World.size_alloc, World.size_setCell, World.size_drew, World.heap_drewN] at hz); obtain ⟨_, _, _⟩ := at_ (w.heap.size) hb (by go_size); obtain ⟨_, _, _⟩ := at_ (w.heap.size + 1) hb (by go_size); obtain ⟨_, _, _⟩ := at_ (w.heap.size + 3) hb (by go_size)
      go_wp2_with (fail)
      by_cases hP2 : good c d = true ∧ good x y = true ∧ good (c + x) (d + y) = true
      · have HP2 := Lib.hid hP2
        clear hP2
        refine (plus_ok _ _ _ _ _ HP2.out.1 HP2.out.2.1 HP2.out.2.2).mono ?_; rintro e' w6 ⟨rfl, hb⟩; simp only [ptV]; have hz := hb.size; (try simp only [World.size_alloc, World.size_setCell, World.size_drew, World.heap_drewN] at hz); skip
        go_wp2_with (fail)
        go_quiet (fail)
        go_wp2
        go_ret
        exact ⟨rfl, below_drewN (by (repeat' (first | (with_reducible exact Below.refl _ _) | (with_reducible assumption) | (with_reducible refine Below.alloc ?_ ?_ _) | (with_reducible refine Below.drew ?_) | (with_reducible refine Below.setCell ?_ ?_ _) | (with_reducible refine chain ?_ (by assumption) ?_) | go_size))) _⟩
      · refine (plus_bad _ _ _ _ _ (notP hP2)).mono ?_; rintro e' w6 ⟨rfl, hb⟩; simp only [zeroP, errV]; clear hP2; have hz := hb.size; (try simp only [World.size_alloc, World.size_setCell, World.size_drew, World.heap_drewN] at hz); skip
        go_wp2_with (fail)
        go_quiet (fail)
        go_wp2
        go_ret
        exact ⟨rfl, below_drewN (by (repeat' (first | (with_reducible exact Below.refl _ _) | (with_reducible assumption) | (with_reducible refine Below.alloc ?_ ?_ _) | (with_reducible refine Below.drew ?_) | (with_reducible refine Below.setCell ?_ ?_ _) | (with_reducible refine chain ?_ (by assumption) ?_) | go_size))) _⟩

theorem order_walk (a b c d e f x y : Int) (w : World) (hS : SixAt w) :
    Calls Tryd.prog 7 #[.agg #[.int .i64 a, .int .i64 b], .agg #[.int .i64 c, .int .i64 d], .agg #[.int .i64 e, .int .i64 f], .agg #[.int .i64 x, .int .i64 y]] w fun e w' => e = .returned (.bool true) ∧ Below w.heap.size w w' := by
  refine order_core a b c d e f x y w hS _ _ _ _ _ _ rfl rfl rfl rfl rfl rfl ?_
  rcases parts a b c d e f with ⟨h1, h2, h4, hn⟩ | ⟨h1, h2, h3, h4, hn⟩ | ⟨h1, h4, hn⟩ | ⟨h1, h4, rfl, rfl⟩
  · rcases neq_of hn with q | ⟨q, r⟩
    · exact .inl ⟨h1, h2, h4, q⟩
    · exact .inr (.inl ⟨h1, h2, h4, q, r⟩)
  · rcases neq_of hn with q | ⟨q, r⟩
    · exact .inr (.inr (.inl ⟨h1, h2, h3, h4, q⟩))
    · exact .inr (.inr (.inr (.inl ⟨h1, h2, h3, h4, q, r⟩)))
  · rcases neq_of hn with q | ⟨q, r⟩
    · exact .inr (.inr (.inr (.inr (.inl ⟨h1, h4, q⟩))))
    · exact .inr (.inr (.inr (.inr (.inr (.inl ⟨h1, h4, q, r⟩)))))
  · exact .inr (.inr (.inr (.inr (.inr (.inr ⟨h1, h4, by simp, by simp⟩)))))
end Go.Proofs.YtjpcdlnhpaigkaaDoor.ax
