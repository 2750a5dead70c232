/- What the law AxisLinear answers. -/
import Derived.Test.YtjpcdlnhpaigkaaDoorAxE
import Derived.Test.YtjpcdlnhpaigkaaDoorBase
namespace Go.Proofs.YtjpcdlnhpaigkaaDoor.ax
open Go.ChangeShapes Go.WideShapes Go.ChangeAt Go.RowKit

theorem img_add (o a b c d : Int) : img o (a + c) (b + d) = ((img o a b).1 + (img o c d).1, (img o a b).2 + (img o c d).2) := by
  unfold img
  simp only [Int.mul_add]
  exact Prod.ext (by simp only; omega) (by simp only; omega)
def near (a b : Int) : Prop := -274877906944 < a ∧ a < 274877906944 ∧ -274877906944 < b ∧ b < 274877906944
theorem near_good {a b : Int} (h : near a b) : good a b = true := good_mk (by unfold near at h; omega)
theorem mul_near {x y : Int} (a : -2 ≤ x) (b : x ≤ 2) (c : -549755813888 < y) (d : y < 549755813888) : -1099511627776 < x * y ∧ x * y < 1099511627776 := by
  have : x = -2 ∨ x = -1 ∨ x = 0 ∨ x = 1 ∨ x = 2 := by omega
  rcases this with rfl | rfl | rfl | rfl | rfl <;> omega
theorem unit_all : ∀ o : Fin 12, let m := mat o.val; -1 ≤ m.1 ∧ m.1 ≤ 1 ∧ -1 ≤ m.2.1 ∧ m.2.1 ≤ 1 ∧ -1 ≤ m.2.2.1 ∧ m.2.2.1 ≤ 1 ∧ -1 ≤ m.2.2.2 ∧ m.2.2.2 ≤ 1 := by decide +kernel
theorem one_bd {x y B : Int} (a : -1 ≤ x) (b : x ≤ 1) (c : -B ≤ y) (d : y ≤ B) (hB : 0 ≤ B) : -B ≤ x * y ∧ x * y ≤ B := by
  have : x = -1 ∨ x = 0 ∨ x = 1 := by omega
  rcases this with rfl | rfl | rfl <;> omega
theorem img_bd (o a b B : Int) (ho : 0 ≤ o ∧ o ≤ 11) (ha : -B ≤ a ∧ a ≤ B) (hb : -B ≤ b ∧ b ≤ B) : -(2 * B) ≤ (img o a b).1 ∧ (img o a b).1 ≤ 2 * B ∧ -(2 * B) ≤ (img o a b).2 ∧ (img o a b).2 ≤ 2 * B := by
  have h := unit_all ⟨o.toNat, by omega⟩
  simp only [Int.toNat_of_nonneg ho.1] at h
  unfold img
  have hB : 0 ≤ B := by omega
  have p0 := one_bd h.1 h.2.1 ha.1 ha.2 hB
  have p1 := one_bd h.2.2.1 h.2.2.2.1 hb.1 hb.2 hB
  have p2 := one_bd h.2.2.2.2.1 h.2.2.2.2.2.1 ha.1 ha.2 hB
  have p3 := one_bd h.2.2.2.2.2.2.1 h.2.2.2.2.2.2.2 hb.1 hb.2 hB
  simp only
  omega

set_option maxHeartbeats 4000000 in
theorem linear_walk (o a b c d : Int) (w : World) (hS : SixAt w) :
    Calls Tryd.prog 5 #[.int .i64 o, .agg #[.int .i64 a, .int .i64 b], .agg #[.int .i64 c, .int .i64 d]] w fun e w' => e = .returned (.bool true) ∧ Below w.heap.size w w' := by
  have HS := Lib.hid hS
  clear hS
  have h255 := bs.and255 o
  have hx : 0 ≤ o % 256 % 12 ∧ o % 256 % 12 ≤ 11 := by omega
  have ha := bs.tmod_bd a 274877906944 (by decide)
  have hb' := bs.tmod_bd b 274877906944 (by decide)
  have hc := bs.tmod_bd c 274877906944 (by decide)
  have hd := bs.tmod_bd d 274877906944 (by decide)
  have hadd := Lib.hid (img_add (o % 256 % 12) (a.tmod 274877906944) (b.tmod 274877906944) (c.tmod 274877906944) (d.tmod 274877906944))
  have i1 := img_bd (o % 256 % 12) (a.tmod 274877906944) (b.tmod 274877906944) 274877906944 hx (by omega) (by omega)
  have i2 := img_bd (o % 256 % 12) (c.tmod 274877906944) (d.tmod 274877906944) 274877906944 hx (by omega) (by omega)
  have i3 := img_bd (o % 256 % 12) (a.tmod 274877906944 + c.tmod 274877906944) (b.tmod 274877906944 + d.tmod 274877906944) 549755813888 hx (by omega) (by omega)
  go_enter Tryd.func5, Tryd.ntmps5
  go_wp2_with (first | (go_at_call 9; refine (awake_walk _ (HS.out.below (by (repeat' (first | (with_reducible exact Below.refl _ _) | (with_reducible assumption) | (with_reducible refine Below.alloc ?_ ?_ _) | (with_reducible refine Below.drew ?_) | (with_reducible refine Below.setCell ?_ ?_ _) | (with_reducible refine chain ?_ (by assumption) ?_) | go_size))))).mono ?_; rintro e w1 ⟨rfl, hb⟩; have hz := hb.size; (try simp only [World.size_alloc, World.size_setCell, World.size_drew, World.heap_drewN] at hz); obtain ⟨_, _, _⟩ := at_ (w.heap.size) hb (by go_size); obtain ⟨_, _, _⟩ := at_ (w.heap.size + 1) hb (by go_size)))
  go_region
  go_wp2_with (fail)
  refine (plus_ok _ _ _ _ _ (good_mk (by omega)) (good_mk (by omega)) (good_mk (by omega))).mono ?_; rintro e w2 ⟨rfl, hb⟩; simp only [ptV]; have hz := hb.size; (try simp only [World.size_alloc, World.size_setCell, World.size_drew, World.heap_drewN] at hz); obtain ⟨_, _, _⟩ := at_ (w.heap.size) hb (by go_size); obtain ⟨_, _, _⟩ := at_ (w.heap.size + 1) hb (by go_size)
  go_wp2_with (fail)
  refine (on_ok _ _ _ _ (ogood_mk (by omega)) (good_mk (by omega)) (good_mk (by omega))).mono ?_; rintro e w3 ⟨rfl, hb⟩; simp only [ptV]; have hz := hb.size; (try simp only [World.size_alloc, World.size_setCell, World.size_drew, World.heap_drewN] at hz); obtain ⟨_, _, _⟩ := at_ (w.heap.size) hb (by go_size); obtain ⟨_, _, _⟩ := at_ (w.heap.size + 1) hb (by go_size); obtain ⟨_, _, _⟩ := at_ (w2.heap.size) hb (by go_size)
  go_wp2_with (fail)
  refine (on_ok _ _ _ _ (ogood_mk (by omega)) (good_mk (by omega)) (good_mk (by omega))).mono ?_; rintro e w4 ⟨rfl, hb⟩; simp only [ptV]; have hz := hb.size; (try simp only [World.size_alloc, World.size_setCell, World.size_drew, World.heap_drewN] at hz); obtain ⟨_, _, _⟩ := at_ (w2.heap.size) hb (by go_size); obtain ⟨_, _, _⟩ := at_ (w3.heap.size) hb (by go_size)
  go_wp2_with (fail)
  refine (on_ok _ _ _ _ (ogood_mk (by omega)) (good_mk (by omega)) (good_mk (by omega))).mono ?_; rintro e w5 ⟨rfl, hb⟩; simp only [ptV, hadd.out]; have hz := hb.size; (try simp only [World.size_alloc, World.size_setCell, World.size_drew, World.heap_drewN] at hz); obtain ⟨_, _, _⟩ := at_ (w3.heap.size) hb (by go_size); obtain ⟨_, _, _⟩ := at_ (w4.heap.size) hb (by go_size)
  go_wp2_with (fail)
  refine (plus_ok _ _ _ _ _ (good_mk (by omega)) (good_mk (by omega)) (good_mk (by omega))).mono ?_; rintro e w6 ⟨rfl, hb⟩; simp only [ptV]; have hz := hb.size; (try simp only [World.size_alloc, World.size_setCell, World.size_drew, World.heap_drewN] at hz); obtain ⟨_, _, _⟩ := at_ (w5.heap.size) hb (by go_size)
  go_wp2
  go_ret
  exact ⟨rfl, by (repeat' (first | (with_reducible exact Below.refl _ _) | (with_reducible assumption) | (with_reducible refine Below.alloc ?_ ?_ _) | (with_reducible refine Below.drew ?_) | (with_reducible refine Below.setCell ?_ ?_ _) | (with_reducible refine chain ?_ (by assumption) ?_) | go_size))⟩
end Go.Proofs.YtjpcdlnhpaigkaaDoor.ax
