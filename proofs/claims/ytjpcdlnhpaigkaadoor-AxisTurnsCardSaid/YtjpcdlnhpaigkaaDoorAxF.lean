/- What the law AxisTurns answers. -/
import Derived.Test.YtjpcdlnhpaigkaaDoorAxE
import Derived.Test.YtjpcdlnhpaigkaaDoorBase
namespace Go.Proofs.YtjpcdlnhpaigkaaDoor.ax
open Go.ChangeShapes Go.WideShapes Go.ChangeAt Go.RowKit

theorem turns_arg (o a b : Int) (w : World) (hS : SixAt w) (ho : ¬(0 ≤ o ∧ o ≤ 11)) :
    Calls Tryd.prog 3 #[.int .i64 o, .int .i64 a, .int .i64 b] w fun e w' => e = .returned (.bool true) ∧ Below w.heap.size w w' := by
  have HS := Lib.hid hS
  clear hS
  have hog : ogood o = false := by unfold ogood; simp; omega
  have Hog := Lib.hid hog
  clear hog
  have eE := bs.errEq
  by_cases h0 : o < 0
  all_goals
    try have h1 : 11 < o := by omega
    go_enter Tryd.func3, Tryd.ntmps3
    go_wp2_with (first | (go_at_call 9; refine (awake_walk _ HS.out).mono ?_; rintro e w1 ⟨rfl, hb⟩; have hz := hb.size; (try simp only [World.size_alloc, World.size_setCell, World.size_drew, World.heap_drewN] at hz); skip) | (go_at_call 10; refine (on_arg _ _ _ _ Hog.out).mono ?_; rintro e w2 ⟨rfl, hb⟩; simp only [zeroP, errV]; have hz := hb.size; (try simp only [World.size_alloc, World.size_setCell, World.size_drew, World.heap_drewN] at hz); skip) | (go_at_call 11; refine (ogood_walk _ _).mono ?_; rintro e w3 ⟨rfl, rfl⟩; rw [Hog.out]))
    go_ret
    exact ⟨rfl, by (repeat' (first | (with_reducible exact Below.refl _ _) | (with_reducible assumption) | (with_reducible refine Below.alloc ?_ ?_ _) | (with_reducible refine Below.drew ?_) | (with_reducible refine Below.setCell ?_ ?_ _) | (with_reducible refine chain ?_ (by assumption) ?_) | go_size))⟩

theorem turns_range (o a b : Int) (w : World) (hS : SixAt w) (ho : 0 ≤ o ∧ o ≤ 11) (hg : good a b = false) :
    Calls Tryd.prog 3 #[.int .i64 o, .int .i64 a, .int .i64 b] w fun e w' => e = .returned (.bool true) ∧ Below w.heap.size w w' := by
  have HS := Lib.hid hS
  clear hS
  have Hog := Lib.hid (ogood_mk ho)
  obtain ⟨o0, o1⟩ := ho
  have eE := bs.errEq
  go_enter Tryd.func3, Tryd.ntmps3
  go_wp2_with (first | (go_at_call 9; refine (awake_walk _ HS.out).mono ?_; rintro e w1 ⟨rfl, hb⟩; have hz := hb.size; (try simp only [World.size_alloc, World.size_setCell, World.size_drew, World.heap_drewN] at hz); skip) | (go_at_call 10; refine (on_range _ _ _ _ Hog.out hg).mono ?_; rintro e w2 ⟨rfl, hb⟩; simp only [zeroP, errV]; have hz := hb.size; (try simp only [World.size_alloc, World.size_setCell, World.size_drew, World.heap_drewN] at hz); skip) | (go_at_call 12; refine (rgood_walk _ _ _).mono ?_; rintro e w1 ⟨rfl, rfl⟩))
  go_ret
  exact ⟨rfl, by (repeat' (first | (with_reducible exact Below.refl _ _) | (with_reducible assumption) | (with_reducible refine Below.alloc ?_ ?_ _) | (with_reducible refine Below.drew ?_) | (with_reducible refine Below.setCell ?_ ?_ _) | (with_reducible refine chain ?_ (by assumption) ?_) | go_size))⟩

/-- where the point is good, and what it is brought to isn't -/
theorem on_beyond (o a b : Int) (w : World) (h : ogood o = true) (hg : good a b = true) (hq : good (img o a b).1 (img o a b).2 = false) :
    Calls Tryd.prog 10 #[.int .i64 o, .agg #[.int .i64 a, .int .i64 b]] w fun e w' => e = .returned (.tuple #[zeroP, errV 6]) ∧ Below w.heap.size w w' := by
  have hbd := good_bd hg
  have hsm := mat_bd o (ogood_bd h).1
  simp only [img] at hq
  generalize hm : mat o = m at *
  have Hm := Lib.hid hm
  clear hm
  obtain ⟨a0, a1, a2, a3⟩ := m
  simp only at hsm hq
  have p0 := mul_bd hsm.1 hsm.2.1 hbd.1 hbd.2.1
  have p1 := mul_bd hsm.2.2.1 hsm.2.2.2.1 hbd.2.2.1 hbd.2.2.2
  have p2 := mul_bd hsm.2.2.2.2.1 hsm.2.2.2.2.2.1 hbd.1 hbd.2.1
  have p3 := mul_bd hsm.2.2.2.2.2.2.1 hsm.2.2.2.2.2.2.2 hbd.2.2.1 hbd.2.2.2
  have ho := ogood_bd h
  go_enter Tryd.func10, Tryd.ntmps10
  go_wp2_with (fail)
  refine (ogood_walk _ _).mono ?_; rintro e w' ⟨rfl, rfl⟩
  go_wp2_with (fail)
  (go_at_call 16; refine (good_walk _ _ _).mono ?_; rintro e w1 ⟨rfl, hb⟩; have hz := hb.size; (try simp only [World.size_alloc, World.size_setCell, World.size_drew, World.heap_drewN] at hz); obtain ⟨_, _, _⟩ := at_ (w.heap.size) hb (by go_size); obtain ⟨_, _, _⟩ := at_ (w.heap.size + 1) hb (by go_size))
  go_wp2_with (fail)
  refine (mat_walk _ _ ho.1 ho.2).mono ?_; rintro e w2 ⟨rfl, hb⟩
  rw [Hm.out]; simp only [aggOf, cellsOf]
  have hz := hb.size; (try simp only [World.size_alloc, World.size_setCell, World.size_drew, World.heap_drewN] at hz); obtain ⟨_, _, _⟩ := at_ (w.heap.size) hb (by go_size); obtain ⟨_, _, _⟩ := at_ (w.heap.size + 1) hb (by go_size)
  go_wp2_with (fail)
  (go_at_call 16; refine (good_walk _ _ _).mono ?_; rintro e w3 ⟨rfl, hb⟩; have hz := hb.size; (try simp only [World.size_alloc, World.size_setCell, World.size_drew, World.heap_drewN] at hz); obtain ⟨_, _, _⟩ := at_ (w.heap.size + 1) hb (by go_size); obtain ⟨_, _, _⟩ := at_ (w2.heap.size + 1) hb (by go_size))
  go_wp2
  refine bodyPost_ret (v := .tuple #[zeroP, errV 6]) (by simp [results, Tryd.results10, go_sem, *, zeroP, errV]) rfl ⟨rfl, ?_⟩
  (repeat' (first | (with_reducible exact Below.refl _ _) | (with_reducible assumption) | (with_reducible refine Below.alloc ?_ ?_ _) | (with_reducible refine Below.drew ?_) | (with_reducible refine Below.setCell ?_ ?_ _) | (with_reducible refine chain ?_ (by assumption) ?_) | go_size))

theorem turns_beyond (o a b : Int) (w : World) (hS : SixAt w) (ho : 0 ≤ o ∧ o ≤ 11) (hg : good a b = true) (hq : good (img o a b).1 (img o a b).2 = false) :
    Calls Tryd.prog 3 #[.int .i64 o, .int .i64 a, .int .i64 b] w fun e w' => e = .returned (.bool true) ∧ Below w.heap.size w w' := by
  have HS := Lib.hid hS
  clear hS
  have Hog := Lib.hid (ogood_mk ho)
  obtain ⟨o0, o1⟩ := ho
  have eE := bs.errEq
  go_enter Tryd.func3, Tryd.ntmps3
  go_wp2_with (first | (go_at_call 9; refine (awake_walk _ HS.out).mono ?_; rintro e w1 ⟨rfl, hb⟩; have hz := hb.size; (try simp only [World.size_alloc, World.size_setCell, World.size_drew, World.heap_drewN] at hz); skip) | (go_at_call 10; refine (on_beyond _ _ _ _ Hog.out hg hq).mono ?_; rintro e w2 ⟨rfl, hb⟩; simp only [zeroP, errV]; have hz := hb.size; (try simp only [World.size_alloc, World.size_setCell, World.size_drew, World.heap_drewN] at hz); skip) | (go_at_call 12; refine (rgood_walk _ _ _).mono ?_; rintro e w1 ⟨rfl, rfl⟩) | (go_at_call 13; refine (ron_walk _ _ _ _ o0 o1 hg).mono ?_; rintro e w1 ⟨rfl, rfl⟩))
  go_ret
  exact ⟨rfl, by (repeat' (first | (with_reducible exact Below.refl _ _) | (with_reducible assumption) | (with_reducible refine Below.alloc ?_ ?_ _) | (with_reducible refine Below.drew ?_) | (with_reducible refine Below.setCell ?_ ?_ _) | (with_reducible refine chain ?_ (by assumption) ?_) | go_size))⟩

theorem turns_ok (o a b : Int) (w : World) (hS : SixAt w) (ho : 0 ≤ o ∧ o ≤ 11) (hg : good a b = true) (hq : good (img o a b).1 (img o a b).2 = true) :
    Calls Tryd.prog 3 #[.int .i64 o, .int .i64 a, .int .i64 b] w fun e w' => e = .returned (.bool true) ∧ Below w.heap.size w w' := by
  have HS := Lib.hid hS
  clear hS
  have Hog := Lib.hid (ogood_mk ho)
  obtain ⟨o0, o1⟩ := ho
  have eE := bs.errEq
  go_enter Tryd.func3, Tryd.ntmps3
  go_wp2_with (first | (go_at_call 9; refine (awake_walk _ HS.out).mono ?_; rintro e w1 ⟨rfl, hb⟩; have hz := hb.size; (try simp only [World.size_alloc, World.size_setCell, World.size_drew, World.heap_drewN] at hz); skip) | (go_at_call 10; refine (on_ok _ _ _ _ Hog.out hg hq).mono ?_; rintro e w2 ⟨rfl, hb⟩; simp only [ptV]; have hz := hb.size; (try simp only [World.size_alloc, World.size_setCell, World.size_drew, World.heap_drewN] at hz); skip) | (go_at_call 12; refine (rgood_walk _ _ _).mono ?_; rintro e w1 ⟨rfl, rfl⟩) | (go_at_call 13; refine (ron_walk _ _ _ _ o0 o1 hg).mono ?_; rintro e w1 ⟨rfl, rfl⟩))
  go_ret
  exact ⟨rfl, by (repeat' (first | (with_reducible exact Below.refl _ _) | (with_reducible assumption) | (with_reducible refine Below.alloc ?_ ?_ _) | (with_reducible refine Below.drew ?_) | (with_reducible refine Below.setCell ?_ ?_ _) | (with_reducible refine chain ?_ (by assumption) ?_) | go_size))⟩

theorem turns_walk (o a b : Int) (w : World) (hS : SixAt w) :
    Calls Tryd.prog 3 #[.int .i64 o, .int .i64 a, .int .i64 b] w fun e w' => e = .returned (.bool true) ∧ Below w.heap.size w w' := by
  by_cases ho : 0 ≤ o ∧ o ≤ 11
  · cases hg : good a b with
    | false => exact turns_range o a b w hS ho hg
    | true =>
      cases hq : good (img o a b).1 (img o a b).2 with
      | false => exact turns_beyond o a b w hS ho hg hq
      | true => exact turns_ok o a b w hS ho hg hq
  · exact turns_arg o a b w hS ho
end Go.Proofs.YtjpcdlnhpaigkaaDoor.ax
