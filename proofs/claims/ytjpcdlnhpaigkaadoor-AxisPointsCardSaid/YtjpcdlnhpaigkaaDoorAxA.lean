/- Walks over the package axis: what Good, matrix, On, Plus, Less, Then, Back, Six and Sum answer. -/
import Derived.Test.YtjpcdlnhpaigkaaDoorRows
import Derived.WalkKit
import Derived.ProofKit
import Derived.OpenShut
import Derived.Handy
import Derived.Lib.Hide
namespace Go.Proofs.YtjpcdlnhpaigkaaDoor.ax
open Go.ChangeShapes Go.WideShapes Go.ChangeAt Go.RowKit

/-- what a call leaves of a block that was there -/
theorem at_ {X w1 : World} (b : Nat) (hb : Below X.heap.size X w1) (h : b < X.heap.size) :
    (∀ o, w1.cell? ⟨b, o, none⟩ = X.cell? ⟨b, o, none⟩) ∧ (∀ o, w1.frozen? ⟨b, o, none⟩ = X.frozen? ⟨b, o, none⟩) ∧ b < w1.heap.size :=
  ⟨fun o => hb.cell (p := ⟨b, o, none⟩) h, fun o => hb.frozen (p := ⟨b, o, none⟩) h, Nat.lt_of_lt_of_le h hb.size⟩

/-- two steps of growth -/
theorem chain {B : Nat} {w X w1 : World} (h : Below B w X) (hb : Below X.heap.size X w1) (hB : B ≤ X.heap.size) : Below B w w1 := h.trans (hb.mono hB)

def good (a b : Int) : Bool := decide (a ≥ -1099511627776) && decide (a ≤ 1099511627776) && decide (b ≥ -1099511627776) && decide (b ≤ 1099511627776)
theorem good_bd {a b : Int} (h : good a b = true) : -1099511627776 ≤ a ∧ a ≤ 1099511627776 ∧ -1099511627776 ≤ b ∧ b ≤ 1099511627776 := by
  unfold good at h; simp at h; omega
theorem good_mk {a b : Int} (h : -1099511627776 ≤ a ∧ a ≤ 1099511627776 ∧ -1099511627776 ≤ b ∧ b ≤ 1099511627776) : good a b = true := by
  unfold good; simp; omega

theorem good_walk (a b : Int) (w : World) :
    Calls Tryd.prog 16 #[.agg #[.int .i64 a, .int .i64 b]] w fun e w' => e = .returned (.bool (good a b)) ∧ Below w.heap.size w w' := by
  go_enter Tryd.func16, Tryd.ntmps16
  go_wp2
  all_goals go_ret
  all_goals refine ⟨?_, by go_grown⟩
  all_goals (unfold good; simp [*]; try omega)

theorem mul_bd {x y : Int} (a : -2 ≤ x) (b : x ≤ 2) (c : -1099511627776 ≤ y) (d : y ≤ 1099511627776) : -2199023255552 ≤ x * y ∧ x * y ≤ 2199023255552 := by
  have : x = -2 ∨ x = -1 ∨ x = 0 ∨ x = 1 ∨ x = 2 := by omega
  rcases this with rfl | rfl | rfl | rfl | rfl <;> omega

def ogood (o : Int) : Bool := decide (0 ≤ o) && decide (o < 12)
theorem ogood_bd {o : Int} (h : ogood o = true) : 0 ≤ o ∧ o ≤ 11 := by unfold ogood at h; simp at h; omega
theorem ogood_mk {o : Int} (h : 0 ≤ o ∧ o ≤ 11) : ogood o = true := by unfold ogood; simp; omega
theorem ogood_walk (o : Int) (w : World) :
    Calls Tryd.prog 11 #[.int .i64 o] w fun e w' => e = .returned (.bool (ogood o)) ∧ w = w' := by
  go_enter Tryd.func11, Tryd.ntmps11
  go_wp2
  all_goals go_ret
  all_goals refine ⟨?_, rfl⟩
  all_goals (unfold ogood; simp [*]; try omega)

/-- one turn of a matrix -/
def turn (m : Int × Int × Int × Int) : Int × Int × Int × Int := (-m.2.2.1, -m.2.2.2, m.1 + m.2.2.1, m.2.1 + m.2.2.2)
def turns : Nat → Int × Int × Int × Int → Int × Int × Int × Int
  | 0, m => m
  | k + 1, m => turn (turns k m)
def small (m : Int × Int × Int × Int) : Prop := -2 ≤ m.1 ∧ m.1 ≤ 2 ∧ -2 ≤ m.2.1 ∧ m.2.1 ≤ 2 ∧ -2 ≤ m.2.2.1 ∧ m.2.2.1 ≤ 2 ∧ -2 ≤ m.2.2.2 ∧ m.2.2.2 ≤ 2
def start (o : Int) : Int × Int × Int × Int := if 6 ≤ o then (0, 1, 1, 0) else (1, 0, 0, 1)
def mat (o : Int) : Int × Int × Int × Int := turns (o % 6).toNat (start o)
theorem small_start (k : Nat) (hk : k ≤ 6) (o : Int) : small (turns k (start o)) := by
  unfold start small
  have : k = 0 ∨ k = 1 ∨ k = 2 ∨ k = 3 ∨ k = 4 ∨ k = 5 ∨ k = 6 := by omega
  rcases this with rfl | rfl | rfl | rfl | rfl | rfl | rfl <;> split <;> decide
theorem mat_bd (o : Int) (_ : 0 ≤ o) : small (mat o) := small_start _ (by omega) o
def cellsOf (m : Int × Int × Int × Int) : Array Value := #[.int .i64 m.1, .int .i64 m.2.1, .int .i64 m.2.2.1, .int .i64 m.2.2.2]
def aggOf (m : Int × Int × Int × Int) : Value := .agg (cellsOf m)

theorem mod6 (o : Int) : 0 ≤ o % 6 ∧ o % 6 < 6 := by omega

set_option maxHeartbeats 1000000 in
theorem mat_walk (o : Int) (w : World) (h0 : 0 ≤ o) (h1 : o ≤ 11) :
    Calls Tryd.prog 22 #[.int .i64 o] w fun e w' => e = .returned (aggOf (mat o)) ∧ Below w.heap.size w w' := by
  obtain ⟨m0, m1⟩ := mod6 o
  go_enter Tryd.func22, Tryd.ntmps22
  by_cases h6 : 6 ≤ o
  all_goals
    have hs : start o = if 6 ≤ o then (0, 1, 1, 0) else (1, 0, 0, 1) := rfl
    first | rw [if_pos h6] at hs | rw [if_neg h6] at hs
    have Hs := Lib.hid hs
    clear hs
    go_wp2
    go_loopw [10] (fun c wr => ∃ k : Nat, k ≤ o % 6 ∧ c = .int .i64 k ∧ wr = (w.alloc (.cells #[.int .i64 0, .int .i64 0, .int .i64 0, .int .i64 0] 47)).alloc (.cells (cellsOf (turns k (start o))) 47)) (fun c _ => 6 - (intOf c).toNat)
    case atStart => exact ⟨0, by omega, rfl, by rw [show turns 0 (start o) = start o from rfl, Hs.out]; rfl⟩
    case round =>
      obtain ⟨k, hk, rfl, rfl⟩ := hrel
      have hsm := small_start k (by omega) o
      have ht : turns (k + 1) (start o) = turn (turns k (start o)) := rfl
      have Ht := Lib.hid ht
      clear ht
      generalize hm : turns k (start o) = m at *
      have Hm := Lib.hid hm
      clear hm
      obtain ⟨a, b, c, d⟩ := m
      unfold small at hsm
      simp only at hsm
      simp only [cellsOf]
      by_cases hlt : (k : Int) < o % 6
      · go_wp2
        go_roundw
        case rel => exact ⟨k + 1, by omega, by go_num, by rw [Ht.out]; rfl⟩
        case measure => simp [intOf]; omega
      · go_wp2
        have hmat : mat o = (a, b, c, d) := by
          have hk2 : (o % 6).toNat = k := by omega
          unfold mat; rw [hk2]; exact Hm.out
        go_returns
        refine ⟨by rw [hmat]; rfl, by go_grown⟩

def img (o a b : Int) : Int × Int := ((mat o).1 * a + (mat o).2.1 * b, (mat o).2.2.1 * a + (mat o).2.2.2 * b)
def errV (n : Int) : Value := .iface 30 (.int .i64 n)
def zeroP : Value := .agg #[.int .i64 0, .int .i64 0]
def ptV (p : Int × Int) : Value := .agg #[.int .i64 p.1, .int .i64 p.2]


theorem on_arg (o a b : Int) (w : World) (h : ogood o = false) :
    Calls Tryd.prog 10 #[.int .i64 o, .agg #[.int .i64 a, .int .i64 b]] w fun e w' => e = .returned (.tuple #[zeroP, errV 4]) ∧ Below w.heap.size w w' := by
  go_enter Tryd.func10, Tryd.ntmps10
  go_wp2_with (go_at_call 11; refine (ogood_walk _ _).mono ?_; rintro e w1 ⟨rfl, rfl⟩)
  refine bodyPost_ret (v := .tuple #[zeroP, errV 4]) (by simp [results, Tryd.results10, go_sem, zeroP, errV]) rfl ⟨rfl, ?_⟩
  (repeat' (first | (with_reducible exact Below.refl _ _) | (with_reducible assumption) | (with_reducible refine Below.alloc ?_ ?_ _) | (with_reducible refine Below.drew ?_) | (with_reducible refine Below.setCell ?_ ?_ _) | (with_reducible refine chain ?_ (by assumption) ?_) | go_size))

theorem on_range (o a b : Int) (w : World) (h : ogood o = true) (hg : good a b = false) :
    Calls Tryd.prog 10 #[.int .i64 o, .agg #[.int .i64 a, .int .i64 b]] w fun e w' => e = .returned (.tuple #[zeroP, errV 6]) ∧ Below w.heap.size w w' := by
  go_enter Tryd.func10, Tryd.ntmps10
  go_wp2_with (first | (go_at_call 11; refine (ogood_walk _ _).mono ?_; rintro e w1 ⟨rfl, rfl⟩) | (go_at_call 16; refine (good_walk _ _ _).mono ?_; rintro e w1 ⟨rfl, hb⟩; have Hz := Lib.hid hb.size; obtain ⟨_, _, _⟩ := at_ (w.heap.size + 1) hb (by go_size)))
  refine bodyPost_ret (v := .tuple #[zeroP, errV 6]) (by simp [results, Tryd.results10, go_sem, *, zeroP, errV]) rfl ⟨rfl, ?_⟩
  (repeat' (first | (with_reducible exact Below.refl _ _) | (with_reducible assumption) | (with_reducible refine Below.alloc ?_ ?_ _) | (with_reducible refine Below.drew ?_) | (with_reducible refine Below.setCell ?_ ?_ _) | (with_reducible refine chain ?_ (by assumption) ?_) | go_size))

set_option maxHeartbeats 1000000 in
theorem on_ok (o a b : Int) (w : World) (h : ogood o = true) (hg : good a b = true) (hq : good (img o a b).1 (img o a b).2 = true) :
    Calls Tryd.prog 10 #[.int .i64 o, .agg #[.int .i64 a, .int .i64 b]] w fun e w' => e = .returned (.tuple #[ptV (img o a b), .nilIface]) ∧ Below w.heap.size w w' := by
  have hbd := good_bd hg
  have hsm := mat_bd o (ogood_bd h).1
  have hbd2 := good_bd hq
  simp only [img] at hq hbd2
  simp only [img, ptV]
  generalize hm : mat o = m at *
  have Hm := Lib.hid hm
  clear hm
  obtain ⟨a0, a1, a2, a3⟩ := m
  simp only at hsm hq hbd2
  have p0 := mul_bd hsm.1 hsm.2.1 hbd.1 hbd.2.1
  have p1 := mul_bd hsm.2.2.1 hsm.2.2.2.1 hbd.2.2.1 hbd.2.2.2
  have p2 := mul_bd hsm.2.2.2.2.1 hsm.2.2.2.2.2.1 hbd.1 hbd.2.1
  have p3 := mul_bd hsm.2.2.2.2.2.2.1 hsm.2.2.2.2.2.2.2 hbd.2.2.1 hbd.2.2.2
  have ho := ogood_bd h
  go_enter Tryd.func10, Tryd.ntmps10
  go_wp2_with (fail)
  refine (ogood_walk _ _).mono ?_; rintro e w' ⟨rfl, rfl⟩
  go_wp2_with (fail)
  (go_at_call 16; refine (good_walk _ _ _).mono ?_; rintro e w1 ⟨rfl, hb⟩; have Hz := Lib.hid hb.size; obtain ⟨_, _, _⟩ := at_ (w.heap.size) hb (by go_size); obtain ⟨_, _, _⟩ := at_ (w.heap.size + 1) hb (by go_size))
  go_wp2_with (fail)
  refine (mat_walk _ _ ho.1 ho.2).mono ?_; rintro e w2 ⟨rfl, hb⟩
  rw [Hm.out]; simp only [aggOf, cellsOf]
  have Hz := Lib.hid hb.size; obtain ⟨_, _, _⟩ := at_ (w.heap.size) hb (by go_size); obtain ⟨_, _, _⟩ := at_ (w.heap.size + 1) hb (by go_size)
  go_wp2_with (fail)
  (go_at_call 16; refine (good_walk _ _ _).mono ?_; rintro e w3 ⟨rfl, hb⟩; have Hz := Lib.hid hb.size; obtain ⟨_, _, _⟩ := at_ (w.heap.size + 1) hb (by go_size); obtain ⟨_, _, _⟩ := at_ (w2.heap.size + 1) hb (by go_size))
  go_wp2
  refine bodyPost_ret (v := .tuple #[ptV (a0 * a + a1 * b, a2 * a + a3 * b), .nilIface]) (by simp [results, Tryd.results10, go_sem, *, ptV]) rfl ⟨rfl, ?_⟩
  (repeat' (first | (with_reducible exact Below.refl _ _) | (with_reducible assumption) | (with_reducible refine Below.alloc ?_ ?_ _) | (with_reducible refine Below.drew ?_) | (with_reducible refine Below.setCell ?_ ?_ _) | (with_reducible refine chain ?_ (by assumption) ?_) | go_size))
end Go.Proofs.YtjpcdlnhpaigkaaDoor.ax
