/- Walks over the package axis, continued: Then, Back; the reference's On and Then. -/
import Derived.Test.YtjpcdlnhpaigkaaDoorAxB
import Derived.Deep.QuietTactic
import Derived.BigQuiet
namespace Go.Proofs.YtjpcdlnhpaigkaaDoor.ax
open Go.ChangeShapes Go.WideShapes Go.ChangeAt Go.RowKit

theorem ret_int {k : IntKind} {a b : Int} (h : a = b) : Ending.returned (.int k a) = .returned (.int k b) := by rw [h]
def thenV (o p : Int) : Int := if p < 6 then o / 6 * 6 + (o % 6 + p) % 6 else if o < 6 then 6 + (p - o) % 6 else (p - o % 6 + 6) % 6
theorem then_walk (o p : Int) (w : World) (ho : 0 ≤ o ∧ o ≤ 11) (hp : 0 ≤ p ∧ p ≤ 11) :
    Calls Tryd.prog 18 #[.int .i64 o, .int .i64 p] w fun e w' => e = .returned (.int .i64 (thenV o p)) ∧ w = w' := by
  obtain ⟨o0, o1⟩ := ho
  obtain ⟨p0, p1⟩ := hp
  have m0 := mod6 o
  obtain ⟨m1, m2⟩ := m0
  unfold thenV
  by_cases h1 : p < 6
  · rw [if_pos h1]
    go_enter Tryd.func18, Tryd.ntmps18
    go_wp2
    go_ret
    exact ⟨ret_int (by omega), rfl⟩
  · rw [if_neg h1]
    by_cases h2 : o < 6
    · rw [if_pos h2]
      go_enter Tryd.func18, Tryd.ntmps18
      go_wp2
      go_ret
      exact ⟨ret_int (by omega), rfl⟩
    · rw [if_neg h2]
      go_enter Tryd.func18, Tryd.ntmps18
      go_wp2
      go_ret
      exact ⟨ret_int (by omega), rfl⟩

def backV (o : Int) : Int := if 6 ≤ o then o else (6 - o) % 6
theorem back_walk (o : Int) (w : World) (ho : 0 ≤ o ∧ o ≤ 11) :
    Calls Tryd.prog 20 #[.int .i64 o] w fun e w' => e = .returned (.int .i64 (backV o)) ∧ w = w' := by
  obtain ⟨o0, o1⟩ := ho
  unfold backV
  by_cases h1 : 6 ≤ o
  · rw [if_pos h1]
    go_enter Tryd.func20, Tryd.ntmps20
    go_wp2
    go_ret
    exact ⟨ret_int (by omega), rfl⟩
  · rw [if_neg h1]
    go_enter Tryd.func20, Tryd.ntmps20
    go_wp2
    go_ret
    exact ⟨ret_int (by omega), rfl⟩

def app (m : Int × Int × Int × Int) (a b : Int) : Int × Int := (m.1 * a + m.2.1 * b, m.2.2.1 * a + m.2.2.2 * b)
theorem app_turn (m : Int × Int × Int × Int) (a b : Int) : app (turn m) a b = (-(app m a b).2, (app m a b).1 + (app m a b).2) := by
  unfold app turn
  simp only [Int.neg_mul, Int.add_mul]
  exact Prod.ext (by simp only; omega) (by simp only; omega)
theorem app_bd {m : Int × Int × Int × Int} (h : small m) {a b : Int} (hg : good a b = true) : -4398046511104 ≤ (app m a b).1 ∧ (app m a b).1 ≤ 4398046511104 ∧ -4398046511104 ≤ (app m a b).2 ∧ (app m a b).2 ≤ 4398046511104 := by
  have hbd := good_bd hg
  unfold small at h
  unfold app
  have p0 := mul_bd h.1 h.2.1 hbd.1 hbd.2.1
  have p1 := mul_bd h.2.2.1 h.2.2.2.1 hbd.2.2.1 hbd.2.2.2
  have p2 := mul_bd h.2.2.2.2.1 h.2.2.2.2.2.1 hbd.1 hbd.2.1
  have p3 := mul_bd h.2.2.2.2.2.2.1 h.2.2.2.2.2.2.2 hbd.2.2.1 hbd.2.2.2
  simp only
  omega
theorem app_start (o a b : Int) : app (start o) a b = if 6 ≤ o then (b, a) else (a, b) := by
  unfold app start
  split <;> simp
theorem img_app (o a b : Int) : img o a b = app (mat o) a b := rfl

set_option maxHeartbeats 1000000 in
theorem ron_walk (o a b : Int) (w : World) (h0 : 0 ≤ o) (h1 : o ≤ 11) (hg : good a b = true) :
    Calls Tryd.prog 13 #[.int .i64 o, .int .i64 a, .int .i64 b] w fun e w' => e = .returned (.tuple #[.int .i64 (img o a b).1, .int .i64 (img o a b).2]) ∧ w = w' := by
  obtain ⟨m0, m1⟩ := mod6 o
  have hs := app_start o a b
  have Hg := Lib.hid hg
  clear hg
  go_enter Tryd.func13, Tryd.ntmps13
  by_cases h6 : 6 ≤ o
  all_goals
    first | rw [if_pos h6] at hs | rw [if_neg h6] at hs
    have Hs := Lib.hid hs
    clear hs
    go_wp2
    go_loop [1, 2, 8] (fun x y c => ∃ k : Nat, k ≤ o % 6 ∧ c = .int .i64 k ∧ x = .int .i64 (app (turns k (start o)) a b).1 ∧ y = .int .i64 (app (turns k (start o)) a b).2) (fun _ _ c => 6 - (intOf c).toNat)
    case atStart => exact ⟨0, by omega, rfl, by rw [show turns 0 (start o) = start o from rfl, Hs.out], by rw [show turns 0 (start o) = start o from rfl, Hs.out]⟩
    case round =>
      obtain ⟨k, hk, rfl, rfl, rfl⟩ := hrel
      have hbd := app_bd (small_start k (by omega) o) Hg.out
      have ht : app (turns (k + 1) (start o)) a b = _ := app_turn (turns k (start o)) a b
      have Ht := Lib.hid ht
      clear ht
      by_cases hlt : (k : Int) < o % 6
      · go_wp2
        go_round
        case rel => exact ⟨k + 1, by omega, by go_num, by rw [Ht.out], by rw [Ht.out]⟩
        case measure => simp [intOf]; omega
      · have hk2 : k = (o % 6).toNat := by omega
        have Hk := Lib.hid hk2
        clear hk2
        go_wp2
        go_ret2
        exact ⟨by rw [img_app, mat, ← Hk.out]; rfl, rfl⟩

def sameB (o p k : Int) : Bool := decide (img p (img o 1 0).1 (img o 1 0).2 = img k 1 0) && decide (img p (img o 0 1).1 (img o 0 1).2 = img k 0 1)
theorem same_all : ∀ o p k : Fin 12, sameB o.val p.val k.val = decide ((k.val : Int) = thenV o.val p.val) := by decide +kernel
theorem same_then (o p k : Int) (ho : 0 ≤ o ∧ o ≤ 11) (hp : 0 ≤ p ∧ p ≤ 11) (hk : 0 ≤ k ∧ k ≤ 11) : sameB o p k = decide (k = thenV o p) := by
  have := same_all ⟨o.toNat, by omega⟩ ⟨p.toNat, by omega⟩ ⟨k.toNat, by omega⟩
  simpa [Int.toNat_of_nonneg ho.1, Int.toNat_of_nonneg hp.1, Int.toNat_of_nonneg hk.1] using this
theorem small_img : ∀ o : Fin 12, ∀ i : Fin 2, let q := img o.val (if i = 0 then 1 else 0) (if i = 0 then 0 else 1); -1 ≤ q.1 ∧ q.1 ≤ 1 ∧ -1 ≤ q.2 ∧ q.2 ≤ 1 := by decide +kernel
theorem img_good (o : Int) (ho : 0 ≤ o ∧ o ≤ 11) : good (img o 1 0).1 (img o 1 0).2 = true ∧ good (img o 0 1).1 (img o 0 1).2 = true := by
  have h1 := small_img ⟨o.toNat, by omega⟩ 0
  have h2 := small_img ⟨o.toNat, by omega⟩ 1
  simp [Int.toNat_of_nonneg ho.1] at h1 h2
  exact ⟨good_mk (by omega), good_mk (by omega)⟩
theorem thenV_bd (o p : Int) (ho : 0 ≤ o ∧ o ≤ 11) (hp : 0 ≤ p ∧ p ≤ 11) : 0 ≤ thenV o p ∧ thenV o p ≤ 11 := by unfold thenV; split <;> (try split) <;> omega
end Go.Proofs.YtjpcdlnhpaigkaaDoor.ax
