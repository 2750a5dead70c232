/- What the law AxisGroup answers: plain facts. -/
import Derived.Test.YtjpcdlnhpaigkaaDoorAxI
namespace Go.Proofs.YtjpcdlnhpaigkaaDoor.ax
open Go.ChangeShapes Go.WideShapes Go.ChangeAt Go.RowKit

def mulM (p o : Int × Int × Int × Int) : Int × Int × Int × Int :=
  (p.1 * o.1 + p.2.1 * o.2.2.1, p.1 * o.2.1 + p.2.1 * o.2.2.2, p.2.2.1 * o.1 + p.2.2.2 * o.2.2.1, p.2.2.1 * o.2.1 + p.2.2.2 * o.2.2.2)
theorem mul_all : ∀ o p : Fin 12, mulM (mat p.val) (mat o.val) = mat (thenV o.val p.val) := by decide +kernel
theorem app_mul (p o : Int × Int × Int × Int) (a b : Int) : app p (app o a b).1 (app o a b).2 = app (mulM p o) a b := by
  unfold app mulM
  simp only [Int.mul_add, Int.add_mul, Int.mul_assoc]
  exact Prod.ext (by simp only; omega) (by simp only; omega)
theorem img_then (o p a b : Int) (ho : 0 ≤ o ∧ o ≤ 11) (hp : 0 ≤ p ∧ p ≤ 11) : img p (img o a b).1 (img o a b).2 = img (thenV o p) a b := by
  have h := mul_all ⟨o.toNat, by omega⟩ ⟨p.toNat, by omega⟩
  simp only [Int.toNat_of_nonneg ho.1, Int.toNat_of_nonneg hp.1] at h
  rw [img_app, img_app, img_app, app_mul, h]
theorem assoc_all : ∀ x y z : Fin 12, thenV (thenV x.val y.val) z.val = thenV x.val (thenV y.val z.val) := by decide +kernel
theorem then_assoc (x y z : Int) (hx : 0 ≤ x ∧ x ≤ 11) (hy : 0 ≤ y ∧ y ≤ 11) (hz : 0 ≤ z ∧ z ≤ 11) : thenV (thenV x y) z = thenV x (thenV y z) := by
  have h := assoc_all ⟨x.toNat, by omega⟩ ⟨y.toNat, by omega⟩ ⟨z.toNat, by omega⟩
  simpa only [Int.toNat_of_nonneg hx.1, Int.toNat_of_nonneg hy.1, Int.toNat_of_nonneg hz.1] using h
theorem back_all : ∀ x : Fin 12, thenV x.val (backV x.val) = 0 ∧ thenV (backV x.val) x.val = 0 ∧ thenV x.val 0 = x.val ∧ 0 ≤ backV x.val ∧ backV x.val ≤ 11 := by decide +kernel
theorem then_back (x : Int) (hx : 0 ≤ x ∧ x ≤ 11) : thenV x (backV x) = 0 ∧ thenV (backV x) x = 0 ∧ thenV x 0 = x ∧ 0 ≤ backV x ∧ backV x ≤ 11 := by
  have h := back_all ⟨x.toNat, by omega⟩
  simpa only [Int.toNat_of_nonneg hx.1] using h

def sixA (i : Int) : Int := [1, 0, -1, -1, 0, 1].getD i.toNat 0
def sixB (i : Int) : Int := [0, 1, 1, 0, -1, -1].getD i.toNat 0
theorem six_bd (i : Int) (h : 0 ≤ i ∧ i ≤ 5) : -1 ≤ sixA i ∧ sixA i ≤ 1 ∧ -1 ≤ sixB i ∧ sixB i ≤ 1 := by
  have : i = 0 ∨ i = 1 ∨ i = 2 ∨ i = 3 ∨ i = 4 ∨ i = 5 := by omega
  rcases this with rfl | rfl | rfl | rfl | rfl | rfl <;> decide
theorem idx0 (w : World) : (Instr.index 44 sixV (.int .i64 0)).run Tryd.prog w = .ok (.agg #[.int .i64 (sixA 0), .int .i64 (sixB 0)]) w := by kernel_rfl
theorem idx1 (w : World) : (Instr.index 44 sixV (.int .i64 1)).run Tryd.prog w = .ok (.agg #[.int .i64 (sixA 1), .int .i64 (sixB 1)]) w := by kernel_rfl
theorem idx2 (w : World) : (Instr.index 44 sixV (.int .i64 2)).run Tryd.prog w = .ok (.agg #[.int .i64 (sixA 2), .int .i64 (sixB 2)]) w := by kernel_rfl
theorem idx3 (w : World) : (Instr.index 44 sixV (.int .i64 3)).run Tryd.prog w = .ok (.agg #[.int .i64 (sixA 3), .int .i64 (sixB 3)]) w := by kernel_rfl
theorem idx4 (w : World) : (Instr.index 44 sixV (.int .i64 4)).run Tryd.prog w = .ok (.agg #[.int .i64 (sixA 4), .int .i64 (sixB 4)]) w := by kernel_rfl
theorem idx5 (w : World) : (Instr.index 44 sixV (.int .i64 5)).run Tryd.prog w = .ok (.agg #[.int .i64 (sixA 5), .int .i64 (sixB 5)]) w := by kernel_rfl
theorem six_index (i : Int) (h : 0 ≤ i ∧ i ≤ 5) (w : World) : (Instr.index 44 sixV (.int .i64 i)).run Tryd.prog w = .ok (.agg #[.int .i64 (sixA i), .int .i64 (sixB i)]) w := by
  have : i = 0 ∨ i = 1 ∨ i = 2 ∨ i = 3 ∨ i = 4 ∨ i = 5 := by omega
  rcases this with rfl | rfl | rfl | rfl | rfl | rfl
  · exact idx0 w
  · exact idx1 w
  · exact idx2 w
  · exact idx3 w
  · exact idx4 w
  · exact idx5 w
theorem there_all : ∀ x : Fin 12, ∀ i : Fin 6, ∃ j : Fin 6, (sixA j.val, sixB j.val) = img x.val (sixA i.val) (sixB i.val) ∧ ∀ k : Fin 6, k < j → (sixA k.val, sixB k.val) ≠ img x.val (sixA i.val) (sixB i.val) := by decide +kernel
theorem there (x i : Int) (hx : 0 ≤ x ∧ x ≤ 11) (hi : 0 ≤ i ∧ i ≤ 5) : ∃ j : Nat, j < 6 ∧ sixA j = (img x (sixA i) (sixB i)).1 ∧ sixB j = (img x (sixA i) (sixB i)).2 ∧
    ∀ k : Nat, k < j → ¬(sixA k = (img x (sixA i) (sixB i)).1 ∧ sixB k = (img x (sixA i) (sixB i)).2) := by
  obtain ⟨j, h1, h2⟩ := there_all ⟨x.toNat, by omega⟩ ⟨i.toNat, by omega⟩
  simp only [Int.toNat_of_nonneg hx.1, Int.toNat_of_nonneg hi.1] at h1 h2
  refine ⟨j.val, j.isLt, congrArg Prod.fst h1, congrArg Prod.snd h1, fun k hk hc => h2 ⟨k, by omega⟩ hk (Prod.ext hc.1 hc.2)⟩
end Go.Proofs.YtjpcdlnhpaigkaaDoor.ax
