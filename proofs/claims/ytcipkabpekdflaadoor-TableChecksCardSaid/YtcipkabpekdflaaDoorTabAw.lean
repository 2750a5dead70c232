/- The law's awake: rings of six bits, their classes. -/
import Derived.Test.YtcipkabpekdflaaDoorTabC
import Derived.Test.YtcipkabpekdflaaDoorWEqStruct
namespace Go.Proofs.YtcipkabpekdflaaDoor.tb
open Go.RowKit Go.Proofs.YtcipkabpekdflaaDoorW.PrintWords Go.Proofs.YtcipkabpekdflaaDoorW.PrintLast Go.Proofs.YtcipkabpekdflaaDoorW.PrintMore Go.Proofs.YtcipkabpekdflaaDoor.bs Go.Proofs.YtcipkabpekdflaaDoor.PTableChecks Go.ChangeShapes

def ringV (r : Int) : Int × Int := (table_Ring.f 9 r).getD (0, 0)
theorem ring_all : ∀ r : Fin 64, (table_Ring.f 9 r.val).isSome = true := by decide +kernel
theorem and63_idem (a : Int) : a % 64 % 64 = a % 64 := by omega
theorem ring_mod (k : Nat) (a : Int) : table_Ring.f k a = table_Ring.f k (a % 64) := by
  unfold table_Ring.f
  rw [bs.and63 a, bs.and63 (a % 64), and63_idem]
theorem ring_some (a : Int) : table_Ring.f 9 a = some ((ringV (a % 64)).1, (ringV (a % 64)).2) := by
  rw [ring_mod]
  have h := ring_all ⟨(a % 64).toNat, by omega⟩
  have e : (((a % 64).toNat : Nat) : Int) = a % 64 := Int.toNat_of_nonneg (by omega)
  simp only [e] at h
  obtain ⟨v, hv⟩ := Option.isSome_iff_exists.1 h
  unfold ringV
  rw [hv]
  rfl
theorem ring_walk (a : Int) (w : World) : Calls Tryd.prog 13 #[.int .i64 a] w fun e w' => e = .returned (.agg #[.int .i64 (ringV (a % 64)).1, .int .u8 (ringV (a % 64)).2]) ∧ Below w.heap.size w w' :=
  table_Ring.calls 9 a _ _ w (ring_some a)
theorem eqCls (d : Nat) (w : World) (x0 y0 : Int) (x1 y1 : Int) :
    (Op.equalIn (d + 2) 45 (.agg #[.int .i64 x0, .int .u8 x1]) (.agg #[.int .i64 y0, .int .u8 y1])).run Tryd.prog w = .ok (x0 == y0 && (x1 == y1)) w := by
  refine eqA_of Tryd.underlying45 (by kernel_rfl) ?_
  refine eqf_cons (by rfl) (by go_simp; rfl) (by go_simp; rfl) (by go_simp) ?_
  exact eqf_last (by rfl) (by go_simp; rfl) (by go_simp; rfl) (by go_simp)
set_option maxHeartbeats 4000000 in
theorem awake_walk (w : World) : Calls Tryd.prog 4 #[] w fun e w' => e = .returned (.bool true) ∧ Below w.heap.size w w' := by
  have r3 : ringV (3 % 64) = (2, 111) := by decide +kernel
  have r9 : ringV (9 % 64) = (2, 112) := by decide +kernel
  have r11 : ringV (11 % 64) = (3, 109) := by decide +kernel
  have c7 : (clsTo 7).length = 13 := by decide +kernel
  have w3 : ∀ w, Calls Tryd.prog 13 #[.int .i64 3] w fun e w' => e = .returned (.agg #[.int .i64 2, .int .u8 111]) ∧ Below w.heap.size w w' := fun w => by have := ring_walk 3 w; rw [r3] at this; exact this
  have w9 : ∀ w, Calls Tryd.prog 13 #[.int .i64 9] w fun e w' => e = .returned (.agg #[.int .i64 2, .int .u8 112]) ∧ Below w.heap.size w w' := fun w => by have := ring_walk 9 w; rw [r9] at this; exact this
  have w11 : ∀ w, Calls Tryd.prog 13 #[.int .i64 11] w fun e w' => e = .returned (.agg #[.int .i64 3, .int .u8 109]) ∧ Below w.heap.size w w' := fun w => by have := ring_walk 11 w; rw [r11] at this; exact this
  have wc : ∀ w, Calls Tryd.prog 14 #[] w fun e w' => ∃ A c, e = .returned (.slice A 13 c) ∧ Below w.heap.size w w' := fun w => (classes_walk w).mono fun e w' ⟨v, he, hR, hb⟩ => by
    obtain ⟨A, c, rfl⟩ := Kd.R_slice hR
    rw [c7] at he
    exact ⟨A, c, he, hb⟩
  have eq2 := fun (d : Nat) (w : World) (a b c d' : Int) => eqCls d w a b c d'
  clear r3 r9 r11 c7
  go_enter Tryd.func4, Tryd.ntmps4
  go_wp2_with (fail)
  refine (w3 _).mono ?_; rintro e w1 ⟨rfl, hb1⟩
  go_wp2_with (fail)
  refine (w9 _).mono ?_; rintro e w2 ⟨rfl, hb2⟩
  go_wp2_with (fail)
  refine (w11 _).mono ?_; rintro e w3 ⟨rfl, hb3⟩
  go_wp2_with (fail)
  refine (wc _).mono ?_; rintro e w4 ⟨A, c, rfl, hb4⟩
  go_wp2_with (fail)
  go_ret
  exact ⟨ret_bool (by simp), chain (chain (chain hb1 hb2 hb1.size) hb3 (Nat.le_trans hb1.size hb2.size)) hb4 (Nat.le_trans (Nat.le_trans hb1.size hb2.size) hb3.size)⟩
end Go.Proofs.YtcipkabpekdflaaDoor.tb
