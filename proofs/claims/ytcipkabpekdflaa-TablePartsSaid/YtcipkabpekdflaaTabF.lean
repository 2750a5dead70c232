/- Rings of six bits, their classes: closed facts, and the calls that tell them. -/
import Derived.Test.YtcipkabpekdflaaTabC
namespace Go.Proofs.Ytcipkabpekdflaa.tb
open Go.RowKit Go.Proofs.YtcipkabpekdflaaW.PrintWords Go.Proofs.YtcipkabpekdflaaW.PrintLast Go.Proofs.YtcipkabpekdflaaW.PrintMore Go.Proofs.Ytcipkabpekdflaa.bs Go.Proofs.Ytcipkabpekdflaa.PTableRings Go.ChangeShapes

def ringV (r : Int) : Int × Int := (table_Ring.f 9 r).getD (0, 0)
def refV (r : Int) : Int × ByteArray := (honeycombref05_Ring.f 60 r).getD (0, ⟨#[]⟩)
def ringsV (n l : Int) : Int := (table_Rings.f 80 n l).getD 0
theorem ring_all : ∀ r : Fin 64, (table_Ring.f 9 r.val).isSome = true := by decide +kernel
theorem ref_all : ∀ r : Fin 64, (honeycombref05_Ring.f 60 r.val).isSome = true := by decide +kernel
theorem rings_all : ∀ r : Fin 64, (table_Rings.f 80 (ringV r.val).1 (ringV r.val).2).isSome = true := by decide +kernel
theorem tells_all : ∀ r : Fin 64, (ringV r.val).1 = (refV r.val).1 ∧ (((refV r.val).2.data = #[] ∧ (ringV r.val).2 = 0) ∨ ((refV r.val).2.data = #[111] ∧ (ringV r.val).2 = 111) ∨ ((refV r.val).2.data = #[109] ∧ (ringV r.val).2 = 109) ∨ ((refV r.val).2.data = #[112] ∧ (ringV r.val).2 = 112)) := by decide +kernel
def bitOf (x i : Int) : Int := x / 2 ^ i.toNat % 2
theorem bits_all : ∀ r i : Fin 64, (bitOf (ringsV (ringV r.val).1 (ringV r.val).2) i.val == 1) = ((refV i.val).1 == (refV r.val).1 && (refV i.val).2 == (refV r.val).2) := by decide +kernel
theorem and63_idem (a : Int) : a % 64 % 64 = a % 64 := by omega
theorem ring_mod (k : Nat) (a : Int) : table_Ring.f k a = table_Ring.f k (a % 64) := by
  unfold table_Ring.f
  rw [bs.and63 a, bs.and63 (a % 64), and63_idem]
theorem ring_some (a : Int) : table_Ring.f 9 a = some ((ringV (a % 64)).1, (ringV (a % 64)).2) := by
  rw [ring_mod]
  have h := ring_all ⟨(a % 64).toNat, by omega⟩
  have e : (((a % 64).toNat : Nat) : Int) = a % 64 := Int.toNat_of_nonneg (by omega)
  simp only [e] at h
  obtain ⟨v, hv⟩ := Option.isSome_iff_exists.1 h
  unfold ringV
  rw [hv]
  rfl
theorem ref_some (a : Int) (h : 0 ≤ a ∧ a < 64) : honeycombref05_Ring.f 60 a = some ((refV a).1, (refV a).2) := by
  have h := ref_all ⟨a.toNat, by omega⟩
  have e : ((a.toNat : Nat) : Int) = a := Int.toNat_of_nonneg (by omega)
  simp only [e] at h
  obtain ⟨v, hv⟩ := Option.isSome_iff_exists.1 h
  unfold refV
  rw [hv]
  rfl
theorem rings_some (a : Int) (h : 0 ≤ a ∧ a < 64) : table_Rings.f 80 (ringV a).1 (ringV a).2 = some (ringsV (ringV a).1 (ringV a).2) := by
  have h := rings_all ⟨a.toNat, by omega⟩
  have e : ((a.toNat : Nat) : Int) = a := Int.toNat_of_nonneg (by omega)
  simp only [e] at h
  obtain ⟨v, hv⟩ := Option.isSome_iff_exists.1 h
  unfold ringsV
  rw [hv]
  rfl
theorem ring_walk (a : Int) (w : World) : Calls Try.prog 7 #[.int .i64 a] w fun e w' => e = .returned (.agg #[.int .i64 (ringV (a % 64)).1, .int .u8 (ringV (a % 64)).2]) ∧ Below w.heap.size w w' :=
  table_Ring.calls 9 a _ _ w (ring_some a)
theorem rref_walk (a : Int) (w : World) (h : 0 ≤ a ∧ a < 64) : Calls Try.prog 8 #[.int .i64 a] w fun e w' => e = .returned (.tuple #[.int .i64 (refV a).1, .string (refV a).2]) ∧ Below w.heap.size w w' :=
  honeycombref05_Ring.calls 60 a _ _ w (ref_some a h)
theorem rings_walk (a b r : Int) (w : World) (h : table_Rings.f 80 a b = some r) : Calls Try.prog 9 #[.agg #[.int .i64 a, .int .u8 b]] w fun e w' => e = .returned (.int .u64 r) ∧ Below w.heap.size w w' :=
  table_Rings.calls 80 a b _ w h
set_option maxHeartbeats 4000000 in
theorem awake_walk (w : World) : Calls Try.prog 6 #[] w fun e w' => e = .returned (.bool true) ∧ Below w.heap.size w w' := by
  have r3 : ringV (3 % 64) = (2, 111) := by decide +kernel
  have r9 : ringV (9 % 64) = (2, 112) := by decide +kernel
  have r11 : ringV (11 % 64) = (3, 109) := by decide +kernel
  have c7 : (clsTo 7).length = 13 := by decide +kernel
  have w3 : ∀ w, Calls Try.prog 7 #[.int .i64 3] w fun e w' => e = .returned (.agg #[.int .i64 2, .int .u8 111]) ∧ Below w.heap.size w w' := fun w => by have := ring_walk 3 w; rw [r3] at this; exact this
  have w9 : ∀ w, Calls Try.prog 7 #[.int .i64 9] w fun e w' => e = .returned (.agg #[.int .i64 2, .int .u8 112]) ∧ Below w.heap.size w w' := fun w => by have := ring_walk 9 w; rw [r9] at this; exact this
  have w11 : ∀ w, Calls Try.prog 7 #[.int .i64 11] w fun e w' => e = .returned (.agg #[.int .i64 3, .int .u8 109]) ∧ Below w.heap.size w w' := fun w => by have := ring_walk 11 w; rw [r11] at this; exact this
  have wc : ∀ w, Calls Try.prog 10 #[] w fun e w' => ∃ A c, e = .returned (.slice A 13 c) ∧ Below w.heap.size w w' := fun w => (classes_walk w).mono fun e w' ⟨v, he, hR, hb⟩ => by
    obtain ⟨A, c, rfl⟩ := Kd.R_slice hR
    rw [c7] at he
    exact ⟨A, c, he, hb⟩
  have eq2 := fun (d : Nat) (w : World) (a b c d' : Int) => eqA24 d w a b c d'
  clear r3 r9 r11 c7
  go_enter Try.func6, Try.ntmps6
  go_wp2_with (fail)
  refine (w3 _).mono ?_; rintro e w1 ⟨rfl, hb1⟩
  go_wp2_with (fail)
  refine (w9 _).mono ?_; rintro e w2 ⟨rfl, hb2⟩
  go_wp2_with (fail)
  refine (w11 _).mono ?_; rintro e w3 ⟨rfl, hb3⟩
  go_wp2_with (fail)
  refine (wc _).mono ?_; rintro e w4 ⟨A, c, rfl, hb4⟩
  go_wp2_with (fail)
  go_ret
  exact ⟨ret_bool (by simp), chain (chain (chain hb1 hb2 hb1.size) hb3 (Nat.le_trans hb1.size hb2.size)) hb4 (Nat.le_trans (Nat.le_trans hb1.size hb2.size) hb3.size)⟩
end Go.Proofs.Ytcipkabpekdflaa.tb
