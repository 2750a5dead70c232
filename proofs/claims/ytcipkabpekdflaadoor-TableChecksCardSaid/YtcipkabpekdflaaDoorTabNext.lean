/- The walk over Next of a table; bits turned. -/
import Derived.Test.YtcipkabpekdflaaDoorTabSome
namespace Go.Proofs.YtcipkabpekdflaaDoor.ts
open Go.RowKit Go.Proofs.YtcipkabpekdflaaDoorW.PrintWords Go.Proofs.YtcipkabpekdflaaDoorW.PrintLast Go.Proofs.YtcipkabpekdflaaDoorW.PrintMore Go.Proofs.YtcipkabpekdflaaDoor.bs Go.ChangeShapes

def bitI (x : Int) (m : Nat) : Bool := decide (x / 2 ^ m % 2 = 1)
theorem bitI_nat (x m : Nat) : bitI (x : Int) m = x.testBit m := by
  unfold bitI
  rw [Nat.testBit_eq_decide_div_mod_eq]
  congr 1
  have h : ((x / 2 ^ m % 2 : Nat) : Int) = (x : Int) / 2 ^ m % 2 := by simp
  rw [← h]
  exact propext ⟨fun h => by omega, fun h => by omega⟩
theorem xor_u64 (a b : Nat) (ha : a < 18446744073709551616) (hb : b < 18446744073709551616) : Go.bits .xor .u64 (a : Int) (b : Int) = ((a ^^^ b : Nat) : Int) := by
  show IntKind.u64.wrap ((BitVec.ofInt 64 (a : Int) ^^^ BitVec.ofInt 64 (b : Int)).toNat : Int) = _
  rw [BitVec.toNat_xor, BitVec.ofInt_natCast, BitVec.ofInt_natCast, BitVec.toNat_ofNat, BitVec.toNat_ofNat, Nat.mod_eq_of_lt (show a < 2 ^ 64 from ha), Nat.mod_eq_of_lt (show b < 2 ^ 64 from hb), IntKind.wrap_u64]
  have : a ^^^ b < 2 ^ 64 := Nat.xor_lt_two_pow (show a < 2 ^ 64 from ha) (show b < 2 ^ 64 from hb)
  have e : (2 : Nat) ^ 64 = 18446744073709551616 := rfl
  omega
theorem flip_bit (x : Int) (n m : Nat) (h0 : 0 ≤ x) (h1 : x < 18446744073709551616) (hn : n < 64) : bitI (Go.bits .xor .u64 x (2 ^ n)) m = (bitI x m ^^ decide (n = m)) := by
  obtain ⟨a, rfl⟩ := Int.eq_ofNat_of_zero_le h0
  have hp : (2 : Nat) ^ n < 18446744073709551616 := by
    have : (2 : Nat) ^ n ≤ 2 ^ 63 := Nat.pow_le_pow_right (by omega) (by omega)
    have e : (2 : Nat) ^ 63 = 9223372036854775808 := rfl
    omega
  have e : (2 : Int) ^ n = ((2 ^ n : Nat) : Int) := by simp
  rw [e, xor_u64 a (2 ^ n) (by omega) hp, bitI_nat, bitI_nat, Nat.testBit_xor, Nat.testBit_two_pow]
theorem xor_bd (a b : Int) : 0 ≤ Go.bits .xor .u64 a b ∧ Go.bits .xor .u64 a b < 18446744073709551616 := by
  show 0 ≤ IntKind.u64.wrap ((BitVec.ofInt 64 a ^^^ BitVec.ofInt 64 b).toNat : Int) ∧ IntKind.u64.wrap ((BitVec.ofInt 64 a ^^^ BitVec.ofInt 64 b).toNat : Int) < _
  rw [IntKind.wrap_u64]
  omega
def nextV (b0 b1 s0 s1 half : Int) (live : Bool) (n : Nat) : Bool := bitI (if live then (if half = 0 then s0 else s1) else (if half = 0 then b0 else b1)) n
theorem next_walk (l b0 b1 s0 s1 half : Int) (live : Bool) (n : Int) (hh : 0 ≤ half ∧ half ≤ 1) (hn : 0 ≤ n ∧ n ≤ 63) (w : World) :
    Calls Tryd.prog 10 #[tabV l b0 b1 s0 s1, .int .i64 half, .bool live, .int .i64 n] w fun e w' => e = .returned (.bool (nextV b0 b1 s0 s1 half live n.toNat)) ∧ Below w.heap.size w w' := by
  unfold tabV
  obtain ⟨n0, n1⟩ := hn
  have hand : ∀ x : Int, Go.bits .and .u64 x 1 = x % 2 := fun x => and_mask_u64 x 1 (by omega)
  have h01 : half = 0 ∨ half = 1 := by omega
  rcases h01 with rfl | rfl <;> cases live
  all_goals
    go_enter Tryd.func10, Tryd.ntmps10
    go_wp2_with (fail)
    go_ret
    exact ⟨rfl, by (repeat' (first | (with_reducible exact Below.refl _ _) | (with_reducible assumption) | (with_reducible refine Below.alloc ?_ ?_ _) | (with_reducible refine Below.drew ?_) | (with_reducible refine Below.setCell ?_ ?_ _) | (with_reducible refine chain ?_ (by assumption) ?_) | go_size))⟩
end Go.Proofs.YtcipkabpekdflaaDoor.ts
