/- Counting bits: plain facts. -/
import Derived.Test.YtbkbkgfpnefilaaLeafBits
namespace Go.Proofs.Ytbkbkgfpnefilaa.lb
open Go.RowKit

def popN : Nat → Nat → Nat
  | 0, _ => 0
  | n + 1, x => x % 2 + popN n (x / 2)
theorem popN_zero (n : Nat) : popN n 0 = 0 := by induction n with
  | zero => rfl
  | succ n ih => simp [popN, ih]
theorem and_pred (n : Nat) : ∀ x : Nat, 0 < x → x < 2 ^ n → popN n (x &&& (x - 1)) + 1 = popN n x := by
  induction n with
  | zero => intro x h0 h1; simp at h1; omega
  | succ n ih =>
    intro x h0 h1
    have hd : (x &&& (x - 1)) / 2 = x / 2 &&& (x - 1) / 2 := Nat.and_div_two
    have hm : (x &&& (x - 1)) % 2 = 0 := by
      have := Nat.and_mod_two_pow (a := x) (b := x - 1) (n := 1)
      simp only [Nat.pow_one] at this
      rw [this]
      rcases Nat.mod_two_eq_zero_or_one x with h | h
      · rw [h]; simp
      · rw [show (x - 1) % 2 = 0 by omega]; simp
    simp only [popN]
    rw [hd, hm]
    rcases Nat.mod_two_eq_zero_or_one x with h | h
    · have e : (x - 1) / 2 = x / 2 - 1 := by omega
      have := ih (x / 2) (by omega) (by rw [Nat.pow_succ] at h1; omega)
      rw [e, h]; omega
    · have e : (x - 1) / 2 = x / 2 := by omega
      rw [e, h, Nat.and_self]; omega

theorem and_u32 (x y : Int) : bits .and .u32 x y = ((BitVec.ofInt 32 x &&& BitVec.ofInt 32 y).toNat : Int) := by
  show IntKind.u32.wrap ((BitVec.ofInt 32 x &&& BitVec.ofInt 32 y).toNat : Int) = _
  exact wrap_u32 _
theorem and_pred_u32 (x : Nat) (h0 : 0 < x) (hx : x < 4294967296) : bits .and .u32 (x : Int) (((x : Int) - 1) % 4294967296) = ((x &&& (x - 1) : Nat) : Int) := by
  rw [show ((x : Int) - 1) % 4294967296 = ((x - 1 : Nat) : Int) by omega, and_u32, BitVec.toNat_and, BitVec.ofInt_natCast, BitVec.ofInt_natCast, BitVec.toNat_ofNat, BitVec.toNat_ofNat]
  rw [Nat.mod_eq_of_lt (show x < 2 ^ 32 from hx), Nat.mod_eq_of_lt (show x - 1 < 2 ^ 32 from Nat.lt_of_le_of_lt (Nat.sub_le _ _) hx)]
def bitv (f : Int) (j : Nat) : Int := f / 2 ^ j % 2
theorem dig_bits (f : Int) (k : Nat) : dig f k % 2 = bitv f (2 * k) ∧ dig f k / 2 = bitv f (2 * k + 1) := by
  unfold dig bitv
  have h : (2 : Int) ^ (2 * k) = 4 ^ k := by rw [Int.pow_mul]; rfl
  have h2 : (2 : Int) ^ (2 * k + 1) = 4 ^ k * 2 := by rw [Int.pow_succ, h]
  rw [h2, ← Int.ediv_ediv_of_nonneg (Int.le_of_lt (Int.pow_pos (by decide))), h]
  omega
theorem popN_int (n : Nat) : ∀ x : Nat, (popN (n + 1) x : Int) = (x : Int) % 2 + popN n (x / 2) := by intro x; simp [popN]
end Go.Proofs.Ytbkbkgfpnefilaa.lb
