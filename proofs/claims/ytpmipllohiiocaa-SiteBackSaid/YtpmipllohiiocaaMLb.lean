/- Counting bits: plain facts. -/
import Derived.Test.YtpmipllohiiocaaBase
namespace Go.Proofs.Ytpmipllohiiocaa.lb
open Go.RowKit

def dig (f : Int) (k : Nat) : Int := f / 4 ^ k % 4
theorem dig_bd (f : Int) (k : Nat) : 0 ≤ dig f k ∧ dig f k ≤ 3 := by unfold dig; omega

theorem ext_dig (n : Nat) : ∀ (f g : Int), 0 ≤ f → f < 4 ^ n → 0 ≤ g → g < 4 ^ n → (∀ k, k < n → dig f k = dig g k) → f = g := by
  induction n with
  | zero => intro f g h0 h1 h2 h3 _; simp at h1 h3; omega
  | succ n ih =>
    intro f g h0 h1 h2 h3 h
    have hz := h 0 (by omega)
    simp [dig] at hz
    have h1' : f / 4 < 4 ^ n := by rw [Int.pow_succ] at h1; omega
    have h3' : g / 4 < 4 ^ n := by rw [Int.pow_succ] at h3; omega
    have := ih (f / 4) (g / 4) (by omega) h1' (by omega) h3' (fun k hk => by
      have := h (k + 1) (by omega)
      simp only [dig] at this ⊢
      rw [Int.pow_succ', ← Int.ediv_ediv_of_nonneg (by omega : (0:Int) ≤ 4), ← Int.ediv_ediv_of_nonneg (by omega : (0:Int) ≤ 4)] at this
      exact this)
    omega

/-- a digit, by the bits of a vector -/
theorem dig_vec (X : BitVec 32) (k : Nat) : dig (X.toNat : Int) k = (((X >>> (2 * k)) &&& 3#32).toNat : Int) := by
  rw [BitVec.toNat_and, BitVec.toNat_ushiftRight, show (3#32).toNat = 2 ^ 2 - 1 from rfl, Nat.and_two_pow_sub_one_eq_mod, Nat.shiftRight_eq_div_pow]
  unfold dig
  rw [Int.natCast_emod, Int.natCast_ediv, Int.natCast_pow]
  rw [show ((2:Nat):Int) = 2 from rfl, Int.pow_mul]
  rfl

theorem put_vec (A S : BitVec 32) (k m : Nat) (hk : k < 16) (hm : m < 16) (hS : S.toNat < 4) :
    (((A &&& ~~~(3#32 <<< (2 * k))) ||| (S <<< (2 * k))) >>> (2 * m)) &&& 3#32 = if m = k then S else (A >>> (2 * m)) &&& 3#32 := by
  have h3 : ∀ i, (3#32).getLsbD i = decide (i < 2) := by
    intro i
    by_cases h : i < 32
    · have : ∀ j : Fin 32, (3#32).getLsbD j.val = decide (j.val < 2) := by decide
      exact this ⟨i, h⟩
    · rw [BitVec.getLsbD_of_ge _ _ (by omega)]; simp; omega
  have hs : ∀ i, 2 ≤ i → S.getLsbD i = false := by
    intro i hi
    apply Nat.testBit_lt_two_pow
    exact Nat.lt_of_lt_of_le hS (by calc 4 = 2 ^ 2 := rfl
      _ ≤ 2 ^ i := Nat.pow_le_pow_right (by omega) hi)
  apply BitVec.eq_of_getLsbD_eq
  intro i hi
  by_cases h : m = k
  · subst h
    rw [if_pos rfl]
    simp only [BitVec.getLsbD_and, BitVec.getLsbD_ushiftRight, BitVec.getLsbD_or, BitVec.getLsbD_not, BitVec.getLsbD_shiftLeft, h3]
    by_cases h2 : i < 2
    · have e : 2 * m + i - 2 * m = i := by omega
      have e1 : 2 * m + i < 32 := by omega
      have e2 : ¬ 2 * m + i < 2 * m := by omega
      simp [h2, e, e1, e2]
    · simp [h2, hs i (by omega)]
  · rw [if_neg h]
    simp only [BitVec.getLsbD_and, BitVec.getLsbD_ushiftRight, BitVec.getLsbD_or, BitVec.getLsbD_not, BitVec.getLsbD_shiftLeft, h3]
    by_cases h2 : i < 2
    · have e1 : 2 * m + i < 32 := by omega
      by_cases h4 : 2 * m + i < 2 * k
      · simp [h2, e1, h4]
      · have e2 : ¬ (2 * m + i - 2 * k < 2) := by omega
        simp [h2, e1, h4, e2, hs _ (by omega : 2 ≤ 2 * m + i - 2 * k)]
    · simp [h2]

theorem u32_toNat (a : Int) (h : 0 ≤ a ∧ a < 4294967296) : ((BitVec.ofInt 32 a).toNat : Int) = a := by
  rw [BitVec.toNat_ofInt]; omega
theorem vec_lt (X : BitVec 32) : 0 ≤ (X.toNat : Int) ∧ (X.toNat : Int) < 4294967296 := by have := X.isLt; omega
theorem wrap_u32 (X : BitVec 32) : IntKind.u32.wrap (X.toNat : Int) = X.toNat := by
  rw [IntKind.wrap_u32]; have := X.isLt; omega

/-- what Put makes of a leaf: range and digits -/
def putN (f : Int) (n : Nat) (s : Int) : Int := bits .or .u32 (bits .andNot .u32 f (3 * 2 ^ (2 * n))) (s * 2 ^ (2 * n))
theorem three_all : ∀ k : Fin 16, BitVec.ofInt 32 (3 * 2 ^ (2 * k.val)) = 3#32 <<< (2 * k.val) := by decide +kernel
theorem digit_all : ∀ (s : Fin 4) (k : Fin 16), BitVec.ofInt 32 ((s.val : Int) * 2 ^ (2 * k.val)) = (BitVec.ofNat 32 s.val) <<< (2 * k.val) := by decide +kernel
theorem putN_tells (f : Int) (k : Nat) (s : Int) (hf : 0 ≤ f ∧ f < 4294967296) (hk : k < 16) (hs : 0 ≤ s ∧ s < 4) :
    (0 ≤ putN f k s ∧ putN f k s < 4294967296) ∧ ∀ m, m < 16 → dig (putN f k s) m = if m = k then s else dig f m := by
  obtain ⟨t, rfl⟩ : ∃ t : Nat, s = t := ⟨s.toNat, by omega⟩
  have e3 := three_all ⟨k, hk⟩
  have es := digit_all ⟨t, by omega⟩ ⟨k, hk⟩
  simp only at e3 es
  have key : putN f k t = ((((BitVec.ofInt 32 f) &&& ~~~(3#32 <<< (2 * k))) ||| ((BitVec.ofNat 32 t) <<< (2 * k))).toNat : Int) := by
    have h1 : bits .andNot .u32 f (3 * 2 ^ (2 * k)) = (((BitVec.ofInt 32 f) &&& ~~~(3#32 <<< (2 * k))).toNat : Int) := by
      show IntKind.u32.wrap ((BitVec.ofInt 32 f &&& ~~~ BitVec.ofInt 32 (3 * 2 ^ (2 * k))).toNat : Int) = _
      rw [e3, wrap_u32]
    unfold putN
    rw [h1]
    show IntKind.u32.wrap ((BitVec.ofInt 32 _ ||| BitVec.ofInt 32 ((t : Int) * 2 ^ (2 * k))).toNat : Int) = _
    rw [es, wrap_u32, BitVec.ofInt_natCast, BitVec.ofNat_toNat, BitVec.setWidth_eq]
  rw [key]
  refine ⟨vec_lt _, fun m hm => ?_⟩
  have ht : (BitVec.ofNat 32 t).toNat = t := by rw [BitVec.toNat_ofNat]; omega
  rw [dig_vec, put_vec _ _ _ _ hk hm (by omega)]
  by_cases h : m = k
  · rw [if_pos h, if_pos h, ht]
  · rw [if_neg h, if_neg h, ← dig_vec, u32_toNat f hf]
theorem dig_zero (k : Nat) : dig 0 k = 0 := by unfold dig; simp
end Go.Proofs.Ytpmipllohiiocaa.lb
namespace Go.Proofs.Ytpmipllohiiocaa.lb
open Go.RowKit

def popN : Nat → Nat → Nat
  | 0, _ => 0
  | n + 1, x => x % 2 + popN n (x / 2)
theorem popN_zero (n : Nat) : popN n 0 = 0 := by induction n with
  | zero => rfl
  | succ n ih => simp [popN, ih]
theorem and_pred (n : Nat) : ∀ x : Nat, 0 < x → x < 2 ^ n → popN n (x &&& (x - 1)) + 1 = popN n x := by
  induction n with
  | zero => intro x h0 h1; simp at h1; omega
  | succ n ih =>
    intro x h0 h1
    have hd : (x &&& (x - 1)) / 2 = x / 2 &&& (x - 1) / 2 := Nat.and_div_two
    have hm : (x &&& (x - 1)) % 2 = 0 := by
      have := Nat.and_mod_two_pow (a := x) (b := x - 1) (n := 1)
      simp only [Nat.pow_one] at this
      rw [this]
      rcases Nat.mod_two_eq_zero_or_one x with h | h
      · rw [h]; simp
      · rw [show (x - 1) % 2 = 0 by omega]; simp
    simp only [popN]
    rw [hd, hm]
    rcases Nat.mod_two_eq_zero_or_one x with h | h
    · have e : (x - 1) / 2 = x / 2 - 1 := by omega
      have := ih (x / 2) (by omega) (by rw [Nat.pow_succ] at h1; omega)
      rw [e, h]; omega
    · have e : (x - 1) / 2 = x / 2 := by omega
      rw [e, h, Nat.and_self]; omega

theorem and_u32 (x y : Int) : bits .and .u32 x y = ((BitVec.ofInt 32 x &&& BitVec.ofInt 32 y).toNat : Int) := by
  show IntKind.u32.wrap ((BitVec.ofInt 32 x &&& BitVec.ofInt 32 y).toNat : Int) = _
  exact wrap_u32 _
theorem and_pred_u32 (x : Nat) (h0 : 0 < x) (hx : x < 4294967296) : bits .and .u32 (x : Int) (((x : Int) - 1) % 4294967296) = ((x &&& (x - 1) : Nat) : Int) := by
  rw [show ((x : Int) - 1) % 4294967296 = ((x - 1 : Nat) : Int) by omega, and_u32, BitVec.toNat_and, BitVec.ofInt_natCast, BitVec.ofInt_natCast, BitVec.toNat_ofNat, BitVec.toNat_ofNat]
  rw [Nat.mod_eq_of_lt (show x < 2 ^ 32 from hx), Nat.mod_eq_of_lt (show x - 1 < 2 ^ 32 from Nat.lt_of_le_of_lt (Nat.sub_le _ _) hx)]
def bitv (f : Int) (j : Nat) : Int := f / 2 ^ j % 2
theorem dig_bits (f : Int) (k : Nat) : dig f k % 2 = bitv f (2 * k) ∧ dig f k / 2 = bitv f (2 * k + 1) := by
  unfold dig bitv
  have h : (2 : Int) ^ (2 * k) = 4 ^ k := by rw [Int.pow_mul]; rfl
  have h2 : (2 : Int) ^ (2 * k + 1) = 4 ^ k * 2 := by rw [Int.pow_succ, h]
  rw [h2, ← Int.ediv_ediv_of_nonneg (Int.le_of_lt (Int.pow_pos (by decide))), h]
  omega
theorem popN_int (n : Nat) : ∀ x : Nat, (popN (n + 1) x : Int) = (x : Int) % 2 + popN n (x / 2) := by intro x; simp [popN]
end Go.Proofs.Ytpmipllohiiocaa.lb
