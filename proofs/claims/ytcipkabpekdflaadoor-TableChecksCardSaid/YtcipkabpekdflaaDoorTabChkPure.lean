/- May a table be: the reference's loops over bits, and masks of words. Plain facts. -/
import Derived.Test.YtcipkabpekdflaaDoorQTableChecksx2
import Derived.Test.YtcipkabpekdflaaDoorQTableChecksx3
import Derived.Test.YtcipkabpekdflaaDoorTabNext
namespace Go.Proofs.YtcipkabpekdflaaDoor.ts
open Go.RowKit Go.Proofs.YtcipkabpekdflaaDoorW.PrintWords Go.Proofs.YtcipkabpekdflaaDoorW.PrintLast Go.Proofs.YtcipkabpekdflaaDoorW.PrintMore Go.Proofs.YtcipkabpekdflaaDoor.PTableChecks

theorem rbit_l0 (n : Int) (d : Nat) : ∀ (k : Nat) (x j : Int), 0 ≤ x → x < 18446744073709551616 → 0 ≤ j → j ≤ n → n ≤ 63 → (n - j).toNat = d → d < k → honeycombref05_bit.l0 k x n j = some (x / 2 ^ d % 2) := by
  induction d with
  | zero =>
    intro k x j h0 h1 h2 h3 h4 hd hk
    obtain ⟨k, rfl⟩ : ∃ m, k = m + 1 := ⟨k - 1, by omega⟩
    simp only [honeycombref05_bit.l0]
    rw [if_neg (by omega), Int.tmod_eq_emod_of_nonneg h0]
    simp
    unfold wrap64; omega
  | succ d ih =>
    intro k x j h0 h1 h2 h3 h4 hd hk
    obtain ⟨k, rfl⟩ : ∃ m, k = m + 1 := ⟨k - 1, by omega⟩
    simp only [honeycombref05_bit.l0]
    rw [if_pos (by omega), Int.tdiv_eq_ediv_of_nonneg h0, show wrap64 (j + 1) = j + 1 by unfold wrap64; omega, show IntKind.u64.wrap (x / 2) = x / 2 by rw [IntKind.wrap_u64]; omega]
    rw [ih k (x / 2) (j + 1) (by omega) (by omega) (by omega) (by omega) h4 (by omega) (by omega)]
    rw [Int.pow_succ', ← Int.ediv_ediv_of_nonneg (by omega : (0 : Int) ≤ 2)]
theorem rbit_tells (x : Int) (n : Nat) (hx : 0 ≤ x ∧ x < 18446744073709551616) (hn : n < 64) (k : Nat) (hk : 64 < k) : honeycombref05_bit.f k x n = some (x / 2 ^ n % 2) := by
  unfold honeycombref05_bit.f
  rw [rbit_l0 n n k x 0 hx.1 hx.2 (by omega) (by omega) (by omega) (by omega) (by omega)]
def badAt (T : Bool) (B S : Int) (n : Nat) : Bool := (bitI B n && (!T || n == 0)) || (bitI S n && !T)
theorem j3_step (k : Nat) (hk : 64 < k) (most l b0 b1 s0 s1 : Int) (h : Nat) (hh : h < 2) (n : Nat) (hn : n < 64) (T : Bool)
    (hb : 0 ≤ [b0, b1].getD h 0 ∧ [b0, b1].getD h 0 < 18446744073709551616) (hs : 0 ≤ [s0, s1].getD h 0 ∧ [s0, s1].getD h 0 < 18446744073709551616) :
    honeycombref05_Check.j3 (k + 1) most h n T l [b0, b1] [s0, s1] = if badAt T ([b0, b1].getD h 0) ([s0, s1].getD h 0) n then some 5 else honeycombref05_Check.l1 k most h ((n + 1 : Nat) : Int) l [b0, b1] [s0, s1] := by
  have hr1 : rd [b0, b1] (h : Int) = [b0, b1].getD h 0 := by simp [rd]
  have hr2 : rd [s0, s1] (h : Int) = [s0, s1].getD h 0 := by simp [rd]
  have hl1 : (h : Int) < ([b0, b1].length : Int) := by simp; omega
  have hl2 : (h : Int) < ([s0, s1].length : Int) := by simp; omega
  have hw : wrap64 ((n : Int) + 1) = ((n + 1 : Nat) : Int) := by unfold wrap64; omega
  simp only [honeycombref05_Check.j3]
  rw [if_pos (by omega), if_pos hl1, hr1, hr2, rbit_tells _ n hb hn k hk, rbit_tells _ n hs hn k hk]
  simp only [Option.bind_some, if_pos hl2, hw]
  unfold badAt bitI
  generalize [b0, b1].getD h 0 / 2 ^ n % 2 = x
  generalize [s0, s1].getD h 0 / 2 ^ n % 2 = y
  by_cases hx : x = 1 <;> by_cases hy : y = 1 <;> cases T <;> by_cases h0 : n = 0 <;> simp [hx, hy, h0]
/-- may there be such a neighbourhood? -/
def thereB (most l : Int) (h n : Nat) : Bool := decide ((n : Int) ≤ most) && (h == 0 || decide (l > 1))
def badL (most l b0 b1 s0 s1 : Int) (h n : Nat) : Bool := badAt (thereB most l h n) ([b0, b1].getD h 0) ([s0, s1].getD h 0) n
theorem l1_step (k : Nat) (hk : 64 < k) (most l b0 b1 s0 s1 : Int) (h : Nat) (hh : h < 2) (n : Nat) (hn : n < 64)
    (hb : 0 ≤ [b0, b1].getD h 0 ∧ [b0, b1].getD h 0 < 18446744073709551616) (hs : 0 ≤ [s0, s1].getD h 0 ∧ [s0, s1].getD h 0 < 18446744073709551616) :
    honeycombref05_Check.l1 (k + 2) most h n l [b0, b1] [s0, s1] = if badL most l b0 b1 s0 s1 h n then some 5 else honeycombref05_Check.l1 k most h ((n + 1 : Nat) : Int) l [b0, b1] [s0, s1] := by
  have j := fun T => j3_step k hk most l b0 b1 s0 s1 h hh n hn T hb hs
  rw [honeycombref05_Check.l1, if_pos (by omega)]
  unfold badL thereB
  by_cases h1 : (n : Int) ≤ most
  · rw [if_pos h1, decide_eq_true h1]
    by_cases h2 : h = 0
    · subst h2
      rw [if_pos (by rfl), j]
      rfl
    · rw [if_neg (by omega), j, show (h == 0) = false by simpa using h2, Bool.true_and, Bool.false_or]
  · rw [if_neg h1, j, decide_eq_false h1]
    rfl
theorem l1_run (most l b0 b1 s0 s1 : Int) (h : Nat) (hh : h < 2)
    (hb : 0 ≤ [b0, b1].getD h 0 ∧ [b0, b1].getD h 0 < 18446744073709551616) (hs : 0 ≤ [s0, s1].getD h 0 ∧ [s0, s1].getD h 0 < 18446744073709551616) (K : Nat) (hK : 64 < K) (d : Nat) : ∀ n : Nat, n + d = 64 →
    honeycombref05_Check.l1 (K + 2 * d + 1) most h n l [b0, b1] [s0, s1] = if (List.range' n d).any (badL most l b0 b1 s0 s1 h) then some 5 else honeycombref05_Check.l0 K most ((h + 1 : Nat) : Int) l [b0, b1] [s0, s1] := by
  induction d with
  | zero =>
    intro n hn
    rw [honeycombref05_Check.l1, if_neg (by omega), show wrap64 ((h : Int) + 1) = ((h + 1 : Nat) : Int) by unfold wrap64; omega]
    simp
  | succ d ih =>
    intro n hn
    rw [show K + 2 * (d + 1) + 1 = (K + 2 * d + 1) + 2 by omega, l1_step _ (by omega) most l b0 b1 s0 s1 h hh n (by omega) hb hs, ih (n + 1) (by omega)]
    simp only [List.range'_succ, List.any_cons]
    cases badL most l b0 b1 s0 s1 h n with
    | false => rw [Bool.false_or]; rfl
    | true => rfl
def refBad (most l b0 b1 s0 s1 : Int) (h : Nat) : Bool := (List.range' 0 64).any (badL most l b0 b1 s0 s1 h)
theorem l0_run (most l b0 b1 s0 s1 : Int) (hb0 : 0 ≤ b0 ∧ b0 < 18446744073709551616) (hb1 : 0 ≤ b1 ∧ b1 < 18446744073709551616) (hs0 : 0 ≤ s0 ∧ s0 < 18446744073709551616) (hs1 : 0 ≤ s1 ∧ s1 < 18446744073709551616) :
    honeycombref05_Check.l0 400 most 0 l [b0, b1] [s0, s1] = some (if refBad most l b0 b1 s0 s1 0 || refBad most l b0 b1 s0 s1 1 then 5 else 0) := by
  have r0 := l1_run most l b0 b1 s0 s1 0 (by omega) hb0 hs0 270 (by omega) 64 0 (by omega)
  have r1 := l1_run most l b0 b1 s0 s1 1 (by omega) hb1 hs1 140 (by omega) 64 0 (by omega)
  rw [honeycombref05_Check.l0, if_pos (by decide)]
  rw [show honeycombref05_Check.l1 399 most 0 0 l [b0, b1] [s0, s1] = _ from r0]
  rw [show honeycombref05_Check.l0 270 most ((0 + 1 : Nat) : Int) l [b0, b1] [s0, s1] = honeycombref05_Check.l1 269 most 1 0 l [b0, b1] [s0, s1] by rw [honeycombref05_Check.l0, if_pos (by decide)]; rfl]
  rw [show honeycombref05_Check.l1 269 most 1 0 l [b0, b1] [s0, s1] = _ from r1]
  rw [show honeycombref05_Check.l0 140 most ((1 + 1 : Nat) : Int) l [b0, b1] [s0, s1] = some 0 by rw [honeycombref05_Check.l0, if_neg (by decide)]]
  unfold refBad
  cases (List.range' 0 64).any (badL most l b0 b1 s0 s1 0) <;> cases (List.range' 0 64).any (badL most l b0 b1 s0 s1 1) <;> rfl
def mostI (l : Int) : Int := if l = 1 then 63 else if l = 2 then 3 else 12
def refCode (l b0 b1 s0 s1 : Int) : Int := if l < 1 ∨ 3 < l then 11 else if refBad (mostI l) l b0 b1 s0 s1 0 || refBad (mostI l) l b0 b1 s0 s1 1 then 5 else 0
theorem check_tells (l b0 b1 s0 s1 : Int) (hb0 : 0 ≤ b0 ∧ b0 < 18446744073709551616) (hb1 : 0 ≤ b1 ∧ b1 < 18446744073709551616) (hs0 : 0 ≤ s0 ∧ s0 < 18446744073709551616) (hs1 : 0 ≤ s1 ∧ s1 < 18446744073709551616) :
    honeycombref05_Check.f 401 l [b0, b1] [s0, s1] = some (refCode l b0 b1 s0 s1) := by
  unfold honeycombref05_Check.f refCode
  by_cases h1 : l < 1
  · rw [if_pos h1, if_pos (.inl h1), honeycombref05_Check.j0, if_pos rfl]
  · rw [if_neg h1]
    by_cases h3 : 3 < l
    · rw [if_pos (.inr h3), decide_eq_true (show l > 3 from h3), honeycombref05_Check.j0, if_pos rfl]
    · rw [if_neg (by omega), decide_eq_false (show ¬ l > 3 from h3), honeycombref05_Check.j0, if_neg (by decide)]
      simp only [Option.bind_some]
      rw [if_pos (by omega), if_pos (by simp; omega)]
      have h : l = 1 ∨ l = 2 ∨ l = 3 := by omega
      rcases h with rfl | rfl | rfl
      · exact l0_run 63 1 b0 b1 s0 s1 hb0 hb1 hs0 hs1
      · exact l0_run 3 2 b0 b1 s0 s1 hb0 hb1 hs0 hs1
      · exact l0_run 12 3 b0 b1 s0 s1 hb0 hb1 hs0 hs1
theorem and_u64 (a b : Nat) (ha : a < 18446744073709551616) (hb : b < 18446744073709551616) : Go.bits .and .u64 (a : Int) (b : Int) = ((a &&& b : Nat) : Int) := by
  show IntKind.u64.wrap ((BitVec.ofInt 64 (a : Int) &&& BitVec.ofInt 64 (b : Int)).toNat : Int) = _
  rw [BitVec.toNat_and, BitVec.ofInt_natCast, BitVec.ofInt_natCast, BitVec.toNat_ofNat, BitVec.toNat_ofNat, Nat.mod_eq_of_lt (show a < 2 ^ 64 from ha), Nat.mod_eq_of_lt (show b < 2 ^ 64 from hb), IntKind.wrap_u64]
  have : a &&& b ≤ a := Nat.and_le_left
  omega
theorem and_any (x m : Nat) (hx : x < 18446744073709551616) (hm : m < 18446744073709551616) :
    decide (Go.bits .and .u64 (x : Int) (m : Int) ≠ 0) = (List.range' 0 64).any (fun i => x.testBit i && m.testBit i) := by
  rw [and_u64 x m hx hm, Bool.eq_iff_iff, decide_eq_true_eq, List.any_eq_true]
  constructor
  · intro h
    have hne : x &&& m ≠ 0 := by intro e; rw [e] at h; exact h rfl
    obtain ⟨i, hi⟩ := Nat.exists_testBit_of_ne_zero hne
    have h64 : i < 64 := by
      rcases Nat.lt_or_ge i 64 with h1 | h1
      · exact h1
      · have : (x &&& m).testBit i = false := Nat.testBit_lt_two_pow (Nat.lt_of_lt_of_le (show x &&& m < 2 ^ 64 from Nat.lt_of_le_of_lt Nat.and_le_left hx) (Nat.pow_le_pow_right (by omega) h1))
        rw [this] at hi; cases hi
    exact ⟨i, by simp; omega, by rw [Nat.testBit_and] at hi; exact hi⟩
  · rintro ⟨i, _, hi⟩ e
    have e' : x &&& m = 0 := by omega
    have : (x &&& m).testBit i = true := by rw [Nat.testBit_and]; exact hi
    rw [e'] at this
    simp at this
theorem any_or {α : Type} (l : List α) (f g : α → Bool) : l.any (fun i => f i || g i) = (l.any f || l.any g) := by
  induction l with
  | nil => rfl
  | cons a l ih => simp only [List.any_cons, ih]; cases f a <;> cases g a <;> simp
theorem any_congr {α : Type} (l : List α) (f g : α → Bool) (h : ∀ i ∈ l, f i = g i) : l.any f = l.any g := by
  induction l with
  | nil => rfl
  | cons a l ih => simp only [List.any_cons]; rw [h a (by simp), ih (fun i hi => h i (by simp [hi]))]
theorem bad_masks (most l b0 b1 s0 s1 : Int) (h : Nat) (m1 m2 : Nat) (h1 : m1 < 18446744073709551616) (h2 : m2 < 18446744073709551616)
    (hm1 : ∀ i, i < 64 → m1.testBit i = (!thereB most l h i || i == 0)) (hm2 : ∀ i, i < 64 → m2.testBit i = !thereB most l h i)
    (hb : 0 ≤ [b0, b1].getD h 0 ∧ [b0, b1].getD h 0 < 18446744073709551616) (hs : 0 ≤ [s0, s1].getD h 0 ∧ [s0, s1].getD h 0 < 18446744073709551616) :
    refBad most l b0 b1 s0 s1 h = (decide (Go.bits .and .u64 ([b0, b1].getD h 0) (m1 : Int) ≠ 0) || decide (Go.bits .and .u64 ([s0, s1].getD h 0) (m2 : Int) ≠ 0)) := by
  unfold refBad badL badAt
  generalize [b0, b1].getD h 0 = B at *
  generalize [s0, s1].getD h 0 = S at *
  obtain ⟨x, rfl⟩ := Int.eq_ofNat_of_zero_le hb.1
  obtain ⟨y, rfl⟩ := Int.eq_ofNat_of_zero_le hs.1
  rw [and_any x m1 (by omega) h1, and_any y m2 (by omega) h2, ← any_or]
  refine any_congr _ _ _ (fun i hi => ?_)
  have h64 : i < 64 := by simp at hi; omega
  rw [bitI_nat, bitI_nat, hm1 i h64, hm2 i h64]
/-- the words of which a table may not have any bit: of births, of those that stay -/
def outM (l : Int) (h : Nat) : Nat := if l = 1 then (if h = 0 then 0 else 18446744073709551615) else if l = 2 then 18446744073709551600 else 18446744073709543424
def outB (l : Int) (h : Nat) : Nat := if l = 1 then (if h = 0 then 1 else 18446744073709551615) else if l = 2 then 18446744073709551601 else 18446744073709543425
theorem masks_all : ∀ (l : Fin 3) (h : Fin 2) (i : Fin 64), (outB ((l.val : Int) + 1) h.val).testBit i.val = (!thereB (mostI ((l.val : Int) + 1)) ((l.val : Int) + 1) h.val i.val || i.val == 0) ∧ (outM ((l.val : Int) + 1) h.val).testBit i.val = !thereB (mostI ((l.val : Int) + 1)) ((l.val : Int) + 1) h.val i.val := by decide +kernel
theorem out_lt (l : Int) (h : Nat) : outM l h < 18446744073709551616 ∧ outB l h < 18446744073709551616 := by
  unfold outM outB
  constructor
  · split
    · split <;> decide
    · split <;> decide
  · split
    · split <;> decide
    · split <;> decide
theorem bad_tells (l b0 b1 s0 s1 : Int) (hl : 1 ≤ l ∧ l ≤ 3) (h : Nat) (hh : h < 2)
    (hb : 0 ≤ [b0, b1].getD h 0 ∧ [b0, b1].getD h 0 < 18446744073709551616) (hs : 0 ≤ [s0, s1].getD h 0 ∧ [s0, s1].getD h 0 < 18446744073709551616) :
    refBad (mostI l) l b0 b1 s0 s1 h = (decide (Go.bits .and .u64 ([b0, b1].getD h 0) (outB l h : Int) ≠ 0) || decide (Go.bits .and .u64 ([s0, s1].getD h 0) (outM l h : Int) ≠ 0)) := by
  have e : (((l - 1).toNat : Nat) : Int) + 1 = l := by omega
  have m := fun i hi => masks_all ⟨(l - 1).toNat, by omega⟩ ⟨h, hh⟩ ⟨i, hi⟩
  simp only [e] at m
  exact bad_masks (mostI l) l b0 b1 s0 s1 h (outB l h) (outM l h) (out_lt l h).2 (out_lt l h).1 (fun i hi => (m i hi).1) (fun i hi => (m i hi).2) hb hs
end Go.Proofs.YtcipkabpekdflaaDoor.ts
