/- A table out of Some may be. -/
import Derived.Test.YtcipkabpekdflaaDoorTabCheck
namespace Go.Proofs.YtcipkabpekdflaaDoor.ts
open Go.RowKit Go.Proofs.YtcipkabpekdflaaDoorW.PrintWords Go.Proofs.YtcipkabpekdflaaDoorW.PrintLast Go.Proofs.YtcipkabpekdflaaDoorW.PrintMore Go.Proofs.YtcipkabpekdflaaDoor.bs Go.ChangeShapes Go.Proofs.YtcipkabpekdflaaDoor.PTableChecks

theorem bit_and (a m : Nat) (ha : a < 18446744073709551616) (hm : m < 18446744073709551616) (n : Nat) : bitI (Go.bits .and .u64 (a : Int) (m : Int)) n = (a.testBit n && m.testBit n) := by
  rw [and_u64 a m ha hm, bitI_nat, Nat.testBit_and]
theorem bit_zero (n : Nat) : bitI 0 n = false := by
  have := bitI_nat 0 n
  rw [Nat.zero_testBit] at this
  exact this
theorem badAt_false {T : Bool} {B S : Int} {n : Nat} (hB : bitI B n = true → T = true ∧ n ≠ 0) (hS : bitI S n = true → T = true) : badAt T B S n = false := by
  unfold badAt
  cases T with
  | true =>
    cases e : bitI B n with
    | true =>
      have := (hB e).2
      simp [this]
    | false => simp
  | false =>
    cases e : bitI B n with
    | true => exact absurd (hB e).1 (by decide)
    | false =>
      cases e2 : bitI S n with
      | true => exact absurd (hS e2) (by decide)
      | false => simp
theorem mask2 : ∀ n, n < 64 → ((14 : Nat).testBit n = true → n ≤ 3 ∧ n ≠ 0) ∧ ((15 : Nat).testBit n = true → n ≤ 3) := by decide +kernel
theorem mask3 : ∀ n, n < 64 → ((8190 : Nat).testBit n = true → n ≤ 12 ∧ n ≠ 0) ∧ ((8191 : Nat).testBit n = true → n ≤ 12) := by decide +kernel
theorem mask1 : ∀ n, n < 64 → ((18446744073709551614 : Nat).testBit n = true → n ≠ 0) := by decide +kernel
theorem refBad_false {most l b0 b1 s0 s1 : Int} {h : Nat} (H : ∀ n, n < 64 → badL most l b0 b1 s0 s1 h n = false) : refBad most l b0 b1 s0 s1 h = false := by
  unfold refBad
  rw [List.any_eq_false]
  intro n hn
  rw [H n (by simp [List.mem_range'] at hn; omega)]
  decide
theorem some_code (lat mask b0 b1 s0 s1 : Nat) (hl : (lat = 1 ∧ mask = 18446744073709551615) ∨ (lat = 2 ∧ mask = 15) ∨ (lat = 3 ∧ mask = 8191)) (hb0 : b0 < 18446744073709551616) (hb1 : b1 < 18446744073709551616) (hs0 : s0 < 18446744073709551616) (hs1 : s1 < 18446744073709551616) :
    refCode (lat : Int) (Go.bits .and .u64 (b0 : Int) (Go.bits .andNot .u64 (mask : Int) 1)) (if (lat : Int) = 1 then 0 else Go.bits .and .u64 (b1 : Int) (Go.bits .andNot .u64 (mask : Int) 1)) (Go.bits .and .u64 (s0 : Int) (mask : Int)) (if (lat : Int) = 1 then 0 else Go.bits .and .u64 (s1 : Int) (mask : Int)) = 0 := by
  rcases hl with ⟨rfl, rfl⟩ | ⟨rfl, rfl⟩ | ⟨rfl, rfl⟩
  · have e : Go.bits .andNot .u64 ((18446744073709551615 : Nat) : Int) 1 = ((18446744073709551614 : Nat) : Int) := by decide +kernel
    rw [e, if_pos (by decide), if_pos (by decide)]
    unfold refCode
    rw [if_neg (by decide), refBad_false (h := 0), refBad_false (h := 1)]
    · rfl
    · intro n hn
      exact badAt_false (B := 0) (S := 0) (fun h => by rw [bit_zero] at h; exact absurd h (by decide)) (fun h => by rw [bit_zero] at h; exact absurd h (by decide))
    · intro n hn
      have ht : thereB (mostI ((1 : Nat) : Int)) ((1 : Nat) : Int) 0 n = true := by
        unfold thereB; rw [show mostI ((1 : Nat) : Int) = 63 from rfl, decide_eq_true (by omega)]; rfl
      refine badAt_false (fun h => ⟨ht, ?_⟩) (fun _ => ht)
      have h2 := (bit_and b0 18446744073709551614 hb0 (by decide) n).symm.trans h
      rw [Bool.and_eq_true] at h2
      exact mask1 n hn h2.2
  · have e : Go.bits .andNot .u64 ((15 : Nat) : Int) 1 = ((14 : Nat) : Int) := by decide +kernel
    rw [e, if_neg (by decide), if_neg (by decide)]
    unfold refCode
    rw [if_neg (by decide), refBad_false (h := 0), refBad_false (h := 1)]
    · rfl
    · intro n hn
      have ht : n ≤ 3 → thereB (mostI ((2 : Nat) : Int)) ((2 : Nat) : Int) 1 n = true := fun h => by
        unfold thereB; rw [show mostI ((2 : Nat) : Int) = 3 from rfl, decide_eq_true (by omega)]; rfl
      refine badAt_false (fun h => ?_) (fun h => ht ?_)
      · have h2 := (bit_and b1 14 hb1 (by decide) n).symm.trans h
        rw [Bool.and_eq_true] at h2
        have h3 := (mask2 n hn).1 h2.2
        exact ⟨ht h3.1, h3.2⟩
      · have h2 := (bit_and s1 15 hs1 (by decide) n).symm.trans h
        rw [Bool.and_eq_true] at h2
        exact (mask2 n hn).2 h2.2
    · intro n hn
      have ht : n ≤ 3 → thereB (mostI ((2 : Nat) : Int)) ((2 : Nat) : Int) 0 n = true := fun h => by
        unfold thereB; rw [show mostI ((2 : Nat) : Int) = 3 from rfl, decide_eq_true (by omega)]; rfl
      refine badAt_false (fun h => ?_) (fun h => ht ?_)
      · have h2 := (bit_and b0 14 hb0 (by decide) n).symm.trans h
        rw [Bool.and_eq_true] at h2
        have h3 := (mask2 n hn).1 h2.2
        exact ⟨ht h3.1, h3.2⟩
      · have h2 := (bit_and s0 15 hs0 (by decide) n).symm.trans h
        rw [Bool.and_eq_true] at h2
        exact (mask2 n hn).2 h2.2
  · have e : Go.bits .andNot .u64 ((8191 : Nat) : Int) 1 = ((8190 : Nat) : Int) := by decide +kernel
    rw [e, if_neg (by decide), if_neg (by decide)]
    unfold refCode
    rw [if_neg (by decide), refBad_false (h := 0), refBad_false (h := 1)]
    · rfl
    · intro n hn
      have ht : n ≤ 12 → thereB (mostI ((3 : Nat) : Int)) ((3 : Nat) : Int) 1 n = true := fun h => by
        unfold thereB; rw [show mostI ((3 : Nat) : Int) = 12 from rfl, decide_eq_true (by omega)]; rfl
      refine badAt_false (fun h => ?_) (fun h => ht ?_)
      · have h2 := (bit_and b1 8190 hb1 (by decide) n).symm.trans h
        rw [Bool.and_eq_true] at h2
        have h3 := (mask3 n hn).1 h2.2
        exact ⟨ht h3.1, h3.2⟩
      · have h2 := (bit_and s1 8191 hs1 (by decide) n).symm.trans h
        rw [Bool.and_eq_true] at h2
        exact (mask3 n hn).2 h2.2
    · intro n hn
      have ht : n ≤ 12 → thereB (mostI ((3 : Nat) : Int)) ((3 : Nat) : Int) 0 n = true := fun h => by
        unfold thereB; rw [show mostI ((3 : Nat) : Int) = 12 from rfl, decide_eq_true (by omega)]; rfl
      refine badAt_false (fun h => ?_) (fun h => ht ?_)
      · have h2 := (bit_and b0 8190 hb0 (by decide) n).symm.trans h
        rw [Bool.and_eq_true] at h2
        have h3 := (mask3 n hn).1 h2.2
        exact ⟨ht h3.1, h3.2⟩
      · have h2 := (bit_and s0 8191 hs0 (by decide) n).symm.trans h
        rw [Bool.and_eq_true] at h2
        exact (mask3 n hn).2 h2.2
theorem and_rng (a b : Int) : 0 ≤ Go.bits .and .u64 a b ∧ Go.bits .and .u64 a b < 18446744073709551616 := by
  show 0 ≤ IntKind.u64.wrap ((BitVec.ofInt 64 a &&& BitVec.ofInt 64 b).toNat : Int) ∧ IntKind.u64.wrap ((BitVec.ofInt 64 a &&& BitVec.ofInt 64 b).toNat : Int) < _
  rw [IntKind.wrap_u64]
  omega
/-- what Some gives, and that it may be -/
theorem some_ok (lat mask b0 b1 s0 s1 : Int) (hl : (lat = 1 ∧ mask = 18446744073709551615) ∨ (lat = 2 ∧ mask = 15) ∨ (lat = 3 ∧ mask = 8191)) (hb0 : 0 ≤ b0 ∧ b0 < 18446744073709551616) (hb1 : 0 ≤ b1 ∧ b1 < 18446744073709551616) (hs0 : 0 ≤ s0 ∧ s0 < 18446744073709551616) (hs1 : 0 ≤ s1 ∧ s1 < 18446744073709551616) :
    ∃ B0 B1 S0 S1, someV lat mask b0 b1 s0 s1 = tabV lat B0 B1 S0 S1 ∧ (0 ≤ B0 ∧ B0 < 18446744073709551616) ∧ (0 ≤ B1 ∧ B1 < 18446744073709551616) ∧ (0 ≤ S0 ∧ S0 < 18446744073709551616) ∧ (0 ≤ S1 ∧ S1 < 18446744073709551616) ∧ refCode lat B0 B1 S0 S1 = 0 := by
  refine ⟨_, _, _, _, rfl, and_rng _ _, ?_, and_rng _ _, ?_, ?_⟩
  · split
    · decide
    · exact and_rng _ _
  · split
    · decide
    · exact and_rng _ _
  · obtain ⟨lat, rfl⟩ := Int.eq_ofNat_of_zero_le (show 0 ≤ lat by omega)
    obtain ⟨mask, rfl⟩ := Int.eq_ofNat_of_zero_le (show 0 ≤ mask by omega)
    obtain ⟨b0, rfl⟩ := Int.eq_ofNat_of_zero_le hb0.1
    obtain ⟨b1, rfl⟩ := Int.eq_ofNat_of_zero_le hb1.1
    obtain ⟨s0, rfl⟩ := Int.eq_ofNat_of_zero_le hs0.1
    obtain ⟨s1, rfl⟩ := Int.eq_ofNat_of_zero_le hs1.1
    exact some_code lat mask b0 b1 s0 s1 (by omega) (by omega) (by omega) (by omega) (by omega)
end Go.Proofs.YtcipkabpekdflaaDoor.ts
