/- The plain law under SiteLow. -/
import Derived.Test.YtffaagmiceeclaaLowWith
namespace Go.Proofs.Ytffaagmiceeclaa.lawSiteLow
open Go.Proofs.Ytffaagmiceeclaa.bs Go.Proofs.YtffaagmiceeclaaW.PrintWords Go.Proofs.YtffaagmiceeclaaW.PrintLast Go.ChangeShapes Go.WideShapes Go.ChangeAt Go.RowKit Go.Proofs.Ytffaagmiceeclaa.PSiteLeaves Go.Proofs.Ytffaagmiceeclaa.lb Go.Proofs.Ytffaagmiceeclaa.slPSiteLeaves Go.Proofs.Ytffaagmiceeclaa.lawSiteLeaves

def eqC (A B h : Int) (x : S44) : Bool := (x.f0.f0 == A && x.f0.f1 == B) && x.f1 == h
theorem any_succ (p : S44 → Bool) (xs : List S44) (j : Nat) (h : j < xs.length) : (xs.take (j + 1)).any p = ((xs.take j).any p || p (rd_T44 xs (j : Int))) := by
  have e : rd_T44 xs (j : Int) = xs[j] := by unfold rd_T44; simp [h]
  rw [List.take_succ_eq_append_getElem h, List.any_append, e]
  simp
theorem split_mask (X M : BitVec 64) : (X &&& ~~~M) + (X &&& M) = X := by
  have h0 : (X &&& ~~~M) &&& (X &&& M) = 0#64 := by
    ext i hi
    simp
    intros
    simp_all
  rw [BitVec.add_eq_or_of_and_eq_zero _ _ h0]
  ext i hi
  simp
  cases X[i] <;> cases M[i] <;> rfl
theorem lowOf_eq (a : Int) (ha : -4611686018427387904 ≤ a ∧ a ≤ 4611686018427387904) : lowOf a = a - a % 4 := by
  have hand : IntKind.i64.wrap ((BitVec.ofInt 64 a &&& BitVec.ofInt 64 3).toNat : Int) = a % 4 := bs.and3 a
  show IntKind.i64.wrap ((BitVec.ofInt 64 a &&& ~~~BitVec.ofInt 64 3).toNat : Int) = a - a % 4
  have key := congrArg BitVec.toNat (split_mask (BitVec.ofInt 64 a) (BitVec.ofInt 64 3))
  rw [BitVec.toNat_add, BitVec.toNat_ofInt] at key
  rw [IntKind.wrap_i64] at hand ⊢
  omega
theorem stateW_all : ∀ s : Fin 4, stateW (s.val : Int) 0 true % 4 = (s.val : Int) / 2 * 2 + 1 ∧ stateW (s.val : Int) 0 false % 4 = (s.val : Int) / 2 * 2 ∧ stateW (s.val : Int) 1 true % 4 = (s.val : Int) % 2 + 2 ∧ stateW (s.val : Int) 1 false % 4 = (s.val : Int) % 2 := by decide +kernel
theorem stateW_tells (s h : Int) (hs : 0 ≤ s ∧ s ≤ 3) (hh : 0 ≤ h ∧ h < 2) :
    (stateW s h true % 4 = if h = 0 then s / 2 * 2 + 1 else s % 2 + 2) ∧ (stateW s h false % 4 = if h = 0 then s / 2 * 2 else s % 2) := by
  obtain ⟨n, rfl⟩ : ∃ n : Nat, s = n := ⟨s.toNat, by omega⟩
  have := stateW_all ⟨n, by omega⟩
  obtain ⟨h1, h2, h3, h4⟩ := this
  have : h = 0 ∨ h = 1 := by omega
  rcases this with rfl | rfl
  · exact ⟨by rw [if_pos rfl]; exact h1, by rw [if_pos rfl]; exact h2⟩
  · exact ⟨by rw [if_neg (by decide)]; exact h3, by rw [if_neg (by decide)]; exact h4⟩
theorem withV_bd (f ca cb h : Int) (live : Bool) (hf : 0 ≤ f ∧ f < 4294967296) : 0 ≤ withV f ca cb h live ∧ withV f ca cb h live < 4294967296 := by
  unfold withV putv
  split
  · rename_i hc
    exact (putN_tells f _ _ hf (by omega) (by omega)).1
  · exact hf
theorem withV_eq (f A B h : Int) (live : Bool) (hA : -4611686018427387904 ≤ A ∧ A ≤ 4611686018427387904) (hB : -4611686018427387904 ≤ B ∧ B ≤ 4611686018427387904) :
    withV f A B h live = putN f (4 * (B % 4) + A % 4).toNat (stateW (dig f (4 * (B % 4) + A % 4).toNat) h live % 4) := by
  unfold withV
  rw [lowOf_eq A hA, lowOf_eq B hB, show A - (A - A % 4) = A % 4 by omega, show B - (B - B % 4) = B % 4 by omega, w64 _ (by omega), w64 _ (by omega)]
  unfold putv stateV
  rw [if_pos (by omega), if_pos (by omega)]
theorem pop_same (n : Nat) : ∀ x y : Nat, (∀ j, j < n → bitv x j = bitv y j) → popN n x = popN n y := by
  induction n with
  | zero => intros; rfl
  | succ n ih =>
    intro x y h
    have h0 := h 0 (by omega)
    have hs := ih (x / 2) (y / 2) (fun j hj => by
      have := h (j + 1) (by omega)
      unfold bitv at *
      rw [Int.pow_succ', ← Int.ediv_ediv_of_nonneg (by omega : (0 : Int) ≤ 2), ← Int.ediv_ediv_of_nonneg (by omega : (0 : Int) ≤ 2)] at this
      exact_mod_cast this)
    have e1 := popN_int n x
    have e2 := popN_int n y
    unfold bitv at h0
    simp at h0
    omega
theorem pop_more (n : Nat) : ∀ (k : Nat) (x y : Nat), k < n → (∀ j, j < n → j ≠ k → bitv x j = bitv y j) → bitv x k = 1 → bitv y k = 0 → popN n x = popN n y + 1 := by
  induction n with
  | zero => intro k x y hk; omega
  | succ n ih =>
    intro k x y hk h h1 h2
    have half (z j : Nat) : bitv (z : Int) (j + 1) = bitv ((z / 2 : Nat) : Int) j := by
      unfold bitv
      rw [Int.pow_succ', ← Int.ediv_ediv_of_nonneg (by omega : (0 : Int) ≤ 2)]
      rfl
    have e1 := popN_int n x
    have e2 := popN_int n y
    cases k with
    | zero =>
      have hs := pop_same n (x / 2) (y / 2) (fun j hj => by rw [← half, ← half]; exact h (j + 1) (by omega) (by omega))
      unfold bitv at h1 h2
      simp at h1 h2
      omega
    | succ k =>
      have hs := ih k (x / 2) (y / 2) (by omega) (fun j hj hne => by rw [← half, ← half]; exact h (j + 1) (by omega) (by omega)) (by rw [← half]; exact h1) (by rw [← half]; exact h2)
      have h0 := h 0 (by omega) (by omega)
      unfold bitv at h0
      simp at h0
      omega
theorem low_facts (f A B h : Int) (hf : 0 ≤ f ∧ f < 4294967296) (hA : -4611686018427387904 ≤ A ∧ A ≤ 4611686018427387904) (hB : -4611686018427387904 ≤ B ∧ B ≤ 4611686018427387904) (hh : 0 ≤ h ∧ h < 2) :
    (cells (withV f A B h true) (lowOf A) (lowOf B)).any (eqC A B h) = true ∧ (cells (withV f A B h false) (lowOf A) (lowOf B)).any (eqC A B h) = false ∧
    popN 32 (withV f A B h true).toNat = popN 32 (withV f A B h false).toNat + 1 ∧ (withV f A B h true = f ∨ withV f A B h false = f) := by
  have eA := lowOf_eq A hA
  have eB := lowOf_eq B hB
  have e1 := withV_eq f A B h true hA hB
  have e2 := withV_eq f A B h false hA hB
  obtain ⟨k, hk⟩ : ∃ k : Nat, k = (4 * (B % 4) + A % 4).toNat := ⟨_, rfl⟩
  have hk16 : k < 16 := by omega
  rw [← hk] at e1 e2
  have hd := dig_bd f k
  have hw := stateW_tells (dig f k) h hd hh
  have p1 := putN_tells f k (stateW (dig f k) h true % 4) hf hk16 (by omega)
  have p2 := putN_tells f k (stateW (dig f k) h false % 4) hf hk16 (by omega)
  rw [← e1] at p1
  rw [← e2] at p2
  have b1 := withV_bd f A B h true hf
  have b2 := withV_bd f A B h false hf
  generalize withV f A B h true = fi at *
  generalize withV f A B h false = fo at *
  have i1 := p1.2 k hk16
  have i2 := p2.2 k hk16
  rw [if_pos rfl, hw.1] at i1
  rw [if_pos rfl, hw.2] at i2
  have hh2 : h = 0 ∨ h = 1 := by omega
  have q1 := dig_bits fi k
  have q2 := dig_bits fo k
  have hbi : bitv fi (2 * k + h.toNat) = 1 := by
    rcases hh2 with rfl | rfl
    · rw [if_pos rfl] at i1; rw [show (2 * k + (0 : Int).toNat) = 2 * k from rfl, ← q1.1, i1]; omega
    · rw [if_neg (by decide)] at i1; rw [show (2 * k + (1 : Int).toNat) = 2 * k + 1 from rfl, ← q1.2, i1]; omega
  have hbo : bitv fo (2 * k + h.toNat) = 0 := by
    rcases hh2 with rfl | rfl
    · rw [if_pos rfl] at i2; rw [show (2 * k + (0 : Int).toNat) = 2 * k from rfl, ← q2.1, i2]; omega
    · rw [if_neg (by decide)] at i2; rw [show (2 * k + (1 : Int).toNat) = 2 * k + 1 from rfl, ← q2.2, i2]; omega
  refine ⟨?_, ?_, ?_, ?_⟩
  · rw [List.any_eq_true]
    refine ⟨cellAt (lowOf A) (lowOf B) (B % 4) (A % 4) h, (mem_cells _ _ _ _).2 ⟨B % 4, A % 4, h, by omega, by omega, by omega, by omega, by omega, by omega, by rw [← hk]; exact hbi, rfl⟩, ?_⟩
    simp [eqC, cellAt, eA, eB]
  · rw [List.any_eq_false]
    intro c hc
    obtain ⟨b, a, h', h1, h2, h3, h4, h5, h6, h7, rfl⟩ := (mem_cells _ _ _ _).1 hc
    simp [eqC, cellAt, eA, eB]
    intro x1 x2 x3
    have ea : a = A % 4 := by omega
    have eb : b = B % 4 := by omega
    subst ea eb x3
    rw [← hk, hbo] at h7
    omega
  · refine pop_more 32 (2 * k + h.toNat) fi.toNat fo.toNat (by omega) (fun j hj hne => ?_) (by rw [Int.toNat_of_nonneg b1.1]; exact hbi) (by rw [Int.toNat_of_nonneg b2.1]; exact hbo)
    rw [Int.toNat_of_nonneg b1.1, Int.toNat_of_nonneg b2.1]
    have d1 := p1.2 (j / 2) (by omega)
    have d2 := p2.2 (j / 2) (by omega)
    have r1 := dig_bits fi (j / 2)
    have r2 := dig_bits fo (j / 2)
    by_cases hjk : j / 2 = k
    · rw [hjk] at r1 r2
      rcases hh2 with rfl | rfl
      · rw [if_pos rfl] at i1 i2
        have : j = 2 * k + 1 := by simp at hne; omega
        rw [this, ← r1.2, ← r2.2]; omega
      · rw [if_neg (by decide)] at i1 i2
        have : j = 2 * k := by simp at hne; omega
        rw [this, ← r1.1, ← r2.1]; omega
    · rw [if_neg hjk] at d1 d2
      rcases (by omega : j = 2 * (j / 2) ∨ j = 2 * (j / 2) + 1) with e | e
      · rw [e, ← r1.1, ← r2.1]; omega
      · rw [e, ← r1.2, ← r2.2]; omega
  · have hb1 : stateW (dig f k) h true % 4 = dig f k ∨ stateW (dig f k) h false % 4 = dig f k := by
      rw [hw.1, hw.2]
      rcases hh2 with rfl | rfl
      · rw [if_pos rfl, if_pos rfl]; omega
      · rw [if_neg (by decide), if_neg (by decide)]; omega
    rcases hb1 with hb1 | hb1
    · left
      refine ext_dig 16 _ _ b1.1 (by rw [show (4 : Int) ^ 16 = 4294967296 from rfl]; exact b1.2) hf.1 (by rw [show (4 : Int) ^ 16 = 4294967296 from rfl]; exact hf.2) (fun j hj => ?_)
      rw [p1.2 j hj, hb1]
      split
      · rename_i e; rw [e]
      · rfl
    · right
      refine ext_dig 16 _ _ b2.1 (by rw [show (4 : Int) ^ 16 = 4294967296 from rfl]; exact b2.2) hf.1 (by rw [show (4 : Int) ^ 16 = 4294967296 from rfl]; exact hf.2) (fun j hj => ?_)
      rw [p2.2 j hj, hb1]
      split
      · rename_i e; rw [e]
      · rfl
end Go.Proofs.Ytffaagmiceeclaa.lawSiteLow
