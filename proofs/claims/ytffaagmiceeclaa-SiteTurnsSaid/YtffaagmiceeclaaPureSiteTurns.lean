/- For any leaf and any beginning the law SiteTurns answers true: a leaf comes to be again out of its sixteen states, laid in any order. -/
import Derived.Test.YtffaagmiceeclaaPSiteTurnsx2
import Derived.Test.YtffaagmiceeclaaLeafBits
namespace Go.Proofs.Ytffaagmiceeclaa.Pure
open Go.RowKit Go.Proofs.Ytffaagmiceeclaa.PSiteTurns Go.Proofs.YtffaagmiceeclaaW.PrintWords Go.Proofs.YtffaagmiceeclaaW.PrintLast

open lb (dig) in
theorem state_tells (f a b : Int) (hf : 0 ≤ f ∧ f < 4294967296) (ha : 0 ≤ a ∧ a < 4) (hb : 0 ≤ b ∧ b < 4) : site_Leaf_State.f f a b = some (dig f (4 * b + a).toNat) := by
  unfold site_Leaf_State.f
  have e1 : wrap64 (wrap64 (4 * b) + a) = 4 * b + a := by unfold wrap64; omega
  have e2 : wrap64 (2 * wrap64 (wrap64 (4 * b) + a)) = 2 * (4 * b + a) := by rw [e1]; unfold wrap64; omega
  rw [if_neg (by omega), if_neg (by omega), if_neg (by omega), if_neg (by omega), e2, if_pos (by omega), bs.and3]
  congr 1
  unfold shr dig
  have e3 : min (2 * (4 * b + a)).toNat IntKind.u32.bits = 2 * (4 * b + a).toNat := by
    show min _ 32 = _; omega
  rw [e3, Int.pow_mul]
  have h4 : (2 : Int) ^ 2 = 4 := rfl
  rw [h4]
  have h5 : (0 : Int) < 4 ^ (4 * b + a).toNat := Int.pow_pos (by decide)
  have h6 : 0 ≤ f / 4 ^ (4 * b + a).toNat := Int.ediv_nonneg hf.1 (by omega)
  have h7 : f / 4 ^ (4 * b + a).toNat ≤ f := Int.ediv_le_self _ hf.1
  have e4 : wrap64 (f / 4 ^ (4 * b + a).toNat) = f / 4 ^ (4 * b + a).toNat := by unfold wrap64; omega
  rw [e4]

theorem put_tells (f a b s : Int) (ha : 0 ≤ a ∧ a < 4) (hb : 0 ≤ b ∧ b < 4) : site_Leaf_Put.f f a b s = some (lb.putN f (4 * b + a).toNat (s % 4)) := by
  unfold site_Leaf_Put.f
  have e1 : wrap64 (wrap64 (4 * b) + a) = 4 * b + a := by unfold wrap64; omega
  have e2 : wrap64 (2 * wrap64 (wrap64 (4 * b) + a)) = 2 * (4 * b + a) := by rw [e1]; unfold wrap64; omega
  rw [if_neg (by omega), if_neg (by omega), if_neg (by omega), if_neg (by omega), e2, if_pos (by omega), bs.and3]
  congr 1
  unfold lb.putN shl
  have e3 : min (2 * (4 * b + a)).toNat IntKind.u32.bits = 2 * (4 * b + a).toNat := by
    show min _ 32 = _; omega
  have hp : (2 : Int) ^ (2 * (4 * b + a).toNat) ≤ 2 ^ 30 := by exact_mod_cast Nat.pow_le_pow_right (by omega : 0 < 2) (by omega : 2 * (4 * b + a).toNat ≤ 30)
  have hp0 : (0 : Int) < 2 ^ (2 * (4 * b + a).toNat) := Int.pow_pos (by decide)
  have hs : s % 4 = 0 ∨ s % 4 = 1 ∨ s % 4 = 2 ∨ s % 4 = 3 := by omega
  rw [e3, show s % 4 % 4294967296 = s % 4 by omega]
  generalize (2 : Int) ^ (2 * (4 * b + a).toNat) = P at *
  have e4 : IntKind.u32.wrap (3 * P) = 3 * P := by rw [IntKind.wrap_u32]; omega
  have e5 : IntKind.u32.wrap (s % 4 * P) = s % 4 * P := by rw [IntKind.wrap_u32]; rcases hs with h | h | h | h <;> rw [h] <;> omega
  rw [e4, e5]

/-- the place that is seen at step j -/
def idx (x1 j : Int) : Int := (j + x1 % 16) % 16
theorem idx_code (x1 j : Int) (hj : 0 ≤ j ∧ j ≤ 15) : Go.bits .and .i64 (wrap64 (j + (Go.bits .and .i64 x1 15))) 15 = idx x1 j := by
  have e : wrap64 (j + x1 % 16) = j + x1 % 16 := by unfold wrap64; omega
  rw [bs.and15 x1, e, bs.and15]
  rfl
theorem idx_bd (x1 j : Int) : 0 ≤ idx x1 j ∧ idx x1 j < 16 := by unfold idx; omega
theorem idx_inj (x1 i j : Int) (hi : 0 ≤ i ∧ i ≤ 15) (hj : 0 ≤ j ∧ j ≤ 15) (h : idx x1 i = idx x1 j) : i = j := by unfold idx at h; omega

/-- of which places the digits are laid, i steps on -/
def Laid (x1 x y i : Int) : Prop := (0 ≤ y ∧ y < 4294967296) ∧ ∀ j, 0 ≤ j → j ≤ 15 → lb.dig y (idx x1 j).toNat = if j < i then lb.dig x (idx x1 j).toNat else 0

theorem l1_tells (x1 x y i : Int) (hx : 0 ≤ x ∧ x < 4294967296) (hL : Laid x1 x y (i + 1)) (m d : Nat) :
    ∀ j : Int, 0 ≤ j → j ≤ 16 → (16 - j).toNat = d → honeycomblaw09_SiteTurns.l1 (m + d + 1) x1 x y i i j = honeycomblaw09_SiteTurns.l0 m x1 x y (wrap64 (i + 1)) := by
  induction d with
  | zero =>
    intro j h0 h1 hd
    simp only [honeycomblaw09_SiteTurns.l1]
    rw [if_neg (by omega)]
  | succ d ih =>
    intro j h0 h1 hd
    have hb := idx_bd x1 j
    have hl := hL.2 j h0 (by omega)
    have hbd := lb.dig_bd x (idx x1 j).toNat
    have ew : wrap64 (j + 1) = j + 1 := by unfold wrap64; omega
    have IH := ih (j + 1) (by omega) (by omega) (by omega)
    rw [show m + (d + 1) + 1 = (m + d + 1) + 1 by omega]
    generalize m + d + 1 = K at IH ⊢
    simp only [honeycomblaw09_SiteTurns.l1]
    rw [if_pos (by omega), idx_code x1 j ⟨h0, by omega⟩, bs.and3]
    rw [state_tells x _ _ hx (by omega) (by omega), state_tells y _ _ hL.1 (by omega) (by omega)]
    rw [show 4 * (idx x1 j / 4) + idx x1 j % 4 = idx x1 j by omega]
    simp only [Option.bind_some]
    rw [hl, ew, IH]
    by_cases hji : j ≤ i
    · rw [if_pos hji, if_pos (show j < i + 1 by omega), if_pos rfl]
    · rw [if_neg hji, if_neg (show ¬ j < i + 1 by omega), if_pos rfl]

theorem l0_tells (x1 x : Int) (hx : 0 ≤ x ∧ x < 4294967296) (m d : Nat) :
    ∀ (i y : Int), 0 ≤ i → i ≤ 16 → (16 - i).toNat = d → Laid x1 x y i → honeycomblaw09_SiteTurns.l0 (m + 18 * d + 1) x1 x y i = some true := by
  induction d with
  | zero =>
    intro i y h0 h1 hd hL
    have hi : i = 16 := by omega
    subst hi
    simp only [honeycomblaw09_SiteTurns.l0]
    rw [if_neg (by omega)]
    have : x = y := by
      refine lb.ext_dig 16 x y hx.1 (by simpa using hx.2) hL.1.1 (by simpa using hL.1.2) (fun k hk => ?_)
      have h := hL.2 (idx 0 (k + (16 - x1 % 16))) (by unfold idx; omega) (by unfold idx; omega)
      rw [if_pos (by unfold idx; omega)] at h
      have e : (idx x1 (idx 0 (k + (16 - x1 % 16)))).toNat = k := by unfold idx; omega
      rw [e] at h
      exact h.symm
    simp [this]
  | succ d ih =>
    intro i y h0 h1 hd hL
    have hb := idx_bd x1 i
    have hbd := lb.dig_bd x (idx x1 i).toNat
    have h17 : m + 18 * (d + 1) + 1 = ((m + 18 * d + 1) + 16 + 1) + 1 := by omega
    obtain ⟨K, hK⟩ : ∃ K, K = (m + 18 * d + 1) + 16 + 1 := ⟨_, rfl⟩
    rw [h17, ← hK]
    simp only [honeycomblaw09_SiteTurns.l0]
    rw [if_pos (by omega), idx_code x1 i ⟨h0, by omega⟩, bs.and3]
    rw [state_tells x _ _ hx (by omega) (by omega)]
    simp only [Option.bind_some]
    rw [put_tells y _ _ _ (by omega) (by omega)]
    simp only [Option.bind_some]
    rw [show 4 * (idx x1 i / 4) + idx x1 i % 4 = idx x1 i by omega, show lb.dig x (idx x1 i).toNat % 4 = lb.dig x (idx x1 i).toNat by omega]
    obtain ⟨hr, hdg⟩ := lb.putN_tells y (idx x1 i).toNat (lb.dig x (idx x1 i).toNat) hL.1 (by omega) (by omega)
    have hL' : Laid x1 x (lb.putN y (idx x1 i).toNat (lb.dig x (idx x1 i).toNat)) (i + 1) := by
      refine ⟨hr, fun j j0 j1 => ?_⟩
      have hbj := idx_bd x1 j
      rw [hdg _ (by omega)]
      by_cases hji : j = i
      · subst hji
        rw [if_pos rfl, if_pos (by omega)]
      · rw [if_neg (fun e => hji (idx_inj x1 j i ⟨j0, j1⟩ ⟨h0, by omega⟩ (by omega))), hL.2 j j0 j1]
        by_cases h : j < i
        · rw [if_pos h, if_pos (by omega)]
        · rw [if_neg h, if_neg (by omega)]
    rw [hK, l1_tells x1 x _ i hx hL' (m + 18 * d + 1) 16 0 (by omega) (by omega) (by omega)]
    rw [show wrap64 (i + 1) = i + 1 by unfold wrap64; omega]
    exact ih (i + 1) _ (by omega) (by omega) (by omega) hL'

theorem awake_some : honeycomblaw09_awake.f 289 = some true := by decide +kernel

theorem SiteTurns : honeycomblaw09_SiteTurns.Pure := by
  intro x x1 hx _
  have hx := bs.bd_u32 hx
  refine ⟨289, ?_⟩
  unfold honeycomblaw09_SiteTurns.f
  rw [awake_some]
  simp only [Option.bind_some, if_true]
  exact l0_tells x1 x (by omega) 0 16 0 0 (by omega) (by omega) (by omega) ⟨by omega, fun j _ _ => by rw [lb.dig_zero, if_neg (by omega)]⟩
end Go.Proofs.Ytffaagmiceeclaa.Pure
