/- What the printed functions of the package site come to: plain facts (printed by wip/sitelib.py for the namespace PSiteLeaves). -/
import Derived.Test.YtffaagmiceeclaaPSiteLeavesx5
import Derived.Test.YtffaagmiceeclaaPop
namespace Go.Proofs.Ytffaagmiceeclaa.slPSiteLeaves
open Go.RowKit Go.Proofs.Ytffaagmiceeclaa.PSiteLeaves Go.Proofs.YtffaagmiceeclaaW.PrintWords Go.Proofs.YtffaagmiceeclaaW.PrintLast Go.Proofs.Ytffaagmiceeclaa.lb

theorem state_tells (f a b : Int) (hf : 0 ≤ f ∧ f < 4294967296) (ha : 0 ≤ a ∧ a < 4) (hb : 0 ≤ b ∧ b < 4) : site_Leaf_State.f f a b = some (dig f (4 * b + a).toNat) := by
  unfold site_Leaf_State.f
  have e1 : wrap64 (wrap64 (4 * b) + a) = 4 * b + a := by unfold wrap64; omega
  have e2 : wrap64 (2 * wrap64 (wrap64 (4 * b) + a)) = 2 * (4 * b + a) := by rw [e1]; unfold wrap64; omega
  rw [if_neg (by omega), if_neg (by omega), if_neg (by omega), if_neg (by omega), e2, if_pos (by omega), bs.and3]
  congr 1
  unfold shr dig
  have e3 : min (2 * (4 * b + a)).toNat IntKind.u32.bits = 2 * (4 * b + a).toNat := by
    show min _ 32 = _; omega
  rw [e3, Int.pow_mul]
  have h4 : (2 : Int) ^ 2 = 4 := rfl
  rw [h4]
  have h5 : (0 : Int) < 4 ^ (4 * b + a).toNat := Int.pow_pos (by decide)
  have h6 : 0 ≤ f / 4 ^ (4 * b + a).toNat := Int.ediv_nonneg hf.1 (by omega)
  have h7 : f / 4 ^ (4 * b + a).toNat ≤ f := Int.ediv_le_self _ hf.1
  have e4 : wrap64 (f / 4 ^ (4 * b + a).toNat) = f / 4 ^ (4 * b + a).toNat := by unfold wrap64; omega
  rw [e4]
theorem state_none (f a b : Int) (h : ¬(0 ≤ a ∧ a < 4 ∧ 0 ≤ b ∧ b < 4)) : site_Leaf_State.f f a b = some 0 := by
  unfold site_Leaf_State.f
  by_cases h1 : a < 0
  · rw [if_pos h1]
  · by_cases h2 : a ≥ 4
    · rw [if_neg h1, if_pos h2]
    · by_cases h3 : b < 0
      · rw [if_neg h1, if_neg h2, if_pos h3]
      · rw [if_neg h1, if_neg h2, if_neg h3, if_pos (by omega)]
theorem put_none (f a b s : Int) (h : ¬(0 ≤ a ∧ a < 4 ∧ 0 ≤ b ∧ b < 4)) : site_Leaf_Put.f f a b s = some f := by
  unfold site_Leaf_Put.f
  by_cases h1 : a < 0
  · rw [if_pos h1]
  · by_cases h2 : a ≥ 4
    · rw [if_neg h1, if_pos h2]
    · by_cases h3 : b < 0
      · rw [if_neg h1, if_neg h2, if_pos h3]
      · rw [if_neg h1, if_neg h2, if_neg h3, if_pos (by omega)]
theorem put_tells (f a b s : Int) (ha : 0 ≤ a ∧ a < 4) (hb : 0 ≤ b ∧ b < 4) : site_Leaf_Put.f f a b s = some (putN f (4 * b + a).toNat (s % 4)) := by
  unfold site_Leaf_Put.f
  have e1 : wrap64 (wrap64 (4 * b) + a) = 4 * b + a := by unfold wrap64; omega
  have e2 : wrap64 (2 * wrap64 (wrap64 (4 * b) + a)) = 2 * (4 * b + a) := by rw [e1]; unfold wrap64; omega
  rw [if_neg (by omega), if_neg (by omega), if_neg (by omega), if_neg (by omega), e2, if_pos (by omega), bs.and3]
  congr 1
  unfold putN shl
  have e3 : min (2 * (4 * b + a)).toNat IntKind.u32.bits = 2 * (4 * b + a).toNat := by
    show min _ 32 = _; omega
  have hp : (2 : Int) ^ (2 * (4 * b + a).toNat) ≤ 2 ^ 30 := by exact_mod_cast Nat.pow_le_pow_right (by omega : 0 < 2) (by omega : 2 * (4 * b + a).toNat ≤ 30)
  have hp0 : (0 : Int) < 2 ^ (2 * (4 * b + a).toNat) := Int.pow_pos (by decide)
  have hs : s % 4 = 0 ∨ s % 4 = 1 ∨ s % 4 = 2 ∨ s % 4 = 3 := by omega
  rw [e3, show s % 4 % 4294967296 = s % 4 by omega]
  generalize (2 : Int) ^ (2 * (4 * b + a).toNat) = P at *
  have e4 : IntKind.u32.wrap (3 * P) = 3 * P := by rw [IntKind.wrap_u32]; omega
  have e5 : IntKind.u32.wrap (s % 4 * P) = s % 4 * P := by rw [IntKind.wrap_u32]; rcases hs with h | h | h | h <;> rw [h] <;> omega
  rw [e4, e5]

theorem count_l0 (n : Nat) : ∀ (x : Nat) (k : Nat) (acc : Int), x < 2 ^ 32 → popN 32 x = n → n < k → 0 ≤ acc → acc ≤ 1000 - n → site_Leaf_Count.l0 k (x : Int) acc = some (acc + n) := by
  induction n with
  | zero =>
    intro x k acc hx hp hk h0 h1
    obtain ⟨k, rfl⟩ : ∃ m, k = m + 1 := ⟨k - 1, by omega⟩
    have : x = 0 := by
      by_cases h : 0 < x
      · have := and_pred 32 x h hx; omega
      · omega
    subst this
    simp [site_Leaf_Count.l0]
  | succ n ih =>
    intro x k acc hx hp hk h0 h1
    obtain ⟨k, rfl⟩ : ∃ m, k = m + 1 := ⟨k - 1, by omega⟩
    have hx0 : 0 < x := by
      by_cases h : 0 < x
      · exact h
      · rw [show x = 0 by omega, popN_zero] at hp; omega
    have hand := and_pred 32 x hx0 hx
    have hlt : x &&& (x - 1) < 2 ^ 32 := Nat.lt_of_le_of_lt Nat.and_le_left hx
    have e : Go.bits .and .u32 (x : Int) (((x : Int) - 1) % 4294967296) = ((x &&& (x - 1) : Nat) : Int) := and_pred_u32 x hx0 (by omega)
    simp only [site_Leaf_Count.l0]
    rw [if_neg (by omega), e, show wrap64 (acc + 1) = acc + 1 by unfold wrap64; omega]
    rw [ih (x &&& (x - 1)) k (acc + 1) hlt (by omega) (by omega) (by omega) (by omega)]
    exact congrArg some (by omega)
theorem popN_le (n : Nat) : ∀ x, popN n x ≤ n := by
  induction n with
  | zero => intro x; simp [popN]
  | succ n ih => intro x; have := ih (x / 2); simp only [popN]; omega
theorem count_tells (f : Int) (hf : 0 ≤ f ∧ f < 4294967296) (k : Nat) (hk : 33 < k) : site_Leaf_Count.f k f = some (popN 32 f.toNat : Int) := by
  unfold site_Leaf_Count.f
  have := popN_le 32 f.toNat
  have h := count_l0 _ f.toNat k 0 (by omega) rfl (by omega) (by omega) (by omega)
  rw [show ((f.toNat : Nat) : Int) = f by omega] at h
  rw [h]; simp

/-- the cells of a leaf: by halves, points, rows -/
def cellAt (la lb' : Int) (b a h : Int) : S44 := ⟨⟨la + a, lb' + b⟩, h⟩
def c2 (f la lb' : Int) (b a : Int) : Nat → Int → List S44
  | 0, _ => []
  | d + 1, h => (if bitv f (2 * (4 * b + a).toNat + h.toNat) = 1 then [cellAt la lb' b a h] else []) ++ c2 f la lb' b a d (h + 1)
def c1 (f la lb' : Int) (b : Int) : Nat → Int → List S44
  | 0, _ => []
  | d + 1, a => c2 f la lb' b a 2 0 ++ c1 f la lb' b d (a + 1)
def c0 (f la lb' : Int) : Nat → Int → List S44
  | 0, _ => []
  | d + 1, b => c1 f la lb' b 4 0 ++ c0 f la lb' d (b + 1)
def cells (f la lb' : Int) : List S44 := c0 f la lb' 4 0

theorem half_bit (f b a h : Int) (hh : 0 ≤ h ∧ h < 2) : (Go.bits .and .i64 (shr .i64 (dig f (4 * b + a).toNat) h) 1 = 1) ↔ bitv f (2 * (4 * b + a).toNat + h.toNat) = 1 := by
  have hd := dig_bd f (4 * b + a).toNat
  have hb := dig_bits f (4 * b + a).toNat
  rw [bs.and1]
  have hh2 : h = 0 ∨ h = 1 := by omega
  rcases hh2 with rfl | rfl
  · have e : shr .i64 (dig f (4 * b + a).toNat) 0 = dig f (4 * b + a).toNat := by unfold shr; simp
    rw [e, hb.1]; simp
  · have e : shr .i64 (dig f (4 * b + a).toNat) 1 = dig f (4 * b + a).toNat / 2 := by
      unfold shr
      rw [show min (1 : Int).toNat IntKind.i64.bits = 1 from rfl]; simp
    have hb2 := hb.2
    rw [e, show (1 : Int).toNat = 1 from rfl, ← hb2]; omega

theorem l2_tells (f la lb' : Int) (hf : 0 ≤ f ∧ f < 4294967296) (hla : -4611686018427387908 ≤ la ∧ la ≤ 4611686018427387908) (hlb : -4611686018427387908 ≤ lb' ∧ lb' ≤ 4611686018427387908)
    (b a : Int) (hb : 0 ≤ b ∧ b < 4) (ha : 0 ≤ a ∧ a < 4) (m d : Nat) :
    ∀ (h : Int) (acc : List S44), 0 ≤ h → h ≤ 2 → (2 - h).toNat = d → acc.length ≤ 100 + h.toNat →
      site_Leaf_Cells.l2 (m + d + 1) f acc b a b a h la lb' = site_Leaf_Cells.l1 m f (acc ++ c2 f la lb' b a d h) b b (a + 1) la lb' := by
  induction d with
  | zero =>
    intro h acc h0 h1 hd hl
    simp only [site_Leaf_Cells.l2]
    rw [if_neg (by omega), show wrap64 (a + 1) = a + 1 by unfold wrap64; omega]
    simp [c2]
  | succ d ih =>
    intro h acc h0 h1 hd hl
    rw [show m + (d + 1) + 1 = (m + d + 1) + 1 by omega]
    have IH := ih (h + 1)
    generalize m + d + 1 = K at IH ⊢
    simp only [site_Leaf_Cells.l2]
    rw [if_pos (by omega), state_tells f a b hf ha hb]
    simp only [Option.bind_some]
    rw [if_pos h0, show wrap64 (h + 1) = h + 1 by unfold wrap64; omega]
    have hbit := half_bit f b a h ⟨h0, by omega⟩
    have ea : wrap64 (la + a) = la + a := by unfold wrap64; omega
    have eb : wrap64 (lb' + b) = lb' + b := by unfold wrap64; omega
    by_cases hc : bitv f (2 * (4 * b + a).toNat + h.toNat) = 1
    · rw [if_pos (hbit.2 hc), if_pos (by omega), ea, eb]
      rw [IH (acc ++ [(⟨(⟨la + a, lb' + b⟩ : S30), h⟩ : S44)]) (by omega) (by omega) (by omega) (by simp; omega)]
      simp [c2, hc, cellAt]
    · rw [if_neg (fun q => hc (hbit.1 q))]
      rw [IH acc (by omega) (by omega) (by omega) (by omega)]
      simp [c2, hc]
theorem c2_len (f la lb' b a : Int) (d : Nat) : ∀ h, (c2 f la lb' b a d h).length ≤ d := by
  induction d with
  | zero => intro h; simp [c2]
  | succ d ih => intro h; have := ih (h + 1); simp only [c2]; split <;> simp <;> omega
theorem c1_len (f la lb' b : Int) (d : Nat) : ∀ a, (c1 f la lb' b d a).length ≤ 2 * d := by
  induction d with
  | zero => intro h; simp [c1]
  | succ d ih => intro a; have := ih (a + 1); have := c2_len f la lb' b a 2 0; simp only [c1, List.length_append]; omega
theorem l1_tells (f la lb' : Int) (hf : 0 ≤ f ∧ f < 4294967296) (hla : -4611686018427387908 ≤ la ∧ la ≤ 4611686018427387908) (hlb : -4611686018427387908 ≤ lb' ∧ lb' ≤ 4611686018427387908)
    (b : Int) (hb : 0 ≤ b ∧ b < 4) (m d : Nat) :
    ∀ (a : Int) (acc : List S44), 0 ≤ a → a ≤ 4 → (4 - a).toNat = d → acc.length ≤ 60 + 2 * a.toNat →
      site_Leaf_Cells.l1 (m + 4 * d + 1) f acc b b a la lb' = site_Leaf_Cells.l0 m f (acc ++ c1 f la lb' b d a) (b + 1) la lb' := by
  induction d with
  | zero =>
    intro a acc h0 h1 hd hl
    simp only [site_Leaf_Cells.l1]
    rw [if_neg (by omega), show wrap64 (b + 1) = b + 1 by unfold wrap64; omega]
    simp [c1]
  | succ d ih =>
    intro a acc h0 h1 hd hl
    have h2 := l2_tells f la lb' hf hla hlb b a hb ⟨h0, by omega⟩ (m + 4 * d + 1) 2 0 acc (by omega) (by omega) (by omega) (by omega)
    have hlen := c2_len f la lb' b a 2 0
    have IH := ih (a + 1) (acc ++ c2 f la lb' b a 2 0) (by omega) (by omega) (by omega) (by simp; omega)
    rw [show m + 4 * (d + 1) + 1 = (m + 4 * d + 1 + 2 + 1) + 1 by omega]
    generalize m + 4 * d + 1 = K at h2 IH ⊢
    generalize hK : K + 2 + 1 = K2 at h2 ⊢
    simp only [site_Leaf_Cells.l1]
    rw [if_pos (by omega), h2, IH]
    simp [c1]
theorem l0_tells (f la lb' : Int) (hf : 0 ≤ f ∧ f < 4294967296) (hla : -4611686018427387908 ≤ la ∧ la ≤ 4611686018427387908) (hlb : -4611686018427387908 ≤ lb' ∧ lb' ≤ 4611686018427387908) (m d : Nat) :
    ∀ (b : Int) (acc : List S44), 0 ≤ b → b ≤ 4 → (4 - b).toNat = d → acc.length ≤ 8 * b.toNat →
      site_Leaf_Cells.l0 (m + 18 * d + 1) f acc b la lb' = some (acc ++ c0 f la lb' d b) := by
  induction d with
  | zero =>
    intro b acc h0 h1 hd hl
    simp only [site_Leaf_Cells.l0]
    rw [if_neg (by omega)]
    simp [c0]
  | succ d ih =>
    intro b acc h0 h1 hd hl
    have h2 := l1_tells f la lb' hf hla hlb b ⟨h0, by omega⟩ (m + 18 * d + 1) 4 0 acc (by omega) (by omega) (by omega) (by omega)
    have hlen := c1_len f la lb' b 4 0
    have IH := ih (b + 1) (acc ++ c1 f la lb' b 4 0) (by omega) (by omega) (by omega) (by simp; omega)
    rw [show m + 18 * (d + 1) + 1 = (m + 18 * d + 1 + 4 * 4 + 1) + 1 by omega]
    generalize m + 18 * d + 1 = K at h2 IH ⊢
    generalize hK : K + 4 * 4 + 1 = K2 at h2 ⊢
    simp only [site_Leaf_Cells.l0]
    rw [if_pos (by omega), h2, IH]
    simp [c0]
theorem cells_tells (f la lb' : Int) (hf : 0 ≤ f ∧ f < 4294967296) (hla : -4611686018427387908 ≤ la ∧ la ≤ 4611686018427387908) (hlb : -4611686018427387908 ≤ lb' ∧ lb' ≤ 4611686018427387908) (k : Nat) (hk : 73 ≤ k) :
    site_Leaf_Cells.f k f la lb' = some (cells f la lb') := by
  obtain ⟨m, rfl⟩ : ∃ m, k = m + 18 * 4 + 1 := ⟨k - 73, by omega⟩
  unfold site_Leaf_Cells.f
  rw [l0_tells f la lb' hf hla hlb m 4 0 [] (by omega) (by omega) (by omega) (by simp)]
  simp [cells]
theorem mem_c2 (f la lb' b a : Int) (d : Nat) : ∀ h, ∀ c, c ∈ c2 f la lb' b a d h ↔ ∃ h', h ≤ h' ∧ h' < h + d ∧ bitv f (2 * (4 * b + a).toNat + h'.toNat) = 1 ∧ c = cellAt la lb' b a h' := by
  induction d with
  | zero => intro h c; simp [c2]; intro x _ _; omega
  | succ d ih =>
    intro h c
    simp only [c2, List.mem_append, ih (h + 1) c]
    constructor
    · rintro (hc | ⟨h', h1, h2, h3, h4⟩)
      · split at hc
        · simp at hc; exact ⟨h, by omega, by omega, ‹_›, hc⟩
        · simp at hc
      · exact ⟨h', by omega, by omega, h3, h4⟩
    · rintro ⟨h', h1, h2, h3, h4⟩
      by_cases e : h' = h
      · subst e; left; rw [if_pos h3]; simp [h4]
      · right; exact ⟨h', by omega, by omega, h3, h4⟩
theorem mem_c1 (f la lb' b : Int) (d : Nat) : ∀ a, ∀ c, c ∈ c1 f la lb' b d a ↔ ∃ a' h', a ≤ a' ∧ a' < a + d ∧ 0 ≤ h' ∧ h' < 2 ∧ bitv f (2 * (4 * b + a').toNat + h'.toNat) = 1 ∧ c = cellAt la lb' b a' h' := by
  induction d with
  | zero => intro h c; simp [c1]; intro x; omega
  | succ d ih =>
    intro a c
    simp only [c1, List.mem_append, ih (a + 1) c, mem_c2]
    constructor
    · rintro (⟨h', h1, h2, h3, h4⟩ | ⟨a', h', h1, h2, h3, h4, h5, h6⟩)
      · exact ⟨a, h', by omega, by omega, by omega, by omega, h3, h4⟩
      · exact ⟨a', h', by omega, by omega, h3, h4, h5, h6⟩
    · rintro ⟨a', h', h1, h2, h3, h4, h5, h6⟩
      by_cases e : a' = a
      · subst e; left; exact ⟨h', by omega, by omega, h5, h6⟩
      · right; exact ⟨a', h', by omega, by omega, h3, h4, h5, h6⟩
theorem mem_c0 (f la lb' : Int) (d : Nat) : ∀ b, ∀ c, c ∈ c0 f la lb' d b ↔ ∃ b' a' h', b ≤ b' ∧ b' < b + d ∧ 0 ≤ a' ∧ a' < 4 ∧ 0 ≤ h' ∧ h' < 2 ∧ bitv f (2 * (4 * b' + a').toNat + h'.toNat) = 1 ∧ c = cellAt la lb' b' a' h' := by
  induction d with
  | zero => intro h c; simp [c0]; intro x; omega
  | succ d ih =>
    intro b c
    simp only [c0, List.mem_append, ih (b + 1) c, mem_c1]
    constructor
    · rintro (⟨a', h', h1, h2, h3⟩ | ⟨b', a', h', h1, h2, h3⟩)
      · exact ⟨b, a', h', by omega, by omega, h1, by omega, h3⟩
      · exact ⟨b', a', h', by omega, by omega, h3⟩
    · rintro ⟨b', a', h', h1, h2, h3, h4, h5⟩
      by_cases e : b' = b
      · subst e; left; exact ⟨a', h', h3, by omega, h5⟩
      · right; exact ⟨b', a', h', by omega, by omega, h3, h4, h5⟩
theorem mem_cells (f la lb' : Int) (c : S44) : c ∈ cells f la lb' ↔ ∃ b a h, 0 ≤ b ∧ b < 4 ∧ 0 ≤ a ∧ a < 4 ∧ 0 ≤ h ∧ h < 2 ∧ bitv f (2 * (4 * b + a).toNat + h.toNat) = 1 ∧ c = cellAt la lb' b a h := by
  unfold cells
  rw [mem_c0]
  simp
end Go.Proofs.Ytffaagmiceeclaa.slPSiteLeaves
