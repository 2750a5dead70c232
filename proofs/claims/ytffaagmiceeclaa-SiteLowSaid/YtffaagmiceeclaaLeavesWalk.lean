/- What the law SiteLeaves answers: by the printed functions. -/
import Derived.Test.YtffaagmiceeclaaSlPSiteLeaves
namespace Go.Proofs.Ytffaagmiceeclaa.lawSiteLeaves
open Go.RowKit Go.Proofs.Ytffaagmiceeclaa.PSiteLeaves Go.Proofs.YtffaagmiceeclaaW.PrintWords Go.Proofs.YtffaagmiceeclaaW.PrintLast Go.Proofs.Ytffaagmiceeclaa.slPSiteLeaves Go.Proofs.Ytffaagmiceeclaa.lb

theorem w64 (x : Int) (h : -9223372036854775808 ≤ x ∧ x < 9223372036854775808) : wrap64 x = x := by unfold wrap64; omega
theorem wadd (x y : Int) (h : -9223372036854775808 ≤ y ∧ y < 9223372036854775808) (h2 : -9223372036854775808 ≤ x + y ∧ x + y < 9223372036854775808) : wrap64 (x + wrap64 y) = x + y := by rw [w64 y h, w64 _ h2]
theorem bit_l0 (n : Int) (d : Nat) : ∀ (k : Nat) (x j : Int), 0 ≤ x → x < 4294967296 → 0 ≤ j → j ≤ n → n ≤ 40 → (n - j).toNat = d → d < k → honeycombref09_bit.l0 k x n j = some (x / 2 ^ d % 2) := by
  induction d with
  | zero =>
    intro k x j h0 h1 h2 h3 h4 hd hk
    obtain ⟨k, rfl⟩ : ∃ m, k = m + 1 := ⟨k - 1, by omega⟩
    simp only [honeycombref09_bit.l0]
    rw [if_neg (by omega), Int.tmod_eq_emod_of_nonneg h0]
    simp
    unfold wrap64; omega
  | succ d ih =>
    intro k x j h0 h1 h2 h3 h4 hd hk
    obtain ⟨k, rfl⟩ : ∃ m, k = m + 1 := ⟨k - 1, by omega⟩
    simp only [honeycombref09_bit.l0]
    rw [if_pos (by omega), Int.tdiv_eq_ediv_of_nonneg h0, show wrap64 (j + 1) = j + 1 by unfold wrap64; omega, show x / 2 % 4294967296 = x / 2 by omega]
    rw [ih k (x / 2) (j + 1) (by omega) (by omega) (by omega) (by omega) h4 (by omega) (by omega)]
    rw [Int.pow_succ', ← Int.ediv_ediv_of_nonneg (by omega : (0 : Int) ≤ 2)]
theorem bit_tells (x n : Int) (hx : 0 ≤ x ∧ x < 4294967296) (hn : 0 ≤ n ∧ n ≤ 40) (k : Nat) (hk : 41 < k) : honeycombref09_bit.f k x n = some (bitv x n.toNat) := by
  unfold honeycombref09_bit.f
  rw [bit_l0 n (n.toNat) k x 0 hx.1 hx.2 (by omega) hn.1 hn.2 (by omega) (by omega)]
  rfl
theorem rstate_in (x a b : Int) (hx : 0 ≤ x ∧ x < 4294967296) (ha : 0 ≤ a ∧ a < 4) (hb : 0 ≤ b ∧ b < 4) (k : Nat) (hk : 43 < k) : honeycombref09_State.f k x a b = some (dig x (4 * b + a).toNat) := by
  obtain ⟨k, rfl⟩ : ∃ m, k = m + 1 := ⟨k - 1, by omega⟩
  unfold honeycombref09_State.f
  rw [if_neg (by omega), if_neg (by omega), if_neg (by omega), decide_eq_false (by omega)]
  simp only [honeycombref09_State.j0, Bool.false_eq_true, if_false]
  have e1 : wrap64 (wrap64 (8 * b) + wrap64 (2 * a)) = 8 * b + 2 * a := by unfold wrap64; omega
  have e2 : wrap64 (8 * b + 2 * a + 1) = 8 * b + 2 * a + 1 := by unfold wrap64; omega
  rw [e1, e2, bit_tells x _ hx (by omega) k (by omega), bit_tells x _ hx (by omega) k (by omega)]
  simp only [Option.bind_some]
  have hd := dig_bits x (4 * b + a).toNat
  have hdb := dig_bd x (4 * b + a).toNat
  rw [show (8 * b + 2 * a).toNat = 2 * (4 * b + a).toNat by omega, show (8 * b + 2 * a + 1).toNat = 2 * (4 * b + a).toNat + 1 by omega, ← hd.1, ← hd.2]
  congr 1
  unfold wrap64; omega
theorem rstate_out (x a b : Int) (h : ¬(0 ≤ a ∧ a < 4 ∧ 0 ≤ b ∧ b < 4)) (k : Nat) (hk : 0 < k) : honeycombref09_State.f k x a b = some 0 := by
  obtain ⟨k, rfl⟩ : ∃ m, k = m + 1 := ⟨k - 1, by omega⟩
  unfold honeycombref09_State.f
  by_cases h1 : a < 0
  · rw [if_pos h1]; simp [honeycombref09_State.j0]
  · by_cases h2 : b < 0
    · rw [if_neg h1, if_pos h2]; simp [honeycombref09_State.j0]
    · by_cases h3 : a > 3
      · rw [if_neg h1, if_neg h2, if_pos h3]; simp [honeycombref09_State.j0]
      · rw [if_neg h1, if_neg h2, if_neg h3, decide_eq_true (by omega)]; simp [honeycombref09_State.j0]

/-- the digits of a leaf from the i-th on -/
def digs (x : Int) (d i : Nat) : List Int := (List.range' i d).map (dig x)
theorem states_l1 (x : Int) (hx : 0 ≤ x ∧ x < 4294967296) (b : Int) (hb : 0 ≤ b ∧ b < 4) (m d : Nat) (hm : 50 < m) :
    ∀ (a : Int) (acc : List Int), 0 ≤ a → a ≤ 4 → (4 - a).toNat = d → acc.length ≤ 100 + a.toNat →
      honeycombref09_States.l1 (m + d + 1) x acc b a = honeycombref09_States.l0 m x (acc ++ digs x d (4 * b + a).toNat) (wrap64 (b + 1)) := by
  induction d with
  | zero =>
    intro a acc h0 h1 hd hl
    simp only [honeycombref09_States.l1]
    rw [if_neg (by omega)]
    simp [digs]
  | succ d ih =>
    intro a acc h0 h1 hd hl
    have IH := ih (a + 1) (acc ++ [dig x (4 * b + a).toNat]) (by omega) (by omega) (by omega) (by simp; omega)
    rw [show m + (d + 1) + 1 = (m + d + 1) + 1 by omega]
    have hst := rstate_in x a b hx ⟨h0, by omega⟩ hb (m + d + 1) (by omega)
    generalize m + d + 1 = K at IH hst ⊢
    simp only [honeycombref09_States.l1]
    rw [if_pos (by omega), hst]
    simp only [Option.bind_some]
    rw [if_pos (by omega), show wrap64 (a + 1) = a + 1 by unfold wrap64; omega, IH]
    have e : (4 * b + (a + 1)).toNat = (4 * b + a).toNat + 1 := by omega
    rw [e]
    simp [digs, List.range'_succ]
theorem states_l0 (x : Int) (hx : 0 ≤ x ∧ x < 4294967296) (m d : Nat) (hm : 60 < m) :
    ∀ (b : Int) (acc : List Int), 0 ≤ b → b ≤ 4 → (4 - b).toNat = d → acc.length ≤ 4 * b.toNat →
      honeycombref09_States.l0 (m + 6 * d + 1) x acc b = some (acc ++ digs x (4 * d) (4 * b).toNat) := by
  induction d with
  | zero =>
    intro b acc h0 h1 hd hl
    simp only [honeycombref09_States.l0]
    rw [if_neg (by omega)]
    simp [digs]
  | succ d ih =>
    intro b acc h0 h1 hd hl
    have h2 := states_l1 x hx b ⟨h0, by omega⟩ (m + 6 * d + 1) 4 (by omega) 0 acc (by omega) (by omega) (by omega) (by omega)
    have IH := ih (b + 1) (acc ++ digs x 4 (4 * b + 0).toNat) (by omega) (by omega) (by omega) (by simp [digs]; omega)
    rw [show m + 6 * (d + 1) + 1 = (m + 6 * d + 1 + 4 + 1) + 1 by omega]
    generalize m + 6 * d + 1 = K at h2 IH ⊢
    generalize hK : K + 4 + 1 = K2 at h2 ⊢
    simp only [honeycombref09_States.l0]
    rw [if_pos (by omega), h2, show wrap64 (b + 1) = b + 1 by unfold wrap64; omega, IH]
    have e : (4 * (b + 1)).toNat = (4 * b + 0).toNat + 4 := by omega
    rw [e, show (4 * b).toNat = (4 * b + 0).toNat by omega, show 4 * (d + 1) = 4 + 4 * d by omega]
    unfold digs
    rw [← List.range'_append_1, List.map_append]
    simp
theorem states_tells (x : Int) (hx : 0 ≤ x ∧ x < 4294967296) (k : Nat) (hk : 90 < k) : honeycombref09_States.f k x = some (digs x 16 0) := by
  obtain ⟨m, rfl⟩ : ∃ m, k = m + 6 * 4 + 1 := ⟨k - 25, by omega⟩
  unfold honeycombref09_States.f
  rw [states_l0 x hx m 4 (by omega) 0 [] (by omega) (by omega) (by omega) (by simp)]
  rfl

def conv (c : S44) : S47 := ⟨c.f0.f0, c.f0.f1, c.f1⟩
theorem rcells_l1 (f la lb' : Int) (hla : -4611686018427387904 ≤ la ∧ la ≤ 4611686018427387904) (hlb : -4611686018427387904 ≤ lb' ∧ lb' ≤ 4611686018427387904) (xs : List Int) (n : Int) (i : Nat) (hi : i < 16) (acc : List S47) (hl : acc.length ≤ 100) (m : Nat) :
    honeycombref09_Cells.l1 (m + 3) la lb' acc i (dig f i) 0 xs n i = honeycombref09_Cells.l0 m la lb' (acc ++ (c2 f la lb' (i / 4 : Nat) (i % 4 : Nat) 2 0).map conv) xs n ((i + 1 : Nat) : Int) := by
  have eb2 : wrap64 (lb' + wrap64 ((i : Int) / 4)) = lb' + (i : Int) / 4 := wadd _ _ (by omega) (by omega)
  have hd := dig_bd f i
  have hb := dig_bits f i
  have ei : (4 * ((i / 4 : Nat) : Int) + ((i % 4 : Nat) : Int)).toNat = i := by omega
  have t1 : Int.tmod (dig f i) 2 = bitv f (2 * i) := by rw [Int.tmod_eq_emod_of_nonneg hd.1, hb.1]
  have t2 : wrap64 (Int.tdiv (dig f i) 2) = bitv f (2 * i + 1) := by rw [Int.tdiv_eq_ediv_of_nonneg hd.1, ← hb.2]; unfold wrap64; omega
  have b0 : bitv f (2 * i) = 0 ∨ bitv f (2 * i) = 1 := by unfold bitv; omega
  have b1 : bitv f (2 * i + 1) = 0 ∨ bitv f (2 * i + 1) = 1 := by unfold bitv; omega
  have t3 : Int.tmod (bitv f (2 * i + 1)) 2 = bitv f (2 * i + 1) := by rcases b1 with h | h <;> rw [h] <;> rfl
  have ea : wrap64 (la + Int.tmod (i : Int) 4) = la + ((i % 4 : Nat) : Int) := by rw [Int.tmod_eq_emod_of_nonneg (by omega)]; unfold wrap64; omega
  have eb : wrap64 (lb' + wrap64 (Int.tdiv (i : Int) 4)) = lb' + ((i / 4 : Nat) : Int) := by rw [Int.tdiv_eq_ediv_of_nonneg (by omega)]; unfold wrap64; omega
  have ew : wrap64 ((i : Int) + 1) = ((i + 1 : Nat) : Int) := by unfold wrap64; omega
  have hn1 : acc.length < 5864062014805 := by omega
  have hn2 : acc.length + 1 < 5864062014805 := by omega
  have w1 : wrap64 1 = 1 := w64 1 (by decide)
  have w2 : wrap64 2 = 2 := w64 2 (by decide)
  simp only [c2, ei, show (0 : Int).toNat = 0 from rfl, show (0 + 1 : Int).toNat = 1 from rfl, Nat.add_zero]
  rcases b0 with h0 | h0 <;> rcases b1 with h1 | h1
  · simp [honeycombref09_Cells.l1, w1, w2, t1, t2, t3, h0, h1, ea, eb, eb2, ew, conv, cellAt]
  · simp [honeycombref09_Cells.l1, w1, w2, t1, t2, t3, h0, h1, ea, eb, eb2, ew, conv, cellAt]
    exact fun h => absurd hn1 (by simpa using h)
  · simp [honeycombref09_Cells.l1, w1, w2, t1, t2, t3, h0, h1, ea, eb, eb2, ew, conv, cellAt]
    exact fun h => absurd hn1 (by simpa using h)
  · simp [honeycombref09_Cells.l1, w1, w2, t1, t2, t3, h0, h1, ea, eb, eb2, ew, conv, cellAt]
    rw [if_pos hn1, if_pos hn2]
def tail (f la lb' : Int) : Nat → Nat → List S44
  | 0, _ => []
  | d + 1, i => c2 f la lb' (i / 4 : Nat) (i % 4 : Nat) 2 0 ++ tail f la lb' d (i + 1)
theorem tail_cells (f la lb' : Int) : tail f la lb' 16 0 = cells f la lb' := by
  simp [tail, cells, c0, c1]
theorem rcells_l0 (f la lb' : Int) (hla : -4611686018427387904 ≤ la ∧ la ≤ 4611686018427387904) (hlb : -4611686018427387904 ≤ lb' ∧ lb' ≤ 4611686018427387904) (xs : List Int) (hx : xs = digs f 16 0) (m d : Nat) :
    ∀ (i : Nat) (acc : List S47), i + d = 16 → acc.length ≤ 2 * i →
      honeycombref09_Cells.l0 (m + 4 * d + 1) la lb' acc xs 16 (i : Int) = some (acc ++ (tail f la lb' d i).map conv) := by
  induction d with
  | zero =>
    intro i acc hi hl
    simp only [honeycombref09_Cells.l0]
    rw [if_neg (by omega)]
    simp [tail]
  | succ d ih =>
    intro i acc hi hl
    have hlen : xs.length = 16 := by rw [hx]; simp [digs]
    have hr : rd xs (i : Int) = dig f i := by
      unfold rd; rw [hx]; simp [digs, List.getElem?_range', show i < 16 by omega]
    have h1 := rcells_l1 f la lb' hla hlb xs 16 i (by omega) acc (by omega) (m + 4 * d + 1)
    have hc := c2_len f la lb' (i / 4 : Nat) (i % 4 : Nat) 2 0
    have IH := ih (i + 1) (acc ++ (c2 f la lb' (i / 4 : Nat) (i % 4 : Nat) 2 0).map conv) (by omega) (by rw [List.length_append, List.length_map]; omega)
    rw [show m + 4 * (d + 1) + 1 = (m + 4 * d + 1 + 3) + 1 by omega]
    generalize m + 4 * d + 1 = K at h1 IH ⊢
    generalize hK : K + 3 = K2 at h1 ⊢
    simp only [honeycombref09_Cells.l0]
    rw [if_pos (by omega), if_pos (by omega), if_pos (by omega), hr, h1, IH]
    simp [tail]
theorem rcells_tells (f la lb' : Int) (hf : 0 ≤ f ∧ f < 4294967296) (hla : -4611686018427387904 ≤ la ∧ la ≤ 4611686018427387904) (hlb : -4611686018427387904 ≤ lb' ∧ lb' ≤ 4611686018427387904) (k : Nat) (hk : 90 < k) :
    honeycombref09_Cells.f k f la lb' = some ((cells f la lb').map conv) := by
  unfold honeycombref09_Cells.f
  rw [states_tells f hf k hk]
  simp only [Option.bind_some]
  obtain ⟨m, rfl⟩ : ∃ m, k = m + 4 * 16 + 1 := ⟨k - 65, by omega⟩
  have := rcells_l0 f la lb' hla hlb (digs f 16 0) rfl m 16 0 [] (by omega) (by simp)
  rw [tail_cells] at this
  simpa [digs] using this

theorem of_l0 (y : Int) (hy : 0 ≤ y ∧ y < 4294967296) (xs : List Int) (hlen : xs.length = 16) (hx : ∀ i : Nat, i < 16 → rd xs i = dig y i) (d : Nat) :
    ∀ (k : Nat), d ≤ 16 → d < k → honeycombref09_Of.l0 k xs (y / 4 ^ d) ((d : Int) - 1) = some y := by
  induction d with
  | zero =>
    intro k _ hk
    obtain ⟨k, rfl⟩ : ∃ m, k = m + 1 := ⟨k - 1, by omega⟩
    simp only [honeycombref09_Of.l0]
    rw [if_neg (by omega)]
    simp
  | succ d ih =>
    intro k hd hk
    obtain ⟨k, rfl⟩ : ∃ m, k = m + 1 := ⟨k - 1, by omega⟩
    simp only [honeycombref09_Of.l0]
    rw [if_pos (by omega), if_pos (by omega), if_pos (by omega)]
    have e : ((d + 1 : Nat) : Int) - 1 = (d : Int) := by omega
    rw [e, hx d (by omega), show wrap64 ((d : Int) - 1) = (d : Int) - 1 by unfold wrap64; omega]
    have hp : (0 : Int) < 4 ^ d := Int.pow_pos (by decide)
    have h1 : y / 4 ^ (d + 1) = y / 4 ^ d / 4 := by rw [Int.pow_succ, Int.ediv_ediv_of_nonneg (by omega)]
    have h2 : 0 ≤ y / 4 ^ d := Int.ediv_nonneg hy.1 (by omega)
    have h3 : y / 4 ^ d ≤ y := Int.ediv_le_self _ hy.1
    have e2 : ((4 * (y / 4 ^ (d + 1))) % 4294967296 + (dig y d) % 4294967296) % 4294967296 = y / 4 ^ d := by
      rw [h1]; unfold dig; omega
    rw [e2]
    exact ih k (by omega) (by omega)
theorem of_tells (y : Int) (hy : 0 ≤ y ∧ y < 4294967296) (xs : List Int) (hlen : xs.length = 16) (hx : ∀ i : Nat, i < 16 → rd xs i = dig y i) (k : Nat) (hk : 17 < k) : honeycombref09_Of.f k xs = some y := by
  have h := of_l0 y hy xs hlen hx 16 k (by omega) (by omega)
  unfold honeycombref09_Of.f
  have e : y / 4 ^ 16 = 0 := by rw [show (4 : Int) ^ 16 = 4294967296 from rfl]; omega
  rw [e] at h
  exact h

theorem are_l0 (xs : List S44) (d : Nat) : ∀ (k i : Nat), i + d = xs.length → xs.length < 1000 → d < k → honeycomblaw04_Are.l0 k xs (xs.map conv) (xs.length : Int) (i : Int) = some 0 := by
  induction d with
  | zero =>
    intro k i hi hl hk
    obtain ⟨k, rfl⟩ : ∃ m, k = m + 1 := ⟨k - 1, by omega⟩
    simp only [honeycomblaw04_Are.l0]
    rw [if_neg (by omega)]
  | succ d ih =>
    intro k i hi hl hk
    obtain ⟨k, rfl⟩ : ∃ m, k = m + 1 := ⟨k - 1, by omega⟩
    have hlt : i < xs.length := by omega
    have h1 : rd_T44 xs (i : Int) = xs[i] := by unfold rd_T44; simp [hlt]
    have h2 : rd_T47 (xs.map conv) (i : Int) = conv xs[i] := by unfold rd_T47; simp [hlt]
    simp only [honeycomblaw04_Are.l0, honeycomblaw03_Told.f]
    rw [if_pos (by omega), if_pos (by omega), if_pos (by omega), h1, h2]
    simp only [Option.bind_some, List.length_map]
    rw [if_pos (by omega), show wrap64 ((i : Int) + 1) = ((i + 1 : Nat) : Int) by unfold wrap64; omega, ih k (i + 1) (by omega) hl (by omega)]
    simp [conv]
theorem are_tells (xs : List S44) (hl : xs.length < 1000) (k : Nat) (hk : xs.length < k) : honeycomblaw04_Are.f k xs (xs.map conv) = some 0 := by
  unfold honeycomblaw04_Are.f
  rw [if_pos (by simp)]
  have := are_l0 xs xs.length k 0 (by omega) hl hk
  simpa using this

theorem tail_len (f la lb' : Int) (hf : 0 ≤ f) (d : Nat) : ∀ i : Nat, ((tail f la lb' d i).length : Int) = (popN (2 * d) (f / 4 ^ i).toNat : Int) := by
  induction d with
  | zero => intro i; rfl
  | succ d ih =>
    intro i
    have h := ih (i + 1)
    have hb := dig_bits f i
    have hp : (0 : Int) < 4 ^ i := Int.pow_pos (by decide)
    have e1 : f / 4 ^ (i + 1) = f / 4 ^ i / 4 := by rw [Int.pow_succ, Int.ediv_ediv_of_nonneg (by omega)]
    have h0 : 0 ≤ f / 4 ^ i := Int.ediv_nonneg (by omega) (by omega)
    have ei : (4 * ((i / 4 : Nat) : Int) + ((i % 4 : Nat) : Int)).toNat = i := by omega
    have hd : dig f i = (f / 4 ^ i) % 4 := rfl
    rw [e1] at h
    have hpop : (popN (2 * (d + 1)) (f / 4 ^ i).toNat : Int) = bitv f (2 * i) + bitv f (2 * i + 1) + popN (2 * d) (f / 4 ^ i / 4).toNat := by
      rw [show 2 * (d + 1) = 2 * d + 1 + 1 by omega]
      simp only [popN]
      rw [← hb.1, ← hb.2, hd, show ((f / 4 ^ i).toNat / 2 / 2) = (f / 4 ^ i / 4).toNat by omega]
      omega
    have b0 : bitv f (2 * i) = 0 ∨ bitv f (2 * i) = 1 := by unfold bitv; omega
    have b1 : bitv f (2 * i + 1) = 0 ∨ bitv f (2 * i + 1) = 1 := by unfold bitv; omega
    have hc : ((c2 f la lb' (i / 4 : Nat) (i % 4 : Nat) 2 0).length : Int) = bitv f (2 * i) + bitv f (2 * i + 1) := by
      simp only [c2, ei, show (0 : Int).toNat = 0 from rfl, show (0 + 1 : Int).toNat = 1 from rfl, Nat.add_zero]
      rcases b0 with h0 | h0 <;> rcases b1 with h1 | h1 <;> simp [h0, h1]
    rw [hpop, ← h]
    simp only [tail, List.length_append]
    omega
theorem cells_len (f la lb' : Int) (hf : 0 ≤ f) : ((cells f la lb').length : Int) = popN 32 f.toNat := by
  rw [← tail_cells]
  simpa using tail_len f la lb' hf 16 0

theorem awake_some : honeycomblaw09_awake.f 200 = some true := by decide +kernel
/-- the leaf after a put -/
def putv (f a b s : Int) : Int := if 0 ≤ a ∧ a < 4 ∧ 0 ≤ b ∧ b < 4 then putN f (4 * b + a).toNat (s % 4) else f
theorem putv_some (f a b s : Int) : site_Leaf_Put.f f a b s = some (putv f a b s) := by
  unfold putv
  by_cases h : 0 ≤ a ∧ a < 4 ∧ 0 ≤ b ∧ b < 4
  · rw [if_pos h, put_tells f a b s ⟨h.1, h.2.1⟩ h.2.2]
  · rw [if_neg h, put_none f a b s h]
theorem j1_tells (f y : Int) (hf : 0 ≤ f ∧ f < 4294967296) (hy : 0 ≤ y ∧ y < 4294967296) (xs : List Int) (hlen : xs.length = 16) (hx : ∀ i : Nat, i < 16 → rd xs i = dig y i) (la lb' : Int) (k : Nat) (hk : 150 < k) : honeycomblaw09_SiteLeaves.j1 k f f xs y la lb' = some true := by
  have hl (z : Int) : -4611686018427387904 ≤ Int.tmod z 1152921504606846976 ∧ Int.tmod z 1152921504606846976 ≤ 4611686018427387904 := by
    have := bs.tmod_bd z 1152921504606846976 (by omega); omega
  have hl' (z : Int) : -4611686018427387908 ≤ Int.tmod z 1152921504606846976 ∧ Int.tmod z 1152921504606846976 ≤ 4611686018427387908 := by
    have := hl z; omega
  obtain ⟨k, rfl⟩ : ∃ m, k = m + 1 := ⟨k - 1, by omega⟩
  simp only [honeycomblaw09_SiteLeaves.j1]
  rw [rcells_tells f _ _ hf (hl la) (hl lb') k (by omega)]
  simp only [Option.bind_some]
  rw [of_tells y hy xs hlen hx k (by omega)]
  simp only [Option.bind_some, if_true]
  rw [count_tells f hf k (by omega)]
  simp only [Option.bind_some]
  have hc := cells_len f (Int.tmod la 1152921504606846976) (Int.tmod lb' 1152921504606846976) hf.1
  rw [if_pos (by rw [List.length_map, hc]), cells_tells f _ _ hf (hl' la) (hl' lb') k (by omega)]
  simp only [Option.bind_some]
  have hp := popN_le 32 f.toNat
  rw [are_tells _ (by omega) k (by omega)]
  rfl
theorem law_tells (f a b s la lb' : Int) (hf : 0 ≤ f ∧ f < 4294967296) : honeycomblaw09_SiteLeaves.f 200 f a b s la lb' = some true := by
  unfold honeycomblaw09_SiteLeaves.f
  rw [awake_some]
  simp only [Option.bind_some, if_true]
  rw [states_tells f hf 200 (by omega), putv_some]
  simp only [Option.bind_some]
  have hdig : ∀ i : Nat, i < 16 → rd (digs f 16 0) i = dig f i := by
    intro i hi
    unfold rd; simp [digs, List.getElem?_range', hi]
  by_cases h : 0 ≤ a ∧ a < 4 ∧ 0 ≤ b ∧ b < 4
  · rw [state_tells f a b hf ⟨h.1, h.2.1⟩ h.2.2, rstate_in f a b hf ⟨h.1, h.2.1⟩ h.2.2 200 (by omega)]
    simp only [Option.bind_some, if_true]
    rw [if_pos (by omega), if_pos (by omega), if_pos (by omega), decide_eq_true (by omega)]
    have e : wrap64 (wrap64 (4 * b) + a) = 4 * b + a := by rw [w64 (4 * b) (by omega), w64 _ (by omega)]
    simp only [honeycomblaw09_SiteLeaves.j0, if_true]
    rw [e, if_pos (by omega), if_pos (by simp [digs]; omega), bs.and3]
    have hp := putN_tells f (4 * b + a).toNat (s % 4) hf (by omega) (by omega)
    have hv : putv f a b s = putN f (4 * b + a).toNat (s % 4) := if_pos h
    rw [hv]
    refine j1_tells f _ hf hp.1 _ (by simp [digs]) (fun i hi => ?_) la lb' 199 (by omega)
    rw [hp.2 i hi]
    unfold rd
    rw [Int.toNat_natCast, List.getD_eq_getElem?_getD, List.getElem?_set]
    by_cases he : (4 * b + a).toNat = i
    · rw [if_pos he, if_pos (by simp [digs]; omega), if_pos he.symm]; rfl
    · rw [if_neg he, if_neg (fun h => he h.symm)]
      have := hdig i hi
      unfold rd at this
      rw [Int.toNat_natCast, List.getD_eq_getElem?_getD] at this
      exact this
  · rw [state_none f a b h, rstate_out f a b h 200 (by omega)]
    have hv : putv f a b s = f := if_neg h
    have hj : honeycomblaw09_SiteLeaves.j1 199 f f (digs f 16 0) f la lb' = some true := j1_tells f f hf hf _ (by simp [digs]) hdig la lb' 199 (by omega)
    have hf0 : honeycomblaw09_SiteLeaves.j0 200 f a b s f (digs f 16 0) f false la lb' = some true := by
      simp only [honeycomblaw09_SiteLeaves.j0, Bool.false_eq_true, if_false]
      exact hj
    simp only [Option.bind_some, if_true]
    rw [hv]
    by_cases h1 : a ≥ 0
    · by_cases h2 : a < 4
      · by_cases h3 : b ≥ 0
        · rw [if_pos h1, if_pos h2, if_pos h3, decide_eq_false (by omega)]; exact hf0
        · rw [if_pos h1, if_pos h2, if_neg h3]; exact hf0
      · rw [if_pos h1, if_neg h2]; exact hf0
    · rw [if_neg h1]; exact hf0
theorem leaves_walk (f a b s la lb' : Int) (w : World) (hf : 0 ≤ f ∧ f ≤ 4294967295) :
    Calls Try.prog 4 #[.int .u32 f, .int .i64 a, .int .i64 b, .int .i64 s, .agg #[.int .i64 la, .int .i64 lb']] w fun e w' => e = .returned (.bool true) ∧ Below w.heap.size w w' :=
  honeycomblaw09_SiteLeaves.calls 200 f a b s la lb' true w (law_tells f a b s la lb' (by omega))
end Go.Proofs.Ytffaagmiceeclaa.lawSiteLeaves
