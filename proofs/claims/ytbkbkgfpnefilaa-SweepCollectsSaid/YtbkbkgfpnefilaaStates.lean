/- A leaf's sixteen states by the printed functions, and how many bits they have. KEYSUB turns the printed namespace. -/
import Derived.Test.YtbkbkgfpnefilaaPSweepCollectsx1
import Derived.Test.YtbkbkgfpnefilaaPop
namespace Go.Proofs.Ytbkbkgfpnefilaa.sts
open Go.RowKit Go.Proofs.Ytbkbkgfpnefilaa.PSweepCollects Go.Proofs.YtbkbkgfpnefilaaW.PrintWords Go.Proofs.YtbkbkgfpnefilaaW.PrintLast Go.Proofs.Ytbkbkgfpnefilaa.lb

theorem w64 (x : Int) (h : -9223372036854775808 ≤ x ∧ x < 9223372036854775808) : wrap64 x = x := by unfold wrap64; omega
theorem wadd (x y : Int) (h : -9223372036854775808 ≤ y ∧ y < 9223372036854775808) (h2 : -9223372036854775808 ≤ x + y ∧ x + y < 9223372036854775808) : wrap64 (x + wrap64 y) = x + y := by rw [w64 y h, w64 _ h2]
theorem bit_l0 (n : Int) (d : Nat) : ∀ (k : Nat) (x j : Int), 0 ≤ x → x < 4294967296 → 0 ≤ j → j ≤ n → n ≤ 40 → (n - j).toNat = d → d < k → honeycombref09_bit.l0 k x n j = some (x / 2 ^ d % 2) := by
  induction d with
  | zero =>
    intro k x j h0 h1 h2 h3 h4 hd hk
    obtain ⟨k, rfl⟩ : ∃ m, k = m + 1 := ⟨k - 1, by omega⟩
    simp only [honeycombref09_bit.l0]
    rw [if_neg (by omega), Int.tmod_eq_emod_of_nonneg h0]
    simp
    unfold wrap64; omega
  | succ d ih =>
    intro k x j h0 h1 h2 h3 h4 hd hk
    obtain ⟨k, rfl⟩ : ∃ m, k = m + 1 := ⟨k - 1, by omega⟩
    simp only [honeycombref09_bit.l0]
    rw [if_pos (by omega), Int.tdiv_eq_ediv_of_nonneg h0, show wrap64 (j + 1) = j + 1 by unfold wrap64; omega, show x / 2 % 4294967296 = x / 2 by omega]
    rw [ih k (x / 2) (j + 1) (by omega) (by omega) (by omega) (by omega) h4 (by omega) (by omega)]
    rw [Int.pow_succ', ← Int.ediv_ediv_of_nonneg (by omega : (0 : Int) ≤ 2)]
theorem bit_tells (x n : Int) (hx : 0 ≤ x ∧ x < 4294967296) (hn : 0 ≤ n ∧ n ≤ 40) (k : Nat) (hk : 41 < k) : honeycombref09_bit.f k x n = some (bitv x n.toNat) := by
  unfold honeycombref09_bit.f
  rw [bit_l0 n (n.toNat) k x 0 hx.1 hx.2 (by omega) hn.1 hn.2 (by omega) (by omega)]
  rfl
theorem rstate_in (x a b : Int) (hx : 0 ≤ x ∧ x < 4294967296) (ha : 0 ≤ a ∧ a < 4) (hb : 0 ≤ b ∧ b < 4) (k : Nat) (hk : 43 < k) : honeycombref09_State.f k x a b = some (dig x (4 * b + a).toNat) := by
  obtain ⟨k, rfl⟩ : ∃ m, k = m + 1 := ⟨k - 1, by omega⟩
  unfold honeycombref09_State.f
  rw [if_neg (by omega), if_neg (by omega), if_neg (by omega), decide_eq_false (by omega)]
  simp only [honeycombref09_State.j0, Bool.false_eq_true, if_false]
  have e1 : wrap64 (wrap64 (8 * b) + wrap64 (2 * a)) = 8 * b + 2 * a := by unfold wrap64; omega
  have e2 : wrap64 (8 * b + 2 * a + 1) = 8 * b + 2 * a + 1 := by unfold wrap64; omega
  rw [e1, e2, bit_tells x _ hx (by omega) k (by omega), bit_tells x _ hx (by omega) k (by omega)]
  simp only [Option.bind_some]
  have hd := dig_bits x (4 * b + a).toNat
  have hdb := dig_bd x (4 * b + a).toNat
  rw [show (8 * b + 2 * a).toNat = 2 * (4 * b + a).toNat by omega, show (8 * b + 2 * a + 1).toNat = 2 * (4 * b + a).toNat + 1 by omega, ← hd.1, ← hd.2]
  congr 1
  unfold wrap64; omega
theorem rstate_out (x a b : Int) (h : ¬(0 ≤ a ∧ a < 4 ∧ 0 ≤ b ∧ b < 4)) (k : Nat) (hk : 0 < k) : honeycombref09_State.f k x a b = some 0 := by
  obtain ⟨k, rfl⟩ : ∃ m, k = m + 1 := ⟨k - 1, by omega⟩
  unfold honeycombref09_State.f
  by_cases h1 : a < 0
  · rw [if_pos h1]; simp [honeycombref09_State.j0]
  · by_cases h2 : b < 0
    · rw [if_neg h1, if_pos h2]; simp [honeycombref09_State.j0]
    · by_cases h3 : a > 3
      · rw [if_neg h1, if_neg h2, if_pos h3]; simp [honeycombref09_State.j0]
      · rw [if_neg h1, if_neg h2, if_neg h3, decide_eq_true (by omega)]; simp [honeycombref09_State.j0]

/-- the digits of a leaf from the i-th on -/
def digs (x : Int) (d i : Nat) : List Int := (List.range' i d).map (dig x)
theorem states_l1 (x : Int) (hx : 0 ≤ x ∧ x < 4294967296) (b : Int) (hb : 0 ≤ b ∧ b < 4) (m d : Nat) (hm : 50 < m) :
    ∀ (a : Int) (acc : List Int), 0 ≤ a → a ≤ 4 → (4 - a).toNat = d → acc.length ≤ 100 + a.toNat →
      honeycombref09_States.l1 (m + d + 1) x acc b a = honeycombref09_States.l0 m x (acc ++ digs x d (4 * b + a).toNat) (wrap64 (b + 1)) := by
  induction d with
  | zero =>
    intro a acc h0 h1 hd hl
    simp only [honeycombref09_States.l1]
    rw [if_neg (by omega)]
    simp [digs]
  | succ d ih =>
    intro a acc h0 h1 hd hl
    have IH := ih (a + 1) (acc ++ [dig x (4 * b + a).toNat]) (by omega) (by omega) (by omega) (by simp; omega)
    rw [show m + (d + 1) + 1 = (m + d + 1) + 1 by omega]
    have hst := rstate_in x a b hx ⟨h0, by omega⟩ hb (m + d + 1) (by omega)
    generalize m + d + 1 = K at IH hst ⊢
    simp only [honeycombref09_States.l1]
    rw [if_pos (by omega), hst]
    simp only [Option.bind_some]
    rw [if_pos (by omega), show wrap64 (a + 1) = a + 1 by unfold wrap64; omega, IH]
    have e : (4 * b + (a + 1)).toNat = (4 * b + a).toNat + 1 := by omega
    rw [e]
    simp [digs, List.range'_succ]
theorem states_l0 (x : Int) (hx : 0 ≤ x ∧ x < 4294967296) (m d : Nat) (hm : 60 < m) :
    ∀ (b : Int) (acc : List Int), 0 ≤ b → b ≤ 4 → (4 - b).toNat = d → acc.length ≤ 4 * b.toNat →
      honeycombref09_States.l0 (m + 6 * d + 1) x acc b = some (acc ++ digs x (4 * d) (4 * b).toNat) := by
  induction d with
  | zero =>
    intro b acc h0 h1 hd hl
    simp only [honeycombref09_States.l0]
    rw [if_neg (by omega)]
    simp [digs]
  | succ d ih =>
    intro b acc h0 h1 hd hl
    have h2 := states_l1 x hx b ⟨h0, by omega⟩ (m + 6 * d + 1) 4 (by omega) 0 acc (by omega) (by omega) (by omega) (by omega)
    have IH := ih (b + 1) (acc ++ digs x 4 (4 * b + 0).toNat) (by omega) (by omega) (by omega) (by simp [digs]; omega)
    rw [show m + 6 * (d + 1) + 1 = (m + 6 * d + 1 + 4 + 1) + 1 by omega]
    generalize m + 6 * d + 1 = K at h2 IH ⊢
    generalize hK : K + 4 + 1 = K2 at h2 ⊢
    simp only [honeycombref09_States.l0]
    rw [if_pos (by omega), h2, show wrap64 (b + 1) = b + 1 by unfold wrap64; omega, IH]
    have e : (4 * (b + 1)).toNat = (4 * b + 0).toNat + 4 := by omega
    rw [e, show (4 * b).toNat = (4 * b + 0).toNat by omega, show 4 * (d + 1) = 4 + 4 * d by omega]
    unfold digs
    rw [← List.range'_append_1, List.map_append]
    simp
theorem states_tells (x : Int) (hx : 0 ≤ x ∧ x < 4294967296) (k : Nat) (hk : 90 < k) : honeycombref09_States.f k x = some (digs x 16 0) := by
  obtain ⟨m, rfl⟩ : ∃ m, k = m + 6 * 4 + 1 := ⟨k - 25, by omega⟩
  unfold honeycombref09_States.f
  rw [states_l0 x hx m 4 (by omega) 0 [] (by omega) (by omega) (by omega) (by simp)]
  rfl

/-- how many cells live -/
def sumS : List Int → Int
  | [] => 0
  | s :: l => (s % 2 + s / 2) + sumS l
theorem sumS_digs (f : Int) (hf : 0 ≤ f) (d : Nat) : ∀ i : Nat, sumS (digs f d i) = (popN (2 * d) (f / 4 ^ i).toNat : Int) := by
  induction d with
  | zero => intro i; rfl
  | succ d ih =>
    intro i
    have h := ih (i + 1)
    have hb := dig_bits f i
    have hp : (0 : Int) < 4 ^ i := Int.pow_pos (by decide)
    have e1 : f / 4 ^ (i + 1) = f / 4 ^ i / 4 := by rw [Int.pow_succ, Int.ediv_ediv_of_nonneg (by omega)]
    have h0 : 0 ≤ f / 4 ^ i := Int.ediv_nonneg (by omega) (by omega)
    have hd : dig f i = (f / 4 ^ i) % 4 := rfl
    rw [e1] at h
    have hpop : (popN (2 * (d + 1)) (f / 4 ^ i).toNat : Int) = bitv f (2 * i) + bitv f (2 * i + 1) + popN (2 * d) (f / 4 ^ i / 4).toNat := by
      rw [show 2 * (d + 1) = 2 * d + 1 + 1 by omega]
      simp only [popN]
      rw [← hb.1, ← hb.2, hd, show ((f / 4 ^ i).toNat / 2 / 2) = (f / 4 ^ i / 4).toNat by omega]
      omega
    rw [hpop, ← h, ← hb.1, ← hb.2]
    show sumS ((List.range' i (d + 1)).map (dig f)) = _
    rw [List.range'_succ, List.map_cons]
    rfl
theorem digs_len (f : Int) (d i : Nat) : (digs f d i).length = d := by simp [digs]
theorem digs_bd (f : Int) (d i k : Nat) (x : Int) (h : (digs f d i)[k]? = some x) : 0 ≤ x ∧ x ≤ 3 := by
  have hm := List.mem_of_getElem? h
  unfold digs at hm
  rw [List.mem_map] at hm
  obtain ⟨j, _, rfl⟩ := hm
  exact dig_bd f j
theorem states_calls (f : Nat) (hf : f < 4294967296) (w : World) : Calls Try.prog 108 #[.int .u32 f] w fun e w' => ∃ v, e = .returned v ∧ Kd.R (Kd.int .i64) 3 w' w.heap.size (fun _ => True) v (digs f 16 0) ∧ Below w.heap.size w w' :=
  honeycombref09_States.calls 91 f _ w (states_tells f (by omega) 91 (by omega))
end Go.Proofs.Ytbkbkgfpnefilaa.sts
