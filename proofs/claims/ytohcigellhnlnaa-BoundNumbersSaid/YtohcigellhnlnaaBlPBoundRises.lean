/- What the printed functions of the package bound come to: plain facts (printed by wip/boundlib.py for the namespace PBoundRises). -/
import Derived.Test.YtohcigellhnlnaaPBoundRisesx2
import Derived.Test.YtohcigellhnlnaaBase
import Derived.Laws.MathBits
namespace Go.Proofs.Ytohcigellhnlnaa.blPBoundRises
open Go.RowKit Go.Proofs.Ytohcigellhnlnaa.PBoundRises Go.Proofs.YtohcigellhnlnaaW.PrintWords Go.Proofs.YtohcigellhnlnaaW.PrintLast

theorem mn_eq (a b : Int) : mn a b = if b < a then b else a := rfl
theorem mx_eq (a b : Int) : mx a b = if a < b then b else a := rfl
/-- the product, at most 2^62 -/
def tm (a b : Int) : Int := if a * b > 4611686018427387904 then 4611686018427387904 else a * b
theorem tm_bd {a b : Int} (ha : 0 ≤ a) (hb : 0 ≤ b) : 0 ≤ tm a b ∧ tm a b ≤ 4611686018427387904 := by
  have := Int.mul_nonneg ha hb
  unfold tm; split <;> omega
theorem mul64_tells (a b : Int) (ha : 0 ≤ a ∧ a < 18446744073709551616) (hb : 0 ≤ b ∧ b < 18446744073709551616) :
    bits_Mul64.f a b = some (a * b / 18446744073709551616, a * b % 18446744073709551616) := by
  unfold bits_Mul64.f
  have hm : ∀ x : Int, 0 ≤ x → Go.bits .and .u64 x 4294967295 = x % 4294967296 := by
    intro x hx
    have := bs.and_mask_u64 x 32 (by omega)
    simpa using this
  have hw : ∀ x : Int, IntKind.u64.wrap x = x % 18446744073709551616 := fun x => IntKind.wrap_u64 x
  simp only [hw]
  rw [hm a ha.1, hm b hb.1, hm _ (by omega)]
  rw [mul64_arith a b ha.1 ha.2 hb.1 hb.2]

theorem times_l0 (xs : List Int) (hxs : ∀ x ∈ xs, 0 ≤ x ∧ x < 18446744073709551616) (hl : xs.length < 1000) (d : Nat) :
    ∀ (k : Nat) (i : Nat) (out : Int), i + d = xs.length → d < k → 0 ≤ out → out ≤ 4611686018427387904 →
      bound_times.l0 k out xs (xs.length : Int) (i : Int) = some ((xs.drop i).foldl tm out) := by
  induction d with
  | zero =>
    intro k i out hi hk h0 h1
    obtain ⟨k, rfl⟩ : ∃ m, k = m + 1 := ⟨k - 1, by omega⟩
    simp only [bound_times.l0]
    rw [if_neg (by omega), List.drop_of_length_le (by omega)]
    rfl
  | succ d ih =>
    intro k i out hi hk h0 h1
    obtain ⟨k, rfl⟩ : ∃ m, k = m + 1 := ⟨k - 1, by omega⟩
    have hlt : i < xs.length := by omega
    have hx := hxs xs[i] (List.getElem_mem hlt)
    have hr : rd xs (i : Int) = xs[i] := by unfold rd; simp [hlt]
    have ew : wrap64 ((i : Int) + 1) = ((i + 1 : Nat) : Int) := by unfold wrap64; omega
    have hd : xs.drop i = xs[i] :: xs.drop (i + 1) := List.drop_eq_getElem_cons hlt
    have hp := Int.mul_nonneg h0 hx.1
    simp only [bound_times.l0]
    rw [if_pos (by omega), if_pos (by omega), if_pos (by omega), hr, mul64_tells out xs[i] ⟨h0, by omega⟩ hx, ew, hd]
    simp only [Option.bind_some, List.foldl_cons]
    have htm : tm out xs[i] = if out * xs[i] > 4611686018427387904 then 4611686018427387904 else out * xs[i] := rfl
    have hbd := tm_bd h0 hx.1
    generalize tm out xs[i] = t at *
    generalize out * xs[i] = p at *
    have IH := ih k (i + 1) t (by omega) (by omega) hbd.1 hbd.2
    by_cases hhi : p / 18446744073709551616 > 0
    · rw [if_pos hhi]
      rw [if_pos (by omega)] at htm
      rw [htm] at IH ⊢
      exact IH
    · rw [if_neg hhi]
      by_cases hlo : p % 18446744073709551616 > 4611686018427387904
      · rw [if_pos hlo]
        rw [if_pos (by omega)] at htm
        rw [htm] at IH ⊢
        exact IH
      · rw [if_neg hlo]
        rw [if_neg (by omega)] at htm
        rw [show p % 18446744073709551616 = t by omega]
        exact IH

theorem times_tells (xs : List Int) (hxs : ∀ x ∈ xs, 0 ≤ x ∧ x < 18446744073709551616) (hl : xs.length < 50) (k : Nat) (hk : 50 < k) : bound_times.f k xs = some (xs.foldl tm 1) := by
  unfold bound_times.f
  have := times_l0 xs hxs (by omega) xs.length k 0 1 (by omega) (by omega) (by omega) (by omega)
  simpa using this

/-- generations, as they count -/
def gen (n : Int) : Int := if n < 0 then 0 else if n > 1048576 then 1048576 else n
theorem gen_bd (n : Int) : 0 ≤ gen n ∧ gen n ≤ 1048576 := by unfold gen; split <;> (try split) <;> omega
theorem gen_eq (n : Int) : mn (mx n 0) 1048576 = gen n := by unfold mn mx gen; split <;> (try split) <;> (try split) <;> (try split) <;> omega
def cap (p : Int) : Int := if 4611686018427387904 < p then 4611686018427387904 else p
theorem cap_eq (p : Int) : mn p 4611686018427387904 = cap p := rfl
theorem cap_bd {p : Int} (h : 0 ≤ p) : 0 ≤ cap p ∧ cap p ≤ 4611686018427387904 := by unfold cap; split <;> omega
def cellsV (p n : Int) : Int := tm (tm (tm (tm 1 2) (cap p)) (2 * gen n + 1)) (2 * gen n + 1)
theorem cells_tells (p n : Int) (hp : 0 ≤ p) (k : Nat) (hk : 50 < k) : bound_Cells.f k p n = some (cellsV p n) := by
  have hg := gen_bd n
  have hc := cap_bd hp
  unfold bound_Cells.f
  rw [gen_eq, cap_eq, times_tells _ (by simp; omega) (by simp) k hk]
  rfl

def half (l : Int) : Int := 2 ^ ((if l < 1 then 1 else if l > 44 then 44 else l) - 1).toNat
theorem half_tells (l : Int) : tree_Half.f l = some (half l) := by
  unfold tree_Half.f half
  have e : mn (mx l 1) 44 = if l < 1 then 1 else if l > 44 then 44 else l := by unfold mn mx; split <;> (try split) <;> (try split) <;> (try split) <;> omega
  rw [e]
  have hp : (2 : Int) ^ ((if l < 1 then 1 else if l > 44 then 44 else l) - 1).toNat ≤ 2 ^ 43 := by
    exact_mod_cast Nat.pow_le_pow_right (by omega : 0 < 2) (by split <;> (try split) <;> omega)
  have hp0 : (0 : Int) < 2 ^ ((if l < 1 then 1 else if l > 44 then 44 else l) - 1).toNat := Int.pow_pos (by decide)
  congr 1
  unfold wrap64; omega
theorem half_bd (l : Int) : 0 < half l ∧ half l ≤ 8796093022208 := by
  unfold half
  refine ⟨Int.pow_pos (by decide), ?_⟩
  have : (2 : Int) ^ ((if l < 1 then 1 else if l > 44 then 44 else l) - 1).toNat ≤ 2 ^ 43 := by
    exact_mod_cast Nat.pow_le_pow_right (by omega : 0 < 2) (by split <;> (try split) <;> omega)
  omega
theorem inside_tells (l a b : Int) : tree_Inside.f l a b = some (decide (-half l ≤ a ∧ a < half l ∧ -half l ≤ b ∧ b < half l)) := by
  have h := half_bd l
  unfold tree_Inside.f
  rw [half_tells]
  simp only [Option.bind_some]
  rw [show wrap64 (-half l) = -half l by unfold wrap64; omega]
  by_cases h1 : a ≥ -half l
  · by_cases h2 : a < half l
    · by_cases h3 : b ≥ -half l
      · rw [if_pos h1, if_pos h2, if_pos h3]; congr 1; rw [decide_eq_decide]; omega
      · rw [if_pos h1, if_pos h2, if_neg h3, decide_eq_false (by omega)]
    · rw [if_pos h1, if_neg h2, decide_eq_false (by omega)]
  · rw [if_neg h1, decide_eq_false (by omega)]

/-- the least level from l on (at most 44) at which the test holds -/
def least (P : Int → Prop) [DecidablePred P] : Nat → Int → Int
  | 0, l => l
  | d + 1, l => if P l then l else least P d (l + 1)
theorem least_bd (P : Int → Prop) [DecidablePred P] (d : Nat) : ∀ l, l ≤ least P d l ∧ least P d l ≤ l + d := by
  induction d with
  | zero => intro l; simp [least]
  | succ d ih => intro l; have := ih (l + 1); unfold least; split <;> omega
theorem level_l0 (a b c d' : Int) (d : Nat) : ∀ (k : Nat) (l : Int), 3 ≤ l → l ≤ 44 → (44 - l).toNat = d → d < k →
    tree_Level.l0 k l a b c d' = some (least (fun l => -half l ≤ a ∧ a < half l ∧ -half l ≤ b ∧ b < half l ∧ -half l ≤ c ∧ c < half l ∧ -half l ≤ d' ∧ d' < half l) d l) := by
  induction d with
  | zero =>
    intro k l h0 h1 hd hk
    obtain ⟨k, rfl⟩ : ∃ m, k = m + 1 := ⟨k - 1, by omega⟩
    simp only [tree_Level.l0]
    rw [if_neg (by omega)]
    rfl
  | succ d ih =>
    intro k l h0 h1 hd hk
    obtain ⟨k, rfl⟩ : ∃ m, k = m + 1 := ⟨k - 1, by omega⟩
    simp only [tree_Level.l0]
    rw [if_pos (by omega), inside_tells, inside_tells, show wrap64 (l + 1) = l + 1 by unfold wrap64; omega]
    simp only [Option.bind_some, decide_eq_true_eq]
    have IH := ih k (l + 1) (by omega) (by omega) (by omega) (by omega)
    unfold least
    by_cases h2 : -half l ≤ a ∧ a < half l ∧ -half l ≤ b ∧ b < half l
    · rw [if_pos h2]
      by_cases h3 : -half l ≤ c ∧ c < half l ∧ -half l ≤ d' ∧ d' < half l
      · rw [if_pos h3, if_pos (by omega)]
      · rw [if_neg h3, if_neg (by omega)]; exact IH
    · rw [if_neg h2, if_neg (by omega)]; exact IH

def farV (e n : Int) : Int := (if e < 0 then 0 else if e > 2305843009213693952 then 2305843009213693952 else e) + gen n
theorem far_bd (e n : Int) : 0 ≤ farV e n ∧ farV e n ≤ 2305843009214742528 := by have := gen_bd n; unfold farV; split <;> (try split) <;> omega
def lvl (far : Int) : Int := least (fun l => far < half l) 41 3
def levelV (e n : Int) : Int := if lvl (farV e n) + 2 > 44 then 44 else lvl (farV e n) + 2
theorem least_congr {P Q : Int → Prop} [DecidablePred P] [DecidablePred Q] (d : Nat) : ∀ l, (∀ i, P i ↔ Q i) → least P d l = least Q d l := by
  induction d with
  | zero => intro l _; rfl
  | succ d ih =>
    intro l h
    unfold least
    rw [ih (l + 1) h]
    by_cases hp : P l
    · rw [if_pos hp, if_pos ((h l).1 hp)]
    · rw [if_neg hp, if_neg (fun q => hp ((h l).2 q))]
theorem level_tells (e n : Int) (k : Nat) (hk : 50 < k) : bound_Level.f k e n = some (levelV e n) := by
  have hf := far_bd e n
  unfold bound_Level.f
  have e1 : mn (mx e 0) 2305843009213693952 + mn (mx n 0) 1048576 = farV e n := by
    rw [gen_eq]; unfold farV mn mx; split <;> (try split) <;> (try split) <;> (try split) <;> omega
  rw [e1]
  unfold tree_Level.f
  rw [level_l0 _ _ _ _ 41 k 3 (by omega) (by omega) (by omega) (by omega)]
  simp only [Option.bind_some]
  have hb := least_bd (fun l => farV e n < half l) 41 3
  rw [least_congr (Q := fun l => farV e n < half l) 41 3 (fun i => by have := half_bd i; omega)]
  congr 1
  unfold levelV lvl mn
  rw [show wrap64 (least (fun l => farV e n < half l) 41 3 + 2) = least (fun l => farV e n < half l) 41 3 + 2 by unfold wrap64; omega]
theorem level_bd (e n : Int) : 5 ≤ levelV e n ∧ levelV e n ≤ 44 := by
  have hb := least_bd (fun l => farV e n < half l) 41 3
  unfold levelV lvl; split <;> omega

def nodesV (p n e : Int) : Int :=
  cap (cap (tm (tm (tm (tm 1 4) (cellsV p n)) (levelV e n)) (gen n + 21) + tm (tm 1 (cap p)) (levelV e n)) + 12000)
theorem plus_l0 (xs : List Int) (hxs : ∀ x ∈ xs, 0 ≤ x) (hl : xs.length < 1000) (d : Nat) :
    ∀ (k : Nat) (i : Nat) (out : Int), i + d = xs.length → d < k → 0 ≤ out → out ≤ 4611686018427387904 →
      bound_plus.l0 k out xs (xs.length : Int) (i : Int) = some ((xs.drop i).foldl (fun o x => cap (o + cap x)) out) := by
  induction d with
  | zero =>
    intro k i out hi hk h0 h1
    obtain ⟨k, rfl⟩ : ∃ m, k = m + 1 := ⟨k - 1, by omega⟩
    simp only [bound_plus.l0]
    rw [if_neg (by omega), List.drop_of_length_le (by omega)]
    rfl
  | succ d ih =>
    intro k i out hi hk h0 h1
    obtain ⟨k, rfl⟩ : ∃ m, k = m + 1 := ⟨k - 1, by omega⟩
    have hlt : i < xs.length := by omega
    have hx := hxs xs[i] (List.getElem_mem hlt)
    have hr : rd xs (i : Int) = xs[i] := by unfold rd; simp [hlt]
    have ew : wrap64 ((i : Int) + 1) = ((i + 1 : Nat) : Int) := by unfold wrap64; omega
    have hd : xs.drop i = xs[i] :: xs.drop (i + 1) := List.drop_eq_getElem_cons hlt
    have hc := cap_bd hx
    simp only [bound_plus.l0]
    rw [if_pos (by omega), if_pos (by omega), if_pos (by omega), hr, ew, hd, cap_eq, cap_eq]
    simp only [List.foldl_cons]
    rw [show IntKind.u64.wrap (out + cap xs[i]) = out + cap xs[i] by rw [IntKind.wrap_u64]; omega]
    have hc2 := cap_bd (p := out + cap xs[i]) (by omega)
    exact ih k (i + 1) _ (by omega) (by omega) hc2.1 hc2.2
theorem plus_tells (xs : List Int) (hxs : ∀ x ∈ xs, 0 ≤ x) (hl : xs.length < 50) (k : Nat) (hk : 50 < k) : bound_plus.f k xs = some (xs.foldl (fun o x => cap (o + cap x)) 0) := by
  unfold bound_plus.f
  have := plus_l0 xs hxs (by omega) xs.length k 0 0 (by omega) (by omega) (by omega) (by omega)
  simpa using this
theorem cap_id {p : Int} (h : p ≤ 4611686018427387904) : cap p = p := by unfold cap; rw [if_neg (by omega)]
theorem cells_bd (p n : Int) (hp : 0 ≤ p) : 0 ≤ cellsV p n ∧ cellsV p n ≤ 4611686018427387904 := by
  have hg := gen_bd n
  have hc := cap_bd hp
  exact tm_bd (tm_bd (tm_bd (tm_bd (by omega) (by omega)).1 hc.1).1 (by omega)).1 (by omega)
theorem nodes_tells (p n e : Int) (hp : 0 ≤ p) (k : Nat) (hk : 50 < k) : bound_Nodes.f k p n e = some (nodesV p n e) := by
  have hl := level_bd e n
  have hg := gen_bd n
  have hc := cap_bd hp
  have hcc := cells_bd p n hp
  unfold bound_Nodes.f
  rw [level_tells e n k hk, gen_eq, cap_eq]
  simp only [Option.bind_some]
  rw [cells_tells p n hp k hk]
  simp only [Option.bind_some]
  rw [show IntKind.u64.wrap (levelV e n) = levelV e n by rw [IntKind.wrap_u64]; omega]
  rw [times_tells _ (by simp; omega) (by simp) k hk]
  simp only [Option.bind_some]
  rw [times_tells _ (by simp; omega) (by simp) k hk]
  simp only [Option.bind_some]
  have b1 : 0 ≤ tm (tm (tm (tm 1 4) (cellsV p n)) (levelV e n)) (gen n + 21) ∧ tm (tm (tm (tm 1 4) (cellsV p n)) (levelV e n)) (gen n + 21) ≤ 4611686018427387904 :=
    tm_bd (tm_bd (tm_bd (tm_bd (by omega) (by omega)).1 hcc.1).1 (by omega)).1 (by omega)
  have b2 : 0 ≤ tm (tm 1 (cap p)) (levelV e n) ∧ tm (tm 1 (cap p)) (levelV e n) ≤ 4611686018427387904 := tm_bd (tm_bd (by omega) hc.1).1 (by omega)
  rw [plus_tells _ (by simp [List.foldl]; omega) (by simp) k hk]
  simp only [Option.bind_some, List.foldl]
  unfold nodesV
  generalize tm (tm (tm (tm 1 4) (cellsV p n)) (levelV e n)) (gen n + 21) = x at *
  generalize tm (tm 1 (cap p)) (levelV e n) = y at *
  rw [cap_id b1.2, cap_id b2.2, cap_id (p := 12000) (by omega), Int.zero_add, cap_id b1.2]
end Go.Proofs.Ytohcigellhnlnaa.blPBoundRises
