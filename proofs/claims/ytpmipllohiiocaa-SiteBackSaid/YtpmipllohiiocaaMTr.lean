/- The walk over tree.build, where it makes no quarters: without points, and at a leaf. -/
import Derived.Test.YtpmipllohiiocaaQTreeBuildsx6
import Derived.Test.YtpmipllohiiocaaMAl
import Derived.Test.YtpmipllohiiocaaQTreeBuildsx10
import Derived.Test.YtpmipllohiiocaaMLb
import Derived.Test.YtpmipllohiiocaaMQq
import Derived.DeepKeys4
import Derived.Maps.OwnSet
import Derived.Maps.RangeWalk
import Derived.Deep.RegionHeld3
namespace Go.Proofs.Ytpmipllohiiocaa.tr
open Go.RowKit Go.Proofs.Ytpmipllohiiocaa.PTreeBuilds Go.Proofs.YtpmipllohiiocaaW.PrintWords Go.Proofs.YtpmipllohiiocaaW.PrintLast Go.Proofs.YtpmipllohiiocaaW.PrintMore

def pw (n : Nat) : Int := 2 ^ n
theorem pw_succ (n : Nat) : pw (n + 1) = 2 * pw n := by unfold pw; rw [Int.pow_succ]; omega
theorem pw_pos : ∀ n, 1 ≤ pw n
  | 0 => by decide
  | n + 1 => by have := pw_pos n; rw [pw_succ]; omega
theorem pw_le {n m : Nat} (h : n ≤ m) : pw n ≤ pw m := by
  induction h with
  | refl => exact Int.le_refl _
  | step _ ih => rename_i k _; have := pw_pos k; rw [pw_succ]; omega
theorem pw44 : pw 44 = 17592186044416 := by decide
theorem pw_bd {n : Nat} (h : n ≤ 44) : 1 ≤ pw n ∧ pw n ≤ 17592186044416 := ⟨pw_pos n, by rw [← pw44]; exact pw_le h⟩
theorem w64 (x : Int) (h : -9223372036854775808 ≤ x ∧ x < 9223372036854775808) : wrap64 x = x := by unfold wrap64; omega
theorem shl_all : (List.range 63).all (fun k => shl .i64 1 (k : Nat) == (2 : Int) ^ k) = true := by decide +kernel
theorem shl_one (k : Nat) (h : k < 63) : shl .i64 1 (k : Int) = pw k := by
  have := List.all_eq_true.1 shl_all k (by simpa using h)
  exact eq_of_beq this
/-- the exponent of a level's half -/
def hx (lv : Int) : Nat := ((mn (mx lv 1) 44) - 1).toNat
theorem hx_le (lv : Int) : hx lv ≤ 43 := by unfold hx mn mx; split <;> split <;> omega
theorem hx_nat (lv : Nat) (h1 : 1 ≤ lv) (h2 : lv ≤ 44) : hx lv = lv - 1 := by unfold hx mn mx; split <;> split <;> omega
theorem half_val (lv : Int) : tree_Half.f lv = some (pw (hx lv)) := by
  have := pw_bd (show hx lv ≤ 44 by have := hx_le lv; omega)
  show some (wrap64 (pw (hx lv))) = _
  rw [w64 _ (by omega)]
/-- is a point in the square from the origin's least point on -/
def Ins (h a b : Int) : Prop := -h ≤ a ∧ a < h ∧ -h ≤ b ∧ b < h
instance (h a b : Int) : Decidable (Ins h a b) := by unfold Ins; infer_instance
theorem inside_val (lv a b : Int) : tree_Inside.f lv a b = some (decide (Ins (pw (hx lv)) a b)) := by
  have hb := pw_bd (show hx lv ≤ 44 by have := hx_le lv; omega)
  unfold tree_Inside.f
  rw [half_val, Option.bind_some, w64 (-pw (hx lv)) (by omega)]
  generalize pw (hx lv) = h at *
  by_cases hi : Ins h a b
  · rw [decide_eq_true hi]
    obtain ⟨h1, h2, h3, h4⟩ := hi
    rw [if_pos (show a ≥ -h from h1), if_pos h2, if_pos (show b ≥ -h from h3), decide_eq_true h4]
  · rw [decide_eq_false hi]
    by_cases h1 : a ≥ -h
    · rw [if_pos h1]
      by_cases h2 : a < h
      · rw [if_pos h2]
        by_cases h3 : b ≥ -h
        · rw [if_pos h3, decide_eq_false (fun h4 => hi ⟨h1, h2, h3, h4⟩)]
        · rw [if_neg h3]
      · rw [if_neg h2]
    · rw [if_neg h1]
theorem origin_val (lv : Int) : tree_origin.f lv = some (-pw (hx lv), -pw (hx lv)) := by
  have hb := pw_bd (show hx lv ≤ 44 by have := hx_le lv; omega)
  unfold tree_origin.f
  rw [half_val, Option.bind_some, Option.bind_some, w64 (-pw (hx lv)) (by omega)]
/-- which quarter of a square of side 2h, and its least point -/
def quart (h la lb a b : Int) : Int × Int × Int :=
  if la + h ≤ a then (if lb + h ≤ b then (3, la + h, lb + h) else (1, la + h, lb)) else (if lb + h ≤ b then (2, la, lb + h) else (0, la, lb))
set_option maxHeartbeats 1000000 in
theorem quarter_walk (n : Nat) (hn : n ≤ 43) (la lb a b : Int) (h1 : -17592186044416 ≤ la ∧ la ≤ 17592186044416) (h2 : -17592186044416 ≤ lb ∧ lb ≤ 17592186044416) (w : World) :
    Calls Try.prog 46 #[.int .i64 ((n : Int) + 1), .agg #[.int .i64 la, .int .i64 lb], .agg #[.int .i64 a, .int .i64 b]] w fun e w' => e = .returned (.tuple #[.int .i64 (quart (pw n) la lb a b).1, .agg #[.int .i64 (quart (pw n) la lb a b).2.1, .int .i64 (quart (pw n) la lb a b).2.2]]) ∧ Below w.heap.size w w' := by
  have hb := pw_bd (show n ≤ 44 by omega)
  have hP : wrap64 ((2 : Int) ^ n) = pw n := w64 _ (by unfold pw at hb; omega)
  have hA : ∃ L1, la + pw n = L1 ∧ wrap64 (la + pw n) = L1 := ⟨_, rfl, w64 _ (by omega)⟩
  have hB : ∃ L2, lb + pw n = L2 ∧ wrap64 (lb + pw n) = L2 := ⟨_, rfl, w64 _ (by omega)⟩
  unfold quart
  generalize pw n = P at *
  obtain ⟨L1, hL1, hA⟩ := hA
  obtain ⟨L2, hL2, hB⟩ := hB
  rw [hL1, hL2]
  clear hL1 hL2 h1 h2 hb
  by_cases ca : L1 ≤ a
  · by_cases cb : L2 ≤ b
    · simp only [if_pos ca, if_pos cb]
      go_enter Try.func46, Try.ntmps46
      go_wp2_with (fail)
      go_region
      go_wp2_with (fail)
      go_region
      go_wp2_with (fail)
      go_region
      go_wp2_with (fail)
      exact bodyPost_ret (v := .tuple #[.int .i64 3, .agg #[.int .i64 L1, .int .i64 L2]]) (by simp [results, Try.results46, go_sem, *]) rfl ⟨rfl, by first | ((repeat' (first | (with_reducible exact Below.refl _ _) | (with_reducible assumption) | (with_reducible refine Below.alloc ?_ ?_ _) | (with_reducible refine Below.drew ?_) | (with_reducible refine Below.setCell ?_ ?_ _) | (with_reducible refine chain ?_ (by assumption) ?_) | go_size)))⟩
    · simp only [if_pos ca, if_neg cb]
      go_enter Try.func46, Try.ntmps46
      go_wp2_with (fail)
      go_region
      go_wp2_with (fail)
      go_region
      go_wp2_with (fail)
      exact bodyPost_ret (v := .tuple #[.int .i64 1, .agg #[.int .i64 L1, .int .i64 lb]]) (by simp [results, Try.results46, go_sem, *]) rfl ⟨rfl, by first | ((repeat' (first | (with_reducible exact Below.refl _ _) | (with_reducible assumption) | (with_reducible refine Below.alloc ?_ ?_ _) | (with_reducible refine Below.drew ?_) | (with_reducible refine Below.setCell ?_ ?_ _) | (with_reducible refine chain ?_ (by assumption) ?_) | go_size)))⟩
  · by_cases cb : L2 ≤ b
    · simp only [if_neg ca, if_pos cb]
      go_enter Try.func46, Try.ntmps46
      go_wp2_with (fail)
      go_region
      go_wp2_with (fail)
      go_region
      go_wp2_with (fail)
      exact bodyPost_ret (v := .tuple #[.int .i64 2, .agg #[.int .i64 la, .int .i64 L2]]) (by simp [results, Try.results46, go_sem, *]) rfl ⟨rfl, by first | ((repeat' (first | (with_reducible exact Below.refl _ _) | (with_reducible assumption) | (with_reducible refine Below.alloc ?_ ?_ _) | (with_reducible refine Below.drew ?_) | (with_reducible refine Below.setCell ?_ ?_ _) | (with_reducible refine chain ?_ (by assumption) ?_) | go_size)))⟩
    · simp only [if_neg ca, if_neg cb]
      go_enter Try.func46, Try.ntmps46
      go_wp2_with (fail)
      go_region
      go_wp2_with (fail)
      exact bodyPost_ret (v := .tuple #[.int .i64 0, .agg #[.int .i64 la, .int .i64 lb]]) (by simp [results, Try.results46, go_sem, *]) rfl ⟨rfl, by first | ((repeat' (first | (with_reducible exact Below.refl _ _) | (with_reducible assumption) | (with_reducible refine Below.alloc ?_ ?_ _) | (with_reducible refine Below.drew ?_) | (with_reducible refine Below.setCell ?_ ?_ _) | (with_reducible refine chain ?_ (by assumption) ?_) | go_size)))⟩
/-- the least multiple of four -/
def lo4 (a : Int) : Int := a - a % 4
end Go.Proofs.Ytpmipllohiiocaa.tr
namespace Go.Proofs.Ytpmipllohiiocaa.tr
open Go.RowKit Go.Proofs.Ytpmipllohiiocaa.PTreeBuilds Go.Proofs.YtpmipllohiiocaaW.PrintWords Go.Proofs.YtpmipllohiiocaaW.PrintLast Go.Proofs.Ytpmipllohiiocaa.lb Go.ChangeShapes Go.WideShapes Go.ChangeAt

theorem state_tells (f a b : Int) (hf : 0 ≤ f ∧ f < 4294967296) (ha : 0 ≤ a ∧ a < 4) (hb : 0 ≤ b ∧ b < 4) : site_Leaf_State.f f a b = some (dig f (4 * b + a).toNat) := by
  unfold site_Leaf_State.f
  have e1 : wrap64 (wrap64 (4 * b) + a) = 4 * b + a := by unfold wrap64; omega
  have e2 : wrap64 (2 * wrap64 (wrap64 (4 * b) + a)) = 2 * (4 * b + a) := by rw [e1]; unfold wrap64; omega
  rw [if_neg (by omega), if_neg (by omega), if_neg (by omega), if_neg (by omega), e2, if_pos (by omega), bs.and3]
  congr 1
  unfold shr dig
  have e3 : min (2 * (4 * b + a)).toNat IntKind.u32.bits = 2 * (4 * b + a).toNat := by
    show min _ 32 = _; omega
  rw [e3, Int.pow_mul]
  have h4 : (2 : Int) ^ 2 = 4 := rfl
  rw [h4]
  have h5 : (0 : Int) < 4 ^ (4 * b + a).toNat := Int.pow_pos (by decide)
  have h6 : 0 ≤ f / 4 ^ (4 * b + a).toNat := Int.ediv_nonneg hf.1 (by omega)
  have h7 : f / 4 ^ (4 * b + a).toNat ≤ f := Int.ediv_le_self _ hf.1
  have e4 : wrap64 (f / 4 ^ (4 * b + a).toNat) = f / 4 ^ (4 * b + a).toNat := by unfold wrap64; omega
  rw [e4]
theorem state_none (f a b : Int) (h : ¬(0 ≤ a ∧ a < 4 ∧ 0 ≤ b ∧ b < 4)) : site_Leaf_State.f f a b = some 0 := by
  unfold site_Leaf_State.f
  by_cases h1 : a < 0
  · rw [if_pos h1]
  · by_cases h2 : a ≥ 4
    · rw [if_neg h1, if_pos h2]
    · by_cases h3 : b < 0
      · rw [if_neg h1, if_neg h2, if_pos h3]
      · rw [if_neg h1, if_neg h2, if_neg h3, if_pos (by omega)]
theorem put_none (f a b s : Int) (h : ¬(0 ≤ a ∧ a < 4 ∧ 0 ≤ b ∧ b < 4)) : site_Leaf_Put.f f a b s = some f := by
  unfold site_Leaf_Put.f
  by_cases h1 : a < 0
  · rw [if_pos h1]
  · by_cases h2 : a ≥ 4
    · rw [if_neg h1, if_pos h2]
    · by_cases h3 : b < 0
      · rw [if_neg h1, if_neg h2, if_pos h3]
      · rw [if_neg h1, if_neg h2, if_neg h3, if_pos (by omega)]
theorem put_tells (f a b s : Int) (ha : 0 ≤ a ∧ a < 4) (hb : 0 ≤ b ∧ b < 4) : site_Leaf_Put.f f a b s = some (putN f (4 * b + a).toNat (s % 4)) := by
  unfold site_Leaf_Put.f
  have e1 : wrap64 (wrap64 (4 * b) + a) = 4 * b + a := by unfold wrap64; omega
  have e2 : wrap64 (2 * wrap64 (wrap64 (4 * b) + a)) = 2 * (4 * b + a) := by rw [e1]; unfold wrap64; omega
  rw [if_neg (by omega), if_neg (by omega), if_neg (by omega), if_neg (by omega), e2, if_pos (by omega), bs.and3]
  congr 1
  unfold putN shl
  have e3 : min (2 * (4 * b + a)).toNat IntKind.u32.bits = 2 * (4 * b + a).toNat := by
    show min _ 32 = _; omega
  have hp : (2 : Int) ^ (2 * (4 * b + a).toNat) ≤ 2 ^ 30 := by exact_mod_cast Nat.pow_le_pow_right (by omega : 0 < 2) (by omega : 2 * (4 * b + a).toNat ≤ 30)
  have hp0 : (0 : Int) < 2 ^ (2 * (4 * b + a).toNat) := Int.pow_pos (by decide)
  have hs : s % 4 = 0 ∨ s % 4 = 1 ∨ s % 4 = 2 ∨ s % 4 = 3 := by omega
  rw [e3, show s % 4 % 4294967296 = s % 4 by omega]
  generalize (2 : Int) ^ (2 * (4 * b + a).toNat) = P at *
  have e4 : IntKind.u32.wrap (3 * P) = 3 * P := by rw [IntKind.wrap_u32]; omega
  have e5 : IntKind.u32.wrap (s % 4 * P) = s % 4 * P := by rw [IntKind.wrap_u32]; rcases hs with h | h | h | h <;> rw [h] <;> omega
  rw [e4, e5]

theorem count_l0 (n : Nat) : ∀ (x : Nat) (k : Nat) (acc : Int), x < 2 ^ 32 → popN 32 x = n → n < k → 0 ≤ acc → acc ≤ 1000 - n → site_Leaf_Count.l0 k (x : Int) acc = some (acc + n) := by
  induction n with
  | zero =>
    intro x k acc hx hp hk h0 h1
    obtain ⟨k, rfl⟩ : ∃ m, k = m + 1 := ⟨k - 1, by omega⟩
    have : x = 0 := by
      by_cases h : 0 < x
      · have := and_pred 32 x h hx; omega
      · omega
    subst this
    simp [site_Leaf_Count.l0]
  | succ n ih =>
    intro x k acc hx hp hk h0 h1
    obtain ⟨k, rfl⟩ : ∃ m, k = m + 1 := ⟨k - 1, by omega⟩
    have hx0 : 0 < x := by
      by_cases h : 0 < x
      · exact h
      · rw [show x = 0 by omega, popN_zero] at hp; omega
    have hand := and_pred 32 x hx0 hx
    have hlt : x &&& (x - 1) < 2 ^ 32 := Nat.lt_of_le_of_lt Nat.and_le_left hx
    have e : Go.bits .and .u32 (x : Int) (((x : Int) - 1) % 4294967296) = ((x &&& (x - 1) : Nat) : Int) := and_pred_u32 x hx0 (by omega)
    simp only [site_Leaf_Count.l0]
    rw [if_neg (by omega), e, show wrap64 (acc + 1) = acc + 1 by unfold wrap64; omega]
    rw [ih (x &&& (x - 1)) k (acc + 1) hlt (by omega) (by omega) (by omega) (by omega)]
    exact congrArg some (by omega)
theorem popN_le (n : Nat) : ∀ x, popN n x ≤ n := by
  induction n with
  | zero => intro x; simp [popN]
  | succ n ih => intro x; have := ih (x / 2); simp only [popN]; omega
theorem count_tells (f : Int) (hf : 0 ≤ f ∧ f < 4294967296) (k : Nat) (hk : 33 < k) : site_Leaf_Count.f k f = some (popN 32 f.toNat : Int) := by
  unfold site_Leaf_Count.f
  have := popN_le 32 f.toNat
  have h := count_l0 _ f.toNat k 0 (by omega) rfl (by omega) (by omega) (by omega)
  rw [show ((f.toNat : Nat) : Int) = f by omega] at h
  rw [h]; simp

/-- the cells of a leaf: by halves, points, rows -/
def cellAt (la lb' : Int) (b a h : Int) : S39 := ⟨⟨la + a, lb' + b⟩, h⟩
def c2 (f la lb' : Int) (b a : Int) : Nat → Int → List S39
  | 0, _ => []
  | d + 1, h => (if bitv f (2 * (4 * b + a).toNat + h.toNat) = 1 then [cellAt la lb' b a h] else []) ++ c2 f la lb' b a d (h + 1)
def c1 (f la lb' : Int) (b : Int) : Nat → Int → List S39
  | 0, _ => []
  | d + 1, a => c2 f la lb' b a 2 0 ++ c1 f la lb' b d (a + 1)
def c0 (f la lb' : Int) : Nat → Int → List S39
  | 0, _ => []
  | d + 1, b => c1 f la lb' b 4 0 ++ c0 f la lb' d (b + 1)
def cells (f la lb' : Int) : List S39 := c0 f la lb' 4 0

theorem half_bit (f b a h : Int) (hh : 0 ≤ h ∧ h < 2) : (Go.bits .and .i64 (shr .i64 (dig f (4 * b + a).toNat) h) 1 = 1) ↔ bitv f (2 * (4 * b + a).toNat + h.toNat) = 1 := by
  have hd := dig_bd f (4 * b + a).toNat
  have hb := dig_bits f (4 * b + a).toNat
  rw [bs.and1]
  have hh2 : h = 0 ∨ h = 1 := by omega
  rcases hh2 with rfl | rfl
  · have e : shr .i64 (dig f (4 * b + a).toNat) 0 = dig f (4 * b + a).toNat := by unfold shr; simp
    rw [e, hb.1]; simp
  · have e : shr .i64 (dig f (4 * b + a).toNat) 1 = dig f (4 * b + a).toNat / 2 := by
      unfold shr
      rw [show min (1 : Int).toNat IntKind.i64.bits = 1 from rfl]; simp
    have hb2 := hb.2
    rw [e, show (1 : Int).toNat = 1 from rfl, ← hb2]; omega

theorem l2_tells (f la lb' : Int) (hf : 0 ≤ f ∧ f < 4294967296) (hla : -4611686018427387908 ≤ la ∧ la ≤ 4611686018427387908) (hlb : -4611686018427387908 ≤ lb' ∧ lb' ≤ 4611686018427387908)
    (b a : Int) (hb : 0 ≤ b ∧ b < 4) (ha : 0 ≤ a ∧ a < 4) (m d : Nat) :
    ∀ (h : Int) (acc : List S39), 0 ≤ h → h ≤ 2 → (2 - h).toNat = d → acc.length ≤ 100 + h.toNat →
      site_Leaf_Cells.l2 (m + d + 1) f acc b a b a h la lb' = site_Leaf_Cells.l1 m f (acc ++ c2 f la lb' b a d h) b b (a + 1) la lb' := by
  induction d with
  | zero =>
    intro h acc h0 h1 hd hl
    simp only [site_Leaf_Cells.l2]
    rw [if_neg (by omega), show wrap64 (a + 1) = a + 1 by unfold wrap64; omega]
    simp [c2]
  | succ d ih =>
    intro h acc h0 h1 hd hl
    rw [show m + (d + 1) + 1 = (m + d + 1) + 1 by omega]
    have IH := ih (h + 1)
    generalize m + d + 1 = K at IH ⊢
    simp only [site_Leaf_Cells.l2]
    rw [if_pos (by omega), state_tells f a b hf ha hb]
    simp only [Option.bind_some]
    rw [if_pos h0, show wrap64 (h + 1) = h + 1 by unfold wrap64; omega]
    have hbit := half_bit f b a h ⟨h0, by omega⟩
    have ea : wrap64 (la + a) = la + a := by unfold wrap64; omega
    have eb : wrap64 (lb' + b) = lb' + b := by unfold wrap64; omega
    by_cases hc : bitv f (2 * (4 * b + a).toNat + h.toNat) = 1
    · rw [if_pos (hbit.2 hc), if_pos (by omega), ea, eb]
      rw [IH (acc ++ [(⟨(⟨la + a, lb' + b⟩ : S32), h⟩ : S39)]) (by omega) (by omega) (by omega) (by simp; omega)]
      simp [c2, hc, cellAt]
    · rw [if_neg (fun q => hc (hbit.1 q))]
      rw [IH acc (by omega) (by omega) (by omega) (by omega)]
      simp [c2, hc]
theorem c2_len (f la lb' b a : Int) (d : Nat) : ∀ h, (c2 f la lb' b a d h).length ≤ d := by
  induction d with
  | zero => intro h; simp [c2]
  | succ d ih => intro h; have := ih (h + 1); simp only [c2]; split <;> simp <;> omega
theorem c1_len (f la lb' b : Int) (d : Nat) : ∀ a, (c1 f la lb' b d a).length ≤ 2 * d := by
  induction d with
  | zero => intro h; simp [c1]
  | succ d ih => intro a; have := ih (a + 1); have := c2_len f la lb' b a 2 0; simp only [c1, List.length_append]; omega
theorem l1_tells (f la lb' : Int) (hf : 0 ≤ f ∧ f < 4294967296) (hla : -4611686018427387908 ≤ la ∧ la ≤ 4611686018427387908) (hlb : -4611686018427387908 ≤ lb' ∧ lb' ≤ 4611686018427387908)
    (b : Int) (hb : 0 ≤ b ∧ b < 4) (m d : Nat) :
    ∀ (a : Int) (acc : List S39), 0 ≤ a → a ≤ 4 → (4 - a).toNat = d → acc.length ≤ 60 + 2 * a.toNat →
      site_Leaf_Cells.l1 (m + 4 * d + 1) f acc b b a la lb' = site_Leaf_Cells.l0 m f (acc ++ c1 f la lb' b d a) (b + 1) la lb' := by
  induction d with
  | zero =>
    intro a acc h0 h1 hd hl
    simp only [site_Leaf_Cells.l1]
    rw [if_neg (by omega), show wrap64 (b + 1) = b + 1 by unfold wrap64; omega]
    simp [c1]
  | succ d ih =>
    intro a acc h0 h1 hd hl
    have h2 := l2_tells f la lb' hf hla hlb b a hb ⟨h0, by omega⟩ (m + 4 * d + 1) 2 0 acc (by omega) (by omega) (by omega) (by omega)
    have hlen := c2_len f la lb' b a 2 0
    have IH := ih (a + 1) (acc ++ c2 f la lb' b a 2 0) (by omega) (by omega) (by omega) (by simp; omega)
    rw [show m + 4 * (d + 1) + 1 = (m + 4 * d + 1 + 2 + 1) + 1 by omega]
    generalize m + 4 * d + 1 = K at h2 IH ⊢
    generalize hK : K + 2 + 1 = K2 at h2 ⊢
    simp only [site_Leaf_Cells.l1]
    rw [if_pos (by omega), h2, IH]
    simp [c1]
theorem l0_tells (f la lb' : Int) (hf : 0 ≤ f ∧ f < 4294967296) (hla : -4611686018427387908 ≤ la ∧ la ≤ 4611686018427387908) (hlb : -4611686018427387908 ≤ lb' ∧ lb' ≤ 4611686018427387908) (m d : Nat) :
    ∀ (b : Int) (acc : List S39), 0 ≤ b → b ≤ 4 → (4 - b).toNat = d → acc.length ≤ 8 * b.toNat →
      site_Leaf_Cells.l0 (m + 18 * d + 1) f acc b la lb' = some (acc ++ c0 f la lb' d b) := by
  induction d with
  | zero =>
    intro b acc h0 h1 hd hl
    simp only [site_Leaf_Cells.l0]
    rw [if_neg (by omega)]
    simp [c0]
  | succ d ih =>
    intro b acc h0 h1 hd hl
    have h2 := l1_tells f la lb' hf hla hlb b ⟨h0, by omega⟩ (m + 18 * d + 1) 4 0 acc (by omega) (by omega) (by omega) (by omega)
    have hlen := c1_len f la lb' b 4 0
    have IH := ih (b + 1) (acc ++ c1 f la lb' b 4 0) (by omega) (by omega) (by omega) (by simp; omega)
    rw [show m + 18 * (d + 1) + 1 = (m + 18 * d + 1 + 4 * 4 + 1) + 1 by omega]
    generalize m + 18 * d + 1 = K at h2 IH ⊢
    generalize hK : K + 4 * 4 + 1 = K2 at h2 ⊢
    simp only [site_Leaf_Cells.l0]
    rw [if_pos (by omega), h2, IH]
    simp [c0]
theorem cells_tells (f la lb' : Int) (hf : 0 ≤ f ∧ f < 4294967296) (hla : -4611686018427387908 ≤ la ∧ la ≤ 4611686018427387908) (hlb : -4611686018427387908 ≤ lb' ∧ lb' ≤ 4611686018427387908) (k : Nat) (hk : 73 ≤ k) :
    site_Leaf_Cells.f k f la lb' = some (cells f la lb') := by
  obtain ⟨m, rfl⟩ : ∃ m, k = m + 18 * 4 + 1 := ⟨k - 73, by omega⟩
  unfold site_Leaf_Cells.f
  rw [l0_tells f la lb' hf hla hlb m 4 0 [] (by omega) (by omega) (by omega) (by simp)]
  simp [cells]
theorem mem_c2 (f la lb' b a : Int) (d : Nat) : ∀ h, ∀ c, c ∈ c2 f la lb' b a d h ↔ ∃ h', h ≤ h' ∧ h' < h + d ∧ bitv f (2 * (4 * b + a).toNat + h'.toNat) = 1 ∧ c = cellAt la lb' b a h' := by
  induction d with
  | zero => intro h c; simp [c2]; intro x _ _; omega
  | succ d ih =>
    intro h c
    simp only [c2, List.mem_append, ih (h + 1) c]
    constructor
    · rintro (hc | ⟨h', h1, h2, h3, h4⟩)
      · split at hc
        · simp at hc; exact ⟨h, by omega, by omega, ‹_›, hc⟩
        · simp at hc
      · exact ⟨h', by omega, by omega, h3, h4⟩
    · rintro ⟨h', h1, h2, h3, h4⟩
      by_cases e : h' = h
      · subst e; left; rw [if_pos h3]; simp [h4]
      · right; exact ⟨h', by omega, by omega, h3, h4⟩
theorem mem_c1 (f la lb' b : Int) (d : Nat) : ∀ a, ∀ c, c ∈ c1 f la lb' b d a ↔ ∃ a' h', a ≤ a' ∧ a' < a + d ∧ 0 ≤ h' ∧ h' < 2 ∧ bitv f (2 * (4 * b + a').toNat + h'.toNat) = 1 ∧ c = cellAt la lb' b a' h' := by
  induction d with
  | zero => intro h c; simp [c1]; intro x; omega
  | succ d ih =>
    intro a c
    simp only [c1, List.mem_append, ih (a + 1) c, mem_c2]
    constructor
    · rintro (⟨h', h1, h2, h3, h4⟩ | ⟨a', h', h1, h2, h3, h4, h5, h6⟩)
      · exact ⟨a, h', by omega, by omega, by omega, by omega, h3, h4⟩
      · exact ⟨a', h', by omega, by omega, h3, h4, h5, h6⟩
    · rintro ⟨a', h', h1, h2, h3, h4, h5, h6⟩
      by_cases e : a' = a
      · subst e; left; exact ⟨h', by omega, by omega, h5, h6⟩
      · right; exact ⟨a', h', by omega, by omega, h3, h4, h5, h6⟩
theorem mem_c0 (f la lb' : Int) (d : Nat) : ∀ b, ∀ c, c ∈ c0 f la lb' d b ↔ ∃ b' a' h', b ≤ b' ∧ b' < b + d ∧ 0 ≤ a' ∧ a' < 4 ∧ 0 ≤ h' ∧ h' < 2 ∧ bitv f (2 * (4 * b' + a').toNat + h'.toNat) = 1 ∧ c = cellAt la lb' b' a' h' := by
  induction d with
  | zero => intro h c; simp [c0]; intro x; omega
  | succ d ih =>
    intro b c
    simp only [c0, List.mem_append, ih (b + 1) c, mem_c1]
    constructor
    · rintro (⟨a', h', h1, h2, h3⟩ | ⟨b', a', h', h1, h2, h3⟩)
      · exact ⟨b, a', h', by omega, by omega, h1, by omega, h3⟩
      · exact ⟨b', a', h', by omega, by omega, h3⟩
    · rintro ⟨b', a', h', h1, h2, h3, h4, h5⟩
      by_cases e : b' = b
      · subst e; left; exact ⟨a', h', h3, by omega, h5⟩
      · right; exact ⟨b', a', h', by omega, by omega, h3, h4, h5⟩
theorem mem_cells (f la lb' : Int) (c : S39) : c ∈ cells f la lb' ↔ ∃ b a h, 0 ≤ b ∧ b < 4 ∧ 0 ≤ a ∧ a < 4 ∧ 0 ≤ h ∧ h < 2 ∧ bitv f (2 * (4 * b + a).toNat + h.toNat) = 1 ∧ c = cellAt la lb' b a h := by
  unfold cells
  rw [mem_c0]
  simp
def tail (f la lb' : Int) : Nat → Nat → List S39
  | 0, _ => []
  | d + 1, i => c2 f la lb' (i / 4 : Nat) (i % 4 : Nat) 2 0 ++ tail f la lb' d (i + 1)
theorem tail_cells (f la lb' : Int) : tail f la lb' 16 0 = cells f la lb' := by
  simp [tail, cells, c0, c1]
theorem tail_len (f la lb' : Int) (hf : 0 ≤ f) (d : Nat) : ∀ i : Nat, ((tail f la lb' d i).length : Int) = (popN (2 * d) (f / 4 ^ i).toNat : Int) := by
  induction d with
  | zero => intro i; rfl
  | succ d ih =>
    intro i
    have h := ih (i + 1)
    have hb := dig_bits f i
    have hp : (0 : Int) < 4 ^ i := Int.pow_pos (by decide)
    have e1 : f / 4 ^ (i + 1) = f / 4 ^ i / 4 := by rw [Int.pow_succ, Int.ediv_ediv_of_nonneg (by omega)]
    have h0 : 0 ≤ f / 4 ^ i := Int.ediv_nonneg (by omega) (by omega)
    have ei : (4 * ((i / 4 : Nat) : Int) + ((i % 4 : Nat) : Int)).toNat = i := by omega
    have hd : dig f i = (f / 4 ^ i) % 4 := rfl
    rw [e1] at h
    have hpop : (popN (2 * (d + 1)) (f / 4 ^ i).toNat : Int) = bitv f (2 * i) + bitv f (2 * i + 1) + popN (2 * d) (f / 4 ^ i / 4).toNat := by
      rw [show 2 * (d + 1) = 2 * d + 1 + 1 by omega]
      simp only [popN]
      rw [← hb.1, ← hb.2, hd, show ((f / 4 ^ i).toNat / 2 / 2) = (f / 4 ^ i / 4).toNat by omega]
      omega
    have b0 : bitv f (2 * i) = 0 ∨ bitv f (2 * i) = 1 := by unfold bitv; omega
    have b1 : bitv f (2 * i + 1) = 0 ∨ bitv f (2 * i + 1) = 1 := by unfold bitv; omega
    have hc : ((c2 f la lb' (i / 4 : Nat) (i % 4 : Nat) 2 0).length : Int) = bitv f (2 * i) + bitv f (2 * i + 1) := by
      simp only [c2, ei, show (0 : Int).toNat = 0 from rfl, show (0 + 1 : Int).toNat = 1 from rfl, Nat.add_zero]
      rcases b0 with h0 | h0 <;> rcases b1 with h1 | h1 <;> simp [h0, h1]
    rw [hpop, ← h]
    simp only [tail, List.length_append]
    omega
theorem cells_len (f la lb' : Int) (hf : 0 ≤ f) : ((cells f la lb').length : Int) = popN 32 f.toNat := by
  rw [← tail_cells]
  simpa using tail_len f la lb' hf 16 0

/-- the leaf after a put -/
def putv (f a b s : Int) : Int := if 0 ≤ a ∧ a < 4 ∧ 0 ≤ b ∧ b < 4 then putN f (4 * b + a).toNat (s % 4) else f
theorem putv_some (f a b s : Int) : site_Leaf_Put.f f a b s = some (putv f a b s) := by
  unfold putv
  by_cases h : 0 ≤ a ∧ a < 4 ∧ 0 ≤ b ∧ b < 4
  · rw [if_pos h, put_tells f a b s ⟨h.1, h.2.1⟩ h.2.2]
  · rw [if_neg h, put_none f a b s h]
/-- the state after With -/
def stateW (s h : Int) (live : Bool) : Int := if live then Go.bits .or .i64 (Go.bits .andNot .i64 s (wrap64 (2 ^ h.toNat))) (wrap64 (2 ^ h.toNat)) else Go.bits .andNot .i64 s (wrap64 (2 ^ h.toNat))
def stateV (f a b : Int) : Int := if 0 ≤ a ∧ a < 4 ∧ 0 ≤ b ∧ b < 4 then dig f (4 * b + a).toNat else 0
theorem stateV_some (f a b : Int) (hf : 0 ≤ f ∧ f < 4294967296) : site_Leaf_State.f f a b = some (stateV f a b) := by
  unfold stateV
  by_cases h : 0 ≤ a ∧ a < 4 ∧ 0 ≤ b ∧ b < 4
  · rw [if_pos h, state_tells f a b hf ⟨h.1, h.2.1⟩ h.2.2]
  · rw [if_neg h, state_none f a b h]
def lowOf (a : Int) : Int := Go.bits .andNot .i64 a 3
def withV (f ca cb h : Int) (live : Bool) : Int :=
  putv f (wrap64 (ca - lowOf ca)) (wrap64 (cb - lowOf cb)) (stateW (stateV f (wrap64 (ca - lowOf ca)) (wrap64 (cb - lowOf cb))) h live)

theorem state_walk (f a b : Int) (w : World) (n : Nat) (hf : 0 ≤ f ∧ f < 4294967296) :
    Calls Try.prog 29 #[.int .u32 f, .int .i64 a, .int .i64 b] (w.drewN n) fun e w' => e = .returned (.int .i64 (stateV f a b)) ∧ ∃ m, w' = w.drewN m :=
  (site_Leaf_State.calls f a b _ (w.drewN n) (stateV_some f a b hf)).mono fun _ _ ⟨he, hd⟩ => ⟨he, by obtain ⟨m, rfl⟩ := hd.out; exact ⟨n + m, by rw [World.drewN_drewN]⟩⟩
theorem put_walk (f a b s : Int) (w : World) :
    Calls Try.prog 28 #[.int .u32 f, .int .i64 a, .int .i64 b, .int .i64 s] w fun e w' => e = .returned (.int .u32 (putv f a b s)) ∧ Below w.heap.size w w' :=
  (site_Leaf_Put.calls f a b s _ w (putv_some f a b s)).mono fun _ _ ⟨he, hd⟩ => ⟨he, hd.below⟩
set_option maxHeartbeats 4000000 in
theorem with_walk (f ca cb h : Int) (live : Bool) (w : World) (hf : 0 ≤ f ∧ f < 4294967296) (hh : 0 ≤ h ∧ h < 2) :
    Calls Try.prog 32 #[.int .u32 f, .agg #[.int .i64 ca, .int .i64 cb, .int .i64 h], .bool live] w fun e w' => e = .returned (.int .u32 (withV f ca cb h live)) ∧ Below w.heap.size w w' := by
  have hh0 := hh.1
  go_enter Try.func32, Try.ntmps32
  go_wp2
  go_quiet (fail)
  go_wp2
  have hz : w.heap.size < ((((w.alloc (.cells #[.int .i64 ca, .int .i64 cb, .int .i64 h] 39)).alloc (.cells #[.int .i64 ca, .int .i64 cb] 32)).alloc (.cells #[.int .i64 (lowOf ca), .int .i64 (lowOf cb)] 32)).alloc (.cells #[.int .i64 (lowOf ca), .int .i64 (lowOf cb)] 32)).heap.size := by go_size
  have hc : (((((w.alloc (.cells #[.int .i64 ca, .int .i64 cb, .int .i64 h] 39)).alloc (.cells #[.int .i64 ca, .int .i64 cb] 32)).alloc (.cells #[.int .i64 (lowOf ca), .int .i64 (lowOf cb)] 32)).alloc (.cells #[.int .i64 (lowOf ca), .int .i64 (lowOf cb)] 32)).drewN nq).cell? ⟨w.heap.size, 2, none⟩ = some (.int .i64 h) := by simp (maxDischargeDepth := 6) [go_sem, *]
  have hb : Below w.heap.size w (((((w.alloc (.cells #[.int .i64 ca, .int .i64 cb, .int .i64 h] 39)).alloc (.cells #[.int .i64 ca, .int .i64 cb] 32)).alloc (.cells #[.int .i64 (lowOf ca), .int .i64 (lowOf cb)] 32)).alloc (.cells #[.int .i64 (lowOf ca), .int .i64 (lowOf cb)] 32)).drewN nq) := below_drewN (by (repeat' (first | (with_reducible exact Below.refl _ _) | (with_reducible assumption) | (with_reducible refine Below.alloc ?_ ?_ _) | (with_reducible refine Below.drew ?_) | (with_reducible refine Below.setCell ?_ ?_ _) | (with_reducible refine chain ?_ (by assumption) ?_) | go_size))) _
  unfold lowOf at hz hc hb
  generalize (((((w.alloc (.cells #[.int .i64 ca, .int .i64 cb, .int .i64 h] 39)).alloc (.cells #[.int .i64 ca, .int .i64 cb] 32)).alloc (.cells #[.int .i64 (Go.bits .andNot .i64 ca 3), .int .i64 (Go.bits .andNot .i64 cb 3)] 32)).alloc (.cells #[.int .i64 (Go.bits .andNot .i64 ca 3), .int .i64 (Go.bits .andNot .i64 cb 3)] 32)).drewN nq) = W2 at hc hb ⊢
  go_quiet ((go_at_call 29; exact state_walk _ _ _ _ _ hf))
  go_wp2_with (fail)
  all_goals
    refine (put_walk _ _ _ _ _).mono ?_; rintro e w3 ⟨rfl, hb3⟩
    go_wp2_with (fail)
    go_ret
    refine ⟨?_, below_step (below_drewN hb _) hb3⟩
    rename_i hl
    simp [withV, stateW, lowOf, hl]
theorem split_mask (X M : BitVec 64) : (X &&& ~~~M) + (X &&& M) = X := by
  have h0 : (X &&& ~~~M) &&& (X &&& M) = 0#64 := by
    ext i hi
    simp
    intros
    simp_all
  rw [BitVec.add_eq_or_of_and_eq_zero _ _ h0]
  ext i hi
  simp
  cases X[i] <;> cases M[i] <;> rfl
theorem lowOf_eq (a : Int) (ha : -4611686018427387904 ≤ a ∧ a ≤ 4611686018427387904) : lowOf a = a - a % 4 := by
  have hand : IntKind.i64.wrap ((BitVec.ofInt 64 a &&& BitVec.ofInt 64 3).toNat : Int) = a % 4 := bs.and3 a
  show IntKind.i64.wrap ((BitVec.ofInt 64 a &&& ~~~BitVec.ofInt 64 3).toNat : Int) = a - a % 4
  have key := congrArg BitVec.toNat (split_mask (BitVec.ofInt 64 a) (BitVec.ofInt 64 3))
  rw [BitVec.toNat_add, BitVec.toNat_ofInt] at key
  rw [IntKind.wrap_i64] at hand ⊢
  omega
theorem stateW_all : ∀ s : Fin 4, stateW (s.val : Int) 0 true % 4 = (s.val : Int) / 2 * 2 + 1 ∧ stateW (s.val : Int) 0 false % 4 = (s.val : Int) / 2 * 2 ∧ stateW (s.val : Int) 1 true % 4 = (s.val : Int) % 2 + 2 ∧ stateW (s.val : Int) 1 false % 4 = (s.val : Int) % 2 := by decide +kernel
theorem stateW_tells (s h : Int) (hs : 0 ≤ s ∧ s ≤ 3) (hh : 0 ≤ h ∧ h < 2) :
    (stateW s h true % 4 = if h = 0 then s / 2 * 2 + 1 else s % 2 + 2) ∧ (stateW s h false % 4 = if h = 0 then s / 2 * 2 else s % 2) := by
  obtain ⟨n, rfl⟩ : ∃ n : Nat, s = n := ⟨s.toNat, by omega⟩
  have := stateW_all ⟨n, by omega⟩
  obtain ⟨h1, h2, h3, h4⟩ := this
  have : h = 0 ∨ h = 1 := by omega
  rcases this with rfl | rfl
  · exact ⟨by rw [if_pos rfl]; exact h1, by rw [if_pos rfl]; exact h2⟩
  · exact ⟨by rw [if_neg (by decide)]; exact h3, by rw [if_neg (by decide)]; exact h4⟩
theorem withV_bd (f ca cb h : Int) (live : Bool) (hf : 0 ≤ f ∧ f < 4294967296) : 0 ≤ withV f ca cb h live ∧ withV f ca cb h live < 4294967296 := by
  unfold withV putv
  split
  · rename_i hc
    exact (putN_tells f _ _ hf (by omega) (by omega)).1
  · exact hf
theorem withV_eq (f A B h : Int) (live : Bool) (hA : -4611686018427387904 ≤ A ∧ A ≤ 4611686018427387904) (hB : -4611686018427387904 ≤ B ∧ B ≤ 4611686018427387904) :
    withV f A B h live = putN f (4 * (B % 4) + A % 4).toNat (stateW (dig f (4 * (B % 4) + A % 4).toNat) h live % 4) := by
  unfold withV
  rw [lowOf_eq A hA, lowOf_eq B hB, show A - (A - A % 4) = A % 4 by omega, show B - (B - B % 4) = B % 4 by omega, w64 _ (by omega), w64 _ (by omega)]
  unfold putv stateV
  rw [if_pos (by omega), if_pos (by omega)]
theorem pop_same (n : Nat) : ∀ x y : Nat, (∀ j, j < n → bitv x j = bitv y j) → popN n x = popN n y := by
  induction n with
  | zero => intros; rfl
  | succ n ih =>
    intro x y h
    have h0 := h 0 (by omega)
    have hs := ih (x / 2) (y / 2) (fun j hj => by
      have := h (j + 1) (by omega)
      unfold bitv at *
      rw [Int.pow_succ', ← Int.ediv_ediv_of_nonneg (by omega : (0 : Int) ≤ 2), ← Int.ediv_ediv_of_nonneg (by omega : (0 : Int) ≤ 2)] at this
      exact_mod_cast this)
    have e1 := popN_int n x
    have e2 := popN_int n y
    unfold bitv at h0
    simp at h0
    omega
theorem pop_more (n : Nat) : ∀ (k : Nat) (x y : Nat), k < n → (∀ j, j < n → j ≠ k → bitv x j = bitv y j) → bitv x k = 1 → bitv y k = 0 → popN n x = popN n y + 1 := by
  induction n with
  | zero => intro k x y hk; omega
  | succ n ih =>
    intro k x y hk h h1 h2
    have half (z j : Nat) : bitv (z : Int) (j + 1) = bitv ((z / 2 : Nat) : Int) j := by
      unfold bitv
      rw [Int.pow_succ', ← Int.ediv_ediv_of_nonneg (by omega : (0 : Int) ≤ 2)]
      rfl
    have e1 := popN_int n x
    have e2 := popN_int n y
    cases k with
    | zero =>
      have hs := pop_same n (x / 2) (y / 2) (fun j hj => by rw [← half, ← half]; exact h (j + 1) (by omega) (by omega))
      unfold bitv at h1 h2
      simp at h1 h2
      omega
    | succ k =>
      have hs := ih k (x / 2) (y / 2) (by omega) (fun j hj hne => by rw [← half, ← half]; exact h (j + 1) (by omega) (by omega)) (by rw [← half]; exact h1) (by rw [← half]; exact h2)
      have h0 := h 0 (by omega) (by omega)
      unfold bitv at h0
      simp at h0
      omega
end Go.Proofs.Ytpmipllohiiocaa.tr
namespace Go.Proofs.Ytpmipllohiiocaa.tr
open Go.RowKit Go.Proofs.Ytpmipllohiiocaa.PTreeBuilds Go.Proofs.YtpmipllohiiocaaW.PrintWords Go.Proofs.YtpmipllohiiocaaW.PrintLast Go.Proofs.Ytpmipllohiiocaa.lb Go.Proofs.Ytpmipllohiiocaa.ar

abbrev Cl := S39
/-- a cell with a good half, its coordinates far from the ends -/
structure ClOk (c : Cl) : Prop where
  a : -4611686018427387904 ≤ c.f0.f0 ∧ c.f0.f0 ≤ 4611686018427387904
  b : -4611686018427387904 ≤ c.f0.f1 ∧ c.f0.f1 ≤ 4611686018427387904
  h : 0 ≤ c.f1 ∧ c.f1 < 2
/-- which bit of its leaf a cell is -/
def bitNo (A B h : Int) : Nat := (8 * (B % 4) + 2 * (A % 4) + h).toNat
theorem with_bits (f A B h : Int) (hf : 0 ≤ f ∧ f < 4294967296) (hA : -4611686018427387904 ≤ A ∧ A ≤ 4611686018427387904) (hB : -4611686018427387904 ≤ B ∧ B ≤ 4611686018427387904) (hh : 0 ≤ h ∧ h < 2) (live : Bool) (j : Nat) (hj : j < 32) :
    bitv (withV f A B h live) j = if j = bitNo A B h then (if live then 1 else 0) else bitv f j := by
  have e1 := withV_eq f A B h live hA hB
  obtain ⟨k, hk⟩ : ∃ k : Nat, k = (4 * (B % 4) + A % 4).toNat := ⟨_, rfl⟩
  have hk16 : k < 16 := by omega
  rw [← hk] at e1
  have hd := dig_bd f k
  have hw := stateW_tells (dig f k) h hd hh
  have p1 := putN_tells f k (stateW (dig f k) h live % 4) hf hk16 (by omega)
  rw [← e1] at p1
  have i1 := p1.2 (j / 2) (by omega)
  have q1 := dig_bits (withV f A B h live) (j / 2)
  have q0 := dig_bits f (j / 2)
  generalize withV f A B h live = fi at *
  have hb : bitNo A B h = 2 * k + h.toNat := by unfold bitNo; omega
  rw [hb]
  by_cases hjk : j / 2 = k
  · rw [if_pos hjk] at i1
    rw [hjk] at q1 q0 i1
    have hh2 : h = 0 ∨ h = 1 := by omega
    have hs : stateW (dig f k) h live % 4 = if h = 0 then dig f k / 2 * 2 + (if live then 1 else 0) else dig f k % 2 + (if live then 2 else 0) := by
      cases live
      · rw [hw.2]; split <;> simp
      · rw [hw.1]; split <;> simp
    rw [hs] at i1
    rcases (by omega : j = 2 * k ∨ j = 2 * k + 1) with e | e <;> rcases hh2 with rfl | rfl
    · rw [if_pos rfl] at i1
      rw [if_pos (by simpa using e), e, ← q1.1, i1]
      cases live <;> simp <;> omega
    · rw [if_neg (by decide)] at i1
      rw [if_neg (by simp; omega), e, ← q1.1, ← q0.1, i1]
      cases live <;> simp <;> omega
    · rw [if_pos rfl] at i1
      rw [if_neg (by simp; omega), e, ← q1.2, ← q0.2, i1]
      cases live <;> simp <;> omega
    · rw [if_neg (by decide)] at i1
      rw [if_pos (by simpa using e), e, ← q1.2, i1]
      cases live <;> simp <;> omega
  · rw [if_neg hjk] at i1
    rw [if_neg (by omega)]
    rcases (by omega : j = 2 * (j / 2) ∨ j = 2 * (j / 2) + 1) with e | e
    · rw [e, ← q1.1, ← q0.1, i1]
    · rw [e, ← q1.2, ← q0.2, i1]
/-- one cell more -/
def Gstep (G : Int → Int → Int) (c : Cl) : Int → Int → Int := fun a b => if a = lowOf c.f0.f0 ∧ b = lowOf c.f0.f1 then withV (G a b) c.f0.f0 c.f0.f1 c.f1 true else G a b
/-- the leaves of some cells -/
def Gl (cs : List Cl) : Int → Int → Int := cs.foldl Gstep (fun _ _ => 0)
theorem Gl_snoc (cs : List Cl) (c : Cl) : Gl (cs ++ [c]) = Gstep (Gl cs) c := by unfold Gl; rw [List.foldl_append]; rfl
theorem Gl_bd (cs : List Cl) : ∀ a b, 0 ≤ Gl cs a b ∧ Gl cs a b < 4294967296 := by
  have key : ∀ (l : List Cl) (G : Int → Int → Int), (∀ a b, 0 ≤ G a b ∧ G a b < 4294967296) → ∀ a b, 0 ≤ l.foldl Gstep G a b ∧ l.foldl Gstep G a b < 4294967296 := by
    intro l
    induction l with
    | nil => intro G h a b; exact h a b
    | cons c l ih =>
      intro G h a b
      refine ih _ (fun a b => ?_) a b
      unfold Gstep
      split
      · exact withV_bd _ _ _ _ _ (h a b)
      · exact h a b
  exact key cs _ (fun _ _ => ⟨by decide, by decide⟩)
theorem bit_zero (j : Nat) : bitv 0 j = 0 := by unfold bitv; simp
theorem Gstep_bits (G : Int → Int → Int) (c : Cl) (hc : ClOk c) (a b : Int) (hG : 0 ≤ G a b ∧ G a b < 4294967296) (j : Nat) (hj : j < 32) :
    bitv (Gstep G c a b) j = 1 ↔ ((c.f0.f0 - c.f0.f0 % 4 = a ∧ c.f0.f1 - c.f0.f1 % 4 = b ∧ j = bitNo c.f0.f0 c.f0.f1 c.f1) ∨ bitv (G a b) j = 1) := by
  unfold Gstep
  rw [lowOf_eq _ hc.a, lowOf_eq _ hc.b]
  split
  · rename_i h
    rw [with_bits _ _ _ _ hG hc.a hc.b hc.h true j hj]
    by_cases e : j = bitNo c.f0.f0 c.f0.f1 c.f1
    · rw [if_pos e]
      simp
      left
      exact ⟨h.1.symm, h.2.symm, e⟩
    · rw [if_neg e]
      exact ⟨Or.inr, fun hh => hh.elim (fun h3 => absurd h3.2.2 e) id⟩
  · rename_i h
    exact ⟨Or.inr, fun hh => hh.elim (fun h3 => absurd ⟨h3.1.symm, h3.2.1.symm⟩ h) id⟩
theorem Gl_bits (cs : List Cl) (hcs : ∀ c ∈ cs, ClOk c) (a b : Int) (j : Nat) (hj : j < 32) :
    bitv (Gl cs a b) j = 1 ↔ ∃ c ∈ cs, c.f0.f0 - c.f0.f0 % 4 = a ∧ c.f0.f1 - c.f0.f1 % 4 = b ∧ j = bitNo c.f0.f0 c.f0.f1 c.f1 := by
  have key : ∀ (n : Nat) (l : List Cl), l.length = n → (∀ c ∈ l, ClOk c) → (bitv (Gl l a b) j = 1 ↔ ∃ c ∈ l, c.f0.f0 - c.f0.f0 % 4 = a ∧ c.f0.f1 - c.f0.f1 % 4 = b ∧ j = bitNo c.f0.f0 c.f0.f1 c.f1) := by
    intro n
    induction n with
    | zero =>
      intro l hl h
      obtain rfl := List.length_eq_zero_iff.1 hl
      show bitv 0 j = 1 ↔ _
      rw [bit_zero]
      simp
    | succ n ih =>
      intro l hl h
      obtain ⟨l', c, rfl⟩ : ∃ l' c, l = l' ++ [c] := ⟨l.dropLast, l.getLast (by intro e; rw [e] at hl; simp at hl), (List.dropLast_concat_getLast _).symm⟩
      rw [Gl_snoc, Gstep_bits _ _ (h c (by simp)) _ _ (Gl_bd l' a b) j hj, ih l' (by simp at hl; omega) (fun x hx => h x (by simp [hx]))]
      constructor
      · rintro (h1 | ⟨x, hx, h1⟩)
        · exact ⟨c, by simp, h1⟩
        · exact ⟨x, by simp [hx], h1⟩
      · rintro ⟨x, hx, h1⟩
        rw [List.mem_append, List.mem_singleton] at hx
        rcases hx with hx | rfl
        · exact Or.inr ⟨x, hx, h1⟩
        · exact Or.inl h1
  exact key _ cs rfl hcs
theorem bits_zero (f : Int) (hf : 0 ≤ f ∧ f < 4294967296) (h : ∀ j, j < 32 → bitv f j ≠ 1) : f = 0 := by
  have := ext_bits f.toNat 0 (by omega) (by omega) (fun j hj => by
    have h1 := h j hj
    have h2 := bitv_bd f j
    rw [Int.toNat_of_nonneg hf.1, show ((0 : Nat) : Int) = 0 from rfl, bit_zero]
    omega)
  omega
/-- a leaf is there just if one of the cells is in it -/
theorem Gl_ne (cs : List Cl) (hcs : ∀ c ∈ cs, ClOk c) (a b : Int) : Gl cs a b ≠ 0 ↔ ∃ c ∈ cs, c.f0.f0 - c.f0.f0 % 4 = a ∧ c.f0.f1 - c.f0.f1 % 4 = b := by
  constructor
  · intro h
    by_cases hx : ∃ c ∈ cs, c.f0.f0 - c.f0.f0 % 4 = a ∧ c.f0.f1 - c.f0.f1 % 4 = b
    · exact hx
    · exact absurd (bits_zero _ (Gl_bd cs a b) (fun j hj h1 => hx (by
        obtain ⟨c, hc, h2, h3, _⟩ := (Gl_bits cs hcs a b j hj).1 h1
        exact ⟨c, hc, h2, h3⟩))) h
  · rintro ⟨c, hc, h1, h2⟩ h0
    have hb := (hcs c hc).h
    have := (Gl_bits cs hcs a b (bitNo c.f0.f0 c.f0.f1 c.f1) (by unfold bitNo; omega)).2 ⟨c, hc, h1, h2, rfl⟩
    rw [h0, bit_zero] at this
    omega
/-- the square of some cells, of level n + 2, from a least point on -/
def sqQ (cs : List Cl) (n : Nat) (la lb : Int) : Q := canQ (fun a b => (Gl cs a b).toNat) n la lb
theorem sqQ_ok (cs : List Cl) (n : Nat) (la lb : Int) : (sqQ cs n la lb).ok := canQ_ok (fun a b => by have := Gl_bd cs a b; omega) n la lb
theorem sqQ_lv (cs : List Cl) (n : Nat) (la lb : Int) : (sqQ cs n la lb).lv = (n : Int) + 2 := canQ_lv _ n la lb
theorem sqQ_ex (cs : List Cl) (n : Nat) (la lb : Int) : (sqQ cs n la lb).ex = n + 2 := canQ_ex _ n la lb
theorem sqQ_has (cs : List Cl) (hcs : ∀ c ∈ cs, ClOk c) (n : Nat) (la lb x y h : Int) (ha : la % 4 = 0) (hb : lb % 4 = 0) (hi : InQ (n + 2) x y h) :
    (sqQ cs n la lb).has x y h = true ↔ (⟨⟨la + x, lb + y⟩, h⟩ : Cl) ∈ cs := by
  unfold sqQ
  rw [canQ_has _ _ _ _ _ _ _ hi, decide_eq_true_iff, Int.toNat_of_nonneg (Gl_bd cs _ _).1]
  obtain ⟨x0, x1, y0, y1, h0, h1⟩ := hi
  rw [Gl_bits cs hcs _ _ _ (by omega)]
  constructor
  · rintro ⟨c, hc, h2, h3, h4⟩
    have hk := (hcs c hc).h
    unfold bitNo at h4
    have e1 : c.f0.f0 = la + x := by omega
    have e2 : c.f0.f1 = lb + y := by omega
    have e3 : c.f1 = h := by omega
    rw [← e1, ← e2, ← e3]
    exact hc
  · intro hc
    exact ⟨_, hc, by show la + x - (la + x) % 4 = _; omega, by show lb + y - (lb + y) % 4 = _; omega, by
      show _ = bitNo (la + x) (lb + y) h
      unfold bitNo
      rw [show (la + x) % 4 = x % 4 by omega, show (lb + y) % 4 = y % 4 by omega]⟩
end Go.Proofs.Ytpmipllohiiocaa.tr
namespace Go.Proofs.Ytpmipllohiiocaa.tr
open Go.RowKit Go.Proofs.Ytpmipllohiiocaa.PTreeBuilds Go.Proofs.YtpmipllohiiocaaW.PrintWords Go.Proofs.YtpmipllohiiocaaW.PrintLast Go.Proofs.YtpmipllohiiocaaW.PrintMore Go.ChangeShapes Go.Maps

set_option maxRecDepth 100000 in
theorem laidOut : laidOutB Try.prog = true := by kernel_rfl
set_option maxRecDepth 100000 in
theorem rowP : (32 : TypeId) < Try.prog.types.size := of_decide_eq_true (by kernel_rfl)
set_option maxRecDepth 100000 in
theorem wideP : (match Try.prog.underlying 32 with | some (.array _ _) | some (.struct _) => true | _ => false) = true := by rw [Try.underlying32]
set_option maxRecDepth 100000 in
theorem lawP : Keyed Try.prog 32 := Keyed.of_law (deep_law_laid laidOut (m := 2) (by omega) rowP (by kernel_rfl) wideP)
def ptV (a b : Int) : Value := .agg #[.int .i64 a, .int .i64 b]
/-- the key that a point is read as -/
def pk (a b : Int) : Lit := .string (keyBytes [.int .i64 a, .int .i64 b])
theorem i64_wf {a : Int} (h : -9223372036854775808 ≤ a ∧ a ≤ 9223372036854775807) : (Lit.int .i64 a).wf = true := by
  simp [Lit.wf, IntKind.min, IntKind.max, IntKind.signed, IntKind.bits]
  omega
theorem litsI (n : Nat) {a : Int} (h : -9223372036854775808 ≤ a ∧ a ≤ 9223372036854775807) : Try.prog.keyLits (n + 1) 2 [.int .i64 a] = some [.int .i64 a] := by
  have := i64_wf h
  simp [Program.keyLits, Try.underlying2, this]
set_option maxRecDepth 100000 in
theorem litsP (n : Nat) {a b : Int} (ha : -9223372036854775808 ≤ a ∧ a ≤ 9223372036854775807) (hb : -9223372036854775808 ≤ b ∧ b ≤ 9223372036854775807) : Try.prog.keyLits (n + 1 + 1) 32 [.int .i64 a, .int .i64 b] = some [.int .i64 a, .int .i64 b] := by
  have h1 := litsI n ha
  have h2 := litsI n hb
  have hc : Try.prog.cellsOf 32 = 2 := by kernel_rfl
  have hi : Try.prog.cellsOf 2 = 1 := by kernel_rfl
  unfold Program.keyLits
  simp only [Try.underlying32]
  simp [hc, hi, h1, h2]
set_option maxRecDepth 100000 in
theorem keyPt {a b : Int} (ha : -9223372036854775808 ≤ a ∧ a ≤ 9223372036854775807) (hb : -9223372036854775808 ≤ b ∧ b ≤ 9223372036854775807) : keyOf Try.prog 32 (ptV a b) = some (pk a b) := by
  have hk : Try.prog.keyType 32 = true := by kernel_rfl
  have hc : Try.prog.cellsOf 32 = 2 := by kernel_rfl
  have hf : (ptV a b).formed Try.prog 32 = true := by simp [ptV, Value.formed, Try.underlying32, hc]
  obtain ⟨n, hn⟩ : ∃ n, Try.prog.types.size = n + 1 := Nat.exists_eq_succ_of_ne_zero (Nat.ne_of_gt (Nat.lt_of_le_of_lt (Nat.zero_le _) rowP))
  have hl := litsP n ha hb
  unfold keyOf
  rw [Try.underlying32]
  simp only [hk, hf, hn, Bool.and_self, if_true]
  rw [show (ptV a b).cells.toList = [.int .i64 a, .int .i64 b] from rfl, hl]
  rfl
theorem pk_key (a b : Int) : WideAt.IsKeyLit (pk a b) := trivial
theorem pk_inj {a b c d : Int} (h1 : -9223372036854775808 ≤ a ∧ a ≤ 9223372036854775807) (h2 : -9223372036854775808 ≤ b ∧ b ≤ 9223372036854775807) (h3 : -9223372036854775808 ≤ c ∧ c ≤ 9223372036854775807) (h4 : -9223372036854775808 ≤ d ∧ d ≤ 9223372036854775807) (h : pk a b = pk c d) : a = c ∧ b = d := by
  have e := lawP.inj (keyPt h1 h2) (h ▸ keyPt h3 h4)
  unfold ptV at e
  injection e with e
  injection e with e
  injection e with e1 e2
  injection e1 with _ e1
  injection e2 with e2 _
  injection e2 with _ e2
  exact ⟨e1, e2⟩
end Go.Proofs.Ytpmipllohiiocaa.tr
namespace Go.Proofs.Ytpmipllohiiocaa.tr
open Go.RowKit Go.Proofs.Ytpmipllohiiocaa.PTreeBuilds Go.Proofs.YtpmipllohiiocaaW.PrintWords Go.Proofs.YtpmipllohiiocaaW.PrintLast Go.Proofs.YtpmipllohiiocaaW.PrintMore Go.Proofs.Ytpmipllohiiocaa.bs Go.ChangeShapes Go.Proofs.Ytpmipllohiiocaa.lb Go.Maps

abbrev I64 (a : Int) : Prop := -9223372036854775808 ≤ a ∧ a ≤ 9223372036854775807
/-- a map of leaves, by points -/
structure MapIs (D : DataW Unit) (G : Int → Int → Int) : Prop where
  map : IsMap D
  at_ : ∀ a b, I64 a → I64 b → D.atKey (pk a b) (.lit (.int .u32 0)) = .lit (.int .u32 (G a b))
  has : ∀ a b, I64 a → I64 b → (Maps.has D (pk a b) = true ↔ G a b ≠ 0)
  key : ∀ kl, Maps.has D kl = true → ∃ a b, I64 a ∧ I64 b ∧ kl = pk a b
theorem mapIs_nil : MapIs (.map []) (fun _ _ => 0) :=
  ⟨isMap_empty, fun _ _ _ _ => rfl, fun _ _ _ _ => by simp [Maps.has], fun _ h => by simp [Maps.has] at h⟩
theorem MapIs.put {D : DataW Unit} {G : Int → Int → Int} (h : MapIs D G) {a b v : Int} (ha : I64 a) (hb : I64 b) (hv : v ≠ 0) :
    MapIs (D.put (pk a b) (.lit (.int .u32 v))) (fun x y => if x = a ∧ y = b then v else G x y) := by
  refine ⟨h.map.put _ _, fun x y hx hy => ?_, fun x y hx hy => ?_, fun kl hk => ?_⟩
  · by_cases e : x = a ∧ y = b
    · rw [if_pos e, e.1, e.2, atKey_put_same h.map (pk_key a b)]
    · rw [if_neg e, atKey_put_other (fun e2 => e (pk_inj hx hy ha hb e2)), h.at_ x y hx hy]
  · by_cases e : x = a ∧ y = b
    · rw [if_pos e, e.1, e.2, has_put_same h.map (pk_key a b)]
      simpa using hv
    · rw [if_neg e, has_put_other (fun e2 => e (pk_inj hx hy ha hb e2))]
      exact h.has x y hx hy
  · by_cases e : kl = pk a b
    · exact ⟨a, b, ha, hb, e⟩
    · rw [has_put_other e] at hk
      exact h.key kl hk
theorem mapIs_congr {D : DataW Unit} {G G' : Int → Int → Int} (h : MapIs D G) (e : ∀ a b, G a b = G' a b) : MapIs D G' := by
  rw [show G' = G from funext fun a => funext fun b => (e a b).symm]; exact h
theorem low_walk (a b : Int) (w : World) : Calls Try.prog 9 #[.agg #[.int .i64 a, .int .i64 b]] w fun e w' => e = .returned (.agg #[.int .i64 (lowOf a), .int .i64 (lowOf b)]) ∧ Below w.heap.size w w' :=
  site_Low.calls a b _ _ w rfl
theorem zeroLeaf (w : World) : (zeroValue 34).run Try.prog w = .ok (.int .u32 0) w := by kernel_rfl
theorem u32_wf {a : Int} (h : 0 ≤ a ∧ a < 4294967296) : (Lit.int .u32 a).wf = true := by
  simp [Lit.wf, IntKind.min, IntKind.max, IntKind.signed, IntKind.bits]
  omega
/-- the words of a map of leaves -/
def OwnsL (w : World) (M n : Nat) (D : DataW Unit) : Prop := w.ownsMap Try.prog 32 (plainElem (H := Unit) Try.prog 34) M n D
theorem OwnsL.below {w w1 : World} {M n : Nat} {D : DataW Unit} (h : OwnsL w M n D) (hb : Below w.heap.size w w1) : OwnsL w1 M n D := by
  obtain ⟨es, cl, hk, rest⟩ := h
  exact ⟨es, cl, (hb.block M (blk_lt hk)).trans hk, rest⟩
set_option maxRecDepth 100000 in
theorem OwnsL.look {w : World} {M n : Nat} {D : DataW Unit} {G : Int → Int → Int} (h : OwnsL w M n D) (hm : MapIs D G) {a b : Int} (ha : I64 a) (hb : I64 b) :
    (Instr.lookup 29 (.map (some M)) (.agg #[.int .i64 a, .int .i64 b]) false).run Try.prog w = .ok (.int .u32 (G a b)) w := by
  obtain ⟨c, hrun, hat, _⟩ := World.ownsMap.lookup_int h lawP Try.underlying29 Try.underlying34 (zeroLeaf _) (keyPt ha hb)
  rw [hm.at_ a b ha hb] at hat
  injection hat with hat
  injection hat with _ h2
  rw [show (.agg #[.int .i64 a, .int .i64 b] : Value) = ptV a b from rfl, hrun, ← h2]
/-- what the round's last region reads -/
structure Lr (w : World) (C W M n : Nat) (D : DataW Unit) (G : Int → Int → Int) (a b h la lb : Int) : Prop where
  c : w.heap[C]? = some (.cells #[.int .i64 a, .int .i64 b, .int .i64 h] 39 (0, 0))
  l : w.heap[W]? = some (.cells #[.int .i64 la, .int .i64 lb] 32 (0, 0))
  own : OwnsL w M n D
  map : MapIs D G
  ia : I64 la
  ib : I64 lb
theorem Lr.below {w w1 : World} {C W M n : Nat} {D : DataW Unit} {G : Int → Int → Int} {a b h la lb : Int} (H : Lr w C W M n D G a b h la lb) (hb : Below w.heap.size w w1) : Lr w1 C W M n D G a b h la lb :=
  ⟨blk_below H.c hb, blk_below H.l hb, H.own.below hb, H.map, H.ia, H.ib⟩
/-- what a look-up gives -/
noncomputable def lookL (w : World) (M : Nat) (la lb : Int) : Value := match (Instr.lookup 29 (.map (some M)) (.agg #[.int .i64 la, .int .i64 lb]) false).run Try.prog w with
  | .ok v _ => v
  | _ => undef
theorem lookL_run {w : World} {M n : Nat} {D : DataW Unit} {G : Int → Int → Int} (h : OwnsL w M n D) (hm : MapIs D G) {a b : Int} (ha : I64 a) (hb : I64 b) :
    (Instr.lookup 29 (.map (some M)) (.agg #[.int .i64 a, .int .i64 b]) false).run Try.prog w = .ok (lookL w M a b) w := by
  unfold lookL; rw [h.look hm ha hb]
theorem Lr.lookv {w w1 : World} {C W M n : Nat} {D : DataW Unit} {G : Int → Int → Int} {a b h la lb : Int} (H : Lr w C W M n D G a b h la lb) (hb : Below w.heap.size w w1) : lookL w1 M la lb = .int .u32 (G la lb) := by
  unfold lookL; rw [(H.own.below hb).look H.map H.ia H.ib]
def Lc (w : World) (C W M : Nat) (a b h la lb : Int) : Prop :=
  w.cell? ⟨C, 0, none⟩ = some (.int .i64 a) ∧ w.cell? ⟨C, 1, none⟩ = some (.int .i64 b) ∧ w.cell? ⟨C, 2, none⟩ = some (.int .i64 h) ∧ w.cell? ⟨W, 0, none⟩ = some (.int .i64 la) ∧ w.cell? ⟨W, 1, none⟩ = some (.int .i64 lb) ∧
  (Instr.lookup 29 (.map (some M)) (.agg #[.int .i64 la, .int .i64 lb]) false).run Try.prog w = .ok (lookL w M la lb) w
theorem Lr.cj {w : World} {C W M n : Nat} {D : DataW Unit} {G : Int → Int → Int} {a b h la lb : Int} (H : Lr w C W M n D G a b h la lb) : Lc w C W M a b h la lb :=
  ⟨blk_cell H.c 0, blk_cell H.c 1, blk_cell H.c 2, blk_cell H.l 0, blk_cell H.l 1, lookL_run H.own H.map H.ia H.ib⟩
theorem Lr.put {w w1 : World} {C W M n : Nat} {D : DataW Unit} {G : Int → Int → Int} {a b h la lb v : Int} (H : Lr w C W M n D G a b h la lb) (hg : w.grownBy w1 (some M)) (ho : OwnsL w1 M (n + 1) (D.put (pk la lb) (.lit (.int .u32 v)))) (hC : C ≠ M) (hW : W ≠ M) (hv : v ≠ 0) :
    Lr w1 C W M (n + 1) (D.put (pk la lb) (.lit (.int .u32 v))) (fun x y => if x = la ∧ y = lb then v else G x y) a b h la lb :=
  ⟨(hg.block C (blk_lt H.c) (fun e => hC (by injection e))).trans H.c, (hg.block W (blk_lt H.l) (fun e => hW (by injection e))).trans H.l, ho, H.map.put H.ia H.ib hv, H.ia, H.ib⟩
def LeavesPost (cs : List Cl) (w : World) (e : Ending) (w' : World) : Prop :=
  ∃ M D, e = .returned (.map (some M)) ∧ MapIs D (Gl cs) ∧ OwnsL w' M cs.length D ∧ w.heap.size ≤ M ∧ Below w.heap.size w w'
set_option maxRecDepth 100000 in
set_option maxHeartbeats 4000000 in
theorem leaves_some (ad : Addr) (c : Nat) (cs : List Cl) (w : World) (h : Kd.C k39 w (some ad) cs.length cs) (hcs : ∀ c ∈ cs, ClOk c) :
    Calls Try.prog 8 #[.slice (some ad) cs.length c] w fun e w' => LeavesPost cs w e w' := by
  have HC := Aside0.mk h
  have hmx := Kd.C_max h
  have HK := Aside0.mk hcs
  have hmm := @run_makeMap Try.prog
  clear h hcs
  generalize hL : cs = L at *
  clear hL
  go_enter Try.func8, Try.ntmps8
  go_wp2_with (fail)
  go_loopg [10] L.length (fun kq c10 w' => ∃ (i : Nat) (D : DataW Unit), i + kq = L.length ∧ c10 = .int .i64 i ∧ Aside0 (MapIs D (Gl (L.take i))) ∧ Aside0 (OwnsL w' w.heap.size i D) ∧ Aside0 (Below w.heap.size w w'))
  case atStart => exact ⟨0, _, by omega, rfl, ⟨mapIs_nil⟩, ⟨World.ownsMap_made _ _ _ _⟩, ⟨(Below.refl _ _).alloc (Nat.le_refl _) _⟩⟩
  case round =>
    obtain ⟨i, D, hi, rfl, HM, HO, HB⟩ := hrel
    by_cases hlt : i < L.length
    · obtain ⟨gm, rfl⟩ : ∃ m, gk = m + 1 := ⟨gk - 1, by omega⟩
      obtain ⟨ad', hae, q0, q1, q2⟩ := at_T39 (Kd.C_below HC.out HB.out) (i : Int) (by omega) (by omega)
      obtain rfl := Option.some.inj hae
      obtain ⟨x, hx⟩ : ∃ x, L[i]? = some x := ⟨_, List.getElem?_eq_getElem hlt⟩
      have hrd : rd_T39 L (i : Int) = x := by unfold rd_T39; rw [Int.toNat_natCast, List.getD_eq_getElem?_getD, hx]; rfl
      rw [hrd, Int.toNat_natCast] at q0 q1 q2
      go_upto_region 6 with (go_at_call 9; refine (low_walk _ _ _).mono ?_; rintro e w3 ⟨rfl, hb3⟩; have HB3 := Aside0.mk hb3; clear hb3)
      have HBW := Aside0.mk (show Below wr.heap.size wr (w3.alloc (.cells #[.int .i64 (lowOf x.f0.f0), .int .i64 (lowOf x.f0.f1)] 32)) from below_alloc (chain (below_alloc (Below.refl _ _) _) HB3.out (by simp)) _)
      have hcx := HK.out x (List.mem_of_getElem? hx)
      have HX := Aside0.mk hcx
      have hl1 := lowOf_eq x.f0.f0 hcx.a
      have hl2 := lowOf_eq x.f0.f1 hcx.b
      have hI1 : I64 (lowOf x.f0.f0) := by have := hcx.a; constructor <;> omega
      have hI2 : I64 (lowOf x.f0.f1) := by have := hcx.b; constructor <;> omega
      have HLR := Aside0.mk (show Lr (w3.alloc (.cells #[.int .i64 (lowOf x.f0.f0), .int .i64 (lowOf x.f0.f1)] 32)) wr.heap.size w3.heap.size w.heap.size i D (Gl (L.take i)) x.f0.f0 x.f0.f1 x.f1 (lowOf x.f0.f0) (lowOf x.f0.f1) from
        ⟨blk_below (blk_below (blk_new wr (.cells #[.int .i64 x.f0.f0, .int .i64 x.f0.f1, .int .i64 x.f1] 39)) HB3.out) (below_alloc (Below.refl _ _) _), blk_new w3 _, HO.out.below HBW.out, HM.out, hI1, hI2⟩)
      have HBW2 := Aside0.mk (chain HB.out HBW.out HB.out.size)
      have hfb := Gl_bd (L.take i) (lowOf x.f0.f0) (lowOf x.f0.f1)
      obtain ⟨f, hf⟩ : ∃ f, Gl (L.take i) (lowOf x.f0.f0) (lowOf x.f0.f1) = f := ⟨_, rfl⟩
      rw [hf] at hfb
      have HF := Aside0.mk hf
      have HNX := Aside0.mk (show Gl (L.take (i + 1)) = Gstep (Gl (L.take i)) x from by
        obtain ⟨h1, h2⟩ := List.getElem?_eq_some_iff.1 hx
        rw [List.take_succ_eq_append_getElem h1, h2, Gl_snoc])
      have HHH := Aside0.mk hcx.h
      have HNZ := Aside0.mk (show withV f x.f0.f0 x.f0.f1 x.f1 true ≠ 0 from fun h0 => by
        have h1 := with_bits f x.f0.f0 x.f0.f1 x.f1 hfb hcx.a hcx.b hcx.h true (bitNo x.f0.f0 x.f0.f1 x.f1) (by have := hcx.h; unfold bitNo; omega)
        rw [h0, if_pos rfl, if_pos rfl, bit_zero] at h1
        omega)
      have HCM := Aside0.mk (show wr.heap.size ≠ w.heap.size from by have := blk_lt (show wr.heap[w.heap.size]? = some _ from HO.out.choose_spec.choose_spec.1); omega)
      have HWM := Aside0.mk (show w3.heap.size ≠ w.heap.size from by have h1 := HB3.out.size; have h2 := HB.out.size; rw [World.size_alloc] at h1; omega)
      have HI1 := Aside0.mk hI1
      have HI2 := Aside0.mk hI2
      clear q0 q1 q2 hl1 hl2 hcx hI1 hI2 hx hrd hae hf HB HO HM
      generalize w3.alloc (.cells #[.int .i64 (lowOf x.f0.f0), .int .i64 (lowOf x.f0.f1)] 32) = w4 at *
      generalize wr.heap.size = C at *
      generalize w3.heap.size = W at *
      obtain ⟨la, hla⟩ : ∃ la, lowOf x.f0.f0 = la := ⟨_, rfl⟩
      obtain ⟨lb', hlb⟩ : ∃ lb', lowOf x.f0.f1 = lb' := ⟨_, rfl⟩
      have HLA := Aside0.mk (And.intro hla hlb)
      simp only [hla, hlb] at HI1 HI2 HF HLR ⊢
      clear hla hlb
      have hCM : C ≠ w.heap.size := HCM.out
      have hWM : W ≠ w.heap.size := HWM.out
      go_region_held3 (fun w' => w'.cell? ⟨C, 0, none⟩ = some (.int .i64 x.f0.f0) ∧ w'.cell? ⟨C, 1, none⟩ = some (.int .i64 x.f0.f1) ∧ w'.cell? ⟨C, 2, none⟩ = some (.int .i64 x.f1) ∧ w'.cell? ⟨W, 0, none⟩ = some (.int .i64 la) ∧ w'.cell? ⟨W, 1, none⟩ = some (.int .i64 lb') ∧ (Instr.lookup 29 (.map (some w.heap.size)) (.agg #[.int .i64 la, .int .i64 lb']) false).run Try.prog w' = .ok (lookL w' w.heap.size la lb') w') (first | exact HLR6.out.cj | exact HLR.out.cj | (refine (HLR.out.below ?_).cj; (repeat' (first | (with_reducible exact Below.refl _ _) | (with_reducible assumption) | (with_reducible refine Below.alloc ?_ ?_ _) | (with_reducible refine Below.drew ?_) | (with_reducible refine Below.setCell ?_ ?_ _) | (with_reducible refine chain ?_ (by assumption) ?_) | go_size)); done)) (first | (go_at_call 32; rw [HLR.out.lookv (by (repeat' (first | (with_reducible exact Below.refl _ _) | (with_reducible assumption) | (with_reducible refine Below.alloc ?_ ?_ _) | (with_reducible refine Below.drew ?_) | (with_reducible refine Below.setCell ?_ ?_ _) | (with_reducible refine chain ?_ (by assumption) ?_) | go_size))), HF.out]; refine (with_walk _ _ _ _ _ _ hfb HHH.out).mono ?_; rintro e w5 ⟨rfl, hb5⟩; have HB5 := Aside0.mk (show Below w4.heap.size w4 w5 by (repeat' (first | (with_reducible exact Below.refl _ _) | (with_reducible assumption) | (with_reducible refine Below.alloc ?_ ?_ _) | (with_reducible refine Below.drew ?_) | (with_reducible refine Below.setCell ?_ ?_ _) | (with_reducible refine chain ?_ (by assumption) ?_) | go_size))); have HLR5 := Aside0.mk (HLR.out.below HB5.out); obtain ⟨w6, hrun6, ho6, hg6⟩ := World.ownsMap.update HLR5.out.own lawP Try.underlying29 (by unfold maxLen; omega) (keyPt HI1.out HI2.out) (plainElem_int (a := withV f x.f0.f0 x.f0.f1 x.f1 true) Try.underlying34 (u32_wf (withV_bd f x.f0.f0 x.f0.f1 x.f1 true hfb))); unfold ptV at hrun6; have HG6 := Aside0.mk hg6; have HLR6 := Aside0.mk (HLR5.out.put hg6 ho6 hCM hWM HNZ.out); have HLR := HLR5; clear hb5 ho6 hg6))
      have HB6 := Aside0.mk (show Below w.heap.size w w6 from (HBW2.out.trans (HB5.out.mono HBW2.out.size)).grown HG6.out (Nat.le_trans HBW2.out.size HB5.out.size) (fun j hj => by cases hj; exact Nat.le_refl _))
      have HO6 := Aside0.mk HLR6.out.own
      have HM6 : Aside0 (MapIs (D.put (pk la lb') (.lit (.int .u32 (withV f x.f0.f0 x.f0.f1 x.f1 true)))) (Gl (L.take (i + 1)))) := ⟨mapIs_congr HLR6.out.map (fun a b => by
        rw [HNX.out]
        unfold Gstep
        rw [HLA.out.1, HLA.out.2]
        split
        · rename_i e; rw [e.1, e.2, HF.out]
        · rfl)⟩
      clear HLR HLR5 HLR6 hrun6 HG6 HB5 HBW HBW2 HF HNX HNZ
      go_wp2_with (fail)
      go_roundg gm
      case measure => omega
      case rel => exact ⟨i + 1, _, by omega, by go_num, HM6, HO6, HB6⟩
    · obtain rfl : i = L.length := by omega
      go_wp2_with (fail)
      go_ret
      rw [List.take_length] at HM
      exact ⟨w.heap.size, D, rfl, HM.out, HO.out, Nat.le_refl _, HB.out⟩
set_option maxRecDepth 100000 in
set_option maxHeartbeats 4000000 in
theorem leaves_none (A : Option Addr) (c : Nat) (w : World) : Calls Try.prog 8 #[.slice A 0 c] w fun e w' => LeavesPost [] w e w' := by
  have hmm := @run_makeMap Try.prog
  go_enter Try.func8, Try.ntmps8
  go_wp2_with (fail)
  go_loopg [10] 1 (fun kq c10 w' => c10 = .int .i64 0 ∧ Aside0 (w' = w.alloc (.map #[] 0)))
  case atStart => exact ⟨rfl, ⟨rfl⟩⟩
  case round =>
    obtain ⟨rfl, HW⟩ := hrel
    go_wp2_with (fail)
    go_ret
    rw [HW.out]
    exact ⟨w.heap.size, _, rfl, mapIs_nil, World.ownsMap_made _ _ _ _, Nat.le_refl _, (Below.refl _ _).alloc (Nat.le_refl _) _⟩
theorem leaves_walk (A : Option Addr) (c : Nat) (cs : List Cl) (w : World) (h : Kd.C k39 w A cs.length cs) (hcs : ∀ c ∈ cs, ClOk c) :
    Calls Try.prog 8 #[.slice A cs.length c] w fun e w' => LeavesPost cs w e w' := by
  cases cs with
  | nil => exact leaves_none A c w
  | cons c0 cs =>
    obtain ⟨ad, rfl, _⟩ := at_T39 h 0 (by omega) (by simp)
    exact leaves_some ad c _ w h hcs
end Go.Proofs.Ytpmipllohiiocaa.tr
namespace Go.Proofs.Ytpmipllohiiocaa.tr
open Go.RowKit Go.Proofs.Ytpmipllohiiocaa.PTreeBuilds Go.Proofs.YtpmipllohiiocaaW.PrintWords Go.Proofs.YtpmipllohiiocaaW.PrintLast Go.Proofs.Ytpmipllohiiocaa.lb Go.Proofs.Ytpmipllohiiocaa.ar

abbrev Pt := S32
/-- the least point of a kid -/
def lowA (la H : Int) (i : Nat) : Int := la + H * ((i % 2 : Nat) : Int)
def lowB (lb H : Int) (i : Nat) : Int := lb + H * ((i / 2 : Nat) : Int)
/-- which quarter has a point -/
def qi (H la lb : Int) (p : Pt) : Nat := (quart H la lb p.f0 p.f1).1.toNat
theorem qi_lt (H la lb : Int) (p : Pt) : qi H la lb p < 4 := by
  unfold qi quart
  split <;> split <;> (dsimp only; decide)
theorem qi_val (H la lb : Int) (p : Pt) : ((qi H la lb p : Nat) : Int) = (quart H la lb p.f0 p.f1).1 := by
  unfold qi quart
  split <;> split <;> rfl
/-- the points of a quarter -/
def part (H la lb : Int) (pts : List Pt) (i : Nat) : List Pt := pts.filter (fun p => qi H la lb p = i)
theorem mem_part {H la lb : Int} {pts : List Pt} {i : Nat} {p : Pt} : p ∈ part H la lb pts i ↔ p ∈ pts ∧ qi H la lb p = i := by
  unfold part; rw [List.mem_filter]; simp
theorem part_snoc_same (H la lb : Int) (pts : List Pt) (p : Pt) : part H la lb (pts ++ [p]) (qi H la lb p) = part H la lb pts (qi H la lb p) ++ [p] := by
  unfold part; rw [List.filter_append]; simp
theorem part_snoc_other (H la lb : Int) (pts : List Pt) (p : Pt) (i : Nat) (h : i ≠ qi H la lb p) : part H la lb (pts ++ [p]) i = part H la lb pts i := by
  unfold part; rw [List.filter_append]; simp; exact fun e => h e.symm
theorem part_le (H la lb : Int) (pts : List Pt) (i : Nat) : (part H la lb pts i).length ≤ pts.length := List.length_filter_le _ _
/-- how many lie in the quarters ahead of the j-th one -/
def ahead (H la lb : Int) (pts : List Pt) (j : Nat) : Nat := (pts.filter (fun p => qi H la lb p < j)).length
theorem ahead_zero (H la lb : Int) (pts : List Pt) : ahead H la lb pts 0 = 0 := by unfold ahead; simp
theorem ahead_succ (H la lb : Int) (pts : List Pt) (j : Nat) : ahead H la lb pts (j + 1) = ahead H la lb pts j + (part H la lb pts j).length := by
  unfold ahead part
  induction pts with
  | nil => rfl
  | cons p l ih =>
    simp only [List.filter_cons]
    by_cases h1 : qi H la lb p < j
    · rw [if_pos (by simpa using (by omega : qi H la lb p < j + 1)), if_pos (by simpa using h1), if_neg (by simpa using (by omega : ¬ qi H la lb p = j))]
      simp only [List.length_cons]; omega
    · by_cases h2 : qi H la lb p = j
      · rw [if_pos (by simpa using (by omega : qi H la lb p < j + 1)), if_neg (by simpa using h1), if_pos (by simpa using h2)]
        simp only [List.length_cons]; omega
      · rw [if_neg (by simpa using (by omega : ¬ qi H la lb p < j + 1)), if_neg (by simpa using h1), if_neg (by simpa using h2)]
        exact ih
theorem ahead_all (H la lb : Int) (pts : List Pt) : ahead H la lb pts 4 = pts.length := by
  unfold ahead
  rw [List.filter_eq_self.2 (fun p _ => by simpa using qi_lt H la lb p)]
/-- the points of a square's leaves: each by fours; all leaves that are there -/
structure PtsOk (G : Int → Int → Int) (n : Nat) (la lb : Int) (pts : List Pt) : Prop where
  inq : ∀ p ∈ pts, p.f0 % 4 = 0 ∧ p.f1 % 4 = 0 ∧ la ≤ p.f0 ∧ p.f0 < la + 2 ^ (n + 2) ∧ lb ≤ p.f1 ∧ p.f1 < lb + 2 ^ (n + 2)
  all : ∀ a b, la ≤ a → a < la + 2 ^ (n + 2) → lb ≤ b → b < lb + 2 ^ (n + 2) → G a b ≠ 0 → (⟨a, b⟩ : Pt) ∈ pts
theorem PtsOk.quarter {G : Int → Int → Int} {n : Nat} {la lb : Int} {pts : List Pt} (h : PtsOk G (n + 1) la lb pts) (i : Nat) (hi : i < 4) :
    PtsOk G n (lowA la (2 ^ (n + 2)) i) (lowB lb (2 ^ (n + 2)) i) (part (2 ^ (n + 2)) la lb pts i) := by
  have h2 : (2 : Int) ^ (n + 1 + 2) = 2 * 2 ^ (n + 2) := two_succ (n + 2)
  have hp := two_pos (n + 2)
  have h4 : i = 0 ∨ i = 1 ∨ i = 2 ∨ i = 3 := by omega
  constructor
  · intro p hp'
    obtain ⟨hm, hq⟩ := mem_part.1 hp'
    obtain ⟨e0, e1, e2, e3, e4, e5⟩ := h.inq p hm
    rw [h2] at e3 e5
    unfold qi quart at hq
    generalize (2 : Int) ^ (n + 2) = H at *
    refine ⟨e0, e1, ?_⟩
    unfold lowA lowB
    rcases h4 with rfl | rfl | rfl | rfl <;> split at hq <;> split at hq <;> first | (exact absurd hq (by decide)) | (simp; omega)
  · intro a b h5 h6 h7 h8 hg
    rw [mem_part]
    have hin : la ≤ a ∧ a < la + 2 * 2 ^ (n + 2) ∧ lb ≤ b ∧ b < lb + 2 * 2 ^ (n + 2) := by
      simp only [lowA, lowB] at h5 h6 h7 h8
      generalize (2 : Int) ^ (n + 2) = H at *
      rcases h4 with rfl | rfl | rfl | rfl <;> simp at h5 h6 h7 h8 <;> omega
    refine ⟨h.all a b hin.1 (by rw [h2]; exact hin.2.1) hin.2.2.1 (by rw [h2]; exact hin.2.2.2) hg, ?_⟩
    simp only [lowA, lowB] at h5 h6 h7 h8
    unfold qi quart
    generalize (2 : Int) ^ (n + 2) = H at *
    rcases h4 with rfl | rfl | rfl | rfl <;> simp at h5 h6 h7 h8 <;> ((repeat' split) <;> first | rfl | (exfalso; dsimp only at *; omega))
theorem PtsOk.leaf {G : Int → Int → Int} {la lb : Int} {p : Pt} {l : List Pt} (h : PtsOk G 0 la lb (p :: l)) (ha : la % 4 = 0) (hb : lb % 4 = 0) : p = ⟨la, lb⟩ := by
  obtain ⟨e0, e1, e2, e3, e4, e5⟩ := h.inq p (by simp)
  have e6 : (2 : Int) ^ (0 + 2) = 4 := rfl
  rw [e6] at e3 e5
  obtain ⟨x, y⟩ := p
  dsimp only at *
  rw [show x = la by omega, show y = lb by omega]
theorem PtsOk.none {G : Int → Int → Int} {n : Nat} {la lb : Int} (h : PtsOk G n la lb []) : canQ (fun a b => (G a b).toNat) n la lb = emptyQ n := by
  refine canQ_empty n la lb (fun x y h1 h2 h3 h4 => ?_)
  by_cases h0 : G x y = 0
  · rw [h0]; rfl
  · exact absurd (h.all x y h1 h2 h3 h4 h0) (by simp)
/-- the kid of a square -/
def kidQ (G : Int → Int → Int) (n : Nat) (la lb : Int) (i : Nat) : Q := canQ (fun a b => (G a b).toNat) n (lowA la (2 ^ (n + 2)) i) (lowB lb (2 ^ (n + 2)) i)
theorem canQ_kids (G : Int → Int → Int) (n : Nat) (la lb : Int) : canQ (fun a b => (G a b).toNat) (n + 1) la lb = .node (kidQ G n la lb 0) (kidQ G n la lb 1) (kidQ G n la lb 2) (kidQ G n la lb 3) := by
  show Q.node _ _ _ _ = Q.node _ _ _ _
  unfold kidQ lowA lowB
  simp
theorem kidQ_lv (G : Int → Int → Int) (n : Nat) (la lb : Int) (i : Nat) : (kidQ G n la lb i).lv = (n : Int) + 2 := canQ_lv _ _ _ _
theorem low_bd {la lb : Int} {n : Nat} (h1 : -8796093022208 ≤ la ∧ la + 2 ^ (n + 3) ≤ 8796093022208) (h2 : -8796093022208 ≤ lb ∧ lb + 2 ^ (n + 3) ≤ 8796093022208) (i : Nat) (hi : i < 4) :
    (-8796093022208 ≤ lowA la (2 ^ (n + 2)) i ∧ lowA la (2 ^ (n + 2)) i + 2 ^ (n + 2) ≤ 8796093022208) ∧ (-8796093022208 ≤ lowB lb (2 ^ (n + 2)) i ∧ lowB lb (2 ^ (n + 2)) i + 2 ^ (n + 2) ≤ 8796093022208) := by
  have e : (2 : Int) ^ (n + 3) = 2 * 2 ^ (n + 2) := two_succ (n + 2)
  have hp := two_pos (n + 2)
  rw [e] at h1 h2
  unfold lowA lowB
  generalize (2 : Int) ^ (n + 2) = H at *
  have h4 : i = 0 ∨ i = 1 ∨ i = 2 ∨ i = 3 := by omega
  rcases h4 with rfl | rfl | rfl | rfl <;> simp <;> omega
theorem low_mod {la lb : Int} {n : Nat} (ha : la % 4 = 0) (hb : lb % 4 = 0) (i : Nat) : lowA la (2 ^ (n + 2)) i % 4 = 0 ∧ lowB lb (2 ^ (n + 2)) i % 4 = 0 := by
  have e : (2 : Int) ^ (n + 2) = 4 * 2 ^ n := by rw [two_succ, two_succ]; omega
  unfold lowA lowB
  rw [e, Int.mul_assoc, Int.mul_assoc]
  constructor <;> omega
end Go.Proofs.Ytpmipllohiiocaa.tr
namespace Go.Proofs.Ytpmipllohiiocaa.tr
open Go.RowKit Go.Proofs.Ytpmipllohiiocaa.PTreeBuilds Go.Proofs.YtpmipllohiiocaaW.PrintWords Go.Proofs.YtpmipllohiiocaaW.PrintLast Go.Proofs.YtpmipllohiiocaaW.PrintMore Go.Proofs.Ytpmipllohiiocaa.bs Go.ChangeShapes Go.Proofs.Ytpmipllohiiocaa.lb Go.Proofs.Ytpmipllohiiocaa.ar Go.Maps

/-- what build is handed: an arena, a map of leaves -/
structure BdIn (w0 w : World) (F : Nat → Prop) (p : Nat) (nodes : List Nd) (empty : List Int) (most : Int) (M nm : Nat) (D : DataW Unit) (G : Int → Int → Int) : Prop where
  tr : Tr w0 w F p nodes empty most
  own : OwnsL w M nm D
  map : MapIs D G
  mF : ¬ F M
  bd : ∀ a b, 0 ≤ G a b ∧ G a b < 4294967296
section
variable {w0 w w1 w2 w3 : World} {F F' F2 S : Nat → Prop} {p : Nat} {nodes nodes' nodes2 : List Nd} {empty empty' empty2 : List Int} {most : Int} {M nm : Nat} {D : DataW Unit} {G : Int → Int → Int}
theorem OwnsL.lt (h : OwnsL w M nm D) : M < w.heap.size := by
  obtain ⟨es, cl, hk, rest⟩ := h
  exact blk_lt hk
theorem OwnsL.other (h : OwnsL w M nm D) (hk : Keeps S w w1) (hd : ¬ S M) : OwnsL w1 M nm D := by
  have hl := h.lt
  obtain ⟨es, cl, hb, rest⟩ := h
  exact ⟨es, cl, (hk.block M hl hd).trans hb, rest⟩
theorem BdIn.below (h : BdIn w0 w F p nodes empty most M nm D G) (hb : Below w.heap.size w w1) : BdIn w0 w1 F p nodes empty most M nm D G :=
  ⟨h.tr.below hb, h.own.below hb, h.map, h.mF, h.bd⟩
theorem BdIn.other (h : BdIn w0 w F p nodes empty most M nm D G) (hk : Keeps S w w1) (hd : ∀ k, F k → ¬ S k) (hM : ¬ S M) : BdIn w0 w1 F p nodes empty most M nm D G :=
  ⟨h.tr.other hk hd, h.own.other hk hM, h.map, h.mF, h.bd⟩
theorem BdIn.step (h : BdIn w0 w F p nodes empty most M nm D G) (hs : Ste w0 w w1 F F' p nodes nodes' empty empty' most) : BdIn w0 w1 F' p nodes' empty' most M nm D G :=
  ⟨hs.tr, h.own.other hs.keeps h.mF, h.map, hs.notF h.own.lt h.mF, h.bd⟩
set_option maxRecDepth 100000 in
set_option maxHeartbeats 1000000 in
theorem build_none (hI : BdIn w0 w F p nodes empty most M nm D G) (n : Nat) (hn : n ≤ 42) (hN : nodes.length < 536870800) (A : Option Addr) (c : Nat) (la lb : Int) :
    Calls Try.prog 57 #[.pointer (some ⟨p, 0, none⟩), .int .i64 ((n : Int) + 2), .agg #[.int .i64 la, .int .i64 lb], .slice A 0 c, .map (some M)] w fun e w' => Gets w0 w F p nodes empty most (emptyQ n) 0 (∃ i, Rep nodes (emptyQ n) i) e w' := by
  have HE := Aside0.mk (tr_empty (hI.tr.below (below_alloc (Below.refl _ _) (.cells #[.int .i64 la, .int .i64 lb] 32))) n hn hN)
  clear hI
  go_enter Try.func57, Try.ntmps57
  go_wp2_with (go_at_call 55; refine HE.out.mono ?_; intro e w1 hg; obtain ⟨r, code, rfl, hg2⟩ := Gets.same hg; have HG := Aside0.mk hg2; clear hg hg2)
  go_ret2
  exact HG.out.from (below_alloc (Below.refl _ _) _)
set_option maxRecDepth 100000 in
set_option maxHeartbeats 1000000 in
theorem build_leaf (hI : BdIn w0 w F p nodes empty most M nm D G) (hN : nodes.length < 536870800) (ad : Addr) (c m : Nat) (hm : 0 < m) (la lb : Int) (q0 : w.cell? ad = some (.int .i64 la)) (q1 : w.cell? ⟨ad.block, ad.off + 1, none⟩ = some (.int .i64 lb)) (ha : I64 la) (hb : I64 lb) :
    Calls Try.prog 57 #[.pointer (some ⟨p, 0, none⟩), .int .i64 2, .agg #[.int .i64 la, .int .i64 lb], .slice (some ad) m c, .map (some M)] w fun e w' => Gets w0 w F p nodes empty most (.leaf (G la lb).toNat) 1 (∃ i, Rep nodes (.leaf (G la lb).toNat) i) e w' := by
  have hb1 := below_alloc (Below.refl w.heap.size w) (.cells #[.int .i64 la, .int .i64 lb] 32)
  have hbd := hI.bd la lb
  have hlf := tr_leaf (hI.tr.below hb1) (G la lb).toNat (by omega) (by omega)
  have hrun := (hI.own.below hb1).look hI.map ha hb
  rw [show G la lb = (((G la lb).toNat : Nat) : Int) by omega] at hrun
  have p0 := pw_cell_below hb1 q0
  have p1 := pw_cell_below hb1 q1
  have hne : ((m : Int) == 0) = false := by rw [beq_eq_false_iff_ne]; omega
  have hm' : (0 : Int) < (m : Int) := by omega
  have HL := Aside0.mk hlf
  generalize (G la lb).toNat = f at *
  clear hI hlf hbd hb1 ha hb q0 q1 hm
  go_enter Try.func57, Try.ntmps57
  go_wp2_with (go_at_call 53; refine HL.out.mono ?_; intro e w1 hg; obtain ⟨r, code, rfl, hg2⟩ := Gets.same hg; have HG := Aside0.mk hg2; clear hg hg2)
  go_ret2
  exact HG.out.from (below_alloc (Below.refl _ _) _)
end
end Go.Proofs.Ytpmipllohiiocaa.tr
