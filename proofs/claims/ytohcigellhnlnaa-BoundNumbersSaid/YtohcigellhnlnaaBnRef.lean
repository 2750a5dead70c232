/- The walks over the reference of layer 19. -/
import Derived.Test.YtohcigellhnlnaaBlPBoundRises
import Derived.Test.YtohcigellhnlnaaBase
namespace Go.Proofs.Ytohcigellhnlnaa.lawBoundNumbers
open Go.Proofs.Ytohcigellhnlnaa.bs Go.Proofs.YtohcigellhnlnaaW.PrintWords Go.Proofs.YtohcigellhnlnaaW.PrintLast Go.ChangeShapes Go.WideShapes Go.ChangeAt Go.RowKit Go.Proofs.Ytohcigellhnlnaa.PBoundRises Go.Proofs.Ytohcigellhnlnaa.blPBoundRises

theorem w64 (x : Int) (h : -9223372036854775808 ≤ x ∧ x < 9223372036854775808) : wrap64 x = x := by unfold wrap64; omega
set_option maxHeartbeats 1000000 in
theorem times_walk (a b : Int) (w : World) (ha : 0 ≤ a ∧ a < 18446744073709551616) (hb : 0 ≤ b ∧ b < 18446744073709551616) :
    Calls Try.prog 16 #[.int .u64 a, .int .u64 b] w fun e w' => e = .returned (.int .u64 (tm a b)) ∧ w = w' := by
  by_cases h0 : 0 < a
  · have hiff := Int.ediv_lt_iff_lt_mul (a := 4611686018427387904) (b := b) h0
    rw [Int.mul_comm b a] at hiff
    by_cases h1 : 4611686018427387904 / a < b
    · have ht : tm a b = 4611686018427387904 := by unfold tm; rw [if_pos (hiff.1 h1)]
      rw [ht]
      clear hiff ht
      go_enter Try.func16, Try.ntmps16
      go_wp2_with (fail)
      go_ret
      exact ⟨rfl, rfl⟩
    · have h2 : ¬ 4611686018427387904 < a * b := fun h => h1 (hiff.2 h)
      have h3 : 0 ≤ a * b := Int.mul_nonneg ha.1 hb.1
      have ht : tm a b = a * b := by unfold tm; rw [if_neg h2]
      have hw : IntKind.u64.wrap (a * b) = a * b := by rw [IntKind.wrap_u64]; omega
      rw [ht]
      clear hiff ht
      go_enter Try.func16, Try.ntmps16
      go_wp2_with (fail)
      all_goals go_ret
      all_goals
        refine ⟨congrArg (fun z => Ending.returned (.int .u64 z)) ?_, rfl⟩
        first
        | exact hw
        | (generalize a * b = ab at *; omega)
  · obtain rfl : a = 0 := by omega
    have ht : tm 0 b = 0 := by simp [tm]
    rw [ht]
    go_enter Try.func16, Try.ntmps16
    go_wp2_with (fail)
    go_ret
    exact ⟨rfl, rfl⟩
set_option maxHeartbeats 1000000 in
theorem generations_walk (n : Int) (w : World) :
    Calls Try.prog 15 #[.int .i64 n] w fun e w' => e = .returned (.int .u64 (gen n)) ∧ w = w' := by
  go_enter Try.func15, Try.ntmps15
  go_wp2_with (fail)
  all_goals go_ret
  all_goals exact ⟨congrArg (fun z => Ending.returned (.int .u64 z)) (by unfold gen; split <;> (try split) <;> omega), rfl⟩
theorem half_at (l : Int) (k : Nat) (hk : k ≤ 43) (h1 : k = 0 ∨ (k : Int) < l) (h2 : l ≤ (k : Int) + 1 ∨ k = 43) : half l = 2 ^ k := by
  unfold half
  congr 1
  split <;> (try split) <;> omega
set_option maxHeartbeats 1000000 in
theorem half_walk (l : Int) (w : World) :
    Calls Try.prog 22 #[.int .i64 l] w fun e w' => e = .returned (.int .i64 (half l)) ∧ w = w' := by
  go_enter Try.func22, Try.ntmps22
  go_wp2_with (fail)
  go_loopw [3, 4] (fun c3 c4 wr => ∃ k : Nat, c3 = .int .i64 (2 ^ k) ∧ c4 = .int .i64 ((k : Int) + 1) ∧ k ≤ 43 ∧ (k = 0 ∨ (k : Int) < l) ∧ wr = w) (fun _ c4 _ => 100 - (intOf c4).toNat)
  case atStart => exact ⟨0, rfl, rfl, by omega, .inl rfl, rfl⟩
  case round =>
    obtain ⟨k, rfl, rfl, hk, hkl, rfl⟩ := hrel
    have hp : (2 : Int) ^ k ≤ 2 ^ 43 := by exact_mod_cast Nat.pow_le_pow_right (by omega : 0 < 2) hk
    have hp0 : (0 : Int) < 2 ^ k := Int.pow_pos (by decide)
    have hp2 : (2 : Int) * 2 ^ k = 2 ^ (k + 1) := by rw [Int.pow_succ]; omega
    by_cases h1 : (k : Int) + 1 < l
    · by_cases h2 : (k : Int) + 1 < 44
      · have hw : wrap64 (2 * 2 ^ k) = 2 ^ (k + 1) := by rw [hp2]; exact w64 (2 ^ (k + 1)) (by omega)
        go_wp2_with (fail)
        refine ⟨⟨k + 1, by first | rfl | (rw [hw]), by go_num, by omega, .inr (by omega), by first | rfl | trivial⟩, by simp [intOf]; omega⟩
      · have hh := half_at l k hk hkl (.inr (by omega))
        go_wp2_with (fail)
        go_ret
        exact ⟨rfl, rfl⟩
    · have hh := half_at l k hk hkl (.inl (by omega))
      go_wp2_with (fail)
      go_ret
      exact ⟨rfl, rfl⟩
set_option maxHeartbeats 1000000 in
theorem inside_walk (l a b : Int) (w : World) (ha : -4611686018427387904 ≤ a ∧ a ≤ 4611686018427387904) (hb : -4611686018427387904 ≤ b ∧ b ≤ 4611686018427387904) :
    Calls Try.prog 18 #[.int .i64 l, .int .i64 a, .int .i64 b] w fun e w' => e = .returned (.bool (decide (a < half l ∧ b < half l ∧ -a ≤ half l ∧ -b ≤ half l))) ∧ w = w' := by
  obtain ⟨r, hr⟩ : ∃ r : Bool, r = decide (a < half l ∧ b < half l ∧ -a ≤ half l ∧ -b ≤ half l) := ⟨_, rfl⟩
  rw [← hr]
  have HR := Lib.hid hr
  clear hr
  by_cases c1 : a < half l
  · by_cases c2 : b < half l
    · by_cases c3 : -a ≤ half l
      all_goals
        go_enter Try.func18, Try.ntmps18
        go_wp2_with (first | (go_at_call 22; refine (half_walk _ _).mono ?_; rintro e w1 ⟨rfl, rfl⟩))
        go_ret
        exact ⟨ret_bool (by rw [HR.out]; simp [*] <;> omega), rfl⟩
    · go_enter Try.func18, Try.ntmps18
      go_wp2_with (first | (go_at_call 22; refine (half_walk _ _).mono ?_; rintro e w1 ⟨rfl, rfl⟩))
      go_ret
      exact ⟨ret_bool (by rw [HR.out]; simp [*] <;> omega), rfl⟩
  · go_enter Try.func18, Try.ntmps18
    go_wp2_with (first | (go_at_call 22; refine (half_walk _ _).mono ?_; rintro e w1 ⟨rfl, rfl⟩))
    go_ret
    exact ⟨ret_bool (by rw [HR.out]; simp [*] <;> omega), rfl⟩

/-! the algebra of what is cut off -/
theorem tm_cap (a b : Int) : tm a b = cap (a * b) := by unfold tm cap; rfl
theorem cap_mul (x y : Int) (hx : 0 ≤ x) (hy : 0 ≤ y) : cap (cap x * y) = cap (x * y) := by
  unfold cap
  by_cases h : 4611686018427387904 < x
  · rw [if_pos h]
    by_cases h0 : y = 0
    · subst h0; simp
    · have h1 : 4611686018427387904 * y ≥ 4611686018427387904 := by omega
      have h2 : x * y ≥ 4611686018427387905 := by
        have : 4611686018427387905 * y ≤ x * y := Int.mul_le_mul_of_nonneg_right (by omega) hy
        omega
      generalize x * y = z at *
      split <;> split <;> omega
  · rw [if_neg h]
theorem cap_mul_r (x y : Int) (hx : 0 ≤ x) (hy : 0 ≤ y) : cap (x * cap y) = cap (x * y) := by
  rw [Int.mul_comm, cap_mul y x hy hx, Int.mul_comm]
def rcellsV (p n : Int) : Int := tm (tm 2 (cap p)) (tm (2 * gen n + 1) (2 * gen n + 1))
theorem rcells_eq (p n : Int) (hp : 0 ≤ p) : rcellsV p n = cellsV p n := by
  have hg := gen_bd n
  have hc := cap_bd hp
  unfold rcellsV cellsV
  simp only [tm_cap]
  have hs : 0 ≤ 2 * gen n + 1 := by omega
  generalize cap p = q at *
  generalize 2 * gen n + 1 = s at *
  have h1 : 0 ≤ q * s := Int.mul_nonneg hc.1 hs
  have e1 : cap (1 * 2) = 2 := by decide
  rw [e1, cap_mul_r _ _ (by have := cap_bd (p := 2 * q) (by omega); omega) (Int.mul_nonneg hs hs), cap_mul _ _ (by omega) (Int.mul_nonneg hs hs)]
  rw [cap_mul (2 * q) s (by omega) hs, cap_mul _ s (Int.mul_nonneg (by omega) hs) hs, Int.mul_assoc (2 * q)]
def rnodesV (p n e : Int) : Int :=
  cap (cap (tm (tm 4 (cellsV p n)) (tm (levelV e n) (gen n + 21)) + tm (cap p) (levelV e n)) + 12000)
theorem rnodes_eq (p n e : Int) (hp : 0 ≤ p) : rnodesV p n e = nodesV p n e := by
  have hg := gen_bd n
  have hc := cap_bd hp
  have hl := level_bd e n
  have hq := cells_bd p n hp
  unfold rnodesV nodesV
  have e1 : tm 1 (cap p) = cap p := by rw [tm_cap, Int.one_mul, cap_id (by omega)]
  have e2 : tm (tm 4 (cellsV p n)) (tm (levelV e n) (gen n + 21)) = tm (tm (tm (tm 1 4) (cellsV p n)) (levelV e n)) (gen n + 21) := by
    simp only [tm_cap]
    have hs : 0 ≤ gen n + 21 := by omega
    generalize cellsV p n = q at *
    generalize levelV e n = m at *
    generalize gen n + 21 = s at *
    have hm : 0 ≤ m := by omega
    have e1 : cap (1 * 4) = 4 := by decide
    rw [e1, cap_mul_r _ _ (by have := cap_bd (p := 4 * q) (by omega); omega) (Int.mul_nonneg hm hs), cap_mul _ _ (by omega) (Int.mul_nonneg hm hs)]
    rw [cap_mul (4 * q) m (by omega) hm, cap_mul _ s (Int.mul_nonneg (by omega) hm) hs, Int.mul_assoc (4 * q)]
  rw [e1, e2]
set_option maxHeartbeats 1000000 in
theorem rcells_walk (p n : Int) (w : World) (hp : 0 ≤ p ∧ p < 18446744073709551616) :
    Calls Try.prog 8 #[.int .u64 p, .int .i64 n] w fun e w' => e = .returned (.int .u64 (cellsV p n)) ∧ w = w' := by
  rw [← rcells_eq p n hp.1]
  unfold rcellsV
  have hg := gen_bd n
  have t2 := tm_bd (a := 2 * gen n + 1) (b := 2 * gen n + 1) (by omega) (by omega)
  by_cases h : 4611686018427387904 < p
  · have hc : cap p = 4611686018427387904 := by unfold cap; rw [if_pos h]
    rw [hc]
    have t1 := tm_bd (a := 2) (b := 4611686018427387904) (by omega) (by omega)
    go_enter Try.func8, Try.ntmps8
    go_wp2_with (first | (go_at_call 15; refine (generations_walk _ _).mono ?_; rintro e w1 ⟨rfl, rfl⟩) | (go_at_call 16; refine (times_walk _ _ _ (by omega) (by omega)).mono ?_; rintro e w1 ⟨rfl, rfl⟩))
    go_ret
    exact ⟨rfl, rfl⟩
  · have hc : cap p = p := by unfold cap; rw [if_neg h]
    rw [hc]
    have t1 := tm_bd (a := 2) (b := p) (by omega) (by omega)
    go_enter Try.func8, Try.ntmps8
    go_wp2_with (first | (go_at_call 15; refine (generations_walk _ _).mono ?_; rintro e w1 ⟨rfl, rfl⟩) | (go_at_call 16; refine (times_walk _ _ _ (by omega) (by omega)).mono ?_; rintro e w1 ⟨rfl, rfl⟩))
    go_ret
    exact ⟨rfl, rfl⟩
theorem least_step (P : Int → Prop) [DecidablePred P] (d : Nat) (l : Int) (h : ¬ P l) : least P (d + 1) l = least P d (l + 1) := by
  rw [least, if_neg h]
theorem least_here (P : Int → Prop) [DecidablePred P] (d : Nat) (l : Int) (h : P l) : least P d l = l := by
  cases d with
  | zero => rfl
  | succ d => rw [least, if_pos h]
theorem least_zero (P : Int → Prop) [DecidablePred P] (l : Int) : least P 0 l = l := rfl
theorem inside_lvl (F : Int) (l : Int) (w : World) (hF : 0 ≤ F ∧ F ≤ 4611686018427387904) :
    Calls Try.prog 18 #[.int .i64 l, .int .i64 (-F), .int .i64 F] w fun e w' => e = .returned (.bool (decide (F < half l))) ∧ w = w' := by
  have h := half_bd l
  have e : decide (F < half l) = decide (-F < half l ∧ F < half l ∧ - -F ≤ half l ∧ -F ≤ half l) := by
    rw [decide_eq_decide]; omega
  rw [e]
  exact inside_walk l (-F) F w (by omega) (by omega)
set_option maxHeartbeats 4000000 in
theorem rlevel_walk (e n : Int) (w : World) :
    Calls Try.prog 10 #[.int .i64 e, .int .i64 n] w fun e' w' => e' = .returned (.int .i64 (levelV e n)) ∧ w = w' := by
  have hg := gen_bd n
  by_cases c1 : e ≤ 0
  · have hl : levelV e n = if lvl (gen n) + 2 > 44 then 44 else lvl (gen n) + 2 := by
      unfold levelV farV
      rw [show (if e < 0 then 0 else if e > 2305843009213693952 then 2305843009213693952 else e) = 0 by split <;> (try split) <;> omega, Int.zero_add]
    rw [hl]
    go_enter Try.func10, Try.ntmps10
    go_wp2_with (first | (go_at_call 15; refine (generations_walk _ _).mono ?_; rintro e w1 ⟨rfl, rfl⟩))
    go_loopw [6] (fun c6 wr => ∃ l : Nat, c6 = .int .i64 l ∧ 3 ≤ l ∧ l ≤ 44 ∧ least (fun i => gen n < half i) (44 - l) l = lvl (gen n) ∧ wr = w) (fun c6 _ => 100 - (intOf c6).toNat)
    case atStart => exact ⟨3, rfl, by omega, by omega, rfl, rfl⟩
    case round =>
      obtain ⟨l, rfl, h3, h44, hle, rfl⟩ := hrel
      have Hle := Lib.hid hle
      clear hle
      have hi := inside_lvl (gen n) l wr (by omega)
      by_cases d1 : (l : Int) < 44
      · by_cases d2 : gen n < half l
        · have hres : lvl (gen n) = l := by rw [← Hle.out]; exact least_here _ _ _ d2
          rw [decide_eq_true d2] at hi
          rw [hres]
          go_wp2_with (first | (go_at_call 18; refine hi.mono ?_; rintro e w1 ⟨rfl, rfl⟩))
          all_goals go_ret
          all_goals exact ⟨congrArg (fun z => Ending.returned (.int .i64 z)) (by (try split) <;> omega), rfl⟩
        · rw [decide_eq_false d2] at hi
          have hst : least (fun i => gen n < half i) (44 - (l + 1)) ((l + 1 : Nat) : Int) = lvl (gen n) := by
            rw [← Hle.out, show 44 - l = (44 - (l + 1)) + 1 by omega, least_step (fun i => gen n < half i) _ _ d2]; rfl
          go_wp2_with (first | (go_at_call 18; refine hi.mono ?_; rintro e w1 ⟨rfl, rfl⟩))
          exact ⟨⟨l + 1, by go_num, by omega, by omega, hst, by first | rfl | trivial⟩, by simp [intOf]; omega⟩
      · have e44 : l = 44 := by omega
        subst e44
        have hres : lvl (gen n) = 44 := by rw [← Hle.out]; rfl
        rw [hres]
        go_wp2_with (fail)
        all_goals go_ret
        all_goals exact ⟨congrArg (fun z => Ending.returned (.int .i64 z)) (by (try split) <;> omega), rfl⟩
  · by_cases c2 : 2305843009213693952 < e
    · have hl : levelV e n = if lvl (2305843009213693952 + gen n) + 2 > 44 then 44 else lvl (2305843009213693952 + gen n) + 2 := by unfold levelV farV; rw [show (if e < 0 then 0 else if e > 2305843009213693952 then 2305843009213693952 else e) = 2305843009213693952 by split <;> (try split) <;> omega]
      rw [hl]
      go_enter Try.func10, Try.ntmps10
      go_wp2_with (first | (go_at_call 15; refine (generations_walk _ _).mono ?_; rintro e w1 ⟨rfl, rfl⟩))
      go_loopw [6] (fun c6 wr => ∃ l : Nat, c6 = .int .i64 l ∧ 3 ≤ l ∧ l ≤ 44 ∧ least (fun i => 2305843009213693952 + gen n < half i) (44 - l) l = lvl (2305843009213693952 + gen n) ∧ wr = w) (fun c6 _ => 100 - (intOf c6).toNat)
      case atStart => exact ⟨3, rfl, by omega, by omega, rfl, rfl⟩
      case round =>
        obtain ⟨l, rfl, h3, h44, hle, rfl⟩ := hrel
        have Hle := Lib.hid hle
        clear hle
        have hi := inside_lvl (2305843009213693952 + gen n) l wr (by omega)
        by_cases d1 : (l : Int) < 44
        · by_cases d2 : 2305843009213693952 + gen n < half l
          · have hres : lvl (2305843009213693952 + gen n) = l := by rw [← Hle.out]; exact least_here _ _ _ d2
            rw [decide_eq_true d2] at hi
            rw [hres]
            go_wp2_with (first | (go_at_call 18; refine hi.mono ?_; rintro e w1 ⟨rfl, rfl⟩))
            all_goals go_ret
            all_goals exact ⟨congrArg (fun z => Ending.returned (.int .i64 z)) (by (try split) <;> omega), rfl⟩
          · rw [decide_eq_false d2] at hi
            have hst : least (fun i => 2305843009213693952 + gen n < half i) (44 - (l + 1)) ((l + 1 : Nat) : Int) = lvl (2305843009213693952 + gen n) := by
              rw [← Hle.out, show 44 - l = (44 - (l + 1)) + 1 by omega, least_step (fun i => 2305843009213693952 + gen n < half i) _ _ d2]; rfl
            go_wp2_with (first | (go_at_call 18; refine hi.mono ?_; rintro e w1 ⟨rfl, rfl⟩))
            exact ⟨⟨l + 1, by go_num, by omega, by omega, hst, by first | rfl | trivial⟩, by simp [intOf]; omega⟩
        · have e44 : l = 44 := by omega
          subst e44
          have hres : lvl (2305843009213693952 + gen n) = 44 := by rw [← Hle.out]; rfl
          rw [hres]
          go_wp2_with (fail)
          all_goals go_ret
          all_goals exact ⟨congrArg (fun z => Ending.returned (.int .i64 z)) (by (try split) <;> omega), rfl⟩
    · have hl : levelV e n = if lvl (e + gen n) + 2 > 44 then 44 else lvl (e + gen n) + 2 := by unfold levelV farV; rw [show (if e < 0 then 0 else if e > 2305843009213693952 then 2305843009213693952 else e) = e by split <;> (try split) <;> omega]
      rw [hl]
      go_enter Try.func10, Try.ntmps10
      go_wp2_with (first | (go_at_call 15; refine (generations_walk _ _).mono ?_; rintro e w1 ⟨rfl, rfl⟩))
      go_loopw [6] (fun c6 wr => ∃ l : Nat, c6 = .int .i64 l ∧ 3 ≤ l ∧ l ≤ 44 ∧ least (fun i => e + gen n < half i) (44 - l) l = lvl (e + gen n) ∧ wr = w) (fun c6 _ => 100 - (intOf c6).toNat)
      case atStart => exact ⟨3, rfl, by omega, by omega, rfl, rfl⟩
      case round =>
        obtain ⟨l, rfl, h3, h44, hle, rfl⟩ := hrel
        have Hle := Lib.hid hle
        clear hle
        have hi := inside_lvl (e + gen n) l wr (by omega)
        by_cases d1 : (l : Int) < 44
        · by_cases d2 : e + gen n < half l
          · have hres : lvl (e + gen n) = l := by rw [← Hle.out]; exact least_here _ _ _ d2
            rw [decide_eq_true d2] at hi
            rw [hres]
            go_wp2_with (first | (go_at_call 18; refine hi.mono ?_; rintro e w1 ⟨rfl, rfl⟩))
            all_goals go_ret
            all_goals exact ⟨congrArg (fun z => Ending.returned (.int .i64 z)) (by (try split) <;> omega), rfl⟩
          · rw [decide_eq_false d2] at hi
            have hst : least (fun i => e + gen n < half i) (44 - (l + 1)) ((l + 1 : Nat) : Int) = lvl (e + gen n) := by
              rw [← Hle.out, show 44 - l = (44 - (l + 1)) + 1 by omega, least_step (fun i => e + gen n < half i) _ _ d2]; rfl
            go_wp2_with (first | (go_at_call 18; refine hi.mono ?_; rintro e w1 ⟨rfl, rfl⟩))
            exact ⟨⟨l + 1, by go_num, by omega, by omega, hst, by first | rfl | trivial⟩, by simp [intOf]; omega⟩
        · have e44 : l = 44 := by omega
          subst e44
          have hres : lvl (e + gen n) = 44 := by rw [← Hle.out]; rfl
          rw [hres]
          go_wp2_with (fail)
          all_goals go_ret
          all_goals exact ⟨congrArg (fun z => Ending.returned (.int .i64 z)) (by (try split) <;> omega), rfl⟩
set_option maxHeartbeats 4000000 in
theorem rnodes_walk (p n e : Int) (w : World) (hp : 0 ≤ p ∧ p < 18446744073709551616) :
    Calls Try.prog 12 #[.int .u64 p, .int .i64 n, .int .i64 e] w fun e' w' => e' = .returned (.int .u64 (nodesV p n e)) ∧ w = w' := by
  rw [← rnodes_eq p n e hp.1]
  unfold rnodesV
  have hg := gen_bd n
  have hl := level_bd e n
  have hc := cells_bd p n hp.1
  have t1 := tm_bd (a := 4) (b := cellsV p n) (by omega) (by omega)
  have t2 := tm_bd (a := levelV e n) (b := gen n + 21) (by omega) (by omega)
  have t3 := tm_bd (a := tm 4 (cellsV p n)) (b := tm (levelV e n) (gen n + 21)) (by omega) (by omega)
  have hq := cap_bd hp.1
  have t4 := tm_bd (a := cap p) (b := levelV e n) (by omega) (by omega)
  by_cases h : 4611686018427387904 < p
  · have hc : cap p = 4611686018427387904 := by unfold cap; rw [if_pos h]
    rw [hc] at t4 ⊢
    go_enter Try.func12, Try.ntmps12
    go_wp2_with (first | (go_at_call 15; refine (generations_walk _ _).mono ?_; rintro e w1 ⟨rfl, rfl⟩) | (go_at_call 10; refine (rlevel_walk _ _ _).mono ?_; rintro e w1 ⟨rfl, rfl⟩) | (go_at_call 8; refine (rcells_walk _ _ _ hp).mono ?_; rintro e w1 ⟨rfl, rfl⟩) | (go_at_call 16; refine (times_walk _ _ _ (by omega) (by omega)).mono ?_; rintro e w1 ⟨rfl, rfl⟩))
    all_goals go_ret
    all_goals exact ⟨congrArg (fun z => Ending.returned (.int .u64 z)) (by unfold cap; split <;> (try split) <;> omega), rfl⟩
  · have hc : cap p = p := by unfold cap; rw [if_neg h]
    rw [hc] at t4 ⊢
    go_enter Try.func12, Try.ntmps12
    go_wp2_with (first | (go_at_call 15; refine (generations_walk _ _).mono ?_; rintro e w1 ⟨rfl, rfl⟩) | (go_at_call 10; refine (rlevel_walk _ _ _).mono ?_; rintro e w1 ⟨rfl, rfl⟩) | (go_at_call 8; refine (rcells_walk _ _ _ hp).mono ?_; rintro e w1 ⟨rfl, rfl⟩) | (go_at_call 16; refine (times_walk _ _ _ (by omega) (by omega)).mono ?_; rintro e w1 ⟨rfl, rfl⟩))
    all_goals go_ret
    all_goals exact ⟨congrArg (fun z => Ending.returned (.int .u64 z)) (by unfold cap; split <;> (try split) <;> omega), rfl⟩
end Go.Proofs.Ytohcigellhnlnaa.lawBoundNumbers
