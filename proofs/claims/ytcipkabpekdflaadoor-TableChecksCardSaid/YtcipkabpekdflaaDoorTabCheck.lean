/- The walk over Check of a table. -/
import Derived.Test.YtcipkabpekdflaaDoorTabChkPure
import Derived.Test.YtcipkabpekdflaaDoorErrAs
namespace Go.Proofs.YtcipkabpekdflaaDoor.ts
open Go.RowKit Go.Proofs.YtcipkabpekdflaaDoorW.PrintWords Go.Proofs.YtcipkabpekdflaaDoorW.PrintLast Go.Proofs.YtcipkabpekdflaaDoorW.PrintMore Go.Proofs.YtcipkabpekdflaaDoor.bs Go.ChangeShapes Go.Proofs.YtcipkabpekdflaaDoor.PTableChecks

theorem good_walk (l : Int) (w : World) : Calls Tryd.prog 16 #[.int .i64 l] w fun e w' => e = .returned (.bool (decide (1 ≤ l ∧ l ≤ 3))) ∧ w = w' := by
  by_cases h : 1 ≤ l
  · go_enter Tryd.func16, Tryd.ntmps16
    go_wp2_with (fail)
    go_ret
    exact ⟨ret_bool (by simp [h]), rfl⟩
  · go_enter Tryd.func16, Tryd.ntmps16
    go_wp2_with (fail)
    go_ret
    exact ⟨ret_bool (by simp; omega), rfl⟩
theorem most_walk (l : Int) (h : l = 1 ∨ l = 2 ∨ l = 3) (w : World) : Calls Tryd.prog 17 #[.int .i64 l] w fun e w' => e = .returned (.int .i64 (mostI l)) ∧ w = w' := by
  rcases h with rfl | rfl | rfl <;>
  · go_enter Tryd.func17, Tryd.ntmps17
    go_wp2_with (fail)
    go_ret
    exact ⟨rfl, rfl⟩
def halvesI (l : Int) : Int := if l = 1 then 1 else 2
theorem halves_walk (l : Int) (h : l = 1 ∨ l = 2 ∨ l = 3) (w : World) : Calls Tryd.prog 18 #[.int .i64 l] w fun e w' => e = .returned (.int .i64 (halvesI l)) ∧ w = w' := by
  rcases h with rfl | rfl | rfl <;>
  · go_enter Tryd.func18, Tryd.ntmps18
    go_wp2_with (fail)
    go_ret
    exact ⟨rfl, rfl⟩
set_option maxHeartbeats 2000000 in
theorem tcheck_walk (l b0 b1 s0 s1 : Int) (hb0 : 0 ≤ b0 ∧ b0 < 18446744073709551616) (hb1 : 0 ≤ b1 ∧ b1 < 18446744073709551616) (hs0 : 0 ≤ s0 ∧ s0 < 18446744073709551616) (hs1 : 0 ≤ s1 ∧ s1 < 18446744073709551616) (w : World) :
    Calls Tryd.prog 7 #[tabV l b0 b1 s0 s1] w fun e w' => e = .returned (ec.errV (refCode l b0 b1 s0 s1)) ∧ Below w.heap.size w w' := by
  unfold tabV
  have K := Aside0.mk (blk_new w (.cells #[.int .i64 l, .int .u64 b0, .int .u64 b1, .int .u64 s0, .int .u64 s1] 29))
  have HB := Aside0.mk (below_alloc (Below.refl w.heap.size w) (.cells #[.int .i64 l, .int .u64 b0, .int .u64 b1, .int .u64 s0, .int .u64 s1] 29))
  by_cases hl : l < 1 ∨ 3 < l
  · have hg := good_walk l
    rw [decide_eq_false (show ¬ (1 ≤ l ∧ l ≤ 3) by omega)] at hg
    have hr : refCode l b0 b1 s0 s1 = 11 := if_pos hl
    rw [hr, show ec.errV 11 = .iface 31 (.int .i64 11) from rfl]
    clear hl hr
    go_enter Tryd.func7, Tryd.ntmps7
    go_wp2_with (fail)
    refine (hg _).mono ?_; rintro e w1 ⟨rfl, rfl⟩
    go_wp2_with (fail)
    go_ret
    exact ⟨rfl, HB.out⟩
  · have h123 : l = 1 ∨ l = 2 ∨ l = 3 := by omega
    rcases h123 with rfl | rfl | rfl
    · have hg := good_walk 1
      have hm := most_walk 1 (by decide)
      have hh := halves_walk 1 (by decide)
      rw [show decide ((1 : Int) ≤ 1 ∧ (1 : Int) ≤ 3) = true by decide] at hg
      rw [show mostI 1 = 63 from rfl] at hm
      rw [show halvesI 1 = 1 from rfl] at hh
      have t0 := bad_tells 1 b0 b1 s0 s1 (by decide) 0 (by decide) hb0 hs0
      have t1 := bad_tells 1 b0 b1 s0 s1 (by decide) 1 (by decide) hb1 hs1
      have hr : refCode 1 b0 b1 s0 s1 = if refBad (mostI 1) 1 b0 b1 s0 s1 0 || refBad (mostI 1) 1 b0 b1 s0 s1 1 then 5 else 0 := if_neg (by decide)
      rw [t0, t1] at hr
      have hr2 : refCode 1 b0 b1 s0 s1 = if (decide (Go.bits .and .u64 b0 1 ≠ 0) || decide (Go.bits .and .u64 s0 0 ≠ 0)) || (decide (Go.bits .and .u64 b1 18446744073709551615 ≠ 0) || decide (Go.bits .and .u64 s1 18446744073709551615 ≠ 0)) then 5 else 0 := hr
      have o1 : Go.bits .or .u64 0 1 = 1 := by decide +kernel
      have o2 : Go.bits .or .u64 18446744073709551615 1 = 18446744073709551615 := by decide +kernel
      have o3 : Go.bits .or .u64 18446744073709551600 1 = 18446744073709551601 := by decide +kernel
      have o4 : Go.bits .or .u64 18446744073709543424 1 = 18446744073709543425 := by decide +kernel
      have o5 : IntKind.u64.wrap 295147905179352825840 = 18446744073709551600 := by rw [IntKind.wrap_u64]; decide
      have o6 : IntKind.u64.wrap 151115727451828646830080 = 18446744073709543424 := by rw [IntKind.wrap_u64]; decide
      have HR := Aside0.mk hr2
      clear hl t0 t1 hr hr2
      by_cases A0 : Go.bits .and .u64 b0 1 = 0
      · by_cases C0 : Go.bits .and .u64 s0 0 = 0
        · by_cases A1 : Go.bits .and .u64 b1 18446744073709551615 = 0
          · by_cases C1 : Go.bits .and .u64 s1 18446744073709551615 = 0
            · have HE := Aside0.mk (show refCode 1 b0 b1 s0 s1 = 0 by rw [HR.out]; simp [A0, C0, A1, C1])
              rw [show ec.errV (refCode 1 b0 b1 s0 s1) = .nilIface by rw [HE.out]; rfl]
              clear HE
              go_enter Tryd.func7, Tryd.ntmps7
              go_wp2_with (first | (go_at_call 16; refine (hg _).mono ?_; rintro e w1 ⟨rfl, rfl⟩) | (go_at_call 17; refine (hm _).mono ?_; rintro e w1 ⟨rfl, rfl⟩) | (go_at_call 18; refine (hh _).mono ?_; rintro e w1 ⟨rfl, rfl⟩))
              refine wp_loop_rounds 3 ?_
              rw [rounds_succ]
              go_wp2_with (first | (go_at_call 16; refine (hg _).mono ?_; rintro e w1 ⟨rfl, rfl⟩) | (go_at_call 17; refine (hm _).mono ?_; rintro e w1 ⟨rfl, rfl⟩) | (go_at_call 18; refine (hh _).mono ?_; rintro e w1 ⟨rfl, rfl⟩))
              rw [rounds_succ]
              go_wp2_with (first | (go_at_call 16; refine (hg _).mono ?_; rintro e w1 ⟨rfl, rfl⟩) | (go_at_call 17; refine (hm _).mono ?_; rintro e w1 ⟨rfl, rfl⟩) | (go_at_call 18; refine (hh _).mono ?_; rintro e w1 ⟨rfl, rfl⟩))
              rw [rounds_succ]
              go_wp2_with (first | (go_at_call 16; refine (hg _).mono ?_; rintro e w1 ⟨rfl, rfl⟩) | (go_at_call 17; refine (hm _).mono ?_; rintro e w1 ⟨rfl, rfl⟩) | (go_at_call 18; refine (hh _).mono ?_; rintro e w1 ⟨rfl, rfl⟩))
              go_ret
              exact ⟨rfl, HB.out⟩
            · have HE := Aside0.mk (show refCode 1 b0 b1 s0 s1 = 5 by rw [HR.out]; simp [C1])
              rw [show ec.errV (refCode 1 b0 b1 s0 s1) = .iface 31 (.int .i64 5) by rw [HE.out]; rfl]
              clear HE
              go_enter Tryd.func7, Tryd.ntmps7
              go_wp2_with (first | (go_at_call 16; refine (hg _).mono ?_; rintro e w1 ⟨rfl, rfl⟩) | (go_at_call 17; refine (hm _).mono ?_; rintro e w1 ⟨rfl, rfl⟩) | (go_at_call 18; refine (hh _).mono ?_; rintro e w1 ⟨rfl, rfl⟩))
              refine wp_loop_rounds 3 ?_
              rw [rounds_succ]
              go_wp2_with (first | (go_at_call 16; refine (hg _).mono ?_; rintro e w1 ⟨rfl, rfl⟩) | (go_at_call 17; refine (hm _).mono ?_; rintro e w1 ⟨rfl, rfl⟩) | (go_at_call 18; refine (hh _).mono ?_; rintro e w1 ⟨rfl, rfl⟩))
              rw [rounds_succ]
              go_wp2_with (first | (go_at_call 16; refine (hg _).mono ?_; rintro e w1 ⟨rfl, rfl⟩) | (go_at_call 17; refine (hm _).mono ?_; rintro e w1 ⟨rfl, rfl⟩) | (go_at_call 18; refine (hh _).mono ?_; rintro e w1 ⟨rfl, rfl⟩))
              go_ret
              exact ⟨rfl, HB.out⟩
          · have HE := Aside0.mk (show refCode 1 b0 b1 s0 s1 = 5 by rw [HR.out]; simp [A1])
            rw [show ec.errV (refCode 1 b0 b1 s0 s1) = .iface 31 (.int .i64 5) by rw [HE.out]; rfl]
            clear HE
            go_enter Tryd.func7, Tryd.ntmps7
            go_wp2_with (first | (go_at_call 16; refine (hg _).mono ?_; rintro e w1 ⟨rfl, rfl⟩) | (go_at_call 17; refine (hm _).mono ?_; rintro e w1 ⟨rfl, rfl⟩) | (go_at_call 18; refine (hh _).mono ?_; rintro e w1 ⟨rfl, rfl⟩))
            refine wp_loop_rounds 3 ?_
            rw [rounds_succ]
            go_wp2_with (first | (go_at_call 16; refine (hg _).mono ?_; rintro e w1 ⟨rfl, rfl⟩) | (go_at_call 17; refine (hm _).mono ?_; rintro e w1 ⟨rfl, rfl⟩) | (go_at_call 18; refine (hh _).mono ?_; rintro e w1 ⟨rfl, rfl⟩))
            rw [rounds_succ]
            go_wp2_with (first | (go_at_call 16; refine (hg _).mono ?_; rintro e w1 ⟨rfl, rfl⟩) | (go_at_call 17; refine (hm _).mono ?_; rintro e w1 ⟨rfl, rfl⟩) | (go_at_call 18; refine (hh _).mono ?_; rintro e w1 ⟨rfl, rfl⟩))
            go_ret
            exact ⟨rfl, HB.out⟩
        · have HE := Aside0.mk (show refCode 1 b0 b1 s0 s1 = 5 by rw [HR.out]; simp [C0])
          rw [show ec.errV (refCode 1 b0 b1 s0 s1) = .iface 31 (.int .i64 5) by rw [HE.out]; rfl]
          clear HE
          go_enter Tryd.func7, Tryd.ntmps7
          go_wp2_with (first | (go_at_call 16; refine (hg _).mono ?_; rintro e w1 ⟨rfl, rfl⟩) | (go_at_call 17; refine (hm _).mono ?_; rintro e w1 ⟨rfl, rfl⟩) | (go_at_call 18; refine (hh _).mono ?_; rintro e w1 ⟨rfl, rfl⟩))
          refine wp_loop_rounds 3 ?_
          rw [rounds_succ]
          go_wp2_with (first | (go_at_call 16; refine (hg _).mono ?_; rintro e w1 ⟨rfl, rfl⟩) | (go_at_call 17; refine (hm _).mono ?_; rintro e w1 ⟨rfl, rfl⟩) | (go_at_call 18; refine (hh _).mono ?_; rintro e w1 ⟨rfl, rfl⟩))
          go_ret
          exact ⟨rfl, HB.out⟩
      · have HE := Aside0.mk (show refCode 1 b0 b1 s0 s1 = 5 by rw [HR.out]; simp [A0])
        rw [show ec.errV (refCode 1 b0 b1 s0 s1) = .iface 31 (.int .i64 5) by rw [HE.out]; rfl]
        clear HE
        go_enter Tryd.func7, Tryd.ntmps7
        go_wp2_with (first | (go_at_call 16; refine (hg _).mono ?_; rintro e w1 ⟨rfl, rfl⟩) | (go_at_call 17; refine (hm _).mono ?_; rintro e w1 ⟨rfl, rfl⟩) | (go_at_call 18; refine (hh _).mono ?_; rintro e w1 ⟨rfl, rfl⟩))
        refine wp_loop_rounds 3 ?_
        rw [rounds_succ]
        go_wp2_with (first | (go_at_call 16; refine (hg _).mono ?_; rintro e w1 ⟨rfl, rfl⟩) | (go_at_call 17; refine (hm _).mono ?_; rintro e w1 ⟨rfl, rfl⟩) | (go_at_call 18; refine (hh _).mono ?_; rintro e w1 ⟨rfl, rfl⟩))
        go_ret
        exact ⟨rfl, HB.out⟩
    · have hg := good_walk 2
      have hm := most_walk 2 (by decide)
      have hh := halves_walk 2 (by decide)
      rw [show decide ((1 : Int) ≤ 2 ∧ (2 : Int) ≤ 3) = true by decide] at hg
      rw [show mostI 2 = 3 from rfl] at hm
      rw [show halvesI 2 = 2 from rfl] at hh
      have t0 := bad_tells 2 b0 b1 s0 s1 (by decide) 0 (by decide) hb0 hs0
      have t1 := bad_tells 2 b0 b1 s0 s1 (by decide) 1 (by decide) hb1 hs1
      have hr : refCode 2 b0 b1 s0 s1 = if refBad (mostI 2) 2 b0 b1 s0 s1 0 || refBad (mostI 2) 2 b0 b1 s0 s1 1 then 5 else 0 := if_neg (by decide)
      rw [t0, t1] at hr
      have hr2 : refCode 2 b0 b1 s0 s1 = if (decide (Go.bits .and .u64 b0 18446744073709551601 ≠ 0) || decide (Go.bits .and .u64 s0 18446744073709551600 ≠ 0)) || (decide (Go.bits .and .u64 b1 18446744073709551601 ≠ 0) || decide (Go.bits .and .u64 s1 18446744073709551600 ≠ 0)) then 5 else 0 := hr
      have o1 : Go.bits .or .u64 0 1 = 1 := by decide +kernel
      have o2 : Go.bits .or .u64 18446744073709551615 1 = 18446744073709551615 := by decide +kernel
      have o3 : Go.bits .or .u64 18446744073709551600 1 = 18446744073709551601 := by decide +kernel
      have o4 : Go.bits .or .u64 18446744073709543424 1 = 18446744073709543425 := by decide +kernel
      have o5 : IntKind.u64.wrap 295147905179352825840 = 18446744073709551600 := by rw [IntKind.wrap_u64]; decide
      have o6 : IntKind.u64.wrap 151115727451828646830080 = 18446744073709543424 := by rw [IntKind.wrap_u64]; decide
      have HR := Aside0.mk hr2
      clear hl t0 t1 hr hr2
      by_cases A0 : Go.bits .and .u64 b0 18446744073709551601 = 0
      · by_cases C0 : Go.bits .and .u64 s0 18446744073709551600 = 0
        · by_cases A1 : Go.bits .and .u64 b1 18446744073709551601 = 0
          · by_cases C1 : Go.bits .and .u64 s1 18446744073709551600 = 0
            · have HE := Aside0.mk (show refCode 2 b0 b1 s0 s1 = 0 by rw [HR.out]; simp [A0, C0, A1, C1])
              rw [show ec.errV (refCode 2 b0 b1 s0 s1) = .nilIface by rw [HE.out]; rfl]
              clear HE
              go_enter Tryd.func7, Tryd.ntmps7
              go_wp2_with (first | (go_at_call 16; refine (hg _).mono ?_; rintro e w1 ⟨rfl, rfl⟩) | (go_at_call 17; refine (hm _).mono ?_; rintro e w1 ⟨rfl, rfl⟩) | (go_at_call 18; refine (hh _).mono ?_; rintro e w1 ⟨rfl, rfl⟩))
              refine wp_loop_rounds 3 ?_
              rw [rounds_succ]
              go_wp2_with (first | (go_at_call 16; refine (hg _).mono ?_; rintro e w1 ⟨rfl, rfl⟩) | (go_at_call 17; refine (hm _).mono ?_; rintro e w1 ⟨rfl, rfl⟩) | (go_at_call 18; refine (hh _).mono ?_; rintro e w1 ⟨rfl, rfl⟩))
              rw [rounds_succ]
              go_wp2_with (first | (go_at_call 16; refine (hg _).mono ?_; rintro e w1 ⟨rfl, rfl⟩) | (go_at_call 17; refine (hm _).mono ?_; rintro e w1 ⟨rfl, rfl⟩) | (go_at_call 18; refine (hh _).mono ?_; rintro e w1 ⟨rfl, rfl⟩))
              rw [rounds_succ]
              go_wp2_with (first | (go_at_call 16; refine (hg _).mono ?_; rintro e w1 ⟨rfl, rfl⟩) | (go_at_call 17; refine (hm _).mono ?_; rintro e w1 ⟨rfl, rfl⟩) | (go_at_call 18; refine (hh _).mono ?_; rintro e w1 ⟨rfl, rfl⟩))
              go_ret
              exact ⟨rfl, HB.out⟩
            · have HE := Aside0.mk (show refCode 2 b0 b1 s0 s1 = 5 by rw [HR.out]; simp [C1])
              rw [show ec.errV (refCode 2 b0 b1 s0 s1) = .iface 31 (.int .i64 5) by rw [HE.out]; rfl]
              clear HE
              go_enter Tryd.func7, Tryd.ntmps7
              go_wp2_with (first | (go_at_call 16; refine (hg _).mono ?_; rintro e w1 ⟨rfl, rfl⟩) | (go_at_call 17; refine (hm _).mono ?_; rintro e w1 ⟨rfl, rfl⟩) | (go_at_call 18; refine (hh _).mono ?_; rintro e w1 ⟨rfl, rfl⟩))
              refine wp_loop_rounds 3 ?_
              rw [rounds_succ]
              go_wp2_with (first | (go_at_call 16; refine (hg _).mono ?_; rintro e w1 ⟨rfl, rfl⟩) | (go_at_call 17; refine (hm _).mono ?_; rintro e w1 ⟨rfl, rfl⟩) | (go_at_call 18; refine (hh _).mono ?_; rintro e w1 ⟨rfl, rfl⟩))
              rw [rounds_succ]
              go_wp2_with (first | (go_at_call 16; refine (hg _).mono ?_; rintro e w1 ⟨rfl, rfl⟩) | (go_at_call 17; refine (hm _).mono ?_; rintro e w1 ⟨rfl, rfl⟩) | (go_at_call 18; refine (hh _).mono ?_; rintro e w1 ⟨rfl, rfl⟩))
              go_ret
              exact ⟨rfl, HB.out⟩
          · have HE := Aside0.mk (show refCode 2 b0 b1 s0 s1 = 5 by rw [HR.out]; simp [A1])
            rw [show ec.errV (refCode 2 b0 b1 s0 s1) = .iface 31 (.int .i64 5) by rw [HE.out]; rfl]
            clear HE
            go_enter Tryd.func7, Tryd.ntmps7
            go_wp2_with (first | (go_at_call 16; refine (hg _).mono ?_; rintro e w1 ⟨rfl, rfl⟩) | (go_at_call 17; refine (hm _).mono ?_; rintro e w1 ⟨rfl, rfl⟩) | (go_at_call 18; refine (hh _).mono ?_; rintro e w1 ⟨rfl, rfl⟩))
            refine wp_loop_rounds 3 ?_
            rw [rounds_succ]
            go_wp2_with (first | (go_at_call 16; refine (hg _).mono ?_; rintro e w1 ⟨rfl, rfl⟩) | (go_at_call 17; refine (hm _).mono ?_; rintro e w1 ⟨rfl, rfl⟩) | (go_at_call 18; refine (hh _).mono ?_; rintro e w1 ⟨rfl, rfl⟩))
            rw [rounds_succ]
            go_wp2_with (first | (go_at_call 16; refine (hg _).mono ?_; rintro e w1 ⟨rfl, rfl⟩) | (go_at_call 17; refine (hm _).mono ?_; rintro e w1 ⟨rfl, rfl⟩) | (go_at_call 18; refine (hh _).mono ?_; rintro e w1 ⟨rfl, rfl⟩))
            go_ret
            exact ⟨rfl, HB.out⟩
        · have HE := Aside0.mk (show refCode 2 b0 b1 s0 s1 = 5 by rw [HR.out]; simp [C0])
          rw [show ec.errV (refCode 2 b0 b1 s0 s1) = .iface 31 (.int .i64 5) by rw [HE.out]; rfl]
          clear HE
          go_enter Tryd.func7, Tryd.ntmps7
          go_wp2_with (first | (go_at_call 16; refine (hg _).mono ?_; rintro e w1 ⟨rfl, rfl⟩) | (go_at_call 17; refine (hm _).mono ?_; rintro e w1 ⟨rfl, rfl⟩) | (go_at_call 18; refine (hh _).mono ?_; rintro e w1 ⟨rfl, rfl⟩))
          refine wp_loop_rounds 3 ?_
          rw [rounds_succ]
          go_wp2_with (first | (go_at_call 16; refine (hg _).mono ?_; rintro e w1 ⟨rfl, rfl⟩) | (go_at_call 17; refine (hm _).mono ?_; rintro e w1 ⟨rfl, rfl⟩) | (go_at_call 18; refine (hh _).mono ?_; rintro e w1 ⟨rfl, rfl⟩))
          go_ret
          exact ⟨rfl, HB.out⟩
      · have HE := Aside0.mk (show refCode 2 b0 b1 s0 s1 = 5 by rw [HR.out]; simp [A0])
        rw [show ec.errV (refCode 2 b0 b1 s0 s1) = .iface 31 (.int .i64 5) by rw [HE.out]; rfl]
        clear HE
        go_enter Tryd.func7, Tryd.ntmps7
        go_wp2_with (first | (go_at_call 16; refine (hg _).mono ?_; rintro e w1 ⟨rfl, rfl⟩) | (go_at_call 17; refine (hm _).mono ?_; rintro e w1 ⟨rfl, rfl⟩) | (go_at_call 18; refine (hh _).mono ?_; rintro e w1 ⟨rfl, rfl⟩))
        refine wp_loop_rounds 3 ?_
        rw [rounds_succ]
        go_wp2_with (first | (go_at_call 16; refine (hg _).mono ?_; rintro e w1 ⟨rfl, rfl⟩) | (go_at_call 17; refine (hm _).mono ?_; rintro e w1 ⟨rfl, rfl⟩) | (go_at_call 18; refine (hh _).mono ?_; rintro e w1 ⟨rfl, rfl⟩))
        go_ret
        exact ⟨rfl, HB.out⟩
    · have hg := good_walk 3
      have hm := most_walk 3 (by decide)
      have hh := halves_walk 3 (by decide)
      rw [show decide ((1 : Int) ≤ 3 ∧ (3 : Int) ≤ 3) = true by decide] at hg
      rw [show mostI 3 = 12 from rfl] at hm
      rw [show halvesI 3 = 2 from rfl] at hh
      have t0 := bad_tells 3 b0 b1 s0 s1 (by decide) 0 (by decide) hb0 hs0
      have t1 := bad_tells 3 b0 b1 s0 s1 (by decide) 1 (by decide) hb1 hs1
      have hr : refCode 3 b0 b1 s0 s1 = if refBad (mostI 3) 3 b0 b1 s0 s1 0 || refBad (mostI 3) 3 b0 b1 s0 s1 1 then 5 else 0 := if_neg (by decide)
      rw [t0, t1] at hr
      have hr2 : refCode 3 b0 b1 s0 s1 = if (decide (Go.bits .and .u64 b0 18446744073709543425 ≠ 0) || decide (Go.bits .and .u64 s0 18446744073709543424 ≠ 0)) || (decide (Go.bits .and .u64 b1 18446744073709543425 ≠ 0) || decide (Go.bits .and .u64 s1 18446744073709543424 ≠ 0)) then 5 else 0 := hr
      have o1 : Go.bits .or .u64 0 1 = 1 := by decide +kernel
      have o2 : Go.bits .or .u64 18446744073709551615 1 = 18446744073709551615 := by decide +kernel
      have o3 : Go.bits .or .u64 18446744073709551600 1 = 18446744073709551601 := by decide +kernel
      have o4 : Go.bits .or .u64 18446744073709543424 1 = 18446744073709543425 := by decide +kernel
      have o5 : IntKind.u64.wrap 295147905179352825840 = 18446744073709551600 := by rw [IntKind.wrap_u64]; decide
      have o6 : IntKind.u64.wrap 151115727451828646830080 = 18446744073709543424 := by rw [IntKind.wrap_u64]; decide
      have HR := Aside0.mk hr2
      clear hl t0 t1 hr hr2
      by_cases A0 : Go.bits .and .u64 b0 18446744073709543425 = 0
      · by_cases C0 : Go.bits .and .u64 s0 18446744073709543424 = 0
        · by_cases A1 : Go.bits .and .u64 b1 18446744073709543425 = 0
          · by_cases C1 : Go.bits .and .u64 s1 18446744073709543424 = 0
            · have HE := Aside0.mk (show refCode 3 b0 b1 s0 s1 = 0 by rw [HR.out]; simp [A0, C0, A1, C1])
              rw [show ec.errV (refCode 3 b0 b1 s0 s1) = .nilIface by rw [HE.out]; rfl]
              clear HE
              go_enter Tryd.func7, Tryd.ntmps7
              go_wp2_with (first | (go_at_call 16; refine (hg _).mono ?_; rintro e w1 ⟨rfl, rfl⟩) | (go_at_call 17; refine (hm _).mono ?_; rintro e w1 ⟨rfl, rfl⟩) | (go_at_call 18; refine (hh _).mono ?_; rintro e w1 ⟨rfl, rfl⟩))
              refine wp_loop_rounds 3 ?_
              rw [rounds_succ]
              go_wp2_with (first | (go_at_call 16; refine (hg _).mono ?_; rintro e w1 ⟨rfl, rfl⟩) | (go_at_call 17; refine (hm _).mono ?_; rintro e w1 ⟨rfl, rfl⟩) | (go_at_call 18; refine (hh _).mono ?_; rintro e w1 ⟨rfl, rfl⟩))
              rw [rounds_succ]
              go_wp2_with (first | (go_at_call 16; refine (hg _).mono ?_; rintro e w1 ⟨rfl, rfl⟩) | (go_at_call 17; refine (hm _).mono ?_; rintro e w1 ⟨rfl, rfl⟩) | (go_at_call 18; refine (hh _).mono ?_; rintro e w1 ⟨rfl, rfl⟩))
              rw [rounds_succ]
              go_wp2_with (first | (go_at_call 16; refine (hg _).mono ?_; rintro e w1 ⟨rfl, rfl⟩) | (go_at_call 17; refine (hm _).mono ?_; rintro e w1 ⟨rfl, rfl⟩) | (go_at_call 18; refine (hh _).mono ?_; rintro e w1 ⟨rfl, rfl⟩))
              go_ret
              exact ⟨rfl, HB.out⟩
            · have HE := Aside0.mk (show refCode 3 b0 b1 s0 s1 = 5 by rw [HR.out]; simp [C1])
              rw [show ec.errV (refCode 3 b0 b1 s0 s1) = .iface 31 (.int .i64 5) by rw [HE.out]; rfl]
              clear HE
              go_enter Tryd.func7, Tryd.ntmps7
              go_wp2_with (first | (go_at_call 16; refine (hg _).mono ?_; rintro e w1 ⟨rfl, rfl⟩) | (go_at_call 17; refine (hm _).mono ?_; rintro e w1 ⟨rfl, rfl⟩) | (go_at_call 18; refine (hh _).mono ?_; rintro e w1 ⟨rfl, rfl⟩))
              refine wp_loop_rounds 3 ?_
              rw [rounds_succ]
              go_wp2_with (first | (go_at_call 16; refine (hg _).mono ?_; rintro e w1 ⟨rfl, rfl⟩) | (go_at_call 17; refine (hm _).mono ?_; rintro e w1 ⟨rfl, rfl⟩) | (go_at_call 18; refine (hh _).mono ?_; rintro e w1 ⟨rfl, rfl⟩))
              rw [rounds_succ]
              go_wp2_with (first | (go_at_call 16; refine (hg _).mono ?_; rintro e w1 ⟨rfl, rfl⟩) | (go_at_call 17; refine (hm _).mono ?_; rintro e w1 ⟨rfl, rfl⟩) | (go_at_call 18; refine (hh _).mono ?_; rintro e w1 ⟨rfl, rfl⟩))
              go_ret
              exact ⟨rfl, HB.out⟩
          · have HE := Aside0.mk (show refCode 3 b0 b1 s0 s1 = 5 by rw [HR.out]; simp [A1])
            rw [show ec.errV (refCode 3 b0 b1 s0 s1) = .iface 31 (.int .i64 5) by rw [HE.out]; rfl]
            clear HE
            go_enter Tryd.func7, Tryd.ntmps7
            go_wp2_with (first | (go_at_call 16; refine (hg _).mono ?_; rintro e w1 ⟨rfl, rfl⟩) | (go_at_call 17; refine (hm _).mono ?_; rintro e w1 ⟨rfl, rfl⟩) | (go_at_call 18; refine (hh _).mono ?_; rintro e w1 ⟨rfl, rfl⟩))
            refine wp_loop_rounds 3 ?_
            rw [rounds_succ]
            go_wp2_with (first | (go_at_call 16; refine (hg _).mono ?_; rintro e w1 ⟨rfl, rfl⟩) | (go_at_call 17; refine (hm _).mono ?_; rintro e w1 ⟨rfl, rfl⟩) | (go_at_call 18; refine (hh _).mono ?_; rintro e w1 ⟨rfl, rfl⟩))
            rw [rounds_succ]
            go_wp2_with (first | (go_at_call 16; refine (hg _).mono ?_; rintro e w1 ⟨rfl, rfl⟩) | (go_at_call 17; refine (hm _).mono ?_; rintro e w1 ⟨rfl, rfl⟩) | (go_at_call 18; refine (hh _).mono ?_; rintro e w1 ⟨rfl, rfl⟩))
            go_ret
            exact ⟨rfl, HB.out⟩
        · have HE := Aside0.mk (show refCode 3 b0 b1 s0 s1 = 5 by rw [HR.out]; simp [C0])
          rw [show ec.errV (refCode 3 b0 b1 s0 s1) = .iface 31 (.int .i64 5) by rw [HE.out]; rfl]
          clear HE
          go_enter Tryd.func7, Tryd.ntmps7
          go_wp2_with (first | (go_at_call 16; refine (hg _).mono ?_; rintro e w1 ⟨rfl, rfl⟩) | (go_at_call 17; refine (hm _).mono ?_; rintro e w1 ⟨rfl, rfl⟩) | (go_at_call 18; refine (hh _).mono ?_; rintro e w1 ⟨rfl, rfl⟩))
          refine wp_loop_rounds 3 ?_
          rw [rounds_succ]
          go_wp2_with (first | (go_at_call 16; refine (hg _).mono ?_; rintro e w1 ⟨rfl, rfl⟩) | (go_at_call 17; refine (hm _).mono ?_; rintro e w1 ⟨rfl, rfl⟩) | (go_at_call 18; refine (hh _).mono ?_; rintro e w1 ⟨rfl, rfl⟩))
          go_ret
          exact ⟨rfl, HB.out⟩
      · have HE := Aside0.mk (show refCode 3 b0 b1 s0 s1 = 5 by rw [HR.out]; simp [A0])
        rw [show ec.errV (refCode 3 b0 b1 s0 s1) = .iface 31 (.int .i64 5) by rw [HE.out]; rfl]
        clear HE
        go_enter Tryd.func7, Tryd.ntmps7
        go_wp2_with (first | (go_at_call 16; refine (hg _).mono ?_; rintro e w1 ⟨rfl, rfl⟩) | (go_at_call 17; refine (hm _).mono ?_; rintro e w1 ⟨rfl, rfl⟩) | (go_at_call 18; refine (hh _).mono ?_; rintro e w1 ⟨rfl, rfl⟩))
        refine wp_loop_rounds 3 ?_
        rw [rounds_succ]
        go_wp2_with (first | (go_at_call 16; refine (hg _).mono ?_; rintro e w1 ⟨rfl, rfl⟩) | (go_at_call 17; refine (hm _).mono ?_; rintro e w1 ⟨rfl, rfl⟩) | (go_at_call 18; refine (hh _).mono ?_; rintro e w1 ⟨rfl, rfl⟩))
        go_ret
        exact ⟨rfl, HB.out⟩
end Go.Proofs.YtcipkabpekdflaaDoor.ts
