/- The law TableParts: neighbourhoods alone count. -/
import Derived.Test.YtcipkabpekdflaaTabNext
import Derived.Test.YtcipkabpekdflaaTabF
import Derived.StillTailTactics
import Derived.Lib.QuietBelow
import Derived.BigQuiet
namespace Go.Proofs.Ytcipkabpekdflaa.ts
open Go.RowKit Go.Proofs.YtcipkabpekdflaaW.PrintWords Go.Proofs.YtcipkabpekdflaaW.PrintLast Go.Proofs.YtcipkabpekdflaaW.PrintMore Go.Proofs.Ytcipkabpekdflaa.bs Go.ChangeShapes

theorem and_bd (a b : Int) : 0 ≤ Go.bits .and .u64 a b ∧ Go.bits .and .u64 a b < 18446744073709551616 := by
  show 0 ≤ IntKind.u64.wrap ((BitVec.ofInt 64 a &&& BitVec.ofInt 64 b).toNat : Int) ∧ IntKind.u64.wrap ((BitVec.ofInt 64 a &&& BitVec.ofInt 64 b).toNat : Int) < _
  rw [IntKind.wrap_u64]
  omega
theorem some_bd (lat mask b0 b1 s0 s1 : Int) : ∃ B0 B1 S0 S1, someV lat mask b0 b1 s0 s1 = tabV lat B0 B1 S0 S1 ∧ (0 ≤ B0 ∧ B0 < 18446744073709551616) ∧ (0 ≤ B1 ∧ B1 < 18446744073709551616) ∧ (0 ≤ S0 ∧ S0 < 18446744073709551616) ∧ (0 ≤ S1 ∧ S1 < 18446744073709551616) := by
  refine ⟨_, _, _, _, rfl, and_bd _ _, ?_, and_bd _ _, ?_⟩
  · split
    · decide
    · exact and_bd _ _
  · split
    · decide
    · exact and_bd _ _
theorem next_nat (l b0 b1 s0 s1 half : Int) (live : Bool) (k : Nat) (hh : 0 ≤ half ∧ half ≤ 1) (hk : k ≤ 63) (w : World) :
    Calls Try.prog 12 #[.agg #[.int .i64 l, .int .u64 b0, .int .u64 b1, .int .u64 s0, .int .u64 s1], .int .i64 half, .bool live, .int .i64 k] w fun e w' => e = .returned (.bool (nextV b0 b1 s0 s1 half live k)) ∧ Below w.heap.size w w' :=
  next_walk l b0 b1 s0 s1 half live k hh (by omega) w
set_option maxHeartbeats 4000000 in
set_option maxRecDepth 100000 in
theorem parts_walk (l b0 b1 s0 s1 half n m : Int) (live : Bool) (w : World) :
    Calls Try.prog 5 #[tabV l b0 b1 s0 s1, .int .i64 half, .int .i64 n, .int .i64 m, .bool live] w fun e w' => e = .returned (.bool true) ∧ Below w.heap.size w w' := by
  unfold tabV
  have hs := Aside0.mk (some_walk l b0 b1 s0 s1)
  unfold tabV at hs
  have h1 := bs.and1 half
  have h2 := bs.and63 n
  have h3 := bs.and63 m
  go_enter Try.func5, Try.ntmps5
  go_wp2_with (fail)
  have KX := blk_new w (.cells #[.int .i64 l, .int .u64 b0, .int .u64 b1, .int .u64 s0, .int .u64 s1] 36)
  have HB0 := Aside0.mk (below_alloc (Below.refl w.heap.size w) (.cells #[.int .i64 l, .int .u64 b0, .int .u64 b1, .int .u64 s0, .int .u64 s1] 36))
  change Calls _ _ _ (w.alloc (.cells #[.int .i64 l, .int .u64 b0, .int .u64 b1, .int .u64 s0, .int .u64 s1] 36)) _
  obtain ⟨x, hx⟩ : ∃ x, w.heap.size = x := ⟨_, rfl⟩
  simp only [hx] at KX ⊢
  have HX := Aside0.mk hx
  clear hx
  generalize w.alloc (.cells #[.int .i64 l, .int .u64 b0, .int .u64 b1, .int .u64 s0, .int .u64 s1] 36) = w1 at *
  refine (tb.awake_walk w1).mono ?_
  rintro e w2 ⟨rfl, hb⟩
  have KX2 := Aside0.mk (blk_below KX hb)
  have HB2 := Aside0.mk (chain HB0.out hb HB0.out.size)
  clear KX HB0 hb
  have x0 := blk_cell KX2.out 0
  have x1 := blk_cell KX2.out 1
  have x2 := blk_cell KX2.out 2
  have x3 := blk_cell KX2.out 3
  have x4 := blk_cell KX2.out 4
  simp only [List.getElem?_toArray, List.getElem?_cons_zero, List.getElem?_cons_succ] at x0 x1 x2 x3 x4
  go_wp2_with (fail)
  refine (hs.out w2).mono ?_
  rintro e w3 ⟨lat, mask, _, rfl, hb⟩
  obtain ⟨B0, B1, S0, S1, hsv, hB0, hB1, hS0, hS1⟩ := some_bd lat mask b0 b1 s0 s1
  rw [hsv]
  unfold tabV
  have HB3 := Aside0.mk (chain HB2.out hb HB2.out.size)
  clear hs hsv x0 x1 x2 x3 x4 KX2 HB2 hb
  obtain ⟨N, hN, hN63⟩ : ∃ N : Nat, n % 64 = N ∧ N ≤ 63 := ⟨(n % 64).toNat, by omega, by omega⟩
  obtain ⟨M, hM, hM63⟩ : ∃ M : Nat, m % 64 = M ∧ M ≤ 63 := ⟨(m % 64).toNat, by omega, by omega⟩
  rw [hN] at h2
  rw [hM] at h3
  have hw2 : IntKind.u64.wrap (2 ^ N) = 2 ^ N := by
    have hp : (2 : Nat) ^ N ≤ 9223372036854775808 := Nat.pow_le_pow_right (n := 2) (i := N) (j := 63) (by omega) (by omega)
    have e : ((2 ^ N : Nat) : Int) = (2 : Int) ^ N := by simp
    rw [IntKind.wrap_u64, ← e]
    generalize (2 : Nat) ^ N = q at hp
    omega
  have hh : half % 2 = 0 ∨ half % 2 = 1 := by omega
  clear hN hM
  cases live
  · rcases hh with hh | hh
    · go_upto_region 8 with (fail)
      have KT := Aside0.mk (blk_below (blk_new w3 (.cells #[.int .i64 lat, .int .u64 B0, .int .u64 B1, .int .u64 S0, .int .u64 S1] 39)) (below_alloc (Below.refl _ _) (.cells #[.int .i64 lat, .int .u64 B0, .int .u64 B1, .int .u64 S0, .int .u64 S1] 39)))
      have KU := Aside0.mk (blk_new (w3.alloc (.cells #[.int .i64 lat, .int .u64 B0, .int .u64 B1, .int .u64 S0, .int .u64 S1] 39)) (.cells #[.int .i64 lat, .int .u64 B0, .int .u64 B1, .int .u64 S0, .int .u64 S1] 39))
      have HB4 := Aside0.mk (below_alloc (below_alloc HB3.out (.cells #[.int .i64 lat, .int .u64 B0, .int .u64 B1, .int .u64 S0, .int .u64 S1] 39)) (.cells #[.int .i64 lat, .int .u64 B0, .int .u64 B1, .int .u64 S0, .int .u64 S1] 39))
      rw [show (w3.alloc (.cells #[.int .i64 lat, .int .u64 B0, .int .u64 B1, .int .u64 S0, .int .u64 S1] 39)).heap.size = w3.heap.size + 1 by simp] at KU
      have hw3 := HB3.out.size
      obtain ⟨t, ht⟩ : ∃ t, w3.heap.size = t := ⟨_, rfl⟩
      obtain ⟨u, hu⟩ : ∃ u, w3.heap.size + 1 = u := ⟨_, rfl⟩
      simp only [hu] at KU ⊢
      simp only [ht] at KT ⊢
      have htu : t ≠ u := by omega
      have hwu : w.heap.size ≤ u := by omega
      clear ht hu hw3 HB3
      generalize (w3.alloc (.cells #[.int .i64 lat, .int .u64 B0, .int .u64 B1, .int .u64 S0, .int .u64 S1] 39)).alloc (.cells #[.int .i64 lat, .int .u64 B0, .int .u64 B1, .int .u64 S0, .int .u64 S1] 39) = w4 at *
      have c1 := blk_cell KU.out 1
      have f1 := blk_frozen KU.out 1
      simp only [List.getElem?_toArray, List.getElem?_cons_zero, List.getElem?_cons_succ] at c1
      go_still_tail 9, (by kernel_rfl)
      change wpList _ _ _ _ _ w4.drew
      go_wp2_with (fail)
      obtain ⟨X, hX⟩ : ∃ X, Go.bits .xor .u64 B0 (2 ^ N) = X := ⟨_, rfl⟩
      have hxb := xor_bd B0 (2 ^ N)
      have hfl := fun k => flip_bit B0 N k hB0.1 hB0.2 (by omega)
      rw [hX] at hxb hfl
      rw [hX]
      clear hX
      have e1 : ¬ (nextV B0 B1 S0 S1 0 false N = nextV X B1 S0 S1 0 false N) := by
        simp [nextV, hfl]
      have e2 : ¬ N = M → nextV X B1 S0 S1 0 false M = nextV B0 B1 S0 S1 0 false M := by
        intro hnm
        simp [nextV, hfl, hnm]
      have e3 : nextV X B1 S0 S1 1 false M = nextV B0 B1 S0 S1 1 false M := by
        simp [nextV]
      have e4 : nextV X B1 S0 S1 0 true M = nextV B0 B1 S0 S1 0 true M := by
        simp [nextV]
      have KT5 := Aside0.mk (blk_below (blk_far (p := ⟨u, 1, none⟩) KT.out htu (.int .u64 X)) ((Below.refl _ _).drew))
      have KU5 := Aside0.mk (blk_below (blk_put KU.out 1 (.int .u64 X) rfl) ((Below.refl _ _).drew))
      have HB5 := Aside0.mk ((HB4.out.setCell (p := ⟨u, 1, none⟩) hwu (.int .u64 X)).drew)
      clear KT KU HB4 c1 f1 hfl hxb
      generalize (w4.setCell ⟨u, 1, none⟩ (.int .u64 X)).drew = w5 at *
      simp only [List.setIfInBounds_toArray, List.set_cons_zero, List.set_cons_succ] at KU5
      have t0 := blk_cell KT5.out 0
      have t1 := blk_cell KT5.out 1
      have t2 := blk_cell KT5.out 2
      have t3 := blk_cell KT5.out 3
      have t4 := blk_cell KT5.out 4
      have u0 := blk_cell KU5.out 0
      have u1 := blk_cell KU5.out 1
      have u2 := blk_cell KU5.out 2
      have u3 := blk_cell KU5.out 3
      have u4 := blk_cell KU5.out 4
      simp only [List.getElem?_toArray, List.getElem?_cons_zero, List.getElem?_cons_succ] at t0 t1 t2 t3 t4 u0 u1 u2 u3 u4
      have r0 := cell_regrown t0
      have r1 := cell_regrown t1
      have r2 := cell_regrown t2
      have r3 := cell_regrown t3
      have r4 := cell_regrown t4
      have q0 := cell_regrown u0
      have q1 := cell_regrown u1
      have q2 := cell_regrown u2
      have q3 := cell_regrown u3
      have q4 := cell_regrown u4
      clear t0 t1 t2 t3 t4 u0 u1 u2 u3 u4
      obtain ⟨p1, hcT1⟩ : ∃ b, nextV B0 B1 S0 S1 0 false N = b := ⟨_, rfl⟩
      obtain ⟨q1, hcU1⟩ : ∃ b, nextV X B1 S0 S1 0 false N = b := ⟨_, rfl⟩
      obtain ⟨p3, hcT3⟩ : ∃ b, nextV B0 B1 S0 S1 1 false M = b := ⟨_, rfl⟩
      obtain ⟨p4, hcT4⟩ : ∃ b, nextV B0 B1 S0 S1 0 true M = b := ⟨_, rfl⟩
      have hcU3 := e3.trans hcT3
      have hcU4 := e4.trans hcT4
      rw [hcT1, hcU1] at e1
      have cT1 : ∀ d os, Calls Try.prog 12 #[.agg #[.int .i64 lat, .int .u64 B0, .int .u64 B1, .int .u64 S0, .int .u64 S1], .int .i64 0, .bool false, .int .i64 (N : Nat)] (Sort.grow (redrawn w5 d) os) fun e w'' => e = .returned (.bool p1) ∧ ∃ p : Regrown, w'' = Sort.grow (redrawn w5 p.d) p.os := fun d os => by
        have := Calls.regrown_of (next_nat lat B0 B1 S0 S1 0 false N (by omega) (by omega) (Sort.grow (redrawn w5 d) os))
        rwa [hcT1] at this
      have cU1 : ∀ d os, Calls Try.prog 12 #[.agg #[.int .i64 lat, .int .u64 X, .int .u64 B1, .int .u64 S0, .int .u64 S1], .int .i64 0, .bool false, .int .i64 (N : Nat)] (Sort.grow (redrawn w5 d) os) fun e w'' => e = .returned (.bool q1) ∧ ∃ p : Regrown, w'' = Sort.grow (redrawn w5 p.d) p.os := fun d os => by
        have := Calls.regrown_of (next_nat lat X B1 S0 S1 0 false N (by omega) (by omega) (Sort.grow (redrawn w5 d) os))
        rwa [hcU1] at this
      have cT3 : ∀ d os, Calls Try.prog 12 #[.agg #[.int .i64 lat, .int .u64 B0, .int .u64 B1, .int .u64 S0, .int .u64 S1], .int .i64 1, .bool false, .int .i64 (M : Nat)] (Sort.grow (redrawn w5 d) os) fun e w'' => e = .returned (.bool p3) ∧ ∃ p : Regrown, w'' = Sort.grow (redrawn w5 p.d) p.os := fun d os => by
        have := Calls.regrown_of (next_nat lat B0 B1 S0 S1 1 false M (by omega) (by omega) (Sort.grow (redrawn w5 d) os))
        rwa [hcT3] at this
      have cU3 : ∀ d os, Calls Try.prog 12 #[.agg #[.int .i64 lat, .int .u64 X, .int .u64 B1, .int .u64 S0, .int .u64 S1], .int .i64 1, .bool false, .int .i64 (M : Nat)] (Sort.grow (redrawn w5 d) os) fun e w'' => e = .returned (.bool p3) ∧ ∃ p : Regrown, w'' = Sort.grow (redrawn w5 p.d) p.os := fun d os => by
        have := Calls.regrown_of (next_nat lat X B1 S0 S1 1 false M (by omega) (by omega) (Sort.grow (redrawn w5 d) os))
        rwa [hcU3] at this
      have cT4 : ∀ d os, Calls Try.prog 12 #[.agg #[.int .i64 lat, .int .u64 B0, .int .u64 B1, .int .u64 S0, .int .u64 S1], .int .i64 0, .bool true, .int .i64 (M : Nat)] (Sort.grow (redrawn w5 d) os) fun e w'' => e = .returned (.bool p4) ∧ ∃ p : Regrown, w'' = Sort.grow (redrawn w5 p.d) p.os := fun d os => by
        have := Calls.regrown_of (next_nat lat B0 B1 S0 S1 0 true M (by omega) (by omega) (Sort.grow (redrawn w5 d) os))
        rwa [hcT4] at this
      have cU4 : ∀ d os, Calls Try.prog 12 #[.agg #[.int .i64 lat, .int .u64 X, .int .u64 B1, .int .u64 S0, .int .u64 S1], .int .i64 0, .bool true, .int .i64 (M : Nat)] (Sort.grow (redrawn w5 d) os) fun e w'' => e = .returned (.bool p4) ∧ ∃ p : Regrown, w'' = Sort.grow (redrawn w5 p.d) p.os := fun d os => by
        have := Calls.regrown_of (next_nat lat X B1 S0 S1 0 true M (by omega) (by omega) (Sort.grow (redrawn w5 d) os))
        rwa [hcU4] at this
      clear hcT1 hcU1 hcT3 hcU3 hcT4 hcU4 e3 e4
      have e1b : (p1 == q1) = false := by cases p1 <;> cases q1 <;> simp_all
      have e3b : (p3 == p3) = true := by cases p3 <;> rfl
      have e4b : (p4 == p4) = true := by cases p4 <;> rfl
      by_cases hnm : N = M
      · subst hnm
        clear e2
        go_upto_region 9 with (fail)
        (refine wp_region_quiet_below (by kernel_rfl) (by kernel_rfl) ?_; (repeat (first | go_big_quiet_step (first | with_reducible exact cT1 _ _ | with_reducible exact cU1 _ _ | with_reducible exact cT3 _ _ | with_reducible exact cU3 _ _ | with_reducible exact cT4 _ _ | with_reducible exact cU4 _ _) | (simp only [e1b, e3b, e4b, beq_self_eq_true, Bool.not_true, Bool.not_false]) | quiet_step (first | with_reducible exact cT1 _ _ | with_reducible exact cU1 _ _ | with_reducible exact cT3 _ _ | with_reducible exact cU3 _ _ | with_reducible exact cT4 _ _ | with_reducible exact cU4 _ _))); refine wpQuiet_nil ?_; intro _ hw'; obtain ⟨⟨dq, osq⟩, hw''⟩ := hw'; subst hw'')
        go_wp2_with (fail)
        go_ret
        exact ⟨ret_bool (by first | rfl | (simp; done)), chain HB5.out (below_regrown w5 dq osq) HB5.out.size⟩
      · have hnm2 : ((N : Int) == (M : Int)) = false := by rw [beq_eq_false_iff_ne]; omega
        obtain ⟨p2, hcT2⟩ : ∃ b, nextV B0 B1 S0 S1 0 false M = b := ⟨_, rfl⟩
        have hcU2 := (e2 hnm).trans hcT2
        have cT2 : ∀ d os, Calls Try.prog 12 #[.agg #[.int .i64 lat, .int .u64 B0, .int .u64 B1, .int .u64 S0, .int .u64 S1], .int .i64 0, .bool false, .int .i64 (M : Nat)] (Sort.grow (redrawn w5 d) os) fun e w'' => e = .returned (.bool p2) ∧ ∃ p : Regrown, w'' = Sort.grow (redrawn w5 p.d) p.os := fun d os => by
          have := Calls.regrown_of (next_nat lat B0 B1 S0 S1 0 false M (by omega) (by omega) (Sort.grow (redrawn w5 d) os))
          rwa [hcT2] at this
        have cU2 : ∀ d os, Calls Try.prog 12 #[.agg #[.int .i64 lat, .int .u64 X, .int .u64 B1, .int .u64 S0, .int .u64 S1], .int .i64 0, .bool false, .int .i64 (M : Nat)] (Sort.grow (redrawn w5 d) os) fun e w'' => e = .returned (.bool p2) ∧ ∃ p : Regrown, w'' = Sort.grow (redrawn w5 p.d) p.os := fun d os => by
          have := Calls.regrown_of (next_nat lat X B1 S0 S1 0 false M (by omega) (by omega) (Sort.grow (redrawn w5 d) os))
          rwa [hcU2] at this
        clear e2 hnm hcT2 hcU2
        have e2b : (p2 == p2) = true := by cases p2 <;> rfl
        go_upto_region 9 with (fail)
        (refine wp_region_quiet_below (by kernel_rfl) (by kernel_rfl) ?_; (repeat (first | go_big_quiet_step (first | with_reducible exact cT1 _ _ | with_reducible exact cU1 _ _ | with_reducible exact cT2 _ _ | with_reducible exact cU2 _ _ | with_reducible exact cT3 _ _ | with_reducible exact cU3 _ _ | with_reducible exact cT4 _ _ | with_reducible exact cU4 _ _) | (simp only [e1b, e2b, e3b, e4b, beq_self_eq_true, Bool.not_true, Bool.not_false]) | quiet_step (first | with_reducible exact cT1 _ _ | with_reducible exact cU1 _ _ | with_reducible exact cT2 _ _ | with_reducible exact cU2 _ _ | with_reducible exact cT3 _ _ | with_reducible exact cU3 _ _ | with_reducible exact cT4 _ _ | with_reducible exact cU4 _ _))); refine wpQuiet_nil ?_; intro _ hw'; obtain ⟨⟨dq, osq⟩, hw''⟩ := hw'; subst hw'')
        go_wp2_with (fail)
        go_ret
        exact ⟨ret_bool (by first | rfl | (simp; done)), chain HB5.out (below_regrown w5 dq osq) HB5.out.size⟩
    · go_upto_region 8 with (fail)
      have KT := Aside0.mk (blk_below (blk_new w3 (.cells #[.int .i64 lat, .int .u64 B0, .int .u64 B1, .int .u64 S0, .int .u64 S1] 39)) (below_alloc (Below.refl _ _) (.cells #[.int .i64 lat, .int .u64 B0, .int .u64 B1, .int .u64 S0, .int .u64 S1] 39)))
      have KU := Aside0.mk (blk_new (w3.alloc (.cells #[.int .i64 lat, .int .u64 B0, .int .u64 B1, .int .u64 S0, .int .u64 S1] 39)) (.cells #[.int .i64 lat, .int .u64 B0, .int .u64 B1, .int .u64 S0, .int .u64 S1] 39))
      have HB4 := Aside0.mk (below_alloc (below_alloc HB3.out (.cells #[.int .i64 lat, .int .u64 B0, .int .u64 B1, .int .u64 S0, .int .u64 S1] 39)) (.cells #[.int .i64 lat, .int .u64 B0, .int .u64 B1, .int .u64 S0, .int .u64 S1] 39))
      rw [show (w3.alloc (.cells #[.int .i64 lat, .int .u64 B0, .int .u64 B1, .int .u64 S0, .int .u64 S1] 39)).heap.size = w3.heap.size + 1 by simp] at KU
      have hw3 := HB3.out.size
      obtain ⟨t, ht⟩ : ∃ t, w3.heap.size = t := ⟨_, rfl⟩
      obtain ⟨u, hu⟩ : ∃ u, w3.heap.size + 1 = u := ⟨_, rfl⟩
      simp only [hu] at KU ⊢
      simp only [ht] at KT ⊢
      have htu : t ≠ u := by omega
      have hwu : w.heap.size ≤ u := by omega
      clear ht hu hw3 HB3
      generalize (w3.alloc (.cells #[.int .i64 lat, .int .u64 B0, .int .u64 B1, .int .u64 S0, .int .u64 S1] 39)).alloc (.cells #[.int .i64 lat, .int .u64 B0, .int .u64 B1, .int .u64 S0, .int .u64 S1] 39) = w4 at *
      have c2 := blk_cell KU.out 2
      have f2 := blk_frozen KU.out 2
      simp only [List.getElem?_toArray, List.getElem?_cons_zero, List.getElem?_cons_succ] at c2
      go_still_tail 9, (by kernel_rfl)
      change wpList _ _ _ _ _ w4.drew
      go_wp2_with (fail)
      obtain ⟨X, hX⟩ : ∃ X, Go.bits .xor .u64 B1 (2 ^ N) = X := ⟨_, rfl⟩
      have hxb := xor_bd B1 (2 ^ N)
      have hfl := fun k => flip_bit B1 N k hB1.1 hB1.2 (by omega)
      rw [hX] at hxb hfl
      rw [hX]
      clear hX
      have e1 : ¬ (nextV B0 B1 S0 S1 1 false N = nextV B0 X S0 S1 1 false N) := by
        simp [nextV, hfl]
      have e2 : ¬ N = M → nextV B0 X S0 S1 1 false M = nextV B0 B1 S0 S1 1 false M := by
        intro hnm
        simp [nextV, hfl, hnm]
      have e3 : nextV B0 X S0 S1 0 false M = nextV B0 B1 S0 S1 0 false M := by
        simp [nextV]
      have e4 : nextV B0 X S0 S1 1 true M = nextV B0 B1 S0 S1 1 true M := by
        simp [nextV]
      have KT5 := Aside0.mk (blk_below (blk_far (p := ⟨u, 2, none⟩) KT.out htu (.int .u64 X)) ((Below.refl _ _).drew))
      have KU5 := Aside0.mk (blk_below (blk_put KU.out 2 (.int .u64 X) rfl) ((Below.refl _ _).drew))
      have HB5 := Aside0.mk ((HB4.out.setCell (p := ⟨u, 2, none⟩) hwu (.int .u64 X)).drew)
      clear KT KU HB4 c2 f2 hfl hxb
      generalize (w4.setCell ⟨u, 2, none⟩ (.int .u64 X)).drew = w5 at *
      simp only [List.setIfInBounds_toArray, List.set_cons_zero, List.set_cons_succ] at KU5
      have t0 := blk_cell KT5.out 0
      have t1 := blk_cell KT5.out 1
      have t2 := blk_cell KT5.out 2
      have t3 := blk_cell KT5.out 3
      have t4 := blk_cell KT5.out 4
      have u0 := blk_cell KU5.out 0
      have u1 := blk_cell KU5.out 1
      have u2 := blk_cell KU5.out 2
      have u3 := blk_cell KU5.out 3
      have u4 := blk_cell KU5.out 4
      simp only [List.getElem?_toArray, List.getElem?_cons_zero, List.getElem?_cons_succ] at t0 t1 t2 t3 t4 u0 u1 u2 u3 u4
      have r0 := cell_regrown t0
      have r1 := cell_regrown t1
      have r2 := cell_regrown t2
      have r3 := cell_regrown t3
      have r4 := cell_regrown t4
      have q0 := cell_regrown u0
      have q1 := cell_regrown u1
      have q2 := cell_regrown u2
      have q3 := cell_regrown u3
      have q4 := cell_regrown u4
      clear t0 t1 t2 t3 t4 u0 u1 u2 u3 u4
      obtain ⟨p1, hcT1⟩ : ∃ b, nextV B0 B1 S0 S1 1 false N = b := ⟨_, rfl⟩
      obtain ⟨q1, hcU1⟩ : ∃ b, nextV B0 X S0 S1 1 false N = b := ⟨_, rfl⟩
      obtain ⟨p3, hcT3⟩ : ∃ b, nextV B0 B1 S0 S1 0 false M = b := ⟨_, rfl⟩
      obtain ⟨p4, hcT4⟩ : ∃ b, nextV B0 B1 S0 S1 1 true M = b := ⟨_, rfl⟩
      have hcU3 := e3.trans hcT3
      have hcU4 := e4.trans hcT4
      rw [hcT1, hcU1] at e1
      have cT1 : ∀ d os, Calls Try.prog 12 #[.agg #[.int .i64 lat, .int .u64 B0, .int .u64 B1, .int .u64 S0, .int .u64 S1], .int .i64 1, .bool false, .int .i64 (N : Nat)] (Sort.grow (redrawn w5 d) os) fun e w'' => e = .returned (.bool p1) ∧ ∃ p : Regrown, w'' = Sort.grow (redrawn w5 p.d) p.os := fun d os => by
        have := Calls.regrown_of (next_nat lat B0 B1 S0 S1 1 false N (by omega) (by omega) (Sort.grow (redrawn w5 d) os))
        rwa [hcT1] at this
      have cU1 : ∀ d os, Calls Try.prog 12 #[.agg #[.int .i64 lat, .int .u64 B0, .int .u64 X, .int .u64 S0, .int .u64 S1], .int .i64 1, .bool false, .int .i64 (N : Nat)] (Sort.grow (redrawn w5 d) os) fun e w'' => e = .returned (.bool q1) ∧ ∃ p : Regrown, w'' = Sort.grow (redrawn w5 p.d) p.os := fun d os => by
        have := Calls.regrown_of (next_nat lat B0 X S0 S1 1 false N (by omega) (by omega) (Sort.grow (redrawn w5 d) os))
        rwa [hcU1] at this
      have cT3 : ∀ d os, Calls Try.prog 12 #[.agg #[.int .i64 lat, .int .u64 B0, .int .u64 B1, .int .u64 S0, .int .u64 S1], .int .i64 0, .bool false, .int .i64 (M : Nat)] (Sort.grow (redrawn w5 d) os) fun e w'' => e = .returned (.bool p3) ∧ ∃ p : Regrown, w'' = Sort.grow (redrawn w5 p.d) p.os := fun d os => by
        have := Calls.regrown_of (next_nat lat B0 B1 S0 S1 0 false M (by omega) (by omega) (Sort.grow (redrawn w5 d) os))
        rwa [hcT3] at this
      have cU3 : ∀ d os, Calls Try.prog 12 #[.agg #[.int .i64 lat, .int .u64 B0, .int .u64 X, .int .u64 S0, .int .u64 S1], .int .i64 0, .bool false, .int .i64 (M : Nat)] (Sort.grow (redrawn w5 d) os) fun e w'' => e = .returned (.bool p3) ∧ ∃ p : Regrown, w'' = Sort.grow (redrawn w5 p.d) p.os := fun d os => by
        have := Calls.regrown_of (next_nat lat B0 X S0 S1 0 false M (by omega) (by omega) (Sort.grow (redrawn w5 d) os))
        rwa [hcU3] at this
      have cT4 : ∀ d os, Calls Try.prog 12 #[.agg #[.int .i64 lat, .int .u64 B0, .int .u64 B1, .int .u64 S0, .int .u64 S1], .int .i64 1, .bool true, .int .i64 (M : Nat)] (Sort.grow (redrawn w5 d) os) fun e w'' => e = .returned (.bool p4) ∧ ∃ p : Regrown, w'' = Sort.grow (redrawn w5 p.d) p.os := fun d os => by
        have := Calls.regrown_of (next_nat lat B0 B1 S0 S1 1 true M (by omega) (by omega) (Sort.grow (redrawn w5 d) os))
        rwa [hcT4] at this
      have cU4 : ∀ d os, Calls Try.prog 12 #[.agg #[.int .i64 lat, .int .u64 B0, .int .u64 X, .int .u64 S0, .int .u64 S1], .int .i64 1, .bool true, .int .i64 (M : Nat)] (Sort.grow (redrawn w5 d) os) fun e w'' => e = .returned (.bool p4) ∧ ∃ p : Regrown, w'' = Sort.grow (redrawn w5 p.d) p.os := fun d os => by
        have := Calls.regrown_of (next_nat lat B0 X S0 S1 1 true M (by omega) (by omega) (Sort.grow (redrawn w5 d) os))
        rwa [hcU4] at this
      clear hcT1 hcU1 hcT3 hcU3 hcT4 hcU4 e3 e4
      have e1b : (p1 == q1) = false := by cases p1 <;> cases q1 <;> simp_all
      have e3b : (p3 == p3) = true := by cases p3 <;> rfl
      have e4b : (p4 == p4) = true := by cases p4 <;> rfl
      by_cases hnm : N = M
      · subst hnm
        clear e2
        go_upto_region 9 with (fail)
        (refine wp_region_quiet_below (by kernel_rfl) (by kernel_rfl) ?_; (repeat (first | go_big_quiet_step (first | with_reducible exact cT1 _ _ | with_reducible exact cU1 _ _ | with_reducible exact cT3 _ _ | with_reducible exact cU3 _ _ | with_reducible exact cT4 _ _ | with_reducible exact cU4 _ _) | (simp only [e1b, e3b, e4b, beq_self_eq_true, Bool.not_true, Bool.not_false]) | quiet_step (first | with_reducible exact cT1 _ _ | with_reducible exact cU1 _ _ | with_reducible exact cT3 _ _ | with_reducible exact cU3 _ _ | with_reducible exact cT4 _ _ | with_reducible exact cU4 _ _))); refine wpQuiet_nil ?_; intro _ hw'; obtain ⟨⟨dq, osq⟩, hw''⟩ := hw'; subst hw'')
        go_wp2_with (fail)
        go_ret
        exact ⟨ret_bool (by first | rfl | (simp; done)), chain HB5.out (below_regrown w5 dq osq) HB5.out.size⟩
      · have hnm2 : ((N : Int) == (M : Int)) = false := by rw [beq_eq_false_iff_ne]; omega
        obtain ⟨p2, hcT2⟩ : ∃ b, nextV B0 B1 S0 S1 1 false M = b := ⟨_, rfl⟩
        have hcU2 := (e2 hnm).trans hcT2
        have cT2 : ∀ d os, Calls Try.prog 12 #[.agg #[.int .i64 lat, .int .u64 B0, .int .u64 B1, .int .u64 S0, .int .u64 S1], .int .i64 1, .bool false, .int .i64 (M : Nat)] (Sort.grow (redrawn w5 d) os) fun e w'' => e = .returned (.bool p2) ∧ ∃ p : Regrown, w'' = Sort.grow (redrawn w5 p.d) p.os := fun d os => by
          have := Calls.regrown_of (next_nat lat B0 B1 S0 S1 1 false M (by omega) (by omega) (Sort.grow (redrawn w5 d) os))
          rwa [hcT2] at this
        have cU2 : ∀ d os, Calls Try.prog 12 #[.agg #[.int .i64 lat, .int .u64 B0, .int .u64 X, .int .u64 S0, .int .u64 S1], .int .i64 1, .bool false, .int .i64 (M : Nat)] (Sort.grow (redrawn w5 d) os) fun e w'' => e = .returned (.bool p2) ∧ ∃ p : Regrown, w'' = Sort.grow (redrawn w5 p.d) p.os := fun d os => by
          have := Calls.regrown_of (next_nat lat B0 X S0 S1 1 false M (by omega) (by omega) (Sort.grow (redrawn w5 d) os))
          rwa [hcU2] at this
        clear e2 hnm hcT2 hcU2
        have e2b : (p2 == p2) = true := by cases p2 <;> rfl
        go_upto_region 9 with (fail)
        (refine wp_region_quiet_below (by kernel_rfl) (by kernel_rfl) ?_; (repeat (first | go_big_quiet_step (first | with_reducible exact cT1 _ _ | with_reducible exact cU1 _ _ | with_reducible exact cT2 _ _ | with_reducible exact cU2 _ _ | with_reducible exact cT3 _ _ | with_reducible exact cU3 _ _ | with_reducible exact cT4 _ _ | with_reducible exact cU4 _ _) | (simp only [e1b, e2b, e3b, e4b, beq_self_eq_true, Bool.not_true, Bool.not_false]) | quiet_step (first | with_reducible exact cT1 _ _ | with_reducible exact cU1 _ _ | with_reducible exact cT2 _ _ | with_reducible exact cU2 _ _ | with_reducible exact cT3 _ _ | with_reducible exact cU3 _ _ | with_reducible exact cT4 _ _ | with_reducible exact cU4 _ _))); refine wpQuiet_nil ?_; intro _ hw'; obtain ⟨⟨dq, osq⟩, hw''⟩ := hw'; subst hw'')
        go_wp2_with (fail)
        go_ret
        exact ⟨ret_bool (by first | rfl | (simp; done)), chain HB5.out (below_regrown w5 dq osq) HB5.out.size⟩
  · rcases hh with hh | hh
    · go_upto_region 7 with (fail)
      have KT := Aside0.mk (blk_below (blk_new w3 (.cells #[.int .i64 lat, .int .u64 B0, .int .u64 B1, .int .u64 S0, .int .u64 S1] 39)) (below_alloc (Below.refl _ _) (.cells #[.int .i64 lat, .int .u64 B0, .int .u64 B1, .int .u64 S0, .int .u64 S1] 39)))
      have KU := Aside0.mk (blk_new (w3.alloc (.cells #[.int .i64 lat, .int .u64 B0, .int .u64 B1, .int .u64 S0, .int .u64 S1] 39)) (.cells #[.int .i64 lat, .int .u64 B0, .int .u64 B1, .int .u64 S0, .int .u64 S1] 39))
      have HB4 := Aside0.mk (below_alloc (below_alloc HB3.out (.cells #[.int .i64 lat, .int .u64 B0, .int .u64 B1, .int .u64 S0, .int .u64 S1] 39)) (.cells #[.int .i64 lat, .int .u64 B0, .int .u64 B1, .int .u64 S0, .int .u64 S1] 39))
      rw [show (w3.alloc (.cells #[.int .i64 lat, .int .u64 B0, .int .u64 B1, .int .u64 S0, .int .u64 S1] 39)).heap.size = w3.heap.size + 1 by simp] at KU
      have hw3 := HB3.out.size
      obtain ⟨t, ht⟩ : ∃ t, w3.heap.size = t := ⟨_, rfl⟩
      obtain ⟨u, hu⟩ : ∃ u, w3.heap.size + 1 = u := ⟨_, rfl⟩
      simp only [hu] at KU ⊢
      simp only [ht] at KT ⊢
      have htu : t ≠ u := by omega
      have hwu : w.heap.size ≤ u := by omega
      clear ht hu hw3 HB3
      generalize (w3.alloc (.cells #[.int .i64 lat, .int .u64 B0, .int .u64 B1, .int .u64 S0, .int .u64 S1] 39)).alloc (.cells #[.int .i64 lat, .int .u64 B0, .int .u64 B1, .int .u64 S0, .int .u64 S1] 39) = w4 at *
      have c3 := blk_cell KU.out 3
      have f3 := blk_frozen KU.out 3
      simp only [List.getElem?_toArray, List.getElem?_cons_zero, List.getElem?_cons_succ] at c3
      go_still_tail 9, (by kernel_rfl)
      change wpList _ _ _ _ _ w4.drew
      go_wp2_with (fail)
      obtain ⟨X, hX⟩ : ∃ X, Go.bits .xor .u64 S0 (2 ^ N) = X := ⟨_, rfl⟩
      have hxb := xor_bd S0 (2 ^ N)
      have hfl := fun k => flip_bit S0 N k hS0.1 hS0.2 (by omega)
      rw [hX] at hxb hfl
      rw [hX]
      clear hX
      have e1 : ¬ (nextV B0 B1 S0 S1 0 true N = nextV B0 B1 X S1 0 true N) := by
        simp [nextV, hfl]
      have e2 : ¬ N = M → nextV B0 B1 X S1 0 true M = nextV B0 B1 S0 S1 0 true M := by
        intro hnm
        simp [nextV, hfl, hnm]
      have e3 : nextV B0 B1 X S1 1 true M = nextV B0 B1 S0 S1 1 true M := by
        simp [nextV]
      have e4 : nextV B0 B1 X S1 0 false M = nextV B0 B1 S0 S1 0 false M := by
        simp [nextV]
      have KT5 := Aside0.mk (blk_below (blk_far (p := ⟨u, 3, none⟩) KT.out htu (.int .u64 X)) ((Below.refl _ _).drew))
      have KU5 := Aside0.mk (blk_below (blk_put KU.out 3 (.int .u64 X) rfl) ((Below.refl _ _).drew))
      have HB5 := Aside0.mk ((HB4.out.setCell (p := ⟨u, 3, none⟩) hwu (.int .u64 X)).drew)
      clear KT KU HB4 c3 f3 hfl hxb
      generalize (w4.setCell ⟨u, 3, none⟩ (.int .u64 X)).drew = w5 at *
      simp only [List.setIfInBounds_toArray, List.set_cons_zero, List.set_cons_succ] at KU5
      have t0 := blk_cell KT5.out 0
      have t1 := blk_cell KT5.out 1
      have t2 := blk_cell KT5.out 2
      have t3 := blk_cell KT5.out 3
      have t4 := blk_cell KT5.out 4
      have u0 := blk_cell KU5.out 0
      have u1 := blk_cell KU5.out 1
      have u2 := blk_cell KU5.out 2
      have u3 := blk_cell KU5.out 3
      have u4 := blk_cell KU5.out 4
      simp only [List.getElem?_toArray, List.getElem?_cons_zero, List.getElem?_cons_succ] at t0 t1 t2 t3 t4 u0 u1 u2 u3 u4
      have r0 := cell_regrown t0
      have r1 := cell_regrown t1
      have r2 := cell_regrown t2
      have r3 := cell_regrown t3
      have r4 := cell_regrown t4
      have q0 := cell_regrown u0
      have q1 := cell_regrown u1
      have q2 := cell_regrown u2
      have q3 := cell_regrown u3
      have q4 := cell_regrown u4
      clear t0 t1 t2 t3 t4 u0 u1 u2 u3 u4
      obtain ⟨p1, hcT1⟩ : ∃ b, nextV B0 B1 S0 S1 0 true N = b := ⟨_, rfl⟩
      obtain ⟨q1, hcU1⟩ : ∃ b, nextV B0 B1 X S1 0 true N = b := ⟨_, rfl⟩
      obtain ⟨p3, hcT3⟩ : ∃ b, nextV B0 B1 S0 S1 1 true M = b := ⟨_, rfl⟩
      obtain ⟨p4, hcT4⟩ : ∃ b, nextV B0 B1 S0 S1 0 false M = b := ⟨_, rfl⟩
      have hcU3 := e3.trans hcT3
      have hcU4 := e4.trans hcT4
      rw [hcT1, hcU1] at e1
      have cT1 : ∀ d os, Calls Try.prog 12 #[.agg #[.int .i64 lat, .int .u64 B0, .int .u64 B1, .int .u64 S0, .int .u64 S1], .int .i64 0, .bool true, .int .i64 (N : Nat)] (Sort.grow (redrawn w5 d) os) fun e w'' => e = .returned (.bool p1) ∧ ∃ p : Regrown, w'' = Sort.grow (redrawn w5 p.d) p.os := fun d os => by
        have := Calls.regrown_of (next_nat lat B0 B1 S0 S1 0 true N (by omega) (by omega) (Sort.grow (redrawn w5 d) os))
        rwa [hcT1] at this
      have cU1 : ∀ d os, Calls Try.prog 12 #[.agg #[.int .i64 lat, .int .u64 B0, .int .u64 B1, .int .u64 X, .int .u64 S1], .int .i64 0, .bool true, .int .i64 (N : Nat)] (Sort.grow (redrawn w5 d) os) fun e w'' => e = .returned (.bool q1) ∧ ∃ p : Regrown, w'' = Sort.grow (redrawn w5 p.d) p.os := fun d os => by
        have := Calls.regrown_of (next_nat lat B0 B1 X S1 0 true N (by omega) (by omega) (Sort.grow (redrawn w5 d) os))
        rwa [hcU1] at this
      have cT3 : ∀ d os, Calls Try.prog 12 #[.agg #[.int .i64 lat, .int .u64 B0, .int .u64 B1, .int .u64 S0, .int .u64 S1], .int .i64 1, .bool true, .int .i64 (M : Nat)] (Sort.grow (redrawn w5 d) os) fun e w'' => e = .returned (.bool p3) ∧ ∃ p : Regrown, w'' = Sort.grow (redrawn w5 p.d) p.os := fun d os => by
        have := Calls.regrown_of (next_nat lat B0 B1 S0 S1 1 true M (by omega) (by omega) (Sort.grow (redrawn w5 d) os))
        rwa [hcT3] at this
      have cU3 : ∀ d os, Calls Try.prog 12 #[.agg #[.int .i64 lat, .int .u64 B0, .int .u64 B1, .int .u64 X, .int .u64 S1], .int .i64 1, .bool true, .int .i64 (M : Nat)] (Sort.grow (redrawn w5 d) os) fun e w'' => e = .returned (.bool p3) ∧ ∃ p : Regrown, w'' = Sort.grow (redrawn w5 p.d) p.os := fun d os => by
        have := Calls.regrown_of (next_nat lat B0 B1 X S1 1 true M (by omega) (by omega) (Sort.grow (redrawn w5 d) os))
        rwa [hcU3] at this
      have cT4 : ∀ d os, Calls Try.prog 12 #[.agg #[.int .i64 lat, .int .u64 B0, .int .u64 B1, .int .u64 S0, .int .u64 S1], .int .i64 0, .bool false, .int .i64 (M : Nat)] (Sort.grow (redrawn w5 d) os) fun e w'' => e = .returned (.bool p4) ∧ ∃ p : Regrown, w'' = Sort.grow (redrawn w5 p.d) p.os := fun d os => by
        have := Calls.regrown_of (next_nat lat B0 B1 S0 S1 0 false M (by omega) (by omega) (Sort.grow (redrawn w5 d) os))
        rwa [hcT4] at this
      have cU4 : ∀ d os, Calls Try.prog 12 #[.agg #[.int .i64 lat, .int .u64 B0, .int .u64 B1, .int .u64 X, .int .u64 S1], .int .i64 0, .bool false, .int .i64 (M : Nat)] (Sort.grow (redrawn w5 d) os) fun e w'' => e = .returned (.bool p4) ∧ ∃ p : Regrown, w'' = Sort.grow (redrawn w5 p.d) p.os := fun d os => by
        have := Calls.regrown_of (next_nat lat B0 B1 X S1 0 false M (by omega) (by omega) (Sort.grow (redrawn w5 d) os))
        rwa [hcU4] at this
      clear hcT1 hcU1 hcT3 hcU3 hcT4 hcU4 e3 e4
      have e1b : (p1 == q1) = false := by cases p1 <;> cases q1 <;> simp_all
      have e3b : (p3 == p3) = true := by cases p3 <;> rfl
      have e4b : (p4 == p4) = true := by cases p4 <;> rfl
      by_cases hnm : N = M
      · subst hnm
        clear e2
        go_upto_region 9 with (fail)
        (refine wp_region_quiet_below (by kernel_rfl) (by kernel_rfl) ?_; (repeat (first | go_big_quiet_step (first | with_reducible exact cT1 _ _ | with_reducible exact cU1 _ _ | with_reducible exact cT3 _ _ | with_reducible exact cU3 _ _ | with_reducible exact cT4 _ _ | with_reducible exact cU4 _ _) | (simp only [e1b, e3b, e4b, beq_self_eq_true, Bool.not_true, Bool.not_false]) | quiet_step (first | with_reducible exact cT1 _ _ | with_reducible exact cU1 _ _ | with_reducible exact cT3 _ _ | with_reducible exact cU3 _ _ | with_reducible exact cT4 _ _ | with_reducible exact cU4 _ _))); refine wpQuiet_nil ?_; intro _ hw'; obtain ⟨⟨dq, osq⟩, hw''⟩ := hw'; subst hw'')
        go_wp2_with (fail)
        go_ret
        exact ⟨ret_bool (by first | rfl | (simp; done)), chain HB5.out (below_regrown w5 dq osq) HB5.out.size⟩
      · have hnm2 : ((N : Int) == (M : Int)) = false := by rw [beq_eq_false_iff_ne]; omega
        obtain ⟨p2, hcT2⟩ : ∃ b, nextV B0 B1 S0 S1 0 true M = b := ⟨_, rfl⟩
        have hcU2 := (e2 hnm).trans hcT2
        have cT2 : ∀ d os, Calls Try.prog 12 #[.agg #[.int .i64 lat, .int .u64 B0, .int .u64 B1, .int .u64 S0, .int .u64 S1], .int .i64 0, .bool true, .int .i64 (M : Nat)] (Sort.grow (redrawn w5 d) os) fun e w'' => e = .returned (.bool p2) ∧ ∃ p : Regrown, w'' = Sort.grow (redrawn w5 p.d) p.os := fun d os => by
          have := Calls.regrown_of (next_nat lat B0 B1 S0 S1 0 true M (by omega) (by omega) (Sort.grow (redrawn w5 d) os))
          rwa [hcT2] at this
        have cU2 : ∀ d os, Calls Try.prog 12 #[.agg #[.int .i64 lat, .int .u64 B0, .int .u64 B1, .int .u64 X, .int .u64 S1], .int .i64 0, .bool true, .int .i64 (M : Nat)] (Sort.grow (redrawn w5 d) os) fun e w'' => e = .returned (.bool p2) ∧ ∃ p : Regrown, w'' = Sort.grow (redrawn w5 p.d) p.os := fun d os => by
          have := Calls.regrown_of (next_nat lat B0 B1 X S1 0 true M (by omega) (by omega) (Sort.grow (redrawn w5 d) os))
          rwa [hcU2] at this
        clear e2 hnm hcT2 hcU2
        have e2b : (p2 == p2) = true := by cases p2 <;> rfl
        go_upto_region 9 with (fail)
        (refine wp_region_quiet_below (by kernel_rfl) (by kernel_rfl) ?_; (repeat (first | go_big_quiet_step (first | with_reducible exact cT1 _ _ | with_reducible exact cU1 _ _ | with_reducible exact cT2 _ _ | with_reducible exact cU2 _ _ | with_reducible exact cT3 _ _ | with_reducible exact cU3 _ _ | with_reducible exact cT4 _ _ | with_reducible exact cU4 _ _) | (simp only [e1b, e2b, e3b, e4b, beq_self_eq_true, Bool.not_true, Bool.not_false]) | quiet_step (first | with_reducible exact cT1 _ _ | with_reducible exact cU1 _ _ | with_reducible exact cT2 _ _ | with_reducible exact cU2 _ _ | with_reducible exact cT3 _ _ | with_reducible exact cU3 _ _ | with_reducible exact cT4 _ _ | with_reducible exact cU4 _ _))); refine wpQuiet_nil ?_; intro _ hw'; obtain ⟨⟨dq, osq⟩, hw''⟩ := hw'; subst hw'')
        go_wp2_with (fail)
        go_ret
        exact ⟨ret_bool (by first | rfl | (simp; done)), chain HB5.out (below_regrown w5 dq osq) HB5.out.size⟩
    · go_upto_region 7 with (fail)
      have KT := Aside0.mk (blk_below (blk_new w3 (.cells #[.int .i64 lat, .int .u64 B0, .int .u64 B1, .int .u64 S0, .int .u64 S1] 39)) (below_alloc (Below.refl _ _) (.cells #[.int .i64 lat, .int .u64 B0, .int .u64 B1, .int .u64 S0, .int .u64 S1] 39)))
      have KU := Aside0.mk (blk_new (w3.alloc (.cells #[.int .i64 lat, .int .u64 B0, .int .u64 B1, .int .u64 S0, .int .u64 S1] 39)) (.cells #[.int .i64 lat, .int .u64 B0, .int .u64 B1, .int .u64 S0, .int .u64 S1] 39))
      have HB4 := Aside0.mk (below_alloc (below_alloc HB3.out (.cells #[.int .i64 lat, .int .u64 B0, .int .u64 B1, .int .u64 S0, .int .u64 S1] 39)) (.cells #[.int .i64 lat, .int .u64 B0, .int .u64 B1, .int .u64 S0, .int .u64 S1] 39))
      rw [show (w3.alloc (.cells #[.int .i64 lat, .int .u64 B0, .int .u64 B1, .int .u64 S0, .int .u64 S1] 39)).heap.size = w3.heap.size + 1 by simp] at KU
      have hw3 := HB3.out.size
      obtain ⟨t, ht⟩ : ∃ t, w3.heap.size = t := ⟨_, rfl⟩
      obtain ⟨u, hu⟩ : ∃ u, w3.heap.size + 1 = u := ⟨_, rfl⟩
      simp only [hu] at KU ⊢
      simp only [ht] at KT ⊢
      have htu : t ≠ u := by omega
      have hwu : w.heap.size ≤ u := by omega
      clear ht hu hw3 HB3
      generalize (w3.alloc (.cells #[.int .i64 lat, .int .u64 B0, .int .u64 B1, .int .u64 S0, .int .u64 S1] 39)).alloc (.cells #[.int .i64 lat, .int .u64 B0, .int .u64 B1, .int .u64 S0, .int .u64 S1] 39) = w4 at *
      have c4 := blk_cell KU.out 4
      have f4 := blk_frozen KU.out 4
      simp only [List.getElem?_toArray, List.getElem?_cons_zero, List.getElem?_cons_succ] at c4
      go_still_tail 9, (by kernel_rfl)
      change wpList _ _ _ _ _ w4.drew
      go_wp2_with (fail)
      obtain ⟨X, hX⟩ : ∃ X, Go.bits .xor .u64 S1 (2 ^ N) = X := ⟨_, rfl⟩
      have hxb := xor_bd S1 (2 ^ N)
      have hfl := fun k => flip_bit S1 N k hS1.1 hS1.2 (by omega)
      rw [hX] at hxb hfl
      rw [hX]
      clear hX
      have e1 : ¬ (nextV B0 B1 S0 S1 1 true N = nextV B0 B1 S0 X 1 true N) := by
        simp [nextV, hfl]
      have e2 : ¬ N = M → nextV B0 B1 S0 X 1 true M = nextV B0 B1 S0 S1 1 true M := by
        intro hnm
        simp [nextV, hfl, hnm]
      have e3 : nextV B0 B1 S0 X 0 true M = nextV B0 B1 S0 S1 0 true M := by
        simp [nextV]
      have e4 : nextV B0 B1 S0 X 1 false M = nextV B0 B1 S0 S1 1 false M := by
        simp [nextV]
      have KT5 := Aside0.mk (blk_below (blk_far (p := ⟨u, 4, none⟩) KT.out htu (.int .u64 X)) ((Below.refl _ _).drew))
      have KU5 := Aside0.mk (blk_below (blk_put KU.out 4 (.int .u64 X) rfl) ((Below.refl _ _).drew))
      have HB5 := Aside0.mk ((HB4.out.setCell (p := ⟨u, 4, none⟩) hwu (.int .u64 X)).drew)
      clear KT KU HB4 c4 f4 hfl hxb
      generalize (w4.setCell ⟨u, 4, none⟩ (.int .u64 X)).drew = w5 at *
      simp only [List.setIfInBounds_toArray, List.set_cons_zero, List.set_cons_succ] at KU5
      have t0 := blk_cell KT5.out 0
      have t1 := blk_cell KT5.out 1
      have t2 := blk_cell KT5.out 2
      have t3 := blk_cell KT5.out 3
      have t4 := blk_cell KT5.out 4
      have u0 := blk_cell KU5.out 0
      have u1 := blk_cell KU5.out 1
      have u2 := blk_cell KU5.out 2
      have u3 := blk_cell KU5.out 3
      have u4 := blk_cell KU5.out 4
      simp only [List.getElem?_toArray, List.getElem?_cons_zero, List.getElem?_cons_succ] at t0 t1 t2 t3 t4 u0 u1 u2 u3 u4
      have r0 := cell_regrown t0
      have r1 := cell_regrown t1
      have r2 := cell_regrown t2
      have r3 := cell_regrown t3
      have r4 := cell_regrown t4
      have q0 := cell_regrown u0
      have q1 := cell_regrown u1
      have q2 := cell_regrown u2
      have q3 := cell_regrown u3
      have q4 := cell_regrown u4
      clear t0 t1 t2 t3 t4 u0 u1 u2 u3 u4
      obtain ⟨p1, hcT1⟩ : ∃ b, nextV B0 B1 S0 S1 1 true N = b := ⟨_, rfl⟩
      obtain ⟨q1, hcU1⟩ : ∃ b, nextV B0 B1 S0 X 1 true N = b := ⟨_, rfl⟩
      obtain ⟨p3, hcT3⟩ : ∃ b, nextV B0 B1 S0 S1 0 true M = b := ⟨_, rfl⟩
      obtain ⟨p4, hcT4⟩ : ∃ b, nextV B0 B1 S0 S1 1 false M = b := ⟨_, rfl⟩
      have hcU3 := e3.trans hcT3
      have hcU4 := e4.trans hcT4
      rw [hcT1, hcU1] at e1
      have cT1 : ∀ d os, Calls Try.prog 12 #[.agg #[.int .i64 lat, .int .u64 B0, .int .u64 B1, .int .u64 S0, .int .u64 S1], .int .i64 1, .bool true, .int .i64 (N : Nat)] (Sort.grow (redrawn w5 d) os) fun e w'' => e = .returned (.bool p1) ∧ ∃ p : Regrown, w'' = Sort.grow (redrawn w5 p.d) p.os := fun d os => by
        have := Calls.regrown_of (next_nat lat B0 B1 S0 S1 1 true N (by omega) (by omega) (Sort.grow (redrawn w5 d) os))
        rwa [hcT1] at this
      have cU1 : ∀ d os, Calls Try.prog 12 #[.agg #[.int .i64 lat, .int .u64 B0, .int .u64 B1, .int .u64 S0, .int .u64 X], .int .i64 1, .bool true, .int .i64 (N : Nat)] (Sort.grow (redrawn w5 d) os) fun e w'' => e = .returned (.bool q1) ∧ ∃ p : Regrown, w'' = Sort.grow (redrawn w5 p.d) p.os := fun d os => by
        have := Calls.regrown_of (next_nat lat B0 B1 S0 X 1 true N (by omega) (by omega) (Sort.grow (redrawn w5 d) os))
        rwa [hcU1] at this
      have cT3 : ∀ d os, Calls Try.prog 12 #[.agg #[.int .i64 lat, .int .u64 B0, .int .u64 B1, .int .u64 S0, .int .u64 S1], .int .i64 0, .bool true, .int .i64 (M : Nat)] (Sort.grow (redrawn w5 d) os) fun e w'' => e = .returned (.bool p3) ∧ ∃ p : Regrown, w'' = Sort.grow (redrawn w5 p.d) p.os := fun d os => by
        have := Calls.regrown_of (next_nat lat B0 B1 S0 S1 0 true M (by omega) (by omega) (Sort.grow (redrawn w5 d) os))
        rwa [hcT3] at this
      have cU3 : ∀ d os, Calls Try.prog 12 #[.agg #[.int .i64 lat, .int .u64 B0, .int .u64 B1, .int .u64 S0, .int .u64 X], .int .i64 0, .bool true, .int .i64 (M : Nat)] (Sort.grow (redrawn w5 d) os) fun e w'' => e = .returned (.bool p3) ∧ ∃ p : Regrown, w'' = Sort.grow (redrawn w5 p.d) p.os := fun d os => by
        have := Calls.regrown_of (next_nat lat B0 B1 S0 X 0 true M (by omega) (by omega) (Sort.grow (redrawn w5 d) os))
        rwa [hcU3] at this
      have cT4 : ∀ d os, Calls Try.prog 12 #[.agg #[.int .i64 lat, .int .u64 B0, .int .u64 B1, .int .u64 S0, .int .u64 S1], .int .i64 1, .bool false, .int .i64 (M : Nat)] (Sort.grow (redrawn w5 d) os) fun e w'' => e = .returned (.bool p4) ∧ ∃ p : Regrown, w'' = Sort.grow (redrawn w5 p.d) p.os := fun d os => by
        have := Calls.regrown_of (next_nat lat B0 B1 S0 S1 1 false M (by omega) (by omega) (Sort.grow (redrawn w5 d) os))
        rwa [hcT4] at this
      have cU4 : ∀ d os, Calls Try.prog 12 #[.agg #[.int .i64 lat, .int .u64 B0, .int .u64 B1, .int .u64 S0, .int .u64 X], .int .i64 1, .bool false, .int .i64 (M : Nat)] (Sort.grow (redrawn w5 d) os) fun e w'' => e = .returned (.bool p4) ∧ ∃ p : Regrown, w'' = Sort.grow (redrawn w5 p.d) p.os := fun d os => by
        have := Calls.regrown_of (next_nat lat B0 B1 S0 X 1 false M (by omega) (by omega) (Sort.grow (redrawn w5 d) os))
        rwa [hcU4] at this
      clear hcT1 hcU1 hcT3 hcU3 hcT4 hcU4 e3 e4
      have e1b : (p1 == q1) = false := by cases p1 <;> cases q1 <;> simp_all
      have e3b : (p3 == p3) = true := by cases p3 <;> rfl
      have e4b : (p4 == p4) = true := by cases p4 <;> rfl
      by_cases hnm : N = M
      · subst hnm
        clear e2
        go_upto_region 9 with (fail)
        (refine wp_region_quiet_below (by kernel_rfl) (by kernel_rfl) ?_; (repeat (first | go_big_quiet_step (first | with_reducible exact cT1 _ _ | with_reducible exact cU1 _ _ | with_reducible exact cT3 _ _ | with_reducible exact cU3 _ _ | with_reducible exact cT4 _ _ | with_reducible exact cU4 _ _) | (simp only [e1b, e3b, e4b, beq_self_eq_true, Bool.not_true, Bool.not_false]) | quiet_step (first | with_reducible exact cT1 _ _ | with_reducible exact cU1 _ _ | with_reducible exact cT3 _ _ | with_reducible exact cU3 _ _ | with_reducible exact cT4 _ _ | with_reducible exact cU4 _ _))); refine wpQuiet_nil ?_; intro _ hw'; obtain ⟨⟨dq, osq⟩, hw''⟩ := hw'; subst hw'')
        go_wp2_with (fail)
        go_ret
        exact ⟨ret_bool (by first | rfl | (simp; done)), chain HB5.out (below_regrown w5 dq osq) HB5.out.size⟩
      · have hnm2 : ((N : Int) == (M : Int)) = false := by rw [beq_eq_false_iff_ne]; omega
        obtain ⟨p2, hcT2⟩ : ∃ b, nextV B0 B1 S0 S1 1 true M = b := ⟨_, rfl⟩
        have hcU2 := (e2 hnm).trans hcT2
        have cT2 : ∀ d os, Calls Try.prog 12 #[.agg #[.int .i64 lat, .int .u64 B0, .int .u64 B1, .int .u64 S0, .int .u64 S1], .int .i64 1, .bool true, .int .i64 (M : Nat)] (Sort.grow (redrawn w5 d) os) fun e w'' => e = .returned (.bool p2) ∧ ∃ p : Regrown, w'' = Sort.grow (redrawn w5 p.d) p.os := fun d os => by
          have := Calls.regrown_of (next_nat lat B0 B1 S0 S1 1 true M (by omega) (by omega) (Sort.grow (redrawn w5 d) os))
          rwa [hcT2] at this
        have cU2 : ∀ d os, Calls Try.prog 12 #[.agg #[.int .i64 lat, .int .u64 B0, .int .u64 B1, .int .u64 S0, .int .u64 X], .int .i64 1, .bool true, .int .i64 (M : Nat)] (Sort.grow (redrawn w5 d) os) fun e w'' => e = .returned (.bool p2) ∧ ∃ p : Regrown, w'' = Sort.grow (redrawn w5 p.d) p.os := fun d os => by
          have := Calls.regrown_of (next_nat lat B0 B1 S0 X 1 true M (by omega) (by omega) (Sort.grow (redrawn w5 d) os))
          rwa [hcU2] at this
        clear e2 hnm hcT2 hcU2
        have e2b : (p2 == p2) = true := by cases p2 <;> rfl
        go_upto_region 9 with (fail)
        (refine wp_region_quiet_below (by kernel_rfl) (by kernel_rfl) ?_; (repeat (first | go_big_quiet_step (first | with_reducible exact cT1 _ _ | with_reducible exact cU1 _ _ | with_reducible exact cT2 _ _ | with_reducible exact cU2 _ _ | with_reducible exact cT3 _ _ | with_reducible exact cU3 _ _ | with_reducible exact cT4 _ _ | with_reducible exact cU4 _ _) | (simp only [e1b, e2b, e3b, e4b, beq_self_eq_true, Bool.not_true, Bool.not_false]) | quiet_step (first | with_reducible exact cT1 _ _ | with_reducible exact cU1 _ _ | with_reducible exact cT2 _ _ | with_reducible exact cU2 _ _ | with_reducible exact cT3 _ _ | with_reducible exact cU3 _ _ | with_reducible exact cT4 _ _ | with_reducible exact cU4 _ _))); refine wpQuiet_nil ?_; intro _ hw'; obtain ⟨⟨dq, osq⟩, hw''⟩ := hw'; subst hw'')
        go_wp2_with (fail)
        go_ret
        exact ⟨ret_bool (by first | rfl | (simp; done)), chain HB5.out (below_regrown w5 dq osq) HB5.out.size⟩
end Go.Proofs.Ytcipkabpekdflaa.ts
