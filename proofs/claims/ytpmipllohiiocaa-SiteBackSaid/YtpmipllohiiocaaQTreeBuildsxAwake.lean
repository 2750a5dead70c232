/- One function of the law as a function of Lean, and that the program comes to it (lines written by the kit's printer). -/
import Derived.Test.YtpmipllohiiocaaQTreeBuildsx0
import Derived.Test.YtpmipllohiiocaaQTreeBuildsx1
import Derived.Test.YtpmipllohiiocaaQTreeBuildsx2
import Derived.Test.YtpmipllohiiocaaQTreeBuildsx5
namespace Go.Proofs.Ytpmipllohiiocaa.PTreeBuilds
open Go.RowKit Go.Proofs.YtpmipllohiiocaaW.PrintWords Go.Proofs.YtpmipllohiiocaaW.PrintLast Go.Proofs.YtpmipllohiiocaaW.PrintMore
attribute [local go_sem] max2_int min2_int max_two min_two max_three min_three max_four min_four   -- for this text's walks alone
set_option linter.unusedVariables false
set_option linter.unusedSimpArgs false

attribute [local go_sem high] eqA32
/-! ### honeycomblaw09_awake: function 5 -/
def honeycomblaw09_awake.f (k : Nat)  : Option (Bool) := (site_Low.f (-1) 5).bind fun bt103 => (if (bt103.1 == (-4) && (bt103.2 == 4)) = true then ((site_Leaf_Put.f 0 1 0 3).bind fun t105 => (if t105 = 12 then ((site_Leaf_State.f 12 1 0).bind fun t106 => (if t106 = 3 then ((site_Leaf_Count.f k 12).bind fun t107 => (some (t107 == 2))) else (some false))) else (some false))) else (some false))
theorem honeycomblaw09_awake.mono : ∀ k, LeO (honeycomblaw09_awake.f k ) (honeycomblaw09_awake.f (k + 1) ) := by
  intro  k
  unfold honeycomblaw09_awake.f
  repeat' first
      | (with_reducible exact site_Leaf_Count.mono _ _)
      | (with_reducible exact LeO.refl _)
      | (with_reducible exact LeO.none _)
      | (with_reducible refine LeO.ite ?_ ?_)
      | (with_reducible refine LeO.bind ?_ (fun _ => ?_))
      | exact site_Leaf_Count.mono _ _
      | exact LeO.none _
      | refine LeO.ite ?_ ?_
      | refine LeO.bind ?_ (fun _ => ?_)
set_option maxHeartbeats 8000000 in
set_option maxRecDepth 100000 in
theorem honeycomblaw09_awake.calls (k : Nat)  (r : Bool) (w : World) (h : honeycomblaw09_awake.f k  = some r) :
    Calls Try.prog 5 #[] w fun e w' => e = .returned (.bool r) ∧ Below w.heap.size w w' := by
  have hu32 := Try.underlying32
  have HB := Aside0.mk (Below.refl w.heap.size w)
  have H : ((site_Low.f (-1) 5).bind fun bt103 => (if (bt103.1 == (-4) && (bt103.2 == 4)) = true then ((site_Leaf_Put.f 0 1 0 3).bind fun t105 => (if t105 = 12 then ((site_Leaf_State.f 12 1 0).bind fun t106 => (if t106 = 3 then ((site_Leaf_Count.f k 12).bind fun t107 => (some (t107 == 2))) else (some false))) else (some false))) else (some false))) = some r := h
  clear h
  replace H := Option.bind_eq_some_iff.mp H
  obtain ⟨⟨t103, t104⟩, A10, H⟩ := H
  replace H : (if (t103 == (-4) && (t104 == 4)) = true then ((site_Leaf_Put.f 0 1 0 3).bind fun t105 => (if t105 = 12 then ((site_Leaf_State.f 12 1 0).bind fun t106 => (if t106 = 3 then ((site_Leaf_Count.f k 12).bind fun t107 => (some (t107 == 2))) else (some false))) else (some false))) else (some false)) = some r := H
  have A1 := Aside0.mk A10
  clear A10
  by_cases c2 : (t103 == (-4) && (t104 == 4)) = true
  · rw [if_pos c2] at H
    have c2b0 : (t103 == (-4) && (t104 == 4)) = true := c2
    (try (have c2b1 : decide (t103 = (-4) && (t104 == 4)) = true := by simpa using c2))
    (try (have c2b2 : (t103 == (-4) && (t104 == 4)) = true := by simpa using c2))
    clear c2
    replace H := Option.bind_eq_some_iff.mp H
    obtain ⟨t105, A30, H⟩ := H
    replace H : (if t105 = 12 then ((site_Leaf_State.f 12 1 0).bind fun t106 => (if t106 = 3 then ((site_Leaf_Count.f k 12).bind fun t107 => (some (t107 == 2))) else (some false))) else (some false)) = some r := H
    have A3 := Aside0.mk A30
    clear A30
    by_cases c4 : t105 = 12
    · rw [if_pos c4] at H
      have c4b0 : (t105 == 12) = true := beq_iff_eq.mpr c4
      have c4b1 : (t105 != 12) = false := bne_eq_false_iff_eq.mpr c4
      clear c4
      replace H := Option.bind_eq_some_iff.mp H
      obtain ⟨t106, A50, H⟩ := H
      replace H : (if t106 = 3 then ((site_Leaf_Count.f k 12).bind fun t107 => (some (t107 == 2))) else (some false)) = some r := H
      have A5 := Aside0.mk A50
      clear A50
      by_cases c6 : t106 = 3
      · rw [if_pos c6] at H
        have c6b0 : (t106 == 3) = true := beq_iff_eq.mpr c6
        have c6b1 : (t106 != 3) = false := bne_eq_false_iff_eq.mpr c6
        clear c6
        replace H := Option.bind_eq_some_iff.mp H
        obtain ⟨t107, A70, H⟩ := H
        replace H : (some (t107 == 2)) = some r := H
        have A7 := Aside0.mk A70
        clear A70
        obtain rfl := Option.some.inj H
        go_enter Try.func5, Try.ntmps5
        go_wp2_with (first | ((with_reducible refine gate_callee (f := 9) rfl ?_); refine goesL_ (some 2) rfl rfl Try.func9 (by kernel_rfl) rfl #[.agg #[.int .i64 (-1), .int .i64 5]] rfl (by (try simp only [List.map_toArray, List.map_cons, List.map_nil]); first | done | rfl | (simp only [List.length_drop, List.length_take]; rfl)) ?_; (with_reducible refine (site_Low.calls (-1) 5 t103 t104 _ A1.out).mono ?_); rintro e w8 ⟨rfl, hb⟩; refine ⟨_, rfl, ?_⟩; have n0_ := Aside0.mk (below_step (by repeat (first | (with_reducible first | exact HB.out | apply below_alloc | apply pw_below_drewN | apply below_drew1) | exact HB.out)) hb); clear HB; have HB := n0_; clear n0_; (try clear hb); (try clear hb2); (try clear hk); (try clear hi)) | (go_at_call 28; (with_reducible refine (site_Leaf_Put.calls 0 1 0 3 t105 _ A3.out).mono ?_); rintro e w' ⟨rfl, ⟨nd, rfl⟩⟩) | (go_at_call 29; (with_reducible refine (site_Leaf_State.calls 12 1 0 t106 _ A5.out).mono ?_); rintro e w' ⟨rfl, ⟨nd, rfl⟩⟩) | (go_at_call 10; (with_reducible refine (site_Leaf_Count.calls k 12 t107 _ A7.out).mono ?_); rintro e w' ⟨rfl, ⟨nd, rfl⟩⟩))
        go_ret
        exact ⟨by first | rfl | (simp [errW_none, errW_some] <;> rfl) | (simp [*, errW_none, errW_some] <;> rfl), by repeat (first | (with_reducible first | exact HB.out | apply below_alloc | apply pw_below_drewN | apply below_drew1) | exact HB.out)⟩
      · rw [if_neg c6] at H
        have c6b0 : (t106 == 3) = false := beq_eq_false_iff_ne.mpr c6
        have c6b1 : (t106 != 3) = true := bne_iff_ne.mpr c6
        obtain rfl := Option.some.inj H
        go_enter Try.func5, Try.ntmps5
        go_wp2_with (first | ((with_reducible refine gate_callee (f := 9) rfl ?_); refine goesL_ (some 2) rfl rfl Try.func9 (by kernel_rfl) rfl #[.agg #[.int .i64 (-1), .int .i64 5]] rfl (by (try simp only [List.map_toArray, List.map_cons, List.map_nil]); first | done | rfl | (simp only [List.length_drop, List.length_take]; rfl)) ?_; (with_reducible refine (site_Low.calls (-1) 5 t103 t104 _ A1.out).mono ?_); rintro e w9 ⟨rfl, hb⟩; refine ⟨_, rfl, ?_⟩; have n0_ := Aside0.mk (below_step (by repeat (first | (with_reducible first | exact HB.out | apply below_alloc | apply pw_below_drewN | apply below_drew1) | exact HB.out)) hb); clear HB; have HB := n0_; clear n0_; (try clear hb); (try clear hb2); (try clear hk); (try clear hi)) | (go_at_call 28; (with_reducible refine (site_Leaf_Put.calls 0 1 0 3 t105 _ A3.out).mono ?_); rintro e w' ⟨rfl, ⟨nd, rfl⟩⟩) | (go_at_call 29; (with_reducible refine (site_Leaf_State.calls 12 1 0 t106 _ A5.out).mono ?_); rintro e w' ⟨rfl, ⟨nd, rfl⟩⟩))
        go_ret
        exact ⟨by first | rfl | (simp [errW_none, errW_some] <;> rfl) | (simp [*, errW_none, errW_some] <;> rfl), by repeat (first | (with_reducible first | exact HB.out | apply below_alloc | apply pw_below_drewN | apply below_drew1) | exact HB.out)⟩
    · rw [if_neg c4] at H
      have c4b0 : (t105 == 12) = false := beq_eq_false_iff_ne.mpr c4
      have c4b1 : (t105 != 12) = true := bne_iff_ne.mpr c4
      obtain rfl := Option.some.inj H
      go_enter Try.func5, Try.ntmps5
      go_wp2_with (first | ((with_reducible refine gate_callee (f := 9) rfl ?_); refine goesL_ (some 2) rfl rfl Try.func9 (by kernel_rfl) rfl #[.agg #[.int .i64 (-1), .int .i64 5]] rfl (by (try simp only [List.map_toArray, List.map_cons, List.map_nil]); first | done | rfl | (simp only [List.length_drop, List.length_take]; rfl)) ?_; (with_reducible refine (site_Low.calls (-1) 5 t103 t104 _ A1.out).mono ?_); rintro e w10 ⟨rfl, hb⟩; refine ⟨_, rfl, ?_⟩; have n0_ := Aside0.mk (below_step (by repeat (first | (with_reducible first | exact HB.out | apply below_alloc | apply pw_below_drewN | apply below_drew1) | exact HB.out)) hb); clear HB; have HB := n0_; clear n0_; (try clear hb); (try clear hb2); (try clear hk); (try clear hi)) | (go_at_call 28; (with_reducible refine (site_Leaf_Put.calls 0 1 0 3 t105 _ A3.out).mono ?_); rintro e w' ⟨rfl, ⟨nd, rfl⟩⟩))
      go_ret
      exact ⟨by first | rfl | (simp [errW_none, errW_some] <;> rfl) | (simp [*, errW_none, errW_some] <;> rfl), by repeat (first | (with_reducible first | exact HB.out | apply below_alloc | apply pw_below_drewN | apply below_drew1) | exact HB.out)⟩
  · rw [if_neg c2] at H
    have c2b0 : (t103 == (-4) && (t104 == 4)) = false := by simpa using c2
    (try (have c2b1 : decide (t103 = (-4) && (t104 == 4)) = false := by simpa using c2))
    (try (have c2b2 : (t103 == (-4) && (t104 == 4)) = false := by simpa using c2))
    (try (have c2b3 : ¬ (t103 = (-4) && (t104 == 4)) := by simpa using c2))
    clear c2
    obtain rfl := Option.some.inj H
    go_enter Try.func5, Try.ntmps5
    go_wp2_with (first | ((with_reducible refine gate_callee (f := 9) rfl ?_); refine goesL_ (some 2) rfl rfl Try.func9 (by kernel_rfl) rfl #[.agg #[.int .i64 (-1), .int .i64 5]] rfl (by (try simp only [List.map_toArray, List.map_cons, List.map_nil]); first | done | rfl | (simp only [List.length_drop, List.length_take]; rfl)) ?_; (with_reducible refine (site_Low.calls (-1) 5 t103 t104 _ A1.out).mono ?_); rintro e w11 ⟨rfl, hb⟩; refine ⟨_, rfl, ?_⟩; have n0_ := Aside0.mk (below_step (by repeat (first | (with_reducible first | exact HB.out | apply below_alloc | apply pw_below_drewN | apply below_drew1) | exact HB.out)) hb); clear HB; have HB := n0_; clear n0_; (try clear hb); (try clear hb2); (try clear hk); (try clear hi)))
    go_ret
    exact ⟨by first | rfl | (simp [errW_none, errW_some] <;> rfl) | (simp [*, errW_none, errW_some] <;> rfl), by repeat (first | (with_reducible first | exact HB.out | apply below_alloc | apply pw_below_drewN | apply below_drew1) | exact HB.out)⟩


end Go.Proofs.Ytpmipllohiiocaa.PTreeBuilds
