-- PRINTED BY print.sh 35421559b90ae4d0a3588c463048766b98c2df88dd9212a6774a882060cdf62d: not written by this session
import Derived.Test.YtohcigellhnlnaaPBoundRisesx0
import Derived.Test.YtohcigellhnlnaaPBoundRisesx1
namespace Go.Proofs.Ytohcigellhnlnaa.PBoundRises
open Go.RowKit Go.Proofs.YtohcigellhnlnaaW.PrintWords Go.Proofs.YtohcigellhnlnaaW.PrintLast Go.Proofs.YtohcigellhnlnaaW.PrintMore
attribute [local go_sem] max2_int min2_int max_two min_two max_three min_three max_four min_four   -- for this text's walks alone
set_option linter.unusedVariables false
set_option linter.unusedSimpArgs false

/-! ### honeycomblaw19_BoundRises: function 5 -/
def honeycomblaw19_BoundRises.f (k : Nat) (a0 : Int) (a1 : Int) (a2 : Int) (a3 : Int) (a4 : Int) (a5 : Int) : Option (Bool) := (honeycomblaw19_awake.f k).bind fun t139 => (if t139 = true then ((bound_Cells.f k (mx (IntKind.u64.wrap ((IntKind.u64.wrap (Int.tdiv a0 2)) + (IntKind.u64.wrap (Int.tdiv a3 2)))) a0) (mx (wrap64 ((wrap64 (Int.tdiv a1 2)) + (wrap64 (Int.tdiv a4 2)))) a1)).bind fun t140 => ((bound_Cells.f k a0 a1).bind fun t141 => (if t140 ≥ t141 then ((bound_Level.f k (mx (wrap64 ((wrap64 (Int.tdiv a2 2)) + (wrap64 (Int.tdiv a5 2)))) a2) (mx (wrap64 ((wrap64 (Int.tdiv a1 2)) + (wrap64 (Int.tdiv a4 2)))) a1)).bind fun t142 => ((bound_Level.f k a2 a1).bind fun t143 => (if t142 ≥ t143 then ((bound_Nodes.f k (mx (IntKind.u64.wrap ((IntKind.u64.wrap (Int.tdiv a0 2)) + (IntKind.u64.wrap (Int.tdiv a3 2)))) a0) (mx (wrap64 ((wrap64 (Int.tdiv a1 2)) + (wrap64 (Int.tdiv a4 2)))) a1) (mx (wrap64 ((wrap64 (Int.tdiv a2 2)) + (wrap64 (Int.tdiv a5 2)))) a2)).bind fun t144 => ((bound_Nodes.f k a0 a1 a2).bind fun t145 => (some (decide (t144 ≥ t145))))) else (some false)))) else (some false)))) else (some false))
theorem honeycomblaw19_BoundRises.mono : ∀ a0 a1 a2 a3 a4 a5 k, LeO (honeycomblaw19_BoundRises.f k a0 a1 a2 a3 a4 a5) (honeycomblaw19_BoundRises.f (k + 1) a0 a1 a2 a3 a4 a5) := by
  intro a0 a1 a2 a3 a4 a5 k
  unfold honeycomblaw19_BoundRises.f
  repeat' first
      | (with_reducible exact bound_Cells.mono _ _ _)
      | (with_reducible exact bound_Level.mono _ _ _)
      | (with_reducible exact bound_Nodes.mono _ _ _ _)
      | (with_reducible exact honeycomblaw19_awake.mono _)
      | (with_reducible exact LeO.refl _)
      | (with_reducible exact LeO.none _)
      | (with_reducible refine LeO.ite ?_ ?_)
      | (with_reducible refine LeO.bind ?_ (fun _ => ?_))
      | exact bound_Cells.mono _ _ _
      | exact bound_Level.mono _ _ _
      | exact bound_Nodes.mono _ _ _ _
      | exact honeycomblaw19_awake.mono _
      | exact LeO.none _
      | refine LeO.ite ?_ ?_
      | refine LeO.bind ?_ (fun _ => ?_)
set_option maxHeartbeats 8000000 in
set_option maxRecDepth 100000 in
theorem honeycomblaw19_BoundRises.calls (k : Nat) (a0 : Int) (a1 : Int) (a2 : Int) (a3 : Int) (a4 : Int) (a5 : Int) (r : Bool) (w : World) (h : honeycomblaw19_BoundRises.f k a0 a1 a2 a3 a4 a5 = some r) :
    Calls Try.prog 5 #[.int .u64 a0, .int .i64 a1, .int .i64 a2, .int .u64 a3, .int .i64 a4, .int .i64 a5] w fun e w' => e = .returned (.bool r) ∧ Below w.heap.size w w' := by
  have HB := Aside0.mk (Below.refl w.heap.size w)
  have H : ((honeycomblaw19_awake.f k).bind fun t139 => (if t139 = true then ((bound_Cells.f k (mx (IntKind.u64.wrap ((IntKind.u64.wrap (Int.tdiv a0 2)) + (IntKind.u64.wrap (Int.tdiv a3 2)))) a0) (mx (wrap64 ((wrap64 (Int.tdiv a1 2)) + (wrap64 (Int.tdiv a4 2)))) a1)).bind fun t140 => ((bound_Cells.f k a0 a1).bind fun t141 => (if t140 ≥ t141 then ((bound_Level.f k (mx (wrap64 ((wrap64 (Int.tdiv a2 2)) + (wrap64 (Int.tdiv a5 2)))) a2) (mx (wrap64 ((wrap64 (Int.tdiv a1 2)) + (wrap64 (Int.tdiv a4 2)))) a1)).bind fun t142 => ((bound_Level.f k a2 a1).bind fun t143 => (if t142 ≥ t143 then ((bound_Nodes.f k (mx (IntKind.u64.wrap ((IntKind.u64.wrap (Int.tdiv a0 2)) + (IntKind.u64.wrap (Int.tdiv a3 2)))) a0) (mx (wrap64 ((wrap64 (Int.tdiv a1 2)) + (wrap64 (Int.tdiv a4 2)))) a1) (mx (wrap64 ((wrap64 (Int.tdiv a2 2)) + (wrap64 (Int.tdiv a5 2)))) a2)).bind fun t144 => ((bound_Nodes.f k a0 a1 a2).bind fun t145 => (some (decide (t144 ≥ t145))))) else (some false)))) else (some false)))) else (some false))) = some r := h
  clear h
  replace H := Option.bind_eq_some_iff.mp H
  obtain ⟨t139, A70, H⟩ := H
  replace H : (if t139 = true then ((bound_Cells.f k (mx (IntKind.u64.wrap ((IntKind.u64.wrap (Int.tdiv a0 2)) + (IntKind.u64.wrap (Int.tdiv a3 2)))) a0) (mx (wrap64 ((wrap64 (Int.tdiv a1 2)) + (wrap64 (Int.tdiv a4 2)))) a1)).bind fun t140 => ((bound_Cells.f k a0 a1).bind fun t141 => (if t140 ≥ t141 then ((bound_Level.f k (mx (wrap64 ((wrap64 (Int.tdiv a2 2)) + (wrap64 (Int.tdiv a5 2)))) a2) (mx (wrap64 ((wrap64 (Int.tdiv a1 2)) + (wrap64 (Int.tdiv a4 2)))) a1)).bind fun t142 => ((bound_Level.f k a2 a1).bind fun t143 => (if t142 ≥ t143 then ((bound_Nodes.f k (mx (IntKind.u64.wrap ((IntKind.u64.wrap (Int.tdiv a0 2)) + (IntKind.u64.wrap (Int.tdiv a3 2)))) a0) (mx (wrap64 ((wrap64 (Int.tdiv a1 2)) + (wrap64 (Int.tdiv a4 2)))) a1) (mx (wrap64 ((wrap64 (Int.tdiv a2 2)) + (wrap64 (Int.tdiv a5 2)))) a2)).bind fun t144 => ((bound_Nodes.f k a0 a1 a2).bind fun t145 => (some (decide (t144 ≥ t145))))) else (some false)))) else (some false)))) else (some false)) = some r := H
  have A7 := Aside0.mk A70
  clear A70
  by_cases c8 : t139 = true
  · subst c8
    have H1 : ((bound_Cells.f k (mx (IntKind.u64.wrap ((IntKind.u64.wrap (Int.tdiv a0 2)) + (IntKind.u64.wrap (Int.tdiv a3 2)))) a0) (mx (wrap64 ((wrap64 (Int.tdiv a1 2)) + (wrap64 (Int.tdiv a4 2)))) a1)).bind fun t140 => ((bound_Cells.f k a0 a1).bind fun t141 => (if t140 ≥ t141 then ((bound_Level.f k (mx (wrap64 ((wrap64 (Int.tdiv a2 2)) + (wrap64 (Int.tdiv a5 2)))) a2) (mx (wrap64 ((wrap64 (Int.tdiv a1 2)) + (wrap64 (Int.tdiv a4 2)))) a1)).bind fun t142 => ((bound_Level.f k a2 a1).bind fun t143 => (if t142 ≥ t143 then ((bound_Nodes.f k (mx (IntKind.u64.wrap ((IntKind.u64.wrap (Int.tdiv a0 2)) + (IntKind.u64.wrap (Int.tdiv a3 2)))) a0) (mx (wrap64 ((wrap64 (Int.tdiv a1 2)) + (wrap64 (Int.tdiv a4 2)))) a1) (mx (wrap64 ((wrap64 (Int.tdiv a2 2)) + (wrap64 (Int.tdiv a5 2)))) a2)).bind fun t144 => ((bound_Nodes.f k a0 a1 a2).bind fun t145 => (some (decide (t144 ≥ t145))))) else (some false)))) else (some false)))) = some r := by rw [if_pos rfl] at H; exact H
    clear H
    have H := H1
    clear H1
    obtain ⟨ji9, hji9⟩ : ∃ j_ : Int, (mx (IntKind.u64.wrap ((IntKind.u64.wrap (Int.tdiv a0 2)) + (IntKind.u64.wrap (Int.tdiv a3 2)))) a0) = j_ := ⟨_, rfl⟩
    replace H : ((bound_Cells.f k (ji9) (mx (wrap64 ((wrap64 (Int.tdiv a1 2)) + (wrap64 (Int.tdiv a4 2)))) a1)).bind fun t140 => ((bound_Cells.f k a0 a1).bind fun t141 => (if t140 ≥ t141 then ((bound_Level.f k (mx (wrap64 ((wrap64 (Int.tdiv a2 2)) + (wrap64 (Int.tdiv a5 2)))) a2) (mx (wrap64 ((wrap64 (Int.tdiv a1 2)) + (wrap64 (Int.tdiv a4 2)))) a1)).bind fun t142 => ((bound_Level.f k a2 a1).bind fun t143 => (if t142 ≥ t143 then ((bound_Nodes.f k (ji9) (mx (wrap64 ((wrap64 (Int.tdiv a1 2)) + (wrap64 (Int.tdiv a4 2)))) a1) (mx (wrap64 ((wrap64 (Int.tdiv a2 2)) + (wrap64 (Int.tdiv a5 2)))) a2)).bind fun t144 => ((bound_Nodes.f k a0 a1 a2).bind fun t145 => (some (decide (t144 ≥ t145))))) else (some false)))) else (some false)))) = some r := by first | (rw [hji9] at H; exact H) | (simp only [hji9] at H ⊢; exact H)
    (try rw [hji9] at A7)
    have hji9_ : (if (IntKind.u64.wrap ((IntKind.u64.wrap (Int.tdiv a0 2)) + (IntKind.u64.wrap (Int.tdiv a3 2)))) < a0 then a0 else (IntKind.u64.wrap ((IntKind.u64.wrap (Int.tdiv a0 2)) + (IntKind.u64.wrap (Int.tdiv a3 2))))) = ji9 := hji9
    obtain ⟨ji10, hji10⟩ : ∃ j_ : Int, (mx (wrap64 ((wrap64 (Int.tdiv a1 2)) + (wrap64 (Int.tdiv a4 2)))) a1) = j_ := ⟨_, rfl⟩
    replace H : ((bound_Cells.f k (ji9) (ji10)).bind fun t140 => ((bound_Cells.f k a0 a1).bind fun t141 => (if t140 ≥ t141 then ((bound_Level.f k (mx (wrap64 ((wrap64 (Int.tdiv a2 2)) + (wrap64 (Int.tdiv a5 2)))) a2) (ji10)).bind fun t142 => ((bound_Level.f k a2 a1).bind fun t143 => (if t142 ≥ t143 then ((bound_Nodes.f k (ji9) (ji10) (mx (wrap64 ((wrap64 (Int.tdiv a2 2)) + (wrap64 (Int.tdiv a5 2)))) a2)).bind fun t144 => ((bound_Nodes.f k a0 a1 a2).bind fun t145 => (some (decide (t144 ≥ t145))))) else (some false)))) else (some false)))) = some r := by first | (rw [hji10] at H; exact H) | (simp only [hji10] at H ⊢; exact H)
    (try rw [hji10] at A7)
    have hji10_ : (if (wrap64 ((wrap64 (Int.tdiv a1 2)) + (wrap64 (Int.tdiv a4 2)))) < a1 then a1 else (wrap64 ((wrap64 (Int.tdiv a1 2)) + (wrap64 (Int.tdiv a4 2))))) = ji10 := hji10
    obtain ⟨ji11, hji11⟩ : ∃ j_ : Int, (mx (wrap64 ((wrap64 (Int.tdiv a2 2)) + (wrap64 (Int.tdiv a5 2)))) a2) = j_ := ⟨_, rfl⟩
    replace H : ((bound_Cells.f k (ji9) (ji10)).bind fun t140 => ((bound_Cells.f k a0 a1).bind fun t141 => (if t140 ≥ t141 then ((bound_Level.f k (ji11) (ji10)).bind fun t142 => ((bound_Level.f k a2 a1).bind fun t143 => (if t142 ≥ t143 then ((bound_Nodes.f k (ji9) (ji10) (ji11)).bind fun t144 => ((bound_Nodes.f k a0 a1 a2).bind fun t145 => (some (decide (t144 ≥ t145))))) else (some false)))) else (some false)))) = some r := by first | (rw [hji11] at H; exact H) | (simp only [hji11] at H ⊢; exact H)
    (try rw [hji11] at A7)
    have hji11_ : (if (wrap64 ((wrap64 (Int.tdiv a2 2)) + (wrap64 (Int.tdiv a5 2)))) < a2 then a2 else (wrap64 ((wrap64 (Int.tdiv a2 2)) + (wrap64 (Int.tdiv a5 2))))) = ji11 := hji11
    replace H := Option.bind_eq_some_iff.mp H
    obtain ⟨t140, A120, H⟩ := H
    replace H : ((bound_Cells.f k a0 a1).bind fun t141 => (if t140 ≥ t141 then ((bound_Level.f k (ji11) (ji10)).bind fun t142 => ((bound_Level.f k a2 a1).bind fun t143 => (if t142 ≥ t143 then ((bound_Nodes.f k (ji9) (ji10) (ji11)).bind fun t144 => ((bound_Nodes.f k a0 a1 a2).bind fun t145 => (some (decide (t144 ≥ t145))))) else (some false)))) else (some false))) = some r := H
    have A12 := Aside0.mk A120
    clear A120
    replace H := Option.bind_eq_some_iff.mp H
    obtain ⟨t141, A130, H⟩ := H
    replace H : (if t140 ≥ t141 then ((bound_Level.f k (ji11) (ji10)).bind fun t142 => ((bound_Level.f k a2 a1).bind fun t143 => (if t142 ≥ t143 then ((bound_Nodes.f k (ji9) (ji10) (ji11)).bind fun t144 => ((bound_Nodes.f k a0 a1 a2).bind fun t145 => (some (decide (t144 ≥ t145))))) else (some false)))) else (some false)) = some r := H
    have A13 := Aside0.mk A130
    clear A130
    by_cases c14 : t140 ≥ t141
    · rw [if_pos c14] at H
      have c14b0 : decide (t141 ≤ t140) = true := decide_eq_true c14
      clear c14
      replace H := Option.bind_eq_some_iff.mp H
      obtain ⟨t142, A150, H⟩ := H
      replace H : ((bound_Level.f k a2 a1).bind fun t143 => (if t142 ≥ t143 then ((bound_Nodes.f k (ji9) (ji10) (ji11)).bind fun t144 => ((bound_Nodes.f k a0 a1 a2).bind fun t145 => (some (decide (t144 ≥ t145))))) else (some false))) = some r := H
      have A15 := Aside0.mk A150
      clear A150
      replace H := Option.bind_eq_some_iff.mp H
      obtain ⟨t143, A160, H⟩ := H
      replace H : (if t142 ≥ t143 then ((bound_Nodes.f k (ji9) (ji10) (ji11)).bind fun t144 => ((bound_Nodes.f k a0 a1 a2).bind fun t145 => (some (decide (t144 ≥ t145))))) else (some false)) = some r := H
      have A16 := Aside0.mk A160
      clear A160
      by_cases c17 : t142 ≥ t143
      · rw [if_pos c17] at H
        have c17b0 : decide (t143 ≤ t142) = true := decide_eq_true c17
        clear c17
        replace H := Option.bind_eq_some_iff.mp H
        obtain ⟨t144, A180, H⟩ := H
        replace H : ((bound_Nodes.f k a0 a1 a2).bind fun t145 => (some (decide (t144 ≥ t145)))) = some r := H
        have A18 := Aside0.mk A180
        clear A180
        replace H := Option.bind_eq_some_iff.mp H
        obtain ⟨t145, A190, H⟩ := H
        replace H : (some (decide (t144 ≥ t145))) = some r := H
        have A19 := Aside0.mk A190
        clear A190
        obtain rfl := Option.some.inj H
        go_enter Try.func5, Try.ntmps5
        go_wp2_with (first | ((with_reducible refine gate_callee (f := 6) rfl ?_); refine goesL_ (some 16) rfl rfl Try.func6 (by kernel_rfl) rfl #[] rfl (by (try simp only [List.map_toArray, List.map_cons, List.map_nil]); first | done | rfl | (simp only [List.length_drop, List.length_take]; rfl)) ?_; (with_reducible refine (honeycomblaw19_awake.calls k  true _ A7.out).mono ?_); rintro e w20 ⟨rfl, hb⟩; refine ⟨_, rfl, ?_⟩; have n0_ := Aside0.mk (below_step (by repeat (first | (with_reducible first | exact HB.out | apply below_alloc | apply pw_below_drewN | apply below_drew1) | exact HB.out)) hb); clear HB; have HB := n0_; clear n0_; (try clear hb); (try clear hb2); (try clear hk); (try clear hi)) | ((with_reducible refine gate_callee (f := 7) rfl ?_); refine goesL_ (some 44) rfl rfl Try.func7 (by kernel_rfl) rfl #[.int .u64 ji9, .int .i64 ji10] rfl (by (try simp only [List.map_toArray, List.map_cons, List.map_nil]); first | done | (simp only [hji10, hji9]; rfl) | rfl | (simp only [List.length_drop, List.length_take]; rfl)) ?_; (with_reducible refine (bound_Cells.calls k ji9 ji10 t140 _ A12.out).mono ?_); rintro e w21 ⟨rfl, hb⟩; refine ⟨_, rfl, ?_⟩; have n0_ := Aside0.mk (below_step (by repeat (first | (with_reducible first | exact HB.out | apply below_alloc | apply pw_below_drewN | apply below_drew1) | exact HB.out)) hb); clear HB; have HB := n0_; clear n0_; (try clear hb); (try clear hb2); (try clear hk); (try clear hi)) | ((with_reducible refine gate_callee (f := 7) rfl ?_); refine goesL_ (some 47) rfl rfl Try.func7 (by kernel_rfl) rfl #[.int .u64 a0, .int .i64 a1] rfl (by (try simp only [List.map_toArray, List.map_cons, List.map_nil]); first | done | rfl | (simp only [List.length_drop, List.length_take]; rfl)) ?_; (with_reducible refine (bound_Cells.calls k a0 a1 t141 _ A13.out).mono ?_); rintro e w22 ⟨rfl, hb⟩; refine ⟨_, rfl, ?_⟩; have n0_ := Aside0.mk (below_step (by repeat (first | (with_reducible first | exact HB.out | apply below_alloc | apply pw_below_drewN | apply below_drew1) | exact HB.out)) hb); clear HB; have HB := n0_; clear n0_; (try clear hb); (try clear hb2); (try clear hk); (try clear hi)) | (go_at_call 9; (with_reducible refine (bound_Level.calls k ji11 ji10 t142 _ A15.out).mono ?_); rintro e w23 ⟨rfl, hb⟩; have n0_ := Aside0.mk (below_step (by repeat (first | (with_reducible first | exact HB.out | apply below_alloc | apply pw_below_drewN | apply below_drew1) | exact HB.out)) hb); clear HB; have HB := n0_; clear n0_; (try clear hb); (try clear hb2); (try clear hk); (try clear hi)) | (go_at_call 9; (with_reducible refine (bound_Level.calls k a2 a1 t143 _ A16.out).mono ?_); rintro e w24 ⟨rfl, hb⟩; have n0_ := Aside0.mk (below_step (by repeat (first | (with_reducible first | exact HB.out | apply below_alloc | apply pw_below_drewN | apply below_drew1) | exact HB.out)) hb); clear HB; have HB := n0_; clear n0_; (try clear hb); (try clear hb2); (try clear hk); (try clear hi)) | (go_at_call 11; (with_reducible refine (bound_Nodes.calls k ji9 ji10 ji11 t144 _ A18.out).mono ?_); rintro e w25 ⟨rfl, hb⟩; have n0_ := Aside0.mk (below_step (by repeat (first | (with_reducible first | exact HB.out | apply below_alloc | apply pw_below_drewN | apply below_drew1) | exact HB.out)) hb); clear HB; have HB := n0_; clear n0_; (try clear hb); (try clear hb2); (try clear hk); (try clear hi)) | (go_at_call 11; (with_reducible refine (bound_Nodes.calls k a0 a1 a2 t145 _ A19.out).mono ?_); rintro e w26 ⟨rfl, hb⟩; have n0_ := Aside0.mk (below_step (by repeat (first | (with_reducible first | exact HB.out | apply below_alloc | apply pw_below_drewN | apply below_drew1) | exact HB.out)) hb); clear HB; have HB := n0_; clear n0_; (try clear hb); (try clear hb2); (try clear hk); (try clear hi)))
        go_ret
        exact ⟨by first | rfl | (simp [errW_none, errW_some] <;> rfl) | (simp only [← hji9, ← hji10, ← hji11]; first | rfl | (simp [errW_none, errW_some] <;> rfl)) | (simp [*, errW_none, errW_some] <;> rfl), by repeat (first | (with_reducible first | exact HB.out | apply below_alloc | apply pw_below_drewN | apply below_drew1) | exact HB.out)⟩
      · rw [if_neg c17] at H
        have c17b0 : decide (t143 ≤ t142) = false := decide_eq_false c17
        clear c17
        obtain rfl := Option.some.inj H
        go_enter Try.func5, Try.ntmps5
        go_wp2_with (first | ((with_reducible refine gate_callee (f := 6) rfl ?_); refine goesL_ (some 16) rfl rfl Try.func6 (by kernel_rfl) rfl #[] rfl (by (try simp only [List.map_toArray, List.map_cons, List.map_nil]); first | done | rfl | (simp only [List.length_drop, List.length_take]; rfl)) ?_; (with_reducible refine (honeycomblaw19_awake.calls k  true _ A7.out).mono ?_); rintro e w27 ⟨rfl, hb⟩; refine ⟨_, rfl, ?_⟩; have n0_ := Aside0.mk (below_step (by repeat (first | (with_reducible first | exact HB.out | apply below_alloc | apply pw_below_drewN | apply below_drew1) | exact HB.out)) hb); clear HB; have HB := n0_; clear n0_; (try clear hb); (try clear hb2); (try clear hk); (try clear hi)) | ((with_reducible refine gate_callee (f := 7) rfl ?_); refine goesL_ (some 44) rfl rfl Try.func7 (by kernel_rfl) rfl #[.int .u64 ji9, .int .i64 ji10] rfl (by (try simp only [List.map_toArray, List.map_cons, List.map_nil]); first | done | (simp only [hji10, hji9]; rfl) | rfl | (simp only [List.length_drop, List.length_take]; rfl)) ?_; (with_reducible refine (bound_Cells.calls k ji9 ji10 t140 _ A12.out).mono ?_); rintro e w28 ⟨rfl, hb⟩; refine ⟨_, rfl, ?_⟩; have n0_ := Aside0.mk (below_step (by repeat (first | (with_reducible first | exact HB.out | apply below_alloc | apply pw_below_drewN | apply below_drew1) | exact HB.out)) hb); clear HB; have HB := n0_; clear n0_; (try clear hb); (try clear hb2); (try clear hk); (try clear hi)) | ((with_reducible refine gate_callee (f := 7) rfl ?_); refine goesL_ (some 47) rfl rfl Try.func7 (by kernel_rfl) rfl #[.int .u64 a0, .int .i64 a1] rfl (by (try simp only [List.map_toArray, List.map_cons, List.map_nil]); first | done | rfl | (simp only [List.length_drop, List.length_take]; rfl)) ?_; (with_reducible refine (bound_Cells.calls k a0 a1 t141 _ A13.out).mono ?_); rintro e w29 ⟨rfl, hb⟩; refine ⟨_, rfl, ?_⟩; have n0_ := Aside0.mk (below_step (by repeat (first | (with_reducible first | exact HB.out | apply below_alloc | apply pw_below_drewN | apply below_drew1) | exact HB.out)) hb); clear HB; have HB := n0_; clear n0_; (try clear hb); (try clear hb2); (try clear hk); (try clear hi)) | (go_at_call 9; (with_reducible refine (bound_Level.calls k ji11 ji10 t142 _ A15.out).mono ?_); rintro e w30 ⟨rfl, hb⟩; have n0_ := Aside0.mk (below_step (by repeat (first | (with_reducible first | exact HB.out | apply below_alloc | apply pw_below_drewN | apply below_drew1) | exact HB.out)) hb); clear HB; have HB := n0_; clear n0_; (try clear hb); (try clear hb2); (try clear hk); (try clear hi)) | (go_at_call 9; (with_reducible refine (bound_Level.calls k a2 a1 t143 _ A16.out).mono ?_); rintro e w31 ⟨rfl, hb⟩; have n0_ := Aside0.mk (below_step (by repeat (first | (with_reducible first | exact HB.out | apply below_alloc | apply pw_below_drewN | apply below_drew1) | exact HB.out)) hb); clear HB; have HB := n0_; clear n0_; (try clear hb); (try clear hb2); (try clear hk); (try clear hi)))
        go_ret
        exact ⟨by first | rfl | (simp [errW_none, errW_some] <;> rfl) | (simp only [← hji9, ← hji10, ← hji11]; first | rfl | (simp [errW_none, errW_some] <;> rfl)) | (simp [*, errW_none, errW_some] <;> rfl), by repeat (first | (with_reducible first | exact HB.out | apply below_alloc | apply pw_below_drewN | apply below_drew1) | exact HB.out)⟩
    · rw [if_neg c14] at H
      have c14b0 : decide (t141 ≤ t140) = false := decide_eq_false c14
      clear c14
      obtain rfl := Option.some.inj H
      go_enter Try.func5, Try.ntmps5
      go_wp2_with (first | ((with_reducible refine gate_callee (f := 6) rfl ?_); refine goesL_ (some 16) rfl rfl Try.func6 (by kernel_rfl) rfl #[] rfl (by (try simp only [List.map_toArray, List.map_cons, List.map_nil]); first | done | rfl | (simp only [List.length_drop, List.length_take]; rfl)) ?_; (with_reducible refine (honeycomblaw19_awake.calls k  true _ A7.out).mono ?_); rintro e w32 ⟨rfl, hb⟩; refine ⟨_, rfl, ?_⟩; have n0_ := Aside0.mk (below_step (by repeat (first | (with_reducible first | exact HB.out | apply below_alloc | apply pw_below_drewN | apply below_drew1) | exact HB.out)) hb); clear HB; have HB := n0_; clear n0_; (try clear hb); (try clear hb2); (try clear hk); (try clear hi)) | ((with_reducible refine gate_callee (f := 7) rfl ?_); refine goesL_ (some 44) rfl rfl Try.func7 (by kernel_rfl) rfl #[.int .u64 ji9, .int .i64 ji10] rfl (by (try simp only [List.map_toArray, List.map_cons, List.map_nil]); first | done | (simp only [hji10, hji9]; rfl) | rfl | (simp only [List.length_drop, List.length_take]; rfl)) ?_; (with_reducible refine (bound_Cells.calls k ji9 ji10 t140 _ A12.out).mono ?_); rintro e w33 ⟨rfl, hb⟩; refine ⟨_, rfl, ?_⟩; have n0_ := Aside0.mk (below_step (by repeat (first | (with_reducible first | exact HB.out | apply below_alloc | apply pw_below_drewN | apply below_drew1) | exact HB.out)) hb); clear HB; have HB := n0_; clear n0_; (try clear hb); (try clear hb2); (try clear hk); (try clear hi)) | ((with_reducible refine gate_callee (f := 7) rfl ?_); refine goesL_ (some 47) rfl rfl Try.func7 (by kernel_rfl) rfl #[.int .u64 a0, .int .i64 a1] rfl (by (try simp only [List.map_toArray, List.map_cons, List.map_nil]); first | done | rfl | (simp only [List.length_drop, List.length_take]; rfl)) ?_; (with_reducible refine (bound_Cells.calls k a0 a1 t141 _ A13.out).mono ?_); rintro e w34 ⟨rfl, hb⟩; refine ⟨_, rfl, ?_⟩; have n0_ := Aside0.mk (below_step (by repeat (first | (with_reducible first | exact HB.out | apply below_alloc | apply pw_below_drewN | apply below_drew1) | exact HB.out)) hb); clear HB; have HB := n0_; clear n0_; (try clear hb); (try clear hb2); (try clear hk); (try clear hi)))
      go_ret
      exact ⟨by first | rfl | (simp [errW_none, errW_some] <;> rfl) | (simp only [← hji9, ← hji10, ← hji11]; first | rfl | (simp [errW_none, errW_some] <;> rfl)) | (simp [*, errW_none, errW_some] <;> rfl), by repeat (first | (with_reducible first | exact HB.out | apply below_alloc | apply pw_below_drewN | apply below_drew1) | exact HB.out)⟩
  · replace c8 := Bool.eq_false_iff.mpr c8
    subst c8
    have H1 : (some false) = some r := by rw [if_neg (show ¬ (false = true) by decide)] at H; exact H
    clear H
    have H := H1
    clear H1
    obtain rfl := Option.some.inj H
    go_enter Try.func5, Try.ntmps5
    go_wp2_with (first | ((with_reducible refine gate_callee (f := 6) rfl ?_); refine goesL_ (some 16) rfl rfl Try.func6 (by kernel_rfl) rfl #[] rfl (by (try simp only [List.map_toArray, List.map_cons, List.map_nil]); first | done | rfl | (simp only [List.length_drop, List.length_take]; rfl)) ?_; (with_reducible refine (honeycomblaw19_awake.calls k  false _ A7.out).mono ?_); rintro e w35 ⟨rfl, hb⟩; refine ⟨_, rfl, ?_⟩; have n0_ := Aside0.mk (below_step (by repeat (first | (with_reducible first | exact HB.out | apply below_alloc | apply pw_below_drewN | apply below_drew1) | exact HB.out)) hb); clear HB; have HB := n0_; clear n0_; (try clear hb); (try clear hb2); (try clear hk); (try clear hi)))
    go_ret
    exact ⟨by first | rfl | (simp [errW_none, errW_some] <;> rfl) | (simp [*, errW_none, errW_some] <;> rfl), by repeat (first | (with_reducible first | exact HB.out | apply below_alloc | apply pw_below_drewN | apply below_drew1) | exact HB.out)⟩

/-- THE ONE PURE STATEMENT of honeycomblaw19_BoundRises: yours. -/
def honeycomblaw19_BoundRises.Pure : Prop := ∀ (a0 : Int) (a1 : Int) (a2 : Int) (a3 : Int) (a4 : Int) (a5 : Int), (Lit.int .u64 a0).wf = true → (Lit.int .i64 a1).wf = true → (Lit.int .i64 a2).wf = true → (Lit.int .u64 a3).wf = true → (Lit.int .i64 a4).wf = true → (Lit.int .i64 a5).wf = true → ∃ k, honeycomblaw19_BoundRises.f k a0 a1 a2 a3 a4 a5 = some true
theorem honeycomblaw19_BoundRises.walk (P : honeycomblaw19_BoundRises.Pure) (a0 : Int) (a1 : Int) (a2 : Int) (a3 : Int) (a4 : Int) (a5 : Int) (w : World) (w0 : (Lit.int .u64 a0).wf = true) (w1 : (Lit.int .i64 a1).wf = true) (w2 : (Lit.int .i64 a2).wf = true) (w3 : (Lit.int .u64 a3).wf = true) (w4 : (Lit.int .i64 a4).wf = true) (w5 : (Lit.int .i64 a5).wf = true) :
    Calls Try.prog 5 #[.int .u64 a0, .int .i64 a1, .int .i64 a2, .int .u64 a3, .int .i64 a4, .int .i64 a5] w fun e w' => e = .returned (.bool true) ∧ Below w.heap.size w w' := by
  obtain ⟨k, h⟩ := P a0 a1 a2 a3 a4 a5 w0 w1 w2 w3 w4 w5
  refine (honeycomblaw19_BoundRises.calls k a0 a1 a2 a3 a4 a5 true w h).mono ?_
  rintro e w' ⟨rfl, hd⟩
  exact ⟨rfl, hd⟩

end Go.Proofs.Ytohcigellhnlnaa.PBoundRises
