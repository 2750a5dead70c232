/- The law ArenaNone: what isn't there. -/
import Derived.Test.YtbeijhjafmalgaaDoorArAwake
import Derived.Test.YtbeijhjafmalgaaDoorErrAs
namespace Go.Proofs.YtbeijhjafmalgaaDoor.ar
open Go.RowKit Go.Proofs.YtbeijhjafmalgaaDoorW.PrintWords Go.Proofs.YtbeijhjafmalgaaDoorW.PrintLast Go.Proofs.YtbeijhjafmalgaaDoorW.PrintMore Go.Proofs.YtbeijhjafmalgaaDoor.bs Go.ChangeShapes Go.Proofs.YtbeijhjafmalgaaDoor.lb

theorem eqlArr4 (w : World) (a0 a1 a2 a3 b0 b1 b2 b3 : Int) :
    (binOp .eql 32 (.agg #[.int .u32 a0, .int .u32 a1, .int .u32 a2, .int .u32 a3]) (.agg #[.int .u32 b0, .int .u32 b1, .int .u32 b2, .int .u32 b3])).run Tryd.prog w = .ok (.bool (a0 == b0 && (a1 == b1 && (a2 == b2 && a3 == b3)))) w := by
  rw [run_eql_struct, show 10000 = 9998 + 2 from rfl, eqArr4]
  rfl
theorem guardArr4 (w : World) (op : BinOp) (x y : Operand) (xs ys : Array Value) : (eqGuard op 32 x y (.agg xs) (.agg ys)).run Tryd.prog w = .ok () w :=
  run_eqGuard_agg w op _ x y xs ys (by kernel_rfl)
attribute [local go_sem high] eqlArr4 guardArr4
set_option maxRecDepth 100000 in
theorem none_walk (i : Int) (h0 : 0 ≤ i) (h1 : i < 4294967296) (w : World) (hE : ec.ErrAt w) : Calls Tryd.prog 3 #[.int .u32 i] w fun e w' => e = .returned (.bool true) ∧ Below w.heap.size w w' := by
  have HE := Aside0.mk hE
  clear hE
  go_enter Tryd.func3, Tryd.ntmps3
  go_wp2_with (fail)
  refine (awake_walk w).mono ?_
  rintro e w1 ⟨rfl, hb⟩
  have B1 := Aside0.mk hb
  clear hb
  go_wp2_with (fail)
  refine (own_new 0 (by omega) w1).mono ?_
  rintro e w2 ⟨p, rfl, hA⟩
  rw [show max (0 : Int) 64 = 64 by rfl] at hA
  have A2 := Aside0.mk (hA.elder B1.out)
  clear hA
  by_cases hi : i = 0
  · subst hi
    have hL := own_len A2.out
    have hV := own_level A2.out 0 (by omega) (by omega)
    have hl2 : ([nd0].length : Int) = 1 := rfl
    have hv2 : lvAt [nd0] 0 = 2 := rfl
    rw [hl2] at hL
    rw [hv2] at hV
    clear hl2 hv2
    go_wp2_with (first | (go_at_call 9; refine hL.mono ?_; rintro e w1 ⟨rfl, rfl⟩) | (go_at_call 8; refine hV.mono ?_; rintro e w1 ⟨rfl, rfl⟩))
    go_ret
    exact ⟨ret_bool (by first | rfl | (simp; done)), A2.out.below⟩
  · have hgo : (([nd0].length : Nat) : Int) ≤ i := by simp; omega
    obtain ⟨hlv, hbv, hcv, hkv⟩ : lvAt [nd0] i = -1 ∧ bitsAt [nd0] i = 0 ∧ cntAt [nd0] i = 0 ∧ keyAt [nd0] i = ⟨0, 0, 0, 0, 0, 0⟩ := by
      rcases at_cases [nd0] i h0 with ⟨k, x, rfl, hx⟩ | ⟨_, h⟩
      · have := (List.getElem?_eq_some_iff.1 hx).1; omega
      · exact h
    have hj : joinN [nd0] 64 0 0 i 0 = ([nd0], 0, 4) := if_neg (fun h => by have := h.2.2.1; rw [hlv] at this; exact absurd this (by decide))
    have hjw := own_join A2.out 0 0 i 0 zero_bd zero_bd ⟨h0, h1⟩ zero_bd (by simp)
    rw [hj] at hjw
    have HJ := Aside0.mk hjw
    have HLV := Aside0.mk hlv
    have HBV := Aside0.mk hbv
    have HCV := Aside0.mk hcv
    have HKV := Aside0.mk hkv
    clear hj hjw hlv hbv hcv hkv hgo
    go_wp2_with (fail)
    refine HJ.out.mono ?_
    rintro e w3 ⟨rfl, hA⟩
    dsimp only at hA ⊢
    rw [show errOf 4 = .iface 38 (.int .i64 4) from rfl]
    have A3 := Aside0.mk hA
    clear hA
    have hL := own_level A3.out i h0 h1
    have hB := own_bits A3.out i h0 h1
    rw [HLV.out] at hL
    rw [HBV.out] at hB
    go_wp2_with (first | (go_at_call 8; refine hL.mono ?_; rintro e w1 ⟨rfl, rfl⟩) | (go_at_call 11; refine hB.mono ?_; rintro e w1 ⟨rfl, rfl⟩))
    refine (own_kids A3.out i h0 h1).mono ?_
    rw [HKV.out]
    rintro e w4 ⟨rfl, hA⟩
    unfold kidsVal
    have A4 := Aside0.mk hA
    clear hA hL hB
    have hC := own_count A4.out i h0 h1
    rw [HCV.out] at hC
    have hE := ec.code_hit 4 w4 (HE.out.below A4.out.below)
    go_wp2_with (first | (go_at_call 13; refine hC.mono ?_; rintro e w1 ⟨rfl, rfl⟩))
    refine hE.mono ?_
    rintro e w5 ⟨rfl, hb⟩
    have A5 := Aside0.mk (A4.out.next hb)
    clear hE hC hb
    have hL := own_len A5.out
    have hl2 : ([nd0].length : Int) = 1 := rfl
    rw [hl2] at hL
    clear hl2
    go_wp2_with (first | (go_at_call 9; refine hL.mono ?_; rintro e w1 ⟨rfl, rfl⟩))
    go_ret
    exact ⟨ret_bool (by first | rfl | (simp; done)), A5.out.below⟩
end Go.Proofs.YtbeijhjafmalgaaDoor.ar
