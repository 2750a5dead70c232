/- The law's awake: the arena's answers that the document fixes. -/
import Derived.Test.YtbeijhjafmalgaaDoorArOwn
namespace Go.Proofs.YtbeijhjafmalgaaDoor.ar
open Go.RowKit Go.Proofs.YtbeijhjafmalgaaDoorW.PrintWords Go.Proofs.YtbeijhjafmalgaaDoorW.PrintLast Go.Proofs.YtbeijhjafmalgaaDoorW.PrintMore Go.Proofs.YtbeijhjafmalgaaDoor.bs Go.ChangeShapes Go.Proofs.YtbeijhjafmalgaaDoor.lb

def nd1 : Nd := ⟨leafKey 1, 1⟩
theorem add_second : addN [nd0] 64 (leafKey (1 : Nat)) (popN 32 1 : Nat) = ([nd0, nd1], 1, 0) := by kernel_rfl
theorem add_again : addN [nd0, nd1] 64 (leafKey (1 : Nat)) (popN 32 1 : Nat) = ([nd0, nd1], 1, 0) := by kernel_rfl
set_option maxRecDepth 100000 in
theorem awake_walk (w : World) : Calls Tryd.prog 6 #[] w fun e w' => e = .returned (.bool true) ∧ Below w.heap.size w w' := by
  go_enter Tryd.func6, Tryd.ntmps6
  go_wp2_with (fail)
  refine (own_new 9 (by omega) w).mono ?_
  rintro e w1 ⟨p, rfl, hA⟩
  rw [show max (9 : Int) 64 = 64 by rfl] at hA
  have A1 := Aside0.mk hA
  clear hA
  go_wp2_with (fail)
  refine (own_leaf A1.out 1 (by omega) (by simp)).mono ?_
  rw [add_second]
  rintro e w2 ⟨rfl, hA⟩
  dsimp only at hA ⊢
  rw [show errOf 0 = .nilIface from rfl]
  have A2 := Aside0.mk hA
  clear hA
  go_wp2_with (fail)
  refine (own_leaf A2.out 1 (by omega) (by simp)).mono ?_
  rw [add_again]
  rintro e w3 ⟨rfl, hA⟩
  dsimp only at hA ⊢
  rw [show errOf 0 = .nilIface from rfl]
  have A3 := Aside0.mk hA
  clear hA A1 A2
  have hM := own_most A3.out
  have hL := own_len A3.out
  have hV := own_level A3.out 0 (by omega) (by omega)
  have hl2 : ([nd0, nd1].length : Int) = 2 := rfl
  have hv2 : lvAt [nd0, nd1] 0 = 2 := rfl
  rw [hl2] at hL
  rw [hv2] at hV
  clear hl2 hv2
  go_wp2_with (first | (go_at_call 20; refine hM.mono ?_; rintro e w1 ⟨rfl, rfl⟩) | (go_at_call 9; refine hL.mono ?_; rintro e w1 ⟨rfl, rfl⟩) | (go_at_call 8; refine hV.mono ?_; rintro e w1 ⟨rfl, rfl⟩))
  go_ret
  exact ⟨ret_bool (by first | rfl | (simp; done)), A3.out.below⟩
end Go.Proofs.YtbeijhjafmalgaaDoor.ar
