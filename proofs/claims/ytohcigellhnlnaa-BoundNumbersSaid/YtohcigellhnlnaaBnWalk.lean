/- The walk over the law BoundNumbers. -/
import Derived.Test.YtohcigellhnlnaaBnRef
namespace Go.Proofs.Ytohcigellhnlnaa.lawBoundNumbers
open Go.Proofs.Ytohcigellhnlnaa.bs Go.Proofs.YtohcigellhnlnaaW.PrintWords Go.Proofs.YtohcigellhnlnaaW.PrintLast Go.ChangeShapes Go.WideShapes Go.ChangeAt Go.RowKit Go.Proofs.Ytohcigellhnlnaa.PBoundRises Go.Proofs.Ytohcigellhnlnaa.blPBoundRises

theorem bcells_walk (p n : Int) (w : World) (hp : 0 ≤ p) : Calls Try.prog 7 #[.int .u64 p, .int .i64 n] w fun e w' => e = .returned (.int .u64 (cellsV p n)) ∧ Below w.heap.size w w' :=
  bound_Cells.calls 100 p n _ w (cells_tells p n hp 100 (by omega))
theorem blevel_walk (e n : Int) (w : World) : Calls Try.prog 9 #[.int .i64 e, .int .i64 n] w fun e' w' => e' = .returned (.int .i64 (levelV e n)) ∧ Below w.heap.size w w' :=
  bound_Level.calls 100 e n _ w (level_tells e n 100 (by omega))
theorem bnodes_walk (p n e : Int) (w : World) (hp : 0 ≤ p) : Calls Try.prog 11 #[.int .u64 p, .int .i64 n, .int .i64 e] w fun e' w' => e' = .returned (.int .u64 (nodesV p n e)) ∧ Below w.heap.size w w' :=
  bound_Nodes.calls 100 p n e _ w (nodes_tells p n e hp 100 (by omega))
theorem awake_some : honeycomblaw19_awake.f 100 = some true := by decide +kernel
theorem awake_walk (w : World) : Calls Try.prog 6 #[] w fun e w' => e = .returned (.bool true) ∧ Below w.heap.size w w' :=
  honeycomblaw19_awake.calls 100 true w awake_some
set_option maxHeartbeats 4000000 in
theorem numbers_walk (p n x : Int) (w : World) (hp : 0 ≤ p ∧ p ≤ 18446744073709551615) :
    Calls Try.prog 3 #[.int .u64 p, .int .i64 n, .int .i64 x] w fun e w' => e = .returned (.bool true) ∧ Below w.heap.size w w' := by
  go_enter Try.func3, Try.ntmps3
  go_wp2_with (first | (go_at_call 6; refine (awake_walk _).mono ?_; rintro e w1 ⟨rfl, hb⟩; have hz := hb.size; (try simp only [World.size_alloc, World.size_setCell, World.size_drew, World.heap_drewN] at hz); skip) | (go_at_call 7; refine (bcells_walk _ _ _ hp.1).mono ?_; rintro e w2 ⟨rfl, hb⟩; have hz := hb.size; (try simp only [World.size_alloc, World.size_setCell, World.size_drew, World.heap_drewN] at hz); skip) | (go_at_call 9; refine (blevel_walk _ _ _).mono ?_; rintro e w3 ⟨rfl, hb⟩; have hz := hb.size; (try simp only [World.size_alloc, World.size_setCell, World.size_drew, World.heap_drewN] at hz); skip) | (go_at_call 11; refine (bnodes_walk _ _ _ _ hp.1).mono ?_; rintro e w4 ⟨rfl, hb⟩; have hz := hb.size; (try simp only [World.size_alloc, World.size_setCell, World.size_drew, World.heap_drewN] at hz); skip) | (go_at_call 8; refine (rcells_walk _ _ _ (by omega)).mono ?_; rintro e w1 ⟨rfl, rfl⟩) | (go_at_call 10; refine (rlevel_walk _ _ _).mono ?_; rintro e w1 ⟨rfl, rfl⟩) | (go_at_call 12; refine (rnodes_walk _ _ _ _ (by omega)).mono ?_; rintro e w1 ⟨rfl, rfl⟩))
  all_goals go_ret
  all_goals exact ⟨rfl, by (repeat' (first | (with_reducible exact Below.refl _ _) | (with_reducible assumption) | (with_reducible refine Below.alloc ?_ ?_ _) | (with_reducible refine Below.drew ?_) | (with_reducible refine Below.setCell ?_ ?_ _) | (with_reducible refine chain ?_ (by assumption) ?_) | go_size))⟩
end Go.Proofs.Ytohcigellhnlnaa.lawBoundNumbers
