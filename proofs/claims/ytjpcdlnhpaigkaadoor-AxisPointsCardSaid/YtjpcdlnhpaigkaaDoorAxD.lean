/- The walk over the reference's Then: two loops, one in the other. -/
import Derived.Test.YtjpcdlnhpaigkaaDoorAxC
import Derived.WalkSmall
namespace Go.Proofs.YtjpcdlnhpaigkaaDoor.ax
open Go.ChangeShapes Go.WideShapes Go.ChangeAt Go.RowKit

theorem quiet_add_left {P : Program} {f : FuncId} {args : Array Value} {w : World} {a n : Nat} {v : Value}
    (h : Calls P f args (w.drewN (a + n)) fun e w' => e = .returned v ∧ w.drewN (a + n) = w') :
    Calls P f args (w.drewN (a + n)) fun e w'' => e = .returned v ∧ ∃ m, w'' = w.drewN (a + m) :=
  h.mono fun _ _ ⟨he, hm⟩ => ⟨he, n, hm.symm⟩
theorem quiet_left {P : Program} {f : FuncId} {args : Array Value} {w : World} {n : Nat} {v : Value}
    (h : Calls P f args (w.drewN n) fun e w' => e = .returned v ∧ w.drewN n = w') : Calls P f args (w.drewN n) fun e w'' => e = .returned v ∧ ∃ m, w'' = w.drewN m :=
  h.mono fun _ _ ⟨he, hm⟩ => ⟨he, n, hm.symm⟩

set_option maxHeartbeats 4000000 in
theorem rthen_walk (o p : Int) (w : World) (ho : 0 ≤ o ∧ o ≤ 11) (hp : 0 ≤ p ∧ p ≤ 11) :
    Calls Tryd.prog 19 #[.int .i64 o, .int .i64 p] w fun e w' => e = .returned (.int .i64 (thenV o p)) ∧ Below w.heap.size w w' := by
  have hb1 := (img_good o ho).1
  have hb2 := (img_good o ho).2
  have ht := thenV_bd o p ho hp
  go_enter Tryd.func19, Tryd.ntmps19
  go_wp2
  go_loopw [5] (fun c wr => ∃ k : Nat, k ≤ thenV o p ∧ c = .int .i64 k ∧ Below w.heap.size w wr) (fun c _ => 12 - (intOf c).toNat)
  case atStart => exact ⟨0, by omega, rfl, Below.refl _ _⟩
  case round =>
    obtain ⟨k, hk, rfl, hbw⟩ := hrel
    have hws := hbw.size
    have hsame := same_then o p k ho hp (by omega)
    have hk11 : (k : Int) ≤ 11 := by omega
    have Hs := Lib.hid hsame
    clear hsame
    go_wp2
    refine wp_loop_rounds 3 ?_
    rw [rounds_succ]
    go_wp2
    go_quiet ((go_at_call 13; exact quiet_left (ron_walk o 1 0 _ ho.1 ho.2 (by decide))))
    go_wp2_with (fail)
    refine (ron_walk p _ _ _ hp.1 hp.2 hb1).mono ?_; rintro e w1 ⟨rfl, rfl⟩
    go_wp2_with (fail)
    go_quiet ((go_at_call 13; exact quiet_add_left (ron_walk k 1 0 _ (by omega) (by omega) (by decide))))
    go_wp2_with (fail)
    all_goals rw [rounds_succ]
    all_goals go_wp2
    all_goals (go_quiet ((go_at_call 13; exact quiet_add_left (ron_walk o 0 1 _ ho.1 ho.2 (by decide)))))
    all_goals go_wp2_with (fail)
    all_goals (refine (ron_walk p _ _ _ hp.1 hp.2 hb2).mono ?_; rintro e w1 ⟨rfl, rfl⟩)
    all_goals go_wp2_with (fail)
    all_goals (go_quiet ((go_at_call 13; exact quiet_add_left (ron_walk k 0 1 _ (by omega) (by omega) (by decide)))))
    all_goals go_wp2_with (fail)
    all_goals rw [rounds_succ]
    all_goals go_wp2
    · have hx : sameB o p k = true := by unfold sameB; simp_all [Prod.ext_iff]
      rw [Hs.out] at hx
      simp at hx
      go_ret
      exact ⟨ret_int (by omega), below_drewN (by (repeat' (first | (with_reducible exact Below.refl _ _) | (with_reducible assumption) | (with_reducible refine Below.alloc ?_ ?_ _) | (with_reducible refine Below.drew ?_) | (with_reducible refine Below.setCell ?_ ?_ _) | (with_reducible refine chain ?_ (by assumption) ?_) | go_size))) _⟩
    all_goals
      have hx : sameB o p k = false := by unfold sameB; simp_all [Prod.ext_iff]
      rw [Hs.out] at hx
      simp at hx
      exact ⟨⟨k + 1, by omega, by go_num, below_drewN (by (repeat' (first | (with_reducible exact Below.refl _ _) | (with_reducible assumption) | (with_reducible refine Below.alloc ?_ ?_ _) | (with_reducible refine Below.drew ?_) | (with_reducible refine Below.setCell ?_ ?_ _) | (with_reducible refine chain ?_ (by assumption) ?_) | go_size))) _⟩, by simp [intOf]; omega⟩
end Go.Proofs.YtjpcdlnhpaigkaaDoor.ax
