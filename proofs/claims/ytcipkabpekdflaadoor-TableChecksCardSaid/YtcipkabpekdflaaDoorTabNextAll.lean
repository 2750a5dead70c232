/- The reference's Next and the table's Next, at every number. -/
import Derived.Test.YtcipkabpekdflaaDoorTabCheck
namespace Go.Proofs.YtcipkabpekdflaaDoor.ts
open Go.RowKit Go.Proofs.YtcipkabpekdflaaDoorW.PrintWords Go.Proofs.YtcipkabpekdflaaDoorW.PrintLast Go.Proofs.YtcipkabpekdflaaDoorW.PrintMore Go.Proofs.YtcipkabpekdflaaDoor.bs Go.ChangeShapes Go.Proofs.YtcipkabpekdflaaDoor.PTableChecks

def farB (half n : Int) : Prop := half < 0 ∨ half > 1 ∨ n < 0 ∨ n > 63
instance (half n : Int) : Decidable (farB half n) := by unfold farB; infer_instance
def nxtV (b0 b1 s0 s1 half : Int) (live : Bool) (n : Int) : Bool := if farB half n then false else nextV b0 b1 s0 s1 half live n.toNat
theorem rnext_tells (l b0 b1 s0 s1 half n : Int) (live : Bool) (hb0 : 0 ≤ b0 ∧ b0 < 18446744073709551616) (hb1 : 0 ≤ b1 ∧ b1 < 18446744073709551616) (hs0 : 0 ≤ s0 ∧ s0 < 18446744073709551616) (hs1 : 0 ≤ s1 ∧ s1 < 18446744073709551616) :
    honeycombref05_Next.f 100 l [b0, b1] [s0, s1] half live n = some (nxtV b0 b1 s0 s1 half live n) := by
  have hp : farB half n → nxtV b0 b1 s0 s1 half live n = false := fun h => if_pos h
  have hq : ¬ farB half n → nxtV b0 b1 s0 s1 half live n = nextV b0 b1 s0 s1 half live n.toNat := fun h => if_neg h
  unfold farB at hp hq
  unfold honeycombref05_Next.f
  by_cases h1 : half < 0
  · rw [if_pos h1, hp (.inl h1), honeycombref05_Next.j0, if_pos rfl]
  · rw [if_neg h1]
    by_cases h2 : half > 1
    · rw [if_pos h2, hp (.inr (.inl h2)), honeycombref05_Next.j0, if_pos rfl]
    · rw [if_neg h2]
      by_cases h3 : n < 0
      · rw [if_pos h3, hp (.inr (.inr (.inl h3))), honeycombref05_Next.j0, if_pos rfl]
      · rw [if_neg h3]
        by_cases h4 : n > 63
        · rw [decide_eq_true h4, hp (.inr (.inr (.inr h4))), honeycombref05_Next.j0, if_pos rfl]
        · rw [decide_eq_false h4, hq (by omega), honeycombref05_Next.j0, if_neg (by decide)]
          obtain ⟨N, rfl⟩ := Int.eq_ofNat_of_zero_le (show 0 ≤ n by omega)
          have hN : N < 64 := by omega
          have hh : half = 0 ∨ half = 1 := by omega
          rcases hh with rfl | rfl <;> cases live <;> simp [rd, nextV, bitI, rbit_tells _ N hb0 hN 99 (by omega), rbit_tells _ N hb1 hN 99 (by omega), rbit_tells _ N hs0 hN 99 (by omega), rbit_tells _ N hs1 hN 99 (by omega)] <;> (try rfl)
set_option maxHeartbeats 2000000 in
theorem next_all (l b0 b1 s0 s1 half n : Int) (live : Bool) (w : World) :
    Calls Tryd.prog 10 #[tabV l b0 b1 s0 s1, .int .i64 half, .bool live, .int .i64 n] w fun e w' => e = .returned (.bool (nxtV b0 b1 s0 s1 half live n)) ∧ Below w.heap.size w w' := by
  by_cases h : farB half n
  · unfold nxtV
    rw [if_pos h]
    unfold tabV farB at *
    by_cases h1 : half < 0
    · go_enter Tryd.func10, Tryd.ntmps10
      go_wp2_with (fail)
      go_ret
      exact ⟨rfl, by (repeat' (first | (with_reducible exact Below.refl _ _) | (with_reducible assumption) | (with_reducible refine Below.alloc ?_ ?_ _) | (with_reducible refine Below.drew ?_) | (with_reducible refine Below.setCell ?_ ?_ _) | (with_reducible refine chain ?_ (by assumption) ?_) | go_size))⟩
    · by_cases h2 : half > 1
      · go_enter Tryd.func10, Tryd.ntmps10
        go_wp2_with (fail)
        go_ret
        exact ⟨rfl, by (repeat' (first | (with_reducible exact Below.refl _ _) | (with_reducible assumption) | (with_reducible refine Below.alloc ?_ ?_ _) | (with_reducible refine Below.drew ?_) | (with_reducible refine Below.setCell ?_ ?_ _) | (with_reducible refine chain ?_ (by assumption) ?_) | go_size))⟩
      · by_cases h3 : n < 0
        · go_enter Tryd.func10, Tryd.ntmps10
          go_wp2_with (fail)
          go_ret
          exact ⟨rfl, by (repeat' (first | (with_reducible exact Below.refl _ _) | (with_reducible assumption) | (with_reducible refine Below.alloc ?_ ?_ _) | (with_reducible refine Below.drew ?_) | (with_reducible refine Below.setCell ?_ ?_ _) | (with_reducible refine chain ?_ (by assumption) ?_) | go_size))⟩
        · have h4 : n > 63 := by omega
          go_enter Tryd.func10, Tryd.ntmps10
          go_wp2_with (fail)
          go_ret
          exact ⟨rfl, by (repeat' (first | (with_reducible exact Below.refl _ _) | (with_reducible assumption) | (with_reducible refine Below.alloc ?_ ?_ _) | (with_reducible refine Below.drew ?_) | (with_reducible refine Below.setCell ?_ ?_ _) | (with_reducible refine chain ?_ (by assumption) ?_) | go_size))⟩
  · unfold nxtV
    rw [if_neg h]
    unfold farB at h
    exact next_walk l b0 b1 s0 s1 half live n (by omega) (by omega) w
end Go.Proofs.YtcipkabpekdflaaDoor.ts
