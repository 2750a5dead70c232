/- The walk over With: a cell lives, or not, in the leaf that has its point. -/
import Derived.Test.YtffaagmiceeclaaLeavesWalk
import Derived.Test.YtffaagmiceeclaaBase
namespace Go.Proofs.Ytffaagmiceeclaa.lawSiteLow
open Go.Proofs.YtffaagmiceeclaaW.PrintWords Go.Proofs.YtffaagmiceeclaaW.PrintLast Go.ChangeShapes Go.WideShapes Go.ChangeAt Go.RowKit Go.Proofs.Ytffaagmiceeclaa.PSiteLeaves Go.Proofs.Ytffaagmiceeclaa.lb Go.Proofs.Ytffaagmiceeclaa.slPSiteLeaves Go.Proofs.Ytffaagmiceeclaa.lawSiteLeaves

/-- the state after With -/
def stateW (s h : Int) (live : Bool) : Int := if live then Go.bits .or .i64 (Go.bits .andNot .i64 s (wrap64 (2 ^ h.toNat))) (wrap64 (2 ^ h.toNat)) else Go.bits .andNot .i64 s (wrap64 (2 ^ h.toNat))
def stateV (f a b : Int) : Int := if 0 ≤ a ∧ a < 4 ∧ 0 ≤ b ∧ b < 4 then dig f (4 * b + a).toNat else 0
theorem stateV_some (f a b : Int) (hf : 0 ≤ f ∧ f < 4294967296) : site_Leaf_State.f f a b = some (stateV f a b) := by
  unfold stateV
  by_cases h : 0 ≤ a ∧ a < 4 ∧ 0 ≤ b ∧ b < 4
  · rw [if_pos h, state_tells f a b hf ⟨h.1, h.2.1⟩ h.2.2]
  · rw [if_neg h, state_none f a b h]
def lowOf (a : Int) : Int := Go.bits .andNot .i64 a 3
def withV (f ca cb h : Int) (live : Bool) : Int :=
  putv f (wrap64 (ca - lowOf ca)) (wrap64 (cb - lowOf cb)) (stateW (stateV f (wrap64 (ca - lowOf ca)) (wrap64 (cb - lowOf cb))) h live)

theorem state_walk (f a b : Int) (w : World) (n : Nat) (hf : 0 ≤ f ∧ f < 4294967296) :
    Calls Try.prog 9 #[.int .u32 f, .int .i64 a, .int .i64 b] (w.drewN n) fun e w' => e = .returned (.int .i64 (stateV f a b)) ∧ ∃ m, w' = w.drewN m :=
  (site_Leaf_State.calls f a b _ (w.drewN n) (stateV_some f a b hf)).mono fun e w' ⟨he, hd⟩ => ⟨he, by obtain ⟨m, rfl⟩ := hd.out; exact ⟨n + m, by rw [World.drewN_drewN]⟩⟩
theorem put_walk (f a b s : Int) (w : World) :
    Calls Try.prog 8 #[.int .u32 f, .int .i64 a, .int .i64 b, .int .i64 s] w fun e w' => e = .returned (.int .u32 (putv f a b s)) ∧ Below w.heap.size w w' :=
  (site_Leaf_Put.calls f a b s _ w (putv_some f a b s)).mono fun e w' ⟨he, hd⟩ => ⟨he, hd.below⟩
set_option maxHeartbeats 4000000 in
theorem with_walk (f ca cb h : Int) (live : Bool) (w : World) (hf : 0 ≤ f ∧ f < 4294967296) (hh : 0 ≤ h ∧ h < 2) :
    Calls Try.prog 19 #[.int .u32 f, .agg #[.int .i64 ca, .int .i64 cb, .int .i64 h], .bool live] w fun e w' => e = .returned (.int .u32 (withV f ca cb h live)) ∧ Below w.heap.size w w' := by
  have hh0 := hh.1
  go_enter Try.func19, Try.ntmps19
  go_wp2
  go_quiet (fail)
  go_wp2
  have hz : w.heap.size < ((((w.alloc (.cells #[.int .i64 ca, .int .i64 cb, .int .i64 h] 44)).alloc (.cells #[.int .i64 ca, .int .i64 cb] 30)).alloc (.cells #[.int .i64 (lowOf ca), .int .i64 (lowOf cb)] 30)).alloc (.cells #[.int .i64 (lowOf ca), .int .i64 (lowOf cb)] 30)).heap.size := by go_size
  have hc : (((((w.alloc (.cells #[.int .i64 ca, .int .i64 cb, .int .i64 h] 44)).alloc (.cells #[.int .i64 ca, .int .i64 cb] 30)).alloc (.cells #[.int .i64 (lowOf ca), .int .i64 (lowOf cb)] 30)).alloc (.cells #[.int .i64 (lowOf ca), .int .i64 (lowOf cb)] 30)).drewN nq).cell? ⟨w.heap.size, 2, none⟩ = some (.int .i64 h) := by simp (maxDischargeDepth := 6) [go_sem, *]
  have hb : Below w.heap.size w (((((w.alloc (.cells #[.int .i64 ca, .int .i64 cb, .int .i64 h] 44)).alloc (.cells #[.int .i64 ca, .int .i64 cb] 30)).alloc (.cells #[.int .i64 (lowOf ca), .int .i64 (lowOf cb)] 30)).alloc (.cells #[.int .i64 (lowOf ca), .int .i64 (lowOf cb)] 30)).drewN nq) := below_drewN (by (repeat' (first | (with_reducible exact Below.refl _ _) | (with_reducible assumption) | (with_reducible refine Below.alloc ?_ ?_ _) | (with_reducible refine Below.drew ?_) | (with_reducible refine Below.setCell ?_ ?_ _) | (with_reducible refine chain ?_ (by assumption) ?_) | go_size))) _
  unfold lowOf at hz hc hb
  generalize (((((w.alloc (.cells #[.int .i64 ca, .int .i64 cb, .int .i64 h] 44)).alloc (.cells #[.int .i64 ca, .int .i64 cb] 30)).alloc (.cells #[.int .i64 (Go.bits .andNot .i64 ca 3), .int .i64 (Go.bits .andNot .i64 cb 3)] 30)).alloc (.cells #[.int .i64 (Go.bits .andNot .i64 ca 3), .int .i64 (Go.bits .andNot .i64 cb 3)] 30)).drewN nq) = W2 at hc hb ⊢
  go_quiet ((go_at_call 9; exact state_walk _ _ _ _ _ hf))
  go_wp2_with (fail)
  all_goals
    refine (put_walk _ _ _ _ _).mono ?_; rintro e w3 ⟨rfl, hb3⟩
    go_wp2_with (fail)
    go_ret
    refine ⟨?_, below_step (below_drewN hb _) hb3⟩
    rename_i hl
    simp [withV, stateW, lowOf, hl]
end Go.Proofs.Ytffaagmiceeclaa.lawSiteLow
