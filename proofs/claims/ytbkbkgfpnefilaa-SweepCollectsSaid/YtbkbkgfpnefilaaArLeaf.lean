/- The walks over Count of a leaf, and (*Arena).Leaf. -/
import Derived.Test.YtbkbkgfpnefilaaArFind
import Derived.Test.YtbkbkgfpnefilaaPop
namespace Go.Proofs.Ytbkbkgfpnefilaa.ar
open Go.RowKit Go.Proofs.YtbkbkgfpnefilaaW.PrintWords Go.Proofs.YtbkbkgfpnefilaaW.PrintLast Go.Proofs.YtbkbkgfpnefilaaW.PrintMore Go.Proofs.Ytbkbkgfpnefilaa.bs Go.ChangeShapes Go.Proofs.Ytbkbkgfpnefilaa.lb

theorem popN_le (n : Nat) : ∀ x, popN n x ≤ n := by
  induction n with
  | zero => intro x; exact Nat.le_refl _
  | succ n ih => intro x; have := ih (x / 2); simp only [popN]; omega
theorem popN_pos (n : Nat) : ∀ x, x < 2 ^ n → popN n x = 0 → x = 0 := by
  induction n with
  | zero => intro x h _; simp at h; exact h
  | succ n ih =>
    intro x h h0
    simp only [popN] at h0
    rw [Nat.pow_succ] at h
    have := ih (x / 2) (by omega) (by omega)
    omega
set_option maxHeartbeats 1000000 in
theorem count_walk (f : Nat) (hf : f < 4294967296) (w : World) : Calls Try.prog 107 #[.int .u32 f] w fun e w' => e = .returned (.int .i64 (popN 32 f)) ∧ w = w' := by
  have hle := popN_le 32 f
  go_enter Try.func107, Try.ntmps107
  go_wp2_with (fail)
  obtain ⟨m, hm⟩ : ∃ m, popN 32 f = m := ⟨_, rfl⟩
  have HM := Aside0.mk hm
  rw [hm] at hle
  clear hm
  go_loopg [0, 3] m (fun kq c0 c3 w' => ∃ (x n : Nat), x < 4294967296 ∧ c0 = .int .u32 x ∧ c3 = .int .i64 n ∧ n + kq = m ∧ Aside0 (popN 32 x = kq) ∧ w' = w)
  case atStart => exact ⟨f, 0, hf, rfl, rfl, by omega, HM, rfl⟩
  case round =>
    obtain ⟨x, n, hx, rfl, rfl, hn, hp, rfl⟩ := hrel
    by_cases h0 : x = 0
    · subst h0
      have hz := hp.out
      rw [popN_zero] at hz
      subst hz
      obtain rfl : n = m := by omega
      go_wp2_with (fail)
      go_ret
      rw [HM.out]
      exact ⟨rfl, rfl⟩
    · have h1 : (x : Int) ≠ 0 := by omega
      have hand := Aside0.mk (by have := and_pred_u32 x (by omega) hx; rwa [show ((x : Int) - 1) % 4294967296 = (x : Int) - 1 by omega] at this)
      have hpred := and_pred 32 x (by omega) (by omega)
      rw [hp.out] at hpred
      obtain ⟨gk, rfl⟩ : ∃ m, gk = m + 1 := ⟨gk - 1, by omega⟩
      have hp2 := Aside0.mk (show popN 32 (x &&& (x - 1)) = gk by omega)
      have hlt := Aside0.mk (show x &&& (x - 1) < 4294967296 from Nat.lt_of_le_of_lt Nat.and_le_left hx)
      clear hpred
      go_wp2_with (fail)
      go_roundg gk
      case measure => omega
      case rel => exact ⟨x &&& (x - 1), n + 1, hlt.out, by rw [← hand.out], by go_num, by omega, hp2, rfl⟩
theorem zero_bd : (0 : Int) ≤ 0 ∧ (0 : Int) < 4294967296 := by decide
def leafKey (f : Int) : Key := ⟨2, f, 0, 0, 0, 0⟩
theorem leafKey_ok {f : Int} (h0 : 0 ≤ f) (h1 : f < 4294967296) : KeyOk (leafKey f) := ⟨show (0 : Int) ≤ 2 by decide, show (2 : Int) ≤ 100 by decide, h0, h1, zero_bd, zero_bd, zero_bd, zero_bd⟩
set_option maxHeartbeats 1000000 in
theorem leaf_walk (F : Nat → Prop) (p : Nat) (nodes : List Nd) (empty : List Int) (most : Int) (w : World) (f : Nat) (hf : f < 4294967296)
    (hN : nodes.length < 536870912) (A : Ar w F p nodes empty most) :
    Calls Try.prog 80 #[.pointer (some ⟨p, 0, none⟩), .int .u32 f] w fun e w' => FindPost F w p empty most (addN nodes most (leafKey f) (popN 32 f)) e w' := by
  have hle := popN_le 32 f
  have hc := Aside0.mk (count_walk f hf)
  have hfind := Aside0.mk (fun (W : World) (A' : Ar W F p nodes empty most) => find_walk F p nodes empty most W (leafKey f) (popN 32 f) (leafKey_ok (by omega) (by omega)) (show (2 : Int) ≤ 2 by decide) (by omega) (by omega) hN A')
  go_enter Try.func80, Try.ntmps80
  go_wp2_with (fail)
  refine (hc.out _).mono ?_; rintro e w1 ⟨rfl, rfl⟩
  go_wp2_with (fail)
  refine (hfind.out _ A).mono ?_; rintro e w1 ⟨rfl, h⟩
  have H := Aside0.mk h
  clear h
  go_wp2_with (fail)
  go_ret2
  exact ⟨rfl, H.out⟩
/-- a node's level; -1: there is none -/
def lvAt (nodes : List Nd) (k : Int) : Int := match nodes[k.toNat]? with | some x => x.key.level | none => -1
def cntAt (nodes : List Nd) (k : Int) : Int := match nodes[k.toNat]? with | some x => x.count | none => 0
theorem lvAt_some {nodes : List Nd} {k : Int} {x : Nd} (h : nodes[k.toNat]? = some x) : lvAt nodes k = x.key.level := by unfold lvAt; rw [h]
theorem cntAt_some {nodes : List Nd} {k : Int} {x : Nd} (h : nodes[k.toNat]? = some x) : cntAt nodes k = x.count := by unfold cntAt; rw [h]
theorem lvAt_none {nodes : List Nd} {k : Int} (h : (nodes.length : Int) ≤ k) : lvAt nodes k = -1 := by
  unfold lvAt; rw [List.getElem?_eq_none (by omega)]
theorem Ar.mono {w : World} {F F' : Nat → Prop} {p : Nat} {nodes : List Nd} {empty : List Int} {most : Int} (h : Ar w F p nodes empty most) (hF : ∀ k, F k → F' k) : Ar w F' p nodes empty most := by
  obtain ⟨⟨slots, nv, sv, ev, AR, S, h1, h2, h3⟩, hok, hsz⟩ := h
  exact ⟨⟨slots, nv, sv, ev, AR.mono hF, S, h1, h2, h3⟩, hok, hsz⟩
theorem Ar.below {w w' : World} {F : Nat → Prop} {p : Nat} {nodes : List Nd} {empty : List Int} {most : Int} (h : Ar w F p nodes empty most) (hb : Below w.heap.size w w') : Ar w' F p nodes empty most := by
  obtain ⟨⟨slots, nv, sv, ev, AR, S, h1, h2, h3⟩, hok, hsz⟩ := h
  exact ⟨⟨slots, nv, sv, ev, AR.below hb, S, h1, h2, h3⟩, hok, hsz⟩
theorem Ar.drewN {w : World} {F : Nat → Prop} {p : Nat} {nodes : List Nd} {empty : List Int} {most : Int} (h : Ar w F p nodes empty most) (n : Nat) : Ar (w.drewN n) F p nodes empty most := h.below (pw_below_drewN (Below.refl _ _) n)
theorem Ar.kept {w w' : World} {F G : Nat → Prop} {p : Nat} {nodes : List Nd} {empty : List Int} {most : Int} (h : Ar w F p nodes empty most) (hk : Kept w w' G) (hd : ∀ k, F k → ¬ G k) : Ar w' F p nodes empty most := by
  obtain ⟨⟨slots, nv, sv, ev, AR, S, h1, h2, h3⟩, hok, hsz⟩ := h
  exact ⟨⟨slots, nv, sv, ev, AR.kept hk hd, S, h1, h2, h3⟩, hok, hsz⟩
end Go.Proofs.Ytbkbkgfpnefilaa.ar
