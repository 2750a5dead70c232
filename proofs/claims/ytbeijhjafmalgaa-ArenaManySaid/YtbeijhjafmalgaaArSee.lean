/- What tells of an arena's nodes, by number: Level, Bits, Kids, Count; SetMost. -/
import Derived.Test.YtbeijhjafmalgaaArLeaf
namespace Go.Proofs.Ytbeijhjafmalgaa.ar
open Go.RowKit Go.Proofs.YtbeijhjafmalgaaW.PrintWords Go.Proofs.YtbeijhjafmalgaaW.PrintLast Go.Proofs.YtbeijhjafmalgaaW.PrintMore Go.Proofs.Ytbeijhjafmalgaa.bs Go.ChangeShapes Go.Proofs.Ytbeijhjafmalgaa.lb

def bitsAt (nodes : List Nd) (k : Int) : Int := match nodes[k.toNat]? with | some x => x.key.bits | none => 0
def keyAt (nodes : List Nd) (k : Int) : Key := match nodes[k.toNat]? with | some x => x.key | none => ⟨0, 0, 0, 0, 0, 0⟩
theorem bitsAt_some {nodes : List Nd} {k : Int} {x : Nd} (h : nodes[k.toNat]? = some x) : bitsAt nodes k = x.key.bits := by unfold bitsAt; rw [h]
theorem keyAt_some {nodes : List Nd} {k : Int} {x : Nd} (h : nodes[k.toNat]? = some x) : keyAt nodes k = x.key := by unfold keyAt; rw [h]
theorem at_cases (nodes : List Nd) (k : Int) (h0 : 0 ≤ k) : (∃ (i : Nat) (x : Nd), k = i ∧ nodes[i]? = some x) ∨ ((nodes.length : Int) ≤ k ∧ lvAt nodes k = -1 ∧ bitsAt nodes k = 0 ∧ cntAt nodes k = 0 ∧ keyAt nodes k = ⟨0, 0, 0, 0, 0, 0⟩) := by
  by_cases h : k < nodes.length
  · exact .inl ⟨k.toNat, _, by omega, List.getElem?_eq_getElem (by omega)⟩
  · have hn : nodes[k.toNat]? = none := List.getElem?_eq_none (by omega)
    exact .inr ⟨by omega, by unfold lvAt; rw [hn], by unfold bitsAt; rw [hn], by unfold cntAt; rw [hn], by unfold keyAt; rw [hn]⟩
section
variable (F : Nat → Prop) (p : Nat) (nodes : List Nd) (empty : List Int) (most : Int) (w : World) (A : Ar w F p nodes empty most)
include A
theorem level_walk (k : Int) (h0 : 0 ≤ k) (h1 : k < 4294967296) : Calls Try.prog 8 #[.pointer (some ⟨p, 0, none⟩), .int .u32 k] w fun e w' => e = .returned (.int .i64 (lvAt nodes k)) ∧ w = w' := by
  obtain ⟨⟨slots, nv, sv, ev, AR, _, _, _, _⟩, _, _⟩ := A
  rcases at_cases nodes k h0 with ⟨i, x, rfl, hx⟩ | ⟨hl, h2, _, _, _⟩
  · rw [lvAt_some (by rw [Int.toNat_natCast]; exact hx)]
    exact level_yes F p nodes slots empty most nv sv ev w AR i x hx
  · rw [h2]
    exact level_no F p nodes slots empty most nv sv ev w AR k h0 h1 hl
theorem bits_walk (k : Int) (h0 : 0 ≤ k) (h1 : k < 4294967296) : Calls Try.prog 7 #[.pointer (some ⟨p, 0, none⟩), .int .u32 k] w fun e w' => e = .returned (.int .u32 (bitsAt nodes k)) ∧ w = w' := by
  obtain ⟨⟨slots, nv, sv, ev, AR, _, _, _, _⟩, _, _⟩ := A
  rcases at_cases nodes k h0 with ⟨i, x, rfl, hx⟩ | ⟨hl, _, h2, _, _⟩
  · rw [bitsAt_some (by rw [Int.toNat_natCast]; exact hx)]
    exact bits_yes F p nodes slots empty most nv sv ev w AR i x hx
  · rw [h2]
    exact bits_no F p nodes slots empty most nv sv ev w AR k h0 h1 hl
theorem ncount_walk (k : Int) (h0 : 0 ≤ k) (h1 : k < 4294967296) : Calls Try.prog 9 #[.pointer (some ⟨p, 0, none⟩), .int .u32 k] w fun e w' => e = .returned (.int .u64 (cntAt nodes k)) ∧ w = w' := by
  obtain ⟨⟨slots, nv, sv, ev, AR, _, _, _, _⟩, _, _⟩ := A
  rcases at_cases nodes k h0 with ⟨i, x, rfl, hx⟩ | ⟨hl, _, _, h2, _⟩
  · rw [cntAt_some (by rw [Int.toNat_natCast]; exact hx)]
    exact count_yes F p nodes slots empty most nv sv ev w AR i x hx
  · rw [h2]
    exact count_no F p nodes slots empty most nv sv ev w AR k h0 h1 hl
theorem alen_walk : Calls Try.prog 11 #[.pointer (some ⟨p, 0, none⟩)] w fun e w' => e = .returned (.int .i64 nodes.length) ∧ w = w' := by
  obtain ⟨⟨slots, nv, sv, ev, AR, _, _, _, _⟩, _, _⟩ := A
  exact len_walk F p nodes slots empty most nv sv ev w AR
theorem amost_walk : Calls Try.prog 12 #[.pointer (some ⟨p, 0, none⟩)] w fun e w' => e = .returned (.int .i64 most) ∧ w = w' := by
  obtain ⟨⟨slots, nv, sv, ev, AR, _, _, _, _⟩, _, _⟩ := A
  exact most_walk F p nodes slots empty most nv sv ev w AR
def kidsVal (k : Key) : Value := .agg #[.int .u32 k.k0, .int .u32 k.k1, .int .u32 k.k2, .int .u32 k.k3]
end
end Go.Proofs.Ytbeijhjafmalgaa.ar
