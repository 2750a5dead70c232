/- What tells of an arena's nodes, by number: Level, Bits, Kids, Count; SetMost. -/
import Derived.Test.YtbkbkgfpnefilaaArJoin
namespace Go.Proofs.Ytbkbkgfpnefilaa.ar
open Go.RowKit Go.Proofs.YtbkbkgfpnefilaaW.PrintWords Go.Proofs.YtbkbkgfpnefilaaW.PrintLast Go.Proofs.YtbkbkgfpnefilaaW.PrintMore Go.Proofs.Ytbkbkgfpnefilaa.bs Go.ChangeShapes Go.Proofs.Ytbkbkgfpnefilaa.lb

def bitsAt (nodes : List Nd) (k : Int) : Int := match nodes[k.toNat]? with | some x => x.key.bits | none => 0
def keyAt (nodes : List Nd) (k : Int) : Key := match nodes[k.toNat]? with | some x => x.key | none => ⟨0, 0, 0, 0, 0, 0⟩
theorem bitsAt_some {nodes : List Nd} {k : Int} {x : Nd} (h : nodes[k.toNat]? = some x) : bitsAt nodes k = x.key.bits := by unfold bitsAt; rw [h]
theorem keyAt_some {nodes : List Nd} {k : Int} {x : Nd} (h : nodes[k.toNat]? = some x) : keyAt nodes k = x.key := by unfold keyAt; rw [h]
theorem at_cases (nodes : List Nd) (k : Int) (h0 : 0 ≤ k) : (∃ (i : Nat) (x : Nd), k = i ∧ nodes[i]? = some x) ∨ ((nodes.length : Int) ≤ k ∧ lvAt nodes k = -1 ∧ bitsAt nodes k = 0 ∧ cntAt nodes k = 0 ∧ keyAt nodes k = ⟨0, 0, 0, 0, 0, 0⟩) := by
  by_cases h : k < nodes.length
  · exact .inl ⟨k.toNat, _, by omega, List.getElem?_eq_getElem (by omega)⟩
  · have hn : nodes[k.toNat]? = none := List.getElem?_eq_none (by omega)
    exact .inr ⟨by omega, by unfold lvAt; rw [hn], by unfold bitsAt; rw [hn], by unfold cntAt; rw [hn], by unfold keyAt; rw [hn]⟩
section
variable (F : Nat → Prop) (p : Nat) (nodes : List Nd) (empty : List Int) (most : Int) (w : World) (A : Ar w F p nodes empty most)
include A
theorem level_walk (k : Int) (h0 : 0 ≤ k) (h1 : k < 4294967296) : Calls Try.prog 29 #[.pointer (some ⟨p, 0, none⟩), .int .u32 k] w fun e w' => e = .returned (.int .i64 (lvAt nodes k)) ∧ w = w' := by
  obtain ⟨⟨slots, nv, sv, ev, AR, _, _, _, _⟩, _, _⟩ := A
  rcases at_cases nodes k h0 with ⟨i, x, rfl, hx⟩ | ⟨hl, h2, _, _, _⟩
  · rw [lvAt_some (by rw [Int.toNat_natCast]; exact hx)]
    exact level_yes F p nodes slots empty most nv sv ev w AR i x hx
  · rw [h2]
    exact level_no F p nodes slots empty most nv sv ev w AR k h0 h1 hl
theorem bits_walk (k : Int) (h0 : 0 ≤ k) (h1 : k < 4294967296) : Calls Try.prog 78 #[.pointer (some ⟨p, 0, none⟩), .int .u32 k] w fun e w' => e = .returned (.int .u32 (bitsAt nodes k)) ∧ w = w' := by
  obtain ⟨⟨slots, nv, sv, ev, AR, _, _, _, _⟩, _, _⟩ := A
  rcases at_cases nodes k h0 with ⟨i, x, rfl, hx⟩ | ⟨hl, _, h2, _, _⟩
  · rw [bitsAt_some (by rw [Int.toNat_natCast]; exact hx)]
    exact bits_yes F p nodes slots empty most nv sv ev w AR i x hx
  · rw [h2]
    exact bits_no F p nodes slots empty most nv sv ev w AR k h0 h1 hl
theorem ncount_walk (k : Int) (h0 : 0 ≤ k) (h1 : k < 4294967296) : Calls Try.prog 37 #[.pointer (some ⟨p, 0, none⟩), .int .u32 k] w fun e w' => e = .returned (.int .u64 (cntAt nodes k)) ∧ w = w' := by
  obtain ⟨⟨slots, nv, sv, ev, AR, _, _, _, _⟩, _, _⟩ := A
  rcases at_cases nodes k h0 with ⟨i, x, rfl, hx⟩ | ⟨hl, _, _, h2, _⟩
  · rw [cntAt_some (by rw [Int.toNat_natCast]; exact hx)]
    exact count_yes F p nodes slots empty most nv sv ev w AR i x hx
  · rw [h2]
    exact count_no F p nodes slots empty most nv sv ev w AR k h0 h1 hl
theorem alen_walk : Calls Try.prog 26 #[.pointer (some ⟨p, 0, none⟩)] w fun e w' => e = .returned (.int .i64 nodes.length) ∧ w = w' := by
  obtain ⟨⟨slots, nv, sv, ev, AR, _, _, _, _⟩, _, _⟩ := A
  exact len_walk F p nodes slots empty most nv sv ev w AR
theorem amost_walk : Calls Try.prog 46 #[.pointer (some ⟨p, 0, none⟩)] w fun e w' => e = .returned (.int .i64 most) ∧ w = w' := by
  obtain ⟨⟨slots, nv, sv, ev, AR, _, _, _, _⟩, _, _⟩ := A
  exact most_walk F p nodes slots empty most nv sv ev w AR
def kidsVal (k : Key) : Value := .agg #[.int .u32 k.k0, .int .u32 k.k1, .int .u32 k.k2, .int .u32 k.k3]
set_option maxRecDepth 100000 in
theorem kids_walk (k : Int) (h0 : 0 ≤ k) (h1 : k < 4294967296) : Calls Try.prog 77 #[.pointer (some ⟨p, 0, none⟩), .int .u32 k] w fun e w' => e = .returned (kidsVal (keyAt nodes k)) ∧ Below w.heap.size w w' := by
  obtain ⟨⟨slots, nv, sv, ev, AR, _, _, _, _⟩, _, _⟩ := A
  have AW := Aside0.mk (AR.below (below_alloc (Below.refl _ _) (.cells #[.int .u32 0, .int .u32 0, .int .u32 0, .int .u32 0] 129)))
  have HB := Aside0.mk (below_alloc (Below.refl w.heap.size w) (.cells #[.int .u32 0, .int .u32 0, .int .u32 0, .int .u32 0] 129))
  have BK := Aside0.mk (blk_new w (.cells #[.int .u32 0, .int .u32 0, .int .u32 0, .int .u32 0] 129))
  obtain ⟨g, hg⟩ : ∃ g, w.heap.size = g := ⟨_, rfl⟩
  rcases at_cases nodes k h0 with ⟨i, x, rfl, hx⟩ | ⟨hl, _, _, _, h2⟩
  · rw [keyAt_some (by rw [Int.toNat_natCast]; exact hx)]
    have hi := (List.getElem?_eq_some_iff.1 hx).1
    have hh := has_yes F p nodes slots empty most nv sv ev _ AW.out i hi
    obtain ⟨a, c, rfl⟩ := Kd.R_slice AR.hn
    have c0 := blk_cell AW.out.blk 0
    simp only [List.getElem?_toArray, List.getElem?_cons_zero] at c0
    obtain ⟨ad, rfl, ⟨n0, n1, n2, n3, n4, n5, n6⟩⟩ := AW.out.node_cells hx
    clear AR AW
    go_enter Try.func77, Try.ntmps77
    go_wp2_with (fail)
    change Calls _ _ _ (w.alloc (.cells #[.int .u32 0, .int .u32 0, .int .u32 0, .int .u32 0] 129)) _
    refine hh.mono ?_; rintro e w1 ⟨rfl, rfl⟩
    clear hh
    have z0 := blk_cell BK.out 0
    have z1 := blk_cell BK.out 1
    have z2 := blk_cell BK.out 2
    have z3 := blk_cell BK.out 3
    have y0 := blk_frozen BK.out 0
    have y1 := blk_frozen BK.out 1
    have y2 := blk_frozen BK.out 2
    have y3 := blk_frozen BK.out 3
    simp only [List.getElem?_toArray, List.getElem?_cons_zero, List.getElem?_cons_succ] at z0 z1 z2 z3
    simp only [hg] at z0 z1 z2 z3 y0 y1 y2 y3 HB ⊢
    have Hg := Aside0.mk hg
    clear hg
    generalize w.alloc (.cells #[.int .u32 0, .int .u32 0, .int .u32 0, .int .u32 0] 129) = W1 at *
    clear BK
    go_wp2_with (fail)
    refine bodyPost_ret (v := kidsVal x.key) (by simp [results, Try.results77, go_sem, *, kidsVal]) rfl ⟨rfl, ?_⟩
    rw [Hg.out]
    repeat (refine Below.setCell (p := ⟨g, _, none⟩) ?_ (Nat.le_refl g) _)
    exact HB.out
  · rw [h2]
    have hh := has_no F p nodes slots empty most nv sv ev _ AW.out k h0 h1 hl
    clear AR AW
    go_enter Try.func77, Try.ntmps77
    go_wp2_with (fail)
    change Calls _ _ _ (w.alloc (.cells #[.int .u32 0, .int .u32 0, .int .u32 0, .int .u32 0] 129)) _
    refine hh.mono ?_; rintro e w1 ⟨rfl, rfl⟩
    clear hh
    have z0 := blk_cell BK.out 0
    have z1 := blk_cell BK.out 1
    have z2 := blk_cell BK.out 2
    have z3 := blk_cell BK.out 3
    have y0 := blk_frozen BK.out 0
    have y1 := blk_frozen BK.out 1
    have y2 := blk_frozen BK.out 2
    have y3 := blk_frozen BK.out 3
    simp only [List.getElem?_toArray, List.getElem?_cons_zero, List.getElem?_cons_succ] at z0 z1 z2 z3
    simp only [hg] at z0 z1 z2 z3 y0 y1 y2 y3 HB ⊢
    have Hg := Aside0.mk hg
    clear hg
    generalize w.alloc (.cells #[.int .u32 0, .int .u32 0, .int .u32 0, .int .u32 0] 129) = W1 at *
    clear BK
    go_wp2_with (fail)
    refine bodyPost_ret (v := kidsVal ⟨0, 0, 0, 0, 0, 0⟩) (by simp [results, Try.results77, go_sem, *, kidsVal]) rfl ⟨rfl, ?_⟩
    rw [Hg.out]
    repeat (refine Below.setCell (p := ⟨g, _, none⟩) ?_ (Nat.le_refl g) _)
    exact HB.out
end
end Go.Proofs.Ytbkbkgfpnefilaa.ar
