/- An arena that a call has made itself: its functions' contracts, in one form. -/
import Derived.Test.YtbeijhjafmalgaaArNew
namespace Go.Proofs.Ytbeijhjafmalgaa.ar
open Go.RowKit Go.Proofs.YtbeijhjafmalgaaW.PrintWords Go.Proofs.YtbeijhjafmalgaaW.PrintLast Go.Proofs.YtbeijhjafmalgaaW.PrintMore Go.Proofs.Ytbeijhjafmalgaa.bs Go.ChangeShapes Go.Proofs.Ytbeijhjafmalgaa.lb

/-- an arena whose blocks are all newer than the world w -/
structure Own (w w' : World) (p : Nat) (nodes : List Nd) (empty : List Int) (most : Int) : Prop where
  ar : Ar w' (fun k => w.heap.size ≤ k) p nodes empty most
  below : Below w.heap.size w w'
section
variable {w w1 w2 w3 : World} {p : Nat} {nodes nodes' : List Nd} {empty empty' : List Int} {most most' : Int}
theorem Own.step (h : Own w w2 p nodes empty most) (ha : Ar w3 (More (fun k => w.heap.size ≤ k) w2) p nodes' empty' most') (hk : Keeps (fun k => w.heap.size ≤ k) w2 w3) : Own w w3 p nodes' empty' most' :=
  ⟨ha.mono (fun _ hk => hk.elim id (fun hh => Nat.le_trans h.below.size hh)), h.below.trans (hk.below (fun _ hh => hh) h.below.size)⟩
theorem Own.next (h : Own w w2 p nodes empty most) (hb : Below w2.heap.size w2 w3) : Own w w3 p nodes empty most := ⟨h.ar.below hb, chain h.below hb h.below.size⟩
theorem Own.drewN (h : Own w w2 p nodes empty most) (n : Nat) : Own w (w2.drewN n) p nodes empty most := h.next (pw_below_drewN (Below.refl _ _) n)
theorem Own.elder (h : Own w1 w2 p nodes empty most) (hb : Below w.heap.size w w1) : Own w w2 p nodes empty most :=
  ⟨h.ar.mono (fun _ hk => Nat.le_trans hb.size hk), chain hb h.below hb.size⟩
theorem own_new (most : Int) (hm : most ≤ 9223372036854775807) (w : World) :
    Calls Try.prog 5 #[.int .i64 most] w fun e w' => ∃ p, e = .returned (.pointer (some ⟨p, 0, none⟩)) ∧ Own w w' p [nd0] [0, 0, 0] (max most 64) :=
  (new_walk most hm w).mono fun _ _ ⟨p, he, ha, hb⟩ => ⟨p, he, ha, hb⟩
theorem own_leaf (h : Own w w2 p nodes empty most) (f : Nat) (hf : f < 4294967296) (hN : nodes.length < 536870912) :
    Calls Try.prog 6 #[.pointer (some ⟨p, 0, none⟩), .int .u32 f] w2 fun e w' => e = .returned (.tuple #[.int .u32 (addN nodes most (leafKey f) (popN 32 f)).2.1, errOf (addN nodes most (leafKey f) (popN 32 f)).2.2]) ∧ Own w w' p (addN nodes most (leafKey f) (popN 32 f)).1 empty most :=
  (leaf_walk _ p nodes empty most w2 f hf hN h.ar).mono fun _ _ ⟨he, ha, hk⟩ => ⟨he, h.step ha hk⟩
theorem own_level (h : Own w w2 p nodes empty most) (k : Int) (h0 : 0 ≤ k) (h1 : k < 4294967296) :
    Calls Try.prog 8 #[.pointer (some ⟨p, 0, none⟩), .int .u32 k] w2 fun e w' => e = .returned (.int .i64 (lvAt nodes k)) ∧ w2 = w' := level_walk _ p nodes empty most w2 h.ar k h0 h1
theorem own_bits (h : Own w w2 p nodes empty most) (k : Int) (h0 : 0 ≤ k) (h1 : k < 4294967296) :
    Calls Try.prog 7 #[.pointer (some ⟨p, 0, none⟩), .int .u32 k] w2 fun e w' => e = .returned (.int .u32 (bitsAt nodes k)) ∧ w2 = w' := bits_walk _ p nodes empty most w2 h.ar k h0 h1
theorem own_count (h : Own w w2 p nodes empty most) (k : Int) (h0 : 0 ≤ k) (h1 : k < 4294967296) :
    Calls Try.prog 9 #[.pointer (some ⟨p, 0, none⟩), .int .u32 k] w2 fun e w' => e = .returned (.int .u64 (cntAt nodes k)) ∧ w2 = w' := ncount_walk _ p nodes empty most w2 h.ar k h0 h1
theorem own_len (h : Own w w2 p nodes empty most) : Calls Try.prog 11 #[.pointer (some ⟨p, 0, none⟩)] w2 fun e w' => e = .returned (.int .i64 nodes.length) ∧ w2 = w' := alen_walk _ p nodes empty most w2 h.ar
theorem own_most (h : Own w w2 p nodes empty most) : Calls Try.prog 12 #[.pointer (some ⟨p, 0, none⟩)] w2 fun e w' => e = .returned (.int .i64 most) ∧ w2 = w' := amost_walk _ p nodes empty most w2 h.ar
end
end Go.Proofs.Ytbeijhjafmalgaa.ar
