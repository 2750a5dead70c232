/- An arena that a call has made itself: its functions' contracts, in one form. -/
import Derived.Test.YtbkbkgfpnefilaaArNew
import Derived.Test.YtbkbkgfpnefilaaArEmpty
namespace Go.Proofs.Ytbkbkgfpnefilaa.ar
open Go.RowKit Go.Proofs.YtbkbkgfpnefilaaW.PrintWords Go.Proofs.YtbkbkgfpnefilaaW.PrintLast Go.Proofs.YtbkbkgfpnefilaaW.PrintMore Go.Proofs.Ytbkbkgfpnefilaa.bs Go.ChangeShapes Go.Proofs.Ytbkbkgfpnefilaa.lb

/-- an arena whose blocks are all newer than the world w -/
structure Own (w w' : World) (p : Nat) (nodes : List Nd) (empty : List Int) (most : Int) : Prop where
  ar : Ar w' (fun k => w.heap.size ≤ k) p nodes empty most
  below : Below w.heap.size w w'
section
variable {w w1 w2 w3 : World} {p : Nat} {nodes nodes' : List Nd} {empty empty' : List Int} {most most' : Int}
theorem Own.step (h : Own w w2 p nodes empty most) (ha : Ar w3 (More (fun k => w.heap.size ≤ k) w2) p nodes' empty' most') (hk : Keeps (fun k => w.heap.size ≤ k) w2 w3) : Own w w3 p nodes' empty' most' :=
  ⟨ha.mono (fun _ hk => hk.elim id (fun hh => Nat.le_trans h.below.size hh)), h.below.trans (hk.below (fun _ hh => hh) h.below.size)⟩
theorem Own.next (h : Own w w2 p nodes empty most) (hb : Below w2.heap.size w2 w3) : Own w w3 p nodes empty most := ⟨h.ar.below hb, chain h.below hb h.below.size⟩
theorem Own.drewN (h : Own w w2 p nodes empty most) (n : Nat) : Own w (w2.drewN n) p nodes empty most := h.next (pw_below_drewN (Below.refl _ _) n)
theorem Own.elder (h : Own w1 w2 p nodes empty most) (hb : Below w.heap.size w w1) : Own w w2 p nodes empty most :=
  ⟨h.ar.mono (fun _ hk => Nat.le_trans hb.size hk), chain hb h.below hb.size⟩
theorem own_new (most : Int) (hm : most ≤ 9223372036854775807) (w : World) :
    Calls Try.prog 40 #[.int .i64 most] w fun e w' => ∃ p, e = .returned (.pointer (some ⟨p, 0, none⟩)) ∧ Own w w' p [nd0] [0, 0, 0] (max most 64) :=
  (new_walk most hm w).mono fun _ _ ⟨p, he, ha, hb⟩ => ⟨p, he, ha, hb⟩
theorem own_leaf (h : Own w w2 p nodes empty most) (f : Nat) (hf : f < 4294967296) (hN : nodes.length < 536870912) :
    Calls Try.prog 80 #[.pointer (some ⟨p, 0, none⟩), .int .u32 f] w2 fun e w' => e = .returned (.tuple #[.int .u32 (addN nodes most (leafKey f) (popN 32 f)).2.1, errOf (addN nodes most (leafKey f) (popN 32 f)).2.2]) ∧ Own w w' p (addN nodes most (leafKey f) (popN 32 f)).1 empty most :=
  (leaf_walk _ p nodes empty most w2 f hf hN h.ar).mono fun _ _ ⟨he, ha, hk⟩ => ⟨he, h.step ha hk⟩
theorem own_join (h : Own w w2 p nodes empty most) (k0 k1 k2 k3 : Int) (b0 : 0 ≤ k0 ∧ k0 < 4294967296) (b1 : 0 ≤ k1 ∧ k1 < 4294967296) (b2 : 0 ≤ k2 ∧ k2 < 4294967296) (b3 : 0 ≤ k3 ∧ k3 < 4294967296) (hN : nodes.length < 536870912) :
    Calls Try.prog 84 #[.pointer (some ⟨p, 0, none⟩), .agg #[.int .u32 k0, .int .u32 k1, .int .u32 k2, .int .u32 k3]] w2 fun e w' => e = .returned (.tuple #[.int .u32 (joinN nodes most k0 k1 k2 k3).2.1, errOf (joinN nodes most k0 k1 k2 k3).2.2]) ∧ Own w w' p (joinN nodes most k0 k1 k2 k3).1 empty most :=
  (join_walk _ p nodes empty most w2 k0 k1 k2 k3 b0 b1 b2 b3 hN h.ar).mono fun _ _ ⟨he, ha, hk⟩ => ⟨he, h.step ha hk⟩
theorem own_empty (h : Own w w2 p nodes empty most) (level : Int) (E : EmOk nodes empty) (hN : nodes.length < 536870860) :
    Calls Try.prog 63 #[.pointer (some ⟨p, 0, none⟩), .int .i64 level] w2 fun e w' => e = .returned (.tuple #[.int .u32 (emptyN nodes empty most level).2.2.1, errOf (emptyN nodes empty most level).2.2.2]) ∧ Own w w' p (emptyN nodes empty most level).1 (emptyN nodes empty most level).2.1 most :=
  (empty_walk _ p nodes empty most level w2 E hN h.ar).mono fun _ _ ⟨he, ha, hk⟩ => ⟨he, h.step ha hk⟩
theorem own_kids (h : Own w w2 p nodes empty most) (k : Int) (h0 : 0 ≤ k) (h1 : k < 4294967296) :
    Calls Try.prog 77 #[.pointer (some ⟨p, 0, none⟩), .int .u32 k] w2 fun e w' => e = .returned (kidsVal (keyAt nodes k)) ∧ Own w w' p nodes empty most :=
  (kids_walk _ p nodes empty most w2 h.ar k h0 h1).mono fun _ _ ⟨he, hb⟩ => ⟨he, h.next hb⟩
theorem own_level (h : Own w w2 p nodes empty most) (k : Int) (h0 : 0 ≤ k) (h1 : k < 4294967296) :
    Calls Try.prog 29 #[.pointer (some ⟨p, 0, none⟩), .int .u32 k] w2 fun e w' => e = .returned (.int .i64 (lvAt nodes k)) ∧ w2 = w' := level_walk _ p nodes empty most w2 h.ar k h0 h1
theorem own_bits (h : Own w w2 p nodes empty most) (k : Int) (h0 : 0 ≤ k) (h1 : k < 4294967296) :
    Calls Try.prog 78 #[.pointer (some ⟨p, 0, none⟩), .int .u32 k] w2 fun e w' => e = .returned (.int .u32 (bitsAt nodes k)) ∧ w2 = w' := bits_walk _ p nodes empty most w2 h.ar k h0 h1
theorem own_count (h : Own w w2 p nodes empty most) (k : Int) (h0 : 0 ≤ k) (h1 : k < 4294967296) :
    Calls Try.prog 37 #[.pointer (some ⟨p, 0, none⟩), .int .u32 k] w2 fun e w' => e = .returned (.int .u64 (cntAt nodes k)) ∧ w2 = w' := ncount_walk _ p nodes empty most w2 h.ar k h0 h1
theorem own_len (h : Own w w2 p nodes empty most) : Calls Try.prog 26 #[.pointer (some ⟨p, 0, none⟩)] w2 fun e w' => e = .returned (.int .i64 nodes.length) ∧ w2 = w' := alen_walk _ p nodes empty most w2 h.ar
theorem own_most (h : Own w w2 p nodes empty most) : Calls Try.prog 46 #[.pointer (some ⟨p, 0, none⟩)] w2 fun e w' => e = .returned (.int .i64 most) ∧ w2 = w' := amost_walk _ p nodes empty most w2 h.ar
theorem emOk0 (nodes : List Nd) : EmOk nodes [0, 0, 0] := ⟨by simp, by simp, fun i => by
  match i with
  | 0 => exact zero_bd
  | 1 => exact zero_bd
  | 2 => exact zero_bd
  | n + 3 => exact ⟨by simp, by simp⟩⟩
end
end Go.Proofs.Ytbkbkgfpnefilaa.ar
