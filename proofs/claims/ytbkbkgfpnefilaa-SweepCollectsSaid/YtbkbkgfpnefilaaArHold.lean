/- An arena among other blocks of the call's own: its blocks are told apart from all others, old and new. -/
import Derived.Test.YtbkbkgfpnefilaaArOwn
namespace Go.Proofs.Ytbkbkgfpnefilaa.ar
open Go.RowKit Go.Proofs.YtbkbkgfpnefilaaW.PrintWords Go.Proofs.YtbkbkgfpnefilaaW.PrintLast Go.Proofs.YtbkbkgfpnefilaaW.PrintMore Go.Proofs.Ytbkbkgfpnefilaa.bs Go.ChangeShapes Go.Proofs.Ytbkbkgfpnefilaa.lb

theorem ArAt.tight {w : World} {F : Nat → Prop} {p : Nat} {nodes : List Nd} {slots : List Nat} {empty : List Int} {most : Int} {nv sv ev : Value}
    (h : ArAt w F p nodes slots empty most nv sv ev) : ArAt w (fun k => F k ∧ k < w.heap.size) p nodes slots empty most nv sv ev :=
  ⟨h.blk, Kd.R_flat (fun h => h) h.hn (fun k hk hf => ⟨hf, Kd.R_lt h.hn k hk⟩), Kd.R_flat (fun h => h) h.hs (fun k hk hf => ⟨hf, Kd.R_lt h.hs k hk⟩), Kd.R_flat (fun h => h) h.he (fun k hk hf => ⟨hf, Kd.R_lt h.he k hk⟩), ⟨h.hF, h.lt⟩, h.apart⟩
theorem Ar.tight {w : World} {F : Nat → Prop} {p : Nat} {nodes : List Nd} {empty : List Int} {most : Int} (h : Ar w F p nodes empty most) : Ar w (fun k => F k ∧ k < w.heap.size) p nodes empty most := by
  obtain ⟨⟨slots, nv, sv, ev, AR, S, h1, h2, h3⟩, hok, hsz⟩ := h
  exact ⟨⟨slots, nv, sv, ev, AR.tight, S, h1, h2, h3⟩, hok, hsz⟩
theorem Ar.once {w : World} {F : Nat → Prop} {p : Nat} {nodes : List Nd} {empty : List Int} {most : Int} (h : Ar w F p nodes empty most) :
    ∀ (i j : Nat) (x y : Nd), nodes[i]? = some x → nodes[j]? = some y → x.key = y.key → i = j := by
  obtain ⟨⟨slots, nv, sv, ev, AR, S, h1, h2, h3⟩, hok, hsz⟩ := h
  exact S.once
structure Hold (w0 w : World) (F : Nat → Prop) (p : Nat) (nodes : List Nd) (empty : List Int) (most : Int) : Prop where
  ar : Ar w F p nodes empty most
  lo : ∀ k, F k → w0.heap.size ≤ k
  hi : ∀ k, F k → k < w.heap.size
/-- what a step leaves: the arena, its new blocks; all others as they were -/
structure Onto (w0 w2 w3 : World) (F F' : Nat → Prop) (p : Nat) (nodes : List Nd) (empty : List Int) (most : Int) : Prop where
  hold : Hold w0 w3 F' p nodes empty most
  old : ∀ k, k < w2.heap.size → (F' k ↔ F k)
  keeps : Keeps F w2 w3
section
variable {w0 w w1 w2 w3 : World} {F G : Nat → Prop} {p : Nat} {nodes nodes' : List Nd} {empty empty' : List Int} {most most' : Int}
theorem Hold.step (h : Hold w0 w2 F p nodes empty most) (h0 : w0.heap.size ≤ w2.heap.size) (ha : Ar w3 (More F w2) p nodes' empty' most') (hk : Keeps F w2 w3) : ∃ F', Onto w0 w2 w3 F F' p nodes' empty' most' :=
  ⟨fun k => More F w2 k ∧ k < w3.heap.size, ⟨ha.tight, fun k hk => hk.1.elim (h.lo k) (fun hh => Nat.le_trans h0 hh), fun k hk => hk.2⟩,
    fun k hk2 => ⟨fun hh => hh.1.elim id (fun h2 => absurd h2 (by omega)), fun hh => ⟨.inl hh, Nat.lt_of_lt_of_le hk2 hk.size⟩⟩, hk⟩
/-- all else that a call does: no block of the arena is written -/
theorem Hold.kept (h : Hold w0 w2 F p nodes empty most) (hk : Kept w2 w3 G) (hd : ∀ k, F k → ¬ G k) : Hold w0 w3 F p nodes empty most :=
  ⟨h.ar.kept hk hd, h.lo, fun k hf => Nat.lt_of_lt_of_le (h.hi k hf) hk.1⟩
theorem Hold.below (h : Hold w0 w2 F p nodes empty most) (hb : Below w2.heap.size w2 w3) : Hold w0 w3 F p nodes empty most :=
  ⟨h.ar.below hb, h.lo, fun k hf => Nat.lt_of_lt_of_le (h.hi k hf) hb.size⟩
theorem Hold.drewN (h : Hold w0 w2 F p nodes empty most) (n : Nat) : Hold w0 (w2.drewN n) F p nodes empty most := h.below (pw_below_drewN (Below.refl _ _) n)
theorem Hold.elder (h : Hold w1 w2 F p nodes empty most) (hs : w0.heap.size ≤ w1.heap.size) : Hold w0 w2 F p nodes empty most := ⟨h.ar, fun k hk => Nat.le_trans hs (h.lo k hk), h.hi⟩
theorem Hold.belowK (h : Hold w0 w2 F p nodes empty most) (hb : Below w0.heap.size w0 w2) (hk : Keeps F w2 w3) : Below w0.heap.size w0 w3 := hb.trans (hk.below h.lo hb.size)
theorem hold_new (most : Int) (hm : most ≤ 9223372036854775807) (w : World) :
    Calls Try.prog 40 #[.int .i64 most] w fun e w' => ∃ p F, e = .returned (.pointer (some ⟨p, 0, none⟩)) ∧ Hold w w' F p [nd0] [0, 0, 0] (max most 64) ∧ Below w.heap.size w w' :=
  (new_walk most hm w).mono fun _ _ ⟨p, he, ha, hb⟩ => ⟨p, _, he, ⟨ha.tight, fun _ hk => hk.1, fun _ hk => hk.2⟩, hb⟩
theorem hold_leaf (h : Hold w0 w2 F p nodes empty most) (h0 : w0.heap.size ≤ w2.heap.size) (f : Nat) (hf : f < 4294967296) (hN : nodes.length < 536870912) :
    Calls Try.prog 80 #[.pointer (some ⟨p, 0, none⟩), .int .u32 f] w2 fun e w' => e = .returned (.tuple #[.int .u32 (addN nodes most (leafKey f) (popN 32 f)).2.1, errOf (addN nodes most (leafKey f) (popN 32 f)).2.2]) ∧ ∃ F', Onto w0 w2 w' F F' p (addN nodes most (leafKey f) (popN 32 f)).1 empty most :=
  (leaf_walk _ p nodes empty most w2 f hf hN h.ar).mono fun _ _ ⟨he, ha, hk⟩ => ⟨he, h.step h0 ha hk⟩
theorem hold_join (h : Hold w0 w2 F p nodes empty most) (h0 : w0.heap.size ≤ w2.heap.size) (k0 k1 k2 k3 : Int) (b0 : 0 ≤ k0 ∧ k0 < 4294967296) (b1 : 0 ≤ k1 ∧ k1 < 4294967296) (b2 : 0 ≤ k2 ∧ k2 < 4294967296) (b3 : 0 ≤ k3 ∧ k3 < 4294967296) (hN : nodes.length < 536870912) :
    Calls Try.prog 84 #[.pointer (some ⟨p, 0, none⟩), .agg #[.int .u32 k0, .int .u32 k1, .int .u32 k2, .int .u32 k3]] w2 fun e w' => e = .returned (.tuple #[.int .u32 (joinN nodes most k0 k1 k2 k3).2.1, errOf (joinN nodes most k0 k1 k2 k3).2.2]) ∧ ∃ F', Onto w0 w2 w' F F' p (joinN nodes most k0 k1 k2 k3).1 empty most :=
  (join_walk _ p nodes empty most w2 k0 k1 k2 k3 b0 b1 b2 b3 hN h.ar).mono fun _ _ ⟨he, ha, hk⟩ => ⟨he, h.step h0 ha hk⟩
theorem hold_empty (h : Hold w0 w2 F p nodes empty most) (h0 : w0.heap.size ≤ w2.heap.size) (level : Int) (E : EmOk nodes empty) (hN : nodes.length < 536870860) :
    Calls Try.prog 63 #[.pointer (some ⟨p, 0, none⟩), .int .i64 level] w2 fun e w' => e = .returned (.tuple #[.int .u32 (emptyN nodes empty most level).2.2.1, errOf (emptyN nodes empty most level).2.2.2]) ∧ ∃ F', Onto w0 w2 w' F F' p (emptyN nodes empty most level).1 (emptyN nodes empty most level).2.1 most :=
  (empty_walk _ p nodes empty most level w2 E hN h.ar).mono fun _ _ ⟨he, ha, hk⟩ => ⟨he, h.step h0 ha hk⟩
end
end Go.Proofs.Ytbkbkgfpnefilaa.ar
