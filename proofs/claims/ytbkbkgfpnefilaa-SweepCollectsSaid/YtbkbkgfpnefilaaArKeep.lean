/- What a call that works on an arena leaves alone: every block but the arena's own. -/
import Derived.Test.YtbkbkgfpnefilaaArSlot
import Derived.Test.YtbkbkgfpnefilaaWInvWords
namespace Go.Proofs.Ytbkbkgfpnefilaa.ar
open Go.RowKit Go.Proofs.YtbkbkgfpnefilaaW.PrintWords Go.Proofs.YtbkbkgfpnefilaaW.PrintLast Go.Proofs.YtbkbkgfpnefilaaW.PrintMore Go.Proofs.Ytbkbkgfpnefilaa.bs Go.ChangeShapes

structure Keeps (F : Nat → Prop) (w w' : World) : Prop where
  os : w'.os = w.os
  tape : w'.tape = w.tape
  output : w'.output = w.output
  size : w.heap.size ≤ w'.heap.size
  block : ∀ k, k < w.heap.size → ¬ F k → w'.heap[k]? = w.heap[k]?
theorem Keeps.refl (F : Nat → Prop) (w : World) : Keeps F w w := ⟨rfl, rfl, rfl, Nat.le_refl _, fun _ _ _ => rfl⟩
theorem Keeps.of_below {F : Nat → Prop} {w w' : World} (h : Below w.heap.size w w') : Keeps F w w' := ⟨h.os, h.tape, h.output, h.size, fun k hk _ => h.block k hk⟩
theorem Keeps.trans {F F' : Nat → Prop} {a b c : World} (h : Keeps F a b) (h' : Keeps F' b c) (hF : ∀ k, F' k → F k ∨ a.heap.size ≤ k) : Keeps F a c :=
  ⟨h'.os.trans h.os, h'.tape.trans h.tape, h'.output.trans h.output, Nat.le_trans h.size h'.size,
    fun k hk hn => (h'.block k (Nat.lt_of_lt_of_le hk h.size) (fun hf => (hF k hf).elim hn (fun hh => by omega))).trans (h.block k hk hn)⟩
theorem Keeps.below_ {F : Nat → Prop} {a b c : World} (h : Keeps F a b) (h' : Below b.heap.size b c) : Keeps F a c := h.trans (Keeps.of_below (F := fun _ => False) h') (fun _ hk => hk.elim)
theorem Keeps.alloc {F : Nat → Prop} {a b : World} (h : Keeps F a b) (o : Obj) : Keeps F a (b.alloc o) := h.below_ (below_alloc (Below.refl _ _) o)
theorem Keeps.drewN {F : Nat → Prop} {a b : World} (h : Keeps F a b) (n : Nat) : Keeps F a (b.drewN n) := h.below_ (pw_below_drewN (Below.refl _ _) n)
theorem Keeps.drew {F : Nat → Prop} {a b : World} (h : Keeps F a b) : Keeps F a b.drew := h.below_ ((Below.refl _ _).drew)
theorem Keeps.grown {F : Nat → Prop} {a b c : World} {row : Option Nat} (h : Keeps F a b) (hg : b.grownBy c row) (hr : ∀ k, row = some k → F k ∨ a.heap.size ≤ k) : Keeps F a c :=
  h.trans (F' := fun k => row = some k) ⟨hg.os, hg.tape, hg.output, hg.size, fun k hk hn => hg.block k hk (fun e => hn e.symm)⟩ hr
theorem Keeps.setCell {F : Nat → Prop} {a b : World} (h : Keeps F a b) {p : Addr} (hp : F p.block ∨ a.heap.size ≤ p.block) (u : Value) : Keeps F a (b.setCell p u) :=
  h.trans (F' := fun k => k = p.block) ⟨rfl, rfl, rfl, by simp [World.setCell], fun k _ hn => Below.heap_setCell b p u k hn⟩ (fun k hk => by rw [hk]; exact hp)
theorem Keeps.below {F : Nat → Prop} {w w' : World} (h : Keeps F w w') {B : Nat} (hF : ∀ k, F k → B ≤ k) (hB : B ≤ w.heap.size) : Below B w w' :=
  ⟨h.os, h.tape, h.output, h.size, fun k hk => h.block k (by omega) (fun hf => by have := hF k hf; omega)⟩
theorem Keeps.blk {F : Nat → Prop} {w w' : World} (h : Keeps F w w') {g : Nat} {o : Obj} (hb : w.heap[g]? = some o) (hn : ¬ F g) : w'.heap[g]? = some o := (h.block g (blk_lt hb) hn).trans hb
theorem Keeps.mono {F F' : Nat → Prop} {w w' : World} (h : Keeps F w w') (hF : ∀ k, F k → F' k) : Keeps F' w w' := ⟨h.os, h.tape, h.output, h.size, fun k hk hn => h.block k hk (fun hf => hn (hF k hf))⟩
theorem Keeps.kept {F : Nat → Prop} {w w' : World} (h : Keeps F w w') : Kept w w' F := ⟨h.size, h.block⟩

/-- the blocks of an arena behind a call -/
def More (F : Nat → Prop) (w : World) : Nat → Prop := fun k => F k ∨ w.heap.size ≤ k
theorem ArAt.mono {w : World} {F F' : Nat → Prop} {p : Nat} {nodes : List Nd} {slots : List Nat} {empty : List Int} {most : Int} {nv sv ev : Value}
    (h : ArAt w F p nodes slots empty most nv sv ev) (hF : ∀ k, F k → F' k) : ArAt w F' p nodes slots empty most nv sv ev :=
  ⟨h.blk, Kd.R_mono h.hn hF, Kd.R_mono h.hs hF, Kd.R_mono h.he hF, hF _ h.hF, h.apart⟩
theorem ArAt.lt {w : World} {F : Nat → Prop} {p : Nat} {nodes : List Nd} {slots : List Nat} {empty : List Int} {most : Int} {nv sv ev : Value}
    (h : ArAt w F p nodes slots empty most nv sv ev) : p < w.heap.size := blk_lt h.blk
/-- a slot written -/
theorem ArAt.put_slot {w : World} {F : Nat → Prop} {p : Nat} {nodes : List Nd} {slots : List Nat} {empty : List Int} {most : Int} {nv ev : Value} {bs n cs : Nat}
    (h : ArAt w F p nodes slots empty most nv (.slice (some ⟨bs, 0, none⟩) n cs) ev) (i x : Nat) :
    ArAt (w.setCell ⟨bs, i, none⟩ (.int .u32 x)) F p nodes (slots.set i x) empty most nv (.slice (some ⟨bs, 0, none⟩) n cs) ev := by
  have hbs : some bs = (Value.slice (some ⟨bs, 0, none⟩) n cs).ownBlock := rfl
  obtain ⟨cells, hbk⟩ := Kd.R_typed h.hs bs rfl
  have hl := (Kd.R_reads' h.hs).1
  have hs := h.hs
  rw [hl] at hs
  have hp : p ≠ bs := by
    intro e
    have := h.blk
    rw [e, hbk] at this
    injection this with this
    injection this with _ ht _
    exact absurd ht (by decide)
  refine ⟨blk_far h.blk hp _, ?_, ?_, ?_, h.hF, h.apart⟩
  · exact Kd.R_mono (Kd.R_set h.hn hbk (by intro q hq; simp only [List.mem_cons] at hq; rcases hq with rfl | hq; · decide
                                           · exact absurd hq (by simp [kNd, Kd.iso, Kd.pair, Kd.int, Kd.scalar])) i _) (fun _ hk => hk)
  · have := (Kd.R_put (enc := Value.int .u32) (h1 := fun _ => rfl) hs (i : Int) (x : Int)).1
    rw [Int.toNat_natCast, ints_set] at this
    rw [hl]
    have hll : (ints (slots.set i x)).length = (ints slots).length := by rw [ints_len, ints_len, List.length_set]
    exact this
  · have he2 : Kd.R (Kd.int .u32) 38 w 0 (fun k => F k ∧ k ≠ bs) ev empty := Kd.R_flat (fun h => h) h.he (fun k hk hf => ⟨hf, fun e => h.apart bs rfl (by rw [← e]; exact hk)⟩)
    exact Kd.R_mono (Kd.R_far he2 (fun k hk => hk.2) _) (fun _ hk => hk.1)
theorem types_ne (q : TypeId) (hq : q ∈ 131 :: kNd.E) : q ≠ 121 := by
  simp only [List.mem_cons] at hq
  rcases hq with rfl | hq
  · decide
  · exact absurd hq (by simp [kNd, Kd.iso, Kd.pair, Kd.int, Kd.scalar])
theorem types_ne2 (q : TypeId) (hq : q ∈ 38 :: (Kd.int .u32).E) : q ≠ 121 := by
  simp only [List.mem_cons] at hq
  rcases hq with rfl | hq
  · decide
  · exact absurd hq (by simp [Kd.int, Kd.scalar])
/-- new slots -/
theorem ArAt.new_slots {w w1 : World} {F : Nat → Prop} {p : Nat} {nodes : List Nd} {slots slots' : List Nat} {empty : List Int} {most : Int} {nv sv sv' ev : Value}
    (h : ArAt w F p nodes slots empty most nv sv ev) (hg : w.grownBy w1 none) (ho : Kd.R (Kd.int .u32) 38 w1 0 (fun k => k = w.heap.size) sv' (ints slots')) :
    ArAt (w1.setCell ⟨p, 1, none⟩ sv') (More F w) p nodes slots' empty most nv sv' ev := by
  have hb := blk_grown h.blk hg (by simp)
  refine ⟨blk_put hb 1 _ rfl, ?_, ?_, ?_, .inl h.hF, ?_⟩
  · exact Kd.R_mono (Kd.R_set (Kd.R_grown h.hn hg (fun _ _ => by simp)) hb types_ne 1 _) (fun _ hk => .inl hk)
  · exact Kd.R_mono (Kd.R_set ho hb types_ne2 1 _) (fun k hk => .inr (by have : k = w.heap.size := hk; omega))
  · exact Kd.R_mono (Kd.R_set (Kd.R_grown h.he hg (fun _ _ => by simp)) hb types_ne2 1 _) (fun _ hk => .inl hk)
  · intro k hk hk2
    have h1 : k = w.heap.size := ho.1 k hk
    have h2 := Kd.R_lt h.he k hk2
    omega
/-- new nodes -/
theorem ArAt.new_nodes {w w1 : World} {F F' : Nat → Prop} {p : Nat} {nodes nodes' : List Nd} {slots : List Nat} {empty : List Int} {most : Int} {nv nv' sv ev : Value}
    (h : ArAt w F p nodes slots empty most nv sv ev) (hg : w.grownBy w1 nv.ownBlock) (hF : ∀ k, F k → F' k) (ho : Kd.R kNd 131 w1 0 F' nv' nodes') :
    ArAt (w1.setCell ⟨p, 0, none⟩ nv') F' p nodes' slots empty most nv' sv ev := by
  have hpn : some p ≠ nv.ownBlock := Kd.R_ne h.hn h.blk (by decide)
  have hb := blk_grown h.blk hg hpn
  have hu : ∀ q, q ∈ 38 :: (Kd.int .u32).E → q ≠ 131 := by
    intro q hq
    simp only [List.mem_cons] at hq
    rcases hq with rfl | hq
    · decide
    · exact absurd hq (by simp [Kd.int, Kd.scalar])
  exact ⟨blk_put hb 0 _ rfl, Kd.R_mono (Kd.R_set ho hb types_ne 0 _) (fun _ hk => hk), Kd.R_mono (Kd.R_set (Kd.R_over h.hs h.hn hu hg) hb types_ne2 0 _) hF, Kd.R_mono (Kd.R_set (Kd.R_over h.he h.hn hu hg) hb types_ne2 0 _) hF, hF _ h.hF, h.apart⟩
theorem slotted_more {nodes : List Nd} {slots : List Nat} {nd : Nd} {i : Nat} (S : Slotted st nodes nodes.length slots) (h : SlotRes nodes slots nd.key i) (h0 : slots[i]? = some 0) (hn : ∀ (j : Nat) (x : Nd), nodes[j]? = some x → x.key ≠ nd.key) (hroom : nodes.length + 1 < slots.length) :
    Slotted st (nodes ++ [nd]) (nodes ++ [nd]).length (slots.set i (nodes.length + 1)) := by
  have S2 := slotted_append S hn
  obtain ⟨d, rfl, hP, _⟩ := h
  have hP2 : Probing st (nodes ++ [nd]) slots nd.key d := by
    intro d' hd
    obtain ⟨x, hx, hx0, hk⟩ := hP d' hd
    refine ⟨x, hx, hx0, fun y hy => hk y ?_⟩
    have hv := S.val x (List.mem_of_getElem? hx)
    rwa [List.getElem?_append_left (by omega)] at hy
  have := slotted_insert S2 (nd := nd) (by simp) hP2 (by omega) h0 hroom
  simpa using this
end Go.Proofs.Ytbkbkgfpnefilaa.ar
