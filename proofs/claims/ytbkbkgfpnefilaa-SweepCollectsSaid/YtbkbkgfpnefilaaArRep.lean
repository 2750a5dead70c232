/- What an arena is in memory: a struct of three slices and a number; its nodes, its slots. -/
import Derived.Test.YtbkbkgfpnefilaaArPure
import Derived.Test.YtbkbkgfpnefilaaBase
import Derived.Test.YtbkbkgfpnefilaaWWords
import Derived.Test.YtbkbkgfpnefilaaWLast
import Derived.Test.YtbkbkgfpnefilaaWMore
import Derived.Test.YtbkbkgfpnefilaaWKept
namespace Go.Proofs.Ytbkbkgfpnefilaa.ar
open Go.RowKit Go.Proofs.YtbkbkgfpnefilaaW.PrintWords Go.Proofs.YtbkbkgfpnefilaaW.PrintLast Go.Proofs.YtbkbkgfpnefilaaW.PrintMore Go.Proofs.Ytbkbkgfpnefilaa.bs Go.ChangeShapes

def mixC : Int := 11400714819323198485
def mixV (a b : Int) : Int := Go.bits .xor .u64 (IntKind.u64.wrap (Go.bits .xor .u64 a b * 11400714819323198485)) (IntKind.u64.wrap (Go.bits .xor .u64 a b * 11400714819323198485) / 536870912)
theorem bits_u64_bd (o : BinOp) (a b : Int) (h : ∃ v : BitVec 64, Go.bits o .u64 a b = IntKind.u64.wrap (v.toNat : Int)) : 0 ≤ Go.bits o .u64 a b ∧ Go.bits o .u64 a b < 18446744073709551616 := by
  obtain ⟨v, hv⟩ := h
  rw [hv, IntKind.wrap_u64]
  omega
theorem mixV_bd (a b : Int) : 0 ≤ mixV a b ∧ mixV a b < 18446744073709551616 := bits_u64_bd _ _ _ ⟨_, rfl⟩
def hashTo (k : Key) : Nat → Int
  | 0 => mixV k.level k.bits
  | 1 => mixV (mixV k.level k.bits) k.k0
  | 2 => mixV (mixV (mixV k.level k.bits) k.k0) k.k1
  | 3 => mixV (mixV (mixV (mixV k.level k.bits) k.k0) k.k1) k.k2
  | _ => mixV (mixV (mixV (mixV (mixV k.level k.bits) k.k0) k.k1) k.k2) k.k3
theorem hashTo_bd (k : Key) (j : Nat) : 0 ≤ hashTo k j ∧ hashTo k j < 18446744073709551616 := by
  unfold hashTo; split <;> exact mixV_bd _ _
def st (k : Key) (n : Nat) : Nat := (hashTo k 4 % n).toNat
theorem st_lt (k : Key) (n : Nat) (h : 0 < n) : st k n < n := by
  unfold st
  have := Int.emod_nonneg (hashTo k 4) (show (n : Int) ≠ 0 by omega)
  have := Int.emod_lt_of_pos (hashTo k 4) (show (0 : Int) < n by omega)
  omega
theorem st_int (k : Key) (n : Nat) (h : 0 < n) : hashTo k 4 % (n : Int) = ((st k n : Nat) : Int) := by
  unfold st
  have := Int.emod_nonneg (hashTo k 4) (show (n : Int) ≠ 0 by omega)
  omega
structure KeyOk (k : Key) : Prop where
  l0 : 0 ≤ k.level
  l1 : k.level ≤ 100
  b0 : 0 ≤ k.bits
  b1 : k.bits < 4294967296
  p0 : 0 ≤ k.k0 ∧ k.k0 < 4294967296
  p1 : 0 ≤ k.k1 ∧ k.k1 < 4294967296
  p2 : 0 ≤ k.k2 ∧ k.k2 < 4294967296
  p3 : 0 ≤ k.k3 ∧ k.k3 < 4294967296
def Key.vals (k : Key) : Array Value := #[.int .i64 k.level, .int .u32 k.bits, .int .u32 k.k0, .int .u32 k.k1, .int .u32 k.k2, .int .u32 k.k3]

def kNd : Kd Nd := Kd.iso (Kd.pair (Kd.int .i64) (Kd.pair (Kd.int .u32) (Kd.pair (Kd.int .u32) (Kd.pair (Kd.int .u32) (Kd.pair (Kd.int .u32) (Kd.pair (Kd.int .u32) (Kd.int .u64))))))) (fun x : Nd => (x.key.level, x.key.bits, x.key.k0, x.key.k1, x.key.k2, x.key.k3, x.count))
def Nd.cells (x : Nd) : List Value := [.int .i64 x.key.level, .int .u32 x.key.bits, .int .u32 x.key.k0, .int .u32 x.key.k1, .int .u32 x.key.k2, .int .u32 x.key.k3, .int .u64 x.count]
theorem kNd_open {w : World} {x : Nd} {cs : List Value} (h : kNd.K w x cs) : cs = x.cells := by
  obtain ⟨_, _, rfl, rfl, ⟨_, _, rfl, rfl, ⟨_, _, rfl, rfl, ⟨_, _, rfl, rfl, ⟨_, _, rfl, rfl, ⟨_, _, rfl, rfl, rfl⟩⟩⟩⟩⟩⟩ := h
  exact rfl
theorem kNd_mkM (w : World) (base : Nat) (ok : Nat → Prop) (x : Nd) : kNd.M w base ok x x.cells :=
  ⟨[.int .i64 x.key.level], _, rfl, rfl, ⟨[.int .u32 x.key.bits], _, rfl, rfl, ⟨[.int .u32 x.key.k0], _, rfl, rfl, ⟨[.int .u32 x.key.k1], _, rfl, rfl, ⟨[.int .u32 x.key.k2], _, rfl, rfl, ⟨[.int .u32 x.key.k3], _, rfl, rfl, rfl⟩⟩⟩⟩⟩⟩
def zNd : Nd := ⟨⟨0, 0, 0, 0, 0, 0⟩, 0⟩
theorem infoN : (Try.prog.info? 131).map (fun i => (i.zero, i.size, i.bytes)) = some (some (.agg #[.int .i64 0, .int .u32 0, .int .u32 0, .int .u32 0, .int .u32 0, .int .u32 0, .int .u64 0]), 7, 40) := by kernel_rfl
theorem infoU : (Try.prog.info? 38).map (fun i => (i.zero, i.size, i.bytes)) = some (some (.int .u32 0), 1, 4) := by kernel_rfl

def ints (l : List Nat) : List Int := l.map fun (x : Nat) => (x : Int)
theorem ints_len (l : List Nat) : (ints l).length = l.length := by simp [ints]
theorem ints_get (l : List Nat) (i : Nat) (x : Nat) (h : l[i]? = some x) : (ints l)[i]? = some (x : Int) := by simp [ints, h]
theorem ints_set (l : List Nat) (i x : Nat) : (ints l).set i (x : Int) = ints (l.set i x) := by simp [ints, List.map_set]

/-- an arena: its struct's block p, its nodes, its slots, its empty ones, how many nodes there may be; all of it in blocks of F -/
structure ArAt (w : World) (F : Nat → Prop) (p : Nat) (nodes : List Nd) (slots : List Nat) (empty : List Int) (most : Int) (nv sv ev : Value) : Prop where
  blk : w.heap[p]? = some (.cells #[nv, sv, ev, .int .i64 most] 121 (0, 0))
  hn : Kd.R kNd 131 w 0 F nv nodes
  hs : Kd.R (Kd.int .u32) 38 w 0 F sv (ints slots)
  he : Kd.R (Kd.int .u32) 38 w 0 F ev empty
  hF : F p
  apart : NeRow sv ev
theorem ArAt.below {w w' : World} {F : Nat → Prop} {p : Nat} {nodes : List Nd} {slots : List Nat} {empty : List Int} {most : Int} {nv sv ev : Value}
    (h : ArAt w F p nodes slots empty most nv sv ev) (hb : Below w.heap.size w w') : ArAt w' F p nodes slots empty most nv sv ev :=
  ⟨blk_below h.blk hb, Kd.R_below h.hn hb, Kd.R_below h.hs hb, Kd.R_below h.he hb, h.hF, h.apart⟩
theorem ArAt.drewN {w : World} {F : Nat → Prop} {p : Nat} {nodes : List Nd} {slots : List Nat} {empty : List Int} {most : Int} {nv sv ev : Value}
    (h : ArAt w F p nodes slots empty most nv sv ev) (n : Nat) : ArAt (w.drewN n) F p nodes slots empty most nv sv ev :=
  h.below (pw_below_drewN (Below.refl _ _) n)
theorem ArAt.kept {w w' : World} {F S : Nat → Prop} {p : Nat} {nodes : List Nd} {slots : List Nat} {empty : List Int} {most : Int} {nv sv ev : Value}
    (h : ArAt w F p nodes slots empty most nv sv ev) (hk : Kept w w' S) (hd : ∀ k, F k → ¬ S k) : ArAt w' F p nodes slots empty most nv sv ev :=
  ⟨blk_kept h.blk hk (hd p h.hF), Kd.R_kept h.hn hk hd, Kd.R_kept h.hs hk hd, Kd.R_kept h.he hk hd, h.hF, h.apart⟩

theorem mix_walk (a b : Int) (w : World) : Calls Try.prog 140 #[.int .u64 a, .int .u64 b] w fun e w' => e = .returned (.int .u64 (mixV a b)) ∧ w = w' := by
  go_enter Try.func140, Try.ntmps140
  go_wp2
  go_ret
  exact ⟨rfl, rfl⟩
theorem len_walk (F : Nat → Prop) (p : Nat) (nodes : List Nd) (slots : List Nat) (empty : List Int) (most : Int) (nv sv ev : Value) (w : World) (A : ArAt w F p nodes slots empty most nv sv ev) :
    Calls Try.prog 26 #[.pointer (some ⟨p, 0, none⟩)] w fun e w' => e = .returned (.int .i64 nodes.length) ∧ w = w' := by
  obtain ⟨a, c, rfl⟩ := Kd.R_slice A.hn
  have c0 := blk_cell A.blk 0
  simp only [List.getElem?_toArray, List.getElem?_cons_zero] at c0
  go_enter Try.func26, Try.ntmps26
  go_wp2
  go_ret
  exact ⟨rfl, rfl⟩
theorem most_walk (F : Nat → Prop) (p : Nat) (nodes : List Nd) (slots : List Nat) (empty : List Int) (most : Int) (nv sv ev : Value) (w : World) (A : ArAt w F p nodes slots empty most nv sv ev) :
    Calls Try.prog 46 #[.pointer (some ⟨p, 0, none⟩)] w fun e w' => e = .returned (.int .i64 most) ∧ w = w' := by
  have c0 := blk_cell A.blk 3
  simp only [List.getElem?_toArray, List.getElem?_cons_zero, List.getElem?_cons_succ] at c0
  go_enter Try.func46, Try.ntmps46
  go_wp2
  go_ret
  exact ⟨rfl, rfl⟩
end Go.Proofs.Ytbkbkgfpnefilaa.ar
