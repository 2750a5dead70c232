/- The walk over (*Arena).find: a node, made if it isn't there. -/
import Derived.Test.YtpmipllohiiocaaArPure
import Derived.Test.YtpmipllohiiocaaBase
import Derived.Test.YtpmipllohiiocaaWWords
import Derived.Test.YtpmipllohiiocaaWLast
import Derived.Test.YtpmipllohiiocaaWMore
import Derived.Test.YtpmipllohiiocaaWKept
import Derived.Test.YtpmipllohiiocaaWEqStruct
import Derived.Deep.DeepCutAuto
import Derived.Deep.LoopGhost
import Derived.Deep.RegionHeld3
import Derived.RegionTactic
import Derived.BigRegion
import Derived.Test.YtpmipllohiiocaaWInvWords
import Derived.Outline
import Derived.Deep.RegionLaw
import Derived.Deep.RegionHeldLaw
import Derived.Deep.QuietTactic
import Derived.BigQuiet
namespace Go.Proofs.Ytpmipllohiiocaa.ar
open Go.RowKit Go.Proofs.YtpmipllohiiocaaW.PrintWords Go.Proofs.YtpmipllohiiocaaW.PrintLast Go.Proofs.YtpmipllohiiocaaW.PrintMore Go.Proofs.Ytpmipllohiiocaa.bs Go.ChangeShapes

def mixC : Int := 11400714819323198485
def mixV (a b : Int) : Int := Go.bits .xor .u64 (IntKind.u64.wrap (Go.bits .xor .u64 a b * 11400714819323198485)) (IntKind.u64.wrap (Go.bits .xor .u64 a b * 11400714819323198485) / 536870912)
theorem bits_u64_bd (o : BinOp) (a b : Int) (h : ∃ v : BitVec 64, Go.bits o .u64 a b = IntKind.u64.wrap (v.toNat : Int)) : 0 ≤ Go.bits o .u64 a b ∧ Go.bits o .u64 a b < 18446744073709551616 := by
  obtain ⟨v, hv⟩ := h
  rw [hv, IntKind.wrap_u64]
  omega
theorem mixV_bd (a b : Int) : 0 ≤ mixV a b ∧ mixV a b < 18446744073709551616 := bits_u64_bd _ _ _ ⟨_, rfl⟩
def hashTo (k : Key) : Nat → Int
  | 0 => mixV k.level k.bits
  | 1 => mixV (mixV k.level k.bits) k.k0
  | 2 => mixV (mixV (mixV k.level k.bits) k.k0) k.k1
  | 3 => mixV (mixV (mixV (mixV k.level k.bits) k.k0) k.k1) k.k2
  | _ => mixV (mixV (mixV (mixV (mixV k.level k.bits) k.k0) k.k1) k.k2) k.k3
theorem hashTo_bd (k : Key) (j : Nat) : 0 ≤ hashTo k j ∧ hashTo k j < 18446744073709551616 := by
  unfold hashTo; split <;> exact mixV_bd _ _
def st (k : Key) (n : Nat) : Nat := (hashTo k 4 % n).toNat
theorem st_lt (k : Key) (n : Nat) (h : 0 < n) : st k n < n := by
  unfold st
  have := Int.emod_nonneg (hashTo k 4) (show (n : Int) ≠ 0 by omega)
  have := Int.emod_lt_of_pos (hashTo k 4) (show (0 : Int) < n by omega)
  omega
theorem st_int (k : Key) (n : Nat) (h : 0 < n) : hashTo k 4 % (n : Int) = ((st k n : Nat) : Int) := by
  unfold st
  have := Int.emod_nonneg (hashTo k 4) (show (n : Int) ≠ 0 by omega)
  omega
structure KeyOk (k : Key) : Prop where
  l0 : 0 ≤ k.level
  l1 : k.level ≤ 44
  b0 : 0 ≤ k.bits
  b1 : k.bits < 4294967296
  p0 : 0 ≤ k.k0 ∧ k.k0 < 4294967296
  p1 : 0 ≤ k.k1 ∧ k.k1 < 4294967296
  p2 : 0 ≤ k.k2 ∧ k.k2 < 4294967296
  p3 : 0 ≤ k.k3 ∧ k.k3 < 4294967296
def Key.vals (k : Key) : Array Value := #[.int .i64 k.level, .int .u32 k.bits, .int .u32 k.k0, .int .u32 k.k1, .int .u32 k.k2, .int .u32 k.k3]

def kNd : Kd Nd := Kd.iso (Kd.pair (Kd.int .i64) (Kd.pair (Kd.int .u32) (Kd.pair (Kd.int .u32) (Kd.pair (Kd.int .u32) (Kd.pair (Kd.int .u32) (Kd.pair (Kd.int .u32) (Kd.int .u64))))))) (fun x : Nd => (x.key.level, x.key.bits, x.key.k0, x.key.k1, x.key.k2, x.key.k3, x.count))
def Nd.cells (x : Nd) : List Value := [.int .i64 x.key.level, .int .u32 x.key.bits, .int .u32 x.key.k0, .int .u32 x.key.k1, .int .u32 x.key.k2, .int .u32 x.key.k3, .int .u64 x.count]
theorem kNd_open {w : World} {x : Nd} {cs : List Value} (h : kNd.K w x cs) : cs = x.cells := by
  obtain ⟨_, _, rfl, rfl, ⟨_, _, rfl, rfl, ⟨_, _, rfl, rfl, ⟨_, _, rfl, rfl, ⟨_, _, rfl, rfl, ⟨_, _, rfl, rfl, rfl⟩⟩⟩⟩⟩⟩ := h
  exact rfl
theorem kNd_mkM (w : World) (base : Nat) (ok : Nat → Prop) (x : Nd) : kNd.M w base ok x x.cells :=
  ⟨[.int .i64 x.key.level], _, rfl, rfl, ⟨[.int .u32 x.key.bits], _, rfl, rfl, ⟨[.int .u32 x.key.k0], _, rfl, rfl, ⟨[.int .u32 x.key.k1], _, rfl, rfl, ⟨[.int .u32 x.key.k2], _, rfl, rfl, ⟨[.int .u32 x.key.k3], _, rfl, rfl, rfl⟩⟩⟩⟩⟩⟩
def zNd : Nd := ⟨⟨0, 0, 0, 0, 0, 0⟩, 0⟩
theorem infoN : (Try.prog.info? 91).map (fun i => (i.zero, i.size, i.bytes)) = some (some (.agg #[.int .i64 0, .int .u32 0, .int .u32 0, .int .u32 0, .int .u32 0, .int .u32 0, .int .u64 0]), 7, 40) := by kernel_rfl
theorem infoU : (Try.prog.info? 33).map (fun i => (i.zero, i.size, i.bytes)) = some (some (.int .u32 0), 1, 4) := by kernel_rfl

def ints (l : List Nat) : List Int := l.map fun (x : Nat) => (x : Int)
theorem ints_len (l : List Nat) : (ints l).length = l.length := by simp [ints]
theorem ints_get (l : List Nat) (i : Nat) (x : Nat) (h : l[i]? = some x) : (ints l)[i]? = some (x : Int) := by simp [ints, h]
theorem ints_set (l : List Nat) (i x : Nat) : (ints l).set i (x : Int) = ints (l.set i x) := by simp [ints, List.map_set]

/-- an arena: its struct's block p, its nodes, its slots, its empty ones, how many nodes there may be; all of it in blocks of F -/
structure ArAt (w : World) (F : Nat → Prop) (p : Nat) (nodes : List Nd) (slots : List Nat) (empty : List Int) (most : Int) (nv sv ev : Value) : Prop where
  blk : w.heap[p]? = some (.cells #[nv, sv, ev, .int .i64 most] 95 (0, 0))
  hn : Kd.R kNd 91 w 0 F nv nodes
  hs : Kd.R (Kd.int .u32) 33 w 0 F sv (ints slots)
  he : Kd.R (Kd.int .u32) 33 w 0 F ev empty
  hF : F p
  apart : NeRow sv ev
theorem ArAt.below {w w' : World} {F : Nat → Prop} {p : Nat} {nodes : List Nd} {slots : List Nat} {empty : List Int} {most : Int} {nv sv ev : Value}
    (h : ArAt w F p nodes slots empty most nv sv ev) (hb : Below w.heap.size w w') : ArAt w' F p nodes slots empty most nv sv ev :=
  ⟨blk_below h.blk hb, Kd.R_below h.hn hb, Kd.R_below h.hs hb, Kd.R_below h.he hb, h.hF, h.apart⟩
theorem ArAt.drewN {w : World} {F : Nat → Prop} {p : Nat} {nodes : List Nd} {slots : List Nat} {empty : List Int} {most : Int} {nv sv ev : Value}
    (h : ArAt w F p nodes slots empty most nv sv ev) (n : Nat) : ArAt (w.drewN n) F p nodes slots empty most nv sv ev :=
  h.below (pw_below_drewN (Below.refl _ _) n)
theorem ArAt.kept {w w' : World} {F S : Nat → Prop} {p : Nat} {nodes : List Nd} {slots : List Nat} {empty : List Int} {most : Int} {nv sv ev : Value}
    (h : ArAt w F p nodes slots empty most nv sv ev) (hk : Kept w w' S) (hd : ∀ k, F k → ¬ S k) : ArAt w' F p nodes slots empty most nv sv ev :=
  ⟨blk_kept h.blk hk (hd p h.hF), Kd.R_kept h.hn hk hd, Kd.R_kept h.hs hk hd, Kd.R_kept h.he hk hd, h.hF, h.apart⟩

theorem mix_walk (a b : Int) (w : World) : Calls Try.prog 83 #[.int .u64 a, .int .u64 b] w fun e w' => e = .returned (.int .u64 (mixV a b)) ∧ w = w' := by
  go_enter Try.func83, Try.ntmps83
  go_wp2
  go_ret
  exact ⟨rfl, rfl⟩
theorem len_walk (F : Nat → Prop) (p : Nat) (nodes : List Nd) (slots : List Nat) (empty : List Int) (most : Int) (nv sv ev : Value) (w : World) (A : ArAt w F p nodes slots empty most nv sv ev) :
    Calls Try.prog 76 #[.pointer (some ⟨p, 0, none⟩)] w fun e w' => e = .returned (.int .i64 nodes.length) ∧ w = w' := by
  obtain ⟨a, c, rfl⟩ := Kd.R_slice A.hn
  have c0 := blk_cell A.blk 0
  simp only [List.getElem?_toArray, List.getElem?_cons_zero] at c0
  go_enter Try.func76, Try.ntmps76
  go_wp2
  go_ret
  exact ⟨rfl, rfl⟩
end Go.Proofs.Ytpmipllohiiocaa.ar
namespace Go.Proofs.Ytpmipllohiiocaa.ar
open Go.RowKit Go.Proofs.YtpmipllohiiocaaW.PrintWords Go.Proofs.YtpmipllohiiocaaW.PrintLast Go.Proofs.YtpmipllohiiocaaW.PrintMore Go.Proofs.Ytpmipllohiiocaa.bs Go.ChangeShapes

theorem eqU32 (d : Nat) (w : World) (a b : Int) : (Op.equalIn (d + 1) 33 (.int .u32 a) (.int .u32 b)).run Try.prog w = .ok (a == b) w := by
  simp [Op.equalIn, run_underlying Try.underlying33]
theorem part4 (w : World) (a b c d : Int) : ∀ i : Nat, i < 4 → (part 33 #[.int .u32 a, .int .u32 b, .int .u32 c, .int .u32 d] i).run Try.prog w = .ok (.int .u32 ([a, b, c, d].getD i 0)) w
  | 0, _ => by kernel_rfl
  | 1, _ => by kernel_rfl
  | 2, _ => by kernel_rfl
  | 3, _ => by kernel_rfl
  | n + 4, h => by omega
theorem size32 (w : World) : (sizeOf 33).run Try.prog w = .ok 1 w := by kernel_rfl
theorem eqArr4 (d : Nat) (w : World) (a0 a1 a2 a3 b0 b1 b2 b3 : Int) :
    (Op.equalIn (d + 2) 89 (.agg #[.int .u32 a0, .int .u32 a1, .int .u32 a2, .int .u32 a3]) (.agg #[.int .u32 b0, .int .u32 b1, .int .u32 b2, .int .u32 b3])).run Try.prog w = .ok (a0 == b0 && (a1 == b1 && (a2 == b2 && a3 == b3))) w := by
  rw [Op.equalIn]
  simp only [Sem.run_bind, run_underlying Try.underlying89, Result.andThen_ok, size32]
  simp only [Std.Legacy.Range.forIn_eq_forIn_range', Std.Legacy.Range.size]
  simp only [List.range', Nat.reduceAdd, Nat.reduceSub, Nat.reduceDiv, List.forIn_cons, List.forIn_nil, Nat.mul_one]
  have pa := part4 w a0 a1 a2 a3
  have pb := part4 w b0 b1 b2 b3
  have pa0 := pa 0 (by omega)
  have pa1 := pa 1 (by omega)
  have pa2 := pa 2 (by omega)
  have pa3 := pa 3 (by omega)
  have pb0 := pb 0 (by omega)
  have pb1 := pb 1 (by omega)
  have pb2 := pb 2 (by omega)
  have pb3 := pb 3 (by omega)
  simp only [Sem.run_bind, pa0, pb0, Result.andThen_ok, eqU32, List.getD_cons_zero]
  cases h0 : (a0 == b0) <;> cases h1 : (a1 == b1) <;> cases h2 : (a2 == b2) <;> cases h3 : (a3 == b3) <;> simp [pa1, pa2, pa3, pb1, pb2, pb3, eqU32, h1, h2, h3, Sem.run_bind]
def eqKeyB (a b : Key) : Bool := a.level == b.level && (a.bits == b.bits && (a.k0 == b.k0 && (a.k1 == b.k1 && (a.k2 == b.k2 && a.k3 == b.k3))))
theorem eqKeyB_iff (a b : Key) : eqKeyB a b = decide (a = b) := by
  rw [Bool.eq_iff_iff]
  simp [eqKeyB, Key.eq_iff]
theorem eqKey (d : Nat) (w : World) (a b : Key) : (Op.equalIn (d + 3) 119 (.agg a.vals) (.agg b.vals)).run Try.prog w = .ok (eqKeyB a b) w := by
  refine eqA_of Try.underlying119 (by kernel_rfl) ?_
  unfold Key.vals eqKeyB
  refine eqf_cons (by rfl) (by go_simp; rfl) (by go_simp; rfl) (by go_simp) ?_
  refine eqf_cons (by rfl) (by go_simp; rfl) (by go_simp; rfl) (by go_simp) ?_
  exact eqf_last (by rfl) (by kernel_rfl) (by kernel_rfl) (eqArr4 d w _ _ _ _ _ _ _ _)
theorem eqKeyL (d : Nat) (w : World) (l b p0 p1 p2 p3 l' b' q0 q1 q2 q3 : Int) : (Op.equalIn (d + 3) 119 (.agg #[.int .i64 l, .int .u32 b, .int .u32 p0, .int .u32 p1, .int .u32 p2, .int .u32 p3]) (.agg #[.int .i64 l', .int .u32 b', .int .u32 q0, .int .u32 q1, .int .u32 q2, .int .u32 q3])).run Try.prog w = .ok (eqKeyB ⟨l, b, p0, p1, p2, p3⟩ ⟨l', b', q0, q1, q2, q3⟩) w := eqKey d w ⟨l, b, p0, p1, p2, p3⟩ ⟨l', b', q0, q1, q2, q3⟩
theorem eqlKey (w : World) (l b p0 p1 p2 p3 l' b' q0 q1 q2 q3 : Int) : (binOp .eql 119 (.agg #[.int .i64 l, .int .u32 b, .int .u32 p0, .int .u32 p1, .int .u32 p2, .int .u32 p3]) (.agg #[.int .i64 l', .int .u32 b', .int .u32 q0, .int .u32 q1, .int .u32 q2, .int .u32 q3])).run Try.prog w = .ok (.bool (eqKeyB ⟨l, b, p0, p1, p2, p3⟩ ⟨l', b', q0, q1, q2, q3⟩)) w := by
  rw [run_eql_struct, show 10000 = 9997 + 3 from rfl, eqKeyL]
  rfl
theorem guardKey (w : World) (op : BinOp) (x y : Operand) (xs ys : Array Value) : (eqGuard op 119 x y (.agg xs) (.agg ys)).run Try.prog w = .ok () w :=
  run_eqGuard_agg w op _ x y xs ys (by kernel_rfl)
theorem buildKey (w : World) (l b p0 p1 p2 p3 : Int) : (Instr.build 119 #[(0, .int .i64 l), (1, .int .u32 b), (2, .agg #[.int .u32 p0, .int .u32 p1, .int .u32 p2, .int .u32 p3])]).run Try.prog w = .ok (.agg #[.int .i64 l, .int .u32 b, .int .u32 p0, .int .u32 p1, .int .u32 p2, .int .u32 p3]) w := by kernel_rfl
theorem buildNode (w : World) (l b p0 p1 p2 p3 c : Int) : (Instr.build 91 #[(0, .int .i64 l), (1, .int .u32 b), (2, .agg #[.int .u32 p0, .int .u32 p1, .int .u32 p2, .int .u32 p3]), (3, .int .u64 c)]).run Try.prog w = .ok (.agg #[.int .i64 l, .int .u32 b, .int .u32 p0, .int .u32 p1, .int .u32 p2, .int .u32 p3, .int .u64 c]) w := by kernel_rfl
/-- a struct made of parts: the walk's step at 'build', by a run equation -/
theorem wpList_build {P : Program} {ops : Array Oper} {rest : List Oper} {o : Oper} {a : Act} {w : World} {Q : Exit → Act → World → Prop} (hgd : o.guard = none) (t : TypeId) (parts : Array (Nat × Operand)) (ho : o.op = .build t parts) (v : Value)
    (hrun : (Instr.build t (parts.map fun (i, x) => (i, a.eval x))).run P w = .ok v w) (h : wpList P ops Q rest (a.put o.dst v) w) : wpList P ops Q (o :: rest) a w := by
  refine wpList_plain hgd fun K hK => ?_
  unfold Oper.wp execOp
  simp only [ho, Sem.run_bind, hrun, Result.andThen_ok]
  exact hK _ _ h
end Go.Proofs.Ytpmipllohiiocaa.ar
namespace Go.Proofs.Ytpmipllohiiocaa.ar
open Go.RowKit Go.Proofs.YtpmipllohiiocaaW.PrintWords Go.Proofs.YtpmipllohiiocaaW.PrintLast Go.Proofs.YtpmipllohiiocaaW.PrintMore Go.Proofs.Ytpmipllohiiocaa.bs Go.ChangeShapes

attribute [local go_sem high] eqlKey guardKey buildKey
def SlotRes (nodes : List Nd) (slots : List Nat) (k : Key) (i : Nat) : Prop :=
  ∃ d, i = (st k slots.length + d) % slots.length ∧ Probing st nodes slots k d ∧ (slots[i]? = some 0 ∨ ∃ j nd, slots[i]? = some (j + 1) ∧ nodes[j]? = some nd ∧ nd.key = k)
theorem index4 (w : World) (a b c d : Int) : ∀ j : Nat, j < 4 → (Instr.index 89 (.agg #[.int .u32 a, .int .u32 b, .int .u32 c, .int .u32 d]) (.int .i64 j)).run Try.prog w = .ok (.int .u32 ([a, b, c, d].getD j 0)) w
  | 0, _ => by kernel_rfl
  | 1, _ => by kernel_rfl
  | 2, _ => by kernel_rfl
  | 3, _ => by kernel_rfl
  | n + 4, h => by omega
theorem hash_step (k : Key) (j : Nat) (h : j < 4) : hashTo k (j + 1) = mixV (hashTo k j) ([k.k0, k.k1, k.k2, k.k3].getD j 0) := by
  have : j = 0 ∨ j = 1 ∨ j = 2 ∨ j = 3 := by omega
  rcases this with rfl | rfl | rfl | rfl <;> rfl
theorem kid_bd {k : Key} (h : KeyOk k) (j : Nat) : 0 ≤ [k.k0, k.k1, k.k2, k.k3].getD j 0 ∧ [k.k0, k.k1, k.k2, k.k3].getD j 0 < 4294967296 := by
  have h0 := h.p0; have h1 := h.p1; have h2 := h.p2; have h3 := h.p3
  match j with
  | 0 => exact h0
  | 1 => exact h1
  | 2 => exact h2
  | 3 => exact h3
  | n + 4 => exact ⟨by simp, by simp⟩

theorem ArAt.slot_cell {w : World} {F : Nat → Prop} {p : Nat} {nodes : List Nd} {slots : List Nat} {empty : List Int} {most : Int} {nv ev : Value} {bs n cs : Nat}
    (h : ArAt w F p nodes slots empty most nv (.slice (some ⟨bs, 0, none⟩) n cs) ev) {i x : Nat} (hx : slots[i]? = some x) : w.cell? ⟨bs, i, none⟩ = some (.int .u32 x) ∧ w.frozen? ⟨bs, i, none⟩ = false := by
  have hl := (Kd.R_reads' h.hs).1
  have hil : i < slots.length := (List.getElem?_eq_some_iff.1 hx).1
  have hs := h.hs
  rw [hl] at hs
  have := Kd.R_cell (enc := Value.int .u32) (h1 := fun _ => rfl) 0 hs (i : Int) (by omega) (by rw [ints_len]; omega)
  rw [Int.toNat_natCast] at this
  refine ⟨?_, this.2⟩
  rw [this.1]
  simp [rdOf, ints, List.getD_eq_getElem?_getD, hx]
theorem ArAt.node_cell {w : World} {F : Nat → Prop} {p : Nat} {nodes : List Nd} {slots : List Nat} {empty : List Int} {most : Int} {sv ev : Value} {a : Option Addr} {n cn : Nat}
    (h : ArAt w F p nodes slots empty most (.slice a n cn) sv ev) {j : Nat} {x : Nd} (hx : nodes[j]? = some x) :
    ∃ ad, a = some ad ∧ ∀ (t : Nat) (u : Value), x.cells[t]? = some u → w.cell? (ad.add (j * 7 + t)) = some u := by
  have hjl : j < nodes.length := (List.getElem?_eq_some_iff.1 hx).1
  obtain ⟨ad, c, e, _, hK, hc0⟩ := Kd.C_get (Kd.R_reads' h.hn).2.2 zNd (j : Int) (by omega) (by omega)
  refine ⟨ad, e, fun t u hu => ?_⟩
  have hxx : nodes.getD (j : Int).toNat zNd = x := by simp [List.getD_eq_getElem?_getD, hx]
  rw [hxx] at hK
  obtain rfl := kNd_open hK
  have := hc0 t u hu
  rw [Int.toNat_natCast] at this
  exact this
/-- a node's seven cells, in the walk's own spelling -/
structure NodeCells (w : World) (b : Addr) (x : Nd) : Prop where
  c0 : w.cell? b = some (.int .i64 x.key.level)
  c1 : w.cell? ⟨b.block, b.off + 1, none⟩ = some (.int .u32 x.key.bits)
  c2 : w.cell? ⟨b.block, b.off + 2, none⟩ = some (.int .u32 x.key.k0)
  c3 : w.cell? ⟨b.block, b.off + 3, none⟩ = some (.int .u32 x.key.k1)
  c4 : w.cell? ⟨b.block, b.off + 4, none⟩ = some (.int .u32 x.key.k2)
  c5 : w.cell? ⟨b.block, b.off + 5, none⟩ = some (.int .u32 x.key.k3)
  c6 : w.cell? ⟨b.block, b.off + 6, none⟩ = some (.int .u64 x.count)
theorem ArAt.node_cells {w : World} {F : Nat → Prop} {p : Nat} {nodes : List Nd} {slots : List Nat} {empty : List Int} {most : Int} {sv ev : Value} {a : Option Addr} {n cn : Nat}
    (h : ArAt w F p nodes slots empty most (.slice a n cn) sv ev) {j : Nat} {x : Nd} (hx : nodes[j]? = some x) :
    ∃ ad, a = some ad ∧ NodeCells w (ad.add (j * 7)) x := by
  obtain ⟨ad, e, hc⟩ := h.node_cell hx
  exact ⟨ad, e, hc 0 _ rfl, by rw [← add_field _ _ 1 (by omega)]; exact hc 1 _ rfl, by rw [← add_field _ _ 2 (by omega)]; exact hc 2 _ rfl, by rw [← add_field _ _ 3 (by omega)]; exact hc 3 _ rfl, by rw [← add_field _ _ 4 (by omega)]; exact hc 4 _ rfl, by rw [← add_field _ _ 5 (by omega)]; exact hc 5 _ rfl, by rw [← add_field _ _ 6 (by omega)]; exact hc 6 _ rfl⟩
set_option maxHeartbeats 4000000 in
set_option maxRecDepth 100000 in
theorem slot_walk (F : Nat → Prop) (p m : Nat) (nodes : List Nd) (slots : List Nat) (empty : List Int) (most : Int) (nv sv ev : Value) (w : World) (k : Key) (hk : KeyOk k)
    (A : ArAt w F p nodes slots empty most nv sv ev) (S : Slotted st nodes m slots) (hN : nodes.length ≤ 1073741824) :
    Calls Try.prog 75 #[.pointer (some ⟨p, 0, none⟩), .agg k.vals] w fun e w' => ∃ i : Nat, e = .returned (.int .i64 i) ∧ SlotRes nodes slots k i ∧ Below w.heap.size w w' := by
  have hle := S.le
  have hroom := S.room
  obtain ⟨l0, l1, b0, b1, ⟨p00, p01⟩, ⟨p10, p11⟩, ⟨p20, p21⟩, ⟨p30, p31⟩⟩ := hk
  unfold Key.vals
  have hidx := index4
  go_enter Try.func75, Try.ntmps75
  go_wp2_with (fail)
  refine (mix_walk _ _ _).mono ?_; rintro e w1 ⟨rfl, rfl⟩
  go_wp2_with (fail)
  have BK := Aside0.mk (blk_new w (.cells k.vals 119))
  have HB := Aside0.mk (below_alloc (Below.refl w.heap.size w) (.cells k.vals 119))
  change Code.wp _ _ _ _ (w.alloc (.cells k.vals 119))
  obtain ⟨g, hg⟩ : ∃ g, w.heap.size = g := ⟨_, rfl⟩
  simp only [hg] at BK HB ⊢
  have Hg := Aside0.mk hg
  clear hg
  have A0 := Aside0.mk A
  clear A
  generalize w.alloc (.cells k.vals 119) = W0 at *
  go_loopg [5, 19] 4 (fun kq c5 c19 w' => ∃ j : Nat, j + kq = 4 ∧ c19 = .int .i64 j ∧ c5 = .int .u64 (hashTo k j) ∧ w' = W0)
  case atStart => exact ⟨0, by omega, rfl, rfl, rfl⟩
  case round =>
    obtain ⟨j, hj, rfl, rfl, rfl⟩ := hrel
    by_cases h4 : j < 4
    · obtain ⟨gk, rfl⟩ : ∃ m, gk = m + 1 := ⟨gk - 1, by omega⟩
      have hi := fun w => index4 w k.k0 k.k1 k.k2 k.k3 j h4
      have hst := Aside0.mk (hash_step k j h4)
      have hkb := kid_bd (k := k) ⟨l0, l1, b0, b1, ⟨p00, p01⟩, ⟨p10, p11⟩, ⟨p20, p21⟩, ⟨p30, p31⟩⟩ j
      generalize [k.k0, k.k1, k.k2, k.k3].getD j 0 = kv at *
      obtain ⟨kb0, kb1⟩ := hkb
      clear hidx
      go_wp2_with (fail)
      refine (mix_walk _ _ _).mono ?_; rintro e w1 ⟨rfl, rfl⟩
      go_wp2_with (fail)
      go_roundg gk
      case measure => omega
      case rel => exact ⟨j + 1, by omega, by go_num, by rw [hst.out], rfl⟩
    · as_aux_lemma =>
      obtain rfl : j = 4 := by omega
      clear hidx
      have hH := hashTo_bd k 4
      have hpos : 0 < slots.length := by omega
      have hst := Aside0.mk (st_int k slots.length hpos)
      have hsl := st_lt k slots.length hpos
      generalize hashTo k 4 = H at *
      obtain ⟨H0, H1⟩ := hH
      have AR := Aside0.mk (ArAt.below A0.out (by rw [Hg.out]; exact HB.out))
      clear A0
      obtain ⟨bs, cs, rfl, hsb, hsz, _⟩ := Kd.R_form AR.out.hs (by rw [ints_len]; exact hpos)
      have hmax := Kd.C_max (Kd.R_reads' AR.out.hs).2.2
      rw [ints_len] at AR hmax
      have c1 := blk_cell AR.out.blk 1
      simp only [List.getElem?_toArray, List.getElem?_cons_zero, List.getElem?_cons_succ] at c1
      generalize hn : slots.length = n at *
      go_wp2_with (fail)
      rw [hst.out]
      go_loopg [8] n (fun kq c8 w' => ∃ d : Nat, d + kq = n ∧ c8 = .int .i64 (((st k n + d) % n : Nat) : Int) ∧ Aside0 (Probing st nodes slots k d) ∧ Aside0 (ArAt w' F p nodes slots empty most nv (.slice (some ⟨bs, 0, none⟩) n cs) ev) ∧ Aside0 (w'.heap[g]? = some (.cells k.vals 119 (0, 0))) ∧ Aside0 (Below g w w'))
      case atStart => exact ⟨0, by omega, congrArg (Value.int .i64) (by rw [Nat.add_zero, Nat.mod_eq_of_lt hsl]; unfold wrap64; omega), ⟨probing_zero _ _ _⟩, AR, BK, HB⟩
      case round =>
        as_aux_lemma =>
        clear AR BK HB c1 hsb hsz
        obtain ⟨d, hd, rfl, HP, AR, BK, HB⟩ := hrel
        have hdn := probing_lt S (by rw [hn]; exact hsl) HP.out
        rw [hn] at hdn
        obtain ⟨gk, rfl⟩ : ∃ m, gk = m + 1 := ⟨gk - 1, by omega⟩
        have hnext := Aside0.mk (next_place (st k n) d n)
        have hlt : (st k n + d) % n < n := Nat.mod_lt _ hpos
        have hpl : (st k slots.length + d) % slots.length = (st k n + d) % n := by rw [hn]
        have HPL := Aside0.mk hpl
        clear hpl
        generalize (st k n + d) % n = i at *
        have c1 := blk_cell AR.out.blk 1
        have c0 := blk_cell AR.out.blk 0
        simp only [List.getElem?_toArray, List.getElem?_cons_zero, List.getElem?_cons_succ] at c0 c1
        obtain ⟨x, hx⟩ : ∃ x, slots[i]? = some x := ⟨_, List.getElem?_eq_getElem (by omega)⟩
        have hxm : x ≤ m := S.val x (List.mem_of_getElem? hx)
        have HN := Aside0.mk hn
        clear hn
        obtain ⟨s0, _⟩ := AR.out.slot_cell hx
        by_cases h0 : x = 0
        · as_aux_lemma =>
          subst h0
          go_wp2_with (fail)
          go_ret
          exact ⟨i, rfl, ⟨d, HPL.out.symm, HP.out, .inl hx⟩, by rw [Hg.out]; exact HB.out⟩
        · as_aux_lemma =>
          obtain ⟨j, rfl⟩ : ∃ j, x = j + 1 := ⟨x - 1, by omega⟩
          obtain ⟨a, cn, rfl⟩ := Kd.R_slice AR.out.hn
          obtain ⟨nd, hnd⟩ : ∃ nd, nodes[j]? = some nd := ⟨_, List.getElem?_eq_getElem (by omega)⟩
          obtain ⟨ad, rfl, ⟨n0, n1, n2, n3, n4, n5, n6⟩⟩ := AR.out.node_cells hnd
          have hjn : j < nodes.length := by omega
          have hjl : j ≤ 1073741824 := by omega
          rw [Int.natCast_add, Int.cast_ofNat_Int] at s0
          have hwj : IntKind.u32.wrap (j : Int) = (j : Int) := by rw [IntKind.wrap_u32]; omega
          have e0 : wr.heap.size ≠ p := World.new_ne wr _ c0
          have e2 : wr.heap.size ≠ bs := World.new_ne wr _ s0
          have e3 := World.new_ne wr _ n0
          go_upto_region 9 with (fail)
          go_cut [9] (fun s9 wx => s9 = .pointer (some ⟨wr.heap.size, 0, none⟩) ∧ wx.heap[wr.heap.size]? = some (.cells nd.cells.toArray 91 (0, 0)) ∧ Below wr.heap.size wr wx)
          case first =>
            as_aux_lemma =>
            go_region_held3 (fun w' => w'.cell? ⟨p, 0, none⟩ = some (.slice (some ad) nodes.length cn) ∧ w'.cell? ⟨p, 1, none⟩ = some (.slice (some ⟨bs, 0, none⟩) n cs) ∧ w'.cell? ⟨bs, i, none⟩ = some (.int .u32 ((j : Int) + 1)) ∧ w'.cell? (ad.add (j * 7)) = some (.int .i64 nd.key.level) ∧ w'.cell? ⟨(ad.add (j * 7)).block, (ad.add (j * 7)).off + 1, none⟩ = some (.int .u32 nd.key.bits) ∧ w'.cell? ⟨(ad.add (j * 7)).block, (ad.add (j * 7)).off + 2, none⟩ = some (.int .u32 nd.key.k0) ∧ w'.cell? ⟨(ad.add (j * 7)).block, (ad.add (j * 7)).off + 3, none⟩ = some (.int .u32 nd.key.k1) ∧ w'.cell? ⟨(ad.add (j * 7)).block, (ad.add (j * 7)).off + 4, none⟩ = some (.int .u32 nd.key.k2) ∧ w'.cell? ⟨(ad.add (j * 7)).block, (ad.add (j * 7)).off + 5, none⟩ = some (.int .u32 nd.key.k3) ∧ w'.cell? ⟨(ad.add (j * 7)).block, (ad.add (j * 7)).off + 6, none⟩ = some (.int .u64 nd.count)) (go_keep) (fail)
            all_goals go_wp2_with (fail)
            all_goals go_meet
            all_goals refine ⟨rfl, blk_new wr _, (below_alloc (Below.refl wr.heap.size wr) _).drew⟩
          case rest =>
            as_aux_lemma =>
            obtain ⟨rfl, hk2, hb2⟩ := hcut
            obtain ⟨g2, hg2⟩ : ∃ g2, wr.heap.size = g2 := ⟨_, rfl⟩
            have AR2 := Aside0.mk (AR.out.below hb2)
            have BK2 := Aside0.mk (blk_below BK.out hb2)
            have HB2 := Aside0.mk (HB.out.trans (hb2.mono (Nat.le_trans (Nat.le_of_eq Hg.out.symm) HB.out.size)))
            simp only [hg2] at hk2 ⊢
            clear hb2 hg2 e0 e2 e3 hwj n0 n1 n2 n3 n4 n5 n6 s0 c0 c1 AR BK HB
            have a0 := blk_cell hk2 0
            have a1 := blk_cell hk2 1
            have a2 := blk_cell hk2 2
            have a3 := blk_cell hk2 3
            have a4 := blk_cell hk2 4
            have a5 := blk_cell hk2 5
            have k0 := blk_cell BK2.out 0
            have k1 := blk_cell BK2.out 1
            have k2 := blk_cell BK2.out 2
            have k3 := blk_cell BK2.out 3
            have k4 := blk_cell BK2.out 4
            have k5 := blk_cell BK2.out 5
            clear hk2
            simp only [Nd.cells, Key.vals, List.getElem?_toArray, List.getElem?_cons_zero, List.getElem?_cons_succ] at a0 a1 a2 a3 a4 a5 k0 k1 k2 k3 k4 k5
            have c1 := blk_cell AR2.out.blk 1
            simp only [List.getElem?_toArray, List.getElem?_cons_zero, List.getElem?_cons_succ] at c1
            have hkb : eqKeyB ⟨nd.key.level, nd.key.bits, nd.key.k0, nd.key.k1, nd.key.k2, nd.key.k3⟩ ⟨k.level, k.bits, k.k0, k.k1, k.k2, k.k3⟩ = decide (nd.key = k) := eqKeyB_iff nd.key k
            by_cases hkk : nd.key = k
            · as_aux_lemma =>
              rw [decide_eq_true hkk] at hkb
              have HKK := Aside0.mk hkk
              clear hkk
              go_upto_region 10 with (fail)
              go_step
              iterate 18 go_step
              ((with_reducible refine gate_dst (N := 64) rfl ?_); refine wpList_build rfl 119 _ rfl (.agg #[.int .i64 nd.key.level, .int .u32 nd.key.bits, .int .u32 nd.key.k0, .int .u32 nd.key.k1, .int .u32 nd.key.k2, .int .u32 nd.key.k3]) (by simp only [List.map_toArray, List.map_cons, List.map_nil]; exact buildKey _ _ _ _ _ _ _) ?_)
              iterate 8 go_step
              clear hkb a0 a1 a2 a3 a4 a5 k0 k1 k2 k3 k4 k5
              go_wp2_with (fail)
              go_ret
              exact ⟨i, rfl, ⟨d, HPL.out.symm, HP.out, .inr ⟨j, nd, hx, hnd, HKK.out⟩⟩, by rw [Hg.out]; exact HB2.out⟩
            · as_aux_lemma =>
              rw [decide_eq_false hkk] at hkb
              have HKK := Aside0.mk hkk
              clear hkk
              go_upto_region 10 with (fail)
              go_step
              iterate 18 go_step
              ((with_reducible refine gate_dst (N := 64) rfl ?_); refine wpList_build rfl 119 _ rfl (.agg #[.int .i64 nd.key.level, .int .u32 nd.key.bits, .int .u32 nd.key.k0, .int .u32 nd.key.k1, .int .u32 nd.key.k2, .int .u32 nd.key.k3]) (by simp only [List.map_toArray, List.map_cons, List.map_nil]; exact buildKey _ _ _ _ _ _ _) ?_)
              iterate 8 go_step
              clear hkb a0 a1 a2 a3 a4 a5 k0 k1 k2 k3 k4 k5
              go_wp2_with (fail)
              go_roundg gk
              case measure => omega
              case rel =>
                refine ⟨d + 1, by omega, congrArg (Value.int .i64) (by rw [← hnext.out]; simp), ⟨probing_step HP.out (by rw [HPL.out]; exact hx) (by omega) (fun x hx' => ?_)⟩, AR2, BK2, HB2⟩
                rw [Nat.add_sub_cancel, hnd] at hx'
                rw [← Option.some.inj hx']
                exact HKK.out
end Go.Proofs.Ytpmipllohiiocaa.ar
namespace Go.Proofs.Ytpmipllohiiocaa.ar
open Go.RowKit Go.Proofs.YtpmipllohiiocaaW.PrintWords Go.Proofs.YtpmipllohiiocaaW.PrintLast Go.Proofs.YtpmipllohiiocaaW.PrintMore Go.Proofs.Ytpmipllohiiocaa.bs Go.ChangeShapes

structure Keeps (F : Nat → Prop) (w w' : World) : Prop where
  os : w'.os = w.os
  tape : w'.tape = w.tape
  output : w'.output = w.output
  size : w.heap.size ≤ w'.heap.size
  block : ∀ k, k < w.heap.size → ¬ F k → w'.heap[k]? = w.heap[k]?
theorem Keeps.refl (F : Nat → Prop) (w : World) : Keeps F w w := ⟨rfl, rfl, rfl, Nat.le_refl _, fun _ _ _ => rfl⟩
theorem Keeps.of_below {F : Nat → Prop} {w w' : World} (h : Below w.heap.size w w') : Keeps F w w' := ⟨h.os, h.tape, h.output, h.size, fun k hk _ => h.block k hk⟩
theorem Keeps.trans {F F' : Nat → Prop} {a b c : World} (h : Keeps F a b) (h' : Keeps F' b c) (hF : ∀ k, F' k → F k ∨ a.heap.size ≤ k) : Keeps F a c :=
  ⟨h'.os.trans h.os, h'.tape.trans h.tape, h'.output.trans h.output, Nat.le_trans h.size h'.size,
    fun k hk hn => (h'.block k (Nat.lt_of_lt_of_le hk h.size) (fun hf => (hF k hf).elim hn (fun hh => by omega))).trans (h.block k hk hn)⟩
theorem Keeps.below_ {F : Nat → Prop} {a b c : World} (h : Keeps F a b) (h' : Below b.heap.size b c) : Keeps F a c := h.trans (Keeps.of_below (F := fun _ => False) h') (fun _ hk => hk.elim)
theorem Keeps.alloc {F : Nat → Prop} {a b : World} (h : Keeps F a b) (o : Obj) : Keeps F a (b.alloc o) := h.below_ (below_alloc (Below.refl _ _) o)
theorem Keeps.drewN {F : Nat → Prop} {a b : World} (h : Keeps F a b) (n : Nat) : Keeps F a (b.drewN n) := h.below_ (pw_below_drewN (Below.refl _ _) n)
theorem Keeps.drew {F : Nat → Prop} {a b : World} (h : Keeps F a b) : Keeps F a b.drew := h.below_ ((Below.refl _ _).drew)
theorem Keeps.grown {F : Nat → Prop} {a b c : World} {row : Option Nat} (h : Keeps F a b) (hg : b.grownBy c row) (hr : ∀ k, row = some k → F k ∨ a.heap.size ≤ k) : Keeps F a c :=
  h.trans (F' := fun k => row = some k) ⟨hg.os, hg.tape, hg.output, hg.size, fun k hk hn => hg.block k hk (fun e => hn e.symm)⟩ hr
theorem Keeps.setCell {F : Nat → Prop} {a b : World} (h : Keeps F a b) {p : Addr} (hp : F p.block ∨ a.heap.size ≤ p.block) (u : Value) : Keeps F a (b.setCell p u) :=
  h.trans (F' := fun k => k = p.block) ⟨rfl, rfl, rfl, by simp [World.setCell], fun k _ hn => Below.heap_setCell b p u k hn⟩ (fun k hk => by rw [hk]; exact hp)
theorem Keeps.below {F : Nat → Prop} {w w' : World} (h : Keeps F w w') {B : Nat} (hF : ∀ k, F k → B ≤ k) (hB : B ≤ w.heap.size) : Below B w w' :=
  ⟨h.os, h.tape, h.output, h.size, fun k hk => h.block k (by omega) (fun hf => by have := hF k hf; omega)⟩
theorem Keeps.blk {F : Nat → Prop} {w w' : World} (h : Keeps F w w') {g : Nat} {o : Obj} (hb : w.heap[g]? = some o) (hn : ¬ F g) : w'.heap[g]? = some o := (h.block g (blk_lt hb) hn).trans hb
theorem Keeps.mono {F F' : Nat → Prop} {w w' : World} (h : Keeps F w w') (hF : ∀ k, F k → F' k) : Keeps F' w w' := ⟨h.os, h.tape, h.output, h.size, fun k hk hn => h.block k hk (fun hf => hn (hF k hf))⟩
theorem Keeps.kept {F : Nat → Prop} {w w' : World} (h : Keeps F w w') : Kept w w' F := ⟨h.size, h.block⟩

/-- the blocks of an arena behind a call -/
def More (F : Nat → Prop) (w : World) : Nat → Prop := fun k => F k ∨ w.heap.size ≤ k
theorem ArAt.mono {w : World} {F F' : Nat → Prop} {p : Nat} {nodes : List Nd} {slots : List Nat} {empty : List Int} {most : Int} {nv sv ev : Value}
    (h : ArAt w F p nodes slots empty most nv sv ev) (hF : ∀ k, F k → F' k) : ArAt w F' p nodes slots empty most nv sv ev :=
  ⟨h.blk, Kd.R_mono h.hn hF, Kd.R_mono h.hs hF, Kd.R_mono h.he hF, hF _ h.hF, h.apart⟩
theorem ArAt.lt {w : World} {F : Nat → Prop} {p : Nat} {nodes : List Nd} {slots : List Nat} {empty : List Int} {most : Int} {nv sv ev : Value}
    (h : ArAt w F p nodes slots empty most nv sv ev) : p < w.heap.size := blk_lt h.blk
/-- a slot written -/
theorem ArAt.put_slot {w : World} {F : Nat → Prop} {p : Nat} {nodes : List Nd} {slots : List Nat} {empty : List Int} {most : Int} {nv ev : Value} {bs n cs : Nat}
    (h : ArAt w F p nodes slots empty most nv (.slice (some ⟨bs, 0, none⟩) n cs) ev) (i x : Nat) :
    ArAt (w.setCell ⟨bs, i, none⟩ (.int .u32 x)) F p nodes (slots.set i x) empty most nv (.slice (some ⟨bs, 0, none⟩) n cs) ev := by
  have hbs : some bs = (Value.slice (some ⟨bs, 0, none⟩) n cs).ownBlock := rfl
  obtain ⟨cells, hbk⟩ := Kd.R_typed h.hs bs rfl
  have hl := (Kd.R_reads' h.hs).1
  have hs := h.hs
  rw [hl] at hs
  have hp : p ≠ bs := by
    intro e
    have := h.blk
    rw [e, hbk] at this
    injection this with this
    injection this with _ ht _
    exact absurd ht (by decide)
  refine ⟨blk_far h.blk hp _, ?_, ?_, ?_, h.hF, h.apart⟩
  · exact Kd.R_mono (Kd.R_set h.hn hbk (by intro q hq; simp only [List.mem_cons] at hq; rcases hq with rfl | hq; · decide
                                           · exact absurd hq (by simp [kNd, Kd.iso, Kd.pair, Kd.int, Kd.scalar])) i _) (fun _ hk => hk)
  · have := (Kd.R_put (enc := Value.int .u32) (h1 := fun _ => rfl) hs (i : Int) (x : Int)).1
    rw [Int.toNat_natCast, ints_set] at this
    rw [hl]
    have hll : (ints (slots.set i x)).length = (ints slots).length := by rw [ints_len, ints_len, List.length_set]
    exact this
  · have he2 : Kd.R (Kd.int .u32) 33 w 0 (fun k => F k ∧ k ≠ bs) ev empty := Kd.R_flat (fun h => h) h.he (fun k hk hf => ⟨hf, fun e => h.apart bs rfl (by rw [← e]; exact hk)⟩)
    exact Kd.R_mono (Kd.R_far he2 (fun k hk => hk.2) _) (fun _ hk => hk.1)
theorem types_ne (q : TypeId) (hq : q ∈ 91 :: kNd.E) : q ≠ 95 := by
  simp only [List.mem_cons] at hq
  rcases hq with rfl | hq
  · decide
  · exact absurd hq (by simp [kNd, Kd.iso, Kd.pair, Kd.int, Kd.scalar])
theorem types_ne2 (q : TypeId) (hq : q ∈ 33 :: (Kd.int .u32).E) : q ≠ 95 := by
  simp only [List.mem_cons] at hq
  rcases hq with rfl | hq
  · decide
  · exact absurd hq (by simp [Kd.int, Kd.scalar])
/-- new slots -/
theorem ArAt.new_slots {w w1 : World} {F : Nat → Prop} {p : Nat} {nodes : List Nd} {slots slots' : List Nat} {empty : List Int} {most : Int} {nv sv sv' ev : Value}
    (h : ArAt w F p nodes slots empty most nv sv ev) (hg : w.grownBy w1 none) (ho : Kd.R (Kd.int .u32) 33 w1 0 (fun k => k = w.heap.size) sv' (ints slots')) :
    ArAt (w1.setCell ⟨p, 1, none⟩ sv') (More F w) p nodes slots' empty most nv sv' ev := by
  have hb := blk_grown h.blk hg (by simp)
  refine ⟨blk_put hb 1 _ rfl, ?_, ?_, ?_, .inl h.hF, ?_⟩
  · exact Kd.R_mono (Kd.R_set (Kd.R_grown h.hn hg (fun _ _ => by simp)) hb types_ne 1 _) (fun _ hk => .inl hk)
  · exact Kd.R_mono (Kd.R_set ho hb types_ne2 1 _) (fun k hk => .inr (by have : k = w.heap.size := hk; omega))
  · exact Kd.R_mono (Kd.R_set (Kd.R_grown h.he hg (fun _ _ => by simp)) hb types_ne2 1 _) (fun _ hk => .inl hk)
  · intro k hk hk2
    have h1 : k = w.heap.size := ho.1 k hk
    have h2 := Kd.R_lt h.he k hk2
    omega
/-- new nodes -/
theorem ArAt.new_nodes {w w1 : World} {F F' : Nat → Prop} {p : Nat} {nodes nodes' : List Nd} {slots : List Nat} {empty : List Int} {most : Int} {nv nv' sv ev : Value}
    (h : ArAt w F p nodes slots empty most nv sv ev) (hg : w.grownBy w1 nv.ownBlock) (hF : ∀ k, F k → F' k) (ho : Kd.R kNd 91 w1 0 F' nv' nodes') :
    ArAt (w1.setCell ⟨p, 0, none⟩ nv') F' p nodes' slots empty most nv' sv ev := by
  have hpn : some p ≠ nv.ownBlock := Kd.R_ne h.hn h.blk (by decide)
  have hb := blk_grown h.blk hg hpn
  have hu : ∀ q, q ∈ 33 :: (Kd.int .u32).E → q ≠ 91 := by
    intro q hq
    simp only [List.mem_cons] at hq
    rcases hq with rfl | hq
    · decide
    · exact absurd hq (by simp [Kd.int, Kd.scalar])
  exact ⟨blk_put hb 0 _ rfl, Kd.R_mono (Kd.R_set ho hb types_ne 0 _) (fun _ hk => hk), Kd.R_mono (Kd.R_set (Kd.R_over h.hs h.hn hu hg) hb types_ne2 0 _) hF, Kd.R_mono (Kd.R_set (Kd.R_over h.he h.hn hu hg) hb types_ne2 0 _) hF, hF _ h.hF, h.apart⟩
theorem slotted_more {nodes : List Nd} {slots : List Nat} {nd : Nd} {i : Nat} (S : Slotted st nodes nodes.length slots) (h : SlotRes nodes slots nd.key i) (h0 : slots[i]? = some 0) (hn : ∀ (j : Nat) (x : Nd), nodes[j]? = some x → x.key ≠ nd.key) (hroom : nodes.length + 1 < slots.length) :
    Slotted st (nodes ++ [nd]) (nodes ++ [nd]).length (slots.set i (nodes.length + 1)) := by
  have S2 := slotted_append S hn
  obtain ⟨d, rfl, hP, _⟩ := h
  have hP2 : Probing st (nodes ++ [nd]) slots nd.key d := by
    intro d' hd
    obtain ⟨x, hx, hx0, hk⟩ := hP d' hd
    refine ⟨x, hx, hx0, fun y hy => hk y ?_⟩
    have hv := S.val x (List.mem_of_getElem? hx)
    rwa [List.getElem?_append_left (by omega)] at hy
  have := slotted_insert S2 (nd := nd) (by simp) hP2 (by omega) h0 hroom
  simpa using this
end Go.Proofs.Ytpmipllohiiocaa.ar
namespace Go.Proofs.Ytpmipllohiiocaa.ar
open Go.RowKit Go.Proofs.YtpmipllohiiocaaW.PrintWords Go.Proofs.YtpmipllohiiocaaW.PrintLast Go.Proofs.YtpmipllohiiocaaW.PrintMore Go.Proofs.Ytpmipllohiiocaa.bs Go.ChangeShapes

attribute [local go_sem high] buildKey
theorem cell_far {w : World} {b i g o : Nat} {u : Value} {v : Option Value} (hne : g ≠ b) (h : w.cell? ⟨g, o, none⟩ = v) : (w.setCell ⟨b, i, none⟩ u).cell? ⟨g, o, none⟩ = v := by
  rw [← h]
  exact World.cell?_of_block (Below.heap_setCell w ⟨b, i, none⟩ u g hne)
def GrowPost (F : Nat → Prop) (w : World) (p : Nat) (nodes : List Nd) (empty : List Int) (most : Int) (nv sv ev : Value) (len i : Nat) (wx : World) : Prop :=
  ∃ sl, sl.length = len ∧ ArAt wx (More F w) p nodes sl empty most nv sv ev ∧ Slotted st nodes (i + 1) sl ∧ Keeps F w wx
theorem slotres_lt {nodes : List Nd} {slots : List Nat} {k : Key} {i : Nat} (h : SlotRes nodes slots k i) (hp : 0 < slots.length) : i < slots.length := by
  obtain ⟨d, rfl, _⟩ := h
  exact Nat.mod_lt _ hp
theorem slotres_free {nodes : List Nd} {slots : List Nat} {nd : Nd} {m i : Nat} (S : Slotted st nodes m slots) (hnd : nodes[m]? = some nd) (h : SlotRes nodes slots nd.key i) (hroom : m + 1 < slots.length) :
    Slotted st nodes (m + 1) (slots.set i (m + 1)) := by
  obtain ⟨d, rfl, hP, h0⟩ := h
  rcases h0 with h0 | ⟨j, x, hj, hx, hk⟩
  · exact slotted_insert S hnd hP (by omega) h0 hroom
  · have := S.once j m x nd hx hnd hk
    have h2 := S.val _ (List.mem_of_getElem? hj)
    omega
set_option maxHeartbeats 4000000 in
set_option maxRecDepth 100000 in
theorem grow_walk (F : Nat → Prop) (p : Nat) (nodes : List Nd) (slots : List Nat) (empty : List Int) (most : Int) (nv sv ev : Value) (w : World)
    (A : ArAt w F p nodes slots empty most nv sv ev) (once : ∀ (i j : Nat) (x y : Nd), nodes[i]? = some x → nodes[j]? = some y → x.key = y.key → i = j) (hok : ∀ (i : Nat) (x : Nd), nodes[i]? = some x → KeyOk x.key)
    (hN : nodes.length ≤ 1073741824) (hroom : nodes.length < 2 * slots.length) (hmax : slots.length ≤ 8589934592) :
    Calls Try.prog 77 #[.pointer (some ⟨p, 0, none⟩)] w fun e w' => e = .returned (.tuple #[]) ∧ ∃ slots' sv', ArAt w' (More F w) p nodes slots' empty most nv sv' ev ∧ Slotted st nodes nodes.length slots' ∧ slots'.length = 2 * slots.length ∧ Keeps F w w' := by
  obtain ⟨sa, cs, rfl⟩ := Kd.R_slice A.hs
  rw [ints_len] at A
  have c1 := blk_cell A.blk 1
  have f1 := blk_frozen A.blk 1
  simp only [List.getElem?_toArray, List.getElem?_cons_zero, List.getElem?_cons_succ] at c1
  have A0 := Aside0.mk A
  clear A
  go_enter Try.func77, Try.ntmps77
  go_upto_region 1 with (first | ((with_reducible refine gate_dst (N := 11) rfl ?_); refine Kd.R_make (Kd.int .u32) (w0 := w) 0 33 rfl rfl 93 (.tmp 10) (.tmp 10) rfl (2 * (slots.length : Int)) rfl rfl Try.underlying93 (.int .u32 0) 4 infoU rfl (by decide) (by decide) 0 (ok := fun k => k = w.heap.size) (okp := fun _ => False) rfl (fun _ hk => hk.elim) rfl (by omega) (by omega) (Below.refl _ _) (Nat.zero_le _) ?_; intro v1 w1 ho1 hb1 hg1 hat1; rw [show (2 * (slots.length : Int)).toNat = 2 * slots.length by omega, show List.replicate (2 * slots.length) (0 : Int) = ints (List.replicate (2 * slots.length) 0) by simp [ints]] at ho1; obtain ⟨bs, cb, rfl, _, hbz, _⟩ := Kd.R_form ho1 (by rw [ints_len, List.length_replicate]; omega); simp only [ints_len, List.length_replicate] at ho1 ⊢; have c1' := blk_cell (blk_grown A0.out.blk hg1 (by simp)) 1; have f1' := blk_frozen (blk_grown A0.out.blk hg1 (by simp)) 1; simp only [List.getElem?_toArray, List.getElem?_cons_zero, List.getElem?_cons_succ] at c1'; have HO := Aside0.mk ho1; have HG := Aside0.mk hg1; clear ho1 hb1 hg1 hat1))
  have AR := Aside0.mk (A0.out.new_slots HG.out HO.out)
  have HK := Aside0.mk ((Keeps.refl F w).grown HG.out (fun _ hk => by cases hk) |>.setCell (p := ⟨p, 1, none⟩) (.inl A0.out.hF) (Value.slice (some ⟨bs, 0, none⟩) (2 * slots.length) cb))
  have HS := Aside0.mk (slotted_zeros (st := st) (n := 2 * slots.length) (by omega) once)
  have HL : (List.replicate (2 * slots.length) (0 : Nat)).length = 2 * slots.length := List.length_replicate
  clear A0 HG HO c1 f1 c1' f1' hbz
  generalize w1.setCell ⟨p, 1, none⟩ (Value.slice (some ⟨bs, 0, none⟩) (2 * slots.length) cb) = W2 at *
  generalize List.replicate (2 * slots.length) (0 : Nat) = sl0 at *
  obtain ⟨na, cn, rfl⟩ := Kd.R_slice AR.out.hn
  have c0 := blk_cell AR.out.blk 0
  simp only [List.getElem?_toArray, List.getElem?_cons_zero] at c0
  go_wp2_with (fail)
  have hcap : 2 * slots.length ≤ 17179869184 := by omega
  generalize hcc : 2 * slots.length = cap2 at *
  have HCC := Aside0.mk hcc
  clear hcc
  go_loopg [19] nodes.length (fun kq c19 w' => ∃ (i : Nat) (sl : List Nat), i + kq = nodes.length ∧ c19 = .int .i64 i ∧ sl.length = cap2 ∧ Aside0 (ArAt w' (More F w) p nodes sl empty most (.slice na nodes.length cn) (.slice (some ⟨bs, 0, none⟩) (cap2) cb) ev) ∧ Aside0 (Slotted st nodes i sl) ∧ Aside0 (Keeps F w w'))
  case atStart => exact ⟨0, sl0, by omega, rfl, HL, AR, HS, HK⟩
  case round =>
    clear AR HS HK HL c0
    obtain ⟨i, sl, hi, rfl, hsl, AR, HS, HK⟩ := hrel
    have c0 := blk_cell AR.out.blk 0
    have c1 := blk_cell AR.out.blk 1
    simp only [List.getElem?_toArray, List.getElem?_cons_zero, List.getElem?_cons_succ] at c0 c1
    by_cases hin : i < nodes.length
    · obtain ⟨gk, rfl⟩ : ∃ m, gk = m + 1 := ⟨gk - 1, by omega⟩
      obtain ⟨nd, hnd⟩ : ∃ nd, nodes[i]? = some nd := ⟨_, List.getElem?_eq_getElem hin⟩
      obtain ⟨ad, rfl, ⟨n0, n1, n2, n3, n4, n5, n6⟩⟩ := AR.out.node_cells hnd
      go_upto_region 4 with (fail)
      have hkey := hok i nd hnd
      have hslot := fun (W : World) (A' : ArAt W (More F w) p nodes sl empty most (.slice (some ad) nodes.length cn) (.slice (some ⟨bs, 0, none⟩) (cap2) cb) ev) => slot_walk (More F w) p i nodes sl empty most _ _ ev W nd.key hkey A' HS.out hN
      unfold Key.vals at hslot
      have hslot2 := Aside0.mk hslot
      clear hslot
      have AR3 := Aside0.mk (AR.out.below (below_alloc (Below.refl _ _) (.cells nd.cells.toArray 91)))
      have K3 := blk_new wr (.cells nd.cells.toArray 91)
      have HK3 := Aside0.mk (HK.out.alloc (.cells nd.cells.toArray 91))
      obtain ⟨g3, hg3⟩ : ∃ g3, wr.heap.size = g3 := ⟨_, rfl⟩
      change Code.wp _ _ _ _ (wr.alloc (.cells nd.cells.toArray 91))
      simp only [hg3] at K3 ⊢
      have hp3 : p < (wr.alloc (.cells nd.cells.toArray 91)).heap.size := AR3.out.lt
      have hg4 : g3 < (wr.alloc (.cells nd.cells.toArray 91)).heap.size := blk_lt K3
      clear hg3 n0 n1 n2 n3 n4 n5 n6 c0 c1
      generalize wr.alloc (.cells nd.cells.toArray 91) = W3 at *
      obtain ⟨bcells, hbk⟩ := Kd.R_typed AR3.out.hs bs rfl
      have hpb : p ≠ bs := by
        intro e
        have h1 := AR3.out.blk
        rw [e, hbk] at h1
        injection h1 with h1
        injection h1 with _ ht _
        exact absurd ht (by decide)
      have hgb : g3 ≠ bs := by
        intro e
        have h1 := K3
        rw [e, hbk] at h1
        injection h1 with h1
        injection h1 with _ ht _
        exact absurd ht (by decide)
      have hbp : bs ≠ p := fun e => hpb e.symm
      have hbg : bs ≠ g3 := fun e => hgb e.symm
      clear hbk
      have c1 := blk_cell AR3.out.blk 1
      have a0 := blk_cell K3 0
      have a1 := blk_cell K3 1
      have a2 := blk_cell K3 2
      have a3 := blk_cell K3 3
      have a4 := blk_cell K3 4
      have a5 := blk_cell K3 5
      simp only [Nd.cells, List.getElem?_toArray, List.getElem?_cons_zero, List.getElem?_cons_succ] at a0 a1 a2 a3 a4 a5 c1
      clear K3
      have hwi : IntKind.u32.wrap (i : Int) = (i : Int) := by rw [IntKind.wrap_u32]; omega
      have hwi2 : IntKind.u32.wrap ((i : Int) + 1) = (i : Int) + 1 := by rw [IntKind.wrap_u32]; omega
      go_region_held3 (fun w' => w'.cell? ⟨p, 1, none⟩ = some (.slice (some ⟨bs, 0, none⟩) (cap2) cb) ∧ w'.cell? ⟨g3, 0, none⟩ = some (.int .i64 nd.key.level) ∧ w'.cell? ⟨g3, 1, none⟩ = some (.int .u32 nd.key.bits) ∧ w'.cell? ⟨g3, 2, none⟩ = some (.int .u32 nd.key.k0) ∧ w'.cell? ⟨g3, 3, none⟩ = some (.int .u32 nd.key.k1) ∧ w'.cell? ⟨g3, 4, none⟩ = some (.int .u32 nd.key.k2) ∧ w'.cell? ⟨g3, 5, none⟩ = some (.int .u32 nd.key.k3)) (refine ⟨?_, ?_, ?_, ?_, ?_, ?_, ?_⟩ <;> (first | exact c1 | exact a0 | exact a1 | exact a2 | exact a3 | exact a4 | exact a5 | assumption | exact cell_far hpb (by assumption) | exact cell_far hgb (by assumption))) (first | (go_at_call 75; refine (hslot2.out _ (AR3.out.below (by first | exact Below.refl _ _ | exact (Below.refl _ _).drew | exact pw_below_drewN (Below.refl _ _) _))).mono ?_; rintro e w4 ⟨ix, rfl, hres, hb⟩; have c1' := (hb.cell (p := ⟨p, 1, none⟩) hp3).trans c1; have a0' := (hb.cell (p := ⟨g3, 0, none⟩) hg4).trans a0; have a1' := (hb.cell (p := ⟨g3, 1, none⟩) hg4).trans a1; have a2' := (hb.cell (p := ⟨g3, 2, none⟩) hg4).trans a2; have a3' := (hb.cell (p := ⟨g3, 3, none⟩) hg4).trans a3; have a4' := (hb.cell (p := ⟨g3, 4, none⟩) hg4).trans a4; have a5' := (hb.cell (p := ⟨g3, 5, none⟩) hg4).trans a5; have hlt := slotres_lt hres (by omega); rw [hsl] at hlt; have hixm : (ix : Int) ≤ 17179869184 := (by omega); have hltI : (ix : Int) < (cap2 : Int) := (by omega); have s9 := (AR3.out.below (Below.trans ((Below.refl _ _).drew) hb)).slot_cell (List.getElem?_eq_getElem (l := sl) (i := ix) (by omega)); obtain ⟨s9, s10⟩ := s9; have HRES := Aside0.mk hres; have HBB := Aside0.mk hb; clear hres hb))
      have hB34 : Below W3.heap.size W3 w4 := Below.trans ((Below.refl _ _).drew) HBB.out
      have hbF : F bs ∨ w.heap.size ≤ bs := AR3.out.hs.1 bs rfl
      have AR4 := Aside0.mk ((AR3.out.below hB34).put_slot ix (i + 1))
      have HK4 := Aside0.mk ((HK3.out.below_ hB34).setCell (p := ⟨bs, ix, none⟩) hbF (.int .u32 (((i + 1 : Nat) : Int))))
      have HS4 := Aside0.mk (slotres_free HS.out hnd HRES.out (by omega))
      rw [show ((i + 1 : Nat) : Int) = (i : Int) + 1 from by omega] at AR4 HK4
      clear a0 a1 a2 a3 a4 a5 a0' a1' a2' a3' a4' a5' c1 c1' s9 s10 hwi hwi2 hp3 hg4 hB34 hbF HBB HRES AR3 HK3 AR HS HK hslot2
      generalize w4.setCell ⟨bs, ix, none⟩ (.int .u32 ((i : Int) + 1)) = W5 at *
      go_wp2_with (fail)
      go_roundg gk
      case measure => omega
      case rel => exact ⟨i + 1, sl.set ix (i + 1), by omega, by go_num, by rw [List.length_set]; exact hsl, AR4, HS4, HK4⟩
    · as_aux_lemma =>
      obtain rfl : i = nodes.length := by omega
      go_wp2_with (fail)
      go_end0
      exact ⟨rfl, sl, _, AR.out, HS.out, by rw [HCC.out]; exact hsl, HK.out⟩
end Go.Proofs.Ytpmipllohiiocaa.ar
namespace Go.Proofs.Ytpmipllohiiocaa.ar
open Go.RowKit Go.Proofs.YtpmipllohiiocaaW.PrintWords Go.Proofs.YtpmipllohiiocaaW.PrintLast Go.Proofs.YtpmipllohiiocaaW.PrintMore Go.Proofs.Ytpmipllohiiocaa.bs Go.ChangeShapes

section
variable (F : Nat → Prop) (p : Nat) (nodes : List Nd) (slots : List Nat) (empty : List Int) (most : Int) (nv sv ev : Value) (w : World) (A : ArAt w F p nodes slots empty most nv sv ev)
include A
theorem has_yes (i : Nat) (h : i < nodes.length) : Calls Try.prog 43 #[.pointer (some ⟨p, 0, none⟩), .int .u32 i] w fun e w' => e = .returned (.bool true) ∧ w = w' := by
  obtain ⟨a, c, rfl⟩ := Kd.R_slice A.hn
  have c0 := blk_cell A.blk 0
  simp only [List.getElem?_toArray, List.getElem?_cons_zero] at c0
  have hm := Kd.C_max (Kd.R_reads' A.hn).2.2
  have hb : decide ((i : Int) < (nodes.length : Int)) = true := by simp; omega
  clear A
  go_enter Try.func43, Try.ntmps43
  go_wp2
  go_ret
  exact ⟨ret_bool (by first | (simp; done) | (simp; omega)), rfl⟩
theorem has_no (i : Int) (h0 : 0 ≤ i) (h1 : i < 4294967296) (h : nodes.length ≤ i) : Calls Try.prog 43 #[.pointer (some ⟨p, 0, none⟩), .int .u32 i] w fun e w' => e = .returned (.bool false) ∧ w = w' := by
  obtain ⟨a, c, rfl⟩ := Kd.R_slice A.hn
  have c0 := blk_cell A.blk 0
  simp only [List.getElem?_toArray, List.getElem?_cons_zero] at c0
  have hb : decide (i < (nodes.length : Int)) = false := by simp; omega
  clear A
  go_enter Try.func43, Try.ntmps43
  go_wp2
  go_ret
  exact ⟨ret_bool (by first | (simp; done) | (simp; omega)), rfl⟩
theorem level_yes (i : Nat) (x : Nd) (hx : nodes[i]? = some x) : Calls Try.prog 22 #[.pointer (some ⟨p, 0, none⟩), .int .u32 i] w fun e w' => e = .returned (.int .i64 x.key.level) ∧ w = w' := by
  have hi := (List.getElem?_eq_some_iff.1 hx).1
  have hh := has_yes F p nodes slots empty most nv sv ev w A i hi
  obtain ⟨a, c, rfl⟩ := Kd.R_slice A.hn
  have c0 := blk_cell A.blk 0
  simp only [List.getElem?_toArray, List.getElem?_cons_zero] at c0
  obtain ⟨ad, rfl, ⟨n0, n1, n2, n3, n4, n5, n6⟩⟩ := A.node_cells hx
  clear A
  go_enter Try.func22, Try.ntmps22
  go_wp2_with (fail)
  refine hh.mono ?_; rintro e w1 ⟨rfl, rfl⟩
  go_wp2_with (fail)
  go_ret
  exact ⟨rfl, rfl⟩
theorem level_no (i : Int) (h0 : 0 ≤ i) (h1 : i < 4294967296) (h : nodes.length ≤ i) : Calls Try.prog 22 #[.pointer (some ⟨p, 0, none⟩), .int .u32 i] w fun e w' => e = .returned (.int .i64 (-1)) ∧ w = w' := by
  have hh := has_no F p nodes slots empty most nv sv ev w A i h0 h1 h
  clear A
  go_enter Try.func22, Try.ntmps22
  go_wp2_with (fail)
  refine hh.mono ?_; rintro e w1 ⟨rfl, rfl⟩
  go_wp2_with (fail)
  go_ret
  exact ⟨rfl, rfl⟩
theorem bits_yes (i : Nat) (x : Nd) (hx : nodes[i]? = some x) : Calls Try.prog 48 #[.pointer (some ⟨p, 0, none⟩), .int .u32 i] w fun e w' => e = .returned (.int .u32 x.key.bits) ∧ w = w' := by
  have hi := (List.getElem?_eq_some_iff.1 hx).1
  have hh := has_yes F p nodes slots empty most nv sv ev w A i hi
  obtain ⟨a, c, rfl⟩ := Kd.R_slice A.hn
  have c0 := blk_cell A.blk 0
  simp only [List.getElem?_toArray, List.getElem?_cons_zero] at c0
  obtain ⟨ad, rfl, ⟨n0, n1, n2, n3, n4, n5, n6⟩⟩ := A.node_cells hx
  clear A
  go_enter Try.func48, Try.ntmps48
  go_wp2_with (fail)
  refine hh.mono ?_; rintro e w1 ⟨rfl, rfl⟩
  go_wp2_with (fail)
  go_ret
  exact ⟨rfl, rfl⟩
theorem bits_no (i : Int) (h0 : 0 ≤ i) (h1 : i < 4294967296) (h : nodes.length ≤ i) : Calls Try.prog 48 #[.pointer (some ⟨p, 0, none⟩), .int .u32 i] w fun e w' => e = .returned (.int .u32 0) ∧ w = w' := by
  have hh := has_no F p nodes slots empty most nv sv ev w A i h0 h1 h
  clear A
  go_enter Try.func48, Try.ntmps48
  go_wp2_with (fail)
  refine hh.mono ?_; rintro e w1 ⟨rfl, rfl⟩
  go_wp2_with (fail)
  go_ret
  exact ⟨rfl, rfl⟩
theorem count_yes (i : Nat) (x : Nd) (hx : nodes[i]? = some x) : Calls Try.prog 24 #[.pointer (some ⟨p, 0, none⟩), .int .u32 i] w fun e w' => e = .returned (.int .u64 x.count) ∧ w = w' := by
  have hi := (List.getElem?_eq_some_iff.1 hx).1
  have hh := has_yes F p nodes slots empty most nv sv ev w A i hi
  obtain ⟨a, c, rfl⟩ := Kd.R_slice A.hn
  have c0 := blk_cell A.blk 0
  simp only [List.getElem?_toArray, List.getElem?_cons_zero] at c0
  obtain ⟨ad, rfl, ⟨n0, n1, n2, n3, n4, n5, n6⟩⟩ := A.node_cells hx
  clear A
  go_enter Try.func24, Try.ntmps24
  go_wp2_with (fail)
  refine hh.mono ?_; rintro e w1 ⟨rfl, rfl⟩
  go_wp2_with (fail)
  go_ret
  exact ⟨rfl, rfl⟩
theorem count_no (i : Int) (h0 : 0 ≤ i) (h1 : i < 4294967296) (h : nodes.length ≤ i) : Calls Try.prog 24 #[.pointer (some ⟨p, 0, none⟩), .int .u32 i] w fun e w' => e = .returned (.int .u64 0) ∧ w = w' := by
  have hh := has_no F p nodes slots empty most nv sv ev w A i h0 h1 h
  clear A
  go_enter Try.func24, Try.ntmps24
  go_wp2_with (fail)
  refine hh.mono ?_; rintro e w1 ⟨rfl, rfl⟩
  go_wp2_with (fail)
  go_ret
  exact ⟨rfl, rfl⟩
end
end Go.Proofs.Ytpmipllohiiocaa.ar
namespace Go.Proofs.Ytpmipllohiiocaa.ar
open Go.RowKit Go.Proofs.YtpmipllohiiocaaW.PrintWords Go.Proofs.YtpmipllohiiocaaW.PrintLast Go.Proofs.YtpmipllohiiocaaW.PrintMore Go.Proofs.Ytpmipllohiiocaa.bs Go.ChangeShapes

structure NdOk (x : Nd) : Prop where
  key : KeyOk x.key
  lv : 2 ≤ x.key.level
  c0 : 0 ≤ x.count
  c1 : x.count ≤ 4611686018427387904
/-- an arena that is sound: its slots find each of its nodes -/
structure Ar (w : World) (F : Nat → Prop) (p : Nat) (nodes : List Nd) (empty : List Int) (most : Int) : Prop where
  ex : ∃ slots nv sv ev, ArAt w F p nodes slots empty most nv sv ev ∧ Slotted st nodes nodes.length slots ∧ 2 * nodes.length ≤ slots.length ∧ slots.length ≤ 128 + 4 * nodes.length ∧ 128 ≤ slots.length
  ok : ∀ (i : Nat) (x : Nd), nodes[i]? = some x → NdOk x
  size : nodes.length ≤ 536870912
def errOf (c : Int) : Value := if c = 0 then .nilIface else .iface 68 (.int .i64 c)
def FindPost (F : Nat → Prop) (w : World) (p : Nat) (empty : List Int) (most : Int) (r : List Nd × Int × Int) (e : Ending) (w' : World) : Prop :=
  e = .returned (.tuple #[.int .u32 r.2.1, errOf r.2.2]) ∧ Ar w' (More F w) p r.1 empty most ∧ Keeps F w w'

theorem cell_new {w : World} {g o : Nat} {x : Obj} {v : Option Value} (hlt : g < w.heap.size) (h : w.cell? ⟨g, o, none⟩ = v) : (w.alloc x).cell? ⟨g, o, none⟩ = v := by
  rw [← h]
  exact World.cell?_of_block (Below.heap_alloc w x g hlt)
attribute [local go_sem high] buildKey buildNode
def hiddenLoad (t : TypeId) (x : Operand) : Op := .load t x
attribute [local go_sem] hiddenLoad
attribute [local go_sem] max_two min_two
set_option maxHeartbeats 4000000 in
set_option maxRecDepth 100000 in
theorem find_walk (F : Nat → Prop) (p : Nat) (nodes : List Nd) (empty : List Int) (most : Int) (w : World) (k : Key) (c : Int) (hk : KeyOk k) (hlv : 2 ≤ k.level) (hc0 : 0 ≤ c) (hc1 : c < 18446744073709551616)
    (hN : nodes.length < 536870912) (A : Ar w F p nodes empty most) :
    Calls Try.prog 63 #[.pointer (some ⟨p, 0, none⟩), .agg k.vals, .int .u64 c] w fun e w' => FindPost F w p empty most (addN nodes most k c) e w' := by
  obtain ⟨⟨slots, nv, sv, ev, AR, S, hs1, hs2, hs128⟩, hok, hsz⟩ := A
  have hkey := hk
  obtain ⟨l0, l1, b0, b1, ⟨p00, p01⟩, ⟨p10, p11⟩, ⟨p20, p21⟩, ⟨p30, p31⟩⟩ := hk
  have hpos : 0 < slots.length := by have := S.room; omega
  obtain ⟨bs, cs, rfl, _, _, _⟩ := Kd.R_form AR.hs (by rw [ints_len]; exact hpos)
  rw [ints_len] at AR
  unfold Key.vals
  have A0 := Aside0.mk AR
  clear AR
  go_enter Try.func63, Try.ntmps63
  go_wp2_with (fail)
  have hslot := slot_walk F p nodes.length nodes slots empty most _ _ ev (w.alloc (.cells k.vals 119)) k hkey (A0.out.below (below_alloc (Below.refl _ _) _)) S (by omega)
  unfold Key.vals at hslot
  refine hslot.mono ?_; rintro e w2 ⟨ix, rfl, hres, hb⟩
  clear hslot
  change Below (w.alloc (.cells k.vals 119)).heap.size (w.alloc (.cells k.vals 119)) w2 at hb
  have A2 := Aside0.mk ((A0.out.below (below_alloc (Below.refl _ _) (.cells k.vals 119))).below hb)
  have BK := Aside0.mk (blk_below (blk_new w (.cells k.vals 119)) hb)
  have HK := Aside0.mk (((Keeps.refl F w).alloc (.cells k.vals 119)).below_ hb)
  obtain ⟨g, hg⟩ : ∃ g, w.heap.size = g := ⟨_, rfl⟩
  simp only [hg] at BK ⊢
  have Hg := Aside0.mk hg
  clear hg hb A0
  have hlt := slotres_lt hres hpos
  have HR := Aside0.mk hres
  clear hres
  obtain ⟨x, hx⟩ : ∃ x, slots[ix]? = some x := ⟨_, List.getElem?_eq_getElem hlt⟩
  obtain ⟨s0, s1⟩ := A2.out.slot_cell hx
  have c1 := blk_cell A2.out.blk 1
  simp only [List.getElem?_toArray, List.getElem?_cons_zero, List.getElem?_cons_succ] at c1
  have hxm : x ≤ nodes.length := S.val x (List.mem_of_getElem? hx)
  have hixI : (ix : Int) < (slots.length : Int) := by omega
  have hcapI : (slots.length : Int) ≤ 4294967296 := by omega
  by_cases h0 : x = 0
  · subst h0
    have hnone : idx nodes k = none := by
      obtain ⟨d, e, hP, h2⟩ := HR.out
      refine idx_none_mk (fun i y hy => probing_none S hP (by rw [← e]; exact hx) i y (List.getElem?_eq_some_iff.1 hy).1 hy)
    have hadd : addN nodes most k c = if most ≤ (nodes.length : Int) then (nodes, 0, 8) else (nodes ++ [⟨k, min c 4611686018427387904⟩], (nodes.length : Int), 0) := by
      unfold addN; rw [hnone]
    have HADD := Aside0.mk hadd
    clear hadd
    go_upto_region 4 with (fail)
    have hlen : ∀ n : Nat, Calls Try.prog 76 #[.pointer (some ⟨p, 0, none⟩)] (w2.drewN n) fun e w' => e = .returned (.int .i64 nodes.length) ∧ ∃ m, w' = w2.drewN m := fun n => (len_walk F p nodes slots empty most _ _ ev _ (A2.out.drewN n)).mono fun _ _ ⟨he, hm⟩ => ⟨he, n, hm.symm⟩
    have c3 := blk_cell A2.out.blk 3
    simp only [List.getElem?_toArray, List.getElem?_cons_zero, List.getElem?_cons_succ] at c3
    by_cases hge : most ≤ (nodes.length : Int)
    · as_aux_lemma =>
      go_quiet ((go_at_call 76; exact hlen _))
      go_wp2_with (fail)
      go_ret2
      rw [HADD.out, if_pos hge]
      exact ⟨rfl, ⟨⟨slots, nv, _, ev, (A2.out.drewN _).mono (fun _ h => .inl h), S, hs1, hs2, hs128⟩, hok, hsz⟩, HK.out.drewN _⟩
    · go_quiet ((go_at_call 76; exact hlen _))
      go_upto_region 6 with (fail)
      clear hlen s0 s1 c1 c3
      have A3 := Aside0.mk (A2.out.drewN nq)
      have BK3 := Aside0.mk (blk_drewN BK.out nq)
      have HK3 := Aside0.mk (HK.out.drewN nq)
      clear A2 BK HK
      generalize w2.drewN nq = w3 at *
      have c0 := blk_cell A3.out.blk 0
      have f0 := blk_frozen A3.out.blk 0
      have k0 := blk_cell BK3.out 0
      have k1 := blk_cell BK3.out 1
      have k2 := blk_cell BK3.out 2
      have k3 := blk_cell BK3.out 3
      have k4 := blk_cell BK3.out 4
      have k5 := blk_cell BK3.out 5
      simp only [Key.vals, List.getElem?_toArray, List.getElem?_cons_zero, List.getElem?_cons_succ] at c0 k0 k1 k2 k3 k4 k5
      obtain ⟨na, cn, rfl⟩ := Kd.R_slice A3.out.hn
      obtain ⟨cc, hcc, hmin⟩ : ∃ cc : Int, min c 4611686018427387904 = cc ∧ Builtin.min2 (.int .u64 c) (.int .u64 4611686018427387904) = pure (.int .u64 cc) := ⟨_, rfl, by rw [min2_int]; congr 2; split <;> omega⟩
      have hcc0 : 0 ≤ cc ∧ cc ≤ 4611686018427387904 := by omega
      rw [hcc, if_neg hge] at HADD
      clear hcc
      have HN := Aside0.mk (Kd.R_mono (ok' := More F w3) A3.out.hn (fun _ h => .inl h))
      have hgp : g ≠ p := by
        intro e
        have h1 := BK3.out
        rw [e, A3.out.blk] at h1
        injection h1 with h1
        injection h1 with _ ht _
        exact absurd ht (by decide)
      have hgn : some g ≠ (Value.slice na nodes.length cn).ownBlock := Kd.R_ne A3.out.hn BK3.out (by decide)
      have hpn : some p ≠ (Value.slice na nodes.length cn).ownBlock := Kd.R_ne A3.out.hn A3.out.blk (by decide)
      have hgl : g < w3.heap.size := blk_lt BK3.out
      have cA : ∀ x : Obj, (w3.alloc x).cell? ⟨p, 0, none⟩ = some (.slice na nodes.length cn) := fun x => cell_new A3.out.lt c0
      have HGN := Aside0.mk hgn
      have HPN := Aside0.mk hpn
      clear hgn hpn
      go_cut [] (fun wx => ∃ na' cn', ArAt wx (More F w3) p (nodes ++ [(⟨k, cc⟩ : Nd)]) slots empty most (.slice na' (nodes.length + 1) cn') (.slice (some ⟨bs, 0, none⟩) slots.length cs) ev ∧ Keeps F w wx)
      case first =>
        rw [show (Op.load 92 (Operand.tmp 40)) = hiddenLoad 92 (Operand.tmp 40) from rfl]
        go_region_held_law (fun w' => w'.cell? ⟨g, 0, none⟩ = some (.int .i64 k.level) ∧ w'.cell? ⟨g, 1, none⟩ = some (.int .u32 k.bits) ∧ w'.cell? ⟨g, 2, none⟩ = some (.int .u32 k.k0) ∧ w'.cell? ⟨g, 3, none⟩ = some (.int .u32 k.k1) ∧ w'.cell? ⟨g, 4, none⟩ = some (.int .u32 k.k2) ∧ w'.cell? ⟨g, 5, none⟩ = some (.int .u32 k.k3)) (refine ⟨?_, ?_, ?_, ?_, ?_, ?_⟩ <;> (first | exact k0 | exact k1 | exact k2 | exact k3 | exact k4 | exact k5 | exact cell_new hgl k0 | exact cell_new hgl k1 | exact cell_new hgl k2 | exact cell_new hgl k3 | exact cell_new hgl k4 | exact cell_new hgl k5 | assumption | exact cell_far hgp (by assumption)))
          ((refine Kd.R_append_step kNd (w0 := w3) (W := w3.drew) 0 rfl (.tmp 41) (.tmp 51) 92 91 (.agg #[.int .i64 0, .int .u32 0, .int .u32 0, .int .u32 0, .int .u32 0, .int .u32 0, .int .u64 0]) 40 rfl Try.underlying92 infoN rfl (by decide) (by decide) (.slice na nodes.length cn) nodes (⟨k, cc⟩ : Nd) (Nd.cells ⟨k, cc⟩) (More F w3) (fun _ => False) (by simp [Act.eval]) (by simp [Act.eval]) (kNd_mkM _ _ _ _) (fun _ hk => hk.elim) (fun _ h => .inr h) (Kd.R_drew HN.out) ((Below.refl _ _).drew) (Nat.zero_le _) (by omega) ?_; intro v1 w4 ho4 hb4 hg4 hat4; have k0' := (World.cell?_of_block (a := ⟨g, 0, none⟩) (hg4.block g (blk_lt BK3.out) HGN.out)).trans k0; have k1' := (World.cell?_of_block (a := ⟨g, 1, none⟩) (hg4.block g (blk_lt BK3.out) HGN.out)).trans k1; have k2' := (World.cell?_of_block (a := ⟨g, 2, none⟩) (hg4.block g (blk_lt BK3.out) HGN.out)).trans k2; have k3' := (World.cell?_of_block (a := ⟨g, 3, none⟩) (hg4.block g (blk_lt BK3.out) HGN.out)).trans k3; have k4' := (World.cell?_of_block (a := ⟨g, 4, none⟩) (hg4.block g (blk_lt BK3.out) HGN.out)).trans k4; have k5' := (World.cell?_of_block (a := ⟨g, 5, none⟩) (hg4.block g (blk_lt BK3.out) HGN.out)).trans k5; have c0' := (World.cell?_of_block (a := ⟨p, 0, none⟩) (hg4.block p A3.out.lt HPN.out)).trans c0; have f0' := (World.frozen?_of_block (a := ⟨p, 0, none⟩) (hg4.block p A3.out.lt HPN.out)).trans f0; have HO4 := Aside0.mk ho4; have HG4 := Aside0.mk hg4; have HAT := Aside0.mk hat4; clear ho4 hb4 hg4 hat4; obtain ⟨na', cn', rfl⟩ := Kd.R_slice HO4.out))
        all_goals go_wp2_with (fail)
        all_goals
          have A4 := Aside0.mk (ArAt.new_nodes A3.out (by first | exact HG4.out | exact ⟨HG4.out.os, HG4.out.tape, HG4.out.output, HG4.out.size, HG4.out.block⟩) (fun _ h => .inl h) HO4.out)
          have HK4 := Aside0.mk ((HK3.out.trans (F' := F) (Keeps.grown (Keeps.refl F w3) (c := w4) (row := (Value.slice na nodes.length cn).ownBlock) (by first | exact HG4.out | exact ⟨HG4.out.os, HG4.out.tape, HG4.out.output, HG4.out.size, HG4.out.block⟩) (fun k hk => .inl (A3.out.hn.1 k hk))) (fun _ h => .inl h)).setCell (p := ⟨p, 0, none⟩) (.inl A3.out.hF) (.slice na' (nodes ++ [(⟨k, cc⟩ : Nd)]).length cn'))
          simp only [List.length_append, List.length_cons, List.length_nil, Nat.zero_add] at A4 HK4
          go_meet
        all_goals exact ⟨na', cn', A4.out, HK4.out⟩
      case rest =>
        obtain ⟨na', cn', a4, hk4⟩ := hcut
        have A4 := Aside0.mk a4
        have HK4 := Aside0.mk hk4
        clear a4 hk4
        have hs3 := HK3.out.size
        have hfresh := idx_none hnone
        have hS5 := slotted_more (nd := ⟨k, cc⟩) S HR.out hx hfresh (by omega)
        have HS5 := Aside0.mk hS5
        clear hS5 hfresh hnone k0 k1 k2 k3 k4 k5 c0 f0 cA hmin hgp hgl HGN HPN HN
        clear A3 BK3 HK3 HR
        go_upto_region 7 with (fail)
        obtain ⟨nodes', hn'⟩ : ∃ nodes', nodes ++ [(⟨k, cc⟩ : Nd)] = nodes' := ⟨_, rfl⟩
        have hl' : nodes'.length = nodes.length + 1 := by rw [← hn']; simp
        rw [hn'] at A4 HS5 HADD
        have HN' := Aside0.mk hn'
        clear hn'
        have hpb : p ≠ bs := by
          intro e
          obtain ⟨bcells, hbk⟩ := Kd.R_typed A4.out.hs bs rfl
          have h1 := A4.out.blk
          rw [e, hbk] at h1
          injection h1 with h1
          injection h1 with _ ht _
          exact absurd ht (by decide)
        have c1 := blk_cell A4.out.blk 1
        simp only [List.getElem?_toArray, List.getElem?_cons_zero, List.getElem?_cons_succ] at c1
        obtain ⟨s0, s1⟩ := A4.out.slot_cell hx
        have hlI : (nodes'.length : Int) = nodes.length + 1 := by omega
        have hw1 : IntKind.u32.wrap (nodes'.length : Int) = (nodes'.length : Int) := by rw [IntKind.wrap_u32]; omega
        have HL := Aside0.mk hlI
        have HL2 := Aside0.mk hl'
        have hb1 : nodes'.length ≤ 536870912 := by omega
        rw [← HL2.out] at A4
        clear hlI hl'
        go_region_held3 (fun w' => w'.cell? ⟨p, 1, none⟩ = some (.slice (some ⟨bs, 0, none⟩) slots.length cs)) (first | exact c1 | assumption | exact cell_far hpb (by assumption)) (first | (go_at_call 76; refine (len_walk (More F w3) p nodes' slots empty most _ _ ev _ (by first | with_reducible exact A4.out | exact A4.out.below ((Below.refl _ _).drew) | exact A4.out.drewN _)).mono ?_; rintro e w6 ⟨rfl, rfl⟩))
        have A5 := Aside0.mk ((A4.out.put_slot ix nodes'.length).below ((Below.refl _ _).drew))
        have hbF : F bs ∨ w.heap.size ≤ bs := by
          have h1 : More F w3 bs := A4.out.hs.1 bs rfl
          rcases h1 with h1 | h1
          · exact .inl h1
          · exact .inr (by omega)
        have HK5 := Aside0.mk ((HK4.out.setCell (p := ⟨bs, ix, none⟩) hbF (.int .u32 (nodes'.length : Int))).drew)
        have HS6 := HS5.out
        rw [← HL2.out] at HS6
        have HS7 := Aside0.mk HS6
        have hls : (slots.set ix nodes'.length).length = slots.length := List.length_set
        clear HS6 HS5 A4 HK4 c1 s0 s1 hw1 hbF hpb
        generalize (wc.setCell ⟨bs, ix, none⟩ (.int .u32 (nodes'.length : Int))).drew = w6 at *
        generalize slots.set ix nodes'.length = sl2 at *
        go_upto_region 9 with (first | (go_at_call 76; refine (len_walk (More F w3) p nodes' sl2 empty most _ _ ev _ A5.out).mono ?_; rintro e w7 ⟨rfl, rfl⟩))
        have hlen9 : ∀ n : Nat, Calls Try.prog 76 #[.pointer (some ⟨p, 0, none⟩)] (w6.drewN n) fun e w' => e = .returned (.int .i64 nodes'.length) ∧ ∃ m, w' = w6.drewN m := fun n => (len_walk (More F w3) p nodes' sl2 empty most _ _ ev _ (A5.out.drewN n)).mono fun _ _ ⟨he, hm⟩ => ⟨he, n, hm.symm⟩
        have c1 := blk_cell A5.out.blk 1
        simp only [List.getElem?_toArray, List.getElem?_cons_zero, List.getElem?_cons_succ] at c1
        have hmore : ∀ k, More F w3 k → More F w k := fun k hk => hk.elim .inl (fun h => .inr (by omega))
        have HM := Aside0.mk hmore
        clear hmore
        have hok' : ∀ (i : Nat) (x : Nd), nodes'[i]? = some x → NdOk x := by
          intro i x hxx
          rw [← HN'.out, List.getElem?_append] at hxx
          split at hxx
          · exact hok i x hxx
          · rw [List.getElem?_singleton] at hxx
            split at hxx
            · obtain rfl := Option.some.inj hxx
              exact ⟨hkey, hlv, hcc0.1, hcc0.2⟩
            · cases hxx
        have HOK := Aside0.mk hok'
        clear hok'
        by_cases hgr : (slots.length : Int) < 2 * (nodes'.length : Int)
        · as_aux_lemma =>
          go_quiet ((go_at_call 76; exact hlen9 _))
          go_wp2_with (fail)
          refine (grow_walk (More F w3) p nodes' sl2 empty most _ _ ev _ (A5.out.drewN nq) HS7.out.once (fun i x hxx => (HOK.out i x hxx).key) (by omega) (by have := HL2.out; omega) (by omega)).mono ?_
          rintro e w8 ⟨rfl, sl3, sv3, a8, s8, l8, k8⟩
          have A8 := Aside0.mk a8
          have S8 := Aside0.mk s8
          have L8 := Aside0.mk l8
          have K8 := Aside0.mk k8
          clear a8 s8 l8 k8
          have hv : ((nodes'.length : Int) - 1) % 4294967296 = (nodes.length : Int) := by have := HL.out; omega
          rw [hv]
          go_wp2_with (fail)
          go_ret2
          rw [HADD.out]
          have hk6 := HK5.out.size
          have hls3 := L8.out
          have hl2 := HL2.out
          refine ⟨rfl, ⟨⟨sl3, _, sv3, ev, A8.out.mono (fun k hk => ?_), S8.out, (by dsimp only; omega), (by dsimp only; omega), (by omega)⟩, HOK.out, (by dsimp only; omega)⟩, (HK5.out.drewN nq).trans K8.out (fun k hk => ?_)⟩
          · rcases hk with hk | hk
            · exact HM.out k hk
            · rw [World.heap_drewN] at hk
              exact .inr (by omega)
          · exact HM.out k hk
        · as_aux_lemma =>
          go_quiet ((go_at_call 76; exact hlen9 _))
          go_upto_region 11 with (fail)
          have hv : ((nodes'.length : Int) - 1) % 4294967296 = (nodes.length : Int) := by have := HL.out; omega
          rw [hv]
          go_wp2_with (fail)
          go_ret2
          rw [HADD.out]
          have hl2 := HL2.out
          exact ⟨rfl, ⟨⟨sl2, _, _, ev, (A5.out.drewN nq).mono HM.out, HS7.out, (by dsimp only; omega), (by dsimp only; omega), (by omega)⟩, HOK.out, (by dsimp only; omega)⟩, HK5.out.drewN nq⟩
  · as_aux_lemma =>
    obtain ⟨j, rfl⟩ : ∃ j, x = j + 1 := ⟨x - 1, by omega⟩
    rw [Int.natCast_add, Int.cast_ofNat_Int] at s0
    have hsome : idx nodes k = some j := by
      obtain ⟨d, e, hP, h2⟩ := HR.out
      rcases h2 with h2 | ⟨j', nd, h2, hnd, hk2⟩
      · rw [hx] at h2; cases h2
      · rw [hx] at h2
        obtain rfl : j = j' := by have := Option.some.inj h2; omega
        exact idx_mk S.once hnd hk2
    have hadd : addN nodes most k c = (nodes, (j : Int), 0) := by unfold addN; rw [hsome]
    have HADD := Aside0.mk hadd
    clear hadd hsome
    go_wp2_with (fail)
    go_ret2
    rw [HADD.out]
    exact ⟨rfl, ⟨⟨slots, nv, _, ev, A2.out.mono (fun _ h => .inl h), S, hs1, hs2, hs128⟩, hok, hsz⟩, HK.out⟩
end Go.Proofs.Ytpmipllohiiocaa.ar
