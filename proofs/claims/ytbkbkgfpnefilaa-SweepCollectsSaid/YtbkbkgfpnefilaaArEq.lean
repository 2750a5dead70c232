/- '==' of keys: structs that hold an array. -/
import Derived.Test.YtbkbkgfpnefilaaArRep
import Derived.Test.YtbkbkgfpnefilaaWEqStruct
namespace Go.Proofs.Ytbkbkgfpnefilaa.ar
open Go.RowKit Go.Proofs.YtbkbkgfpnefilaaW.PrintWords Go.Proofs.YtbkbkgfpnefilaaW.PrintLast Go.Proofs.YtbkbkgfpnefilaaW.PrintMore Go.Proofs.Ytbkbkgfpnefilaa.bs Go.ChangeShapes

theorem eqU32 (d : Nat) (w : World) (a b : Int) : (Op.equalIn (d + 1) 38 (.int .u32 a) (.int .u32 b)).run Try.prog w = .ok (a == b) w := by
  simp [Op.equalIn, run_underlying Try.underlying38]
theorem part4 (w : World) (a b c d : Int) : ∀ i : Nat, i < 4 → (part 38 #[.int .u32 a, .int .u32 b, .int .u32 c, .int .u32 d] i).run Try.prog w = .ok (.int .u32 ([a, b, c, d].getD i 0)) w
  | 0, _ => by kernel_rfl
  | 1, _ => by kernel_rfl
  | 2, _ => by kernel_rfl
  | 3, _ => by kernel_rfl
  | n + 4, h => by omega
theorem size32 (w : World) : (sizeOf 38).run Try.prog w = .ok 1 w := by kernel_rfl
theorem eqArr4 (d : Nat) (w : World) (a0 a1 a2 a3 b0 b1 b2 b3 : Int) :
    (Op.equalIn (d + 2) 129 (.agg #[.int .u32 a0, .int .u32 a1, .int .u32 a2, .int .u32 a3]) (.agg #[.int .u32 b0, .int .u32 b1, .int .u32 b2, .int .u32 b3])).run Try.prog w = .ok (a0 == b0 && (a1 == b1 && (a2 == b2 && a3 == b3))) w := by
  rw [Op.equalIn]
  simp only [Sem.run_bind, run_underlying Try.underlying129, Result.andThen_ok, size32]
  simp only [Std.Legacy.Range.forIn_eq_forIn_range', Std.Legacy.Range.size]
  simp only [List.range', Nat.reduceAdd, Nat.reduceSub, Nat.reduceDiv, List.forIn_cons, List.forIn_nil, Nat.mul_one]
  have pa := part4 w a0 a1 a2 a3
  have pb := part4 w b0 b1 b2 b3
  have pa0 := pa 0 (by omega)
  have pa1 := pa 1 (by omega)
  have pa2 := pa 2 (by omega)
  have pa3 := pa 3 (by omega)
  have pb0 := pb 0 (by omega)
  have pb1 := pb 1 (by omega)
  have pb2 := pb 2 (by omega)
  have pb3 := pb 3 (by omega)
  simp only [Sem.run_bind, pa0, pa1, pa2, pa3, pb0, pb1, pb2, pb3, Result.andThen_ok, eqU32, List.getD_cons_zero, List.getD_cons_succ]
  cases h0 : (a0 == b0) <;> cases h1 : (a1 == b1) <;> cases h2 : (a2 == b2) <;> cases h3 : (a3 == b3) <;> simp [pa1, pa2, pa3, pb1, pb2, pb3, eqU32, h0, h1, h2, h3, Sem.run_bind]
def eqKeyB (a b : Key) : Bool := a.level == b.level && (a.bits == b.bits && (a.k0 == b.k0 && (a.k1 == b.k1 && (a.k2 == b.k2 && a.k3 == b.k3))))
theorem eqKeyB_iff (a b : Key) : eqKeyB a b = decide (a = b) := by
  rw [Bool.eq_iff_iff]
  simp [eqKeyB, Key.eq_iff]
theorem eqKey (d : Nat) (w : World) (a b : Key) : (Op.equalIn (d + 3) 177 (.agg a.vals) (.agg b.vals)).run Try.prog w = .ok (eqKeyB a b) w := by
  refine eqA_of Try.underlying177 (by kernel_rfl) ?_
  unfold Key.vals eqKeyB
  refine eqf_cons (by rfl) (by go_simp; rfl) (by go_simp; rfl) (by go_simp) ?_
  refine eqf_cons (by rfl) (by go_simp; rfl) (by go_simp; rfl) (by go_simp) ?_
  exact eqf_last (by rfl) (by kernel_rfl) (by kernel_rfl) (eqArr4 d w _ _ _ _ _ _ _ _)
theorem eqKeyL (d : Nat) (w : World) (l b p0 p1 p2 p3 l' b' q0 q1 q2 q3 : Int) : (Op.equalIn (d + 3) 177 (.agg #[.int .i64 l, .int .u32 b, .int .u32 p0, .int .u32 p1, .int .u32 p2, .int .u32 p3]) (.agg #[.int .i64 l', .int .u32 b', .int .u32 q0, .int .u32 q1, .int .u32 q2, .int .u32 q3])).run Try.prog w = .ok (eqKeyB ⟨l, b, p0, p1, p2, p3⟩ ⟨l', b', q0, q1, q2, q3⟩) w := eqKey d w ⟨l, b, p0, p1, p2, p3⟩ ⟨l', b', q0, q1, q2, q3⟩
theorem eqlKey (w : World) (l b p0 p1 p2 p3 l' b' q0 q1 q2 q3 : Int) : (binOp .eql 177 (.agg #[.int .i64 l, .int .u32 b, .int .u32 p0, .int .u32 p1, .int .u32 p2, .int .u32 p3]) (.agg #[.int .i64 l', .int .u32 b', .int .u32 q0, .int .u32 q1, .int .u32 q2, .int .u32 q3])).run Try.prog w = .ok (.bool (eqKeyB ⟨l, b, p0, p1, p2, p3⟩ ⟨l', b', q0, q1, q2, q3⟩)) w := by
  rw [run_eql_struct, show 10000 = 9997 + 3 from rfl, eqKeyL]
  rfl
theorem guardKey (w : World) (op : BinOp) (x y : Operand) (xs ys : Array Value) : (eqGuard op 177 x y (.agg xs) (.agg ys)).run Try.prog w = .ok () w :=
  run_eqGuard_agg w op _ x y xs ys (by kernel_rfl)
theorem buildKey (w : World) (l b p0 p1 p2 p3 : Int) : (Instr.build 177 #[(0, .int .i64 l), (1, .int .u32 b), (2, .agg #[.int .u32 p0, .int .u32 p1, .int .u32 p2, .int .u32 p3])]).run Try.prog w = .ok (.agg #[.int .i64 l, .int .u32 b, .int .u32 p0, .int .u32 p1, .int .u32 p2, .int .u32 p3]) w := by kernel_rfl
theorem buildNode (w : World) (l b p0 p1 p2 p3 c : Int) : (Instr.build 131 #[(0, .int .i64 l), (1, .int .u32 b), (2, .agg #[.int .u32 p0, .int .u32 p1, .int .u32 p2, .int .u32 p3]), (3, .int .u64 c)]).run Try.prog w = .ok (.agg #[.int .i64 l, .int .u32 b, .int .u32 p0, .int .u32 p1, .int .u32 p2, .int .u32 p3, .int .u64 c]) w := by kernel_rfl
/-- a struct made of parts: the walk's step at 'build', by a run equation -/
theorem wpList_build {P : Program} {ops : Array Oper} {rest : List Oper} {o : Oper} {a : Act} {w : World} {Q : Exit → Act → World → Prop} (hgd : o.guard = none) (t : TypeId) (parts : Array (Nat × Operand)) (ho : o.op = .build t parts) (v : Value)
    (hrun : (Instr.build t (parts.map fun (i, x) => (i, a.eval x))).run P w = .ok v w) (h : wpList P ops Q rest (a.put o.dst v) w) : wpList P ops Q (o :: rest) a w := by
  refine wpList_plain hgd fun K hK => ?_
  unfold Oper.wp execOp
  simp only [ho, Sem.run_bind, hrun, Result.andThen_ok]
  exact hK _ _ h
end Go.Proofs.Ytbkbkgfpnefilaa.ar
