/- Words that all texts of this seat share: small lemmas on worlds, returns and rows. -/
import Derived.Test.YtpmipllohiiocaaRows
import Derived.WalkKit
import Derived.ProofKit
import Derived.OpenShut
import Derived.Handy
import Derived.Lib.Hide
import Derived.Below
import Derived.ChangeSame
import Derived.WalkSmall
import Derived.Deep.QuietTactic
import Derived.BigQuiet
import Derived.LaidEql
namespace Go.Proofs.Ytpmipllohiiocaa.bs
open Go.ChangeShapes Go.WideShapes Go.ChangeAt Go.RowKit

/-- what a call leaves of a block that was there -/
theorem at_ {X w1 : World} (b : Nat) (hb : Below X.heap.size X w1) (h : b < X.heap.size) :
    (∀ o, w1.cell? ⟨b, o, none⟩ = X.cell? ⟨b, o, none⟩) ∧ (∀ o, w1.frozen? ⟨b, o, none⟩ = X.frozen? ⟨b, o, none⟩) ∧ b < w1.heap.size :=
  ⟨fun o => hb.cell (p := ⟨b, o, none⟩) h, fun o => hb.frozen (p := ⟨b, o, none⟩) h, Nat.lt_of_lt_of_le h hb.size⟩
/-- two steps of growth -/
theorem chain {B : Nat} {w X w1 : World} (h : Below B w X) (hb : Below X.heap.size X w1) (hB : B ≤ X.heap.size) : Below B w w1 := h.trans (hb.mono hB)
theorem ret_int {k : IntKind} {a b : Int} (h : a = b) : Ending.returned (.int k a) = .returned (.int k b) := by rw [h]
theorem ret_bool {x y : Bool} (h : x = y) : Ending.returned (.bool x) = .returned (.bool y) := by rw [h]
theorem quiet_add_left {P : Program} {f : FuncId} {args : Array Value} {w : World} {a n : Nat} {v : Value}
    (h : Calls P f args (w.drewN (a + n)) fun e w' => e = .returned v ∧ w.drewN (a + n) = w') :
    Calls P f args (w.drewN (a + n)) fun e w'' => e = .returned v ∧ ∃ m, w'' = w.drewN (a + m) :=
  h.mono fun _ _ ⟨he, hm⟩ => ⟨he, n, hm.symm⟩
theorem quiet_left {P : Program} {f : FuncId} {args : Array Value} {w : World} {n : Nat} {v : Value}
    (h : Calls P f args (w.drewN n) fun e w' => e = .returned v ∧ w.drewN n = w') : Calls P f args (w.drewN n) fun e w'' => e = .returned v ∧ ∃ m, w'' = w.drewN m :=
  h.mono fun _ _ ⟨he, hm⟩ => ⟨he, n, hm.symm⟩
theorem bd_i64 {a : Int} (wa : (Lit.int .i64 a).wf = true) : -9223372036854775808 ≤ a ∧ a ≤ 9223372036854775807 := by
  simpa [Lit.wf, IntKind.min, IntKind.max, IntKind.signed, IntKind.bits] using wa
theorem bd_u64 {a : Int} (wa : (Lit.int .u64 a).wf = true) : 0 ≤ a ∧ a ≤ 18446744073709551615 := by
  simpa [Lit.wf, IntKind.min, IntKind.max, IntKind.signed, IntKind.bits] using wa
theorem bd_u32 {a : Int} (wa : (Lit.int .u32 a).wf = true) : 0 ≤ a ∧ a ≤ 4294967295 := by
  simpa [Lit.wf, IntKind.min, IntKind.max, IntKind.signed, IntKind.bits] using wa

theorem and_mask (o : Int) (k : Nat) (hk : k < 63) : bits .and .i64 o ((2 ^ k - 1 : Nat) : Int) = o % 2 ^ k := by
  show IntKind.i64.wrap ((BitVec.ofInt 64 o &&& BitVec.ofInt 64 ((2 ^ k - 1 : Nat) : Int)).toNat : Int) = _
  have hp : (2 : Nat) ^ k ≤ 2 ^ 62 := Nat.pow_le_pow_right (by omega) (by omega)
  have hm : (BitVec.ofInt 64 ((2 ^ k - 1 : Nat) : Int)).toNat = 2 ^ k - 1 := by
    rw [BitVec.ofInt_natCast, BitVec.toNat_ofNat]; exact Nat.mod_eq_of_lt (by omega)
  rw [BitVec.toNat_and, hm, Nat.and_two_pow_sub_one_eq_mod, BitVec.toNat_ofInt, IntKind.wrap_i64]
  have h1 : (((o % ((2 ^ 64 : Nat) : Int)).toNat % 2 ^ k : Nat) : Int) = o % 2 ^ k := by
    rw [Int.natCast_emod, Int.toNat_of_nonneg (Int.emod_nonneg _ (by decide))]
    rw [Int.natCast_pow, Int.natCast_pow]
    exact Int.emod_emod_of_dvd o (by
      rw [show (64 : Nat) = k + (64 - k) by omega, Int.pow_add]; exact Int.dvd_mul_right _ _)
  rw [h1]
  have h2 := Int.emod_nonneg o (show (2 : Int) ^ k ≠ 0 from by exact Int.ne_of_gt (Int.pow_pos (by decide)))
  have h3 := Int.emod_lt_of_pos o (show (0 : Int) < 2 ^ k from Int.pow_pos (by decide))
  have h4 : (2 : Int) ^ k ≤ 2 ^ 62 := by exact_mod_cast hp
  omega
theorem and255 (o : Int) : bits .and .i64 o 255 = o % 256 := and_mask o 8 (by omega)
theorem and1 (o : Int) : bits .and .i64 o 1 = o % 2 := and_mask o 1 (by omega)
theorem and3 (o : Int) : bits .and .i64 o 3 = o % 4 := and_mask o 2 (by omega)
theorem and15 (o : Int) : bits .and .i64 o 15 = o % 16 := and_mask o 4 (by omega)
theorem and63 (o : Int) : bits .and .i64 o 63 = o % 64 := and_mask o 6 (by omega)
theorem and65535 (o : Int) : bits .and .i64 o 65535 = o % 65536 := and_mask o 16 (by omega)
theorem and_mask_u64 (o : Int) (k : Nat) (hk : k < 63) : bits .and .u64 o ((2 ^ k - 1 : Nat) : Int) = o % 2 ^ k := by
  show IntKind.u64.wrap ((BitVec.ofInt 64 o &&& BitVec.ofInt 64 ((2 ^ k - 1 : Nat) : Int)).toNat : Int) = _
  have hp : (2 : Nat) ^ k ≤ 2 ^ 62 := Nat.pow_le_pow_right (by omega) (by omega)
  have hm : (BitVec.ofInt 64 ((2 ^ k - 1 : Nat) : Int)).toNat = 2 ^ k - 1 := by
    rw [BitVec.ofInt_natCast, BitVec.toNat_ofNat]; exact Nat.mod_eq_of_lt (by omega)
  rw [BitVec.toNat_and, hm, Nat.and_two_pow_sub_one_eq_mod, BitVec.toNat_ofInt, IntKind.wrap_u64]
  have h1 : (((o % ((2 ^ 64 : Nat) : Int)).toNat % 2 ^ k : Nat) : Int) = o % 2 ^ k := by
    rw [Int.natCast_emod, Int.toNat_of_nonneg (Int.emod_nonneg _ (by decide))]
    rw [Int.natCast_pow, Int.natCast_pow]
    exact Int.emod_emod_of_dvd o (by
      rw [show (64 : Nat) = k + (64 - k) by omega, Int.pow_add]; exact Int.dvd_mul_right _ _)
  rw [h1]
  have h2 := Int.emod_nonneg o (show (2 : Int) ^ k ≠ 0 from by exact Int.ne_of_gt (Int.pow_pos (by decide)))
  have h3 := Int.emod_lt_of_pos o (show (0 : Int) < 2 ^ k from Int.pow_pos (by decide))
  have h4 : (2 : Int) ^ k ≤ 2 ^ 62 := by exact_mod_cast hp
  omega
theorem tmod_bd (a m : Int) (hm : 0 < m) : -m < a.tmod m ∧ a.tmod m < m := by
  have h1 := Int.tmod_lt_of_pos a hm
  have h2 := Int.tmod_lt_of_pos (-a) hm
  rw [Int.neg_tmod] at h2
  omega

section
variable {H : Type} {enc : TypeId × Value → H} {P : Program}
theorem post_of_below {f : Func} {s : ChangeSpec} {apart fresh handsOn again : Bool} {W W' : World} {args : Array Value} {v : Value} {ds gs : List (DataW H)} {before pa pv : List MemPlace}
    (hW : DataW.Whole enc P f.params.toList s.vars apart W args.toList ds gs before)
    (hres : ∀ (b : Nat) (sp : Nat → Bool) (hd : Bool), DataW.TrodAll enc P W' b sp hd f.resultTypes.toList (v.resultList f.resultTypes.size) (s.fn H (ds ++ gs)).results [])
    (hargs : ∀ sp : Nat → Bool, (∀ p ∈ before, sp p.block = true) → DataW.TrodAll enc P W' 0 sp true f.params.toList args.toList (s.fn H (ds ++ gs)).args pa)
    (hvars : ∀ sp : Nat → Bool, (∀ p ∈ before, sp p.block = true) → DataW.TrodVars enc P W' sp s.vars (s.fn H (ds ++ gs)).vars pv)
    (hps : before = pa ++ pv) (hb : Below W.heap.size W W')
    (hok : ∀ (j : Nat) (t : TypeId) (r : Value), f.resultTypes[j]? = some t → (v.resultList f.resultTypes.size)[j]? = some r → Value.okWide P W' .any 0 t r) :
    s.post enc P f apart fresh handsOn again W args v W' := by
  have hlt : ∀ p ∈ before, p.block < W.heap.size := fun p hp => hW.lt p hp
  have hold : ∀ p ∈ before, (fun b => decide (b < W.heap.size)) p.block = true := fun p hp => by simpa using hlt p hp
  refine ⟨ds, gs, before, [], pa, pv, hW, hres _ _ _, hargs _ hold, hvars _ hold, World.keptBut_mono (fun p hp => ⟨hp, ?_⟩) (hb.frame (· ∈ before)), fun _ => ?_⟩
  · rw [hps, List.mem_append] at hp
    exact Or.inr hp
  · obtain ⟨_, _, _, _, _, hz, hn⟩ := hW
    refine ⟨hok, _, _, ([] ++ pa) ++ pv, ⟨[] ++ pa, pv, trodAll_append (hargs _ (fun _ _ => rfl)) (hres _ _ _), hvars _ (fun _ _ => rfl), rfl, ?_, ?_⟩, ?_⟩
    · intro b off hp
      have hin : MemPlace.cell b off ∈ before := by rw [hps]; simpa using hp
      rw [hb.frozen (hlt _ hin)]
      exact hz b off hin
    · intro ha
      have := hn ha
      rw [hps] at this
      simpa using this
    · intro p hp _
      rw [hps]
      simpa using hp
end
section
variable {P : Program} (w : World)
theorem run_equalIn_iface_int (d : Nat) {ti tn : TypeId} {ms : Array (String × TypeId)} {i : TypeInfo} {k : IntKind} (a b : Int)
    (hi : P.underlying ti = some (.interface ms)) (hn : P.underlying tn = some (.int k)) (hinfo : P.info? tn = some i) (hcomp : i.comparable = true) :
    (Op.equalIn (d + 2) ti (.iface tn (.int k a)) (.iface tn (.int k b))).run P w = .ok (a == b) w := by
  simp [Op.equalIn, run_underlying hi, run_underlying hn, typeInfo, hinfo, hcomp]
/-- two errors of one integer type are the same just if their numbers are -/
theorem run_eql_iface_int {ti tn : TypeId} {ms : Array (String × TypeId)} {i : TypeInfo} {k : IntKind} (a b : Int)
    (hi : P.underlying ti = some (.interface ms)) (hn : P.underlying tn = some (.int k)) (hinfo : P.info? tn = some i) (hcomp : i.comparable = true) :
    (binOp .eql ti (.iface tn (.int k a)) (.iface tn (.int k b))).run P w = .ok (.bool (a == b)) w := by
  simp only [binOp]
  simp [Op.equal, Op.maxDepth, run_equalIn_iface_int w 9998 a b hi hn hinfo hcomp]
theorem run_neq_iface_int {ti tn : TypeId} {ms : Array (String × TypeId)} {i : TypeInfo} {k : IntKind} (a b : Int)
    (hi : P.underlying ti = some (.interface ms)) (hn : P.underlying tn = some (.int k)) (hinfo : P.info? tn = some i) (hcomp : i.comparable = true) :
    (binOp .neq ti (.iface tn (.int k a)) (.iface tn (.int k b))).run P w = .ok (.bool (a != b)) w := by
  simp only [binOp]
  simp [Op.equal, Op.maxDepth, run_equalIn_iface_int w 9998 a b hi hn hinfo hcomp]
  cases h : (a == b) <;> simp [bne, h]
end
theorem errEq (w : World) (a b : Int) : (binOp .eql 51 (.iface 68 (.int .i64 a)) (.iface 68 (.int .i64 b))).run Try.prog w = .ok (.bool (a == b)) w :=
  run_eql_iface_int w a b Try.underlying51 Try.underlying68 (i := (Try.prog.info? 68).getD default) (by kernel_rfl) (by kernel_rfl)
theorem errNeq (w : World) (a b : Int) : (binOp .neq 51 (.iface 68 (.int .i64 a)) (.iface 68 (.int .i64 b))).run Try.prog w = .ok (.bool (a != b)) w :=
  run_neq_iface_int w a b Try.underlying51 Try.underlying68 (i := (Try.prog.info? 68).getD default) (by kernel_rfl) (by kernel_rfl)
end Go.Proofs.Ytpmipllohiiocaa.bs
