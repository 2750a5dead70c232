/- The walk over ref12.Join: four of the reference's nodes joined. -/
import Derived.Test.YtbkbkgfpnefilaaArRep
import Derived.Test.YtbkbkgfpnefilaaArEq
import Derived.Test.YtbkbkgfpnefilaaArFind
import Derived.Deep.RegionHeldLaw
import Derived.Deep.LoopGhost
import Derived.Deep.DeepCutAuto
import Derived.Lib.QuietBelow
import Derived.BigQuiet
import Derived.Test.YtbkbkgfpnefilaaStates
import Derived.Test.YtbkbkgfpnefilaaArLeaf
import Derived.Test.YtbkbkgfpnefilaaArJoin
namespace Go.Proofs.Ytbkbkgfpnefilaa.ar
open Go.RowKit Go.Proofs.YtbkbkgfpnefilaaW.PrintWords Go.Proofs.YtbkbkgfpnefilaaW.PrintLast Go.Proofs.YtbkbkgfpnefilaaW.PrintMore Go.Proofs.Ytbkbkgfpnefilaa.bs Go.ChangeShapes

def kRn : Kd Nd := Kd.iso (Kd.pair (Kd.int .i64) (Kd.pair (Kd.int .u32) (Kd.pair (Kd.int .i64) (Kd.pair (Kd.int .i64) (Kd.pair (Kd.int .i64) (Kd.pair (Kd.int .i64) (Kd.int .u64))))))) (fun x : Nd => (x.key.level, x.key.bits, x.key.k0, x.key.k1, x.key.k2, x.key.k3, x.count))
def Nd.rcells (x : Nd) : List Value := [.int .i64 x.key.level, .int .u32 x.key.bits, .int .i64 x.key.k0, .int .i64 x.key.k1, .int .i64 x.key.k2, .int .i64 x.key.k3, .int .u64 x.count]
theorem kRn_open {w : World} {x : Nd} {cs : List Value} (h : kRn.K w x cs) : cs = x.rcells := by
  obtain ⟨_, _, rfl, rfl, ⟨_, _, rfl, rfl, ⟨_, _, rfl, rfl, ⟨_, _, rfl, rfl, ⟨_, _, rfl, rfl, ⟨_, _, rfl, rfl, rfl⟩⟩⟩⟩⟩⟩ := h
  exact rfl
theorem kRn_mkM (w : World) (base : Nat) (ok : Nat → Prop) (x : Nd) : kRn.M w base ok x x.rcells :=
  ⟨[.int .i64 x.key.level], _, rfl, rfl, ⟨[.int .u32 x.key.bits], _, rfl, rfl, ⟨[.int .i64 x.key.k0], _, rfl, rfl, ⟨[.int .i64 x.key.k1], _, rfl, rfl, ⟨[.int .i64 x.key.k2], _, rfl, rfl, ⟨[.int .i64 x.key.k3], _, rfl, rfl, rfl⟩⟩⟩⟩⟩⟩
theorem infoRn : (Try.prog.info? 84).map (fun i => (i.zero, i.size, i.bytes)) = some (some (.agg #[.int .i64 0, .int .u32 0, .int .i64 0, .int .i64 0, .int .i64 0, .int .i64 0, .int .u64 0]), 7, 56) := by kernel_rfl
/-- the cells of the i-th node of a row that is read -/
theorem at_Rn {w : World} {A : Option Addr} {n : Nat} {xs : List Nd} (h : Kd.C kRn w A n xs) (i : Int) (h0 : 0 ≤ i) (h1 : i < n) : ∃ ad, A = some ad ∧
    w.cell? (ad.add (i.toNat * 7)) = some (.int .i64 (xs.getD i.toNat zNd).key.level) ∧
    w.cell? ⟨(ad.add (i.toNat * 7)).block, (ad.add (i.toNat * 7)).off + 1, none⟩ = some (.int .u32 (xs.getD i.toNat zNd).key.bits) ∧
    w.cell? ⟨(ad.add (i.toNat * 7)).block, (ad.add (i.toNat * 7)).off + 2, none⟩ = some (.int .i64 (xs.getD i.toNat zNd).key.k0) ∧
    w.cell? ⟨(ad.add (i.toNat * 7)).block, (ad.add (i.toNat * 7)).off + 3, none⟩ = some (.int .i64 (xs.getD i.toNat zNd).key.k1) ∧
    w.cell? ⟨(ad.add (i.toNat * 7)).block, (ad.add (i.toNat * 7)).off + 4, none⟩ = some (.int .i64 (xs.getD i.toNat zNd).key.k2) ∧
    w.cell? ⟨(ad.add (i.toNat * 7)).block, (ad.add (i.toNat * 7)).off + 5, none⟩ = some (.int .i64 (xs.getD i.toNat zNd).key.k3) ∧
    w.cell? ⟨(ad.add (i.toNat * 7)).block, (ad.add (i.toNat * 7)).off + 6, none⟩ = some (.int .u64 (xs.getD i.toNat zNd).count) := by
  obtain ⟨ad, c, e, _, hK, hc0⟩ := Kd.C_get h zNd i h0 h1
  have hc : ∀ j u, c[j]? = some u → w.cell? (ad.add (i.toNat * 7 + j)) = some u := hc0
  obtain rfl := kRn_open hK
  refine ⟨ad, e, hc 0 _ rfl, ?_, ?_, ?_, ?_, ?_, ?_⟩
  · rw [← add_field _ _ 1 (by omega)]; exact hc 1 _ rfl
  · rw [← add_field _ _ 2 (by omega)]; exact hc 2 _ rfl
  · rw [← add_field _ _ 3 (by omega)]; exact hc 3 _ rfl
  · rw [← add_field _ _ 4 (by omega)]; exact hc 4 _ rfl
  · rw [← add_field _ _ 5 (by omega)]; exact hc 5 _ rfl
  · rw [← add_field _ _ 6 (by omega)]; exact hc 6 _ rfl
end Go.Proofs.Ytbkbkgfpnefilaa.ar
namespace Go.Proofs.Ytbkbkgfpnefilaa.ar
open Go.RowKit Go.Proofs.YtbkbkgfpnefilaaW.PrintWords Go.Proofs.YtbkbkgfpnefilaaW.PrintLast Go.Proofs.YtbkbkgfpnefilaaW.PrintMore Go.Proofs.Ytbkbkgfpnefilaa.bs Go.ChangeShapes

theorem eqI64 (d : Nat) (w : World) (a b : Int) : (Op.equalIn (d + 1) 3 (.int .i64 a) (.int .i64 b)).run Try.prog w = .ok (a == b) w := by
  simp [Op.equalIn, run_underlying Try.underlying3]
theorem part4i (w : World) (a b c d : Int) : ∀ i : Nat, i < 4 → (part 3 #[.int .i64 a, .int .i64 b, .int .i64 c, .int .i64 d] i).run Try.prog w = .ok (.int .i64 ([a, b, c, d].getD i 0)) w
  | 0, _ => by kernel_rfl
  | 1, _ => by kernel_rfl
  | 2, _ => by kernel_rfl
  | 3, _ => by kernel_rfl
  | n + 4, h => by omega
theorem size64 (w : World) : (sizeOf 3).run Try.prog w = .ok 1 w := by kernel_rfl
theorem eqArr4i (d : Nat) (w : World) (a0 a1 a2 a3 b0 b1 b2 b3 : Int) :
    (Op.equalIn (d + 2) 82 (.agg #[.int .i64 a0, .int .i64 a1, .int .i64 a2, .int .i64 a3]) (.agg #[.int .i64 b0, .int .i64 b1, .int .i64 b2, .int .i64 b3])).run Try.prog w = .ok (a0 == b0 && (a1 == b1 && (a2 == b2 && a3 == b3))) w := by
  rw [Op.equalIn]
  simp only [Sem.run_bind, run_underlying Try.underlying82, Result.andThen_ok, size64]
  simp only [Std.Legacy.Range.forIn_eq_forIn_range', Std.Legacy.Range.size]
  simp only [List.range', Nat.reduceAdd, Nat.reduceSub, Nat.reduceDiv, List.forIn_cons, List.forIn_nil, Nat.mul_one]
  have pa := part4i w a0 a1 a2 a3
  have pb := part4i w b0 b1 b2 b3
  have pa0 := pa 0 (by omega)
  have pa1 := pa 1 (by omega)
  have pa2 := pa 2 (by omega)
  have pa3 := pa 3 (by omega)
  have pb0 := pb 0 (by omega)
  have pb1 := pb 1 (by omega)
  have pb2 := pb 2 (by omega)
  have pb3 := pb 3 (by omega)
  simp only [Sem.run_bind, pa0, pb0, Result.andThen_ok, eqI64, List.getD_cons_zero]
  cases h0 : (a0 == b0) <;> cases h1 : (a1 == b1) <;> cases h2 : (a2 == b2) <;> cases h3 : (a3 == b3) <;> simp [pa1, pa2, pa3, pb1, pb2, pb3, eqI64, h1, h2, h3, Sem.run_bind]
def eqKidsB (a0 a1 a2 a3 b0 b1 b2 b3 : Int) : Bool := a0 == b0 && (a1 == b1 && (a2 == b2 && a3 == b3))
theorem eqlKids (w : World) (a0 a1 a2 a3 b0 b1 b2 b3 : Int) : (binOp .eql 82 (.agg #[.int .i64 a0, .int .i64 a1, .int .i64 a2, .int .i64 a3]) (.agg #[.int .i64 b0, .int .i64 b1, .int .i64 b2, .int .i64 b3])).run Try.prog w = .ok (.bool (eqKidsB a0 a1 a2 a3 b0 b1 b2 b3)) w := by
  rw [run_eql_struct, show 10000 = 9998 + 2 from rfl, eqArr4i]
  rfl
theorem guardKids (w : World) (op : BinOp) (x y : Operand) (xs ys : Array Value) : (eqGuard op 82 x y (.agg xs) (.agg ys)).run Try.prog w = .ok () w :=
  run_eqGuard_agg w op _ x y xs ys (by kernel_rfl)
end Go.Proofs.Ytbkbkgfpnefilaa.ar
namespace Go.Proofs.Ytbkbkgfpnefilaa.ar
open Go.RowKit Go.Proofs.YtbkbkgfpnefilaaW.PrintWords Go.Proofs.YtbkbkgfpnefilaaW.PrintLast Go.Proofs.YtbkbkgfpnefilaaW.PrintMore Go.Proofs.Ytbkbkgfpnefilaa.bs Go.ChangeShapes

/-- ref12.add: the row, the place, the code -/
def raddR (xs : List Nd) (most : Int) (nd : Nd) : List Nd × Int × Int :=
  match idx xs nd.key with
  | some i => (xs, (i : Int), 0)
  | none => if most ≤ (xs.length : Int) then (xs, 0, 8) else (xs ++ [nd], (xs.length : Int), 0)
theorem idx_first {xs : List Nd} {nd x : Nd} {k : Nat} (hne : ∀ (i : Nat) (x : Nd), i < k → xs[i]? = some x → x.key ≠ nd.key) (hx : xs[k]? = some x) (he : x.key = nd.key) : idx xs nd.key = some k := by
  cases h : idx xs nd.key with
  | none => exact absurd he (idx_none h k x hx)
  | some j =>
    unfold idx at h
    rw [List.findIdx?_eq_some_iff_getElem] at h
    obtain ⟨hj, hkj, hlt⟩ := h
    obtain ⟨hk, hxe⟩ := List.getElem?_eq_some_iff.1 hx
    have h1 : ¬ k < j := fun hkj2 => by
      have := hlt k hkj2
      rw [hxe] at this
      simp [he] at this
    have h2 : ¬ j < k := fun hjk => hne j _ hjk (List.getElem?_eq_getElem hj) (by simpa using hkj)
    rw [show j = k by omega]
theorem radd_next {xs : List Nd} {nd x : Nd} {k : Nat} (hne : ∀ (i : Nat) (x : Nd), i < k → xs[i]? = some x → x.key ≠ nd.key) (hx : xs[k]? = some x) (hn : x.key ≠ nd.key) (i : Nat) (y : Nd) (hi : i < k + 1) (hy : xs[i]? = some y) : y.key ≠ nd.key := by
  by_cases h : i = k
  · subst h
    rw [hx] at hy
    cases hy
    exact hn
  · exact hne i y (by omega) hy
theorem c7 {w' : World} {b : Nat} {nd : Nd} {tn : TypeId} (hn' : w'.heap[b]? = some (.cells #[.int .i64 nd.key.level, .int .u32 nd.key.bits, .int .i64 nd.key.k0, .int .i64 nd.key.k1, .int .i64 nd.key.k2, .int .i64 nd.key.k3, .int .u64 nd.count] tn (0, 0))) : w'.cell? ⟨b, 0, none⟩ = some (.int .i64 nd.key.level) ∧ w'.cell? ⟨b, 1, none⟩ = some (.int .u32 nd.key.bits) ∧ w'.cell? ⟨b, 2, none⟩ = some (.int .i64 nd.key.k0) ∧ w'.cell? ⟨b, 3, none⟩ = some (.int .i64 nd.key.k1) ∧ w'.cell? ⟨b, 4, none⟩ = some (.int .i64 nd.key.k2) ∧ w'.cell? ⟨b, 5, none⟩ = some (.int .i64 nd.key.k3) ∧ w'.cell? ⟨b, 6, none⟩ = some (.int .u64 nd.count) :=
  ⟨blk_cell hn' 0, blk_cell hn' 1, blk_cell hn' 2, blk_cell hn' 3, blk_cell hn' 4, blk_cell hn' 5, blk_cell hn' 6⟩
theorem R_fresh0 {α : Type} (d : Kd α) (W : World) (e base : Nat) (hb : base ≤ W.heap.size) : d.R e (W.alloc (.cells #[] e)) base (fun _ => True) (.slice (some ⟨W.heap.size, 0, none⟩) 0 0) [] := by
  refine ⟨fun _ _ => trivial, [], ?_, ⟨by simp, fun j p hj => by simp at hj⟩⟩
  have h2 := World.ownsRow_lit (base := base) (e := e) (size := d.sz) W #[] 0 hb (by decide) (by simp)
  simpa using h2
theorem read_N {W : World} {g : Nat} {nd : Nd} {e : TypeId} (h : W.heap[g]? = some (.cells #[.int .i64 nd.key.level, .int .u32 nd.key.bits, .int .i64 nd.key.k0, .int .i64 nd.key.k1, .int .i64 nd.key.k2, .int .i64 nd.key.k3, .int .u64 nd.count] e (0, 0))) : Kd.C kRn W (some ⟨g, 0, none⟩) 1 [nd] := by
  refine ⟨rfl, by decide, fun _ => ⟨⟨g, 0, none⟩, rfl, fun j p hj => ?_⟩⟩
  match j, hj with
  | 0, hj =>
    cases hj
    refine ⟨nd.rcells, rfl, ⟨[.int .i64 nd.key.level], _, rfl, rfl, ⟨[.int .u32 nd.key.bits], _, rfl, rfl, ⟨[.int .i64 nd.key.k0], _, rfl, rfl, ⟨[.int .i64 nd.key.k1], _, rfl, rfl, ⟨[.int .i64 nd.key.k2], _, rfl, rfl, ⟨[.int .i64 nd.key.k3], _, rfl, rfl, rfl⟩⟩⟩⟩⟩⟩, fun i u hu => ?_⟩
    show W.cell? ((⟨g, 0, none⟩ : Addr).add (0 * 7 + i)) = some u
    rw [show (⟨g, 0, none⟩ : Addr).add (0 * 7 + i) = ⟨g, i, none⟩ from by rw [show 0 * 7 + i = i by omega]; unfold Addr.add; split <;> simp_all]
    have := blk_cell h i
    rw [this]
    simpa [Nd.rcells] using hu
theorem Rn_M {W : World} {base : Nat} {ok : Nat → Prop} (x : Nd) (cs : List Value) (h : kRn.K W x cs) : kRn.M W base ok x cs := by
  rw [kRn_open h]; exact kRn_mkM _ _ _ x
attribute [local go_sem high] eqlKids guardKids
attribute [local go_sem] hiddenLoad
theorem tyRn (q : Nat) (h : q ∈ 84 :: kRn.E) : q ≠ 79 := by
  have h2 : kRn.E = [] := rfl
  rw [h2] at h
  simp only [List.mem_cons, List.not_mem_nil, or_false] at h
  subst h
  decide
theorem rn_more {G : Nat → Prop} {w : World} {w' : World} {b : Nat} {v : Value} {xs : List Nd} (h : Kd.R kRn 84 w' b (fun _ => True) v xs) (hb : w.heap.size ≤ b) : Kd.R kRn 84 w' 0 (More G w) v xs :=
  Kd.R_lower (Kd.R_mono (Kd.R_bound h) (fun _ hk => .inr (Nat.le_trans hb hk.2.1))) (Nat.zero_le _)
/-- what ref12.add leaves -/
def RaddPost (G : Nat → Prop) (w : World) (most : Int) (r : List Nd × Int × Int) (e : Ending) (w' : World) : Prop :=
  ∃ A' c', e = .returned (.tuple #[.agg #[.slice A' r.1.length c', .int .i64 most], .int .i64 r.2.1, .int .i64 r.2.2]) ∧ Kd.R kRn 84 w' 0 (More G w) (.slice A' r.1.length c') r.1 ∧ Below w.heap.size w w'
theorem own_more {G : Nat → Prop} {w w' : World} {v : Value} {xs : List Nd} (h : Kd.R kRn 84 w' w.heap.size (fun _ => True) v xs) : Kd.R kRn 84 w' 0 (More G w) v xs :=
  Kd.R_lower (Kd.R_mono (Kd.R_bound h) (fun _ hk => .inr hk.2.1)) (Nat.zero_le _)
set_option maxHeartbeats 2000000 in
theorem radd_walk (xs : List Nd) (most : Int) (nd : Nd) (A : Option Addr) (c : Nat) (G : Nat → Prop) (w : World) (hr0 : Kd.R kRn 84 w 0 G (.slice A xs.length c) xs) (hN9 : xs.length < 536870912) :
    Calls Try.prog 109 #[.agg #[.slice A xs.length c, .int .i64 most], .agg #[.int .i64 nd.key.level, .int .u32 nd.key.bits, .int .i64 nd.key.k0, .int .i64 nd.key.k1, .int .i64 nd.key.k2, .int .i64 nd.key.k3, .int .u64 nd.count]] w fun e w' => RaddPost G w most (raddR xs most nd) e w' := by
  have HR0 := Aside0.mk (Kd.R_mono (ok' := More G w) hr0 (fun _ h => .inl h))
  obtain ⟨_, hc, hr⟩ := Kd.R_reads' hr0
  clear hr0
  have HR := Aside0.mk hr
  clear hr
  go_enter Try.func109, Try.ntmps109
  go_wp2_with (fail)
  have KA := Aside0.mk (blk_below (blk_new w (.cells #[.slice A xs.length c, .int .i64 most] 79)) (below_alloc (below_alloc (Below.refl _ _) (.cells #[.int .i64 nd.key.level, .int .u32 nd.key.bits, .int .i64 nd.key.k0, .int .i64 nd.key.k1, .int .i64 nd.key.k2, .int .i64 nd.key.k3, .int .u64 nd.count] 84)) (.cells #[.slice none 0 0, .int .i64 0] 79)))
  have KN := Aside0.mk (blk_below (blk_new (w.alloc (.cells #[.slice A xs.length c, .int .i64 most] 79)) (.cells #[.int .i64 nd.key.level, .int .u32 nd.key.bits, .int .i64 nd.key.k0, .int .i64 nd.key.k1, .int .i64 nd.key.k2, .int .i64 nd.key.k3, .int .u64 nd.count] 84)) (below_alloc (Below.refl _ _) (.cells #[.slice none 0 0, .int .i64 0] 79)))
  have KR := Aside0.mk (blk_new ((w.alloc (.cells #[.slice A xs.length c, .int .i64 most] 79)).alloc (.cells #[.int .i64 nd.key.level, .int .u32 nd.key.bits, .int .i64 nd.key.k0, .int .i64 nd.key.k1, .int .i64 nd.key.k2, .int .i64 nd.key.k3, .int .u64 nd.count] 84)) (.cells #[.slice none 0 0, .int .i64 0] 79))
  have HB := Aside0.mk (below_alloc (below_alloc (below_alloc (Below.refl w.heap.size w) (.cells #[.slice A xs.length c, .int .i64 most] 79)) (.cells #[.int .i64 nd.key.level, .int .u32 nd.key.bits, .int .i64 nd.key.k0, .int .i64 nd.key.k1, .int .i64 nd.key.k2, .int .i64 nd.key.k3, .int .u64 nd.count] 84)) (.cells #[.slice none 0 0, .int .i64 0] 79))
  rw [show (w.alloc (.cells #[.slice A xs.length c, .int .i64 most] 79)).heap.size = w.heap.size + 1 by simp] at KN
  rw [show ((w.alloc (.cells #[.slice A xs.length c, .int .i64 most] 79)).alloc (.cells #[.int .i64 nd.key.level, .int .u32 nd.key.bits, .int .i64 nd.key.k0, .int .i64 nd.key.k1, .int .i64 nd.key.k2, .int .i64 nd.key.k3, .int .u64 nd.count] 84)).heap.size = w.heap.size + 1 + 1 by simp] at KR
  obtain ⟨a, ha⟩ : ∃ a, w.heap.size = a := ⟨_, rfl⟩
  obtain ⟨b, hb⟩ : ∃ b, w.heap.size + 1 = b := ⟨_, rfl⟩
  obtain ⟨g, hg⟩ : ∃ g, w.heap.size + 1 + 1 = g := ⟨_, rfl⟩
  simp only [hg] at KR ⊢
  simp only [hb] at KN ⊢
  simp only [ha] at KA ⊢
  have hag : a ≠ g := by omega
  have hba : Aside0 (b ≠ a) := Aside0.mk (by omega)
  have hga : Aside0 (g ≠ a) := Aside0.mk (by omega)
  have haw : Aside0 (w.heap.size ≤ a) := Aside0.mk (by omega)
  have hbg : b ≠ g := by omega
  have hwg : w.heap.size ≤ g := by omega
  have HA := Aside0.mk ha
  clear ha hb hg
  generalize ((w.alloc (.cells #[.slice A xs.length c, .int .i64 most] 79)).alloc (.cells #[.int .i64 nd.key.level, .int .u32 nd.key.bits, .int .i64 nd.key.k0, .int .i64 nd.key.k1, .int .i64 nd.key.k2, .int .i64 nd.key.k3, .int .u64 nd.count] 84)).alloc (.cells #[.slice none 0 0, .int .i64 0] 79) = w1 at *
  go_loopg [12] xs.length (fun kq v12 w' => ∃ k : Nat, k + kq = xs.length ∧ v12 = .int .i64 k ∧ Aside0 (∀ (i : Nat) (x : Nd), i < k → xs[i]? = some x → x.key ≠ nd.key) ∧ Aside0 (w'.heap[a]? = some (.cells #[.slice A xs.length c, .int .i64 most] 79 (0, 0))) ∧ Aside0 (w'.heap[b]? = some (.cells #[.int .i64 nd.key.level, .int .u32 nd.key.bits, .int .i64 nd.key.k0, .int .i64 nd.key.k1, .int .i64 nd.key.k2, .int .i64 nd.key.k3, .int .u64 nd.count] 84 (0, 0))) ∧ Aside0 (w'.heap[g]? = some (.cells #[.slice none 0 0, .int .i64 0] 79 (0, 0))) ∧ Aside0 (Below w.heap.size w w'))
  case atStart => exact ⟨0, by omega, rfl, ⟨fun i x h => by omega⟩, KA, KN, KR, HB⟩
  case round =>
    obtain ⟨k, hk, rfl, hne, KA, KN, KR, HB⟩ := hrel
    by_cases hlt : k < xs.length
    · obtain ⟨ad, eA, c0, c1, c2, c3, c4, c5, c6⟩ := at_Rn (Kd.C_below HR.out HB.out) k (by omega) (by omega)
      rw [Int.toNat_natCast] at c0 c1 c2 c3 c4 c5 c6
      obtain ⟨x, hx⟩ : ∃ x, xs.getD k zNd = x := ⟨_, rfl⟩
      rw [hx] at c0 c1 c2 c3 c4 c5 c6
      have hxk : xs[k]? = some x := by
        rw [← hx, List.getD_eq_getElem?_getD, List.getElem?_eq_getElem hlt]; rfl
      clear hx
      have hbd : xs.length ≤ 9223372036854775807 := HR.out.2.1
      have hwk : Aside0 (wrap64 ((k : Int) + 1) = ((k + 1 : Nat) : Int)) := Aside0.mk (by unfold wrap64; omega)
      clear hbd
      subst eA
      go_upto_region 4 with (fail)
      have KX := Aside0.mk (blk_new wr (.cells #[.int .i64 x.key.level, .int .u32 x.key.bits, .int .i64 x.key.k0, .int .i64 x.key.k1, .int .i64 x.key.k2, .int .i64 x.key.k3, .int .u64 x.count] 84))
      have KA2 := Aside0.mk (blk_below KA.out (below_alloc (Below.refl _ _) (.cells #[.int .i64 x.key.level, .int .u32 x.key.bits, .int .i64 x.key.k0, .int .i64 x.key.k1, .int .i64 x.key.k2, .int .i64 x.key.k3, .int .u64 x.count] 84)))
      have KN2 := Aside0.mk (blk_below KN.out (below_alloc (Below.refl _ _) (.cells #[.int .i64 x.key.level, .int .u32 x.key.bits, .int .i64 x.key.k0, .int .i64 x.key.k1, .int .i64 x.key.k2, .int .i64 x.key.k3, .int .u64 x.count] 84)))
      have KR2 := Aside0.mk (blk_below KR.out (below_alloc (Below.refl _ _) (.cells #[.int .i64 x.key.level, .int .u32 x.key.bits, .int .i64 x.key.k0, .int .i64 x.key.k1, .int .i64 x.key.k2, .int .i64 x.key.k3, .int .u64 x.count] 84)))
      have HB2 := Aside0.mk (below_alloc HB.out (.cells #[.int .i64 x.key.level, .int .u32 x.key.bits, .int .i64 x.key.k0, .int .i64 x.key.k1, .int .i64 x.key.k2, .int .i64 x.key.k3, .int .u64 x.count] 84))
      obtain ⟨z, hz⟩ : ∃ z, wr.heap.size = z := ⟨_, rfl⟩
      simp only [hz] at KX ⊢
      clear hz c0 c1 c2 c3 c4 c5 c6 KA KN KR HB
      generalize wr.alloc (.cells #[.int .i64 x.key.level, .int .u32 x.key.bits, .int .i64 x.key.k0, .int .i64 x.key.k1, .int .i64 x.key.k2, .int .i64 x.key.k3, .int .u64 x.count] 84) = w2 at *
      have x0 := blk_cell KX.out 0
      have x1 := blk_cell KX.out 1
      have x2 := blk_cell KX.out 2
      have x3 := blk_cell KX.out 3
      have x4 := blk_cell KX.out 4
      have x5 := blk_cell KX.out 5
      have n0 := blk_cell KN2.out 0
      have n1 := blk_cell KN2.out 1
      have n2 := blk_cell KN2.out 2
      have n3 := blk_cell KN2.out 3
      have n4 := blk_cell KN2.out 4
      have n5 := blk_cell KN2.out 5
      have a0 := blk_cell KA2.out 0
      have a1 := blk_cell KA2.out 1
      have g0 := blk_cell KR2.out 0
      have g1 := blk_cell KR2.out 1
      have f0 := blk_frozen KR2.out 0
      have f1 := blk_frozen KR2.out 1
      simp only [List.getElem?_toArray, List.getElem?_cons_zero, List.getElem?_cons_succ] at x0 x1 x2 x3 x4 x5 n0 n1 n2 n3 n4 n5 a0 a1 g0 g1
      by_cases e0 : x.key.level = nd.key.level
      · by_cases e1 : x.key.bits = nd.key.bits
        · cases e2 : eqKidsB x.key.k0 x.key.k1 x.key.k2 x.key.k3 nd.key.k0 nd.key.k1 nd.key.k2 nd.key.k3 with
          | true =>
            have hkk : Aside0 (x.key = nd.key) := Aside0.mk <| by
              rw [Key.eq_iff]
              simp [eqKidsB] at e2
              exact ⟨e0, e1, e2⟩
            have hR := Aside0.mk (show raddR xs most nd = (xs, (k : Int), 0) by unfold raddR; rw [idx_first hne.out hxk hkk.out])
            go_wp2_with (fail)
            have HBF : Below w.heap.size w ((w2.setCell ⟨g, 0, none⟩ (.slice (some ad) xs.length c)).setCell ⟨g, 1, none⟩ (.int .i64 most)) := (HB2.out.setCell hwg _).setCell hwg _
            refine bodyPost_ret (v := .tuple #[.agg #[.slice (some ad) xs.length c, .int .i64 most], .int .i64 k, .int .i64 0]) (by simp [results, Try.results109, go_sem, g0, g1]) rfl ⟨some ad, c, by rw [hR.out], by rw [hR.out]; exact Kd.R_below HR0.out HBF, HBF⟩
          | false =>
            have hxne : x.key ≠ nd.key := fun e => by rw [e] at e2; simp [eqKidsB] at e2
            go_wp2_with (fail)
            go_roundg (xs.length - (k + 1))
            · exact ⟨k + 1, by omega, by first | rw [hwk.out] | rfl | simp, ⟨radd_next hne.out hxk hxne⟩, KA2, KN2, KR2, HB2⟩
            · omega
        · have hxne : x.key ≠ nd.key := fun e => e1 (by rw [e])
          go_wp2_with (fail)
          go_roundg (xs.length - (k + 1))
          · exact ⟨k + 1, by omega, by first | rw [hwk.out] | rfl | simp, ⟨radd_next hne.out hxk hxne⟩, KA2, KN2, KR2, HB2⟩
          · omega
      · have hxne : x.key ≠ nd.key := fun e => e0 (by rw [e])
        go_wp2_with (fail)
        go_roundg (xs.length - (k + 1))
        · exact ⟨k + 1, by omega, by first | rw [hwk.out] | rfl | simp, ⟨radd_next hne.out hxk hxne⟩, KA2, KN2, KR2, HB2⟩
        · omega
    · have hkx : k = xs.length := by omega
      have hN : Aside0 (idx xs nd.key = none) := Aside0.mk (idx_none_mk (fun i x hx => hne.out i x (by have := (List.getElem?_eq_some_iff.1 hx).1; omega) hx))
      subst hkx
      have a0 := blk_cell KA.out 0
      have a1 := blk_cell KA.out 1
      have g0 := blk_cell KR.out 0
      have g1 := blk_cell KR.out 1
      have f0 := blk_frozen KR.out 0
      have f1 := blk_frozen KR.out 1
      simp only [List.getElem?_toArray, List.getElem?_cons_zero, List.getElem?_cons_succ] at a0 a1 g0 g1
      by_cases hm : most ≤ (xs.length : Int)
      · have hR := Aside0.mk (show raddR xs most nd = (xs, 0, 8) by unfold raddR; rw [hN.out]; exact if_pos hm)
        go_wp2_with (fail)
        have HBF : Below w.heap.size w ((wr.setCell ⟨g, 0, none⟩ (.slice A xs.length c)).setCell ⟨g, 1, none⟩ (.int .i64 most)) := (HB.out.setCell hwg _).setCell hwg _
        refine bodyPost_ret (v := .tuple #[.agg #[.slice A xs.length c, .int .i64 most], .int .i64 0, .int .i64 8]) (by simp [results, Try.results109, go_sem, g0, g1]) rfl ⟨A, c, by rw [hR.out], by rw [hR.out]; exact Kd.R_below HR0.out HBF, HBF⟩
      · have hR := Aside0.mk (show raddR xs most nd = (xs ++ [nd], (xs.length : Int), 0) by unfold raddR; rw [hN.out]; exact if_neg hm)
        go_upto_region 9 with (fail)
        have HC := Aside0.mk (Kd.C_below HR.out HB.out)
        obtain ⟨p0, hp0⟩ : ∃ p0, w.heap.size = p0 := ⟨_, rfl⟩
        have hage : a < wr.heap.size := blk_lt KA.out
        have cA : ∀ x : Obj, (wr.alloc x).cell? ⟨a, 0, none⟩ = some (.slice A xs.length c) := fun x => cell_new hage a0
        have cAA : ∀ x y : Obj, ((wr.alloc x).alloc y).cell? ⟨a, 0, none⟩ = some (.slice A xs.length c) := fun x y => cell_new (by simp; omega) (cA x)
        go_cut [] (fun wx => ∃ A' c', wx.heap[a]? = some (.cells #[.slice A' (xs.length + 1) c', .int .i64 most] 79 (0, 0)) ∧ wx.heap[g]? = some (.cells #[.slice none 0 0, .int .i64 0] 79 (0, 0)) ∧ Kd.R kRn 84 wx 0 (More G w) (.slice A' (xs.length + 1) c') (xs ++ [nd]) ∧ Below w.heap.size w wx)
        case first =>
          rw [show (Op.load 77 (Operand.tmp 47)) = hiddenLoad 77 (Operand.tmp 47) from rfl]
          go_region_held_law (fun w' => w'.cell? ⟨b, 0, none⟩ = some (.int .i64 nd.key.level) ∧ w'.cell? ⟨b, 1, none⟩ = some (.int .u32 nd.key.bits) ∧ w'.cell? ⟨b, 2, none⟩ = some (.int .i64 nd.key.k0) ∧ w'.cell? ⟨b, 3, none⟩ = some (.int .i64 nd.key.k1) ∧ w'.cell? ⟨b, 4, none⟩ = some (.int .i64 nd.key.k2) ∧ w'.cell? ⟨b, 5, none⟩ = some (.int .i64 nd.key.k3) ∧ w'.cell? ⟨b, 6, none⟩ = some (.int .u64 nd.count)) (first | (refine c7 (blk_below KN.out ?_); (repeat' (first | (with_reducible exact Below.refl _ _) | (with_reducible assumption) | (with_reducible refine Below.alloc ?_ ?_ _) | (with_reducible refine Below.drew ?_) | (with_reducible refine Below.setCell ?_ ?_ _) | (with_reducible refine chain ?_ (by assumption) ?_) | go_size)); done) | exact c7 (blk_far (blk_below KN.out hbw5) hba.out _)) (first | (refine Kd.R_append_rows_step kRn (Rr := kRn.K (wr.drew.alloc (.cells #[] 84))) (w0 := wr) (W := wr.drew.alloc (.cells #[] 84)) wr.heap.size rfl (.tmp 46) (.tmp 48) 77 84 (.agg #[.int .i64 0, .int .u32 0, .int .i64 0, .int .i64 0, .int .i64 0, .int .i64 0, .int .u64 0]) 56 rfl Try.underlying77 infoRn rfl (by decide) (by decide) (.slice (some ⟨wr.heap.size, 0, none⟩) 0 0) [] xs A xs.length c (fun _ => True) (fun _ => False) (by simp [Act.eval]) (by simp [Act.eval]) (R_fresh0 kRn wr.drew 84 wr.heap.size (by simp)) (Kd.C_below HC.out (by (repeat' (first | (with_reducible exact Below.refl _ _) | (with_reducible assumption) | (with_reducible refine Below.alloc ?_ ?_ _) | (with_reducible refine Below.drew ?_) | (with_reducible refine Below.setCell ?_ ?_ _) | (with_reducible refine chain ?_ (by assumption) ?_) | go_size)))) Rn_M (fun _ hk => hk.elim) (fun _ _ => trivial) (by (repeat' (first | (with_reducible exact Below.refl _ _) | (with_reducible assumption) | (with_reducible refine Below.alloc ?_ ?_ _) | (with_reducible refine Below.drew ?_) | (with_reducible refine Below.setCell ?_ ?_ _) | (with_reducible refine chain ?_ (by assumption) ?_) | go_size))) (by simp <;> omega) (by simp <;> omega) ?_; intro v1 w4 ho4 hb4 hg4 hat4; rw [List.nil_append] at ho4; have HO4 := Aside0.mk ho4; have hbw : Below wr.heap.size wr w4 := hb4; have hs4 : wr.heap.size ≤ w4.heap.size := hb4.size; have HB4 := Aside0.mk hb4; skip; clear ho4 hb4 hg4 hat4) | (refine Kd.R_append_rows_step kRn (Rr := kRn.K ((wr.drew.alloc (.cells #[] 84)).alloc (.cells #[.int .i64 nd.key.level, .int .u32 nd.key.bits, .int .i64 nd.key.k0, .int .i64 nd.key.k1, .int .i64 nd.key.k2, .int .i64 nd.key.k3, .int .u64 nd.count] 84))) (w0 := wr) (W := (wr.drew.alloc (.cells #[] 84)).alloc (.cells #[.int .i64 nd.key.level, .int .u32 nd.key.bits, .int .i64 nd.key.k0, .int .i64 nd.key.k1, .int .i64 nd.key.k2, .int .i64 nd.key.k3, .int .u64 nd.count] 84)) wr.heap.size rfl (.tmp 46) (.tmp 48) 77 84 (.agg #[.int .i64 0, .int .u32 0, .int .i64 0, .int .i64 0, .int .i64 0, .int .i64 0, .int .u64 0]) 56 rfl Try.underlying77 infoRn rfl (by decide) (by decide) (.slice (some ⟨wr.heap.size, 0, none⟩) 0 0) [] xs A xs.length c (fun _ => True) (fun _ => False) (by simp [Act.eval]) (by simp [Act.eval]) (Kd.R_alloc (R_fresh0 kRn wr.drew 84 wr.heap.size (by simp)) _) (Kd.C_below HC.out (by (repeat' (first | (with_reducible exact Below.refl _ _) | (with_reducible assumption) | (with_reducible refine Below.alloc ?_ ?_ _) | (with_reducible refine Below.drew ?_) | (with_reducible refine Below.setCell ?_ ?_ _) | (with_reducible refine chain ?_ (by assumption) ?_) | go_size)))) Rn_M (fun _ hk => hk.elim) (fun _ _ => trivial) (by (repeat' (first | (with_reducible exact Below.refl _ _) | (with_reducible assumption) | (with_reducible refine Below.alloc ?_ ?_ _) | (with_reducible refine Below.drew ?_) | (with_reducible refine Below.setCell ?_ ?_ _) | (with_reducible refine chain ?_ (by assumption) ?_) | go_size))) (by simp <;> omega) (by simp <;> omega) ?_; intro v1 w4 ho4 hb4 hg4 hat4; rw [List.nil_append] at ho4; have HO4 := Aside0.mk ho4; have hbw : Below wr.heap.size wr w4 := hb4; have hs4 : wr.heap.size ≤ w4.heap.size := hb4.size; have HB4 := Aside0.mk hb4; have hx4c : Aside0 (w4.heap[wr.heap.size + 1]? = some (.cells #[.int .i64 nd.key.level, .int .u32 nd.key.bits, .int .i64 nd.key.k0, .int .i64 nd.key.k1, .int .i64 nd.key.k2, .int .i64 nd.key.k3, .int .u64 nd.count] 84 (0, 0))) := Aside0.mk ((hg4.block _ (by simp <;> omega) (by simp [Value.ownBlock] <;> omega)).trans (by have := blk_new (wr.drew.alloc (.cells #[] 84)) (.cells #[.int .i64 nd.key.level, .int .u32 nd.key.bits, .int .i64 nd.key.k0, .int .i64 nd.key.k1, .int .i64 nd.key.k2, .int .i64 nd.key.k3, .int .u64 nd.count] 84); simpa using this)); clear ho4 hb4 hg4 hat4) | (refine Kd.R_append_rows_step kRn (Rr := kRn.K ((wr.drew.alloc (.cells #[.int .i64 nd.key.level, .int .u32 nd.key.bits, .int .i64 nd.key.k0, .int .i64 nd.key.k1, .int .i64 nd.key.k2, .int .i64 nd.key.k3, .int .u64 nd.count] 84)).alloc (.cells #[] 84))) (w0 := wr) (W := (wr.drew.alloc (.cells #[.int .i64 nd.key.level, .int .u32 nd.key.bits, .int .i64 nd.key.k0, .int .i64 nd.key.k1, .int .i64 nd.key.k2, .int .i64 nd.key.k3, .int .u64 nd.count] 84)).alloc (.cells #[] 84)) wr.heap.size rfl (.tmp 46) (.tmp 48) 77 84 (.agg #[.int .i64 0, .int .u32 0, .int .i64 0, .int .i64 0, .int .i64 0, .int .i64 0, .int .u64 0]) 56 rfl Try.underlying77 infoRn rfl (by decide) (by decide) (.slice (some ⟨wr.heap.size + 1, 0, none⟩) 0 0) [] xs A xs.length c (fun _ => True) (fun _ => False) (by simp [Act.eval]) (by simp [Act.eval]) (by have := R_fresh0 kRn (wr.drew.alloc (.cells #[.int .i64 nd.key.level, .int .u32 nd.key.bits, .int .i64 nd.key.k0, .int .i64 nd.key.k1, .int .i64 nd.key.k2, .int .i64 nd.key.k3, .int .u64 nd.count] 84)) 84 wr.heap.size (by simp); simpa using this) (Kd.C_below HC.out (by (repeat' (first | (with_reducible exact Below.refl _ _) | (with_reducible assumption) | (with_reducible refine Below.alloc ?_ ?_ _) | (with_reducible refine Below.drew ?_) | (with_reducible refine Below.setCell ?_ ?_ _) | (with_reducible refine chain ?_ (by assumption) ?_) | go_size)))) Rn_M (fun _ hk => hk.elim) (fun _ _ => trivial) (by (repeat' (first | (with_reducible exact Below.refl _ _) | (with_reducible assumption) | (with_reducible refine Below.alloc ?_ ?_ _) | (with_reducible refine Below.drew ?_) | (with_reducible refine Below.setCell ?_ ?_ _) | (with_reducible refine chain ?_ (by assumption) ?_) | go_size))) (by simp <;> omega) (by simp <;> omega) ?_; intro v1 w4 ho4 hb4 hg4 hat4; rw [List.nil_append] at ho4; have HO4 := Aside0.mk ho4; have hbw : Below wr.heap.size wr w4 := hb4; have hs4 : wr.heap.size ≤ w4.heap.size := hb4.size; have HB4 := Aside0.mk hb4; have hx4b : Aside0 (w4.heap[wr.heap.size]? = some (.cells #[.int .i64 nd.key.level, .int .u32 nd.key.bits, .int .i64 nd.key.k0, .int .i64 nd.key.k1, .int .i64 nd.key.k2, .int .i64 nd.key.k3, .int .u64 nd.count] 84 (0, 0))) := Aside0.mk ((hg4.block _ (by simp <;> omega) (by simp [Value.ownBlock] <;> omega)).trans (by have := blk_below (blk_new wr.drew (.cells #[.int .i64 nd.key.level, .int .u32 nd.key.bits, .int .i64 nd.key.k0, .int .i64 nd.key.k1, .int .i64 nd.key.k2, .int .i64 nd.key.k3, .int .u64 nd.count] 84)) (below_alloc (Below.refl _ _) (.cells #[] 84)); simpa using this)); clear ho4 hb4 hg4 hat4) | (refine Kd.R_append_step kRn (w0 := wr) (W := w4) wr.heap.size rfl (.tmp 49) (.tmp 51) 77 84 (.agg #[.int .i64 0, .int .u32 0, .int .i64 0, .int .i64 0, .int .i64 0, .int .i64 0, .int .u64 0]) 56 rfl Try.underlying77 infoRn rfl (by decide) (by decide) v1 xs nd nd.rcells (fun _ => True) (fun _ => False) (by simp [Act.eval]) (by simp [Act.eval]) (kRn_mkM _ _ _ nd) (fun _ hk => hk.elim) (fun _ _ => trivial) HO4.out HB4.out HB4.out.size (by omega) ?_; intro v2 w5 ho5 hb5 hg5 hat5; have HO5 := Aside0.mk ho5; have hbw5 : Below wr.heap.size wr w5 := hb5; have hs5 : wr.heap.size ≤ w5.heap.size := hb5.size; have HB5 := Aside0.mk hb5; have f0' := blk_frozen (blk_below KA.out hb5) 0; have c0' : w5.cell? ⟨a, 0, none⟩ = some (.slice A xs.length c) := blk_cell (blk_below KA.out hb5) 0; clear hb5 ho5 hg5 hat5; obtain ⟨A2, c2, rfl⟩ := Kd.R_slice HO5.out) | (refine Kd.R_append_rows_step kRn (Rr := kRn.K w4) (w0 := wr) (W := w4) wr.heap.size rfl (.tmp 49) (.tmp 51) 77 84 (.agg #[.int .i64 0, .int .u32 0, .int .i64 0, .int .i64 0, .int .i64 0, .int .i64 0, .int .u64 0]) 56 rfl Try.underlying77 infoRn rfl (by decide) (by decide) v1 xs [nd] (some ⟨wr.heap.size + 1, 0, none⟩) 1 1 (fun _ => True) (fun _ => False) (by simp [Act.eval, Act.put]) (by simp [Act.eval, Act.put]) HO4.out (read_N hx4c.out) Rn_M (fun _ hk => hk.elim) (fun _ _ => trivial) HB4.out HB4.out.size (by omega) ?_; intro v2 w5 ho5 hb5 hg5 hat5; have HO5 := Aside0.mk ho5; have hbw5 : Below wr.heap.size wr w5 := hb5; have hs5 : wr.heap.size ≤ w5.heap.size := hb5.size; have HB5 := Aside0.mk hb5; have f0' := blk_frozen (blk_below KA.out hb5) 0; have c0' : w5.cell? ⟨a, 0, none⟩ = some (.slice A xs.length c) := blk_cell (blk_below KA.out hb5) 0; clear hb5 ho5 hg5 hat5; obtain ⟨A2, c2, rfl⟩ := Kd.R_slice HO5.out) | (refine Kd.R_append_rows_step kRn (Rr := kRn.K w4) (w0 := wr) (W := w4) wr.heap.size rfl (.tmp 49) (.tmp 51) 77 84 (.agg #[.int .i64 0, .int .u32 0, .int .i64 0, .int .i64 0, .int .i64 0, .int .i64 0, .int .u64 0]) 56 rfl Try.underlying77 infoRn rfl (by decide) (by decide) v1 xs [nd] (some ⟨wr.heap.size, 0, none⟩) 1 1 (fun _ => True) (fun _ => False) (by simp [Act.eval, Act.put]) (by simp [Act.eval, Act.put]) HO4.out (read_N hx4b.out) Rn_M (fun _ hk => hk.elim) (fun _ _ => trivial) HB4.out HB4.out.size (by omega) ?_; intro v2 w5 ho5 hb5 hg5 hat5; have HO5 := Aside0.mk ho5; have hbw5 : Below wr.heap.size wr w5 := hb5; have hs5 : wr.heap.size ≤ w5.heap.size := hb5.size; have HB5 := Aside0.mk hb5; have f0' := blk_frozen (blk_below KA.out hb5) 0; have c0' : w5.cell? ⟨a, 0, none⟩ = some (.slice A xs.length c) := blk_cell (blk_below KA.out hb5) 0; clear hb5 ho5 hg5 hat5; obtain ⟨A2, c2, rfl⟩ := Kd.R_slice HO5.out))
          all_goals go_wp2_with (fail)
          all_goals
            have KAX := blk_put (blk_below KA.out hbw5) 0 (.slice A2 (xs ++ [nd]).length c2) (cs' := #[.slice A2 (xs ++ [nd]).length c2, .int .i64 most]) rfl
            have KRX := blk_far (p := ⟨a, 0, none⟩) (blk_below KR.out hbw5) hga.out (.slice A2 (xs ++ [nd]).length c2)
            have HRX := Kd.R_set HO5.out (blk_below KA.out hbw5) tyRn 0 (.slice A2 (xs ++ [nd]).length c2)
            have HRY := rn_more (G := G) HRX HB.out.size
            have HBX := ((HB.out.trans (HB5.out.mono HB.out.size)).setCell (p := ⟨a, 0, none⟩) haw.out (.slice A2 (xs ++ [nd]).length c2))
            simp only [List.length_append, List.length_cons, List.length_nil, Nat.zero_add] at KAX KRX HRY HBX ⊢
            have FIN := Aside0.mk (And.intro KAX (And.intro KRX (And.intro HRY HBX)))
            clear KAX KRX HRX HRY HBX
            go_meet
          all_goals exact ⟨A2, c2, FIN.out⟩
        case rest =>
          obtain ⟨A', c', ka, kg, hR2, hB2⟩ := hcut
          have HR2 := Aside0.mk hR2
          have HB2 := Aside0.mk hB2
          have KAX := Aside0.mk ka
          have KRX := Aside0.mk kg
          have a0 := blk_cell KAX.out 0
          have a1 := blk_cell KAX.out 1
          have g0 := blk_cell KRX.out 0
          have g1 := blk_cell KRX.out 1
          have f0 := blk_frozen KRX.out 0
          have f1 := blk_frozen KRX.out 1
          simp only [List.getElem?_toArray, List.getElem?_cons_zero, List.getElem?_cons_succ] at a0 a1 g0 g1
          clear hR2 hB2 ka kg cA cAA
          go_upto_region 10 with (fail)
          go_region
          go_wp2_with (fail)
          have HBF : Below w.heap.size w ((wc.setCell ⟨g, 0, none⟩ (.slice A' (xs.length + 1) c')).setCell ⟨g, 1, none⟩ (.int .i64 most)).drew := ((HB2.out.setCell hwg _).setCell hwg _).drew
          have HRF := Kd.R_drew (Kd.R_set (Kd.R_set HR2.out KRX.out tyRn 0 (.slice A' (xs.length + 1) c')) (blk_set KRX.out 0 (.slice A' (xs.length + 1) c')) tyRn 1 (.int .i64 most))
          refine bodyPost_ret (v := .tuple #[.agg #[.slice A' (xs.length + 1) c', .int .i64 most], .int .i64 xs.length, .int .i64 0]) (by simp [results, Try.results109, go_sem, g0, g1]) rfl ⟨A', c', by rw [hR.out]; simp, by rw [hR.out]; simpa using HRF, HBF⟩
end Go.Proofs.Ytbkbkgfpnefilaa.ar
namespace Go.Proofs.Ytbkbkgfpnefilaa.ar
open Go.RowKit Go.Proofs.YtbkbkgfpnefilaaW.PrintWords Go.Proofs.YtbkbkgfpnefilaaW.PrintLast Go.Proofs.YtbkbkgfpnefilaaW.PrintMore Go.Proofs.Ytbkbkgfpnefilaa.bs Go.ChangeShapes Go.Proofs.Ytbkbkgfpnefilaa.lb Go.Proofs.Ytbkbkgfpnefilaa.sts

theorem sumS_take_succ (l : List Int) (k : Nat) (x : Int) (h : l[k]? = some x) : sumS (l.take (k + 1)) = sumS (l.take k) + (x % 2 + x / 2) := by
  induction l generalizing k with
  | nil => simp at h
  | cons y l ih =>
    cases k with
    | zero => simp at h; subst h; simp [sumS]
    | succ k => simp at h; simp only [List.take_succ_cons, sumS]; rw [ih k h]; omega
theorem sumS_bd (l : List Int) (h : ∀ (k : Nat) (x : Int), l[k]? = some x → 0 ≤ x ∧ x ≤ 3) : 0 ≤ sumS l ∧ sumS l ≤ 2 * l.length := by
  induction l with
  | nil => simp [sumS]
  | cons y l ih =>
    have h1 := h 0 y rfl
    have h2 := ih (fun (k : Nat) (x : Int) (hx : l[k]? = some x) => h (k + 1) x (by simpa using hx))
    simp only [sumS, List.length_cons]
    omega
set_option maxHeartbeats 1000000 in
theorem rleaf_walk (xs : List Nd) (most : Int) (f : Nat) (hf : f < 4294967296) (A : Option Addr) (c : Nat) (G : Nat → Prop) (w : World) (hr0 : Kd.R kRn 84 w 0 G (.slice A xs.length c) xs) (hN9 : xs.length < 536870912) :
    Calls Try.prog 82 #[.agg #[.slice A xs.length c, .int .i64 most], .int .u32 f] w fun e w' => RaddPost G w most (raddR xs most ⟨leafKey f, popN 32 f⟩) e w' := by
  have HR0 := Aside0.mk hr0
  have hst := states_calls f hf
  clear hr0
  go_enter Try.func82, Try.ntmps82
  go_wp2_with (fail)
  refine (hst _).mono ?_
  rintro e w1 ⟨v, rfl, hrow, hb⟩
  clear hst
  have KA := Aside0.mk (blk_below (blk_below (blk_new w (.cells #[.slice A xs.length c, .int .i64 most] 79)) (below_alloc (Below.refl _ _) (.cells #[.slice none 0 0, .int .i64 0] 79))) hb)
  have KG := Aside0.mk (blk_below (blk_new (w.alloc (.cells #[.slice A xs.length c, .int .i64 most] 79)) (.cells #[.slice none 0 0, .int .i64 0] 79)) hb)
  have HB := Aside0.mk (chain (below_alloc (below_alloc (Below.refl w.heap.size w) (.cells #[.slice A xs.length c, .int .i64 most] 79)) (.cells #[.slice none 0 0, .int .i64 0] 79)) hb (by simp; omega))
  rw [show (w.alloc (.cells #[.slice A xs.length c, .int .i64 most] 79)).heap.size = w.heap.size + 1 by simp] at KG
  have hlen := digs_len (f : Int) 16 0
  obtain ⟨bs, cb, rfl, _⟩ := Kd.R_form hrow (by omega)
  have hbd := Aside0.mk (digs_bd (f : Int) 16 0)
  have hsum : Aside0 (sumS (digs (f : Int) 16 0) = ((popN 32 f : Nat) : Int)) := ⟨by have := sumS_digs (f : Int) (by omega) 16 0; simpa using this⟩
  generalize digs (f : Int) 16 0 = ds at *
  have ROW := Aside0.mk hrow
  have hag : w.heap.size ≠ w.heap.size + 1 := by omega
  obtain ⟨a, ha⟩ : ∃ a, w.heap.size = a := ⟨_, rfl⟩
  simp only [ha] at KA ⊢
  obtain ⟨g, hg⟩ : ∃ g, w.heap.size + 1 = g := ⟨_, rfl⟩
  rw [hg] at KG
  have hwg : Aside0 (w.heap.size ≤ g) := ⟨by omega⟩
  rw [ha] at hg
  simp only [hg]
  simp only [hlen]
  have HL := Aside0.mk hlen
  clear hrow hb hag ha hg hlen
  go_wp2_with (fail)
  go_loopg [7, 13] 16 (fun kq v7 v13 w' => ∃ k : Nat, k + kq = 16 ∧ v13 = .int .i64 k ∧ v7 = .int .u64 (sumS (ds.take k)) ∧ w' = w1)
  case atStart => exact ⟨0, by omega, rfl, rfl, rfl⟩
  case round =>
    obtain ⟨k, hk, rfl, rfl, rfl⟩ := hrel
    by_cases hlt : k < 16
    · obtain ⟨gk, rfl⟩ : ∃ m, gk = m + 1 := ⟨gk - 1, by omega⟩
      have hlen := HL.out
      have hc := Kd.R_cell (enc := Value.int .i64) (h1 := fun _ => rfl) 0 ROW.out (k : Int) (by omega) (by omega)
      rw [Int.toNat_natCast] at hc
      obtain ⟨x, hx⟩ : ∃ x, ds[k]? = some x := ⟨_, List.getElem?_eq_getElem (by omega)⟩
      have hxb := hbd.out k x hx
      have hts := Aside0.mk (sumS_take_succ ds k x hx)
      have htb := sumS_bd (ds.take k) (fun j y hy => hbd.out j y (by rw [List.getElem?_take] at hy; split at hy <;> simp_all))
      rw [List.length_take] at htb
      rw [show rdOf 0 ds (k : Int) = x by simp [rdOf, hx]] at hc
      obtain ⟨hc1, hc2⟩ := hc
      clear hlen hx
      have e1 : wrap64 ((k : Int) + 1) = ((k + 1 : Nat) : Int) := by unfold wrap64; omega
      have E1 := Aside0.mk e1
      clear e1
      have hq : x / 2 = 0 ∨ x / 2 = 1 := by omega
      have hx1 : 0 ≤ x % 2 + x / 2 ∧ x % 2 + x / 2 ≤ 2 := by omega
      go_wp2_with (fail)
      go_roundg gk
      · exact ⟨k + 1, by omega, by first | rfl | rw [E1.out] | simp, by rw [hts.out], rfl⟩
      · omega
    · obtain rfl : k = 16 := by omega
      have hl := HL.out
      have hs2 := hsum.out
      rw [List.take_of_length_le (by omega), hs2]
      have a0 := blk_cell KA.out 0
      have a1 := blk_cell KA.out 1
      have g0 := blk_cell KG.out 0
      have g1 := blk_cell KG.out 1
      have f0 := blk_frozen KG.out 0
      have f1 := blk_frozen KG.out 1
      simp only [List.getElem?_toArray, List.getElem?_cons_zero, List.getElem?_cons_succ] at a0 a1 g0 g1
      clear hl hs2
      have HC := Aside0.mk (radd_walk xs most ⟨leafKey f, (popN 32 f : Nat)⟩ A c G wr (Kd.R_below HR0.out HB.out) hN9)
      go_wp2_with (fail)
      refine HC.out.mono ?_
      rintro e w2 ⟨A', c', rfl, hR2, hB2⟩
      have HR2 := Aside0.mk hR2
      have HB2 := Aside0.mk (chain HB.out hB2 HB.out.size)
      have KG2 := Aside0.mk (blk_below KG.out hB2)
      have g0 := blk_cell KG2.out 0
      have g1 := blk_cell KG2.out 1
      have f0 := blk_frozen KG2.out 0
      have f1 := blk_frozen KG2.out 1
      simp only [List.getElem?_toArray, List.getElem?_cons_zero, List.getElem?_cons_succ] at g0 g1
      clear hR2 hB2
      obtain ⟨r, hre⟩ : ∃ r, raddR xs most ⟨leafKey f, (popN 32 f : Nat)⟩ = r := ⟨_, rfl⟩
      simp only [hre] at HR2 ⊢
      have RE := Aside0.mk hre
      clear hre HC
      go_wp2_with (fail)
      have HBF : Below w.heap.size w ((w2.setCell ⟨g, 0, none⟩ (.slice A' r.1.length c')).setCell ⟨g, 1, none⟩ (.int .i64 most)) := (HB2.out.setCell hwg.out _).setCell hwg.out _
      have HRF := Kd.R_set (Kd.R_set HR2.out KG2.out tyRn 0 (.slice A' r.1.length c')) (blk_set KG2.out 0 (.slice A' r.1.length c')) tyRn 1 (.int .i64 most)
      have hws := HB.out.size
      refine bodyPost_ret (v := .tuple #[.agg #[.slice A' r.1.length c', .int .i64 most], .int .i64 r.2.1, .int .i64 r.2.2]) (by simp [results, Try.results82, go_sem, g0, g1]) rfl ?_
      rw [RE.out]
      exact ⟨A', c', rfl, Kd.R_mono HRF (fun k hk => hk.elim (fun h => .inl h) (fun h => .inr (Nat.le_trans hws h))), HBF⟩
end Go.Proofs.Ytbkbkgfpnefilaa.ar
namespace Go.Proofs.Ytbkbkgfpnefilaa.ar
open Go.RowKit Go.Proofs.YtbkbkgfpnefilaaW.PrintWords Go.Proofs.YtbkbkgfpnefilaaW.PrintLast Go.Proofs.YtbkbkgfpnefilaaW.PrintMore Go.Proofs.Ytbkbkgfpnefilaa.bs Go.ChangeShapes Go.Proofs.Ytbkbkgfpnefilaa.lb

/-- a place of the list, of the first one's level -/
def okR (xs : List Nd) (k0 k : Int) : Prop := 0 ≤ k ∧ k < xs.length ∧ 0 ≤ k0 ∧ k0 < xs.length ∧ lvAt xs k = lvAt xs k0
instance (xs : List Nd) (k0 k : Int) : Decidable (okR xs k0 k) := by unfold okR; infer_instance
def fitsR (xs : List Nd) (k0 k1 k2 k3 : Int) : Prop := okR xs k0 k0 ∧ okR xs k0 k1 ∧ okR xs k0 k2 ∧ okR xs k0 k3
instance (xs : List Nd) (k0 k1 k2 k3 : Int) : Decidable (fitsR xs k0 k1 k2 k3) := by unfold fitsR; infer_instance
def rjoinR (xs : List Nd) (most : Int) (k0 k1 k2 k3 : Int) : List Nd × Int × Int :=
  if fitsR xs k0 k1 k2 k3 then
    if 43 < lvAt xs k0 then (xs, 0, 7) else raddR xs most ⟨⟨lvAt xs k0 + 1, 0, k0, k1, k2, k3⟩, sumTo xs k0 k1 k2 k3 4⟩
  else (xs, 0, 4)
theorem fitsR_of {xs : List Nd} {k0 k1 k2 k3 : Int} (h : ∀ i, i < 4 → okR xs k0 (kidOf k0 k1 k2 k3 i)) : fitsR xs k0 k1 k2 k3 := ⟨h 0 (by omega), h 1 (by omega), h 2 (by omega), h 3 (by omega)⟩
theorem of_fitsR {xs : List Nd} {k0 k1 k2 k3 : Int} (h : fitsR xs k0 k1 k2 k3) : ∀ i, i < 4 → okR xs k0 (kidOf k0 k1 k2 k3 i) := by
  intro i hi
  obtain ⟨h0, h1, h2, h3⟩ := h
  have : i = 0 ∨ i = 1 ∨ i = 2 ∨ i = 3 := by omega
  rcases this with rfl | rfl | rfl | rfl
  · exact h0
  · exact h1
  · exact h2
  · exact h3
theorem index4i (w : World) (a b c d : Int) : ∀ j : Nat, j < 4 → (Instr.index 82 (.agg #[.int .i64 a, .int .i64 b, .int .i64 c, .int .i64 d]) (.int .i64 j)).run Try.prog w = .ok (.int .i64 (kidOf a b c d j)) w
  | 0, _ => by kernel_rfl
  | 1, _ => by kernel_rfl
  | 2, _ => by kernel_rfl
  | 3, _ => by kernel_rfl
  | n + 4, h => by omega
theorem kidOf_i64 {k0 k1 k2 k3 : Int} (h0 : -9223372036854775808 ≤ k0 ∧ k0 ≤ 9223372036854775807) (h1 : -9223372036854775808 ≤ k1 ∧ k1 ≤ 9223372036854775807) (h2 : -9223372036854775808 ≤ k2 ∧ k2 ≤ 9223372036854775807) (h3 : -9223372036854775808 ≤ k3 ∧ k3 ≤ 9223372036854775807) (j : Nat) :
    -9223372036854775808 ≤ kidOf k0 k1 k2 k3 j ∧ kidOf k0 k1 k2 k3 j ≤ 9223372036854775807 := by
  match j with
  | 0 => exact h0
  | 1 => exact h1
  | 2 => exact h2
  | 3 => exact h3
  | n + 4 => exact ⟨by simp [kidOf], by simp [kidOf]⟩
/-- a node's kids: none of a leaf; else places of the list -/
def KidOk (n : Nat) (x : Nd) : Prop := 2 ≤ x.key.level ∧ (x.key.level = 2 → x.key.k0 = 0 ∧ x.key.k1 = 0 ∧ x.key.k2 = 0 ∧ x.key.k3 = 0) ∧ (2 < x.key.level → ∀ j, j < 4 → 0 ≤ kidOf x.key.k0 x.key.k1 x.key.k2 x.key.k3 j ∧ kidOf x.key.k0 x.key.k1 x.key.k2 x.key.k3 j < n)
theorem KidOk.mono {n m : Nat} {x : Nd} (h : KidOk n x) (hm : n ≤ m) : KidOk m x := ⟨h.1, h.2.1, fun hl j hj => by have := h.2.2 hl j hj; omega⟩
/-- what a node of the list may be -/
def RnOk (xs : List Nd) : Prop := ∀ (i : Nat) (x : Nd), xs[i]? = some x → 0 ≤ x.key.level ∧ x.key.level ≤ 100 ∧ 0 ≤ x.count ∧ x.count ≤ 4611686018427387904 ∧ KidOk xs.length x
theorem fits_kid {xs : List Nd} (hok : RnOk xs) {k0 k1 k2 k3 : Int} (hf : fitsR xs k0 k1 k2 k3) (c : Int) : KidOk xs.length ⟨⟨lvAt xs k0 + 1, 0, k0, k1, k2, k3⟩, c⟩ := by
  have h0 := hf.1
  have hlt : k0.toNat < xs.length := by have := h0.1; have := h0.2.1; omega
  have hl := (hok _ _ (List.getElem?_eq_getElem hlt)).2.2.2.2.1
  have hlv : lvAt xs k0 = (xs[k0.toNat]'hlt).key.level := lvAt_some (List.getElem?_eq_getElem hlt)
  refine ⟨by show 2 ≤ lvAt xs k0 + 1; omega, fun h => ?_, fun _ j hj => ?_⟩
  · have h2 : lvAt xs k0 + 1 = 2 := h
    omega
  · have := of_fitsR hf j hj
    exact ⟨this.1, this.2.1⟩
theorem three_new (w : World) (c1 c2 c3 : Array Value) (t1 t2 t3 : TypeId) : (((w.alloc (.cells c1 t1)).alloc (.cells c2 t2)).alloc (.cells c3 t3)).heap[w.heap.size]? = some (.cells c1 t1 (0, 0)) ∧ (((w.alloc (.cells c1 t1)).alloc (.cells c2 t2)).alloc (.cells c3 t3)).heap[w.heap.size + 1]? = some (.cells c2 t2 (0, 0)) ∧ (((w.alloc (.cells c1 t1)).alloc (.cells c2 t2)).alloc (.cells c3 t3)).heap[w.heap.size + 1 + 1]? = some (.cells c3 t3 (0, 0)) ∧ Below w.heap.size w (((w.alloc (.cells c1 t1)).alloc (.cells c2 t2)).alloc (.cells c3 t3)) := by
  refine ⟨blk_below (blk_new w (.cells c1 t1)) (below_alloc (below_alloc (Below.refl _ _) _) _), ?_, ?_, below_alloc (below_alloc (below_alloc (Below.refl _ _) _) _) _⟩
  · have h := blk_below (blk_new (w.alloc (.cells c1 t1)) (.cells c2 t2)) (below_alloc (Below.refl _ _) (.cells c3 t3))
    rwa [show (w.alloc (.cells c1 t1)).heap.size = w.heap.size + 1 by simp] at h
  · have h := blk_new ((w.alloc (.cells c1 t1)).alloc (.cells c2 t2)) (.cells c3 t3)
    rwa [show ((w.alloc (.cells c1 t1)).alloc (.cells c2 t2)).heap.size = w.heap.size + 1 + 1 by simp] at h
theorem rn_get {w : World} {A : Option Addr} {xs : List Nd} (h : Kd.C kRn w A xs.length xs) (k : Int) (h0 : 0 ≤ k) (h1 : k < xs.length) : ∃ x ad, A = some ad ∧ xs[k.toNat]? = some x ∧
    w.cell? (ad.add (k.toNat * 7)) = some (.int .i64 x.key.level) ∧ w.cell? ⟨(ad.add (k.toNat * 7)).block, (ad.add (k.toNat * 7)).off + 6, none⟩ = some (.int .u64 x.count) := by
  obtain ⟨ad, e, c0, c1, c2, c3, c4, c5, c6⟩ := at_Rn h k h0 h1
  have hlt : k.toNat < xs.length := by omega
  have hx : xs[k.toNat]? = some (xs.getD k.toNat zNd) := by rw [List.getD_eq_getElem?_getD, List.getElem?_eq_getElem hlt]; rfl
  exact ⟨_, ad, e, hx, c0, c6⟩
theorem sJoin {w' : World} {a b n c : Nat} {ad : Addr} {G : Nat → Prop} {xs : List Nd} {most k0 k1 k2 k3 l : Int} {x0 : Nd} {ta tb : TypeId} (ka : w'.heap[a]? = some (.cells #[.slice (some ad) n c, .int .i64 most] ta (0, 0))) (kb : w'.heap[b]? = some (.cells #[.int .i64 k0, .int .i64 k1, .int .i64 k2, .int .i64 k3] tb (0, 0)))
    (hR : Kd.R kRn 84 w' 0 G (.slice (some ad) n c) xs) (hb : 0 ≤ k0 ∧ k0 < xs.length) (hx0 : xs[k0.toNat]? = some x0) (hl : x0.key.level = l) : w'.cell? ⟨a, 0, none⟩ = some (.slice (some ad) n c) ∧ w'.cell? ⟨a, 1, none⟩ = some (.int .i64 most) ∧ w'.cell? ⟨b, 0, none⟩ = some (.int .i64 k0) ∧ w'.cell? ⟨b, 1, none⟩ = some (.int .i64 k1) ∧ w'.cell? ⟨b, 2, none⟩ = some (.int .i64 k2) ∧ w'.cell? ⟨b, 3, none⟩ = some (.int .i64 k3) ∧ w'.cell? (ad.add (k0.toNat * 7)) = some (.int .i64 l) := by
  obtain ⟨rfl, _, hC⟩ := Kd.R_reads' hR
  obtain ⟨x, ad', e', hx, q, _⟩ := rn_get hC k0 hb.1 hb.2
  obtain rfl := Option.some.inj e'
  rw [hx0] at hx
  obtain rfl := Option.some.inj hx
  exact ⟨blk_cell ka 0, blk_cell ka 1, blk_cell kb 0, blk_cell kb 1, blk_cell kb 2, blk_cell kb 3, by rw [q, hl]⟩
theorem buildRn (w : World) (l p0 p1 p2 p3 c : Int) : (Instr.build 84 #[(0, .int .i64 l), (2, .agg #[.int .i64 p0, .int .i64 p1, .int .i64 p2, .int .i64 p3]), (3, .int .u64 c)]).run Try.prog w = .ok (.agg #[.int .i64 l, .int .u32 0, .int .i64 p0, .int .i64 p1, .int .i64 p2, .int .i64 p3, .int .u64 c]) w := by kernel_rfl
attribute [local go_sem high] buildRn
attribute [local go_sem] min_two
set_option maxHeartbeats 4000000 in
set_option maxRecDepth 100000 in
theorem rjoin_walk (xs : List Nd) (most : Int) (k0 k1 k2 k3 : Int) (b0 : -9223372036854775808 ≤ k0 ∧ k0 ≤ 9223372036854775807) (b1 : -9223372036854775808 ≤ k1 ∧ k1 ≤ 9223372036854775807) (b2 : -9223372036854775808 ≤ k2 ∧ k2 ≤ 9223372036854775807) (b3 : -9223372036854775808 ≤ k3 ∧ k3 ≤ 9223372036854775807)
    (A : Option Addr) (c : Nat) (G : Nat → Prop) (w : World) (hr0 : Kd.R kRn 84 w 0 G (.slice A xs.length c) xs) (hok : RnOk xs) (hN9 : xs.length < 536870912) :
    Calls Try.prog 83 #[.agg #[.slice A xs.length c, .int .i64 most], .agg #[.int .i64 k0, .int .i64 k1, .int .i64 k2, .int .i64 k3]] w fun e w' => RaddPost G w most (rjoinR xs most k0 k1 k2 k3) e w' := by
  have HR0 := Aside0.mk hr0
  have HC0 := Aside0.mk (Kd.R_reads' hr0).2.2
  have HOK := Aside0.mk hok
  have hidx := fun (w : World) (j : Nat) (h : j < 4) => index4i w k0 k1 k2 k3 j h
  have hkb := kidOf_i64 b0 b1 b2 b3
  clear hr0 hok
  go_enter Try.func83, Try.ntmps83
  go_wp2_with (fail)
  obtain ⟨ka, kb, kg, hB⟩ := three_new w #[.slice A xs.length c, .int .i64 most] #[.int .i64 k0, .int .i64 k1, .int .i64 k2, .int .i64 k3] #[.slice none 0 0, .int .i64 0] 79 82 79
  have KA := Aside0.mk ka
  have KB := Aside0.mk kb
  have KG := Aside0.mk kg
  have HB := Aside0.mk hB
  clear ka kb kg hB
  generalize ((w.alloc (.cells #[.slice A xs.length c, .int .i64 most] 79)).alloc (.cells #[.int .i64 k0, .int .i64 k1, .int .i64 k2, .int .i64 k3] 82)).alloc (.cells #[.slice none 0 0, .int .i64 0] 79) = w1 at *
  have hwg : Aside0 (w.heap.size ≤ w.heap.size + 1 + 1) := ⟨by omega⟩
  have hag : Aside0 (w.heap.size ≠ w.heap.size + 1 + 1) := ⟨by omega⟩
  have hbg : Aside0 (w.heap.size + 1 ≠ w.heap.size + 1 + 1) := ⟨by omega⟩
  generalize w.heap.size + 1 + 1 = g at *
  generalize w.heap.size + 1 = b at *
  obtain ⟨a, ha⟩ : ∃ a, w.heap.size = a := ⟨_, rfl⟩
  simp only [ha] at KA hag ⊢
  clear ha
  go_loopg [7, 11] 4 (fun kq c7 c11 w' => ∃ j : Nat, j + kq = 4 ∧ c11 = .int .i64 j ∧ c7 = .int .u64 (sumTo xs k0 k1 k2 k3 j) ∧ 0 ≤ sumTo xs k0 k1 k2 k3 j ∧ sumTo xs k0 k1 k2 k3 j ≤ 4611686018427387904 ∧ Aside0 (∀ i, i < j → okR xs k0 (kidOf k0 k1 k2 k3 i)) ∧ Aside0 (w'.heap[a]? = some (.cells #[.slice A xs.length c, .int .i64 most] 79 (0, 0))) ∧ Aside0 (w'.heap[b]? = some (.cells #[.int .i64 k0, .int .i64 k1, .int .i64 k2, .int .i64 k3] 82 (0, 0))) ∧ Aside0 (w'.heap[g]? = some (.cells #[.slice none 0 0, .int .i64 0] 79 (0, 0))) ∧ Aside0 (Below w.heap.size w w'))
  case atStart => exact ⟨0, by omega, rfl, rfl, by simp [sumTo], by simp [sumTo], ⟨fun i hi => by omega⟩, KA, KB, KG, HB⟩
  case round =>
    clear KA KB KG HB
    obtain ⟨j, hj, rfl, rfl, hs0, hs62, HL, KA, KB, KG, HB⟩ := hrel
    have hmx := Kd.C_max HC0.out
    have a0 := blk_cell KA.out 0
    have a1 := blk_cell KA.out 1
    have q0 := blk_cell KB.out 0
    have g0 := blk_cell KG.out 0
    have g1 := blk_cell KG.out 1
    have f0 := blk_frozen KG.out 0
    have f1 := blk_frozen KG.out 1
    simp only [List.getElem?_toArray, List.getElem?_cons_zero, List.getElem?_cons_succ] at a0 a1 q0 g0 g1
    have HBF : ∀ n : Nat, Aside0 (Below w.heap.size w (((wr.drewN n).setCell ⟨g, 0, none⟩ (.slice A xs.length c)).setCell ⟨g, 1, none⟩ (.int .i64 most))) := fun n => ⟨((pw_below_drewN HB.out n).setCell hwg.out _).setCell hwg.out _⟩
    by_cases h4 : j < 4
    · obtain ⟨gk, rfl⟩ : ∃ m, gk = m + 1 := ⟨gk - 1, by omega⟩
      have hi := fun w => hidx w j h4
      have hkv := hkb j
      have hsum := Aside0.mk (show sumTo xs k0 k1 k2 k3 (j + 1) = cap62 (sumTo xs k0 k1 k2 k3 j + cntAt xs (kidOf k0 k1 k2 k3 j)) from rfl)
      have hkv0 := Aside0.mk (fun (h : j = 0) => (show kidOf k0 k1 k2 k3 j = k0 by subst h; rfl))
      have hnext := Aside0.mk (fun (h : okR xs k0 (kidOf k0 k1 k2 k3 j)) => (show ∀ i, i < j + 1 → okR xs k0 (kidOf k0 k1 k2 k3 i) from fun i hi => by
        by_cases e : i = j
        · subst e; exact h
        · exact HL.out i (by omega)))
      have hbad := Aside0.mk (fun (h : ¬ okR xs k0 (kidOf k0 k1 k2 k3 j)) => (show rjoinR xs most k0 k1 k2 k3 = (xs, 0, 4) from if_neg (fun hf => h (of_fitsR hf j h4))))
      generalize kidOf k0 k1 k2 k3 j = kv at *
      generalize hsv : sumTo xs k0 k1 k2 k3 j = sm at *
      clear hidx hkb hsv
      go_upto_region 5 with (fail)
      clear hi
      by_cases h1 : kv < 0
      · as_aux_lemma =>
        have hres := Aside0.mk (hbad.out (fun h => by have := h.1; omega))
        clear hsum hkv0 hnext hbad HL
        go_quiet (fail)
        go_wp2_with (fail)
        have HBX := HBF nq
        have HRX := Kd.R_set (Kd.R_set (Kd.R_below HR0.out (pw_below_drewN HB.out nq)) (blk_drewN KG.out nq) tyRn 0 (.slice A xs.length c)) (blk_set (blk_drewN KG.out nq) 0 (.slice A xs.length c)) tyRn 1 (.int .i64 most)
        refine bodyPost_ret (v := .tuple #[.agg #[.slice A xs.length c, .int .i64 most], .int .i64 0, .int .i64 4]) (by simp [results, Try.results83, go_sem, g0, g1]) rfl ?_
        rw [hres.out]
        exact ⟨A, c, rfl, Kd.R_mono HRX (fun _ h => .inl h), HBX.out⟩
      · by_cases h2 : (xs.length : Int) ≤ kv
        · as_aux_lemma =>
          have hres := Aside0.mk (hbad.out (fun h => by have := h.2.1; omega))
          clear hsum hkv0 hnext hbad HL
          go_quiet (fail)
          go_wp2_with (fail)
          have HBX := HBF nq
          have HRX := Kd.R_set (Kd.R_set (Kd.R_below HR0.out (pw_below_drewN HB.out nq)) (blk_drewN KG.out nq) tyRn 0 (.slice A xs.length c)) (blk_set (blk_drewN KG.out nq) 0 (.slice A xs.length c)) tyRn 1 (.int .i64 most)
          refine bodyPost_ret (v := .tuple #[.agg #[.slice A xs.length c, .int .i64 most], .int .i64 0, .int .i64 4]) (by simp [results, Try.results83, go_sem, g0, g1]) rfl ?_
          rw [hres.out]
          exact ⟨A, c, rfl, Kd.R_mono HRX (fun _ h => .inl h), HBX.out⟩
        · have hk0 : 0 ≤ k0 ∧ k0 < xs.length := by
            by_cases e : j = 0
            · have := hkv0.out e; omega
            · have h := HL.out 0 (by omega)
              exact ⟨h.2.2.1, h.2.2.2.1⟩
          obtain ⟨x, ad, rfl, hx, qx, qc⟩ := rn_get (Kd.C_below HC0.out HB.out) kv (by omega) (by omega)
          obtain ⟨x0, ad', e', hx0, q0l, q0c⟩ := rn_get (Kd.C_below HC0.out HB.out) k0 (by omega) (by omega)
          obtain rfl := Option.some.inj e'
          have hlx : lvAt xs kv = x.key.level := lvAt_some hx
          have hl0 : lvAt xs k0 = x0.key.level := lvAt_some hx0
          have hcx : cntAt xs kv = x.count := cntAt_some hx
          have hokx := HOK.out _ x hx
          clear e'
          have d1 : decide (kv < 0) = false := by simp; omega
          have d2 : decide (kv ≥ (xs.length : Int)) = false := by simp; omega
          have d3 : decide (k0 < 0) = false := by simp; omega
          have d4 : decide (k0 ≥ (xs.length : Int)) = false := by simp; omega
          by_cases hne : x.key.level = x0.key.level
          · have hb : (x.key.level != x0.key.level) = false := by simp [hne]
            have hnx := Aside0.mk (hnext.out ⟨by omega, by omega, hk0.1, hk0.2, by rw [hlx, hl0, hne]⟩)
            have hsm := hsum.out
            rw [hcx] at hsm
            obtain ⟨cc, hcc, hmin⟩ : ∃ cc : Int, cap62 (sm + x.count) = cc ∧ Builtin.min2 (.int .u64 (sm + x.count)) (.int .u64 4611686018427387904) = pure (.int .u64 cc) := ⟨_, rfl, by rw [min2_int]; congr 2; unfold cap62; split <;> omega⟩
            have hcc0 : 0 ≤ cc ∧ cc ≤ 4611686018427387904 := by unfold cap62 at hcc; omega
            rw [hcc] at hsm
            have HSM := Aside0.mk hsm
            clear hsm hcc hne hlx hcx hl0 hsum hkv0 hnext hbad HL hx hx0
            go_quiet (fail)
            have KAd := Aside0.mk (blk_drewN KA.out nq)
            have KBd := Aside0.mk (blk_drewN KB.out nq)
            have KGd := Aside0.mk (blk_drewN KG.out nq)
            have HBd := Aside0.mk (pw_below_drewN HB.out nq)
            go_wp2_with (fail)
            go_roundg gk
            case measure => omega
            case rel => exact ⟨j + 1, by omega, by go_num, by rw [HSM.out], by rw [HSM.out]; exact hcc0.1, by rw [HSM.out]; exact hcc0.2, hnx, KAd, KBd, KGd, HBd⟩
          · as_aux_lemma =>
            have hb : (x.key.level != x0.key.level) = true := by simp [hne]
            have hres := Aside0.mk (hbad.out (fun h => hne (by have := h.2.2.2.2; rw [hlx, hl0] at this; exact this)))
            clear hne hlx hcx hl0 hsum hkv0 hnext hbad HL hx hx0
            go_quiet (fail)
            go_wp2_with (fail)
            have HBX := HBF nq
            have HRX := Kd.R_set (Kd.R_set (Kd.R_below HR0.out (pw_below_drewN HB.out nq)) (blk_drewN KG.out nq) tyRn 0 (.slice (some ad) xs.length c)) (blk_set (blk_drewN KG.out nq) 0 (.slice (some ad) xs.length c)) tyRn 1 (.int .i64 most)
            refine bodyPost_ret (v := .tuple #[.agg #[.slice (some ad) xs.length c, .int .i64 most], .int .i64 0, .int .i64 4]) (by simp [results, Try.results83, go_sem, g0, g1]) rfl ?_
            rw [hres.out]
            exact ⟨some ad, c, rfl, Kd.R_mono HRX (fun _ h => .inl h), HBX.out⟩
    · obtain rfl : j = 4 := by omega
      have hf := fitsR_of HL.out
      have hJ : rjoinR xs most k0 k1 k2 k3 = if 43 < lvAt xs k0 then (xs, 0, 7) else raddR xs most ⟨⟨lvAt xs k0 + 1, 0, k0, k1, k2, k3⟩, sumTo xs k0 k1 k2 k3 4⟩ := if_pos hf
      have hk0 := hf.1
      obtain ⟨x0, ad, rfl, hx0, q0l, q0c⟩ := rn_get (Kd.C_below HC0.out HB.out) k0 hk0.1 hk0.2.1
      have hk1 := hk0.1
      have hk2 := hk0.2.1
      have hl0 : lvAt xs k0 = x0.key.level := lvAt_some hx0
      have hok0 := HOK.out _ x0 hx0
      rw [hl0] at hJ
      generalize sumTo xs k0 k1 k2 k3 4 = sm at *
      have q1 := blk_cell KB.out 1
      have q2 := blk_cell KB.out 2
      have q3 := blk_cell KB.out 3
      simp only [List.getElem?_toArray, List.getElem?_cons_zero, List.getElem?_cons_succ] at q1 q2 q3
      have hx0' := hx0
      have HRr := Aside0.mk (Kd.R_below HR0.out HB.out)
      clear hl0 hx0 hk0 hf HL q0c hidx hkb
      by_cases hd : 43 < x0.key.level
      · as_aux_lemma =>
        have hres := Aside0.mk (hJ.trans (if_pos hd))
        clear hJ
        have HB0 := Aside0.mk ((HB.out.setCell (p := ⟨g, 0, none⟩) hwg.out (.slice (some ad) xs.length c)).setCell (p := ⟨g, 1, none⟩) hwg.out (.int .i64 most))
        go_wp2_with (fail)
        have HRX := Kd.R_set (Kd.R_set (Kd.R_below HR0.out HB.out) KG.out tyRn 0 (.slice (some ad) xs.length c)) (blk_set KG.out 0 (.slice (some ad) xs.length c)) tyRn 1 (.int .i64 most)
        refine bodyPost_ret (v := .tuple #[.agg #[.slice (some ad) xs.length c, .int .i64 most], .int .i64 0, .int .i64 7]) (by simp [results, Try.results83, go_sem, g0, g1]) rfl ?_
        rw [hres.out]
        exact ⟨some ad, c, rfl, Kd.R_mono HRX (fun _ h => .inl h), HB0.out⟩
      · have hres := Aside0.mk (hJ.trans (if_neg hd))
        clear hJ
        obtain ⟨l1, hl1⟩ : ∃ l1, x0.key.level + 1 = l1 := ⟨_, rfl⟩
        have hwl : IntKind.i64.wrap (x0.key.level + 1) = l1 := by rw [IntKind.wrap_i64]; omega
        rw [hl1] at hres
        clear hl1
        have hadd := radd_walk xs most ⟨⟨l1, 0, k0, k1, k2, k3⟩, sm⟩ (some ad) c G wr.drew (Kd.R_drew HRr.out) hN9
        dsimp only at hadd
        obtain ⟨r, hr⟩ : ∃ r, raddR xs most ⟨⟨l1, 0, k0, k1, k2, k3⟩, sm⟩ = r := ⟨_, rfl⟩
        rw [hr] at hadd hres
        clear hr
        have HADD := Aside0.mk hadd
        clear hadd
        go_upto_region 11 with (fail)
        have HX0 := Aside0.mk hx0'
        clear hx0'
        go_region_held_law (fun w' => w'.cell? ⟨a, 0, none⟩ = some (.slice (some ad) xs.length c) ∧ w'.cell? ⟨a, 1, none⟩ = some (.int .i64 most) ∧ w'.cell? ⟨b, 0, none⟩ = some (.int .i64 k0) ∧ w'.cell? ⟨b, 1, none⟩ = some (.int .i64 k1) ∧ w'.cell? ⟨b, 2, none⟩ = some (.int .i64 k2) ∧ w'.cell? ⟨b, 3, none⟩ = some (.int .i64 k3) ∧ w'.cell? (ad.add (k0.toNat * 7)) = some (.int .i64 x0.key.level)) (first | (refine sJoin (blk_below KA.out ?_) (blk_below KB.out ?_) (Kd.R_below HRr.out ?_) ⟨hk1, hk2⟩ HX0.out rfl <;> ((repeat' (first | (with_reducible exact Below.refl _ _) | (with_reducible assumption) | (with_reducible refine Below.alloc ?_ ?_ _) | (with_reducible refine Below.drew ?_) | (with_reducible refine Below.setCell ?_ ?_ _) | (with_reducible refine chain ?_ (by assumption) ?_) | go_size))); done) | exact sJoin (blk_far (blk_far (blk_below KA.out hbw2) hag.out _) hag.out _) (blk_far (blk_far (blk_below KB.out hbw2) hbg.out _) hbg.out _) (Kd.R_set (Kd.R_set (Kd.R_below HRr.out hbw2) (blk_below KG.out hbw2) tyRn _ _) (blk_set (blk_below KG.out hbw2) _ _) tyRn _ _) ⟨hk1, hk2⟩ HX0.out rfl)
          ((go_at_call 109; refine HADD.out.mono ?_; rintro e w2 ⟨A2, c2, rfl, hR2, hB2⟩; have hbw2 : Below wr.heap.size wr w2 := chain (below_drew (Below.refl _ _)) hB2 (Nat.le_refl _); have hs2 : wr.heap.size ≤ w2.heap.size := hbw2.size; have HR2 := Aside0.mk hR2; clear hR2 hB2; have f0' := blk_frozen (blk_below KG.out hbw2) 0; have f1' := blk_frozen (blk_below KG.out hbw2) 1; have g0' := (blk_cell (blk_below KG.out hbw2) 0); have g1' := (blk_cell (blk_below KG.out hbw2) 1); simp only [List.getElem?_toArray, List.getElem?_cons_zero, List.getElem?_cons_succ] at g0' g1'))
        go_wp2_with (fail)
        have KG2 := blk_below KG.out hbw2
        have HBX : Below w.heap.size w ((w2.setCell ⟨g, 0, none⟩ (.slice A2 r.1.length c2)).setCell ⟨g, 1, none⟩ (.int .i64 most)) := ((chain HB.out hbw2 HB.out.size).setCell hwg.out _).setCell hwg.out _
        have HRX := Kd.R_set (Kd.R_set HR2.out KG2 tyRn 0 (.slice A2 r.1.length c2)) (blk_set KG2 0 (.slice A2 r.1.length c2)) tyRn 1 (.int .i64 most)
        have hws := HB.out.size
        refine bodyPost_ret (v := .tuple #[.agg #[.slice A2 r.1.length c2, .int .i64 most], .int .i64 r.2.1, .int .i64 r.2.2]) (by simp [results, Try.results83, go_sem, g0', g1']) rfl ?_
        rw [hres.out]
        exact ⟨A2, c2, rfl, Kd.R_mono HRX (fun k hk => hk.elim (fun h => .inl h) (fun h => .inr (Nat.le_trans hws (by simpa using h)))), HBX⟩
end Go.Proofs.Ytbkbkgfpnefilaa.ar
