/- The walk over table.Classes: all classes, by rising counts, then by letters. -/
import Derived.Test.YtcipkabpekdflaaDoorQTableChecksx1
import Derived.Test.YtcipkabpekdflaaDoorQTableChecksx2
import Derived.Test.YtcipkabpekdflaaDoorBase
import Derived.Lib.OthersKept
namespace Go.Proofs.YtcipkabpekdflaaDoor.tb
open Go.RowKit Go.Proofs.YtcipkabpekdflaaDoorW.PrintWords Go.Proofs.YtcipkabpekdflaaDoorW.PrintLast Go.Proofs.YtcipkabpekdflaaDoorW.PrintMore Go.Proofs.YtcipkabpekdflaaDoor.bs Go.Proofs.YtcipkabpekdflaaDoor.PTableChecks Go.ChangeShapes

structure Cls where
  n : Int
  c : Int
def kC : Kd Cls := Kd.iso (Kd.pair (Kd.int .i64) (Kd.int .u8)) (fun x : Cls => (x.n, x.c))
theorem kC_open {w : World} {x : Cls} {cs : List Value} (h : kC.K w x cs) : cs = [.int .i64 x.n, .int .u8 x.c] := by
  obtain ⟨_, _, rfl, rfl, rfl⟩ := h
  exact rfl
theorem kC_mkM (w : World) (base : Nat) (ok : Nat → Prop) (x : Cls)  : kC.M w base ok x [.int .i64 x.n, .int .u8 x.c] := ⟨[.int .i64 x.n], [.int .u8 x.c], rfl, rfl, rfl⟩
theorem at_C {w : World} {A : Option Addr} {n : Nat} {xs : List Cls} (h : Kd.C kC w A n xs) (i : Int) (h0 : 0 ≤ i) (h1 : i < n) : ∃ ad , A = some ad ∧ w.cell? (ad.add (i.toNat * 2)) = some (.int .i64 (xs.getD i.toNat ⟨0, 0⟩).n) ∧ w.cell? ⟨(ad.add (i.toNat * 2)).block, (ad.add (i.toNat * 2)).off + 1, none⟩ = some (.int .u8 (xs.getD i.toNat ⟨0, 0⟩).c) := by
  obtain ⟨ad, c, e, _, hK, hc0⟩ := Kd.C_get h ⟨0, 0⟩ i h0 h1
  have hc : ∀ j u, c[j]? = some u → w.cell? (ad.add (i.toNat * 2 + j)) = some u := hc0
  obtain rfl := kC_open hK
  exact ⟨ad, e, hc 0 _ rfl, by rw [← add_field _ _ 1 (by omega)]; exact hc 1 _ rfl⟩
theorem infoC : (Tryd.prog.info? 45).map (fun i => (i.zero, i.size, i.bytes)) = some (some (.agg #[(.int .i64 0), (.int .u8 0)]), 2, 16) := by kernel_rfl

/-- the classes of a count -/
def clsN (n : Nat) : List Cls := if n < 2 ∨ 4 < n then [⟨n, 0⟩] else [⟨n, 111⟩, ⟨n, 109⟩, ⟨n, 112⟩]
def clsTo : Nat → List Cls
  | 0 => []
  | k + 1 => clsTo k ++ clsN k
theorem clsN_le (n : Nat) : (clsN n).length ≤ 3 := by unfold clsN; split <;> simp
theorem clsTo_le (k : Nat) : (clsTo k).length ≤ 3 * k := by
  induction k with
  | zero => simp [clsTo]
  | succ k ih => have := clsN_le k; simp only [clsTo, List.length_append]; omega
def omp : ByteArray := ⟨#[111, 109, 112]⟩
def part3 (k p : Nat) : List Cls := [(⟨k, 111⟩ : Cls), ⟨k, 109⟩, ⟨k, 112⟩].take p
theorem omp_at (p : Nat) (h : p < 3) : ∃ hp : p < omp.size, (omp[p]'hp).toNat < 128 ∧ (((omp[p]'hp).toNat : Nat) : Int) = [111, 109, 112].getD p 0 := by
  refine ⟨h, ?_⟩
  have : p = 0 ∨ p = 1 ∨ p = 2 := by omega
  rcases this with rfl | rfl | rfl
  · exact ⟨by decide +revert, by decide +revert⟩
  · exact ⟨by decide +revert, by decide +revert⟩
  · exact ⟨by decide +revert, by decide +revert⟩
theorem part3_succ (k p : Nat) (h : p < 3) : part3 k (p + 1) = part3 k p ++ [⟨k, [111, 109, 112].getD p 0⟩] := by
  have : p = 0 ∨ p = 1 ∨ p = 2 := by omega
  rcases this with rfl | rfl | rfl <;> rfl
theorem part3_all (k : Nat) (h : 2 ≤ k ∧ k ≤ 4) : part3 k 3 = clsN k := by
  unfold clsN; rw [if_neg (by omega)]; rfl
theorem clsTo_one (k : Nat) (h : k < 2 ∨ 4 < k) : clsTo (k + 1) = clsTo k ++ [⟨k, 0⟩] := by
  simp only [clsTo]; unfold clsN; rw [if_pos h]
theorem part3_le (k p : Nat) : (part3 k p).length ≤ 3 := by unfold part3; simp; omega
theorem iter_R {w : World} {g : Nat} {s : ByteArray} {p q : Nat} {base : Nat} {ok : Nat → Prop} {v : Value} {xs : List Cls} {e : Nat} (h : Kd.R kC e w base ok v xs) (hk : w.heap[g]? = some (.stringIter s p)) : Kd.R kC e (w.iterAt g s q) base ok v xs := by
  have hb := Kd.R_bound h
  refine Kd.R_mono (Kd.R_move hb (fun k hk' => ?_)) (fun _ hk => hk.1)
  obtain ⟨_, _, _, q, _, cells, hc⟩ := hk'
  refine Lib.iterAt_other w g k s _ (fun e => ?_)
  rw [e, hk] at hc
  cases hc
theorem iter_ne {w : World} {g : Nat} {s : ByteArray} {p : Nat} {base : Nat} {ok : Nat → Prop} {v : Value} {xs : List Cls} {e : Nat} (h : Kd.R kC e w base ok v xs) (hk : w.heap[g]? = some (.stringIter s p)) : some g ≠ v.ownBlock := by
  intro e1
  obtain ⟨_, _, _, q, _, cells, hc⟩ := (Kd.R_bound h).1 g e1.symm
  rw [hk] at hc
  cases hc

theorem next_omp (w : World) (g p : Nat) (ty : TypeId) (hk : w.heap[g]? = some (.stringIter omp p)) (h : p < 3) :
    (Instr.next (.pointer (some ⟨g, 0, none⟩)) true ty).run Tryd.prog w = .ok (.tuple #[.bool true, .int .i64 p, .int .i32 ([111, 109, 112].getD p 0)]) (w.iterAt g omp (p + 1)) := by
  obtain ⟨hp, ha, hv⟩ := omp_at p h
  rw [Lib.run_next_ascii_at w g omp p ty hk hp ha, hv]
set_option maxHeartbeats 4000000 in
set_option maxRecDepth 100000 in
theorem classes_walk (w : World) : Calls Tryd.prog 14 #[] w fun e w' => ∃ v, e = .returned v ∧ Kd.R kC 45 w' w.heap.size (fun _ => True) v (clsTo 7) ∧ Below w.heap.size w w' := by
  have hu := Tryd.underlying45
  go_enter Tryd.func14, Tryd.ntmps14
  go_wp2_with (fail)
  go_loopg [1, 5] 7 (fun kq v1 v5 w' => ∃ k : Nat, k + kq = 7 ∧ v5 = .int .i64 k ∧ Aside0 (Kd.R kC 45 w' w.heap.size (fun _ => True) v1 (clsTo k)) ∧ Aside0 (Below w.heap.size w w'))
  case atStart => exact ⟨0, by omega, rfl, ⟨Kd.R_nil _ _ _ _ _⟩, ⟨Below.refl _ _⟩⟩
  case round =>
    obtain ⟨k, hk, rfl, HR, HB⟩ := hrel
    have hle := clsTo_le k
    by_cases h7 : k < 7
    · obtain ⟨go, rfl⟩ : ∃ m, gk = m + 1 := ⟨gk - 1, by omega⟩
      by_cases h1 : k < 2 ∨ 4 < k
      · have hone := Aside0.mk (clsTo_one k h1)
        have hor : ((k : Int) < 2) ∨ (¬ (k : Int) < 2 ∧ (k : Int) > 4) := by omega
        clear h1
        rcases hor with h1 | ⟨h1, h2⟩
        all_goals
          go_wp2_with (first | ((with_reducible refine gate_builtin (b := .append) (xs := #[.tmp 14, .tmp 17]) rfl ?_); at_builtin; refine Kd.R_append kC (w0 := w) w.heap.size rfl (.tmp 14) (.tmp 17) 47 45 (.agg #[(.int .i64 0), (.int .u8 0)]) 16 rfl Tryd.underlying47 infoC rfl (by decide) (by decide) _ (clsTo k) (⟨(k : Int), 0⟩ : Cls) [.int .i64 (k : Int), .int .u8 0] (fun _ => True) (fun _ => False) rfl rfl ?aP (fun _ hk => hk.elim) ?aF ?aO ?aB ?aS ?aL ?_; (case aP => exact kC_mkM _ _ _ (⟨(k : Int), 0⟩ : Cls)); (case aB => exact HB.out); (case aF => exact (fun _ _ => trivial)); (case aO => exact HR.out); (case aS => exact HB.out.size); (case aL => omega); intro v1 w1 ho1 hb1 hg1 hat1))
          rw [← hone.out] at ho1
          go_roundg go
          case measure => omega
          case rel => exact ⟨k + 1, by omega, by go_num, ⟨ho1⟩, ⟨hb1⟩⟩
      · have hN := Aside0.mk (part3_all k (by omega))
        have e1 : ¬ (k : Int) < 2 := by omega
        have e2 : decide ((k : Int) > 4) = false := by simp; omega
        go_wp2_with (fail)
        have hs0 := HB.out.size
        have hit0 : (wr.iter omp 0).heap[wr.heap.size]? = some (.stringIter omp 0) := World.iter_heap wr omp 0
        have hR0 : Kd.R kC 45 (wr.iter omp 0) w.heap.size (fun _ => True) u1 (clsTo k ++ part3 k 0) := by
          have : clsTo k ++ part3 k 0 = clsTo k := by simp [part3]
          rw [this]; exact Kd.R_alloc HR.out _
        have hB0 : Below w.heap.size w (wr.iter omp 0) := below_alloc HB.out _
        have A1 := Aside0.mk hit0
        have A2 := Aside0.mk hR0
        have A3 := Aside0.mk hB0
        clear hit0 hR0 hB0 HR HB
        show Code.wp _ _ _ _ (wr.iter omp 0)
        generalize hG : wr.heap.size = G at *
        generalize wr.iter omp 0 = W0 at *
        clear hG
        go_loopg [1] 3 (fun kq v1 w' => ∃ p : Nat, p + kq = 3 ∧ Aside0 (Kd.R kC 45 w' w.heap.size (fun _ => True) v1 (clsTo k ++ part3 k p)) ∧ Aside0 (w'.heap[G]? = some (.stringIter omp p)) ∧ Aside0 (Below w.heap.size w w'))
        case atStart => exact ⟨0, by omega, A2, A1, A3⟩
        case round =>
          clear A1 A2 A3
          obtain ⟨p, hp, HR, HI, HB⟩ := hrel
          have hple := part3_le k p
          by_cases hp3 : p < 3
          · obtain ⟨gk, rfl⟩ : ∃ m, gk = m + 1 := ⟨gk - 1, by omega⟩
            have hnx : ∀ ty, (Instr.next (.pointer (some ⟨G, 0, none⟩)) true ty).run Tryd.prog _ = _ := fun ty => next_omp _ G p ty HI.out hp3
            have HR2 := Aside0.mk (iter_R (q := p + 1) HR.out HI.out)
            have HI2 := Aside0.mk (Lib.iterAt_heap _ G omp p (p + 1) HI.out)
            have HB2 := Aside0.mk (Lib.below_iterAt HB.out (k := G) (by omega) omp (p + 1))
            have hone := part3_succ k p hp3
            clear HR HI HB
            obtain ⟨c, hc, c0, c1⟩ : ∃ c : Int, [111, 109, 112].getD p 0 = c ∧ 0 ≤ c ∧ c < 256 := by
              have : p = 0 ∨ p = 1 ∨ p = 2 := by omega
              rcases this with rfl | rfl | rfl <;> exact ⟨_, rfl, by decide, by decide⟩
            rw [hc] at hnx hone
            have hone2 : clsTo k ++ part3 k (p + 1) = clsTo k ++ part3 k p ++ [⟨k, c⟩] := by rw [hone, List.append_assoc]
            have HO := Aside0.mk hone2
            clear hone hone2 hc
            generalize wr.iterAt G omp (p + 1) = W1 at *
            go_wp2_with (first | ((with_reducible refine gate_builtin (b := .append) (xs := #[.tmp 23, .tmp 28]) rfl ?_); at_builtin; refine Kd.R_append kC (w0 := w) w.heap.size rfl (.tmp 23) (.tmp 28) 47 45 (.agg #[(.int .i64 0), (.int .u8 0)]) 16 rfl Tryd.underlying47 infoC rfl (by decide) (by decide) _ (clsTo k ++ part3 k p) (⟨(k : Int), c⟩ : Cls) [.int .i64 (k : Int), .int .u8 c] (fun _ => True) (fun _ => False) rfl rfl ?aP (fun _ hk => hk.elim) ?aF ?aO ?aB ?aS ?aL ?_; (case aP => exact kC_mkM _ _ _ (⟨(k : Int), c⟩ : Cls)); (case aB => exact HB2.out); (case aF => exact (fun _ _ => trivial)); (case aO => exact HR2.out); (case aS => exact HB2.out.size); (case aL => (simp only [List.length_append]; omega)); intro v1 w1 ho1 hb1 hg1 hat1))
            rw [← HO.out] at ho1
            have HI3 := Aside0.mk (blk_grown HI2.out hg1 (iter_ne HR2.out HI2.out))
            go_roundg gk
            case measure => omega
            case rel => exact ⟨p + 1, by omega, ⟨ho1⟩, HI3, ⟨hb1⟩⟩
          · obtain rfl : p = 3 := by omega
            have hnx : ∀ ty, (Instr.next (.pointer (some ⟨G, 0, none⟩)) true ty).run Tryd.prog _ = _ := fun ty => Lib.run_next_end_at _ G omp 3 ty HI.out (by decide)
            go_wp2_with (fail)
            go_roundg go
            case measure => omega
            case rel => exact ⟨k + 1, by omega, by go_num, ⟨by have := HR.out; rw [hN.out] at this; exact this⟩, HB⟩
    · obtain rfl : k = 7 := by omega
      go_wp2_with (fail)
      go_ret
      exact ⟨_, rfl, HR.out, HB.out⟩
end Go.Proofs.YtcipkabpekdflaaDoor.tb
