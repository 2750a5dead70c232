/- The walk over the law TableClasses. -/
import Derived.Test.YtcipkabpekdflaaTabF
import Derived.Deep.QuietTactic
import Derived.BigQuiet
namespace Go.Proofs.Ytcipkabpekdflaa.lawTableClasses
open Go.RowKit Go.Proofs.YtcipkabpekdflaaW.PrintWords Go.Proofs.YtcipkabpekdflaaW.PrintLast Go.Proofs.YtcipkabpekdflaaW.PrintMore Go.Proofs.Ytcipkabpekdflaa.bs Go.Proofs.Ytcipkabpekdflaa.PTableRings Go.ChangeShapes Go.Proofs.Ytcipkabpekdflaa.tb

def cl (k : Nat) : Cls := (clsTo 7).getD k ⟨0, 0⟩
def rg (k : Nat) : Int := ringsV (cl k).n (cl k).c
theorem rg_all : ∀ k : Fin 13, (table_Rings.f 80 (cl k.val).n (cl k.val).c).isSome = true := by decide +kernel
theorem rg_some (k : Nat) (h : k < 13) : table_Rings.f 80 (cl k).n (cl k).c = some (rg k) := by
  obtain ⟨v, hv⟩ := Option.isSome_iff_exists.1 (rg_all ⟨k, h⟩)
  simp only at hv
  unfold rg ringsV
  rw [hv]
  rfl
def allTo : Nat → Int
  | 0 => 0
  | k + 1 => Go.bits .or .u64 (allTo k) (rg k)
def lastN : Nat → Int
  | 0 => -1
  | k + 1 => (cl k).n
def lastC : Nat → Int
  | 0 => 0
  | k + 1 => (cl k).c
theorem all_facts : ∀ k : Fin 13, Go.bits .or .u64 0 (Go.bits .and .u64 (allTo k.val) (rg k.val)) = 0 ∧ (rg k.val == 0) = false ∧ decide ((cl k.val).n < lastN k.val) = false := by decide +kernel
theorem all_13 : allTo 13 = 18446744073709551615 := by decide +kernel
theorem seven : table_Rings.f 80 7 0 = some 0 := by decide +kernel
def turnK (i t : Int) (m : Bool) : Int := if m then 5 - (i + t) % 6 else (i + t) % 6
def otherTo (r t : Int) (m : Bool) : Nat → Int
  | 0 => 0
  | i + 1 => if r / 2 ^ i % 2 = 1 then Go.bits .or .i64 (otherTo r t m i) (wrap64 (2 ^ (turnK i t m).toNat)) else otherTo r t m i
theorem other_all : ∀ (r : Fin 64) (t : Fin 6) (m : Bool), let o := otherTo r.val t.val m 6; 0 ≤ o ∧ o < 64 ∧ ringV o = ringV r.val := by decide +kernel

set_option maxHeartbeats 4000000 in
set_option maxRecDepth 100000 in
theorem classes_law (a b : Int) (m : Bool) (w : World) : Calls Try.prog 4 #[.int .i64 a, .int .i64 b, .bool m] w fun e w' => e = .returned (.bool true) ∧ Below w.heap.size w w' := by
  have h63 := bs.and63
  have h255 := bs.and255
  have h1 := bs.and1
  go_enter Try.func4, Try.ntmps4
  go_wp2_with (fail)
  refine (awake_walk _).mono ?_; rintro e w1 ⟨rfl, hb1⟩
  go_wp2_with (fail)
  obtain ⟨r, hr, hr0⟩ : ∃ r, a % 64 = r ∧ 0 ≤ r ∧ r < 64 := ⟨_, rfl, by omega, by omega⟩
  obtain ⟨t, ht, ht0⟩ : ∃ t, b % 256 % 6 = t ∧ 0 ≤ t ∧ t < 6 := ⟨_, rfl, by omega, by omega⟩
  simp only [hr, ht]
  clear hr ht
  go_loopg [7, 23] 6 (fun kq c7 c23 w' => ∃ i : Nat, i + kq = 6 ∧ c23 = .int .i64 i ∧ c7 = .int .i64 (otherTo r t m i) ∧ w' = w1)
  case atStart => exact ⟨0, by omega, rfl, rfl, rfl⟩
  case round =>
    obtain ⟨i, hi, rfl, rfl, rfl⟩ := hrel
    by_cases h6 : i < 6
    · obtain ⟨gk, rfl⟩ : ∃ m, gk = m + 1 := ⟨gk - 1, by omega⟩
      have hstep : otherTo r t m (i + 1) = if (r / 2 ^ i % 2 == 1) = true then Go.bits .or .i64 (otherTo r t m i) (wrap64 (2 ^ (turnK i t m).toNat)) else otherTo r t m i := by
        simp only [otherTo, beq_iff_eq]
      generalize hq : (r / 2 ^ i % 2 == 1) = q at hstep
      cases m
      all_goals
        simp only [turnK, if_true, Bool.false_eq_true, if_false] at hstep
        have HS := Aside0.mk hstep
        clear hstep
        cases q
        all_goals
          go_wp2_with (fail)
          go_roundg gk
          case measure => omega
          case rel => exact ⟨i + 1, by omega, by go_num, by rw [HS.out]; simp, rfl⟩
    · obtain rfl : i = 6 := by omega
      have ho := other_all ⟨r.toNat, by omega⟩ ⟨t.toNat, by omega⟩ m
      simp only [Int.toNat_of_nonneg hr0.1, Int.toNat_of_nonneg ht0.1] at ho
      generalize otherTo r t m 6 = o at *
      have HO := Aside0.mk ho
      clear ho
      go_wp2_with (fail)
      refine (classes_walk _).mono ?_; rintro e w2 ⟨v, rfl, hR, hb2⟩
      obtain ⟨A, c, rfl⟩ := Kd.R_slice hR
      have c7 : (clsTo 7).length = 13 := by decide +kernel
      rw [c7] at hR ⊢
      have hg := hb1.size
      have K0 := blk_below (blk_new wr _) hb2
      have HW := Aside0.mk (chain (below_alloc hb1 _) hb2 (by simp only [World.size_alloc]; omega))
      clear hb1 hb2
      simp only [World.size_alloc] at hR
      obtain ⟨g, hgw⟩ : ∃ g, wr.heap.size = g := ⟨_, rfl⟩
      rw [hgw] at K0 hR hg
      go_wp2_with (fail)
      try rw [hgw]
      clear hgw c7 h6
      go_loopg [10, 11, 46] 13 (fun kq c10 c11 c46 w' => ∃ k : Nat, k + kq = 13 ∧ c46 = .int .i64 k ∧ c10 = .int .u64 (allTo k) ∧ c11 = .int .u64 0 ∧ Aside0 (w'.heap[g]? = some (.cells #[.int .i64 (lastN k), .int .u8 (lastC k)] 24 (0, 0))) ∧ Aside0 (Kd.R kC 24 w' (g + 1) (fun _ => True) (.slice A 13 c) (clsTo 7)) ∧ Aside0 (Below w.heap.size w w'))
      case atStart => exact ⟨0, by omega, rfl, rfl, rfl, ⟨K0⟩, ⟨hR⟩, HW⟩
      case round =>
        clear K0 hR HW
        obtain ⟨k, hk, rfl, rfl, rfl, HK, HR, HW⟩ := hrel
        by_cases hk13 : k < 13
        · obtain ⟨gk, rfl⟩ : ∃ m, gk = m + 1 := ⟨gk - 1, by omega⟩
          obtain ⟨ad, rfl, a0, a1⟩ := at_C (Kd.R_reads' HR.out).2.2 k (by omega) (by show (k : Int) < ((clsTo 7).length : Nat); rw [show (clsTo 7).length = 13 by decide +kernel]; omega)
          rw [Int.toNat_natCast] at a0 a1
          obtain ⟨f1, f2, f3⟩ := all_facts ⟨k, hk13⟩
          have hsome := rg_some k hk13
          have hstep : allTo (k + 1) = Go.bits .or .u64 (allTo k) (rg k) := rfl
          have hl1 : lastN (k + 1) = (cl k).n := rfl
          have hl2 : lastC (k + 1) = (cl k).c := rfl
          have hc0 := blk_cell HK.out 0
          have hf0 := blk_frozen HK.out 0
          have hf1 := blk_frozen HK.out 1
          have hc1 := blk_cell HK.out 1
          change _ = some (Value.int .i64 (cl k).n) at a0
          change _ = some (Value.int .u8 (cl k).c) at a1
          simp only at f1 f2 f3
          generalize allTo k = al at *
          generalize rg k = R at *
          generalize (cl k).n = cn at *
          generalize (cl k).c = cc at *
          generalize lastN k = ln at *
          generalize lastC k = lc at *
          have HST := Aside0.mk hstep
          have HL1 := Aside0.mk hl1
          have HL2 := Aside0.mk hl2
          clear hstep hl1 hl2
          go_wp2_with (fail)
          refine (rings_walk _ _ _ _ hsome).mono ?_; rintro e w5 ⟨rfl, hb5⟩
          have K2 := blk_below (blk_new wr _) hb5
          have HK5 := Aside0.mk (blk_below (blk_alloc HK.out _) hb5)
          have HR5 := Aside0.mk (Kd.R_bound (Kd.R_below (Kd.R_alloc HR.out _) hb5))
          have HW5 := Aside0.mk (chain (below_alloc HW.out _) hb5 (by have := HW.out.size; simp only [World.size_alloc]; omega))
          have hlt : g < wr.heap.size := blk_lt HK.out
          clear hb5 HK HR HW hc0 hc1 hf0 hf1 a0 a1
          obtain ⟨g2, hg2⟩ : ∃ g2, wr.heap.size = g2 := ⟨_, rfl⟩
          simp only [hg2] at K2 hlt ⊢
          clear hg2
          have hc0 := blk_cell HK5.out 0
          have hc1 := blk_cell HK5.out 1
          have hf0 := blk_frozen HK5.out 0
          have hf1 := blk_frozen HK5.out 1
          have hd0 := blk_cell K2 0
          have hd1 := blk_cell K2 1
          clear K2
          simp only [List.getElem?_toArray, List.getElem?_cons_zero, List.getElem?_cons_succ] at hc0 hc1 hd0 hd1
          go_wp2_with (fail)
          go_roundg gk
          case measure => omega
          case rel =>
            refine ⟨k + 1, by omega, by go_num, by rw [HST.out], rfl, ⟨?_⟩, ⟨?_⟩, ⟨?_⟩⟩
            · rw [HL1.out, HL2.out]
              exact blk_put (blk_put HK5.out 0 _ rfl) 1 _ rfl
            · exact Kd.R_mono (Kd.R_far (Kd.R_far HR5.out (fun k hk => by have := hk.2.1; show k ≠ g; omega) _) (fun k hk => by have := hk.2.1; show k ≠ g; omega) _) (fun _ _ => trivial)
            · exact below_set (below_set HW5.out hg) hg
        · obtain rfl : k = 13 := by omega
          have hs7 := fun w => rings_walk _ _ _ w seven
          have hr1 := ring_walk r
          have hr2 := ring_walk o
          rw [show o % 64 = o by have := HO.out; omega, HO.out.2.2] at hr2
          rw [show r % 64 = r by omega] at hr1
          generalize (ringV r).1 = n1 at *
          generalize (ringV r).2 = n2 at *
          have hall := all_13
          generalize allTo 13 = al at *
          generalize (18446744073709551615 : Int) = NN at *
          subst hall
          clear HK HR HO
          as_aux_lemma =>
            go_wp2_with (fail)
            refine (hr1 _).mono ?_; rintro e w5 ⟨rfl, hb5⟩
            go_wp2_with (fail)
            refine (hr2 _).mono ?_; rintro e w6 ⟨rfl, hb6⟩
            have eq2 := fun (d : Nat) (w : World) (a b c d' : Int) => eqA24 d w a b c d'
            go_wp2_with (fail)
            refine (hs7 _).mono ?_; rintro e w7 ⟨rfl, hb7⟩
            go_wp2_with (fail)
            go_ret
            exact ⟨ret_bool (by simp), chain (chain (chain HW.out hb5 HW.out.size) hb6 (Nat.le_trans HW.out.size hb5.size)) hb7 (Nat.le_trans (Nat.le_trans HW.out.size hb5.size) hb6.size)⟩
end Go.Proofs.Ytcipkabpekdflaa.lawTableClasses
