/- The walk over the law TableRings. -/
import Derived.Test.YtcipkabpekdflaaTabF
import Derived.Deep.QuietTactic
import Derived.BigQuiet
namespace Go.Proofs.Ytcipkabpekdflaa.lawTableRings
open Go.RowKit Go.Proofs.YtcipkabpekdflaaW.PrintWords Go.Proofs.YtcipkabpekdflaaW.PrintLast Go.Proofs.YtcipkabpekdflaaW.PrintMore Go.Proofs.Ytcipkabpekdflaa.bs Go.Proofs.Ytcipkabpekdflaa.PTableRings Go.ChangeShapes Go.Proofs.Ytcipkabpekdflaa.tb

theorem by0 : (⟨#[]⟩ : ByteArray).toList = [] := by rw [ByteArray.toList_eq]
theorem by1 : (⟨#[111]⟩ : ByteArray).toList = [111] := by rw [ByteArray.toList_eq]
theorem by2 : (⟨#[109]⟩ : ByteArray).toList = [109] := by rw [ByteArray.toList_eq]
theorem by3 : (⟨#[112]⟩ : ByteArray).toList = [112] := by rw [ByteArray.toList_eq]
theorem beq_nil (l : List UInt8) : (l == []) = l.isEmpty := by cases l <;> rfl
set_option maxHeartbeats 4000000 in
set_option maxRecDepth 100000 in
theorem rings_law (ring : Int) (w : World) : Calls Try.prog 3 #[.int .i64 ring] w fun e w' => e = .returned (.bool true) ∧ Below w.heap.size w w' := by
  have h63 := bs.and63
  obtain ⟨r, hr, hr0⟩ : ∃ r, ring % 64 = r ∧ 0 ≤ r ∧ r < 64 := ⟨_, rfl, by omega, by omega⟩
  have hring : ∀ w, Calls Try.prog 7 #[.int .i64 ring] w fun e w' => e = .returned (.agg #[.int .i64 (ringV r).1, .int .u8 (ringV r).2]) ∧ Below w.heap.size w w' := fun w => by have := ring_walk ring w; rw [hr] at this; exact this
  have href : ∀ w, Calls Try.prog 8 #[.int .i64 (ring % 64)] w fun e w' => e = .returned (.tuple #[.int .i64 (refV r).1, .string (refV r).2]) ∧ Below w.heap.size w w' := fun w => by rw [hr]; exact rref_walk r w hr0
  have hrings : ∀ w, Calls Try.prog 9 #[.agg #[.int .i64 (ringV r).1, .int .u8 (ringV r).2]] w fun e w' => e = .returned (.int .u64 (ringsV (ringV r).1 (ringV r).2)) ∧ Below w.heap.size w w' := fun w => rings_walk _ _ _ w (rings_some r hr0)
  have htell := tells_all ⟨r.toNat, by omega⟩
  have hbit : ∀ i : Int, 0 ≤ i → i < 64 → (bitOf (ringsV (ringV r).1 (ringV r).2) i == 1) = ((refV i).1 == (refV r).1 && (refV i).2 == (refV r).2) := fun i h0 h1 => by
    have := bits_all ⟨r.toNat, by omega⟩ ⟨i.toNat, by omega⟩
    simpa [Int.toNat_of_nonneg h0, Int.toNat_of_nonneg hr0.1] using this
  have er : ((r.toNat : Nat) : Int) = r := Int.toNat_of_nonneg hr0.1
  simp only [er] at htell
  obtain ⟨hn, hl⟩ := htell
  rw [← hn] at href hbit
  clear er hn hr
  generalize ringsV (ringV r).1 (ringV r).2 = R at *
  generalize (ringV r).1 = n at *
  obtain ⟨LB, hLB⟩ : ∃ LB, (refV r).2 = ⟨LB⟩ := ⟨_, rfl⟩
  rw [hLB] at href hbit hl
  generalize (ringV r).2 = l at *
  have HB := Aside0.mk hbit
  clear hbit hLB
  simp only at hl
  rcases hl with ⟨rfl, rfl⟩ | ⟨rfl, rfl⟩ | ⟨rfl, rfl⟩ | ⟨rfl, rfl⟩
  all_goals
    go_enter Try.func3, Try.ntmps3
    go_wp2_with (fail)
    refine (awake_walk _).mono ?_; rintro e w1 ⟨rfl, hb1⟩
    go_wp2_with (fail)
    refine (hring _).mono ?_; rintro e w2 ⟨rfl, hb2⟩
    go_wp2_with (fail)
    refine (href _).mono ?_; rintro e w3 ⟨rfl, hb3⟩
    go_wp2_with (fail)
  all_goals
    have C0 := (hb3.cell (p := ⟨w2.heap.size, 0, none⟩) (by go_size)).trans (blk_cell (blk_new w2 _) 0)
    have C1 := (hb3.cell (p := ⟨w2.heap.size, 1, none⟩) (by go_size)).trans (blk_cell (blk_new w2 _) 1)
    have K0 := blk_below (blk_new w2 _) hb3
    have HW := Aside0.mk (chain (below_alloc (chain hb1 hb2 hb1.size) _) hb3 (by have := hb1.size; have := hb2.size; simp only [World.size_alloc]; omega))
    have hs := HW.out.size
    have hg : w.heap.size ≤ w2.heap.size := Nat.le_trans hb1.size hb2.size
    have HK := Aside0.mk K0
    clear hb1 hb2 hb3 href hring K0
    generalize w2.heap.size = g at *
    simp only [List.getElem?_toArray, List.getElem?_cons_zero, List.getElem?_cons_succ] at C0 C1
    go_quiet (fail)
    go_wp2_with (fail)
    refine (hrings _).mono ?_; rintro e w4 ⟨rfl, hb4⟩
    go_wp2_with (fail)
    have HW4 := Aside0.mk (chain (pw_below_drewN HW.out nq) hb4 (by exact hs))
    clear hb4 hrings HW C0 C1 HK hs hg
    clear w1 w2
    go_loopg [46] 64 (fun kq c46 w' => ∃ i : Nat, i + kq = 64 ∧ c46 = .int .i64 i ∧ Aside0 (Below w.heap.size w w'))
    case atStart => exact ⟨0, by omega, rfl, HW4⟩
    case round =>
      clear HW4
      obtain ⟨i, hi, rfl, HW⟩ := hrel
      by_cases h64 : i < 64
      · obtain ⟨gk, rfl⟩ : ∃ m, gk = m + 1 := ⟨gk - 1, by omega⟩
        have hbit := HB.out i (by omega) (by omega)
        have href := fun w => rref_walk i w (by omega)
        generalize (refV i).1 = m at *
        generalize (refV i).2 = L at *
        generalize hq : (L == _) = q at hbit
        have hq2 := (beq_toListBytes _ _).symm.trans hq
        have hx : (Go.bits .and .u64 (R / 2 ^ i) 1 == 1) = (m == n && q) := by
          have e1 : Go.bits .and .u64 (R / 2 ^ i) 1 = (R / 2 ^ i) % 2 := by simpa using bs.and_mask_u64 (R / 2 ^ i) 1 (by omega)
          rw [e1, ← hbit]; rfl
        clear hbit hq
        by_cases hm : m = n
        · have hm1 : (m == n) = true := by simpa using hm
          rw [hm1, Bool.true_and] at hx
          clear hm
          cases q
          all_goals
            first
            | (rw [by0, beq_nil] at hq2)
            | (rw [by1] at hq2)
            | (rw [by2] at hq2)
            | (rw [by3] at hq2)
            go_wp2_with (fail)
            refine (href _).mono ?_; rintro e w5 ⟨rfl, hb5⟩
            go_wp2_with (fail)
            go_roundg gk
            case measure => omega
            case rel => exact ⟨i + 1, by omega, by go_num, ⟨chain HW.out hb5 HW.out.size⟩⟩
        · have hm1 : (m == n) = false := by simpa using hm
          rw [hm1, Bool.false_and] at hx
          clear hm hq2
          go_wp2_with (fail)
          refine (href _).mono ?_; rintro e w5 ⟨rfl, hb5⟩
          go_wp2_with (fail)
          go_roundg gk
          case measure => omega
          case rel => exact ⟨i + 1, by omega, by go_num, ⟨chain HW.out hb5 HW.out.size⟩⟩
      · go_wp2_with (fail)
        go_ret
        exact ⟨rfl, HW.out⟩
end Go.Proofs.Ytcipkabpekdflaa.lawTableRings
