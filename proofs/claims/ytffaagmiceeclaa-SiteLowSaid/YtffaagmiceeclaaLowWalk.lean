/- The walk over the law SiteLow. -/
import Derived.Test.YtffaagmiceeclaaLowPure
namespace Go.Proofs.Ytffaagmiceeclaa.lawSiteLow
open Go.Proofs.Ytffaagmiceeclaa.bs Go.Proofs.YtffaagmiceeclaaW.PrintWords Go.Proofs.YtffaagmiceeclaaW.PrintLast Go.ChangeShapes Go.WideShapes Go.ChangeAt Go.RowKit Go.Proofs.Ytffaagmiceeclaa.PSiteLeaves Go.Proofs.Ytffaagmiceeclaa.lb Go.Proofs.Ytffaagmiceeclaa.slPSiteLeaves Go.Proofs.Ytffaagmiceeclaa.lawSiteLeaves

theorem awake_walk (w : World) : Calls Try.prog 7 #[] w fun e w' => e = .returned (.bool true) ∧ Below w.heap.size w w' :=
  honeycomblaw09_awake.calls 200 true w awake_some
theorem slow_walk (a b : Int) (w : World) : Calls Try.prog 17 #[.agg #[.int .i64 a, .int .i64 b]] w fun e w' => e = .returned (.agg #[.int .i64 (lowOf a), .int .i64 (lowOf b)]) ∧ Below w.heap.size w w' :=
  site_Low.calls a b _ _ w rfl
set_option maxHeartbeats 4000000 in
theorem own_walk (a b h : Int) (w : World) : Calls Try.prog 18 #[.agg #[.int .i64 a, .int .i64 b, .int .i64 h]] w fun e w' => e = .returned (.agg #[.int .i64 a, .int .i64 b, .int .i64 h]) ∧ Below w.heap.size w w' := by
  go_enter Try.func18, Try.ntmps18
  go_wp2_with (fail)
  try go_quiet (fail)
  try go_wp2
  refine bodyPost_ret (v := .agg #[.int .i64 a, .int .i64 b, .int .i64 h]) (by simp [results, Try.results18, go_sem, *]) rfl ⟨rfl, by first | (repeat' (first | (with_reducible exact Below.refl _ _) | (with_reducible assumption) | (with_reducible refine Below.alloc ?_ ?_ _) | (with_reducible refine Below.drew ?_) | (with_reducible refine Below.setCell ?_ ?_ _) | (with_reducible refine chain ?_ (by assumption) ?_) | go_size)) | exact below_drewN (by (repeat' (first | (with_reducible exact Below.refl _ _) | (with_reducible assumption) | (with_reducible refine Below.alloc ?_ ?_ _) | (with_reducible refine Below.drew ?_) | (with_reducible refine Below.setCell ?_ ?_ _) | (with_reducible refine chain ?_ (by assumption) ?_) | go_size))) _⟩
set_option maxHeartbeats 1000000 in
theorem rlow_walk (a : Int) (w : World) (ha : -4611686018427387904 ≤ a ∧ a ≤ 4611686018427387904) : Calls Try.prog 20 #[.int .i64 a] w fun e w' => e = .returned (.int .i64 (a - a % 4)) ∧ w = w' := by
  by_cases h : Int.tmod a 4 < 0
  all_goals
    go_enter Try.func20, Try.ntmps20
    go_wp2_with (fail)
    go_ret
    refine ⟨ret_int ?_, rfl⟩
    have h2 := Int.tmod_eq_emod (a := a) (b := 4)
    have h3 : a.tmod 4 = a % 4 ∨ a.tmod 4 = a % 4 - 4 := by
      simp at h2
      split at h2 <;> omega
    clear h2
    first
    | rw [show a.tmod 4 + 4 = a % 4 by omega, w64 (a % 4) (by omega), w64 _ (by omega)]
    | rw [show a.tmod 4 = a % 4 by omega, w64 _ (by omega)]
theorem rlow_q (a : Int) (w : World) (n : Nat) (ha : -4611686018427387904 ≤ a ∧ a ≤ 4611686018427387904) : Calls Try.prog 20 #[.int .i64 a] (w.drewN n) fun e w' => e = .returned (.int .i64 (a - a % 4)) ∧ ∃ m, w' = w.drewN m :=
  (rlow_walk a _ ha).mono fun _ _ ⟨he, hm⟩ => ⟨he, n, hm.symm⟩
theorem count_q (f : Int) (w : World) (n : Nat) (hf : 0 ≤ f ∧ f < 4294967296) : Calls Try.prog 14 #[.int .u32 f] (w.drewN n) fun e w' => e = .returned (.int .i64 (popN 32 f.toNat : Nat)) ∧ ∃ m, w' = w.drewN m :=
  (site_Leaf_Count.calls 200 f _ (w.drewN n) (count_tells f hf 200 (by omega))).mono fun _ _ ⟨he, hd⟩ => ⟨he, by obtain ⟨m, rfl⟩ := hd.out; exact ⟨n + m, by rw [World.drewN_drewN]⟩⟩
theorem cells_le (f la lb' : Int) (hf : 0 ≤ f) : (cells f la lb').length ≤ 1000 := by
  have h := cells_len f la lb' hf
  have := popN_le 32 f.toNat
  omega
theorem lcells_walk (f a b : Int) (w : World) (hf : 0 ≤ f ∧ f < 4294967296) (ha : -4611686018427387904 ≤ a ∧ a ≤ 4611686018427387904) (hb : -4611686018427387904 ≤ b ∧ b ≤ 4611686018427387904) :
    Calls Try.prog 16 #[.int .u32 f, .agg #[.int .i64 (lowOf a), .int .i64 (lowOf b)]] w fun e w' => ∃ c A, e = .returned (.slice A (cells f (lowOf a) (lowOf b)).length c) ∧ Kd.R k44 44 w' w.heap.size (fun _ => True) (.slice A (cells f (lowOf a) (lowOf b)).length c) (cells f (lowOf a) (lowOf b)) ∧ Below w.heap.size w w' := by
  have e1 := lowOf_eq a ha
  have e2 := lowOf_eq b hb
  refine (site_Leaf_Cells.calls 200 f (lowOf a) (lowOf b) _ w (cells_tells f _ _ hf (by omega) (by omega) 200 (by omega))).mono ?_
  rintro e w' ⟨v, rfl, hR, hb⟩
  obtain ⟨A, c, rfl⟩ := Kd.R_slice hR
  exact ⟨c, A, rfl, hR, hb⟩
set_option maxRecDepth 100000 in
set_option maxHeartbeats 40000000 in
theorem low_walk (a b half f : Int) (w : World) (hf : 0 ≤ f ∧ f < 4294967296) :
    Calls Try.prog 5 #[.int .i64 a, .int .i64 b, .int .i64 half, .int .u32 f] w fun e w' => e = .returned (.bool true) ∧ Below w.heap.size w w' := by
  have h1 := bs.and1
  have ta := bs.tmod_bd a 4611686018427387904 (by omega)
  have tb := bs.tmod_bd b 4611686018427387904 (by omega)
  go_enter Try.func5, Try.ntmps5
  go_wp2_with (first | (go_at_call 7; refine (awake_walk _).mono ?_; rintro e w1 ⟨rfl, hb⟩; have hz := hb.size; (try simp only [World.size_alloc, World.size_setCell, World.size_drew, World.heap_drewN] at hz); skip))
  refine (slow_walk _ _ _).mono ?_; rintro e w2 ⟨rfl, hb⟩; have hz := hb.size; (try simp only [World.size_alloc, World.size_setCell, World.size_drew, World.heap_drewN] at hz); obtain ⟨_, _, _⟩ := at_ (w1.heap.size) hb (by go_size)
  go_wp2_with (first | (go_at_call 19; refine (with_walk _ _ _ _ _ _ hf (by omega)).mono ?_; rintro e w3 ⟨rfl, hb⟩; have hz := hb.size; (try simp only [World.size_alloc, World.size_setCell, World.size_drew, World.heap_drewN] at hz); obtain ⟨_, _, _⟩ := at_ (w1.heap.size) hb (by go_size); obtain ⟨_, _, _⟩ := at_ (w2.heap.size) hb (by go_size)))
  refine (own_walk _ _ _ _).mono ?_; rintro e w3 ⟨rfl, hb⟩; have hz := hb.size; (try simp only [World.size_alloc, World.size_setCell, World.size_drew, World.heap_drewN] at hz); obtain ⟨_, _, _⟩ := at_ (w1.heap.size) hb (by go_size); obtain ⟨_, _, _⟩ := at_ (w2.heap.size) hb (by go_size)
  go_upto_region 8 with (fail)
  go_cut [13, 14] (fun s13 s14 wx => s13 = .int .u32 (withV f (Int.tmod a 4611686018427387904) (Int.tmod b 4611686018427387904) (half % 2) true) ∧ s14 = .int .u32 (withV f (Int.tmod a 4611686018427387904) (Int.tmod b 4611686018427387904) (half % 2) false) ∧ Below (w3.alloc (.cells #[.int .i64 (Int.tmod a 4611686018427387904), .int .i64 (Int.tmod b 4611686018427387904), .int .i64 (half % 2)] 44)).heap.size (w3.alloc (.cells #[.int .i64 (Int.tmod a 4611686018427387904), .int .i64 (Int.tmod b 4611686018427387904), .int .i64 (half % 2)] 44)) wx)
  case first =>
    go_region_held3 (fun w' => w'.cell? ⟨w3.heap.size, 0, none⟩ = some (.int .i64 (Int.tmod a 4611686018427387904)) ∧ w'.cell? ⟨w3.heap.size, 1, none⟩ = some (.int .i64 (Int.tmod b 4611686018427387904)) ∧ w'.cell? ⟨w3.heap.size, 2, none⟩ = some (.int .i64 (half % 2))) (simp (maxDischargeDepth := 6) [go_sem, *]) (first | (go_at_call 19; refine (with_walk _ _ _ _ _ _ hf (by omega)).mono ?_; rintro e w4 ⟨rfl, hb⟩; have hz := hb.size; (try simp only [World.size_alloc, World.size_setCell, World.size_drew, World.heap_drewN] at hz); obtain ⟨_, _, _⟩ := at_ (w3.heap.size) hb (by go_size)))
    all_goals go_wp2_with (fail)
    all_goals go_meet
    all_goals refine ⟨rfl, rfl, by (repeat' (first | (with_reducible exact Below.refl _ _) | (with_reducible assumption) | (with_reducible refine Below.alloc ?_ ?_ _) | (with_reducible refine Below.drew ?_) | (with_reducible refine Below.setCell ?_ ?_ _) | (with_reducible refine chain ?_ (by assumption) ?_) | go_size))⟩
  case rest =>
    obtain ⟨rfl, rfl, hb⟩ := hcut
    have hz := hb.size
    simp only [World.size_alloc] at hz
    have L0 : wc.cell? ⟨w2.heap.size, 0, none⟩ = some (.int .i64 (lowOf (Int.tmod a 4611686018427387904))) := by have hz := hb.size; (try simp only [World.size_alloc, World.size_setCell, World.size_drew, World.heap_drewN] at hz); obtain ⟨_, _, _⟩ := at_ (w1.heap.size) hb (by go_size); obtain ⟨_, _, _⟩ := at_ (w2.heap.size) hb (by go_size); obtain ⟨_, _, _⟩ := at_ (w3.heap.size) hb (by go_size); simp (maxDischargeDepth := 6) [go_sem, *]
    have L1 : wc.cell? ⟨w2.heap.size, 1, none⟩ = some (.int .i64 (lowOf (Int.tmod b 4611686018427387904))) := by have hz := hb.size; (try simp only [World.size_alloc, World.size_setCell, World.size_drew, World.heap_drewN] at hz); obtain ⟨_, _, _⟩ := at_ (w1.heap.size) hb (by go_size); obtain ⟨_, _, _⟩ := at_ (w2.heap.size) hb (by go_size); obtain ⟨_, _, _⟩ := at_ (w3.heap.size) hb (by go_size); simp (maxDischargeDepth := 6) [go_sem, *]
    have C0 : wc.cell? ⟨w3.heap.size, 0, none⟩ = some (.int .i64 (Int.tmod a 4611686018427387904)) := by have hz := hb.size; (try simp only [World.size_alloc, World.size_setCell, World.size_drew, World.heap_drewN] at hz); obtain ⟨_, _, _⟩ := at_ (w1.heap.size) hb (by go_size); obtain ⟨_, _, _⟩ := at_ (w2.heap.size) hb (by go_size); obtain ⟨_, _, _⟩ := at_ (w3.heap.size) hb (by go_size); simp (maxDischargeDepth := 6) [go_sem, *]
    have C1 : wc.cell? ⟨w3.heap.size, 1, none⟩ = some (.int .i64 (Int.tmod b 4611686018427387904)) := by have hz := hb.size; (try simp only [World.size_alloc, World.size_setCell, World.size_drew, World.heap_drewN] at hz); obtain ⟨_, _, _⟩ := at_ (w1.heap.size) hb (by go_size); obtain ⟨_, _, _⟩ := at_ (w2.heap.size) hb (by go_size); obtain ⟨_, _, _⟩ := at_ (w3.heap.size) hb (by go_size); simp (maxDischargeDepth := 6) [go_sem, *]
    have C2 : wc.cell? ⟨w3.heap.size, 2, none⟩ = some (.int .i64 (half % 2)) := by have hz := hb.size; (try simp only [World.size_alloc, World.size_setCell, World.size_drew, World.heap_drewN] at hz); obtain ⟨_, _, _⟩ := at_ (w1.heap.size) hb (by go_size); obtain ⟨_, _, _⟩ := at_ (w2.heap.size) hb (by go_size); obtain ⟨_, _, _⟩ := at_ (w3.heap.size) hb (by go_size); simp (maxDischargeDepth := 6) [go_sem, *]
    have G2 : w2.heap.size < wc.heap.size := by go_size
    have G3 : w3.heap.size < wc.heap.size := by go_size
    have hB0 : Below w.heap.size w wc := by (repeat' (first | (with_reducible exact Below.refl _ _) | (with_reducible assumption) | (with_reducible refine Below.alloc ?_ ?_ _) | (with_reducible refine Below.drew ?_) | (with_reducible refine Below.setCell ?_ ?_ _) | (with_reducible refine chain ?_ (by assumption) ?_) | go_size))
    have HB := Lib.hid hB0
    clear hb hz hB0
    have hin := withV_bd f (Int.tmod a 4611686018427387904) (Int.tmod b 4611686018427387904) (half % 2) true hf
    have hout := withV_bd f (Int.tmod a 4611686018427387904) (Int.tmod b 4611686018427387904) (half % 2) false hf
    generalize hAA : Int.tmod a 4611686018427387904 = A at *
    generalize hBB : Int.tmod b 4611686018427387904 = B at *
    generalize hHH : half % 2 = h at *
    generalize hII : withV f A B h true = fi at *
    generalize hOO : withV f A B h false = fo at *
    have hfacts := low_facts f A B h hf (by omega) (by omega) (by omega)
    rw [hII, hOO] at hfacts
    have hlow : lowOf A = A - A % 4 ∧ lowOf B = B - B % 4 := ⟨lowOf_eq A (by omega), lowOf_eq B (by omega)⟩
    have HL := Lib.hid hlow
    have HF := Lib.hid hfacts
    clear hfacts hlow
    go_wp2_with (fail)
    refine (lcells_walk _ _ _ _ hin (by omega) (by omega)).mono ?_; rintro e w5 ⟨c5, A5, rfl, hR5, hb⟩; replace L0 := (hb.cell (p := ⟨w2.heap.size, 0, none⟩) (by go_size)).trans L0; replace L1 := (hb.cell (p := ⟨w2.heap.size, 1, none⟩) (by go_size)).trans L1; replace C0 := (hb.cell (p := ⟨w3.heap.size, 0, none⟩) (by go_size)).trans C0; replace C1 := (hb.cell (p := ⟨w3.heap.size, 1, none⟩) (by go_size)).trans C1; replace C2 := (hb.cell (p := ⟨w3.heap.size, 2, none⟩) (by go_size)).trans C2; replace G2 := Nat.lt_of_lt_of_le G2 hb.size; replace G3 := Nat.lt_of_lt_of_le G3 hb.size; replace HB := Lib.hid (HB.out.trans (hb.mono HB.out.size)); have hz := hb.size; clear hb
    have HF2 := HF.out; clear HF; generalize hxs : cells fi (lowOf A) (lowOf B) = xs at *; generalize hys : cells fo (lowOf A) (lowOf B) = ys at HF2; have HF := Lib.hid HF2; clear HF2
    have hl5 : xs.length ≤ 1000 := by rw [← hxs]; exact cells_le _ _ _ hin.1
    go_wp2_with (fail)
    go_loopw [15, 48] (fun c15 c48 wr => ∃ (x : Bool) (j : Nat), c15 = .bool x ∧ c48 = .int .i64 j ∧ j ≤ xs.length ∧ x = (xs.take j).any (eqC A B h) ∧ Kd.R k44 44 wr wc.heap.size (fun _ => True) (.slice A5 xs.length c5) xs ∧ Below w5.heap.size w5 wr) (fun _ c48 _ => xs.length - (intOf c48).toNat)
    case atStart => exact ⟨false, 0, rfl, rfl, by omega, by simp, hR5, Below.refl _ _⟩
    case round =>
      obtain ⟨x, j, rfl, rfl, hj, hx, hR, hb⟩ := hrel
      by_cases hjl : j < xs.length
      · obtain ⟨ad, rfl, x0, x1, x2⟩ := at_T44 (Kd.R_reads' hR).2.2 j (by omega) (by omega)
        rw [Int.toNat_natCast] at x0 x1 x2
        replace L0 := (hb.cell (p := ⟨w2.heap.size, 0, none⟩) (by go_size)).trans L0; replace L1 := (hb.cell (p := ⟨w2.heap.size, 1, none⟩) (by go_size)).trans L1; replace C0 := (hb.cell (p := ⟨w3.heap.size, 0, none⟩) (by go_size)).trans C0; replace C1 := (hb.cell (p := ⟨w3.heap.size, 1, none⟩) (by go_size)).trans C1; replace C2 := (hb.cell (p := ⟨w3.heap.size, 2, none⟩) (by go_size)).trans C2; replace G2 := Nat.lt_of_lt_of_le G2 hb.size; replace G3 := Nat.lt_of_lt_of_le G3 hb.size; replace HB := Lib.hid (HB.out.trans (hb.mono HB.out.size)); have hz := hb.size
        have Hx := Lib.hid hx
        clear hx
        have hany := any_succ (eqC A B h) xs j hjl
        have Hany := Lib.hid hany
        clear hany
        cases x
        all_goals go_wp2_with (fail)
        all_goals refine ⟨⟨_, j + 1, rfl, by go_num, by omega, ?_, Kd.R_below hR (by (repeat' (first | (with_reducible exact Below.refl _ _) | (with_reducible assumption) | (with_reducible refine Below.alloc ?_ ?_ _) | (with_reducible refine Below.drew ?_) | (with_reducible refine Below.setCell ?_ ?_ _) | (with_reducible refine chain ?_ (by assumption) ?_) | go_size))), by (repeat' (first | (with_reducible exact Below.refl _ _) | (with_reducible assumption) | (with_reducible refine Below.alloc ?_ ?_ _) | (with_reducible refine Below.drew ?_) | (with_reducible refine Below.setCell ?_ ?_ _) | (with_reducible refine chain ?_ (by assumption) ?_) | go_size))⟩, by simp [intOf]; omega⟩
        all_goals rw [Hany.out, ← Hx.out]
        all_goals simp [eqC, *]
      · obtain rfl : j = xs.length := by omega
        rw [List.take_length] at hx
        have Hx := Lib.hid hx
        clear hx
        replace L0 := (hb.cell (p := ⟨w2.heap.size, 0, none⟩) (by go_size)).trans L0; replace L1 := (hb.cell (p := ⟨w2.heap.size, 1, none⟩) (by go_size)).trans L1; replace C0 := (hb.cell (p := ⟨w3.heap.size, 0, none⟩) (by go_size)).trans C0; replace C1 := (hb.cell (p := ⟨w3.heap.size, 1, none⟩) (by go_size)).trans C1; replace C2 := (hb.cell (p := ⟨w3.heap.size, 2, none⟩) (by go_size)).trans C2; replace G2 := Nat.lt_of_lt_of_le G2 hb.size; replace G3 := Nat.lt_of_lt_of_le G3 hb.size; replace HB := Lib.hid (HB.out.trans (hb.mono HB.out.size)); have hz := hb.size
        go_wp2_with (fail)
        refine (lcells_walk _ _ _ _ hout (by omega) (by omega)).mono ?_; rintro e w6 ⟨c6, A6, rfl, hR6, hb⟩; replace L0 := (hb.cell (p := ⟨w2.heap.size, 0, none⟩) (by go_size)).trans L0; replace L1 := (hb.cell (p := ⟨w2.heap.size, 1, none⟩) (by go_size)).trans L1; replace C0 := (hb.cell (p := ⟨w3.heap.size, 0, none⟩) (by go_size)).trans C0; replace C1 := (hb.cell (p := ⟨w3.heap.size, 1, none⟩) (by go_size)).trans C1; replace C2 := (hb.cell (p := ⟨w3.heap.size, 2, none⟩) (by go_size)).trans C2; replace G2 := Nat.lt_of_lt_of_le G2 hb.size; replace G3 := Nat.lt_of_lt_of_le G3 hb.size; replace HB := Lib.hid (HB.out.trans (hb.mono HB.out.size)); have hz := hb.size; clear hb
        rw [hys] at hR6 ⊢
        have hl6 : ys.length ≤ 1000 := by rw [← hys]; exact cells_le _ _ _ hout.1
        go_wp2_with (fail)
        go_loopw [15, 63] (fun c15 c63 wq => ∃ (y : Bool) (k : Nat), c15 = .bool y ∧ c63 = .int .i64 k ∧ k ≤ ys.length ∧ y = (x && !(ys.take k).any (eqC A B h)) ∧ Kd.R k44 44 wq wr.heap.size (fun _ => True) (.slice A6 ys.length c6) ys ∧ Below w6.heap.size w6 wq) (fun _ c63 _ => ys.length - (intOf c63).toNat)
        case atStart => exact ⟨x, 0, rfl, rfl, by omega, by simp, hR6, Below.refl _ _⟩
        case round =>
          obtain ⟨y, k, rfl, rfl, hk, hy, hR, hb⟩ := hrel
          by_cases hkl : k < ys.length
          · obtain ⟨ad, rfl, y0, y1, y2⟩ := at_T44 (Kd.R_reads' hR).2.2 k (by omega) (by omega)
            rw [Int.toNat_natCast] at y0 y1 y2
            replace L0 := (hb.cell (p := ⟨w2.heap.size, 0, none⟩) (by go_size)).trans L0; replace L1 := (hb.cell (p := ⟨w2.heap.size, 1, none⟩) (by go_size)).trans L1; replace C0 := (hb.cell (p := ⟨w3.heap.size, 0, none⟩) (by go_size)).trans C0; replace C1 := (hb.cell (p := ⟨w3.heap.size, 1, none⟩) (by go_size)).trans C1; replace C2 := (hb.cell (p := ⟨w3.heap.size, 2, none⟩) (by go_size)).trans C2; replace G2 := Nat.lt_of_lt_of_le G2 hb.size; replace G3 := Nat.lt_of_lt_of_le G3 hb.size; replace HB := Lib.hid (HB.out.trans (hb.mono HB.out.size)); have hz := hb.size
            have Hy := Lib.hid hy
            clear hy
            have hany := any_succ (eqC A B h) ys k hkl
            have Hany := Lib.hid hany
            clear hany
            cases y
            all_goals go_wp2_with (fail)
            all_goals refine ⟨⟨_, k + 1, rfl, by go_num, by omega, ?_, Kd.R_below hR (by (repeat' (first | (with_reducible exact Below.refl _ _) | (with_reducible assumption) | (with_reducible refine Below.alloc ?_ ?_ _) | (with_reducible refine Below.drew ?_) | (with_reducible refine Below.setCell ?_ ?_ _) | (with_reducible refine chain ?_ (by assumption) ?_) | go_size))), by (repeat' (first | (with_reducible exact Below.refl _ _) | (with_reducible assumption) | (with_reducible refine Below.alloc ?_ ?_ _) | (with_reducible refine Below.drew ?_) | (with_reducible refine Below.setCell ?_ ?_ _) | (with_reducible refine chain ?_ (by assumption) ?_) | go_size))⟩, by simp [intOf]; omega⟩
            all_goals rw [Hany.out, Bool.not_or, ← Bool.and_assoc, ← Hy.out]
            all_goals simp [eqC, *]
          · obtain rfl : k = ys.length := by omega
            rw [List.take_length, Hx.out, HF.out.1, HF.out.2.1] at hy
            obtain rfl : y = true := by simpa using hy
            clear hy
            replace L0 := (hb.cell (p := ⟨w2.heap.size, 0, none⟩) (by go_size)).trans L0; replace L1 := (hb.cell (p := ⟨w2.heap.size, 1, none⟩) (by go_size)).trans L1; replace C0 := (hb.cell (p := ⟨w3.heap.size, 0, none⟩) (by go_size)).trans C0; replace C1 := (hb.cell (p := ⟨w3.heap.size, 1, none⟩) (by go_size)).trans C1; replace C2 := (hb.cell (p := ⟨w3.heap.size, 2, none⟩) (by go_size)).trans C2; replace G2 := Nat.lt_of_lt_of_le G2 hb.size; replace G3 := Nat.lt_of_lt_of_le G3 hb.size; replace HB := Lib.hid (HB.out.trans (hb.mono HB.out.size)); have hz := hb.size
            have hcnt := HF.out.2.2.1
            have hor := HF.out.2.2.2
            have hP1 := popN_le 32 fo.toNat
            obtain ⟨P, hP, hPb⟩ : ∃ P : Int, P = popN 32 fo.toNat ∧ 0 ≤ P ∧ P ≤ 32 := ⟨_, rfl, by omega, by omega⟩
            have hco : ∀ n : Nat, Calls Try.prog 14 #[.int .u32 fo] (wr.drewN n) fun e w' => e = .returned (.int .i64 P) ∧ ∃ m, w' = wr.drewN m := fun n => by rw [hP]; exact count_q _ _ _ hout
            have hci : ∀ n : Nat, Calls Try.prog 14 #[.int .u32 fi] (wr.drewN n) fun e w' => e = .returned (.int .i64 (P + 1)) ∧ ∃ m, w' = wr.drewN m := fun n => by
              rw [show P + 1 = ((popN 32 fi.toNat : Nat) : Int) by omega]; exact count_q _ _ _ hin
            have e1 := HL.out.1
            have e2 := HL.out.2
            have hl1 : ∀ n : Nat, Calls Try.prog 20 #[.int .i64 A] (wr.drewN n) fun e w' => e = .returned (.int .i64 (lowOf A)) ∧ ∃ m, w' = wr.drewN m := fun n => by rw [e1]; exact rlow_q _ _ _ (by omega)
            have hl2 : ∀ n : Nat, Calls Try.prog 20 #[.int .i64 B] (wr.drewN n) fun e w' => e = .returned (.int .i64 (lowOf B)) ∧ ∃ m, w' = wr.drewN m := fun n => by rw [e2]; exact rlow_q _ _ _ (by omega)
            clear e1 e2 hcnt hP hP1
            have hor' : fi = f ∨ (fi ≠ f ∧ fo = f) := by omega
            clear hor
            have hor2 : ((fi : Int) == f) = true ∨ (((fi : Int) == f) = false ∧ ((fo : Int) == f) = true) := by
              rcases hor' with h1 | ⟨h1, h2⟩
              · left; simp [h1]
              · right; exact ⟨by simp [h1], by simp [h2]⟩
            clear hor' C0 C1 C2 G2 G3 HF HL Hx hR hR5 hR6 hb
            rcases hor2 with q1 | ⟨q1, q2⟩
            all_goals go_wp2_with (fail)
            all_goals go_quiet (first | (go_at_call 20; first | ((with_reducible exact hl1 _)) | ((with_reducible exact hl2 _))) | (go_at_call 14; first | ((with_reducible exact hci _)) | ((with_reducible exact hco _))))
            all_goals go_wp2_with (fail)
            all_goals go_ret
            all_goals exact ⟨rfl, by first | exact HB.out | exact below_drewN HB.out _⟩
end Go.Proofs.Ytffaagmiceeclaa.lawSiteLow
