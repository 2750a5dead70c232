/- The walks over Own, Some and Next of a table. -/
import Derived.Test.YtcipkabpekdflaaDoorBase
import Derived.Test.YtcipkabpekdflaaDoorWMore
import Derived.Test.YtcipkabpekdflaaDoorWKept
import Derived.Deep.LoopGhost
import Derived.Deep.DeepCutAuto
import Derived.Outline
namespace Go.Proofs.YtcipkabpekdflaaDoor.ts
open Go.RowKit Go.Proofs.YtcipkabpekdflaaDoorW.PrintWords Go.Proofs.YtcipkabpekdflaaDoorW.PrintLast Go.Proofs.YtcipkabpekdflaaDoorW.PrintMore Go.Proofs.YtcipkabpekdflaaDoor.bs Go.ChangeShapes

def tabV (l b0 b1 s0 s1 : Int) : Value := .agg #[.int .i64 l, .int .u64 b0, .int .u64 b1, .int .u64 s0, .int .u64 s1]
theorem own_walk (l b0 b1 s0 s1 : Int) (w : World) : Calls Tryd.prog 5 #[tabV l b0 b1 s0 s1] w fun e w' => e = .returned (tabV l b0 b1 s0 s1) ∧ Below w.heap.size w w' := by
  unfold tabV
  go_enter Tryd.func5, Tryd.ntmps5
  go_wp2_with (fail)
  refine bodyPost_ret (v := tabV l b0 b1 s0 s1) (by simp [results, Tryd.results5, go_sem, tabV]) rfl ⟨rfl, ?_⟩
  (repeat' (first | (with_reducible exact Below.refl _ _) | (with_reducible assumption) | (with_reducible refine Below.alloc ?_ ?_ _) | (with_reducible refine Below.drew ?_) | (with_reducible refine Below.setCell ?_ ?_ _) | (with_reducible refine chain ?_ (by assumption) ?_) | go_size))
/-- a table that may be, out of anything -/
def someV (lat mask b0 b1 s0 s1 : Int) : Value :=
  tabV lat (Go.bits .and .u64 b0 (Go.bits .andNot .u64 mask 1)) (if lat = 1 then 0 else Go.bits .and .u64 b1 (Go.bits .andNot .u64 mask 1)) (Go.bits .and .u64 s0 mask) (if lat = 1 then 0 else Go.bits .and .u64 s1 mask)
set_option maxHeartbeats 4000000 in
theorem some_walk (l b0 b1 s0 s1 : Int) (w : World) : Calls Tryd.prog 12 #[tabV l b0 b1 s0 s1] w fun e w' => ∃ lat mask, ((lat = 1 ∧ mask = 18446744073709551615) ∨ (lat = 2 ∧ mask = 15) ∨ (lat = 3 ∧ mask = 8191)) ∧ e = .returned (someV lat mask b0 b1 s0 s1) ∧ Below w.heap.size w w' := by
  have hown := Aside0.mk (own_walk l b0 b1 s0 s1)
  unfold tabV at *
  have h255 := bs.and255 l
  go_enter Tryd.func12, Tryd.ntmps12
  go_wp2_with (fail)
  have KX := blk_below (blk_new w (.cells #[.int .i64 l, .int .u64 b0, .int .u64 b1, .int .u64 s0, .int .u64 s1] 25)) (below_alloc (Below.refl _ _) (.cells #[.int .i64 0, .int .u64 0, .int .u64 0, .int .u64 0, .int .u64 0] 29))
  have K0 := blk_new (w.alloc (.cells #[.int .i64 l, .int .u64 b0, .int .u64 b1, .int .u64 s0, .int .u64 s1] 25)) (.cells #[.int .i64 0, .int .u64 0, .int .u64 0, .int .u64 0, .int .u64 0] 29)
  have HB0 := Aside0.mk (below_alloc (below_alloc (Below.refl w.heap.size w) (.cells #[.int .i64 l, .int .u64 b0, .int .u64 b1, .int .u64 s0, .int .u64 s1] 25)) (.cells #[.int .i64 0, .int .u64 0, .int .u64 0, .int .u64 0, .int .u64 0] 29))
  change Calls _ _ _ ((w.alloc (.cells #[.int .i64 l, .int .u64 b0, .int .u64 b1, .int .u64 s0, .int .u64 s1] 25)).alloc (.cells #[.int .i64 0, .int .u64 0, .int .u64 0, .int .u64 0, .int .u64 0] 29)) _
  rw [show (w.alloc (.cells #[.int .i64 l, .int .u64 b0, .int .u64 b1, .int .u64 s0, .int .u64 s1] 25)).heap.size = w.heap.size + 1 by simp] at K0
  obtain ⟨g, hg⟩ : ∃ g, w.heap.size + 1 = g := ⟨_, rfl⟩
  obtain ⟨x, hx⟩ : ∃ x, w.heap.size = x := ⟨_, rfl⟩
  simp only [hg] at K0 ⊢
  simp only [hx] at KX ⊢
  have hgx : g = x + 1 := by omega
  have HX := Aside0.mk hx
  have HGX := Aside0.mk hgx
  clear hg hgx hx
  generalize (w.alloc (.cells #[.int .i64 l, .int .u64 b0, .int .u64 b1, .int .u64 s0, .int .u64 s1] 25)).alloc (.cells #[.int .i64 0, .int .u64 0, .int .u64 0, .int .u64 0, .int .u64 0] 29) = w1 at *
  refine (hown.out w1).mono ?_
  rintro e w2 ⟨rfl, hb⟩
  have KX2 := Aside0.mk (blk_below (blk_below KX hb) (below_alloc (Below.refl _ _) (.cells #[.int .i64 l, .int .u64 b0, .int .u64 b1, .int .u64 s0, .int .u64 s1] 29)))
  have K2 := Aside0.mk (blk_below (blk_below K0 hb) (below_alloc (Below.refl _ _) (.cells #[.int .i64 l, .int .u64 b0, .int .u64 b1, .int .u64 s0, .int .u64 s1] 29)))
  have KT := Aside0.mk (blk_new w2 (.cells #[.int .i64 l, .int .u64 b0, .int .u64 b1, .int .u64 s0, .int .u64 s1] 29))
  have HB2 := Aside0.mk (below_alloc (chain HB0.out hb HB0.out.size) (.cells #[.int .i64 l, .int .u64 b0, .int .u64 b1, .int .u64 s0, .int .u64 s1] 29))
  have hg2 : g < w2.heap.size := blk_lt (blk_below K0 hb)
  clear K0 KX hb hown HB0
  go_upto_region 2 with (fail)
  obtain ⟨t, ht⟩ : ∃ t, w2.heap.size = t := ⟨_, rfl⟩
  simp only [ht] at KT ⊢
  rw [ht] at hg2
  clear ht
  have hxg : x < g := by have := HGX.out; omega
  have hxt : x < t := by omega
  have hwx : w.heap.size ≤ x := by have := HX.out; omega
  generalize w2.alloc (.cells #[.int .i64 l, .int .u64 b0, .int .u64 b1, .int .u64 s0, .int .u64 s1] 29) = w3 at *
  have x0 := blk_cell KX2.out 0
  have c0 := blk_cell KT.out 0
  have c1 := blk_cell KT.out 1
  have c2 := blk_cell KT.out 2
  have c3 := blk_cell KT.out 3
  have c4 := blk_cell KT.out 4
  have f0 := blk_frozen KT.out 0
  have f1 := blk_frozen KT.out 1
  have f2 := blk_frozen KT.out 2
  have f3 := blk_frozen KT.out 3
  have f4 := blk_frozen KT.out 4
  simp only [List.getElem?_toArray, List.getElem?_cons_zero, List.getElem?_cons_succ] at c0 c1 c2 c3 c4 x0
  have h3 : (l % 256).tmod 3 = 0 ∨ (l % 256).tmod 3 = 1 ∨ (l % 256).tmod 3 = 2 := by rw [Int.tmod_eq_emod_of_nonneg (by omega)]; omega
  rcases h3 with h3 | h3 | h3
  · go_upto_region 3 with (fail)
    have K4 := Aside0.mk (blk_put KT.out 0 (.int .i64 1) rfl)
    have KG4 := Aside0.mk (blk_far (p := ⟨t, 0, none⟩) K2.out (show g ≠ t by omega) (.int .i64 1))
    have HB4 := Aside0.mk (HB2.out.setCell (p := ⟨t, 0, none⟩) (show w.heap.size ≤ t by omega) (.int .i64 1))
    clear c0 c1 c2 c3 c4 f0 f1 f2 f3 f4 x0 KT K2 KX2 HB2
    generalize w3.setCell ⟨t, 0, none⟩ (.int .i64 1) = w4 at *
    have c0 := blk_cell K4.out 0
    simp only [List.getElem?_toArray, List.getElem?_cons_zero, List.setIfInBounds_toArray, List.set_cons_zero] at c0
    have cA : ∀ X : Obj, (w4.alloc X).cell? ⟨t, 0, none⟩ = some (.int .i64 1) := fun X => (World.cell?_of_block (Below.heap_alloc w4 X t (blk_lt K4.out))).trans c0
    go_upto_region 4 with (fail)
    have K5 := Aside0.mk (blk_below K4.out (below_alloc (Below.refl _ _) (.cells #[.int .u64 0, .int .u64 18446744073709551615, .int .u64 15, .int .u64 8191] 22)))
    have KG5 := Aside0.mk (blk_below KG4.out (below_alloc (Below.refl _ _) (.cells #[.int .u64 0, .int .u64 18446744073709551615, .int .u64 15, .int .u64 8191] 22)))
    have HB5 := Aside0.mk (below_alloc HB4.out (.cells #[.int .u64 0, .int .u64 18446744073709551615, .int .u64 15, .int .u64 8191] 22))
    clear c0 cA K4 KG4 HB4
    obtain ⟨q, hq⟩ : ∃ q, w4.heap.size = q := ⟨_, rfl⟩
    simp only [hq]
    clear hq
    generalize w4.alloc (.cells #[.int .u64 0, .int .u64 18446744073709551615, .int .u64 15, .int .u64 8191] 22) = w5 at *
    simp only [List.setIfInBounds_toArray, List.set_cons_zero] at K5
    have c0 := blk_cell K5.out 0
    have c1 := blk_cell K5.out 1
    have c2 := blk_cell K5.out 2
    have c3 := blk_cell K5.out 3
    have c4 := blk_cell K5.out 4
    have f0 := blk_frozen K5.out 0
    have f1 := blk_frozen K5.out 1
    have f2 := blk_frozen K5.out 2
    have f3 := blk_frozen K5.out 3
    have f4 := blk_frozen K5.out 4
    simp only [List.getElem?_toArray, List.getElem?_cons_zero, List.getElem?_cons_succ] at c0 c1 c2 c3 c4
    go_wp2_with (fail)
    refine wp_loop_rounds 3 ?_
    rw [rounds_succ]
    go_wp2_with (fail)
    rw [rounds_succ]
    go_wp2_with (fail)
    obtain ⟨B0, hB0⟩ : ∃ v, Go.bits .and .u64 b0 (Go.bits .andNot .u64 18446744073709551615 1) = v := ⟨_, rfl⟩
    obtain ⟨B1, hB1⟩ : ∃ v, Go.bits .and .u64 b1 (Go.bits .andNot .u64 18446744073709551615 1) = v := ⟨_, rfl⟩
    obtain ⟨S0, hS0⟩ : ∃ v, Go.bits .and .u64 s0 18446744073709551615 = v := ⟨_, rfl⟩
    obtain ⟨S1, hS1⟩ : ∃ v, Go.bits .and .u64 s1 18446744073709551615 = v := ⟨_, rfl⟩
    obtain ⟨AN, hAN⟩ : ∃ v, Go.bits .andNot .u64 18446744073709551615 1 = v := ⟨_, rfl⟩
    rw [hB0, hB1, hS0, hS1, hAN]
    have H0 := Aside0.mk hB0
    have H1 := Aside0.mk hB1
    have H2 := Aside0.mk hS0
    have H3 := Aside0.mk hS1
    have K9 := Aside0.mk (blk_put (blk_put (blk_put (blk_put K5.out 1 (.int .u64 B0) rfl) 3 (.int .u64 S0) rfl) 2 (.int .u64 B1) rfl) 4 (.int .u64 S1) rfl)
    have KG9 := Aside0.mk (blk_far (p := ⟨t, 4, none⟩) (blk_far (p := ⟨t, 2, none⟩) (blk_far (p := ⟨t, 3, none⟩) (blk_far (p := ⟨t, 1, none⟩) KG5.out (show g ≠ t by omega) (.int .u64 B0)) (show g ≠ t by omega) (.int .u64 S0)) (show g ≠ t by omega) (.int .u64 B1)) (show g ≠ t by omega) (.int .u64 S1))
    have hwt : w.heap.size ≤ t := by omega
    have HB9 := Aside0.mk ((((HB5.out.setCell (p := ⟨t, 1, none⟩) hwt (.int .u64 B0)).setCell (p := ⟨t, 3, none⟩) hwt (.int .u64 S0)).setCell (p := ⟨t, 2, none⟩) hwt (.int .u64 B1)).setCell (p := ⟨t, 4, none⟩) hwt (.int .u64 S1))
    clear hB0 hB1 hS0 hS1 hAN c0 c1 c2 c3 c4 f0 f1 f2 f3 f4 K5 KG5 HB5
    generalize (((w5.setCell ⟨t, 1, none⟩ (.int .u64 B0)).setCell ⟨t, 3, none⟩ (.int .u64 S0)).setCell ⟨t, 2, none⟩ (.int .u64 B1)).setCell ⟨t, 4, none⟩ (.int .u64 S1) = w9 at *
    simp only [List.setIfInBounds_toArray, List.set_cons_zero, List.set_cons_succ] at K9
    rw [rounds_succ]
    have c0 := blk_cell K9.out 0
    have c1 := blk_cell K9.out 1
    have c2 := blk_cell K9.out 2
    have c3 := blk_cell K9.out 3
    have c4 := blk_cell K9.out 4
    have f2 := blk_frozen K9.out 2
    have f4 := blk_frozen K9.out 4
    simp only [List.getElem?_toArray, List.getElem?_cons_zero, List.getElem?_cons_succ] at c0 c1 c2 c3 c4
    go_upto_region 12 with (fail)
    have K10 := Aside0.mk (blk_put (blk_put K9.out 2 (.int .u64 0) rfl) 4 (.int .u64 0) rfl)
    have KG10 := Aside0.mk (blk_far (p := ⟨t, 4, none⟩) (blk_far (p := ⟨t, 2, none⟩) KG9.out (show g ≠ t by omega) (.int .u64 0)) (show g ≠ t by omega) (.int .u64 0))
    have HB10 := Aside0.mk ((HB9.out.setCell (p := ⟨t, 2, none⟩) hwt (.int .u64 0)).setCell (p := ⟨t, 4, none⟩) hwt (.int .u64 0))
    clear c0 c1 c2 c3 c4 f2 f4 K9 KG9 HB9
    generalize (w9.setCell ⟨t, 2, none⟩ (.int .u64 0)).setCell ⟨t, 4, none⟩ (.int .u64 0) = w10 at *
    simp only [List.setIfInBounds_toArray, List.set_cons_zero, List.set_cons_succ] at K10
    have x0 := blk_cell K10.out 0
    have x1 := blk_cell K10.out 1
    have x2 := blk_cell K10.out 2
    have x3 := blk_cell K10.out 3
    have x4 := blk_cell K10.out 4
    have r0 := blk_cell KG10.out 0
    have r1 := blk_cell KG10.out 1
    have r2 := blk_cell KG10.out 2
    have r3 := blk_cell KG10.out 3
    have r4 := blk_cell KG10.out 4
    have y0 := blk_frozen KG10.out 0
    have y1 := blk_frozen KG10.out 1
    have y2 := blk_frozen KG10.out 2
    have y3 := blk_frozen KG10.out 3
    have y4 := blk_frozen KG10.out 4
    simp only [List.getElem?_toArray, List.getElem?_cons_zero, List.getElem?_cons_succ] at x0 x1 x2 x3 x4 r0 r1 r2 r3 r4
    have hwg : w.heap.size ≤ g := by omega
    go_wp2_with (fail)
    refine bodyPost_ret (v := tabV 1 B0 0 S0 0) (by simp [results, Tryd.results12, go_sem, tabV, y0, y1, y2, y3, y4, r0, r1, r2, r3, r4]) rfl ⟨1, 18446744073709551615, by omega, ?_, ?_⟩
    · rw [← H0.out, ← H2.out]
      rfl
    · repeat (refine Below.setCell (p := ⟨g, _, none⟩) ?_ hwg _)
      exact HB10.out
  · go_upto_region 3 with (fail)
    have K4 := Aside0.mk (blk_put KT.out 0 (.int .i64 2) rfl)
    have KG4 := Aside0.mk (blk_far (p := ⟨t, 0, none⟩) K2.out (show g ≠ t by omega) (.int .i64 2))
    have HB4 := Aside0.mk (HB2.out.setCell (p := ⟨t, 0, none⟩) (show w.heap.size ≤ t by omega) (.int .i64 2))
    clear c0 c1 c2 c3 c4 f0 f1 f2 f3 f4 x0 KT K2 KX2 HB2
    generalize w3.setCell ⟨t, 0, none⟩ (.int .i64 2) = w4 at *
    have c0 := blk_cell K4.out 0
    simp only [List.getElem?_toArray, List.getElem?_cons_zero, List.setIfInBounds_toArray, List.set_cons_zero] at c0
    have cA : ∀ X : Obj, (w4.alloc X).cell? ⟨t, 0, none⟩ = some (.int .i64 2) := fun X => (World.cell?_of_block (Below.heap_alloc w4 X t (blk_lt K4.out))).trans c0
    go_upto_region 4 with (fail)
    have K5 := Aside0.mk (blk_below K4.out (below_alloc (Below.refl _ _) (.cells #[.int .u64 0, .int .u64 18446744073709551615, .int .u64 15, .int .u64 8191] 22)))
    have KG5 := Aside0.mk (blk_below KG4.out (below_alloc (Below.refl _ _) (.cells #[.int .u64 0, .int .u64 18446744073709551615, .int .u64 15, .int .u64 8191] 22)))
    have HB5 := Aside0.mk (below_alloc HB4.out (.cells #[.int .u64 0, .int .u64 18446744073709551615, .int .u64 15, .int .u64 8191] 22))
    clear c0 cA K4 KG4 HB4
    obtain ⟨q, hq⟩ : ∃ q, w4.heap.size = q := ⟨_, rfl⟩
    simp only [hq]
    clear hq
    generalize w4.alloc (.cells #[.int .u64 0, .int .u64 18446744073709551615, .int .u64 15, .int .u64 8191] 22) = w5 at *
    simp only [List.setIfInBounds_toArray, List.set_cons_zero] at K5
    have c0 := blk_cell K5.out 0
    have c1 := blk_cell K5.out 1
    have c2 := blk_cell K5.out 2
    have c3 := blk_cell K5.out 3
    have c4 := blk_cell K5.out 4
    have f0 := blk_frozen K5.out 0
    have f1 := blk_frozen K5.out 1
    have f2 := blk_frozen K5.out 2
    have f3 := blk_frozen K5.out 3
    have f4 := blk_frozen K5.out 4
    simp only [List.getElem?_toArray, List.getElem?_cons_zero, List.getElem?_cons_succ] at c0 c1 c2 c3 c4
    go_wp2_with (fail)
    refine wp_loop_rounds 3 ?_
    rw [rounds_succ]
    go_wp2_with (fail)
    rw [rounds_succ]
    go_wp2_with (fail)
    obtain ⟨B0, hB0⟩ : ∃ v, Go.bits .and .u64 b0 (Go.bits .andNot .u64 15 1) = v := ⟨_, rfl⟩
    obtain ⟨B1, hB1⟩ : ∃ v, Go.bits .and .u64 b1 (Go.bits .andNot .u64 15 1) = v := ⟨_, rfl⟩
    obtain ⟨S0, hS0⟩ : ∃ v, Go.bits .and .u64 s0 15 = v := ⟨_, rfl⟩
    obtain ⟨S1, hS1⟩ : ∃ v, Go.bits .and .u64 s1 15 = v := ⟨_, rfl⟩
    obtain ⟨AN, hAN⟩ : ∃ v, Go.bits .andNot .u64 15 1 = v := ⟨_, rfl⟩
    rw [hB0, hB1, hS0, hS1, hAN]
    have H0 := Aside0.mk hB0
    have H1 := Aside0.mk hB1
    have H2 := Aside0.mk hS0
    have H3 := Aside0.mk hS1
    have K9 := Aside0.mk (blk_put (blk_put (blk_put (blk_put K5.out 1 (.int .u64 B0) rfl) 3 (.int .u64 S0) rfl) 2 (.int .u64 B1) rfl) 4 (.int .u64 S1) rfl)
    have KG9 := Aside0.mk (blk_far (p := ⟨t, 4, none⟩) (blk_far (p := ⟨t, 2, none⟩) (blk_far (p := ⟨t, 3, none⟩) (blk_far (p := ⟨t, 1, none⟩) KG5.out (show g ≠ t by omega) (.int .u64 B0)) (show g ≠ t by omega) (.int .u64 S0)) (show g ≠ t by omega) (.int .u64 B1)) (show g ≠ t by omega) (.int .u64 S1))
    have hwt : w.heap.size ≤ t := by omega
    have HB9 := Aside0.mk ((((HB5.out.setCell (p := ⟨t, 1, none⟩) hwt (.int .u64 B0)).setCell (p := ⟨t, 3, none⟩) hwt (.int .u64 S0)).setCell (p := ⟨t, 2, none⟩) hwt (.int .u64 B1)).setCell (p := ⟨t, 4, none⟩) hwt (.int .u64 S1))
    clear hB0 hB1 hS0 hS1 hAN c0 c1 c2 c3 c4 f0 f1 f2 f3 f4 K5 KG5 HB5
    generalize (((w5.setCell ⟨t, 1, none⟩ (.int .u64 B0)).setCell ⟨t, 3, none⟩ (.int .u64 S0)).setCell ⟨t, 2, none⟩ (.int .u64 B1)).setCell ⟨t, 4, none⟩ (.int .u64 S1) = w9 at *
    simp only [List.setIfInBounds_toArray, List.set_cons_zero, List.set_cons_succ] at K9
    rw [rounds_succ]
    have c0 := blk_cell K9.out 0
    have c1 := blk_cell K9.out 1
    have c2 := blk_cell K9.out 2
    have c3 := blk_cell K9.out 3
    have c4 := blk_cell K9.out 4
    have f2 := blk_frozen K9.out 2
    have f4 := blk_frozen K9.out 4
    simp only [List.getElem?_toArray, List.getElem?_cons_zero, List.getElem?_cons_succ] at c0 c1 c2 c3 c4
    go_upto_region 12 with (fail)
    have K10 := K9
    have KG10 := KG9
    have HB10 := HB9
    clear c0 c1 c2 c3 c4 f2 f4 K9 KG9 HB9
    have x0 := blk_cell K10.out 0
    have x1 := blk_cell K10.out 1
    have x2 := blk_cell K10.out 2
    have x3 := blk_cell K10.out 3
    have x4 := blk_cell K10.out 4
    have r0 := blk_cell KG10.out 0
    have r1 := blk_cell KG10.out 1
    have r2 := blk_cell KG10.out 2
    have r3 := blk_cell KG10.out 3
    have r4 := blk_cell KG10.out 4
    have y0 := blk_frozen KG10.out 0
    have y1 := blk_frozen KG10.out 1
    have y2 := blk_frozen KG10.out 2
    have y3 := blk_frozen KG10.out 3
    have y4 := blk_frozen KG10.out 4
    simp only [List.getElem?_toArray, List.getElem?_cons_zero, List.getElem?_cons_succ] at x0 x1 x2 x3 x4 r0 r1 r2 r3 r4
    have hwg : w.heap.size ≤ g := by omega
    go_wp2_with (fail)
    refine bodyPost_ret (v := tabV 2 B0 B1 S0 S1) (by simp [results, Tryd.results12, go_sem, tabV, y0, y1, y2, y3, y4, r0, r1, r2, r3, r4]) rfl ⟨2, 15, by omega, ?_, ?_⟩
    · rw [← H0.out, ← H1.out, ← H2.out, ← H3.out]
      rfl
    · repeat (refine Below.setCell (p := ⟨g, _, none⟩) ?_ hwg _)
      exact HB10.out
  · go_upto_region 3 with (fail)
    have K4 := Aside0.mk (blk_put KT.out 0 (.int .i64 3) rfl)
    have KG4 := Aside0.mk (blk_far (p := ⟨t, 0, none⟩) K2.out (show g ≠ t by omega) (.int .i64 3))
    have HB4 := Aside0.mk (HB2.out.setCell (p := ⟨t, 0, none⟩) (show w.heap.size ≤ t by omega) (.int .i64 3))
    clear c0 c1 c2 c3 c4 f0 f1 f2 f3 f4 x0 KT K2 KX2 HB2
    generalize w3.setCell ⟨t, 0, none⟩ (.int .i64 3) = w4 at *
    have c0 := blk_cell K4.out 0
    simp only [List.getElem?_toArray, List.getElem?_cons_zero, List.setIfInBounds_toArray, List.set_cons_zero] at c0
    have cA : ∀ X : Obj, (w4.alloc X).cell? ⟨t, 0, none⟩ = some (.int .i64 3) := fun X => (World.cell?_of_block (Below.heap_alloc w4 X t (blk_lt K4.out))).trans c0
    go_upto_region 4 with (fail)
    have K5 := Aside0.mk (blk_below K4.out (below_alloc (Below.refl _ _) (.cells #[.int .u64 0, .int .u64 18446744073709551615, .int .u64 15, .int .u64 8191] 22)))
    have KG5 := Aside0.mk (blk_below KG4.out (below_alloc (Below.refl _ _) (.cells #[.int .u64 0, .int .u64 18446744073709551615, .int .u64 15, .int .u64 8191] 22)))
    have HB5 := Aside0.mk (below_alloc HB4.out (.cells #[.int .u64 0, .int .u64 18446744073709551615, .int .u64 15, .int .u64 8191] 22))
    clear c0 cA K4 KG4 HB4
    obtain ⟨q, hq⟩ : ∃ q, w4.heap.size = q := ⟨_, rfl⟩
    simp only [hq]
    clear hq
    generalize w4.alloc (.cells #[.int .u64 0, .int .u64 18446744073709551615, .int .u64 15, .int .u64 8191] 22) = w5 at *
    simp only [List.setIfInBounds_toArray, List.set_cons_zero] at K5
    have c0 := blk_cell K5.out 0
    have c1 := blk_cell K5.out 1
    have c2 := blk_cell K5.out 2
    have c3 := blk_cell K5.out 3
    have c4 := blk_cell K5.out 4
    have f0 := blk_frozen K5.out 0
    have f1 := blk_frozen K5.out 1
    have f2 := blk_frozen K5.out 2
    have f3 := blk_frozen K5.out 3
    have f4 := blk_frozen K5.out 4
    simp only [List.getElem?_toArray, List.getElem?_cons_zero, List.getElem?_cons_succ] at c0 c1 c2 c3 c4
    go_wp2_with (fail)
    refine wp_loop_rounds 3 ?_
    rw [rounds_succ]
    go_wp2_with (fail)
    rw [rounds_succ]
    go_wp2_with (fail)
    obtain ⟨B0, hB0⟩ : ∃ v, Go.bits .and .u64 b0 (Go.bits .andNot .u64 8191 1) = v := ⟨_, rfl⟩
    obtain ⟨B1, hB1⟩ : ∃ v, Go.bits .and .u64 b1 (Go.bits .andNot .u64 8191 1) = v := ⟨_, rfl⟩
    obtain ⟨S0, hS0⟩ : ∃ v, Go.bits .and .u64 s0 8191 = v := ⟨_, rfl⟩
    obtain ⟨S1, hS1⟩ : ∃ v, Go.bits .and .u64 s1 8191 = v := ⟨_, rfl⟩
    obtain ⟨AN, hAN⟩ : ∃ v, Go.bits .andNot .u64 8191 1 = v := ⟨_, rfl⟩
    rw [hB0, hB1, hS0, hS1, hAN]
    have H0 := Aside0.mk hB0
    have H1 := Aside0.mk hB1
    have H2 := Aside0.mk hS0
    have H3 := Aside0.mk hS1
    have K9 := Aside0.mk (blk_put (blk_put (blk_put (blk_put K5.out 1 (.int .u64 B0) rfl) 3 (.int .u64 S0) rfl) 2 (.int .u64 B1) rfl) 4 (.int .u64 S1) rfl)
    have KG9 := Aside0.mk (blk_far (p := ⟨t, 4, none⟩) (blk_far (p := ⟨t, 2, none⟩) (blk_far (p := ⟨t, 3, none⟩) (blk_far (p := ⟨t, 1, none⟩) KG5.out (show g ≠ t by omega) (.int .u64 B0)) (show g ≠ t by omega) (.int .u64 S0)) (show g ≠ t by omega) (.int .u64 B1)) (show g ≠ t by omega) (.int .u64 S1))
    have hwt : w.heap.size ≤ t := by omega
    have HB9 := Aside0.mk ((((HB5.out.setCell (p := ⟨t, 1, none⟩) hwt (.int .u64 B0)).setCell (p := ⟨t, 3, none⟩) hwt (.int .u64 S0)).setCell (p := ⟨t, 2, none⟩) hwt (.int .u64 B1)).setCell (p := ⟨t, 4, none⟩) hwt (.int .u64 S1))
    clear hB0 hB1 hS0 hS1 hAN c0 c1 c2 c3 c4 f0 f1 f2 f3 f4 K5 KG5 HB5
    generalize (((w5.setCell ⟨t, 1, none⟩ (.int .u64 B0)).setCell ⟨t, 3, none⟩ (.int .u64 S0)).setCell ⟨t, 2, none⟩ (.int .u64 B1)).setCell ⟨t, 4, none⟩ (.int .u64 S1) = w9 at *
    simp only [List.setIfInBounds_toArray, List.set_cons_zero, List.set_cons_succ] at K9
    rw [rounds_succ]
    have c0 := blk_cell K9.out 0
    have c1 := blk_cell K9.out 1
    have c2 := blk_cell K9.out 2
    have c3 := blk_cell K9.out 3
    have c4 := blk_cell K9.out 4
    have f2 := blk_frozen K9.out 2
    have f4 := blk_frozen K9.out 4
    simp only [List.getElem?_toArray, List.getElem?_cons_zero, List.getElem?_cons_succ] at c0 c1 c2 c3 c4
    go_upto_region 12 with (fail)
    have K10 := K9
    have KG10 := KG9
    have HB10 := HB9
    clear c0 c1 c2 c3 c4 f2 f4 K9 KG9 HB9
    have x0 := blk_cell K10.out 0
    have x1 := blk_cell K10.out 1
    have x2 := blk_cell K10.out 2
    have x3 := blk_cell K10.out 3
    have x4 := blk_cell K10.out 4
    have r0 := blk_cell KG10.out 0
    have r1 := blk_cell KG10.out 1
    have r2 := blk_cell KG10.out 2
    have r3 := blk_cell KG10.out 3
    have r4 := blk_cell KG10.out 4
    have y0 := blk_frozen KG10.out 0
    have y1 := blk_frozen KG10.out 1
    have y2 := blk_frozen KG10.out 2
    have y3 := blk_frozen KG10.out 3
    have y4 := blk_frozen KG10.out 4
    simp only [List.getElem?_toArray, List.getElem?_cons_zero, List.getElem?_cons_succ] at x0 x1 x2 x3 x4 r0 r1 r2 r3 r4
    have hwg : w.heap.size ≤ g := by omega
    go_wp2_with (fail)
    refine bodyPost_ret (v := tabV 3 B0 B1 S0 S1) (by simp [results, Tryd.results12, go_sem, tabV, y0, y1, y2, y3, y4, r0, r1, r2, r3, r4]) rfl ⟨3, 8191, by omega, ?_, ?_⟩
    · rw [← H0.out, ← H1.out, ← H2.out, ← H3.out]
      rfl
    · repeat (refine Below.setCell (p := ⟨g, _, none⟩) ?_ hwg _)
      exact HB10.out
end Go.Proofs.YtcipkabpekdflaaDoor.ts
