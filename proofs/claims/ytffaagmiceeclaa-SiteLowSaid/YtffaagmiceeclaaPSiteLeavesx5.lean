-- PRINTED BY print.sh 35421559b90ae4d0a3588c463048766b98c2df88dd9212a6774a882060cdf62d: not written by this session
import Derived.Test.YtffaagmiceeclaaPSiteLeavesx0
import Derived.Test.YtffaagmiceeclaaPSiteLeavesx3
import Derived.Test.YtffaagmiceeclaaPSiteLeavesx4
namespace Go.Proofs.Ytffaagmiceeclaa.PSiteLeaves
open Go.RowKit Go.Proofs.YtffaagmiceeclaaW.PrintWords Go.Proofs.YtffaagmiceeclaaW.PrintLast Go.Proofs.YtffaagmiceeclaaW.PrintMore
attribute [local go_sem] max2_int min2_int max_two min_two max_three min_three max_four min_four   -- for this text's walks alone
set_option linter.unusedVariables false
set_option linter.unusedSimpArgs false

/-! ### site_Leaf_Cells: function 16 -/
mutual
def site_Leaf_Cells.l0 : Nat → Int → List (S44) → Int → Int → Int → Option ((List (S44)))
  | 0, _, _, _, _, _ => none
  | k + 1, x0, x5, x9, x136000, x136001 => if x9 < 4 then (site_Leaf_Cells.l1 k x0 x5 x9 x9 0 x136000 x136001) else (some x5)
def site_Leaf_Cells.l1 : Nat → Int → List (S44) → Int → Int → Int → Int → Int → Option ((List (S44)))
  | 0, _, _, _, _, _, _, _ => none
  | k + 1, x0, x5, x6, x9, x12, x136000, x136001 => if x12 < 4 then (site_Leaf_Cells.l2 k x0 x5 x6 x12 x9 x12 0 x136000 x136001) else (site_Leaf_Cells.l0 k x0 x5 (wrap64 (x9 + 1)) x136000 x136001)
def site_Leaf_Cells.l2 : Nat → Int → List (S44) → Int → Int → Int → Int → Int → Int → Int → Option ((List (S44)))
  | 0, _, _, _, _, _, _, _, _, _ => none
  | k + 1, x0, x5, x6, x7, x9, x12, x15, x136000, x136001 => if x15 < 2 then ((site_Leaf_State.f x0 x7 x6).bind fun t136 => (if 0 ≤ x15 then (if (Go.bits .and .i64 (shr .i64 t136 x15) 1) = 1 then (if x5.length < 5864062014805 then (site_Leaf_Cells.l2 k x0 (x5 ++ [(⟨(⟨wrap64 (x136000 + x7), wrap64 (x136001 + x6)⟩ : S30), x15⟩ : S44)]) x6 x7 x9 x12 (wrap64 (x15 + 1)) x136000 x136001) else (none)) else (site_Leaf_Cells.l2 k x0 x5 x6 x7 x9 x12 (wrap64 (x15 + 1)) x136000 x136001)) else (none))) else (site_Leaf_Cells.l1 k x0 x5 x6 x9 (wrap64 (x12 + 1)) x136000 x136001)
end
def site_Leaf_Cells.f (k : Nat) (a0 : Int) (a1_0 : Int) (a1_1 : Int) : Option ((List (S44))) := site_Leaf_Cells.l0 k a0 ([] : List (S44)) 0 a1_0 a1_1
theorem site_Leaf_Cells.mono_l : ∀ k, (∀ y0 y1 y2 y3 y4, LeO (site_Leaf_Cells.l0 k y0 y1 y2 y3 y4) (site_Leaf_Cells.l0 (k + 1) y0 y1 y2 y3 y4)) ∧ (∀ y0 y1 y2 y3 y4 y5 y6, LeO (site_Leaf_Cells.l1 k y0 y1 y2 y3 y4 y5 y6) (site_Leaf_Cells.l1 (k + 1) y0 y1 y2 y3 y4 y5 y6)) ∧ (∀ y0 y1 y2 y3 y4 y5 y6 y7 y8, LeO (site_Leaf_Cells.l2 k y0 y1 y2 y3 y4 y5 y6 y7 y8) (site_Leaf_Cells.l2 (k + 1) y0 y1 y2 y3 y4 y5 y6 y7 y8))
  | 0 => ⟨fun _ _ _ _ _ r h => by simp [site_Leaf_Cells.l0] at h, fun _ _ _ _ _ _ _ r h => by simp [site_Leaf_Cells.l1] at h, fun _ _ _ _ _ _ _ _ _ r h => by simp [site_Leaf_Cells.l2] at h⟩
  | k + 1 => by
    obtain ⟨ih0, ih1, ih2⟩ := site_Leaf_Cells.mono_l k
    refine ⟨?_, ?_, ?_⟩
    · intro y0 y1 y2 y3 y4
      unfold site_Leaf_Cells.l0
      repeat' first
      | (with_reducible exact ih0 _ _ _ _ _)
      | (with_reducible exact ih1 _ _ _ _ _ _ _)
      | (with_reducible exact ih2 _ _ _ _ _ _ _ _ _)
      | (with_reducible exact LeO.refl _)
      | (with_reducible exact LeO.none _)
      | (with_reducible refine LeO.ite ?_ ?_)
      | (with_reducible refine LeO.bind ?_ (fun _ => ?_))
      | exact ih0 _ _ _ _ _
      | exact ih1 _ _ _ _ _ _ _
      | exact ih2 _ _ _ _ _ _ _ _ _
      | exact LeO.none _
      | refine LeO.ite ?_ ?_
      | refine LeO.bind ?_ (fun _ => ?_)
    · intro y0 y1 y2 y3 y4 y5 y6
      unfold site_Leaf_Cells.l1
      repeat' first
      | (with_reducible exact ih0 _ _ _ _ _)
      | (with_reducible exact ih1 _ _ _ _ _ _ _)
      | (with_reducible exact ih2 _ _ _ _ _ _ _ _ _)
      | (with_reducible exact LeO.refl _)
      | (with_reducible exact LeO.none _)
      | (with_reducible refine LeO.ite ?_ ?_)
      | (with_reducible refine LeO.bind ?_ (fun _ => ?_))
      | exact ih0 _ _ _ _ _
      | exact ih1 _ _ _ _ _ _ _
      | exact ih2 _ _ _ _ _ _ _ _ _
      | exact LeO.none _
      | refine LeO.ite ?_ ?_
      | refine LeO.bind ?_ (fun _ => ?_)
    · intro y0 y1 y2 y3 y4 y5 y6 y7 y8
      unfold site_Leaf_Cells.l2
      repeat' first
      | (with_reducible exact ih0 _ _ _ _ _)
      | (with_reducible exact ih1 _ _ _ _ _ _ _)
      | (with_reducible exact ih2 _ _ _ _ _ _ _ _ _)
      | (with_reducible exact LeO.refl _)
      | (with_reducible exact LeO.none _)
      | (with_reducible refine LeO.ite ?_ ?_)
      | (with_reducible refine LeO.bind ?_ (fun _ => ?_))
      | exact ih0 _ _ _ _ _
      | exact ih1 _ _ _ _ _ _ _
      | exact ih2 _ _ _ _ _ _ _ _ _
      | exact LeO.none _
      | refine LeO.ite ?_ ?_
      | refine LeO.bind ?_ (fun _ => ?_)
theorem site_Leaf_Cells.mono : ∀ a0 a1 a2 k, LeO (site_Leaf_Cells.f k a0 a1 a2) (site_Leaf_Cells.f (k + 1) a0 a1 a2) := by
  intro a0 a1 a2 k
  obtain ⟨ih0, ih1, ih2⟩ := site_Leaf_Cells.mono_l k
  unfold site_Leaf_Cells.f
  repeat' first
      | (with_reducible exact ih0 _ _ _ _ _)
      | (with_reducible exact ih1 _ _ _ _ _ _ _)
      | (with_reducible exact ih2 _ _ _ _ _ _ _ _ _)
      | (with_reducible exact LeO.refl _)
      | (with_reducible exact LeO.none _)
      | (with_reducible refine LeO.ite ?_ ?_)
      | (with_reducible refine LeO.bind ?_ (fun _ => ?_))
      | exact ih0 _ _ _ _ _
      | exact ih1 _ _ _ _ _ _ _
      | exact ih2 _ _ _ _ _ _ _ _ _
      | exact LeO.none _
      | refine LeO.ite ?_ ?_
      | refine LeO.bind ?_ (fun _ => ?_)
set_option maxHeartbeats 8000000 in
set_option maxRecDepth 100000 in
theorem site_Leaf_Cells.calls (k : Nat) (a0 : Int) (a1_0 : Int) (a1_1 : Int) (r : List (S44)) (w : World) (h : site_Leaf_Cells.f k a0 a1_0 a1_1 = some r) :
    Calls Try.prog 16 #[.int .u32 a0, .agg #[.int .i64 a1_0, .int .i64 a1_1]] w fun e w' => ∃ v0_ : Value, e = .returned (v0_) ∧ Kd.R k44 44 w' w.heap.size (fun _ => True) v0_ r ∧ Below w.heap.size w w' := by
  have hu30 := Try.underlying30
  have hu44 := Try.underlying44
  have HB := Aside0.mk (Below.refl w.heap.size w)
  have H : (site_Leaf_Cells.l0 k a0 ([] : List (S44)) 0 a1_0 a1_1) = some r := h
  clear h
  have H' := Aside0.mk H
  clear H
  go_enter Try.func16, Try.ntmps16
  go_wp2_with (first | ((with_reducible refine gate_dst (N := 3) rfl ?_); refine box_event ?hg (N := 3) ?hd (cs := #[.int .i64 a1_0, .int .i64 a1_1]) (t := 30) ?hr ?_; (case hd => rfl); (case hg => rfl); (case hr => first | (go_simp; done) | (go_simp; rfl)); intro gb135 hg w3 hbox hb; have n0_ := Aside0.mk (below_step (by repeat (first | (with_reducible first | exact HB.out | apply below_alloc | apply pw_below_drewN | apply below_drew1) | exact HB.out)) hb); have n1_ := Aside0.mk (hbox); have n2_ := Aside0.mk ((by rw [hg]; exact (below_size (by repeat (first | (with_reducible first | exact HB.out | apply below_alloc | apply pw_below_drewN | apply below_drew1) | exact HB.out))) : w.heap.size ≤ gb135)); have n3_ := Aside0.mk ((by rw [hg]; exact (below_size (by repeat (first | (with_reducible first | exact HB.out | apply below_alloc | apply pw_below_drewN | apply below_drew1) | exact HB.out))) : w.heap.size ≤ gb135)); clear HB; have HB := n0_; have BK135 := n1_; have GW135 := n2_; have GE135 := n3_; clear n0_ n1_ n2_ n3_; clear hb hbox hg))
  go_loopg [5, 9] k (fun kq v5 v9 w' => ∃ (x5_1 : List (S44)) (x9_1 : Int), v9 = .int .i64 x9_1 ∧ Aside0 (site_Leaf_Cells.l0 kq a0 x5_1 x9_1 a1_0 a1_1 = some r) ∧ Aside0 (kq ≤ k) ∧ Aside0 (Kd.R k44 44 w' w.heap.size (fun _ => True) v5 x5_1) ∧ Aside0 (w'.heap[gb135]? = some (.cells #[.int .i64 a1_0, .int .i64 a1_1] 30 (0, 0))) ∧ Aside0 (Below w.heap.size w w'))
  case atStart => exact ⟨(([] : List (S44))), (0), (by first | rfl | (simp; done) | (simp [*]; done)), H', ⟨Nat.le_refl _⟩, ⟨by first | exact Kd.R_nil _ _ _ _ _ | exact Kd.N_nil _ _ _ _ _ | exact Kd.V_nil _ _ _ _ _ | exact Kd.Q_nil _ _ _ _ _ | exact Kd.S_nil _ _ _ _ _⟩, ⟨by (with_reducible repeat (first | refine blk_drewN ?_ _ | refine blk_drew ?_ | refine blk_alloc ?_ _)); exact BK135.out⟩, ⟨by repeat (first | (with_reducible first | exact HB.out | apply below_alloc | apply pw_below_drewN | apply below_drew1 | refine below_set ?_ GE135.out) | exact HB.out)⟩⟩
  case round =>
    clear H'
    try clear c1
    try clear p2
    obtain ⟨x5_1, x9_1, rfl, HA, HK1, HO_5, BK135, HB⟩ := hrel
    cases gk with
    | zero => exact absurd HA.out (by simp [site_Leaf_Cells.l0])
    | succ k1 =>
      have H := HA.out
      clear HA
      simp only [site_Leaf_Cells.l0] at H
      by_cases c4 : x9_1 < 4
      · rw [if_pos c4] at H
        have c4b0 : decide (x9_1 < 4) = true := decide_eq_true c4
        clear c4
        have H' := Aside0.mk H
        clear H
        go_wp2
        go_loopg [5, 12] k1 (fun kq v5 v12 w' => ∃ (x5_2 : List (S44)) (x12_2 : Int), v12 = .int .i64 x12_2 ∧ Aside0 (site_Leaf_Cells.l1 kq a0 x5_2 x9_1 x9_1 x12_2 a1_0 a1_1 = some r) ∧ Aside0 (kq ≤ k1) ∧ Aside0 (Kd.R k44 44 w' w.heap.size (fun _ => True) v5 x5_2) ∧ Aside0 (w'.heap[gb135]? = some (.cells #[.int .i64 a1_0, .int .i64 a1_1] 30 (0, 0))) ∧ Aside0 (Below w.heap.size w w'))
        case atStart => exact ⟨(x5_1), (0), (by first | rfl | (simp; done) | (simp [*]; done)), H', ⟨Nat.le_refl _⟩, ⟨by (with_reducible repeat (first | apply Kd.R_alloc | apply Kd.R_drewN | apply Kd.R_drew)); exact HO_5.out⟩, ⟨by (with_reducible repeat (first | refine blk_drewN ?_ _ | refine blk_drew ?_ | refine blk_alloc ?_ _)); exact BK135.out⟩, ⟨by repeat (first | (with_reducible first | exact HB.out | apply below_alloc | apply pw_below_drewN | apply below_drew1 | refine below_set ?_ GE135.out) | exact HB.out)⟩⟩
        case round =>
          clear H'
          try clear c1
          try clear p2
          try clear c4
          try clear c4b0
          try clear p2
          obtain ⟨x5_2, x12_2, rfl, HA, HK2, HO_5, BK135, HB⟩ := hrel
          cases gk with
          | zero => exact absurd HA.out (by simp [site_Leaf_Cells.l1])
          | succ k2 =>
            have H := HA.out
            clear HA
            simp only [site_Leaf_Cells.l1] at H
            by_cases c5 : x12_2 < 4
            · rw [if_pos c5] at H
              have c5b0 : decide (x12_2 < 4) = true := decide_eq_true c5
              clear c5
              have H' := Aside0.mk H
              clear H
              go_wp2
              go_loopg [5, 15] k2 (fun kq v5 v15 w' => ∃ (x5_3 : List (S44)) (x15_3 : Int), v15 = .int .i64 x15_3 ∧ Aside0 (site_Leaf_Cells.l2 kq a0 x5_3 x9_1 x12_2 x9_1 x12_2 x15_3 a1_0 a1_1 = some r) ∧ Aside0 (kq ≤ k2) ∧ Aside0 (Kd.R k44 44 w' w.heap.size (fun _ => True) v5 x5_3) ∧ Aside0 (w'.heap[gb135]? = some (.cells #[.int .i64 a1_0, .int .i64 a1_1] 30 (0, 0))) ∧ Aside0 (Below w.heap.size w w'))
              case atStart => exact ⟨(x5_2), (0), (by first | rfl | (simp; done) | (simp [*]; done)), H', ⟨Nat.le_refl _⟩, ⟨by (with_reducible repeat (first | apply Kd.R_alloc | apply Kd.R_drewN | apply Kd.R_drew)); exact HO_5.out⟩, ⟨by (with_reducible repeat (first | refine blk_drewN ?_ _ | refine blk_drew ?_ | refine blk_alloc ?_ _)); exact BK135.out⟩, ⟨by repeat (first | (with_reducible first | exact HB.out | apply below_alloc | apply pw_below_drewN | apply below_drew1 | refine below_set ?_ GE135.out) | exact HB.out)⟩⟩
              case round =>
                clear H'
                try clear c1
                try clear p2
                try clear c4
                try clear c4b0
                try clear c5
                try clear c5b0
                try clear p2
                obtain ⟨x5_3, x15_3, rfl, HA, HK3, HO_5, BK135, HB⟩ := hrel
                cases gk with
                | zero => exact absurd HA.out (by simp [site_Leaf_Cells.l2])
                | succ k3 =>
                  have H := HA.out
                  clear HA
                  simp only [site_Leaf_Cells.l2] at H
                  by_cases c6 : x15_3 < 2
                  · rw [if_pos c6] at H
                    have c6b0 : decide (x15_3 < 2) = true := decide_eq_true c6
                    clear c6
                    replace H := Option.bind_eq_some_iff.mp H
                    obtain ⟨t136, A70, H⟩ := H
                    replace H : (if 0 ≤ x15_3 then (if (Go.bits .and .i64 (shr .i64 t136 x15_3) 1) = 1 then (if x5_3.length < 5864062014805 then (site_Leaf_Cells.l2 k3 a0 (x5_3 ++ [(⟨(⟨wrap64 (a1_0 + x12_2), wrap64 (a1_1 + x9_1)⟩ : S30), x15_3⟩ : S44)]) x9_1 x12_2 x9_1 x12_2 (wrap64 (x15_3 + 1)) a1_0 a1_1) else (none)) else (site_Leaf_Cells.l2 k3 a0 x5_3 x9_1 x12_2 x9_1 x12_2 (wrap64 (x15_3 + 1)) a1_0 a1_1)) else (none)) = some r := H
                    have A7 := Aside0.mk A70
                    clear A70
                    by_cases c8 : 0 ≤ x15_3
                    · rw [if_pos c8] at H
                      have c8b0 := eq_true c8
                      have c8b1 : decide (0 ≤ x15_3) = true := decide_eq_true c8
                      clear c8
                      obtain ⟨ji9, hji9⟩ : ∃ j_ : Int, (shr .i64 t136 x15_3) = j_ := ⟨_, rfl⟩
                      replace H : (if (Go.bits .and .i64 (ji9) 1) = 1 then (if x5_3.length < 5864062014805 then (site_Leaf_Cells.l2 k3 a0 (x5_3 ++ [(⟨(⟨wrap64 (a1_0 + x12_2), wrap64 (a1_1 + x9_1)⟩ : S30), x15_3⟩ : S44)]) x9_1 x12_2 x9_1 x12_2 (wrap64 (x15_3 + 1)) a1_0 a1_1) else (none)) else (site_Leaf_Cells.l2 k3 a0 x5_3 x9_1 x12_2 x9_1 x12_2 (wrap64 (x15_3 + 1)) a1_0 a1_1)) = some r := by first | (rw [hji9] at H; exact H) | (simp only [hji9] at H ⊢; exact H)
                      (try rw [hji9] at A7)
                      have hji9_ : (t136 / 2 ^ min x15_3.toNat 64) = ji9 := hji9
                      have hji9z : x15_3 ≤ 64 → (t136 / 2 ^ x15_3.toNat) = ji9 := shr_small hji9
                      by_cases c10 : (Go.bits .and .i64 (ji9) 1) = 1
                      · rw [if_pos c10] at H
                        have c10b0 : ((Go.bits .and .i64 (ji9) 1) == 1) = true := beq_iff_eq.mpr c10
                        have c10b1 : ((Go.bits .and .i64 (ji9) 1) != 1) = false := bne_eq_false_iff_eq.mpr c10
                        clear c10
                        by_cases c11 : x5_3.length < 5864062014805
                        · rw [if_pos c11] at H
                          have LMc11 := Aside0.mk c11
                          clear c11
                          obtain ⟨y137, hy137⟩ : ∃ y_ : List (S44), y_ = (x5_3 ++ [(⟨(⟨wrap64 (a1_0 + x12_2), wrap64 (a1_1 + x9_1)⟩ : S30), x15_3⟩ : S44)]) := ⟨_, rfl⟩
                          replace H : (site_Leaf_Cells.l2 k3 a0 y137 x9_1 x12_2 x9_1 x12_2 (wrap64 (x15_3 + 1)) a1_0 a1_1) = some r := by first | (rw [hy137]; with_reducible exact H) | (have H2_ := (Option.bind_some _ _).symm.trans H; rw [hy137]; with_reducible exact H2_) | (have H2_ := (Option.bind_some _ _).symm.trans H; with_reducible exact H2_) | with_reducible exact H | (rw [hy137]; exact H) | exact H
                          have Ny137 := Aside0.mk hy137
                          clear hy137
                          have H' := Aside0.mk H
                          clear H
                          go_wp2_with (first | ((with_reducible refine gate_callee (f := 9) rfl ?_); refine goesL_ (some 21) rfl rfl Try.func9 (by kernel_rfl) rfl #[.int .u32 a0, .int .i64 x12_2, .int .i64 x9_1] rfl (by (try simp only [List.map_toArray, List.map_cons, List.map_nil]); first | done | rfl | (simp only [List.length_drop, List.length_take]; rfl)) ?_; (with_reducible refine (site_Leaf_State.calls a0 x12_2 x9_1 t136 _ A7.out).mono ?_); rintro e w' ⟨rfl, ⟨nd, rfl⟩⟩; refine ⟨_, rfl, ?_⟩; have hcz12_0 : wr.cell? ⟨gb135, 0, none⟩ = some (.int .i64 a1_0) := (blk_cell BK135.out 0).trans rfl; have hcz12_1 : wr.cell? ⟨gb135, 1, none⟩ = some (.int .i64 a1_1) := (blk_cell BK135.out 1).trans rfl; have hfz12_0 := blk_frozen BK135.out 0; have hfz12_1 := blk_frozen BK135.out 1) | ((with_reducible refine gate_builtin (b := .append) (xs := #[.tmp 26, .tmp 38]) rfl ?_); at_builtin; refine Kd.R_append k44 (w0 := w) w.heap.size rfl (.tmp 26) (.tmp 38) 39 44 (.agg #[(.int .i64 0), (.int .i64 0), (.int .i64 0)]) 24 rfl Try.underlying39 info44 rfl (by decide) (by omega) u5 x5_3 (⟨(⟨wrap64 (a1_0 + x12_2), wrap64 (a1_1 + x9_1)⟩ : S30), x15_3⟩ : S44) [.int .i64 (wrap64 (a1_0 + x12_2)), .int .i64 (wrap64 (a1_1 + x9_1)), .int .i64 x15_3] (fun _ => True) (fun _ => False) rfl rfl ?aP (fun _ hk => hk.elim) ?aF ?aO ?aB ?aS ?aL ?_; (case aP => exact k44_mkM _ _ _ (⟨(⟨wrap64 (a1_0 + x12_2), wrap64 (a1_1 + x9_1)⟩ : S30), x15_3⟩ : S44)); (case aB => exact (by repeat (first | (with_reducible first | exact HB.out | apply below_alloc | apply pw_below_drewN | apply below_drew1 | refine below_set ?_ GE135.out) | exact HB.out))); (case aF => exact (fun _ _ => trivial)); (case aO => exact (by (with_reducible repeat (first | apply Kd.R_alloc | apply Kd.R_drewN | apply Kd.R_drew)); exact HO_5.out)); (case aS => exact (below_size (by repeat (first | (with_reducible first | exact HB.out | apply below_alloc | apply pw_below_drewN | apply below_drew1 | refine below_set ?_ GE135.out) | exact HB.out)))); (case aL => have := LMc11.out; omega); intro v138 w13 ho hb hg hat; rw [← Ny137.out] at ho; have n0_ := Aside0.mk (blk_grown (g := gb135) (o := .cells #[.int .i64 a1_0, .int .i64 a1_1] 30 (0, 0)) (by (with_reducible repeat (first | refine blk_drewN ?_ _ | refine blk_drew ?_ | refine blk_alloc ?_ _)); exact BK135.out) hg (Kd.R_ne HO_5.out BK135.out (by decide))); have n1_ := Aside0.mk (hb); have n2_ := Aside0.mk (ho); clear BK135; clear HB; clear HO_5; have BK135 := n0_; have HB := n1_; have HO139 := n2_; clear n0_ n1_ n2_; clear ho hb hg hat))
                          go_roundg k3
                          case measure => have := HK1.out; have := HK2.out; have := HK3.out; omega
                          case rel => exact ⟨(y137), (wrap64 (x15_3 + 1)), (by first | rfl | (simp; done) | (simp [*]; done)), H', ⟨by have := HK1.out; have := HK2.out; have := HK3.out; omega⟩, ⟨by (with_reducible repeat (first | apply Kd.R_alloc | apply Kd.R_drewN | apply Kd.R_drew)); exact HO139.out⟩, ⟨by (with_reducible repeat (first | refine blk_drewN ?_ _ | refine blk_drew ?_ | refine blk_alloc ?_ _)); exact BK135.out⟩, ⟨by repeat (first | (with_reducible first | exact HB.out | apply below_alloc | apply pw_below_drewN | apply below_drew1 | refine below_set ?_ GE135.out) | exact HB.out)⟩⟩
                        · rw [if_neg c11] at H
                          exact absurd H (by simp)
                      · rw [if_neg c10] at H
                        have c10b0 : ((Go.bits .and .i64 (ji9) 1) == 1) = false := beq_eq_false_iff_ne.mpr c10
                        have c10b1 : ((Go.bits .and .i64 (ji9) 1) != 1) = true := bne_iff_ne.mpr c10
                        have H' := Aside0.mk H
                        clear H
                        go_wp2_with (first | ((with_reducible refine gate_callee (f := 9) rfl ?_); refine goesL_ (some 21) rfl rfl Try.func9 (by kernel_rfl) rfl #[.int .u32 a0, .int .i64 x12_2, .int .i64 x9_1] rfl (by (try simp only [List.map_toArray, List.map_cons, List.map_nil]); first | done | rfl | (simp only [List.length_drop, List.length_take]; rfl)) ?_; (with_reducible refine (site_Leaf_State.calls a0 x12_2 x9_1 t136 _ A7.out).mono ?_); rintro e w' ⟨rfl, ⟨nd, rfl⟩⟩; refine ⟨_, rfl, ?_⟩))
                        go_roundg k3
                        case measure => have := HK1.out; have := HK2.out; have := HK3.out; omega
                        case rel => exact ⟨(x5_3), (wrap64 (x15_3 + 1)), (by first | rfl | (simp; done) | (simp [*]; done)), H', ⟨by have := HK1.out; have := HK2.out; have := HK3.out; omega⟩, ⟨by (with_reducible repeat (first | apply Kd.R_alloc | apply Kd.R_drewN | apply Kd.R_drew)); exact HO_5.out⟩, ⟨by (with_reducible repeat (first | refine blk_drewN ?_ _ | refine blk_drew ?_ | refine blk_alloc ?_ _)); exact BK135.out⟩, ⟨by repeat (first | (with_reducible first | exact HB.out | apply below_alloc | apply pw_below_drewN | apply below_drew1 | refine below_set ?_ GE135.out) | exact HB.out)⟩⟩
                    · rw [if_neg c8] at H
                      exact absurd H (by simp)
                  · rw [if_neg c6] at H
                    have c6b0 : decide (x15_3 < 2) = false := decide_eq_false c6
                    clear c6
                    have H' := Aside0.mk H
                    clear H
                    go_wp2
                    go_roundg k3
                    case measure => have := HK1.out; have := HK2.out; have := HK3.out; omega
                    case rel => exact ⟨(x5_3), (wrap64 (x12_2 + 1)), (by first | rfl | (simp; done) | (simp [*]; done)), H', ⟨by have := HK1.out; have := HK2.out; have := HK3.out; omega⟩, ⟨by (with_reducible repeat (first | apply Kd.R_alloc | apply Kd.R_drewN | apply Kd.R_drew)); exact HO_5.out⟩, ⟨by (with_reducible repeat (first | refine blk_drewN ?_ _ | refine blk_drew ?_ | refine blk_alloc ?_ _)); exact BK135.out⟩, ⟨by repeat (first | (with_reducible first | exact HB.out | apply below_alloc | apply pw_below_drewN | apply below_drew1 | refine below_set ?_ GE135.out) | exact HB.out)⟩⟩
            · rw [if_neg c5] at H
              have c5b0 : decide (x12_2 < 4) = false := decide_eq_false c5
              clear c5
              have H' := Aside0.mk H
              clear H
              go_wp2
              go_roundg k2
              case measure => have := HK1.out; have := HK2.out; omega
              case rel => exact ⟨(x5_2), (wrap64 (x9_1 + 1)), (by first | rfl | (simp; done) | (simp [*]; done)), H', ⟨by have := HK1.out; have := HK2.out; omega⟩, ⟨by (with_reducible repeat (first | apply Kd.R_alloc | apply Kd.R_drewN | apply Kd.R_drew)); exact HO_5.out⟩, ⟨by (with_reducible repeat (first | refine blk_drewN ?_ _ | refine blk_drew ?_ | refine blk_alloc ?_ _)); exact BK135.out⟩, ⟨by repeat (first | (with_reducible first | exact HB.out | apply below_alloc | apply pw_below_drewN | apply below_drew1 | refine below_set ?_ GE135.out) | exact HB.out)⟩⟩
      · rw [if_neg c4] at H
        have c4b0 : decide (x9_1 < 4) = false := decide_eq_false c4
        clear c4
        obtain rfl := Option.some.inj H
        go_wp2
        go_ret
        exact ⟨_, by first | rfl | (simp [errW_none, errW_some] <;> rfl) | (simp [*, errW_none, errW_some] <;> rfl), by (with_reducible repeat (first | apply Kd.R_alloc | apply Kd.R_drewN | apply Kd.R_drew)); exact HO_5.out, by repeat (first | (with_reducible first | exact HB.out | apply below_alloc | apply pw_below_drewN | apply below_drew1 | refine below_set ?_ GE135.out) | exact HB.out)⟩

/-! ### honeycomblaw09_SiteLeaves: function 4 -/
mutual
def honeycomblaw09_SiteLeaves.j0 : Nat → Int → Int → Int → Int → Int → List Int → Int → Bool → Int → Int → Option (Bool)
  | 0, _, _, _, _, _, _, _, _, _, _ => none
  | k + 1, x0, x1, x2, x3, x11, x12, x13, x47, x141000, x141001 => if x47 = true then (if 0 ≤ (wrap64 ((wrap64 (4 * x2)) + x1)) then (if (wrap64 ((wrap64 (4 * x2)) + x1)) < (x12.length : Int) then (honeycomblaw09_SiteLeaves.j1 k x0 x11 (x12.set ((wrap64 ((wrap64 (4 * x2)) + x1)) : Int).toNat (Go.bits .and .i64 x3 3)) x13 x141000 x141001) else (none)) else (none)) else (honeycomblaw09_SiteLeaves.j1 k x0 x11 x12 x13 x141000 x141001)
def honeycomblaw09_SiteLeaves.j1 : Nat → Int → Int → List Int → Int → Int → Int → Option (Bool)
  | 0, _, _, _, _, _, _ => none
  | k + 1, x0, x11, x12, x13, x141000, x141001 => (honeycombref09_Cells.f k x0 (Int.tmod x141000 1152921504606846976) (Int.tmod x141001 1152921504606846976)).bind fun t149 => ((honeycombref09_Of.f k x12).bind fun t152 => (if x13 = t152 then ((site_Leaf_Count.f k x11).bind fun t153 => (if t153 = (t149.length : Int) then ((site_Leaf_Cells.f k x11 (Int.tmod x141000 1152921504606846976) (Int.tmod x141001 1152921504606846976)).bind fun t154 => ((honeycomblaw04_Are.f k t154 t149).bind fun t157 => (some (t157 == 0)))) else (some false))) else (some false)))
end
def honeycomblaw09_SiteLeaves.f (k : Nat) (a0 : Int) (a1 : Int) (a2 : Int) (a3 : Int) (a4_0 : Int) (a4_1 : Int) : Option (Bool) := (honeycomblaw09_awake.f k).bind fun t141 => (if t141 = true then ((honeycombref09_States.f k a0).bind fun t142 => ((site_Leaf_Put.f a0 a1 a2 a3).bind fun t145 => ((site_Leaf_State.f a0 a1 a2).bind fun t146 => ((honeycombref09_State.f k a0 a1 a2).bind fun t147 => (if t146 = t147 then (if a1 ≥ 0 then (if a1 < 4 then (if a2 ≥ 0 then (honeycomblaw09_SiteLeaves.j0 k a0 a1 a2 a3 a0 t142 t145 (decide (a2 < 4)) a4_0 a4_1) else (honeycomblaw09_SiteLeaves.j0 k a0 a1 a2 a3 a0 t142 t145 false a4_0 a4_1)) else (honeycomblaw09_SiteLeaves.j0 k a0 a1 a2 a3 a0 t142 t145 false a4_0 a4_1)) else (honeycomblaw09_SiteLeaves.j0 k a0 a1 a2 a3 a0 t142 t145 false a4_0 a4_1)) else (some false)))))) else (some false))
theorem honeycomblaw09_SiteLeaves.mono_l : ∀ k, (∀ y0 y1 y2 y3 y4 y5 y6 y7 y8 y9, LeO (honeycomblaw09_SiteLeaves.j0 k y0 y1 y2 y3 y4 y5 y6 y7 y8 y9) (honeycomblaw09_SiteLeaves.j0 (k + 1) y0 y1 y2 y3 y4 y5 y6 y7 y8 y9)) ∧ (∀ y0 y1 y2 y3 y4 y5, LeO (honeycomblaw09_SiteLeaves.j1 k y0 y1 y2 y3 y4 y5) (honeycomblaw09_SiteLeaves.j1 (k + 1) y0 y1 y2 y3 y4 y5))
  | 0 => ⟨fun _ _ _ _ _ _ _ _ _ _ r h => by simp [honeycomblaw09_SiteLeaves.j0] at h, fun _ _ _ _ _ _ r h => by simp [honeycomblaw09_SiteLeaves.j1] at h⟩
  | k + 1 => by
    obtain ⟨ih0, ih1⟩ := honeycomblaw09_SiteLeaves.mono_l k
    refine ⟨?_, ?_⟩
    · intro y0 y1 y2 y3 y4 y5 y6 y7 y8 y9
      unfold honeycomblaw09_SiteLeaves.j0
      repeat' first
      | (with_reducible exact ih0 _ _ _ _ _ _ _ _ _ _)
      | (with_reducible exact ih1 _ _ _ _ _ _)
      | (with_reducible exact honeycomblaw04_Are.mono _ _ _)
      | (with_reducible exact honeycomblaw09_awake.mono _)
      | (with_reducible exact honeycombref09_Cells.mono _ _ _ _)
      | (with_reducible exact honeycombref09_Of.mono _ _)
      | (with_reducible exact honeycombref09_State.mono _ _ _ _)
      | (with_reducible exact honeycombref09_States.mono _ _)
      | (with_reducible exact site_Leaf_Cells.mono _ _ _ _)
      | (with_reducible exact site_Leaf_Count.mono _ _)
      | (with_reducible exact LeO.refl _)
      | (with_reducible exact LeO.none _)
      | (with_reducible refine LeO.ite ?_ ?_)
      | (with_reducible refine LeO.bind ?_ (fun _ => ?_))
      | exact ih0 _ _ _ _ _ _ _ _ _ _
      | exact ih1 _ _ _ _ _ _
      | exact honeycomblaw04_Are.mono _ _ _
      | exact honeycomblaw09_awake.mono _
      | exact honeycombref09_Cells.mono _ _ _ _
      | exact honeycombref09_Of.mono _ _
      | exact honeycombref09_State.mono _ _ _ _
      | exact honeycombref09_States.mono _ _
      | exact site_Leaf_Cells.mono _ _ _ _
      | exact site_Leaf_Count.mono _ _
      | exact LeO.none _
      | refine LeO.ite ?_ ?_
      | refine LeO.bind ?_ (fun _ => ?_)
    · intro y0 y1 y2 y3 y4 y5
      unfold honeycomblaw09_SiteLeaves.j1
      repeat' first
      | (with_reducible exact ih0 _ _ _ _ _ _ _ _ _ _)
      | (with_reducible exact ih1 _ _ _ _ _ _)
      | (with_reducible exact honeycomblaw04_Are.mono _ _ _)
      | (with_reducible exact honeycomblaw09_awake.mono _)
      | (with_reducible exact honeycombref09_Cells.mono _ _ _ _)
      | (with_reducible exact honeycombref09_Of.mono _ _)
      | (with_reducible exact honeycombref09_State.mono _ _ _ _)
      | (with_reducible exact honeycombref09_States.mono _ _)
      | (with_reducible exact site_Leaf_Cells.mono _ _ _ _)
      | (with_reducible exact site_Leaf_Count.mono _ _)
      | (with_reducible exact LeO.refl _)
      | (with_reducible exact LeO.none _)
      | (with_reducible refine LeO.ite ?_ ?_)
      | (with_reducible refine LeO.bind ?_ (fun _ => ?_))
      | exact ih0 _ _ _ _ _ _ _ _ _ _
      | exact ih1 _ _ _ _ _ _
      | exact honeycomblaw04_Are.mono _ _ _
      | exact honeycomblaw09_awake.mono _
      | exact honeycombref09_Cells.mono _ _ _ _
      | exact honeycombref09_Of.mono _ _
      | exact honeycombref09_State.mono _ _ _ _
      | exact honeycombref09_States.mono _ _
      | exact site_Leaf_Cells.mono _ _ _ _
      | exact site_Leaf_Count.mono _ _
      | exact LeO.none _
      | refine LeO.ite ?_ ?_
      | refine LeO.bind ?_ (fun _ => ?_)
theorem honeycomblaw09_SiteLeaves.mono : ∀ a0 a1 a2 a3 a4 a5 k, LeO (honeycomblaw09_SiteLeaves.f k a0 a1 a2 a3 a4 a5) (honeycomblaw09_SiteLeaves.f (k + 1) a0 a1 a2 a3 a4 a5) := by
  intro a0 a1 a2 a3 a4 a5 k
  obtain ⟨ih0, ih1⟩ := honeycomblaw09_SiteLeaves.mono_l k
  unfold honeycomblaw09_SiteLeaves.f
  repeat' first
      | (with_reducible exact ih0 _ _ _ _ _ _ _ _ _ _)
      | (with_reducible exact ih1 _ _ _ _ _ _)
      | (with_reducible exact honeycomblaw04_Are.mono _ _ _)
      | (with_reducible exact honeycomblaw09_awake.mono _)
      | (with_reducible exact honeycombref09_Cells.mono _ _ _ _)
      | (with_reducible exact honeycombref09_Of.mono _ _)
      | (with_reducible exact honeycombref09_State.mono _ _ _ _)
      | (with_reducible exact honeycombref09_States.mono _ _)
      | (with_reducible exact site_Leaf_Cells.mono _ _ _ _)
      | (with_reducible exact site_Leaf_Count.mono _ _)
      | (with_reducible exact LeO.refl _)
      | (with_reducible exact LeO.none _)
      | (with_reducible refine LeO.ite ?_ ?_)
      | (with_reducible refine LeO.bind ?_ (fun _ => ?_))
      | exact ih0 _ _ _ _ _ _ _ _ _ _
      | exact ih1 _ _ _ _ _ _
      | exact honeycomblaw04_Are.mono _ _ _
      | exact honeycomblaw09_awake.mono _
      | exact honeycombref09_Cells.mono _ _ _ _
      | exact honeycombref09_Of.mono _ _
      | exact honeycombref09_State.mono _ _ _ _
      | exact honeycombref09_States.mono _ _
      | exact site_Leaf_Cells.mono _ _ _ _
      | exact site_Leaf_Count.mono _ _
      | exact LeO.none _
      | refine LeO.ite ?_ ?_
      | refine LeO.bind ?_ (fun _ => ?_)
set_option maxHeartbeats 8000000 in
set_option maxRecDepth 100000 in
theorem honeycomblaw09_SiteLeaves.calls (k : Nat) (a0 : Int) (a1 : Int) (a2 : Int) (a3 : Int) (a4_0 : Int) (a4_1 : Int) (r : Bool) (w : World) (h : honeycomblaw09_SiteLeaves.f k a0 a1 a2 a3 a4_0 a4_1 = some r) :
    Calls Try.prog 4 #[.int .u32 a0, .int .i64 a1, .int .i64 a2, .int .i64 a3, .agg #[.int .i64 a4_0, .int .i64 a4_1]] w fun e w' => e = .returned (.bool r) ∧ Below w.heap.size w w' := by
  have hu30 := Try.underlying30
  have HB := Aside0.mk (Below.refl w.heap.size w)
  have H : ((honeycomblaw09_awake.f k).bind fun t141 => (if t141 = true then ((honeycombref09_States.f k a0).bind fun t142 => ((site_Leaf_Put.f a0 a1 a2 a3).bind fun t145 => ((site_Leaf_State.f a0 a1 a2).bind fun t146 => ((honeycombref09_State.f k a0 a1 a2).bind fun t147 => (if t146 = t147 then (if a1 ≥ 0 then (if a1 < 4 then (if a2 ≥ 0 then (honeycomblaw09_SiteLeaves.j0 k a0 a1 a2 a3 a0 t142 t145 (decide (a2 < 4)) a4_0 a4_1) else (honeycomblaw09_SiteLeaves.j0 k a0 a1 a2 a3 a0 t142 t145 false a4_0 a4_1)) else (honeycomblaw09_SiteLeaves.j0 k a0 a1 a2 a3 a0 t142 t145 false a4_0 a4_1)) else (honeycomblaw09_SiteLeaves.j0 k a0 a1 a2 a3 a0 t142 t145 false a4_0 a4_1)) else (some false)))))) else (some false))) = some r := h
  clear h
  replace H := Option.bind_eq_some_iff.mp H
  obtain ⟨t141, A60, H⟩ := H
  replace H : (if t141 = true then ((honeycombref09_States.f k a0).bind fun t142 => ((site_Leaf_Put.f a0 a1 a2 a3).bind fun t145 => ((site_Leaf_State.f a0 a1 a2).bind fun t146 => ((honeycombref09_State.f k a0 a1 a2).bind fun t147 => (if t146 = t147 then (if a1 ≥ 0 then (if a1 < 4 then (if a2 ≥ 0 then (honeycomblaw09_SiteLeaves.j0 k a0 a1 a2 a3 a0 t142 t145 (decide (a2 < 4)) a4_0 a4_1) else (honeycomblaw09_SiteLeaves.j0 k a0 a1 a2 a3 a0 t142 t145 false a4_0 a4_1)) else (honeycomblaw09_SiteLeaves.j0 k a0 a1 a2 a3 a0 t142 t145 false a4_0 a4_1)) else (honeycomblaw09_SiteLeaves.j0 k a0 a1 a2 a3 a0 t142 t145 false a4_0 a4_1)) else (some false)))))) else (some false)) = some r := H
  have A6 := Aside0.mk A60
  clear A60
  by_cases c7 : t141 = true
  · subst c7
    have H1 : ((honeycombref09_States.f k a0).bind fun t142 => ((site_Leaf_Put.f a0 a1 a2 a3).bind fun t145 => ((site_Leaf_State.f a0 a1 a2).bind fun t146 => ((honeycombref09_State.f k a0 a1 a2).bind fun t147 => (if t146 = t147 then (if a1 ≥ 0 then (if a1 < 4 then (if a2 ≥ 0 then (honeycomblaw09_SiteLeaves.j0 k a0 a1 a2 a3 a0 t142 t145 (decide (a2 < 4)) a4_0 a4_1) else (honeycomblaw09_SiteLeaves.j0 k a0 a1 a2 a3 a0 t142 t145 false a4_0 a4_1)) else (honeycomblaw09_SiteLeaves.j0 k a0 a1 a2 a3 a0 t142 t145 false a4_0 a4_1)) else (honeycomblaw09_SiteLeaves.j0 k a0 a1 a2 a3 a0 t142 t145 false a4_0 a4_1)) else (some false)))))) = some r := by rw [if_pos rfl] at H; exact H
    clear H
    have H := H1
    clear H1
    replace H := Option.bind_eq_some_iff.mp H
    obtain ⟨t142, A80, H⟩ := H
    replace H : ((site_Leaf_Put.f a0 a1 a2 a3).bind fun t145 => ((site_Leaf_State.f a0 a1 a2).bind fun t146 => ((honeycombref09_State.f k a0 a1 a2).bind fun t147 => (if t146 = t147 then (if a1 ≥ 0 then (if a1 < 4 then (if a2 ≥ 0 then (honeycomblaw09_SiteLeaves.j0 k a0 a1 a2 a3 a0 t142 t145 (decide (a2 < 4)) a4_0 a4_1) else (honeycomblaw09_SiteLeaves.j0 k a0 a1 a2 a3 a0 t142 t145 false a4_0 a4_1)) else (honeycomblaw09_SiteLeaves.j0 k a0 a1 a2 a3 a0 t142 t145 false a4_0 a4_1)) else (honeycomblaw09_SiteLeaves.j0 k a0 a1 a2 a3 a0 t142 t145 false a4_0 a4_1)) else (some false))))) = some r := H
    have A8 := Aside0.mk A80
    clear A80
    replace H := Option.bind_eq_some_iff.mp H
    obtain ⟨t145, A90, H⟩ := H
    replace H : ((site_Leaf_State.f a0 a1 a2).bind fun t146 => ((honeycombref09_State.f k a0 a1 a2).bind fun t147 => (if t146 = t147 then (if a1 ≥ 0 then (if a1 < 4 then (if a2 ≥ 0 then (honeycomblaw09_SiteLeaves.j0 k a0 a1 a2 a3 a0 t142 t145 (decide (a2 < 4)) a4_0 a4_1) else (honeycomblaw09_SiteLeaves.j0 k a0 a1 a2 a3 a0 t142 t145 false a4_0 a4_1)) else (honeycomblaw09_SiteLeaves.j0 k a0 a1 a2 a3 a0 t142 t145 false a4_0 a4_1)) else (honeycomblaw09_SiteLeaves.j0 k a0 a1 a2 a3 a0 t142 t145 false a4_0 a4_1)) else (some false)))) = some r := H
    have A9 := Aside0.mk A90
    clear A90
    replace H := Option.bind_eq_some_iff.mp H
    obtain ⟨t146, A100, H⟩ := H
    replace H : ((honeycombref09_State.f k a0 a1 a2).bind fun t147 => (if t146 = t147 then (if a1 ≥ 0 then (if a1 < 4 then (if a2 ≥ 0 then (honeycomblaw09_SiteLeaves.j0 k a0 a1 a2 a3 a0 t142 t145 (decide (a2 < 4)) a4_0 a4_1) else (honeycomblaw09_SiteLeaves.j0 k a0 a1 a2 a3 a0 t142 t145 false a4_0 a4_1)) else (honeycomblaw09_SiteLeaves.j0 k a0 a1 a2 a3 a0 t142 t145 false a4_0 a4_1)) else (honeycomblaw09_SiteLeaves.j0 k a0 a1 a2 a3 a0 t142 t145 false a4_0 a4_1)) else (some false))) = some r := H
    have A10 := Aside0.mk A100
    clear A100
    replace H := Option.bind_eq_some_iff.mp H
    obtain ⟨t147, A110, H⟩ := H
    replace H : (if t146 = t147 then (if a1 ≥ 0 then (if a1 < 4 then (if a2 ≥ 0 then (honeycomblaw09_SiteLeaves.j0 k a0 a1 a2 a3 a0 t142 t145 (decide (a2 < 4)) a4_0 a4_1) else (honeycomblaw09_SiteLeaves.j0 k a0 a1 a2 a3 a0 t142 t145 false a4_0 a4_1)) else (honeycomblaw09_SiteLeaves.j0 k a0 a1 a2 a3 a0 t142 t145 false a4_0 a4_1)) else (honeycomblaw09_SiteLeaves.j0 k a0 a1 a2 a3 a0 t142 t145 false a4_0 a4_1)) else (some false)) = some r := H
    have A11 := Aside0.mk A110
    clear A110
    by_cases c12 : t146 = t147
    · rw [if_pos c12] at H
      have c12b0 : (t146 == t147) = true := beq_iff_eq.mpr c12
      have c12b1 : (t146 != t147) = false := bne_eq_false_iff_eq.mpr c12
      clear c12
      have HC13 := Aside0.mk H
      clear H
      go_enter Try.func4, Try.ntmps4
      go_upto_region 8 with (first | ((with_reducible refine gate_dst (N := 9) rfl ?_); (try (refine gate_guard (by rfl) ?_; dsimp only)); refine box_event ?hg (N := 9) ?hd (cs := #[.int .i64 a4_0, .int .i64 a4_1]) (t := 30) ?hr ?_; (case hd => rfl); (case hg => rfl); (case hr => first | (go_simp; done) | (go_simp; rfl)); intro gb140 hg w14 hbox hb; have n0_ := Aside0.mk (below_step (by repeat (first | (with_reducible first | exact HB.out | apply below_alloc | apply pw_below_drewN | apply below_drew1) | exact HB.out)) hb); have n1_ := Aside0.mk (hbox); have n2_ := Aside0.mk ((by rw [hg]; exact (below_size (by repeat (first | (with_reducible first | exact HB.out | apply below_alloc | apply pw_below_drewN | apply below_drew1) | exact HB.out))) : w.heap.size ≤ gb140)); have n3_ := Aside0.mk ((by rw [hg]; exact (below_size (by repeat (first | (with_reducible first | exact HB.out | apply below_alloc | apply pw_below_drewN | apply below_drew1) | exact HB.out))) : w.heap.size ≤ gb140)); clear HB; have HB := n0_; have BK140 := n1_; have GW140 := n2_; have GE140 := n3_; clear n0_ n1_ n2_ n3_; clear hb hbox hg) | ((with_reducible refine gate_callee (f := 7) rfl ?_); refine goesL_ (some 15) rfl rfl Try.func7 (by kernel_rfl) rfl #[] rfl (by (try simp only [List.map_toArray, List.map_cons, List.map_nil]); first | done | rfl | (simp only [List.length_drop, List.length_take]; rfl)) ?_; (with_reducible refine (honeycomblaw09_awake.calls k  true _ A6.out).mono ?_); rintro e w15 ⟨rfl, hb⟩; refine ⟨_, rfl, ?_⟩; have n0_ := Aside0.mk (blk_below (g := gb140) (o := .cells #[.int .i64 a4_0, .int .i64 a4_1] 30 (0, 0)) (by (with_reducible repeat (first | refine blk_drewN ?_ _ | refine blk_drew ?_ | refine blk_alloc ?_ _)); exact BK140.out) hb); have n1_ := Aside0.mk (below_step (by repeat (first | (with_reducible first | exact HB.out | apply below_alloc | apply pw_below_drewN | apply below_drew1 | refine below_set ?_ GE140.out) | exact HB.out)) hb); clear BK140; clear HB; have BK140 := n0_; have HB := n1_; clear n0_ n1_; (try clear hb); (try clear hb2); (try clear hk); (try clear hi)) | ((with_reducible refine gate_callee (f := 10) rfl ?_); refine goesL_ (some 19) rfl rfl Try.func10 (by kernel_rfl) rfl #[.int .u32 a0] rfl (by (try simp only [List.map_toArray, List.map_cons, List.map_nil]); first | done | rfl | (simp only [List.length_drop, List.length_take]; rfl)) ?_; (with_reducible refine (honeycombref09_States.calls k a0 t142 _ A8.out).mono ?_); rintro e w16 ⟨v143, rfl, ho0, hb⟩; refine ⟨_, rfl, ?_⟩; have n0_ := Aside0.mk (Kd.R_lower ho0 (below_size (by repeat (first | (with_reducible first | exact HB.out | apply below_alloc | apply pw_below_drewN | apply below_drew1 | refine below_set ?_ GE140.out) | exact HB.out)))); have n1_ := Aside0.mk (blk_below (g := gb140) (o := .cells #[.int .i64 a4_0, .int .i64 a4_1] 30 (0, 0)) (by (with_reducible repeat (first | refine blk_drewN ?_ _ | refine blk_drew ?_ | refine blk_alloc ?_ _)); exact BK140.out) hb); have n2_ := Aside0.mk (below_step (by repeat (first | (with_reducible first | exact HB.out | apply below_alloc | apply pw_below_drewN | apply below_drew1 | refine below_set ?_ GE140.out) | exact HB.out)) hb); clear BK140; clear HB; have HO144 := n0_; have BK140 := n1_; have HB := n2_; clear n0_ n1_ n2_; (try clear hb); (try clear hb2); (try clear hk); (try clear hi); (try clear ho0)) | ((with_reducible refine gate_callee (f := 8) rfl ?_); refine goesL_ (some 24) rfl rfl Try.func8 (by kernel_rfl) rfl #[.int .u32 a0, .int .i64 a1, .int .i64 a2, .int .i64 a3] rfl (by (try simp only [List.map_toArray, List.map_cons, List.map_nil]); first | done | rfl | (simp only [List.length_drop, List.length_take]; rfl)) ?_; (with_reducible refine (site_Leaf_Put.calls a0 a1 a2 a3 t145 _ A9.out).mono ?_); rintro e w' ⟨rfl, ⟨nd, rfl⟩⟩; refine ⟨_, rfl, ?_⟩) | ((with_reducible refine gate_callee (f := 9) rfl ?_); refine goesL_ (some 28) rfl rfl Try.func9 (by kernel_rfl) rfl #[.int .u32 a0, .int .i64 a1, .int .i64 a2] rfl (by (try simp only [List.map_toArray, List.map_cons, List.map_nil]); first | done | rfl | (simp only [List.length_drop, List.length_take]; rfl)) ?_; (with_reducible refine (site_Leaf_State.calls a0 a1 a2 t146 _ A10.out).mono ?_); rintro e w' ⟨rfl, ⟨nd, rfl⟩⟩; refine ⟨_, rfl, ?_⟩) | ((with_reducible refine gate_callee (f := 11) rfl ?_); refine goesL_ (some 32) rfl rfl Try.func11 (by kernel_rfl) rfl #[.int .u32 a0, .int .i64 a1, .int .i64 a2] rfl (by (try simp only [List.map_toArray, List.map_cons, List.map_nil]); first | done | rfl | (simp only [List.length_drop, List.length_take]; rfl)) ?_; (with_reducible refine (honeycombref09_State.calls k a0 a1 a2 t147 _ A11.out).mono ?_); rintro e w' ⟨rfl, ⟨nd, rfl⟩⟩; refine ⟨_, rfl, ?_⟩))
      (try simp only [Act.put, List.setIfInBounds_toArray, List.set_cons_zero, List.set_cons_succ])
      go_cut [47] (fun v47 wc => ∃ (kq : Nat) (x47_12 : Bool), v47 = .bool x47_12 ∧ Aside0 (honeycomblaw09_SiteLeaves.j0 kq a0 a1 a2 a3 a0 t142 t145 x47_12 a4_0 a4_1 = some r) ∧ Aside0 (kq ≤ k) ∧ Aside0 (Kd.R (Kd.int .i64) 3 wc w.heap.size (fun _ => True) v143 t142) ∧ Aside0 (wc.heap[gb140]? = some (.cells #[.int .i64 a4_0, .int .i64 a4_1] 30 (0, 0))) ∧ Aside0 (Below w.heap.size w wc))
      case first =>
        have H := HC13.out
        clear HC13
        by_cases c17 : a1 ≥ 0
        · rw [if_pos c17] at H
          have c17b0 : decide (0 ≤ a1) = true := decide_eq_true c17
          clear c17
          (first | rw [c17b0] | (simp only [i64_w, i32_w]; rw [c17b0]) | skip)
          by_cases c18 : a1 < 4
          · rw [if_pos c18] at H
            have c18b0 : decide (a1 < 4) = true := decide_eq_true c18
            clear c18
            by_cases c19 : a2 ≥ 0
            · rw [if_pos c19] at H
              have c19b0 : decide (0 ≤ a2) = true := decide_eq_true c19
              clear c19
              have H' := Aside0.mk H
              clear H
              go_wp2
              go_meet
              case rel => exact ⟨_, (decide (a2 < 4)), (by first | rfl | (simp; done) | (simp [*]; done)), H', ⟨by first | omega | exact Nat.le_refl _⟩, ⟨by (with_reducible repeat (first | apply Kd.R_alloc | apply Kd.R_drewN | apply Kd.R_drew)); exact HO144.out⟩, ⟨by (with_reducible repeat (first | refine blk_drewN ?_ _ | refine blk_drew ?_ | refine blk_alloc ?_ _)); exact BK140.out⟩, ⟨by repeat (first | (with_reducible first | exact HB.out | apply below_alloc | apply pw_below_drewN | apply below_drew1 | refine below_set ?_ GE140.out) | exact HB.out)⟩⟩
            · rw [if_neg c19] at H
              have c19b0 : decide (0 ≤ a2) = false := decide_eq_false c19
              clear c19
              have H' := Aside0.mk H
              clear H
              go_wp2
              go_meet
              case rel => exact ⟨_, (false), (by first | rfl | (simp; done) | (simp [*]; done)), H', ⟨by first | omega | exact Nat.le_refl _⟩, ⟨by (with_reducible repeat (first | apply Kd.R_alloc | apply Kd.R_drewN | apply Kd.R_drew)); exact HO144.out⟩, ⟨by (with_reducible repeat (first | refine blk_drewN ?_ _ | refine blk_drew ?_ | refine blk_alloc ?_ _)); exact BK140.out⟩, ⟨by repeat (first | (with_reducible first | exact HB.out | apply below_alloc | apply pw_below_drewN | apply below_drew1 | refine below_set ?_ GE140.out) | exact HB.out)⟩⟩
          · rw [if_neg c18] at H
            have c18b0 : decide (a1 < 4) = false := decide_eq_false c18
            clear c18
            have H' := Aside0.mk H
            clear H
            go_wp2
            go_meet
            case rel => exact ⟨_, (false), (by first | rfl | (simp; done) | (simp [*]; done)), H', ⟨by first | omega | exact Nat.le_refl _⟩, ⟨by (with_reducible repeat (first | apply Kd.R_alloc | apply Kd.R_drewN | apply Kd.R_drew)); exact HO144.out⟩, ⟨by (with_reducible repeat (first | refine blk_drewN ?_ _ | refine blk_drew ?_ | refine blk_alloc ?_ _)); exact BK140.out⟩, ⟨by repeat (first | (with_reducible first | exact HB.out | apply below_alloc | apply pw_below_drewN | apply below_drew1 | refine below_set ?_ GE140.out) | exact HB.out)⟩⟩
        · rw [if_neg c17] at H
          have c17b0 : decide (0 ≤ a1) = false := decide_eq_false c17
          clear c17
          (first | rw [c17b0] | (simp only [i64_w, i32_w]; rw [c17b0]) | skip)
          have H' := Aside0.mk H
          clear H
          go_wp2
          go_meet
          case rel => exact ⟨_, (false), (by first | rfl | (simp; done) | (simp [*]; done)), H', ⟨by first | omega | exact Nat.le_refl _⟩, ⟨by (with_reducible repeat (first | apply Kd.R_alloc | apply Kd.R_drewN | apply Kd.R_drew)); exact HO144.out⟩, ⟨by (with_reducible repeat (first | refine blk_drewN ?_ _ | refine blk_drew ?_ | refine blk_alloc ?_ _)); exact BK140.out⟩, ⟨by repeat (first | (with_reducible first | exact HB.out | apply below_alloc | apply pw_below_drewN | apply below_drew1 | refine below_set ?_ GE140.out) | exact HB.out)⟩⟩
      case rest =>
        clear HC13
        try clear c1
        try clear p2
        try clear c4
        try clear c7
        try clear c8
        try clear c9
        try clear c10
        try clear c11
        try clear c12
        try clear c12b0
        try clear c12b1
        try clear c17
        try clear c17b0
        try clear c18
        try clear c18b0
        try clear c19
        try clear c19b0
        obtain ⟨kq, x47_12, rfl, HA, HJ12, HO_12, BK140, HB⟩ := hcut
        cases kq with
        | zero => exact absurd HA.out (by simp [honeycomblaw09_SiteLeaves.j0])
        | succ kj12 =>
          have H := HA.out
          clear HA
          simp only [honeycomblaw09_SiteLeaves.j0] at H
          have HC20 := Aside0.mk H
          clear H
          go_upto_if 47 with (fail)
          go_cut [] (fun wc => ∃ (kq : Nat) (x12_19 : List Int), Aside0 (honeycomblaw09_SiteLeaves.j1 kq a0 a0 x12_19 t145 a4_0 a4_1 = some r) ∧ Aside0 (kq ≤ kj12) ∧ Aside0 (Kd.R (Kd.int .i64) 3 wc w.heap.size (fun _ => True) v143 x12_19) ∧ Aside0 (wc.heap[gb140]? = some (.cells #[.int .i64 a4_0, .int .i64 a4_1] 30 (0, 0))) ∧ Aside0 (Below w.heap.size w wc))
          case first =>
            have H := HC20.out
            clear HC20
            by_cases c21 : x47_12 = true
            · subst c21
              have H1 : (if 0 ≤ (wrap64 ((wrap64 (4 * a2)) + a1)) then (if (wrap64 ((wrap64 (4 * a2)) + a1)) < (t142.length : Int) then (honeycomblaw09_SiteLeaves.j1 kj12 a0 a0 (t142.set ((wrap64 ((wrap64 (4 * a2)) + a1)) : Int).toNat (Go.bits .and .i64 a3 3)) t145 a4_0 a4_1) else (none)) else (none)) = some r := by rw [if_pos rfl] at H; exact H
              clear H
              have H := H1
              clear H1
              obtain ⟨ji22, hji22⟩ : ∃ j_ : Int, (wrap64 ((wrap64 (4 * a2)) + a1)) = j_ := ⟨_, rfl⟩
              replace H : (if 0 ≤ (ji22) then (if (ji22) < (t142.length : Int) then (honeycomblaw09_SiteLeaves.j1 kj12 a0 a0 (t142.set ((ji22) : Int).toNat (Go.bits .and .i64 a3 3)) t145 a4_0 a4_1) else (none)) else (none)) = some r := by first | (rw [hji22] at H; exact H) | (simp only [hji22] at H ⊢; exact H)
              have hji22w : (IntKind.i64.wrap ((wrap64 (4 * a2)) + a1)) = ji22 := (i64_w _).trans hji22
              by_cases c23 : 0 ≤ (ji22)
              · rw [if_pos c23] at H
                have c23b0 : decide (0 ≤ (ji22)) = true := decide_eq_true c23
                clear c23
                (first | rw [c23b0] | (simp only [i64_w, i32_w]; rw [c23b0]) | skip)
                by_cases c24 : (ji22) < (t142.length : Int)
                · rw [if_pos c24] at H
                  have c24b0 : decide ((ji22) < (t142.length : Int)) = true := decide_eq_true c24
                  clear c24
                  obtain ⟨y148, hy148⟩ : ∃ y_ : List Int, y_ = (t142.set ((ji22) : Int).toNat (Go.bits .and .i64 a3 3)) := ⟨_, rfl⟩
                  replace H : (honeycomblaw09_SiteLeaves.j1 kj12 a0 a0 y148 t145 a4_0 a4_1) = some r := by first | (rw [hy148]; with_reducible exact H) | (have H2_ := (Option.bind_some _ _).symm.trans H; rw [hy148]; with_reducible exact H2_) | (have H2_ := (Option.bind_some _ _).symm.trans H; with_reducible exact H2_) | with_reducible exact H | (rw [hy148]; exact H) | exact H
                  have Ny148 := Aside0.mk hy148
                  clear hy148
                  have H' := Aside0.mk H
                  clear H
                  have p25 : 0 ≤ ((ji22) : Int) := of_decide_eq_true (by first | (with_reducible assumption) | assumption)
                  have q25 : ((ji22) : Int) < ((t142.length : Int) : Int) := of_decide_eq_true (by first | (with_reducible assumption) | assumption)
                  obtain ⟨go25, co25, eo25, gb25, gl25, cl25, HG25⟩ := Kd.R_form HO_12.out (by omega)
                  (first | cases eo25 | (injection eo25 with ea_ en_ ec_; (first | subst ea_ | (injection ea_ with ea_; subst ea_)); subst ec_; clear en_))
                  have GB25 := Aside0.mk gb25
                  have GG25 := Aside0.mk HG25
                  clear gb25 gl25 HG25
                  obtain ⟨hx25_0, hf25_0⟩ := Kd.R_celln 0 HO_12.out ((ji22) : Int) p25 q25
                  replace p25 := eq_true p25
                  replace q25 := eq_true q25
                  have HP26 := Kd.R_putg HO_12.out ((ji22) : Int) (Go.bits .and .i64 a3 3)
                  go_wp2_with (first | ((with_reducible refine gate_store (t := 3) (p := 55) rfl ?_); refine store_event (t := 3) (p := 55) (v := ?vo_w27) (w1 := (wc.setCell ⟨go25, ((ji22) : Int).toNat, none⟩ (.int .i64 (Go.bits .and .i64 a3 3)))) ?hg ?ho ?hn ?hr ?_; (case ho => rfl); (case hg => rfl); (case hn => rfl); (case hr => first | (go_simp; done) | (go_simp; rfl)); intro w27 hw; have hg : wc.grownBy w27 (some go25) := (by rw [hw]; exact HP26.2); have hp_ : Kd.R (Kd.int .i64) 3 w27 w.heap.size (fun _ => True) (.slice (some ⟨go25, 0, none⟩) t142.length co25) y148 := (by rw [hw, Ny148.out]; exact HP26.1); clear HP26; have n0_ := Aside0.mk (hp_); have n1_ := Aside0.mk (blk_grown (g := gb140) (o := .cells #[.int .i64 a4_0, .int .i64 a4_1] 30 (0, 0)) (by (with_reducible repeat (first | refine blk_drewN ?_ _ | refine blk_drew ?_ | refine blk_alloc ?_ _)); exact BK140.out) hg (Kd.R_ne HO_12.out BK140.out (by decide))); have n2_ := Aside0.mk ((by rw [hw]; exact below_set (HB.out) GB25.out : Below w.heap.size w w27)); clear HO_12; clear BK140; clear HB; have HO_12 := n0_; have BK140 := n1_; have HB := n2_; clear n0_ n1_ n2_; clear hg hw hp_))
                  go_meet
                  case rel => exact ⟨_, (y148), H', ⟨by have := HJ12.out; first | omega | exact Nat.le_refl _⟩, ⟨by (with_reducible repeat (first | apply Kd.R_alloc | apply Kd.R_drewN | apply Kd.R_drew)); exact HO_12.out⟩, ⟨by (with_reducible repeat (first | refine blk_drewN ?_ _ | refine blk_drew ?_ | refine blk_alloc ?_ _)); exact BK140.out⟩, ⟨by repeat (first | (with_reducible first | exact HB.out | apply below_alloc | apply pw_below_drewN | apply below_drew1 | refine below_set ?_ GE140.out) | exact HB.out)⟩⟩
                · rw [if_neg c24] at H
                  exact absurd H (by simp)
              · rw [if_neg c23] at H
                exact absurd H (by simp)
            · replace c21 := Bool.eq_false_iff.mpr c21
              subst c21
              have H1 : (honeycomblaw09_SiteLeaves.j1 kj12 a0 a0 t142 t145 a4_0 a4_1) = some r := by rw [if_neg (show ¬ (false = true) by decide)] at H; exact H
              clear H
              have H := H1
              clear H1
              have H' := Aside0.mk H
              clear H
              go_wp2
              go_meet
              case rel => exact ⟨_, (t142), H', ⟨by have := HJ12.out; first | omega | exact Nat.le_refl _⟩, ⟨by (with_reducible repeat (first | apply Kd.R_alloc | apply Kd.R_drewN | apply Kd.R_drew)); exact HO_12.out⟩, ⟨by (with_reducible repeat (first | refine blk_drewN ?_ _ | refine blk_drew ?_ | refine blk_alloc ?_ _)); exact BK140.out⟩, ⟨by repeat (first | (with_reducible first | exact HB.out | apply below_alloc | apply pw_below_drewN | apply below_drew1 | refine below_set ?_ GE140.out) | exact HB.out)⟩⟩
          case rest =>
            clear HC20
            try clear c1
            try clear c2
            try clear p2
            try clear q2
            try clear hx2
            try clear c4
            try clear p6
            try clear c7
            try clear c8
            try clear c9
            try clear c10
            try clear c11
            try clear c12
            try clear c12b0
            try clear c12b1
            try clear c17
            try clear c17b0
            try clear c18
            try clear c18b0
            try clear c19
            try clear c19b0
            try clear c21
            try clear c23
            try clear c23b0
            try clear c24
            try clear c24b0
            try clear p25
            try clear q25
            try clear hx25
            try clear hf25
            try clear hx25_0
            try clear p2
            try clear p25
            try clear q25
            obtain ⟨kq, x12_19, HA, HJ19, HO_12, BK140, HB⟩ := hcut
            cases kq with
            | zero => exact absurd HA.out (by simp [honeycomblaw09_SiteLeaves.j1])
            | succ kj19 =>
              have H := HA.out
              clear HA
              simp only [honeycomblaw09_SiteLeaves.j1] at H
              replace H := Option.bind_eq_some_iff.mp H
              obtain ⟨t149, A280, H⟩ := H
              replace H : ((honeycombref09_Of.f kj19 x12_19).bind fun t152 => (if t145 = t152 then ((site_Leaf_Count.f kj19 a0).bind fun t153 => (if t153 = (t149.length : Int) then ((site_Leaf_Cells.f kj19 a0 (Int.tmod a4_0 1152921504606846976) (Int.tmod a4_1 1152921504606846976)).bind fun t154 => ((honeycomblaw04_Are.f kj19 t154 t149).bind fun t157 => (some (t157 == 0)))) else (some false))) else (some false))) = some r := H
              have A28 := Aside0.mk A280
              clear A280
              replace H := Option.bind_eq_some_iff.mp H
              obtain ⟨t152, A290, H⟩ := H
              replace H : (if t145 = t152 then ((site_Leaf_Count.f kj19 a0).bind fun t153 => (if t153 = (t149.length : Int) then ((site_Leaf_Cells.f kj19 a0 (Int.tmod a4_0 1152921504606846976) (Int.tmod a4_1 1152921504606846976)).bind fun t154 => ((honeycomblaw04_Are.f kj19 t154 t149).bind fun t157 => (some (t157 == 0)))) else (some false))) else (some false)) = some r := H
              have A29 := Aside0.mk A290
              clear A290
              by_cases c30 : t145 = t152
              · rw [if_pos c30] at H
                have c30b0 : (t145 == t152) = true := beq_iff_eq.mpr c30
                have c30b1 : (t145 != t152) = false := bne_eq_false_iff_eq.mpr c30
                clear c30
                replace H := Option.bind_eq_some_iff.mp H
                obtain ⟨t153, A310, H⟩ := H
                replace H : (if t153 = (t149.length : Int) then ((site_Leaf_Cells.f kj19 a0 (Int.tmod a4_0 1152921504606846976) (Int.tmod a4_1 1152921504606846976)).bind fun t154 => ((honeycomblaw04_Are.f kj19 t154 t149).bind fun t157 => (some (t157 == 0)))) else (some false)) = some r := H
                have A31 := Aside0.mk A310
                clear A310
                by_cases c32 : t153 = (t149.length : Int)
                · rw [if_pos c32] at H
                  have c32b0 : (t153 == (t149.length : Int)) = true := beq_iff_eq.mpr c32
                  have c32b1 : (t153 != (t149.length : Int)) = false := bne_eq_false_iff_eq.mpr c32
                  clear c32
                  replace H := Option.bind_eq_some_iff.mp H
                  obtain ⟨t154, A330, H⟩ := H
                  replace H : ((honeycomblaw04_Are.f kj19 t154 t149).bind fun t157 => (some (t157 == 0))) = some r := H
                  have A33 := Aside0.mk A330
                  clear A330
                  replace H := Option.bind_eq_some_iff.mp H
                  obtain ⟨t157, A340, H⟩ := H
                  replace H : (some (t157 == 0)) = some r := H
                  have A34 := Aside0.mk A340
                  clear A340
                  obtain rfl := Option.some.inj H
                  have hcz35_0 : wc.cell? ⟨gb140, 0, none⟩ = some (.int .i64 a4_0) := (blk_cell BK140.out 0).trans rfl
                  have hcz35_1 : wc.cell? ⟨gb140, 1, none⟩ = some (.int .i64 a4_1) := (blk_cell BK140.out 1).trans rfl
                  have hfz35_0 := blk_frozen BK140.out 0
                  have hfz35_1 := blk_frozen BK140.out 1
                  go_wp2_with (first | ((with_reducible refine gate_callee (f := 12) rfl ?_); refine goesL_ (some 69) rfl rfl Try.func12 (by kernel_rfl) rfl #[.int .u32 a0, .int .i64 (Int.tmod a4_0 1152921504606846976), .int .i64 (Int.tmod a4_1 1152921504606846976)] rfl (by (try simp only [List.map_toArray, List.map_cons, List.map_nil]); first | done | rfl | (simp only [List.length_drop, List.length_take]; rfl)) ?_; (with_reducible refine (honeycombref09_Cells.calls kj19 a0 (Int.tmod a4_0 1152921504606846976) (Int.tmod a4_1 1152921504606846976) t149 _ A28.out).mono ?_); rintro e w36 ⟨v150, rfl, ho0, hb⟩; refine ⟨_, rfl, ?_⟩; have n0_ := Aside0.mk (Kd.R_below (by (with_reducible repeat (first | apply Kd.R_alloc | apply Kd.R_drewN | apply Kd.R_drew)); exact (Kd.R_mono (Kd.R_far (p := ⟨gb140, 1, none⟩) (Kd.R_far (p := ⟨gb140, 0, none⟩) (Kd.R_types HO_12.out BK140.out (by decide)) (fun _ hk => hk.2) (.int .i64 (Int.tmod a4_0 1152921504606846976))) (fun _ hk => hk.2) (.int .i64 (Int.tmod a4_1 1152921504606846976))) (fun _ h_ => h_.1))) hb); have n1_ := Aside0.mk (Kd.R_lower ho0 (below_size (by repeat (first | (with_reducible first | exact HB.out | apply below_alloc | apply pw_below_drewN | apply below_drew1 | refine below_set ?_ GE140.out) | exact HB.out)))); have n2_ := Aside0.mk (blk_below (g := gb140) (o := .cells #[.int .i64 (Int.tmod a4_0 1152921504606846976), .int .i64 (Int.tmod a4_1 1152921504606846976)] 30 (0, 0)) (by (with_reducible repeat (first | refine blk_drewN ?_ _ | refine blk_drew ?_ | refine blk_alloc ?_ _)); refine blk_put (cs := #[.int .i64 (Int.tmod a4_0 1152921504606846976), .int .i64 a4_1]) ?_ 1 _ rfl; (with_reducible repeat (first | refine blk_drewN ?_ _ | refine blk_drew ?_ | refine blk_alloc ?_ _)); refine blk_put (cs := #[.int .i64 a4_0, .int .i64 a4_1]) ?_ 0 _ rfl; (with_reducible repeat (first | refine blk_drewN ?_ _ | refine blk_drew ?_ | refine blk_alloc ?_ _)); exact BK140.out) hb); have n3_ := Aside0.mk (below_step (by repeat (first | (with_reducible first | exact HB.out | apply below_alloc | apply pw_below_drewN | apply below_drew1 | refine below_set ?_ GE140.out) | exact HB.out)) hb); clear HO_12; clear BK140; clear HB; have HO_12 := n0_; have HO151 := n1_; have BK140 := n2_; have HB := n3_; clear n0_ n1_ n2_ n3_; (try clear hb); (try clear hb2); (try clear hk); (try clear hi); (try clear ho0); obtain ⟨Ao37, co37, eo37⟩ := Kd.R_slice HO_12.out; subst eo37) | ((with_reducible refine gate_callee (f := 13) rfl ?_); refine goesL_ (some 72) rfl rfl Try.func13 (by kernel_rfl) rfl #[.slice Ao37 x12_19.length co37] rfl (by (try simp only [List.map_toArray, List.map_cons, List.map_nil]); first | done | rfl | (simp only [List.length_drop, List.length_take]; rfl)) ?_; (with_reducible refine (honeycombref09_Of.calls kj19 _ _ x12_19 t152 _ ?side1 ?side2 A29.out).mono ?_); (case side1 => repeat (first | exact (Kd.R_reads' HO_12.out).2.2 | (with_reducible refine Kd.C_alloc ?_ _) | (with_reducible refine Kd.C_drewN ?_ _) | (with_reducible refine Kd.C_drew ?_))); (case side2 => exact (Kd.R_reads' HO_12.out).2.1); rintro e w' ⟨rfl, ⟨nd, rfl⟩⟩; refine ⟨_, rfl, ?_⟩) | (go_at_call 14; (with_reducible refine (site_Leaf_Count.calls kj19 a0 t153 _ A31.out).mono ?_); rintro e w' ⟨rfl, ⟨nd, rfl⟩⟩; obtain ⟨Ao38, co38, eo38⟩ := Kd.R_slice HO151.out; subst eo38; have hcz39_0 : w36.cell? ⟨gb140, 0, none⟩ = some (.int .i64 (Int.tmod a4_0 1152921504606846976)) := (blk_cell BK140.out 0).trans rfl; have hcz39_1 : w36.cell? ⟨gb140, 1, none⟩ = some (.int .i64 (Int.tmod a4_1 1152921504606846976)) := (blk_cell BK140.out 1).trans rfl; have hfz39_0 := blk_frozen BK140.out 0; have hfz39_1 := blk_frozen BK140.out 1) | (go_at_call 16; (with_reducible refine (site_Leaf_Cells.calls kj19 a0 (Int.tmod a4_0 1152921504606846976) (Int.tmod a4_1 1152921504606846976) t154 _ A33.out).mono ?_); rintro e w40 ⟨v155, rfl, ho0, hb⟩; have n0_ := Aside0.mk (Kd.R_below (by (with_reducible repeat (first | apply Kd.R_alloc | apply Kd.R_drewN | apply Kd.R_drew)); exact HO_12.out) hb); have n1_ := Aside0.mk (Kd.R_below (by (with_reducible repeat (first | apply Kd.R_alloc | apply Kd.R_drewN | apply Kd.R_drew)); exact HO151.out) hb); have n2_ := Aside0.mk (Kd.R_lower ho0 (below_size (by repeat (first | (with_reducible first | exact HB.out | apply below_alloc | apply pw_below_drewN | apply below_drew1 | refine below_set ?_ GE140.out) | exact HB.out)))); have n3_ := Aside0.mk (blk_below (g := gb140) (o := .cells #[.int .i64 (Int.tmod a4_0 1152921504606846976), .int .i64 (Int.tmod a4_1 1152921504606846976)] 30 (0, 0)) (by (with_reducible repeat (first | refine blk_drewN ?_ _ | refine blk_drew ?_ | refine blk_alloc ?_ _)); exact BK140.out) hb); have n4_ := Aside0.mk (below_step (by repeat (first | (with_reducible first | exact HB.out | apply below_alloc | apply pw_below_drewN | apply below_drew1 | refine below_set ?_ GE140.out) | exact HB.out)) hb); clear HO_12; clear HO151; clear BK140; clear HB; have HO_12 := n0_; have HO151 := n1_; have HO156 := n2_; have BK140 := n3_; have HB := n4_; clear n0_ n1_ n2_ n3_ n4_; (try clear hb); (try clear hb2); (try clear hk); (try clear hi); (try clear ho0); obtain ⟨Ao41, co41, eo41⟩ := Kd.R_slice HO156.out; subst eo41) | (go_at_call 15; (with_reducible refine (honeycomblaw04_Are.calls kj19 _ _ t154 _ _ t149 t157 _ ?side1 ?side2 ?side3 ?side4 A34.out).mono ?_); (case side1 => repeat (first | exact (Kd.R_reads' HO156.out).2.2 | (with_reducible refine Kd.C_alloc ?_ _) | (with_reducible refine Kd.C_drewN ?_ _) | (with_reducible refine Kd.C_drew ?_))); (case side2 => exact (Kd.R_reads' HO156.out).2.1); (case side3 => repeat (first | exact (Kd.R_reads' HO151.out).2.2 | (with_reducible refine Kd.C_alloc ?_ _) | (with_reducible refine Kd.C_drewN ?_ _) | (with_reducible refine Kd.C_drew ?_))); (case side4 => exact (Kd.R_reads' HO151.out).2.1); rintro e w42 ⟨rfl, hb⟩; have n0_ := Aside0.mk (Kd.R_below (by (with_reducible repeat (first | apply Kd.R_alloc | apply Kd.R_drewN | apply Kd.R_drew)); exact HO_12.out) hb); have n1_ := Aside0.mk (Kd.R_below (by (with_reducible repeat (first | apply Kd.R_alloc | apply Kd.R_drewN | apply Kd.R_drew)); exact HO151.out) hb); have n2_ := Aside0.mk (Kd.R_below (by (with_reducible repeat (first | apply Kd.R_alloc | apply Kd.R_drewN | apply Kd.R_drew)); exact HO156.out) hb); have n3_ := Aside0.mk (blk_below (g := gb140) (o := .cells #[.int .i64 (Int.tmod a4_0 1152921504606846976), .int .i64 (Int.tmod a4_1 1152921504606846976)] 30 (0, 0)) (by (with_reducible repeat (first | refine blk_drewN ?_ _ | refine blk_drew ?_ | refine blk_alloc ?_ _)); exact BK140.out) hb); have n4_ := Aside0.mk (below_step (by repeat (first | (with_reducible first | exact HB.out | apply below_alloc | apply pw_below_drewN | apply below_drew1 | refine below_set ?_ GE140.out) | exact HB.out)) hb); clear HO_12; clear HO151; clear HO156; clear BK140; clear HB; have HO_12 := n0_; have HO151 := n1_; have HO156 := n2_; have BK140 := n3_; have HB := n4_; clear n0_ n1_ n2_ n3_ n4_; (try clear hb); (try clear hb2); (try clear hk); (try clear hi)))
                  go_ret
                  exact ⟨by first | rfl | (simp [errW_none, errW_some] <;> rfl) | (simp [*, errW_none, errW_some] <;> rfl), by repeat (first | (with_reducible first | exact HB.out | apply below_alloc | apply pw_below_drewN | apply below_drew1 | refine below_set ?_ GE140.out) | exact HB.out)⟩
                · rw [if_neg c32] at H
                  have c32b0 : (t153 == (t149.length : Int)) = false := beq_eq_false_iff_ne.mpr c32
                  have c32b1 : (t153 != (t149.length : Int)) = true := bne_iff_ne.mpr c32
                  obtain rfl := Option.some.inj H
                  have hcz43_0 : wc.cell? ⟨gb140, 0, none⟩ = some (.int .i64 a4_0) := (blk_cell BK140.out 0).trans rfl
                  have hcz43_1 : wc.cell? ⟨gb140, 1, none⟩ = some (.int .i64 a4_1) := (blk_cell BK140.out 1).trans rfl
                  have hfz43_0 := blk_frozen BK140.out 0
                  have hfz43_1 := blk_frozen BK140.out 1
                  go_wp2_with (first | ((with_reducible refine gate_callee (f := 12) rfl ?_); refine goesL_ (some 69) rfl rfl Try.func12 (by kernel_rfl) rfl #[.int .u32 a0, .int .i64 (Int.tmod a4_0 1152921504606846976), .int .i64 (Int.tmod a4_1 1152921504606846976)] rfl (by (try simp only [List.map_toArray, List.map_cons, List.map_nil]); first | done | rfl | (simp only [List.length_drop, List.length_take]; rfl)) ?_; (with_reducible refine (honeycombref09_Cells.calls kj19 a0 (Int.tmod a4_0 1152921504606846976) (Int.tmod a4_1 1152921504606846976) t149 _ A28.out).mono ?_); rintro e w44 ⟨v150, rfl, ho0, hb⟩; refine ⟨_, rfl, ?_⟩; have n0_ := Aside0.mk (Kd.R_below (by (with_reducible repeat (first | apply Kd.R_alloc | apply Kd.R_drewN | apply Kd.R_drew)); exact (Kd.R_mono (Kd.R_far (p := ⟨gb140, 1, none⟩) (Kd.R_far (p := ⟨gb140, 0, none⟩) (Kd.R_types HO_12.out BK140.out (by decide)) (fun _ hk => hk.2) (.int .i64 (Int.tmod a4_0 1152921504606846976))) (fun _ hk => hk.2) (.int .i64 (Int.tmod a4_1 1152921504606846976))) (fun _ h_ => h_.1))) hb); have n1_ := Aside0.mk (Kd.R_lower ho0 (below_size (by repeat (first | (with_reducible first | exact HB.out | apply below_alloc | apply pw_below_drewN | apply below_drew1 | refine below_set ?_ GE140.out) | exact HB.out)))); have n2_ := Aside0.mk (blk_below (g := gb140) (o := .cells #[.int .i64 (Int.tmod a4_0 1152921504606846976), .int .i64 (Int.tmod a4_1 1152921504606846976)] 30 (0, 0)) (by (with_reducible repeat (first | refine blk_drewN ?_ _ | refine blk_drew ?_ | refine blk_alloc ?_ _)); refine blk_put (cs := #[.int .i64 (Int.tmod a4_0 1152921504606846976), .int .i64 a4_1]) ?_ 1 _ rfl; (with_reducible repeat (first | refine blk_drewN ?_ _ | refine blk_drew ?_ | refine blk_alloc ?_ _)); refine blk_put (cs := #[.int .i64 a4_0, .int .i64 a4_1]) ?_ 0 _ rfl; (with_reducible repeat (first | refine blk_drewN ?_ _ | refine blk_drew ?_ | refine blk_alloc ?_ _)); exact BK140.out) hb); have n3_ := Aside0.mk (below_step (by repeat (first | (with_reducible first | exact HB.out | apply below_alloc | apply pw_below_drewN | apply below_drew1 | refine below_set ?_ GE140.out) | exact HB.out)) hb); clear HO_12; clear BK140; clear HB; have HO_12 := n0_; have HO151 := n1_; have BK140 := n2_; have HB := n3_; clear n0_ n1_ n2_ n3_; (try clear hb); (try clear hb2); (try clear hk); (try clear hi); (try clear ho0); obtain ⟨Ao45, co45, eo45⟩ := Kd.R_slice HO_12.out; subst eo45) | ((with_reducible refine gate_callee (f := 13) rfl ?_); refine goesL_ (some 72) rfl rfl Try.func13 (by kernel_rfl) rfl #[.slice Ao45 x12_19.length co45] rfl (by (try simp only [List.map_toArray, List.map_cons, List.map_nil]); first | done | rfl | (simp only [List.length_drop, List.length_take]; rfl)) ?_; (with_reducible refine (honeycombref09_Of.calls kj19 _ _ x12_19 t152 _ ?side1 ?side2 A29.out).mono ?_); (case side1 => repeat (first | exact (Kd.R_reads' HO_12.out).2.2 | (with_reducible refine Kd.C_alloc ?_ _) | (with_reducible refine Kd.C_drewN ?_ _) | (with_reducible refine Kd.C_drew ?_))); (case side2 => exact (Kd.R_reads' HO_12.out).2.1); rintro e w' ⟨rfl, ⟨nd, rfl⟩⟩; refine ⟨_, rfl, ?_⟩) | (go_at_call 14; (with_reducible refine (site_Leaf_Count.calls kj19 a0 t153 _ A31.out).mono ?_); rintro e w' ⟨rfl, ⟨nd, rfl⟩⟩; obtain ⟨Ao46, co46, eo46⟩ := Kd.R_slice HO151.out; subst eo46))
                  go_ret
                  exact ⟨by first | rfl | (simp [errW_none, errW_some] <;> rfl) | (simp [*, errW_none, errW_some] <;> rfl), by repeat (first | (with_reducible first | exact HB.out | apply below_alloc | apply pw_below_drewN | apply below_drew1 | refine below_set ?_ GE140.out) | exact HB.out)⟩
              · rw [if_neg c30] at H
                have c30b0 : (t145 == t152) = false := beq_eq_false_iff_ne.mpr c30
                have c30b1 : (t145 != t152) = true := bne_iff_ne.mpr c30
                obtain rfl := Option.some.inj H
                have hcz47_0 : wc.cell? ⟨gb140, 0, none⟩ = some (.int .i64 a4_0) := (blk_cell BK140.out 0).trans rfl
                have hcz47_1 : wc.cell? ⟨gb140, 1, none⟩ = some (.int .i64 a4_1) := (blk_cell BK140.out 1).trans rfl
                have hfz47_0 := blk_frozen BK140.out 0
                have hfz47_1 := blk_frozen BK140.out 1
                go_wp2_with (first | ((with_reducible refine gate_callee (f := 12) rfl ?_); refine goesL_ (some 69) rfl rfl Try.func12 (by kernel_rfl) rfl #[.int .u32 a0, .int .i64 (Int.tmod a4_0 1152921504606846976), .int .i64 (Int.tmod a4_1 1152921504606846976)] rfl (by (try simp only [List.map_toArray, List.map_cons, List.map_nil]); first | done | rfl | (simp only [List.length_drop, List.length_take]; rfl)) ?_; (with_reducible refine (honeycombref09_Cells.calls kj19 a0 (Int.tmod a4_0 1152921504606846976) (Int.tmod a4_1 1152921504606846976) t149 _ A28.out).mono ?_); rintro e w48 ⟨v150, rfl, ho0, hb⟩; refine ⟨_, rfl, ?_⟩; have n0_ := Aside0.mk (Kd.R_below (by (with_reducible repeat (first | apply Kd.R_alloc | apply Kd.R_drewN | apply Kd.R_drew)); exact (Kd.R_mono (Kd.R_far (p := ⟨gb140, 1, none⟩) (Kd.R_far (p := ⟨gb140, 0, none⟩) (Kd.R_types HO_12.out BK140.out (by decide)) (fun _ hk => hk.2) (.int .i64 (Int.tmod a4_0 1152921504606846976))) (fun _ hk => hk.2) (.int .i64 (Int.tmod a4_1 1152921504606846976))) (fun _ h_ => h_.1))) hb); have n1_ := Aside0.mk (Kd.R_lower ho0 (below_size (by repeat (first | (with_reducible first | exact HB.out | apply below_alloc | apply pw_below_drewN | apply below_drew1 | refine below_set ?_ GE140.out) | exact HB.out)))); have n2_ := Aside0.mk (blk_below (g := gb140) (o := .cells #[.int .i64 (Int.tmod a4_0 1152921504606846976), .int .i64 (Int.tmod a4_1 1152921504606846976)] 30 (0, 0)) (by (with_reducible repeat (first | refine blk_drewN ?_ _ | refine blk_drew ?_ | refine blk_alloc ?_ _)); refine blk_put (cs := #[.int .i64 (Int.tmod a4_0 1152921504606846976), .int .i64 a4_1]) ?_ 1 _ rfl; (with_reducible repeat (first | refine blk_drewN ?_ _ | refine blk_drew ?_ | refine blk_alloc ?_ _)); refine blk_put (cs := #[.int .i64 a4_0, .int .i64 a4_1]) ?_ 0 _ rfl; (with_reducible repeat (first | refine blk_drewN ?_ _ | refine blk_drew ?_ | refine blk_alloc ?_ _)); exact BK140.out) hb); have n3_ := Aside0.mk (below_step (by repeat (first | (with_reducible first | exact HB.out | apply below_alloc | apply pw_below_drewN | apply below_drew1 | refine below_set ?_ GE140.out) | exact HB.out)) hb); clear HO_12; clear BK140; clear HB; have HO_12 := n0_; have HO151 := n1_; have BK140 := n2_; have HB := n3_; clear n0_ n1_ n2_ n3_; (try clear hb); (try clear hb2); (try clear hk); (try clear hi); (try clear ho0); obtain ⟨Ao49, co49, eo49⟩ := Kd.R_slice HO_12.out; subst eo49) | ((with_reducible refine gate_callee (f := 13) rfl ?_); refine goesL_ (some 72) rfl rfl Try.func13 (by kernel_rfl) rfl #[.slice Ao49 x12_19.length co49] rfl (by (try simp only [List.map_toArray, List.map_cons, List.map_nil]); first | done | rfl | (simp only [List.length_drop, List.length_take]; rfl)) ?_; (with_reducible refine (honeycombref09_Of.calls kj19 _ _ x12_19 t152 _ ?side1 ?side2 A29.out).mono ?_); (case side1 => repeat (first | exact (Kd.R_reads' HO_12.out).2.2 | (with_reducible refine Kd.C_alloc ?_ _) | (with_reducible refine Kd.C_drewN ?_ _) | (with_reducible refine Kd.C_drew ?_))); (case side2 => exact (Kd.R_reads' HO_12.out).2.1); rintro e w' ⟨rfl, ⟨nd, rfl⟩⟩; refine ⟨_, rfl, ?_⟩))
                go_ret
                exact ⟨by first | rfl | (simp [errW_none, errW_some] <;> rfl) | (simp [*, errW_none, errW_some] <;> rfl), by repeat (first | (with_reducible first | exact HB.out | apply below_alloc | apply pw_below_drewN | apply below_drew1 | refine below_set ?_ GE140.out) | exact HB.out)⟩
    · rw [if_neg c12] at H
      have c12b0 : (t146 == t147) = false := beq_eq_false_iff_ne.mpr c12
      have c12b1 : (t146 != t147) = true := bne_iff_ne.mpr c12
      obtain rfl := Option.some.inj H
      go_enter Try.func4, Try.ntmps4
      go_wp2_with (first | ((with_reducible refine gate_dst (N := 9) rfl ?_); (try (refine gate_guard (by rfl) ?_; dsimp only)); refine box_event ?hg (N := 9) ?hd (cs := #[.int .i64 a4_0, .int .i64 a4_1]) (t := 30) ?hr ?_; (case hd => rfl); (case hg => rfl); (case hr => first | (go_simp; done) | (go_simp; rfl)); intro gb140 hg w50 hbox hb; have n0_ := Aside0.mk (below_step (by repeat (first | (with_reducible first | exact HB.out | apply below_alloc | apply pw_below_drewN | apply below_drew1) | exact HB.out)) hb); have n1_ := Aside0.mk (hbox); have n2_ := Aside0.mk ((by rw [hg]; exact (below_size (by repeat (first | (with_reducible first | exact HB.out | apply below_alloc | apply pw_below_drewN | apply below_drew1) | exact HB.out))) : w.heap.size ≤ gb140)); have n3_ := Aside0.mk ((by rw [hg]; exact (below_size (by repeat (first | (with_reducible first | exact HB.out | apply below_alloc | apply pw_below_drewN | apply below_drew1) | exact HB.out))) : w.heap.size ≤ gb140)); clear HB; have HB := n0_; have BK140 := n1_; have GW140 := n2_; have GE140 := n3_; clear n0_ n1_ n2_ n3_; clear hb hbox hg) | ((with_reducible refine gate_callee (f := 7) rfl ?_); refine goesL_ (some 15) rfl rfl Try.func7 (by kernel_rfl) rfl #[] rfl (by (try simp only [List.map_toArray, List.map_cons, List.map_nil]); first | done | rfl | (simp only [List.length_drop, List.length_take]; rfl)) ?_; (with_reducible refine (honeycomblaw09_awake.calls k  true _ A6.out).mono ?_); rintro e w51 ⟨rfl, hb⟩; refine ⟨_, rfl, ?_⟩; have n0_ := Aside0.mk (blk_below (g := gb140) (o := .cells #[.int .i64 a4_0, .int .i64 a4_1] 30 (0, 0)) (by (with_reducible repeat (first | refine blk_drewN ?_ _ | refine blk_drew ?_ | refine blk_alloc ?_ _)); exact BK140.out) hb); have n1_ := Aside0.mk (below_step (by repeat (first | (with_reducible first | exact HB.out | apply below_alloc | apply pw_below_drewN | apply below_drew1 | refine below_set ?_ GE140.out) | exact HB.out)) hb); clear BK140; clear HB; have BK140 := n0_; have HB := n1_; clear n0_ n1_; (try clear hb); (try clear hb2); (try clear hk); (try clear hi)) | ((with_reducible refine gate_callee (f := 10) rfl ?_); refine goesL_ (some 19) rfl rfl Try.func10 (by kernel_rfl) rfl #[.int .u32 a0] rfl (by (try simp only [List.map_toArray, List.map_cons, List.map_nil]); first | done | rfl | (simp only [List.length_drop, List.length_take]; rfl)) ?_; (with_reducible refine (honeycombref09_States.calls k a0 t142 _ A8.out).mono ?_); rintro e w52 ⟨v143, rfl, ho0, hb⟩; refine ⟨_, rfl, ?_⟩; have n0_ := Aside0.mk (Kd.R_lower ho0 (below_size (by repeat (first | (with_reducible first | exact HB.out | apply below_alloc | apply pw_below_drewN | apply below_drew1 | refine below_set ?_ GE140.out) | exact HB.out)))); have n1_ := Aside0.mk (blk_below (g := gb140) (o := .cells #[.int .i64 a4_0, .int .i64 a4_1] 30 (0, 0)) (by (with_reducible repeat (first | refine blk_drewN ?_ _ | refine blk_drew ?_ | refine blk_alloc ?_ _)); exact BK140.out) hb); have n2_ := Aside0.mk (below_step (by repeat (first | (with_reducible first | exact HB.out | apply below_alloc | apply pw_below_drewN | apply below_drew1 | refine below_set ?_ GE140.out) | exact HB.out)) hb); clear BK140; clear HB; have HO144 := n0_; have BK140 := n1_; have HB := n2_; clear n0_ n1_ n2_; (try clear hb); (try clear hb2); (try clear hk); (try clear hi); (try clear ho0)) | ((with_reducible refine gate_callee (f := 8) rfl ?_); refine goesL_ (some 24) rfl rfl Try.func8 (by kernel_rfl) rfl #[.int .u32 a0, .int .i64 a1, .int .i64 a2, .int .i64 a3] rfl (by (try simp only [List.map_toArray, List.map_cons, List.map_nil]); first | done | rfl | (simp only [List.length_drop, List.length_take]; rfl)) ?_; (with_reducible refine (site_Leaf_Put.calls a0 a1 a2 a3 t145 _ A9.out).mono ?_); rintro e w' ⟨rfl, ⟨nd, rfl⟩⟩; refine ⟨_, rfl, ?_⟩) | ((with_reducible refine gate_callee (f := 9) rfl ?_); refine goesL_ (some 28) rfl rfl Try.func9 (by kernel_rfl) rfl #[.int .u32 a0, .int .i64 a1, .int .i64 a2] rfl (by (try simp only [List.map_toArray, List.map_cons, List.map_nil]); first | done | rfl | (simp only [List.length_drop, List.length_take]; rfl)) ?_; (with_reducible refine (site_Leaf_State.calls a0 a1 a2 t146 _ A10.out).mono ?_); rintro e w' ⟨rfl, ⟨nd, rfl⟩⟩; refine ⟨_, rfl, ?_⟩) | ((with_reducible refine gate_callee (f := 11) rfl ?_); refine goesL_ (some 32) rfl rfl Try.func11 (by kernel_rfl) rfl #[.int .u32 a0, .int .i64 a1, .int .i64 a2] rfl (by (try simp only [List.map_toArray, List.map_cons, List.map_nil]); first | done | rfl | (simp only [List.length_drop, List.length_take]; rfl)) ?_; (with_reducible refine (honeycombref09_State.calls k a0 a1 a2 t147 _ A11.out).mono ?_); rintro e w' ⟨rfl, ⟨nd, rfl⟩⟩; refine ⟨_, rfl, ?_⟩))
      go_ret
      exact ⟨by first | rfl | (simp [errW_none, errW_some] <;> rfl) | (simp [*, errW_none, errW_some] <;> rfl), by repeat (first | (with_reducible first | exact HB.out | apply below_alloc | apply pw_below_drewN | apply below_drew1 | refine below_set ?_ GE140.out) | exact HB.out)⟩
  · replace c7 := Bool.eq_false_iff.mpr c7
    subst c7
    have H1 : (some false) = some r := by rw [if_neg (show ¬ (false = true) by decide)] at H; exact H
    clear H
    have H := H1
    clear H1
    obtain rfl := Option.some.inj H
    go_enter Try.func4, Try.ntmps4
    go_wp2_with (first | ((with_reducible refine gate_dst (N := 9) rfl ?_); (try (refine gate_guard (by rfl) ?_; dsimp only)); refine box_event ?hg (N := 9) ?hd (cs := #[.int .i64 a4_0, .int .i64 a4_1]) (t := 30) ?hr ?_; (case hd => rfl); (case hg => rfl); (case hr => first | (go_simp; done) | (go_simp; rfl)); intro gb140 hg w53 hbox hb; have n0_ := Aside0.mk (below_step (by repeat (first | (with_reducible first | exact HB.out | apply below_alloc | apply pw_below_drewN | apply below_drew1) | exact HB.out)) hb); have n1_ := Aside0.mk (hbox); have n2_ := Aside0.mk ((by rw [hg]; exact (below_size (by repeat (first | (with_reducible first | exact HB.out | apply below_alloc | apply pw_below_drewN | apply below_drew1) | exact HB.out))) : w.heap.size ≤ gb140)); have n3_ := Aside0.mk ((by rw [hg]; exact (below_size (by repeat (first | (with_reducible first | exact HB.out | apply below_alloc | apply pw_below_drewN | apply below_drew1) | exact HB.out))) : w.heap.size ≤ gb140)); clear HB; have HB := n0_; have BK140 := n1_; have GW140 := n2_; have GE140 := n3_; clear n0_ n1_ n2_ n3_; clear hb hbox hg) | ((with_reducible refine gate_callee (f := 7) rfl ?_); refine goesL_ (some 15) rfl rfl Try.func7 (by kernel_rfl) rfl #[] rfl (by (try simp only [List.map_toArray, List.map_cons, List.map_nil]); first | done | rfl | (simp only [List.length_drop, List.length_take]; rfl)) ?_; (with_reducible refine (honeycomblaw09_awake.calls k  false _ A6.out).mono ?_); rintro e w54 ⟨rfl, hb⟩; refine ⟨_, rfl, ?_⟩; have n0_ := Aside0.mk (blk_below (g := gb140) (o := .cells #[.int .i64 a4_0, .int .i64 a4_1] 30 (0, 0)) (by (with_reducible repeat (first | refine blk_drewN ?_ _ | refine blk_drew ?_ | refine blk_alloc ?_ _)); exact BK140.out) hb); have n1_ := Aside0.mk (below_step (by repeat (first | (with_reducible first | exact HB.out | apply below_alloc | apply pw_below_drewN | apply below_drew1 | refine below_set ?_ GE140.out) | exact HB.out)) hb); clear BK140; clear HB; have BK140 := n0_; have HB := n1_; clear n0_ n1_; (try clear hb); (try clear hb2); (try clear hk); (try clear hi)))
    go_ret
    exact ⟨by first | rfl | (simp [errW_none, errW_some] <;> rfl) | (simp [*, errW_none, errW_some] <;> rfl), by repeat (first | (with_reducible first | exact HB.out | apply below_alloc | apply pw_below_drewN | apply below_drew1 | refine below_set ?_ GE140.out) | exact HB.out)⟩

end Go.Proofs.Ytffaagmiceeclaa.PSiteLeaves
