/- The law TableChecks: any table, may it be; what becomes of any cell. -/
import Derived.Test.YtcipkabpekdflaaDoorTabCheck
import Derived.Test.YtcipkabpekdflaaDoorTabAw
import Derived.Test.YtcipkabpekdflaaDoorTabNextAll
import Derived.Test.YtcipkabpekdflaaDoorTabSomeOk
import Derived.Test.YtcipkabpekdflaaDoorErrLaid
import Derived.Lib.QuietBelow
import Derived.BigQuiet
import Derived.StillTailTactics
namespace Go.Proofs.YtcipkabpekdflaaDoor.ts
open Go.RowKit Go.Proofs.YtcipkabpekdflaaDoorW.PrintWords Go.Proofs.YtcipkabpekdflaaDoorW.PrintLast Go.Proofs.YtcipkabpekdflaaDoorW.PrintMore Go.Proofs.YtcipkabpekdflaaDoor.bs Go.ChangeShapes Go.Proofs.YtcipkabpekdflaaDoor.PTableChecks

set_option maxRecDepth 100000 in
set_option maxHeartbeats 1000000 in
theorem told_walk (l b0 b1 s0 s1 : Int) (w : World) :
    Calls Tryd.prog 9 #[tabV l b0 b1 s0 s1] w fun e w' => ∃ x, e = .returned (.agg #[.int .i64 l, .slice (some ⟨x, 1, none⟩) 2 2, .slice (some ⟨x, 3, none⟩) 2 2]) ∧ w'.heap[x]? = some (.cells #[.int .i64 l, .int .u64 b0, .int .u64 b1, .int .u64 s0, .int .u64 s1] 29 (0, 0)) ∧ Below w.heap.size w w' := by
  unfold tabV
  have KX := Aside0.mk (blk_below (blk_new w (.cells #[.int .i64 l, .int .u64 b0, .int .u64 b1, .int .u64 s0, .int .u64 s1] 29)) (below_alloc (Below.refl _ _) (.cells #[.int .i64 0, .slice none 0 0, .slice none 0 0] 39)))
  have KR := Aside0.mk (blk_new (w.alloc (.cells #[.int .i64 l, .int .u64 b0, .int .u64 b1, .int .u64 s0, .int .u64 s1] 29)) (.cells #[.int .i64 0, .slice none 0 0, .slice none 0 0] 39))
  have HB := Aside0.mk (below_alloc (below_alloc (Below.refl w.heap.size w) (.cells #[.int .i64 l, .int .u64 b0, .int .u64 b1, .int .u64 s0, .int .u64 s1] 29)) (.cells #[.int .i64 0, .slice none 0 0, .slice none 0 0] 39))
  rw [show (w.alloc (.cells #[.int .i64 l, .int .u64 b0, .int .u64 b1, .int .u64 s0, .int .u64 s1] 29)).heap.size = w.heap.size + 1 by simp] at KR
  go_enter Tryd.func9, Tryd.ntmps9
  go_wp2_with (fail)
  obtain ⟨x, hx⟩ : ∃ x, w.heap.size = x := ⟨_, rfl⟩
  obtain ⟨g, hg⟩ : ∃ g, w.heap.size + 1 = g := ⟨_, rfl⟩
  simp only [hg] at KR ⊢
  simp only [hx] at KX ⊢
  have hxg : x ≠ g := by omega
  have hwg : w.heap.size ≤ g := by omega
  have HX := Aside0.mk hx
  clear hx hg
  generalize (w.alloc (.cells #[.int .i64 l, .int .u64 b0, .int .u64 b1, .int .u64 s0, .int .u64 s1] 29)).alloc (.cells #[.int .i64 0, .slice none 0 0, .slice none 0 0] 39) = w1 at *
  have x0 := blk_cell KX.out 0
  have r0 := blk_cell KR.out 0
  have r1 := blk_cell KR.out 1
  have r2 := blk_cell KR.out 2
  have y0 := blk_frozen KR.out 0
  have y1 := blk_frozen KR.out 1
  have y2 := blk_frozen KR.out 2
  simp only [List.getElem?_toArray, List.getElem?_cons_zero, List.getElem?_cons_succ] at x0 r0 r1 r2
  go_still_tail 7, (by kernel_rfl)
  change wpList _ _ _ _ _ w1.drew
  go_wp2_with (fail)
  refine bodyPost_ret (v := .agg #[.int .i64 l, .slice (some ⟨x, 1, none⟩) 2 2, .slice (some ⟨x, 3, none⟩) 2 2]) (by simp [results, Tryd.results9, go_sem, r0, r1, r2]) rfl ⟨x, rfl, ?_, ?_⟩
  · exact blk_below (blk_far (blk_far (blk_far KX.out hxg _) hxg _) hxg _) (Below.refl _ _).drew
  · exact (((HB.out.setCell hwg _).setCell hwg _).setCell hwg _).drew
theorem read2 {w : World} {x o : Nat} {a b : Int} (h0 : w.cell? ⟨x, o, none⟩ = some (.int .u64 a)) (h1 : w.cell? ⟨x, o + 1, none⟩ = some (.int .u64 b)) : Kd.C (Kd.int .u64) w (some ⟨x, o, none⟩) 2 [a, b] := by
  refine ⟨rfl, by decide, fun _ => ⟨⟨x, o, none⟩, rfl, fun j p hj => ?_⟩⟩
  match j, hj with
  | 0, hj =>
    cases hj
    refine ⟨[.int .u64 a], rfl, rfl, fun i u hu => ?_⟩
    match i, hu with
    | 0, hu => cases hu; exact h0
  | 1, hj =>
    cases hj
    refine ⟨[.int .u64 b], rfl, rfl, fun i u hu => ?_⟩
    match i, hu with
    | 0, hu => cases hu; exact h1
theorem tcheck0 (l b0 b1 s0 s1 : Int) (hb0 : 0 ≤ b0 ∧ b0 < 18446744073709551616) (hb1 : 0 ≤ b1 ∧ b1 < 18446744073709551616) (hs0 : 0 ≤ s0 ∧ s0 < 18446744073709551616) (hs1 : 0 ≤ s1 ∧ s1 < 18446744073709551616) (hc : refCode l b0 b1 s0 s1 = 0) (w : World) :
    Calls Tryd.prog 7 #[tabV l b0 b1 s0 s1] w fun e w' => e = .returned .nilIface ∧ Below w.heap.size w w' := by
  have h := tcheck_walk l b0 b1 s0 s1 hb0 hb1 hs0 hs1 w
  rw [hc] at h
  exact h
theorem c10 {w' : World} {x t : Nat} {l b0 b1 s0 s1 : Int} {tx tt : TypeId} (hx : w'.heap[x]? = some (.cells #[.int .i64 l, .int .u64 b0, .int .u64 b1, .int .u64 s0, .int .u64 s1] tx (0, 0))) (ht : w'.heap[t]? = some (.cells #[.int .i64 l, .int .u64 b0, .int .u64 b1, .int .u64 s0, .int .u64 s1] tt (0, 0))) : w'.cell? ⟨t, 0, none⟩ = some (.int .i64 l) ∧ w'.cell? ⟨t, 1, none⟩ = some (.int .u64 b0) ∧ w'.cell? ⟨t, 2, none⟩ = some (.int .u64 b1) ∧ w'.cell? ⟨t, 3, none⟩ = some (.int .u64 s0) ∧ w'.cell? ⟨t, 4, none⟩ = some (.int .u64 s1) ∧ w'.cell? ⟨x, 0, none⟩ = some (.int .i64 l) ∧ w'.cell? ⟨x, 1, none⟩ = some (.int .u64 b0) ∧ w'.cell? ⟨x, 2, none⟩ = some (.int .u64 b1) ∧ w'.cell? ⟨x, 3, none⟩ = some (.int .u64 s0) ∧ w'.cell? ⟨x, 4, none⟩ = some (.int .u64 s1) :=
  ⟨blk_cell ht 0, blk_cell ht 1, blk_cell ht 2, blk_cell ht 3, blk_cell ht 4, blk_cell hx 0, blk_cell hx 1, blk_cell hx 2, blk_cell hx 3, blk_cell hx 4⟩
set_option maxRecDepth 100000 in
set_option maxHeartbeats 4000000 in
theorem checks_walk (l b0 b1 s0 s1 half n : Int) (live : Bool) (hb0 : 0 ≤ b0 ∧ b0 < 18446744073709551616) (hb1 : 0 ≤ b1 ∧ b1 < 18446744073709551616) (hs0 : 0 ≤ s0 ∧ s0 < 18446744073709551616) (hs1 : 0 ≤ s1 ∧ s1 < 18446744073709551616) (w : World) (hE : ec.ErrAt w) :
    Calls Tryd.prog 3 #[tabV l b0 b1 s0 s1, .int .i64 half, .bool live, .int .i64 n] w fun e w' => e = .returned (.bool true) ∧ Below w.heap.size w w' := by
  have hs := Aside0.mk (some_walk l b0 b1 s0 s1)
  have ho := Aside0.mk (own_walk l b0 b1 s0 s1)
  unfold tabV at *
  go_enter Tryd.func3, Tryd.ntmps3
  go_wp2_with (fail)
  have KX := blk_new w (.cells #[.int .i64 l, .int .u64 b0, .int .u64 b1, .int .u64 s0, .int .u64 s1] 25)
  have HB0 := Aside0.mk (below_alloc (Below.refl w.heap.size w) (.cells #[.int .i64 l, .int .u64 b0, .int .u64 b1, .int .u64 s0, .int .u64 s1] 25))
  change Calls _ _ _ (w.alloc (.cells #[.int .i64 l, .int .u64 b0, .int .u64 b1, .int .u64 s0, .int .u64 s1] 25)) _
  obtain ⟨x, hx⟩ : ∃ x, w.heap.size = x := ⟨_, rfl⟩
  simp only [hx] at KX ⊢
  have HX := Aside0.mk hx
  clear hx
  generalize w.alloc (.cells #[.int .i64 l, .int .u64 b0, .int .u64 b1, .int .u64 s0, .int .u64 s1] 25) = w1 at *
  refine (tb.awake_walk w1).mono ?_
  rintro e w2 ⟨rfl, hb⟩
  have KX2 := Aside0.mk (blk_below KX hb)
  have HB2 := Aside0.mk (chain HB0.out hb HB0.out.size)
  clear KX HB0 hb
  have x0 := blk_cell KX2.out 0
  have x1 := blk_cell KX2.out 1
  have x2 := blk_cell KX2.out 2
  have x3 := blk_cell KX2.out 3
  have x4 := blk_cell KX2.out 4
  simp only [List.getElem?_toArray, List.getElem?_cons_zero, List.getElem?_cons_succ] at x0 x1 x2 x3 x4
  go_wp2_with (fail)
  refine (ho.out w2).mono ?_
  rintro e w3 ⟨rfl, hb⟩
  have KX3 := Aside0.mk (blk_below KX2.out hb)
  have HB3 := Aside0.mk (chain HB2.out hb HB2.out.size)
  clear x0 x1 x2 x3 x4 KX2 HB2 hb
  go_upto_region 6 with (fail)
  have KT := Aside0.mk (blk_new w3 (.cells #[.int .i64 l, .int .u64 b0, .int .u64 b1, .int .u64 s0, .int .u64 s1] 29))
  have KX4 := Aside0.mk (blk_below KX3.out (below_alloc (Below.refl _ _) (.cells #[.int .i64 l, .int .u64 b0, .int .u64 b1, .int .u64 s0, .int .u64 s1] 29)))
  have HB4 := Aside0.mk (below_alloc HB3.out (.cells #[.int .i64 l, .int .u64 b0, .int .u64 b1, .int .u64 s0, .int .u64 s1] 29))
  obtain ⟨t, ht⟩ : ∃ t, w3.heap.size = t := ⟨_, rfl⟩
  simp only [ht] at KT ⊢
  clear ht KX3 HB3
  generalize w3.alloc (.cells #[.int .i64 l, .int .u64 b0, .int .u64 b1, .int .u64 s0, .int .u64 s1] 29) = w4 at *
  have KT5 := Aside0.mk (blk_below KT.out ((Below.refl _ _).drew))
  have KX5 := Aside0.mk (blk_below KX4.out ((Below.refl _ _).drew))
  have HB5 := Aside0.mk (HB4.out.drew)
  obtain ⟨t0, t1, t2, t3, t4, x0, x1, x2, x3, x4⟩ := c10 KX5.out KT5.out
  clear KT KX4 HB4
  go_region_held3 (fun w' => w'.cell? ⟨t, 0, none⟩ = some (.int .i64 l) ∧ w'.cell? ⟨t, 1, none⟩ = some (.int .u64 b0) ∧ w'.cell? ⟨t, 2, none⟩ = some (.int .u64 b1) ∧ w'.cell? ⟨t, 3, none⟩ = some (.int .u64 s0) ∧ w'.cell? ⟨t, 4, none⟩ = some (.int .u64 s1) ∧ w'.cell? ⟨x, 0, none⟩ = some (.int .i64 l) ∧ w'.cell? ⟨x, 1, none⟩ = some (.int .u64 b0) ∧ w'.cell? ⟨x, 2, none⟩ = some (.int .u64 b1) ∧ w'.cell? ⟨x, 3, none⟩ = some (.int .u64 s0) ∧ w'.cell? ⟨x, 4, none⟩ = some (.int .u64 s1)) (exact c10 KX5.out KT5.out) (first | (go_at_call 7; refine (tcheck0 _ _ _ _ _ (by assumption) (by assumption) (by assumption) (by assumption) (by with_reducible assumption) _).mono ?_; rintro e w6 ⟨rfl, hb⟩; have KT5 := Aside0.mk (blk_below KT5.out hb); have KX5 := Aside0.mk (blk_below KX5.out hb); have HB5 := Aside0.mk (chain HB5.out hb HB5.out.size)) | (go_at_call 7; refine (tcheck_walk l b0 b1 s0 s1 hb0 hb1 hs0 hs1 _).mono ?_; rintro e w6 ⟨rfl, hb⟩; have KT5 := Aside0.mk (blk_below KT5.out hb); have KX5 := Aside0.mk (blk_below KX5.out hb); have HB5 := Aside0.mk (chain HB5.out hb HB5.out.size)) | (go_at_call 6; refine (ec.code_walk _ _ (hE.below HB5.out)).mono ?_; rintro e w6 ⟨rfl, hb⟩; have KT5 := Aside0.mk (blk_below KT5.out hb); have KX5 := Aside0.mk (blk_below KX5.out hb); have HB5 := Aside0.mk (chain HB5.out hb HB5.out.size)) | (go_at_call 9; refine (told_walk l b0 b1 s0 s1 _).mono ?_; rintro e w6 ⟨y, rfl, hy, hb⟩; have KY := Aside0.mk hy; clear hy; have KT5 := Aside0.mk (blk_below KT5.out hb); have KX5 := Aside0.mk (blk_below KX5.out hb); have HB5 := Aside0.mk (chain HB5.out hb HB5.out.size)) | (go_at_call 10; refine (next_all l b0 b1 s0 s1 half n live _).mono ?_; rintro e w6 ⟨rfl, hb⟩; have KT5 := Aside0.mk (blk_below KT5.out hb); have KX5 := Aside0.mk (blk_below KX5.out hb); have HB5 := Aside0.mk (chain HB5.out hb HB5.out.size)) | (go_at_call 11; refine (honeycombref05_Next.calls 100 l (some ⟨y, 1, none⟩) 2 [b0, b1] (some ⟨y, 3, none⟩) 2 [s0, s1] half live n (nxtV b0 b1 s0 s1 half live n) _ (read2 (blk_cell KY.out 1) (blk_cell KY.out 2)) (Nat.le_refl 2) (read2 (blk_cell KY.out 3) (blk_cell KY.out 4)) (Nat.le_refl 2) (rnext_tells l b0 b1 s0 s1 half n live hb0 hb1 hs0 hs1)).mono ?_; rintro e w6 ⟨rfl, hb⟩; have KT5 := Aside0.mk (blk_below KT5.out hb); have KX5 := Aside0.mk (blk_below KX5.out hb); have HB5 := Aside0.mk (chain HB5.out hb HB5.out.size); clear KY) | (go_at_call 12; refine (hs.out _).mono ?_; rintro e w6 ⟨lat, mask, hl, rfl, hb⟩; obtain ⟨B0, B1, S0, S1, hsv, hB0, hB1, hS0, hS1, hrc⟩ := some_ok lat mask b0 b1 s0 s1 hl hb0 hb1 hs0 hs1; rw [hsv]; have KT5 := Aside0.mk (blk_below KT5.out hb); have KX5 := Aside0.mk (blk_below KX5.out hb); have HB5 := Aside0.mk (chain HB5.out hb HB5.out.size)) | (go_at_call 8; refine (honeycombref05_Check.calls 401 l (some ⟨y, 1, none⟩) 2 [b0, b1] (some ⟨y, 3, none⟩) 2 [s0, s1] (refCode l b0 b1 s0 s1) _ (read2 (blk_cell KY.out 1) (blk_cell KY.out 2)) (Nat.le_refl 2) (read2 (blk_cell KY.out 3) (blk_cell KY.out 4)) (Nat.le_refl 2) (check_tells l b0 b1 s0 s1 hb0 hb1 hs0 hs1)).mono ?_; rintro e w6 ⟨rfl, hb⟩; have KT5 := Aside0.mk (blk_below KT5.out hb); have KX5 := Aside0.mk (blk_below KX5.out hb); have HB5 := Aside0.mk (chain HB5.out hb HB5.out.size); clear KY))
  go_wp2_with (fail)
  go_ret
  exact ⟨ret_bool (by first | rfl | (simp; done)), HB5.out⟩
end Go.Proofs.YtcipkabpekdflaaDoor.ts
