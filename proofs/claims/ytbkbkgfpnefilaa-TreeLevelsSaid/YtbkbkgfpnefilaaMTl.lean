/- For any number as a level and any two points the law TreeLevels answers true: how far a root of that level goes, whether a point is inside it, and the least level of a box are the document's. No condition. -/
import Derived.Test.YtbkbkgfpnefilaaMGt
import Derived.Lib.QuietBelow
import Derived.BigRegion
import Derived.Test.YtbkbkgfpnefilaaRow
namespace Go.Proofs.Ytbkbkgfpnefilaa.tr
open Go.Lib Go.RowKit Go.Proofs.Ytbkbkgfpnefilaa.PTreeBuilds Go.Proofs.YtbkbkgfpnefilaaW.PrintWords Go.Proofs.YtbkbkgfpnefilaaW.PrintLast Go.Proofs.YtbkbkgfpnefilaaW.PrintMore Go.Proofs.Ytbkbkgfpnefilaa.bs Go.ChangeShapes Go.Proofs.Ytbkbkgfpnefilaa.lb Go.Proofs.Ytbkbkgfpnefilaa.ar Go.Maps

set_option maxRecDepth 100000 in
set_option maxHeartbeats 4000000 in
theorem levels_walk (lv pa pb qa qb : Int) (w : World) : Calls Try.prog 3 #[.int .i64 lv, .agg #[.int .i64 pa, .int .i64 pb], .agg #[.int .i64 qa, .int .i64 qb]] w fun e w' => e = .returned (.bool true) ∧ Below w.heap.size w w' := by
  have hb := below_alloc (below_alloc (Below.refl w.heap.size w) (.cells #[.int .i64 pa, .int .i64 pb] 23)) (.cells #[.int .i64 qa, .int .i64 qb] 23)
  have hkp := blk_below (blk_new w (.cells #[.int .i64 pa, .int .i64 pb] 23)) (below_alloc (Below.refl _ _) (.cells #[.int .i64 qa, .int .i64 qb] 23))
  have hkq := blk_new (w.alloc (.cells #[.int .i64 pa, .int .i64 pb] 23)) (.cells #[.int .i64 qa, .int .i64 qb] 23)
  have HB := Aside0.mk hb
  have HKP := Aside0.mk hkp
  have HKQ := Aside0.mk hkq
  clear hb hkp hkq
  go_enter Try.func3, Try.ntmps3
  go_upto_region 3 with (go_at_call 15; refine (awake_walk _).mono ?_; rintro e w1 ⟨rfl, hb1⟩; have HB1 := Aside0.mk hb1; clear hb1)
  have hkp := blk_below HKP.out HB1.out
  have hkq := blk_below HKQ.out HB1.out
  rw [World.size_alloc] at hkq
  have HB2 := Aside0.mk (HB.out.trans (HB1.out.mono HB.out.size))
  clear HKP HKQ HB HB1
  obtain ⟨P, hP⟩ : ∃ P, w.heap.size = P := ⟨_, rfl⟩
  obtain ⟨Q, hQ⟩ : ∃ Q, P + 1 = Q := ⟨_, rfl⟩
  rw [hP] at hkp hkq HB2
  rw [hQ] at hkq
  simp only [hP, hQ]
  have hPQ : P ≠ Q := by omega
  have hQP : Q ≠ P := by omega
  have p0 := blk_cell hkp 0
  have p1 := blk_cell hkp 1
  have q0 := blk_cell hkq 0
  have q1 := blk_cell hkq 1
  have fp0 := blk_frozen hkp 0
  have fp1 := blk_frozen hkp 1
  have fq0 := blk_frozen hkq 0
  have fq1 := blk_frozen hkq 1
  simp only [List.getElem?_toArray, List.getElem?_cons_zero, List.getElem?_cons_succ] at p0 p1 q0 q1
  have HLT := Aside0.mk (And.intro hP hQ)
  have HKP := Aside0.mk hkp
  have HKQ := Aside0.mk hkq
  clear hP hQ hkp hkq
  obtain ⟨pa', hpa⟩ : ∃ x, pa.tmod 1125899906842624 = x := ⟨_, rfl⟩
  obtain ⟨pb', hpb⟩ : ∃ x, pb.tmod 1125899906842624 = x := ⟨_, rfl⟩
  obtain ⟨qa', hqa⟩ : ∃ x, qa.tmod 1125899906842624 = x := ⟨_, rfl⟩
  obtain ⟨qb', hqb⟩ : ∃ x, qb.tmod 1125899906842624 = x := ⟨_, rfl⟩
  have bpa := bs.tmod_bd pa 1125899906842624 (by decide)
  have bpb := bs.tmod_bd pb 1125899906842624 (by decide)
  have bqa := bs.tmod_bd qa 1125899906842624 (by decide)
  have bqb := bs.tmod_bd qb 1125899906842624 (by decide)
  rw [hpa] at bpa
  rw [hpb] at bpb
  rw [hqa] at bqa
  rw [hqb] at bqb
  have HBD := Aside0.mk (And.intro bpa (And.intro bpb (And.intro bqa bqb)))
  clear bpa bpb bqa bqb
  go_region
  clear hpa hpb hqa hqb
  go_upto_region 4 with (fail)
  have hPw : w.heap.size ≤ P := by have := HLT.out; omega
  have hQw : w.heap.size ≤ Q := by have := HLT.out; omega
  have KP := Aside0.mk (show ((((w1.setCell ⟨P, 0, none⟩ (.int .i64 pa')).setCell ⟨P, 1, none⟩ (.int .i64 pb')).setCell ⟨Q, 0, none⟩ (.int .i64 qa')).setCell ⟨Q, 1, none⟩ (.int .i64 qb')).heap[P]? = some (.cells #[.int .i64 pa', .int .i64 pb'] 23 (0, 0)) from blk_far (p := ⟨Q, 1, none⟩) (blk_far (p := ⟨Q, 0, none⟩) (blk_put (blk_set HKP.out 0 (.int .i64 pa')) 1 (.int .i64 pb') rfl) hPQ (.int .i64 qa')) hPQ (.int .i64 qb'))
  have KQ := Aside0.mk (show ((((w1.setCell ⟨P, 0, none⟩ (.int .i64 pa')).setCell ⟨P, 1, none⟩ (.int .i64 pb')).setCell ⟨Q, 0, none⟩ (.int .i64 qa')).setCell ⟨Q, 1, none⟩ (.int .i64 qb')).heap[Q]? = some (.cells #[.int .i64 qa', .int .i64 qb'] 23 (0, 0)) from blk_put (blk_set (blk_far (p := ⟨P, 1, none⟩) (blk_far (p := ⟨P, 0, none⟩) HKQ.out hQP (.int .i64 pa')) hQP (.int .i64 pb')) 0 (.int .i64 qa')) 1 (.int .i64 qb') rfl)
  have HB3 := Aside0.mk ((((HB2.out.setCell (p := ⟨P, 0, none⟩) (Nat.le_refl P) (.int .i64 pa')).setCell (p := ⟨P, 1, none⟩) (Nat.le_refl P) (.int .i64 pb')).setCell (p := ⟨Q, 0, none⟩) (show P ≤ Q by have := HLT.out; omega) (.int .i64 qa')).setCell (p := ⟨Q, 1, none⟩) (show P ≤ Q by have := HLT.out; omega) (.int .i64 qb'))
  clear p0 p1 q0 q1 fp0 fp1 fq0 fq1 HKP HKQ HB2 hPQ hQP hPw hQw
  generalize (((w1.setCell ⟨P, 0, none⟩ (.int .i64 pa')).setCell ⟨P, 1, none⟩ (.int .i64 pb')).setCell ⟨Q, 0, none⟩ (.int .i64 qa')).setCell ⟨Q, 1, none⟩ (.int .i64 qb') = w2 at *
  have KP3 := Aside0.mk (blk_below KP.out (below_drew (Below.refl _ _)))
  have KQ3 := Aside0.mk (blk_below KQ.out (below_drew (Below.refl _ _)))
  have HB4 := Aside0.mk (show Below w.heap.size w w2.drew from by have h := below_drew HB3.out; rw [← HLT.out.1] at h; exact h)
  clear KP KQ HB3
  generalize w2.drew = w3 at *
  have p0 := blk_cell KP3.out 0
  have p1 := blk_cell KP3.out 1
  have q0 := blk_cell KQ3.out 0
  have q1 := blk_cell KQ3.out 1
  simp only [List.getElem?_toArray, List.getElem?_cons_zero, List.getElem?_cons_succ] at p0 p1 q0 q1
  have hlev := fun w => tlevel_walk pa' pb' qa' qb' w
  have hrl := fun (w : World) => honeycombref13_Level.calls 400 (some ⟨w.heap.size, 0, none⟩) 2 [(⟨pa', pb', 0⟩ : Rc), ⟨qa', qb', 0⟩] _ (w.alloc (.cells (rcC [(⟨pa', pb', 0⟩ : Rc), ⟨qa', qb', 0⟩]).toArray 30)) (rc_read (blk_new w (.cells (rcC [(⟨pa', pb', 0⟩ : Rc), ⟨qa', qb', 0⟩]).toArray 30)) (by simp)) (by simp) (rlevel_val _ (by
    intro c hc
    have := HBD.out
    simp only [List.mem_cons, List.not_mem_nil, or_false] at hc
    rcases hc with rfl | rfl <;> (dsimp only; omega)) (by simp) 400 (by simp))
  have hsame : rlv ([(⟨pa', pb', 0⟩ : Rc), ⟨qa', qb', 0⟩].map ownC) = lvl pa' pb' qa' qb' := ((rlv_is _).congr (fun m => by
    show (∀ c ∈ [(⟨pa', pb', 0⟩ : Rc), ⟨qa', qb', 0⟩], Ins (pw (m - 1)) c.f0 c.f1) ↔ _
    simp)).one (lvl_is pa' pb' qa' qb')
  simp only [hsame] at hrl
  generalize lvl pa' pb' qa' qb' = lvv at *
  have HLEV := Aside0.mk hlev
  have HRL := Aside0.mk hrl
  clear hlev hrl hsame
  go_upto_region 6 with (first | (go_at_call 16; refine (HLEV.out _).mono ?_; rintro e w4 ⟨rfl, hb4⟩; have HB5 := Aside0.mk (HB4.out.trans (hb4.mono HB4.out.size)); replace p0 := pw_cell_below hb4 p0; replace p1 := pw_cell_below hb4 p1; replace q0 := pw_cell_below hb4 q0; replace q1 := pw_cell_below hb4 q1; clear hb4) | (go_at_call 17; refine Calls.mono (HRL.out _) ?_; rintro e w5 ⟨rfl, hb5⟩; have HB6 := Aside0.mk hb5; clear hb5))
  have hb6 := below_alloc (Below.refl w4.heap.size w4) (.cells (rcC [(⟨pa', pb', 0⟩ : Rc), ⟨qa', qb', 0⟩]).toArray 30)
  have hb7 := hb6.trans (HB6.out.mono hb6.size)
  have HB7 := Aside0.mk (HB5.out.trans (hb7.mono HB5.out.size))
  replace p0 := pw_cell_below hb7 p0
  replace p1 := pw_cell_below hb7 p1
  have r0 := cell_regrown p0
  have r1 := cell_regrown p1
  have cH := fun (d : Nat) (os : Array Obj) => Calls.regrown_of (tree_Half.calls lv _ (Sort.grow (redrawn w5 d) os) (half_val lv))
  have cR := fun (d : Nat) (os : Array Obj) => Calls.regrown_of ((honeycombref13_Half.calls 200 lv _ (Sort.grow (redrawn w5 d) os) (rhalf_val lv 200 (by omega))).mono (fun _ _ ⟨he, hd⟩ => ⟨he, hd.below⟩))
  have cI := fun (d : Nat) (os : Array Obj) => Calls.regrown_of (tinside_walk lv pa' pb' (Sort.grow (redrawn w5 d) os))
  have cJ := fun (d : Nat) (os : Array Obj) => Calls.regrown_of ((honeycombref13_Inside.calls 200 lv pa' pb' _ (Sort.grow (redrawn w5 d) os) (rinside_val lv pa' pb' 200 (by omega) (by have := HBD.out; omega) (by have := HBD.out; omega))).mono (fun _ _ ⟨he, hd⟩ => ⟨he, hd.below⟩))
  generalize pw (hx lv) = hf at *
  obtain ⟨ib, hib⟩ : ∃ ib, decide (Ins hf pa' pb') = ib := ⟨_, rfl⟩
  rw [hib] at cI cJ
  have e1 : (hf == hf) = true := by simp
  have e2 : (ib == ib) = true := by cases ib <;> rfl
  have e3 : ((lvv : Int) == (lvv : Int)) = true := by simp
  clear hib hb6 hb7 q0 q1 p0 p1
  (refine wp_region_quiet_below (by kernel_rfl) (by kernel_rfl) ?_; (repeat (first | go_big_quiet_step (first | with_reducible exact cH _ _ | with_reducible exact cR _ _ | with_reducible exact cI _ _ | with_reducible exact cJ _ _) | (simp only [e1, e2, e3, beq_self_eq_true]) | quiet_step (first | with_reducible exact cH _ _ | with_reducible exact cR _ _ | with_reducible exact cI _ _ | with_reducible exact cJ _ _))); refine wpQuiet_nil ?_; intro _ hw'; obtain ⟨⟨dq, osq⟩, hw''⟩ := hw'; subst hw'')
  go_wp2_with (fail)
  go_ret
  exact ⟨rfl, chain HB7.out (below_regrown w5 dq osq) HB7.out.size⟩
end Go.Proofs.Ytbkbkgfpnefilaa.tr
namespace Go.Proofs.Ytbkbkgfpnefilaa.lawTreeLevels
open Go.ChangeShapes Go.WideShapes Go.ChangeAt Go.RowKit Go.Joins

theorem params_read : ∀ t ∈ Try.f3.params.toList, Try.prog.readableRec t = true ∧ t < Try.prog.types.size := by
  have h : (Try.f3.params.toList.all fun t => Try.prog.readableRec t && decide (t < Try.prog.types.size)) = true := by kernel_rfl
  intro t ht
  have := List.all_eq_true.1 h t ht
  simpa using this
set_option maxRecDepth 100000 in
theorem contract (H : Type) (enc : TypeId × Value → H) (W : World) (base : Nat) (args : Array Value) (ds gs : List (DataW H)) (before : List MemPlace)
    (hval : ∀ (j : Nat) t v, Try.f3.params[j]? = some t → args[j]? = some v → Value.okWide Try.prog W .any base t v)
    (hW : DataW.Whole enc Try.prog Try.f3.params.toList Rows.treeLevelsSpec.vars false W args.toList ds gs before) :
    Calls Try.prog 3 args W fun e W' => ∃ v, e = .returned v ∧ Rows.treeLevelsSpec.post enc Try.prog Try.f3 false true false false W args v W' := by
  have hW' := hW
  obtain ⟨p, q, hA0, hV, rfl, hfz, hnd⟩ := hW
  have hA : DataW.TrodAll enc Try.prog W 0 (fun _ => true) true Try.f3.params.toList args.toList ds p := hA0
  rw [Try.params3] at hA hval
  obtain ⟨v0, vs0, d0, ds0, p0, q0, hargs, rfl, rfl, h0, r0⟩ := trodAll_cons hA
  obtain ⟨v1, vs1, d1, ds1, p1, q1, rfl, rfl, rfl, h1, r1⟩ := trodAll_cons r0
  obtain ⟨v2, vs2, d2, ds2, p2, q2, rfl, rfl, rfl, h2, r2⟩ := trodAll_cons r1
  obtain ⟨rfl, rfl, rfl⟩ := trodAll_nil r2
  obtain rfl : args = #[v0, v1, v2] := by cases args; simp_all
  obtain ⟨rfl, rfl⟩ := trodVars_none hV
  obtain ⟨lv, rfl, rfl, rfl, wlv⟩ := open_int Try.underlying3 (hval 0 3 v0 rfl rfl) h0
  obtain ⟨pa, pb, rfl, wpa, wpb⟩ := bs.open_point (hval 1 23 v1 rfl rfl) h1
  obtain ⟨qa, qb, rfl, wqa, wqb⟩ := bs.open_point (hval 2 23 v2 rfl rfl) h2
  clear hA0
  have blv := bs.bd_i64 wlv
  have bpa := bs.bd_i64 wpa
  have bpb := bs.bd_i64 wpb
  have bqa := bs.bd_i64 wqa
  have bqb := bs.bd_i64 wqb
  refine (tr.levels_walk lv pa pb qa qb W).mono fun e W' ⟨he, hg⟩ => ?_
  subst he
  exact ⟨_, rfl, bs.post_law (tb := 4) hW' hg (by kernel_rfl) params_read rfl rfl Try.underlying4 rfl (fun _ => okWide_bool_mk Try.underlying4 _)⟩

theorem own : ownKnob Try.prog.godebug = none := by kernel_rfl
set_option maxRecDepth 100000 in
theorem lifted (os : Os) (started : os.Started) (H : Type) (enc : TypeId × Value → H) :
    ReturnsInHanded {} Try.checked os 3 .any (Rows.treeLevelsSpec.pre6 enc Try.prog Try.f3 Rows.treeLevelsRow.domain false) (Rows.treeLevelsSpec.post enc Try.prog Try.f3 false true false false) := by
  refine returnsInHanded_of_change_sized (C := Try.checked) own started (by kernel_rfl) Try.func3
    (ChangeSpec.witness6 (enc := enc) (C := Try.checked) false ⟨#[], #[Value.int .i64 0, .agg #[.int .i64 0, .int .i64 0], .agg #[.int .i64 0, .int .i64 0]], []⟩ 8 (by kernel_rfl) (by kernel_rfl) (by kernel_rfl) (by kernel_rfl)) ?_
  intro W base args ds gs before hval hW _ _ _
  exact contract H enc W base args ds gs before hval hW

theorem said : Rows.TreeLevelsSaid :=
  OpenClaim.holds_of_wide 3 Try.f3 rfl rfl rfl rfl rfl rfl rfl ⟨rfl, rfl, rfl, rfl, rfl⟩ rfl rfl rfl rfl rfl (by kernel_rfl) Try.func3 (by kernel_rfl)
    (of_decide_eq_true (by kernel_rfl)) (by unfold Func.isWrapper; first | (rw [if_pos (by decide +kernel)]; kernel_rfl) | (rw [if_neg (by decide +kernel)]; exact ⟨rfl, rfl⟩))
    (fun os started H enc _ => lifted os started H enc)
end Go.Proofs.Ytbkbkgfpnefilaa.lawTreeLevels
