/- For any three points and any shift the law AxisOrder answers true: Less orders the points, and a shift of two keeps which is ahead. No condition. -/
import Derived.Test.YtjpcdlnhpaigkaaDoorAxT
import Derived.Test.YtjpcdlnhpaigkaaDoorAxH
import Derived.Test.YtjpcdlnhpaigkaaDoorBase
import Derived.Lib.SmallJoins
namespace Go.Proofs.YtjpcdlnhpaigkaaDoor.axAxisOrder
open Go.ChangeShapes Go.WideShapes Go.ChangeAt Go.RowKit Go.Joins

theorem contract (H : Type) (enc : TypeId × Value → H) (W : World) (base : Nat) (args : Array Value) (ds gs : List (DataW H)) (before : List MemPlace)
    (hval : ∀ (j : Nat) t v, Tryd.f7.params[j]? = some t → args[j]? = some v → Value.okWide Tryd.prog W .any base t v)
    (hW : DataW.Whole enc Tryd.prog Tryd.f7.params.toList Rows.axisOrderSpec.vars false W args.toList ds gs before) (hL : laidMetH Tryd.prog Rows.axisOrderRow.laid W) :
    Calls Tryd.prog 7 args W fun e W' => ∃ v, e = .returned v ∧ Rows.axisOrderSpec.post enc Tryd.prog Tryd.f7 false true false false W args v W' := by
  have hW' := hW
  obtain ⟨p, q, hA0, hV, rfl, hfz, hnd⟩ := hW
  have hA : DataW.TrodAll enc Tryd.prog W 0 (fun _ => true) true Tryd.f7.params.toList args.toList ds p := hA0
  rw [Tryd.params7] at hA hval
  obtain ⟨v0, vs0, d0, ds0, p0, q0, hargs, rfl, rfl, h0, r0⟩ := trodAll_cons hA
  obtain ⟨v1, vs1, d1, ds1, p1, q1, rfl, rfl, rfl, h1, r1⟩ := trodAll_cons r0
  obtain ⟨v2, vs2, d2, ds2, p2, q2, rfl, rfl, rfl, h2, r2⟩ := trodAll_cons r1
  obtain ⟨v3, vs3, d3, ds3, p3, q3, rfl, rfl, rfl, h3, r3⟩ := trodAll_cons r2
  obtain ⟨rfl, rfl, rfl⟩ := trodAll_nil r3
  obtain rfl : args = #[v0, v1, v2, v3] := by cases args; simp_all
  obtain ⟨rfl, rfl⟩ := trodVars_none hV
  obtain ⟨c0, e0, y0, z0, m0, rfl, rfl, rfl, hy0, hz0⟩ := open_agg2 Tryd.underlying24 (by kernel_rfl) (show Tryd.prog.cellsOf 24 = 2 by kernel_rfl) (hval 0 24 v0 rfl rfl) h0
  obtain ⟨pa, eqa0, rfl, wpa⟩ := DataW.trod_int Tryd.underlying2 hy0
  simp only [List.cons.injEq, and_true] at eqa0; subst eqa0
  obtain ⟨pb, eqb0, rfl, wpb⟩ := DataW.trod_int Tryd.underlying2 hz0
  simp only [List.cons.injEq, and_true] at eqb0; subst eqb0
  obtain ⟨c1, e1, y1, z1, m1, rfl, rfl, rfl, hy1, hz1⟩ := open_agg2 Tryd.underlying24 (by kernel_rfl) (show Tryd.prog.cellsOf 24 = 2 by kernel_rfl) (hval 1 24 v1 rfl rfl) h1
  obtain ⟨qa, eqa1, rfl, wqa⟩ := DataW.trod_int Tryd.underlying2 hy1
  simp only [List.cons.injEq, and_true] at eqa1; subst eqa1
  obtain ⟨qb, eqb1, rfl, wqb⟩ := DataW.trod_int Tryd.underlying2 hz1
  simp only [List.cons.injEq, and_true] at eqb1; subst eqb1
  obtain ⟨c2, e2, y2, z2, m2, rfl, rfl, rfl, hy2, hz2⟩ := open_agg2 Tryd.underlying24 (by kernel_rfl) (show Tryd.prog.cellsOf 24 = 2 by kernel_rfl) (hval 2 24 v2 rfl rfl) h2
  obtain ⟨ra, eqa2, rfl, wra⟩ := DataW.trod_int Tryd.underlying2 hy2
  simp only [List.cons.injEq, and_true] at eqa2; subst eqa2
  obtain ⟨rb, eqb2, rfl, wrb⟩ := DataW.trod_int Tryd.underlying2 hz2
  simp only [List.cons.injEq, and_true] at eqb2; subst eqb2
  obtain ⟨c3, e3, y3, z3, m3, rfl, rfl, rfl, hy3, hz3⟩ := open_agg2 Tryd.underlying24 (by kernel_rfl) (show Tryd.prog.cellsOf 24 = 2 by kernel_rfl) (hval 3 24 v3 rfl rfl) h3
  obtain ⟨sa, eqa3, rfl, wsa⟩ := DataW.trod_int Tryd.underlying2 hy3
  simp only [List.cons.injEq, and_true] at eqa3; subst eqa3
  obtain ⟨sb, eqb3, rfl, wsb⟩ := DataW.trod_int Tryd.underlying2 hz3
  simp only [List.cons.injEq, and_true] at eqb3; subst eqb3
  clear hA0
  simp only [List.append_nil, List.nil_append] at hW'
  have bpa := bs.bd_i64 wpa
  have bpb := bs.bd_i64 wpb
  have bqa := bs.bd_i64 wqa
  have bqb := bs.bd_i64 wqb
  have bra := bs.bd_i64 wra
  have brb := bs.bd_i64 wrb
  have bsa := bs.bd_i64 wsa
  have bsb := bs.bd_i64 wsb
  refine (ax.order_walk pa pb qa qb ra rb sa sb W (ax.six_of_laid hL)).mono fun e W' ⟨he, hg⟩ => ?_
  subst he
  exact ⟨_, rfl, bs.post_of_below (pa := []) (pv := []) hW' (fun _ _ _ => trodAll_cons_mk (shut_bool Tryd.underlying4 _) trodAll_mk0) (fun _ _ => trodAll_cons_mk (shut_agg2 (y0 := (.lit (.int .i64 pa), [])) (y1 := (.lit (.int .i64 pb), [])) Tryd.underlying24 (by kernel_rfl) (show Tryd.prog.cellsOf 24 = 2 by kernel_rfl) ⟨1, by simp [DataW.trod, Tryd.underlying2, wpa]⟩ ⟨1, by simp [DataW.trod, Tryd.underlying2, wpb]⟩) (trodAll_cons_mk (shut_agg2 (y0 := (.lit (.int .i64 qa), [])) (y1 := (.lit (.int .i64 qb), [])) Tryd.underlying24 (by kernel_rfl) (show Tryd.prog.cellsOf 24 = 2 by kernel_rfl) ⟨1, by simp [DataW.trod, Tryd.underlying2, wqa]⟩ ⟨1, by simp [DataW.trod, Tryd.underlying2, wqb]⟩) (trodAll_cons_mk (shut_agg2 (y0 := (.lit (.int .i64 ra), [])) (y1 := (.lit (.int .i64 rb), [])) Tryd.underlying24 (by kernel_rfl) (show Tryd.prog.cellsOf 24 = 2 by kernel_rfl) ⟨1, by simp [DataW.trod, Tryd.underlying2, wra]⟩ ⟨1, by simp [DataW.trod, Tryd.underlying2, wrb]⟩) (trodAll_cons_mk (shut_agg2 (y0 := (.lit (.int .i64 sa), [])) (y1 := (.lit (.int .i64 sb), [])) Tryd.underlying24 (by kernel_rfl) (show Tryd.prog.cellsOf 24 = 2 by kernel_rfl) ⟨1, by simp [DataW.trod, Tryd.underlying2, wsa]⟩ ⟨1, by simp [DataW.trod, Tryd.underlying2, wsb]⟩) (trodAll_mk0))))) (fun _ _ => rfl) rfl
    hg (ok_one (by kernel_rfl) rfl (okWide_bool_mk Tryd.underlying4 _))⟩

theorem laid_met (os : Os) : laidMet Tryd.prog Rows.axisOrderRow.laid ((ax.laidWorld os).forCall (fun _ _ => 0) ⟨#[], #[Value.agg #[.int .i64 0, .int .i64 0], .agg #[.int .i64 0, .int .i64 0], .agg #[.int .i64 0, .int .i64 0], .agg #[.int .i64 0, .int .i64 0]], []⟩).memory :=
  laidMet_of_run' 8 (by kernel_rfl) (by kernel_rfl)
theorem reads (os : Os) {H : Type} (enc : TypeId × Value → H) : ∃ places, DataW.whole enc Tryd.prog ((ax.laidWorld os).forCall (fun _ _ => 0) ⟨#[], #[Value.agg #[.int .i64 0, .int .i64 0], .agg #[.int .i64 0, .int .i64 0], .agg #[.int .i64 0, .int .i64 0], .agg #[.int .i64 0, .int .i64 0]], []⟩).memory Tryd.f7.params.toList Rows.axisOrderSpec.vars false #[Value.agg #[.int .i64 0, .int .i64 0], .agg #[.int .i64 0, .int .i64 0], .agg #[.int .i64 0, .int .i64 0], .agg #[.int .i64 0, .int .i64 0]].toList 8 = some ([.agg [.lit (.int .i64 0), .lit (.int .i64 0)], .agg [.lit (.int .i64 0), .lit (.int .i64 0)], .agg [.lit (.int .i64 0), .lit (.int .i64 0)], .agg [.lit (.int .i64 0), .lit (.int .i64 0)]], [], places) :=
  ⟨[], by kernel_rfl⟩
set_option maxRecDepth 100000 in
theorem lifted (os : Os) (started : os.Started) (H : Type) (enc : TypeId × Value → H) (F : Stop.Interp) :
    ReturnsInHanded {} Tryd.checked os 7 .any ((OpenSpec.ofChange Rows.axisOrderSpec).preRow enc Tryd.prog Tryd.f7 Rows.axisOrderRow.domain false Rows.axisOrderRow.laid) (((OpenSpec.ofChange Rows.axisOrderSpec).at F).post enc Tryd.prog Tryd.f7 false true false false) := by
  obtain ⟨places, hx⟩ := reads os enc
  refine returnsInHanded_of_row (C := Tryd.checked) (s := OpenSpec.ofChange Rows.axisOrderSpec) ax.own started (by kernel_rfl) Tryd.func7
    (witness_row_at (enc := enc) (C := Tryd.checked) false (ax.laidWorld os) #[Value.agg #[.int .i64 0, .int .i64 0], .agg #[.int .i64 0, .int .i64 0], .agg #[.int .i64 0, .int .i64 0], .agg #[.int .i64 0, .int .i64 0]] rfl (by kernel_rfl) (by kernel_rfl) (by kernel_rfl)
      (OpenSpec.preRow_of_cond 8 hx (by kernel_rfl) (fun k hk => by cases hk) (by kernel_rfl) (laid_met os))) ?_
  intro W base args ds gs before hval hW _ _ _ hL _ _
  exact contract H enc W base args ds gs before hval hW hL

theorem said : Rows.AxisOrderSaid :=
  OpenClaim.holds_of_cond 7 Tryd.f7 rfl rfl rfl rfl rfl rfl rfl ⟨rfl, rfl, rfl, rfl, rfl⟩ rfl rfl rfl rfl rfl (by kernel_rfl) Tryd.func7 (by kernel_rfl)
    (of_decide_eq_true (by kernel_rfl)) (by unfold Func.isWrapper; first | (rw [if_pos (by decide +kernel)]; kernel_rfl) | (rw [if_neg (by decide +kernel)]; exact ⟨rfl, rfl⟩))
    (fun os started H enc _ F => by rw [OpenClaim.pre_eq_preRow]; exact lifted os started H enc F)

theorem plain (f : FuncId) (fn : Func) (hf : Tryd.pinned.checked.prog.funcNamed "honeycomb/honeycomblaw01.AxisOrder" = some f) (hfn : Tryd.pinned.checked.prog.funcs[f]? = some fn) :
    true = Tryd.pinned.checked.prog.looks [] ∧ ∀ (j : Nat) t, fn.params[j]? = some t → Tryd.pinned.checked.prog.wantsStandIn t = false := by
  obtain rfl : f = 7 := Option.some.inj ((show Tryd.prog.funcNamed "honeycomb/honeycomblaw01.AxisOrder" = some 7 by kernel_rfl).symm.trans hf) |>.symm
  obtain rfl : fn = Tryd.f7 := (Option.some.inj (Tryd.func7.symm.trans hfn)).symm
  refine ⟨by kernel_rfl, fun j t ht => ?_⟩
  rw [Tryd.params7] at ht
  have hm := Array.mem_of_getElem? ht
  simp only [List.mem_toArray, List.mem_cons, List.not_mem_nil, or_false] at hm
  rcases hm with rfl | rfl | rfl | rfl
  all_goals first | exact (show Tryd.prog.wantsStandIn 24 = false by kernel_rfl)

/-- the card -/
theorem card : Rows.AxisOrderCardSaid :=
  Claim7.holds_tied_plain_at .later [] _ _ _ _ said (fun _ h => by cases h) (by kernel_rfl) (fun _ h => by cases h) axisOrder_row_tie rfl ⟨rfl, rfl⟩ (by kernel_rfl) rfl plain (by kernel_rfl)
end Go.Proofs.YtjpcdlnhpaigkaaDoor.axAxisOrder
