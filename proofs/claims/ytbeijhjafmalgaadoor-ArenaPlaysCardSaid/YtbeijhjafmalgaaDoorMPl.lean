/- For any number and any calls the law ArenaPlays answers true: each of the first sixty calls does what it should, and behind them each node is the document's, once. No condition. -/
import Derived.Test.YtbeijhjafmalgaaDoorMWd
import Derived.Maps.OwnSet
import Derived.Maps.RangeWalk
import Derived.Test.YtbeijhjafmalgaaDoorRow
import Derived.Test.YtbeijhjafmalgaaDoorWWords
import Derived.ChangeArms
import Derived.Test.YtbeijhjafmalgaaDoorMDo
import Derived.Test.YtbeijhjafmalgaaDoorArAwake
import Derived.Test.YtbeijhjafmalgaaDoorErrLaid
import Derived.Lib.SmallJoins
namespace Go.Proofs.YtbeijhjafmalgaaDoor.ar
open Go.RowKit Go.Proofs.YtbeijhjafmalgaaDoorW.PrintWords Go.Proofs.YtbeijhjafmalgaaDoorW.PrintLast Go.Proofs.YtbeijhjafmalgaaDoorW.PrintMore Go.Proofs.YtbeijhjafmalgaaDoor.bs Go.ChangeShapes Go.Proofs.YtbeijhjafmalgaaDoor.lb Go.Maps

theorem lawU : Keyed Tryd.prog 22 := int_keyed Tryd.underlying22
theorem zeroInt (w : World) : (zeroValue 3).run Tryd.prog w = .ok (.int .i64 0) w := by kernel_rfl
def sk (i : Nat) : Lit := .int .u32 i
theorem sk_wf {i : Nat} (h : i < 4294967296) : (Lit.int .u32 i).wf = true := by
  simp [Lit.wf, IntKind.min, IntKind.max, IntKind.signed, IntKind.bits]
  omega
theorem keyU (i : Nat) (h : i < 4294967296) : keyOf Tryd.prog 22 (.int .u32 i) = some (sk i) := keyOf_int_mk Tryd.underlying22 (sk_wf h)
theorem sk_inj {i j : Nat} (h : sk i = sk j) : i = j := by
  unfold sk at h
  injection h with h1 h2
  omega
/-- the map has none from i on -/
structure Fresh (D : DataW Unit) (i : Nat) : Prop where
  map : IsMap D
  none : ∀ j : Nat, i ≤ j → ∀ z, D.atKey (sk j) z = z
theorem fresh_zero : Fresh (.map []) 0 := ⟨isMap_empty, fun j _ z => by simp [DataW.atKey]⟩
theorem Fresh.put {D : DataW Unit} {i : Nat} (h : Fresh D i) (d : DataW Unit) : Fresh (D.put (sk i) d) (i + 1) :=
  ⟨h.map.put _ _, fun j hj z => by rw [atKey_put_other (fun e => by have := sk_inj e; omega)]; exact h.none j (by omega) z⟩
theorem Fresh.at {D : DataW Unit} {i : Nat} (h : Fresh D i) (d z : DataW Unit) : (D.put (sk i) d).atKey (sk i) z = d := atKey_put_same h.map (show WideAt.IsKeyLit (sk i) from trivial) d z
/-- a map of the call's own written -/
theorem Wd.mapped {w0 w w1 : World} {F : Nat → Prop} {P p M : Nat} {nodes nodesX : List Nd} {ats empty : List Int} {most : Int} {xv av : Value} {es : Array MapEntry} {cl : Nat} (h : Wd w0 w F P p nodes nodesX ats empty most xv av) (hm : w.heap[M]? = some (.map es cl)) (hg : w.grownBy w1 (some M)) (hF : ¬ F M) (hw : w0.heap.size ≤ M) : Wd w0 w1 F P p nodes nodesX ats empty most xv av := by
  have ne : ∀ (k : Nat) (cs : Array Value) (t : TypeId), w.heap[k]? = some (.cells cs t (0, 0)) → k ≠ M := fun k cs t hk e => by
    rw [e, hm] at hk
    cases hk
  have hP : P ≠ M := ne P _ _ h.blk
  have hs : w0.heap.size ≤ w.heap.size := h.below.size
  refine ⟨h.hold.kept (G := fun k => k = M) ⟨hg.size, fun k hk hn => hg.block k hk (fun e => hn (by injection e))⟩ (fun k hk e => hF (e ▸ hk)), h.below.trans ⟨hg.os, hg.tape, hg.output, hg.size, fun k hk => hg.block k (by omega) (fun e => by injection e with e; omega)⟩, (hg.block P (blk_lt h.blk) (fun e => hP (by injection e))).trans h.blk, ?_, ?_, h.hP⟩
  · refine Kd.R_mono (Kd.R_step (Kd.R_bound h.hx) (fun k hk hlt => ?_)) (fun k hk => hk.1)
    obtain ⟨_, _, _, q, _, cs, hc⟩ := hk
    exact hg.block k hlt (fun e => ne k cs q hc (by injection e))
  · refine Kd.R_mono (Kd.R_step (Kd.R_bound h.ha) (fun k hk hlt => ?_)) (fun k hk => hk.1)
    obtain ⟨_, _, _, q, _, cs, hc⟩ := hk
    exact hg.block k hlt (fun e => ne k cs q hc (by injection e))
theorem ownsMap_below {w w1 : World} {M n : Nat} {D : DataW Unit} (h : w.ownsMap Tryd.prog 22 (plainElem (H := Unit) Tryd.prog 3) M n D) (hb : Below w.heap.size w w1) : w1.ownsMap Tryd.prog 22 (plainElem (H := Unit) Tryd.prog 3) M n D := by
  obtain ⟨es, cl, hk, rest⟩ := h
  exact ⟨es, cl, (hb.block M (blk_lt hk)).trans hk, rest⟩
theorem node_kid (x : Nd) : ∀ j : Nat, j < 4 → (#[.int .i64 x.key.level, .int .u32 x.key.bits, .int .i64 x.key.k0, .int .i64 x.key.k1, .int .i64 x.key.k2, .int .i64 x.key.k3, .int .u64 x.count] : Array Value)[2 + j]? = some (.int .i64 (kidOf x.key.k0 x.key.k1 x.key.k2 x.key.k3 j))
  | 0, _ => rfl
  | 1, _ => rfl
  | 2, _ => rfl
  | 3, _ => rfl
  | n + 4, h => by omega
theorem node_zero (x : Nd) (h : x.key.level = 2 → x.key.k0 = 0 ∧ x.key.k1 = 0 ∧ x.key.k2 = 0 ∧ x.key.k3 = 0) (j : Nat) (hj : j < 4) (hl : x.key.level = 2) : kidOf x.key.k0 x.key.k1 x.key.k2 x.key.k3 j = 0 := by
  obtain ⟨a, b, c, d⟩ := h hl
  rw [a, b, c, d]
  have : j = 0 ∨ j = 1 ∨ j = 2 ∨ j = 3 := by omega
  rcases this with rfl | rfl | rfl | rfl <;> rfl
def SamePost (w0 : World) (e : Ending) (w' : World) : Prop := e = .returned (.bool true) ∧ Below w0.heap.size w0 w'
set_option maxRecDepth 100000 in
set_option maxHeartbeats 4000000 in
theorem same_walk (w0 w : World) (F : Nat → Prop) (P p : Nat) (nodes : List Nd) (empty : List Int) (most : Int) (xv av : Value) (D : Wd w0 w F P p nodes nodes (idL nodes.length) empty most xv av) (hok : RnOk nodes) (hN : nodes.length < 536870912) :
    Calls Tryd.prog 18 #[.pointer (some ⟨P, 0, none⟩)] w fun e w' => SamePost w0 e w' := by
  obtain ⟨xa, xc, rfl⟩ := Kd.R_slice D.hx
  obtain ⟨aa, ac, rfl⟩ := Kd.R_slice D.ha
  rw [idL_len] at D
  have hlen : ∀ n : Nat, Calls Tryd.prog 9 #[.pointer (some ⟨p, 0, none⟩)] (w.drewN n) fun e w' => e = .returned (.int .i64 nodes.length) ∧ ∃ m, w' = w.drewN m := fun n => (alen_walk F p nodes empty most _ (D.hold.drewN n).ar).mono fun _ _ ⟨he, hm⟩ => ⟨he, n, hm.symm⟩
  have p0 := blk_cell D.blk 0
  have p1 := blk_cell D.blk 1
  have p3 := blk_cell D.blk 3
  simp only [List.getElem?_toArray, List.getElem?_cons_zero, List.getElem?_cons_succ] at p0 p1 p3
  have hmm := @run_makeMap Tryd.prog
  have DD := Aside0.mk D
  have HOK := Aside0.mk hok
  have hmx := Kd.C_max (Kd.R_reads' D.hx).2.2
  clear D hok
  go_enter Tryd.func18, Tryd.ntmps18
  go_upto_region 1 with (fail)
  go_quiet ((go_at_call 9; exact hlen _))
  have D1 := Aside0.mk ((DD.out.drop (pw_below_drewN (Below.refl _ _) nq)).drop (below_alloc (Below.refl _ _) (.map #[] 0)))
  have HO1 : Aside0 (((w.drewN nq).alloc (.map #[] 0)).ownsMap Tryd.prog 22 (plainElem (H := Unit) Tryd.prog 3) (w.drewN nq).heap.size 0 (.map [])) := ⟨World.ownsMap_made _ _ _ _⟩
  have hMF : Aside0 (¬ F (w.drewN nq).heap.size) := ⟨fun hf => by have := DD.out.hold.hi _ hf; rw [World.heap_drewN] at this; omega⟩
  have hMw : Aside0 (w0.heap.size ≤ (w.drewN nq).heap.size) := ⟨by rw [World.heap_drewN]; exact DD.out.below.size⟩
  have hML := Aside0.mk (show True from trivial)
  rw [World.heap_drewN] at HO1 hMF hMw
  go_upto_region 4 with (fail)
  generalize (w.drewN nq).alloc (.map #[] 0) = w1 at *
  generalize w.heap.size = M at *
  clear p0 p1 p3 hlen hmm DD hML
  have p1 := blk_cell D1.out.blk 1
  simp only [List.getElem?_toArray, List.getElem?_cons_zero, List.getElem?_cons_succ] at p1
  go_wp2_with (fail)
  clear p1
  go_loopg [28] nodes.length (fun kq c28 w' => ∃ (i : Nat) (D : DataW Unit), i + kq = nodes.length ∧ c28 = .int .i64 i ∧ Aside0 (Fresh D i) ∧ Aside0 (w'.ownsMap Tryd.prog 22 (plainElem (H := Unit) Tryd.prog 3) M i D) ∧ Aside0 (Wd w0 w' F P p nodes nodes (idL nodes.length) empty most (.slice xa nodes.length xc) (.slice aa nodes.length ac)))
  case atStart => exact ⟨0, _, by omega, rfl, ⟨fresh_zero⟩, HO1, D1⟩
  case round =>
    clear HO1 D1
    obtain ⟨i, D, hi, rfl, HFR, HO, D1⟩ := hrel
    by_cases hlt : i < nodes.length
    · obtain ⟨gm, rfl⟩ : ∃ m, gk = m + 1 := ⟨gk - 1, by omega⟩
      obtain ⟨ad, eA, c0, c1, c2, c3, c4, c5, c6⟩ := at_Rn (Kd.R_reads' D1.out.hx).2.2 i (by omega) (by omega)
      rw [Int.toNat_natCast] at c0 c1 c2 c3 c4 c5 c6
      obtain ⟨x, hx⟩ : ∃ x, nodes.getD i zNd = x := ⟨_, rfl⟩
      rw [hx] at c0 c1 c2 c3 c4 c5 c6
      have hxi : nodes[i]? = some x := by
        rw [← hx, List.getD_eq_getElem?_getD, List.getElem?_eq_getElem hlt]; rfl
      clear hx
      subst eA
      have hnd := HOK.out i x hxi
      have KX := Aside0.mk (blk_new wr (.cells #[.int .i64 x.key.level, .int .u32 x.key.bits, .int .i64 x.key.k0, .int .i64 x.key.k1, .int .i64 x.key.k2, .int .i64 x.key.k3, .int .u64 x.count] 69))
      have HO2 := Aside0.mk (HO.out.alloc (.cells #[.int .i64 x.key.level, .int .u32 x.key.bits, .int .i64 x.key.k0, .int .i64 x.key.k1, .int .i64 x.key.k2, .int .i64 x.key.k3, .int .u64 x.count] 69))
      have D2 := Aside0.mk (D1.out.drop (below_alloc (Below.refl _ _) (.cells #[.int .i64 x.key.level, .int .u32 x.key.bits, .int .i64 x.key.k0, .int .i64 x.key.k1, .int .i64 x.key.k2, .int .i64 x.key.k3, .int .u64 x.count] 69)))
      have hXF : Aside0 (¬ F wr.heap.size) := ⟨fun hf => by have := D1.out.hold.hi _ hf; omega⟩
      have hXM : Aside0 (M ≠ wr.heap.size) := ⟨by have := HO.out.lt; omega⟩
      go_upto_region 7 with (fail)
      clear c0 c1 c2 c3 c4 c5 c6 HO D1
      generalize wr.alloc (.cells #[.int .i64 x.key.level, .int .u32 x.key.bits, .int .i64 x.key.k0, .int .i64 x.key.k1, .int .i64 x.key.k2, .int .i64 x.key.k3, .int .u64 x.count] 69) = w2 at *
      generalize wr.heap.size = X at *
      have hil := idL_len nodes.length
      obtain ⟨ba, ca, hv, _⟩ := Kd.R_form D2.out.ha (by rw [hil]; omega)
      injection hv with hv1 hv2 hv3
      subst hv1
      have hc := Kd.R_celln (enc := Value.int .u32) (h1 := fun _ => rfl) 0 D2.out.ha (i : Int) (by omega) (by omega)
      rw [Int.toNat_natCast, show rdOf 0 (idL nodes.length) (i : Int) = (i : Int) by simp [rdOf, idL_get nodes.length i hlt]] at hc
      obtain ⟨hc1, hc2⟩ := hc
      have hmxA := Kd.C_max (Kd.R_reads' D2.out.ha).2.2
      rw [hil] at hmxA
      have p3 := blk_cell D2.out.blk 3
      simp only [List.getElem?_toArray, List.getElem?_cons_zero, List.getElem?_cons_succ] at p3
      clear hil hv2 hv3 hc2
      go_upto_region 8 with (fail)
      clear hc1 p3
      have hi32 : i < 4294967296 := by omega
      go_wp2_with (first | (at_lookup; refine wpList_lookup_own_int _ rfl _ _ 76 rfl 22 3 .i64 lawU Tryd.underlying76 Tryd.underlying3 (zeroInt _) M i D rfl HO2.out _ _ rfl (keyU i hi32) ?_; intro c hat hwc; obtain rfl : c = 0 := (by rw [HFR.out.none i (Nat.le_refl _)] at hat; injection hat with hat; injection hat with h1 h2; exact h2.symm); clear hat hwc) | (at_mapUpdate; refine wpList_mapUpdate_own _ rfl _ _ _ 76 rfl 22 3 lawU Tryd.underlying76 _ M i D rfl HO2.out (by unfold maxLen; omega) _ _ _ rfl rfl (keyU i hi32) _ [] (plainElem_int Tryd.underlying3 (by decide)) ?_; intro w5 ho5 hg5; have HO5 := Aside0.mk ho5; have HG5 := Aside0.mk hg5; clear ho5 hg5; go_frame))
      have D5 : Aside0 (Wd w0 w5 F P p nodes nodes (idL nodes.length) empty most (.slice (some ad) nodes.length xc) (.slice (some ⟨ba, 0, none⟩) nodes.length ac)) := ⟨by obtain ⟨es, cl, hb, _⟩ := HO2.out; exact D2.out.mapped hb HG5.out hMF.out hMw.out⟩
      have KX5 : Aside0 (w5.heap[X]? = some (.cells #[.int .i64 x.key.level, .int .u32 x.key.bits, .int .i64 x.key.k0, .int .i64 x.key.k1, .int .i64 x.key.k2, .int .i64 x.key.k3, .int .u64 x.count] 69 (0, 0))) := ⟨(HG5.out.block X (blk_lt KX.out) (fun e => hXM.out (by injection e with e; exact e.symm))).trans KX.out⟩
      have HF5 := Aside0.mk (HFR.out.put (.lit (.int .i64 1)))
      have hat5 := HFR.out.at (.lit (.int .i64 1))
      clear HG5 D2 KX HO2 HFR
      have hlk : ∀ n : Nat, (Instr.lookup 76 (.map (some M)) (.int .u32 i) false).run Tryd.prog (w5.drewN n) = .ok (.int .i64 1) (w5.drewN n) := fun n => by
        have ho : (w5.drewN n).ownsMap Tryd.prog 22 (plainElem (H := Unit) Tryd.prog 3) M (i + 1) (D.put (sk i) (.lit (.int .i64 1))) := by
          obtain ⟨es, cl, hb, rest⟩ := HO5.out
          exact ⟨es, cl, by rw [World.heap_drewN]; exact hb, rest⟩
        obtain ⟨c, hrun, hat, _⟩ := ho.lookup_int lawU Tryd.underlying76 Tryd.underlying3 (zeroInt _) (keyU i hi32)
        rw [hat5] at hat
        injection hat with hat
        injection hat with _ h2
        rw [hrun, ← h2]
      clear hat5
      have hxi2 : nodes[(i : Int).toNat]? = some x := by rw [Int.toNat_natCast]; exact hxi
      have hV : ∀ n : Nat, Calls Tryd.prog 8 #[.pointer (some ⟨p, 0, none⟩), .int .u32 i] (w5.drewN n) fun e w' => e = .returned (.int .i64 x.key.level) ∧ ∃ m, w' = w5.drewN m := fun n => by
        have h := level_walk F p nodes empty most _ (D5.out.hold.drewN n).ar i (by omega) (by omega)
        rw [lvAt_some hxi2] at h
        exact h.mono fun _ _ ⟨he, hm⟩ => ⟨he, n, hm.symm⟩
      have hBt : ∀ n : Nat, Calls Tryd.prog 11 #[.pointer (some ⟨p, 0, none⟩), .int .u32 i] (w5.drewN n) fun e w' => e = .returned (.int .u32 x.key.bits) ∧ ∃ m, w' = w5.drewN m := fun n => by
        have h := bits_walk F p nodes empty most _ (D5.out.hold.drewN n).ar i (by omega) (by omega)
        rw [bitsAt_some hxi2] at h
        exact h.mono fun _ _ ⟨he, hm⟩ => ⟨he, n, hm.symm⟩
      have hCt : ∀ n : Nat, Calls Tryd.prog 13 #[.pointer (some ⟨p, 0, none⟩), .int .u32 i] (w5.drewN n) fun e w' => e = .returned (.int .u64 x.count) ∧ ∃ m, w' = w5.drewN m := fun n => by
        have h := ncount_walk F p nodes empty most _ (D5.out.hold.drewN n).ar i (by omega) (by omega)
        rw [cntAt_some hxi2] at h
        exact h.mono fun _ _ ⟨he, hm⟩ => ⟨he, n, hm.symm⟩
      have p0 := blk_cell D5.out.blk 0
      have x0 := blk_cell KX5.out 0
      have x1 := blk_cell KX5.out 1
      have x6 := blk_cell KX5.out 6
      simp only [List.getElem?_toArray, List.getElem?_cons_zero, List.getElem?_cons_succ] at p0 x0 x1 x6
      have HXI := Aside0.mk hxi2
      have HND := Aside0.mk hnd
      clear hxi hxi2 hnd
      go_upto_region 9 with (fail)
      go_quiet (first | (go_at_call 8; exact hV _) | (go_at_call 11; exact hBt _) | (go_at_call 13; exact hCt _))
      have D6 := Aside0.mk (D5.out.drop (pw_below_drewN (Below.refl _ _) nq))
      have HO6 := Aside0.mk (ownsMap_below HO5.out (pw_below_drewN (Below.refl _ _) nq))
      have KX6 := Aside0.mk (blk_drewN KX5.out nq)
      clear hV hBt hCt hlk p0 x0 x1 x6 D5 HO5 KX5
      generalize w5.drewN nq = w6 at *
      have p0 := blk_cell D6.out.blk 0
      simp only [List.getElem?_toArray, List.getElem?_cons_zero] at p0
      have hkid := kids_walk F p nodes empty most w6 D6.out.hold.ar i (by omega) (by omega)
      rw [keyAt_some HXI.out] at hkid
      unfold kidsVal at hkid
      have HKID := Aside0.mk hkid
      clear hkid
      go_wp2_with (go_at_call 12; refine HKID.out.mono ?_; rintro e w7 ⟨rfl, hb⟩; have D7 := Aside0.mk (D6.out.drop hb); have HO7 := Aside0.mk (ownsMap_below HO6.out hb); have KX7 := Aside0.mk (blk_below KX6.out hb); clear hb)
      clear HKID D6 HO6 KX6 p0
      have hidx := fun (w : World) (j : Nat) (h : j < 4) => index4 w x.key.k0 x.key.k1 x.key.k2 x.key.k3 j h
      go_loopg [87] 4 (fun kq c87 w' => ∃ (j : Nat), j + kq = 4 ∧ c87 = .int .i64 j ∧ Aside0 (w'.ownsMap Tryd.prog 22 (plainElem (H := Unit) Tryd.prog 3) M (i + 1) (D.put (sk i) (.lit (.int .i64 1)))) ∧ Aside0 (Wd w0 w' F P p nodes nodes (idL nodes.length) empty most (.slice (some ad) nodes.length xc) (.slice (some ⟨ba, 0, none⟩) nodes.length ac)) ∧ Aside0 (w'.heap[X]? = some (.cells #[.int .i64 x.key.level, .int .u32 x.key.bits, .int .i64 x.key.k0, .int .i64 x.key.k1, .int .i64 x.key.k2, .int .i64 x.key.k3, .int .u64 x.count] 69 (0, 0))))
      case atStart => exact ⟨0, by omega, rfl, HO7, D7, KX7⟩
      case round =>
        clear D7 HO7 KX7
        obtain ⟨j, hj, rfl, HO6, D6, KX6⟩ := hrel
        by_cases h4 : j < 4
        · obtain ⟨gj, rfl⟩ : ∃ m, gk = m + 1 := ⟨gk - 1, by omega⟩
          have hi2 : ∀ w : World, (Instr.index 32 (.agg #[.int .u32 x.key.k0, .int .u32 x.key.k1, .int .u32 x.key.k2, .int .u32 x.key.k3]) (.int .i64 j)).run Tryd.prog w = .ok (.int .u32 (kidOf x.key.k0 x.key.k1 x.key.k2 x.key.k3 j)) w := fun w => hidx w j h4
          have xk := blk_cell KX6.out (2 + j)
          rw [node_kid x j h4] at xk
          have x0 := blk_cell KX6.out 0
          have p3 := blk_cell D6.out.blk 3
          simp only [List.getElem?_toArray, List.getElem?_cons_zero, List.getElem?_cons_succ] at x0 p3
          obtain ⟨_, _, _, _, hk2, hk0, hkn⟩ := HND.out
          have hz := node_zero x hk0 j h4
          have hkn2 := fun h => hkn h j h4
          clear hidx hk0 hkn
          generalize kidOf x.key.k0 x.key.k1 x.key.k2 x.key.k3 j = kv at *
          by_cases hl : 2 < x.key.level
          · obtain ⟨hv0, hv1⟩ := hkn2 hl
            obtain ⟨v, rfl⟩ := Int.eq_ofNat_of_zero_le hv0
            have hc := Kd.R_celln (enc := Value.int .u32) (h1 := fun _ => rfl) 0 D6.out.ha (v : Int) (by omega) (by omega)
            rw [Int.toNat_natCast, show rdOf 0 (idL nodes.length) (v : Int) = (v : Int) by simp [rdOf, idL_get nodes.length v (by omega)]] at hc
            obtain ⟨hc1, hc2⟩ := hc
            have d1 : decide (x.key.level > 2) = true := by simp; omega
            have d2 : (x.key.level == 2) = false := by rw [beq_eq_false_iff_ne]; omega
            have hv2 : v < nodes.length := by omega
            clear hkn2 hz hc2 hl
            go_upto_region 14 with (fail)
            clear hi2
            go_quiet (fail)
            clear xk x0 p3 hc1 d1 d2
            have D7 := Aside0.mk (D6.out.drop (pw_below_drewN (Below.refl _ _) nq))
            have HO7 := Aside0.mk (ownsMap_below HO6.out (pw_below_drewN (Below.refl _ _) nq))
            have KX7 := Aside0.mk (blk_drewN KX6.out nq)
            clear D6 HO6 KX6
            go_wp2_with (fail)
            go_roundg gj
            case measure => omega
            case rel => exact ⟨j + 1, by omega, by go_num, HO7, D7, KX7⟩

          · have hl2 : x.key.level = 2 := by omega
            have hv0 := hz hl2
            rw [hv0] at xk hi2
            have d1 : decide (x.key.level > 2) = false := by simp; omega
            have d2 : (x.key.level == 2) = true := by rw [hl2]; rfl
            clear hkn2 hz hl2 hv0 hl
            go_upto_region 14 with (fail)
            clear hi2
            go_quiet (fail)
            clear xk x0 p3 d1 d2
            have D7 := Aside0.mk (D6.out.drop (pw_below_drewN (Below.refl _ _) nq))
            have HO7 := Aside0.mk (ownsMap_below HO6.out (pw_below_drewN (Below.refl _ _) nq))
            have KX7 := Aside0.mk (blk_drewN KX6.out nq)
            clear D6 HO6 KX6
            go_wp2_with (fail)
            go_roundg gj
            case measure => omega
            case rel => exact ⟨j + 1, by omega, by go_num, HO7, D7, KX7⟩

        · obtain rfl : j = 4 := by omega
          have HSM : Aside0 (((i + 1 : Nat) : Int) = (i : Int) + 1) := ⟨by omega⟩
          go_wp2_with (fail)
          go_roundg gm
          case measure => omega
          case rel => exact ⟨i + 1, _, by omega, by go_num, HF5, HO6, D6⟩
    · obtain rfl : i = nodes.length := by omega
      go_wp2_with (fail)
      go_ret
      exact ⟨rfl, D1.out.below⟩
end Go.Proofs.YtbeijhjafmalgaaDoor.ar
namespace Go.Proofs.YtbeijhjafmalgaaDoor.bs
open Go.ChangeShapes Go.WideShapes Go.ChangeAt Go.RowKit Go.Joins Go.Proofs.YtbeijhjafmalgaaDoorW.PrintWords

theorem list_of_all {α : Type} (P : Nat → α → Prop) (n : Nat) (h : ∀ i, i < n → ∃ x, P i x) : ∃ xs : List α, xs.length = n ∧ ∀ (i : Nat) (x : α), xs[i]? = some x → P i x := by
  induction n with
  | zero => exact ⟨[], rfl, fun i x hx => by simp at hx⟩
  | succ n ih =>
    obtain ⟨xs, hl, hx⟩ := ih (fun i hi => h i (by omega))
    obtain ⟨y, hy⟩ := h n (by omega)
    refine ⟨xs ++ [y], by simp [hl], fun i x hi => ?_⟩
    rw [List.getElem?_append] at hi
    split at hi
    · exact hx i x hi
    · rename_i hge
      rw [List.getElem?_singleton] at hi
      split at hi
      · rename_i h0
        obtain rfl : i = n := by omega
        obtain rfl := Option.some.inj hi
        exact hy
      · cases hi
section
variable {H : Type} {enc : TypeId × Value → H} {P : Program} {w : World} {base : Nat} {sp : Nat → Bool} {held : Bool}
theorem open_rowsG {α : Type} (d : Kd α) (good : α → Prop) {r : Reach} {b0 : Nat} {t e : TypeId} {v : Value} {dd : DataW H} {p : List MemPlace} (ht : P.underlying t = some (.slice e)) (hc : P.cellsOf e = d.sz)
    (hel : ∀ (n : Nat) (cs : List Value) (y : DataW H × List MemPlace), DataW.trod enc P w base sp held n e cs = some y → ∃ x, good x ∧ d.K w x cs)
    (hv : Value.okWide P w r b0 t v) (h : DataW.Trod enc P w base sp held t v dd p) : ∃ A n c xs, v = .slice A n c ∧ xs.length = n ∧ d.C w A n xs ∧ ∀ x ∈ xs, good x := by
  obtain ⟨a0, l0, c0, rfl⟩ := okWide_slice ht hv
  obtain ⟨fuel, hf⟩ := h
  rcases DataW.trod_slice ht hf with ⟨hcs, _⟩ | ⟨a, len, cap, elems, rest, n, _, hcs, _, hb, hl, hm, hlen, hel', _⟩
  · simp [Value.cells] at hcs
    obtain ⟨rfl, rfl, rfl⟩ := hcs
    exact ⟨none, 0, 0, [], rfl, rfl, ⟨rfl, by decide, fun h => absurd h (by omega)⟩, fun x hx => by simp at hx⟩
  · simp [Value.cells] at hcs
    obtain ⟨rfl, rfl, rfl⟩ := hcs
    have each : ∀ i, i < l0 → ∃ x, good x ∧ ∃ cs, cs.length = d.sz ∧ d.K w x cs ∧ ∀ j u, cs[j]? = some u → w.cell? (a.add (i * d.sz + j)) = some u := by
      intro i hi
      have h1 := hel' i hi
      have h2 : elems[i]? = some (elems[i]'(by omega)) := List.getElem?_eq_getElem (by omega)
      rw [h2, Option.bind_eq_some_iff] at h1
      obtain ⟨cs, hcs, ht1⟩ := h1
      obtain ⟨x, hg, hK⟩ := hel n cs _ ht1
      obtain ⟨_, hcl, hce⟩ := World.cells?_some hcs
      refine ⟨x, hg, cs, by rw [hcl, hc], hK, fun j u hu => ?_⟩
      have hj : j < cs.length := (List.getElem?_eq_some_iff.1 hu).1
      have := hce j (by omega)
      rw [hu, hc] at this
      rw [← this]
      congr 1
      exact (Go.Proofs.YtbeijhjafmalgaaDoorW.PrintWords.add_add _ _ _).symm
    obtain ⟨xs, hxl, hx⟩ := list_of_all _ l0 each
    refine ⟨some a, l0, c0, xs, rfl, hxl, ⟨hxl, by have : maxLen = 9223372036854775807 := rfl; omega, fun _ => ⟨a, rfl, fun j q hj => (hx j q hj).2⟩⟩, fun x hm => ?_⟩
    obtain ⟨i, hi⟩ := List.getElem?_of_mem hm
    exact (hx i x hi).1
end
end Go.Proofs.YtbeijhjafmalgaaDoor.bs
namespace Go.Proofs.YtbeijhjafmalgaaDoor.ar
open Go.RowKit Go.Proofs.YtbeijhjafmalgaaDoorW.PrintWords Go.Proofs.YtbeijhjafmalgaaDoorW.PrintLast Go.Proofs.YtbeijhjafmalgaaDoorW.PrintMore Go.Proofs.YtbeijhjafmalgaaDoor.bs Go.ChangeShapes Go.Proofs.YtbeijhjafmalgaaDoor.lb Go.WideShapes Go.Joins

def kAc : Kd Ac := Kd.iso (Kd.pair (Kd.int .i64) (Kd.pair (Kd.int .u32) (Kd.pair (Kd.int .i64) (Kd.pair (Kd.int .i64) (Kd.pair (Kd.int .i64) (Kd.pair (Kd.int .i64) (Kd.int .i64))))))) (fun x : Ac => (x.kind, (x.bits : Int), x.k0, x.k1, x.k2, x.k3, x.n))
theorem kAc_open {w : World} {x : Ac} {cs : List Value} (h : kAc.K w x cs) : cs = [.int .i64 x.kind, .int .u32 x.bits, .int .i64 x.k0, .int .i64 x.k1, .int .i64 x.k2, .int .i64 x.k3, .int .i64 x.n] := by
  obtain ⟨_, _, rfl, rfl, ⟨_, _, rfl, rfl, ⟨_, _, rfl, rfl, ⟨_, _, rfl, rfl, ⟨_, _, rfl, rfl, ⟨_, _, rfl, rfl, rfl⟩⟩⟩⟩⟩⟩ := h
  exact rfl
theorem kAc_mk (w : World) (x : Ac) : kAc.K w x [.int .i64 x.kind, .int .u32 x.bits, .int .i64 x.k0, .int .i64 x.k1, .int .i64 x.k2, .int .i64 x.k3, .int .i64 x.n] :=
  ⟨[.int .i64 x.kind], _, rfl, rfl, ⟨[.int .u32 x.bits], _, rfl, rfl, ⟨[.int .i64 x.k0], _, rfl, rfl, ⟨[.int .i64 x.k1], _, rfl, rfl, ⟨[.int .i64 x.k2], _, rfl, rfl, ⟨[.int .i64 x.k3], _, rfl, rfl, rfl⟩⟩⟩⟩⟩⟩
section
variable {H : Type} {enc : TypeId × Value → H} {w : World} {base : Nat} {sp : Nat → Bool} {held : Bool}
theorem i64x4 {fuel : Nat} {cs : List Value} {x : DataW H × List MemPlace} (h : DataW.trod enc Tryd.prog w base sp held fuel 53 cs = some x) :
    ∃ a b c d, cs = [.int .i64 a, .int .i64 b, .int .i64 c, .int .i64 d] ∧ I64 a ∧ I64 b ∧ I64 c ∧ I64 d := by
  obtain ⟨xs, m, _, hx, hl, hxl, hf⟩ := DataW.trod_array Tryd.underlying53 h
  rw [show Tryd.prog.cellsOf 53 = 4 by kernel_rfl] at hl
  have hU : Tryd.prog.cellsOf 3 = 1 := by kernel_rfl
  rw [hU] at hf
  have hxl2 : xs.length = 4 := hxl
  match cs, hl with
  | [c0, c1, c2, c3], _ =>
    match xs, hxl2 with
    | [y0, y1, y2, y3], _ =>
      obtain ⟨n0, e0, _, w0⟩ := DataW.trod_int Tryd.underlying3 (hf 0 (by omega))
      obtain ⟨n1, e1, _, w1⟩ := DataW.trod_int Tryd.underlying3 (hf 1 (by omega))
      obtain ⟨n2, e2, _, w2⟩ := DataW.trod_int Tryd.underlying3 (hf 2 (by omega))
      obtain ⟨n3, e3, _, w3⟩ := DataW.trod_int Tryd.underlying3 (hf 3 (by omega))
      simp at e0 e1 e2 e3
      subst e0 e1 e2 e3
      exact ⟨n0, n1, n2, n3, rfl, bd_i64 w0, bd_i64 w1, bd_i64 w2, bd_i64 w3⟩
set_option maxRecDepth 100000 in
theorem act_open (n : Nat) (cs : List Value) (y : DataW H × List MemPlace) (hf : DataW.trod enc Tryd.prog w base sp held n 55 cs = some y) : ∃ x, AcOk x ∧ kAc.K w x cs := by
  obtain ⟨xs, n, _, hx, hl, hxl, hg⟩ := DataW.trod_struct Tryd.underlying55 hf
  rw [show Tryd.prog.cellsOf 55 = 7 by kernel_rfl] at hl
  have hI : Tryd.prog.cellsOf 3 = 1 := by kernel_rfl
  have hU : Tryd.prog.cellsOf 22 = 1 := by kernel_rfl
  have hA : Tryd.prog.cellsOf 53 = 4 := by kernel_rfl
  have hxl2 : xs.length = 4 := hxl
  match xs, hxl2 with
  | [y0, y1, y2, y3], _ =>
    obtain ⟨n0, e0, _, w0⟩ := DataW.trod_int Tryd.underlying3 (hg 0 _ rfl)
    obtain ⟨n1, e1, _, w1⟩ := DataW.trod_int Tryd.underlying22 (hg 1 _ rfl)
    obtain ⟨a, b, c, d, e2, ha, hb, hc, hd⟩ := i64x4 (hg 2 _ rfl)
    obtain ⟨n3, e3, _, w3⟩ := DataW.trod_int Tryd.underlying3 (hg 3 _ rfl)
    simp [hI, hA, hU] at e0 e1 e2 e3
    match cs, hl with
    | [c0, c1, c2, c3, c4, c5, c6], _ =>
      simp at e0 e1 e2 e3
      subst e0 e1 e3
      obtain ⟨rfl, rfl, rfl, rfl⟩ := e2
      have h1 := bd_u32 w1
      refine ⟨⟨n0, n1.toNat, a, b, c, d, n3⟩, ⟨bd_i64 w0, by show n1.toNat < _; omega, ha, hb, hc, hd, bd_i64 w3⟩, ?_⟩
      have := kAc_mk w ⟨n0, n1.toNat, a, b, c, d, n3⟩
      dsimp only at this
      rwa [Int.toNat_of_nonneg h1.1] at this
end
theorem buildRn1 (w : World) : (Instr.build 69 #[(0, .int .i64 2)]).run Tryd.prog w = .ok (.agg #[.int .i64 2, .int .u32 0, .int .i64 0, .int .i64 0, .int .i64 0, .int .i64 0, .int .u64 0]) w := by kernel_rfl
attribute [local go_sem high] buildRn1
attribute [local go_sem] max_two
theorem R_lit1 (W : World) (x : Nd) (base : Nat) (hb : base ≤ W.heap.size) : Kd.R kRn 69 (W.alloc (.cells x.rcells.toArray 69)) base (fun _ => True) (.slice (some ⟨W.heap.size, 0, none⟩) 1 1) [x] := by
  refine ⟨fun _ _ => trivial, x.rcells, ?_, ⟨rfl, fun j p hj => ?_⟩⟩
  · have h2 := World.ownsRow_lit (base := base) (e := 69) (size := 7) W x.rcells.toArray 1 hb (by decide) (by simp [Nd.rcells])
    exact (show (W.alloc (.cells x.rcells.toArray 69)).ownsRow base 69 7 (.slice (some ⟨W.heap.size, 0, none⟩) 1 1) 1 x.rcells from by simpa using h2)
  · match j, hj with
    | 0, hj =>
      cases hj
      exact kRn_mkM _ _ _ x
set_option maxHeartbeats 1000000 in
theorem rnew_walk (most : Int) (hm : most ≤ 9223372036854775807) (w : World) : Calls Tryd.prog 16 #[.int .i64 most] w fun e w' => ∃ A c, e = .returned (.agg #[.slice A 1 c, .int .i64 (max most 64)]) ∧ Kd.R kRn 69 w' w.heap.size (fun _ => True) (.slice A 1 c) [nd0] ∧ Below w.heap.size w w' := by
  obtain ⟨mm, hmm, hmax⟩ : ∃ mm : Int, max most 64 = mm ∧ Builtin.max2 (.int .i64 most) (.int .i64 64) = pure (.int .i64 mm) := ⟨_, rfl, by rw [max2_int]; congr 2; split <;> omega⟩
  have HMM := Aside0.mk hmm
  clear hmm
  go_enter Tryd.func16, Tryd.ntmps16
  go_wp2_with (fail)
  have hr := R_lit1 (w.alloc (.cells #[.slice (some ⟨w.heap.size + 1, 0, none⟩) 1 1, .int .i64 mm] 47)) nd0 w.heap.size (by simp)
  have kg := blk_below (blk_new w (.cells #[.slice (some ⟨w.heap.size + 1, 0, none⟩) 1 1, .int .i64 mm] 47)) (below_alloc (Below.refl _ _) (.cells nd0.rcells.toArray 69))
  have hB := below_alloc (below_alloc (Below.refl w.heap.size w) (.cells #[.slice (some ⟨w.heap.size + 1, 0, none⟩) 1 1, .int .i64 mm] 47)) (.cells nd0.rcells.toArray 69)
  rw [show (w.alloc (.cells #[.slice (some ⟨w.heap.size + 1, 0, none⟩) 1 1, .int .i64 mm] 47)).heap.size = w.heap.size + 1 by simp] at hr
  have g0 := blk_cell kg 0
  have g1 := blk_cell kg 1
  simp only [List.getElem?_toArray, List.getElem?_cons_zero, List.getElem?_cons_succ] at g0 g1
  rw [HMM.out]
  exact bodyPost_ret (v := .agg #[.slice (some ⟨w.heap.size + 1, 0, none⟩) 1 1, .int .i64 mm]) (by simp [results, Tryd.results16, go_sem]) rfl ⟨_, _, rfl, hr, hB⟩
def zAc : Ac := ⟨0, 0, 0, 0, 0, 0, 0⟩
set_option maxRecDepth 100000 in
set_option maxHeartbeats 4000000 in
theorem plays_walk (most : Int) (hm : most ≤ 9223372036854775807) (A : Option Addr) (n c : Nat) (acts : List Ac) (w : World) (hl : acts.length = n) (hA : Kd.C kAc w A n acts) (hok : ∀ x ∈ acts, AcOk x) (hE : ec.ErrAt w) : Calls Tryd.prog 5 #[.int .i64 most, .slice A n c] w fun e w' => e = .returned (.bool true) ∧ Below w.heap.size w w' := by
  subst hl
  have HA := Aside0.mk hA
  have HOK := Aside0.mk hok
  have HE := Aside0.mk hE
  have hmx := Kd.C_max hA
  clear hA hok hE
  go_enter Tryd.func5, Tryd.ntmps5
  go_wp2_with (fail)
  refine (awake_walk w).mono ?_
  rintro e w1 ⟨rfl, hb⟩
  have B1 := Aside0.mk hb
  clear hb
  go_wp2_with (fail)
  refine (hold_new most hm w1).mono ?_
  rintro e w2 ⟨p, F, rfl, hH, hb⟩
  have H2 := Aside0.mk (hH.elder B1.out.size)
  have B2 := Aside0.mk (chain B1.out hb B1.out.size)
  clear hH hb B1
  go_wp2_with (fail)
  refine (rnew_walk most hm w2).mono ?_
  rintro e w3 ⟨A1, c1, rfl, hR, hb⟩
  have H3 := Aside0.mk (H2.out.below hb)
  have B3 := Aside0.mk (chain B2.out hb B2.out.size)
  have HR3 := Aside0.mk (Kd.R_mono (ok' := Oth w F) (Kd.R_lower (Kd.R_bound hR) (Nat.zero_le _)) (fun k hk => ⟨by have := B2.out.size; have := hk.2.1; omega, fun hf => by have := H2.out.hi k hf; have := hk.2.1; omega⟩))
  clear hR hb
  obtain ⟨mm, hmm⟩ : ∃ mm, max most 64 = mm := ⟨_, rfl⟩
  have hmb : 64 ≤ mm ∧ mm ≤ 9223372036854775807 := by omega
  simp only [hmm] at H3 ⊢
  clear hmm H2 B2
  go_upto_region 4 with (fail)
  have hS : WSt w ((w3.alloc (.cells #[.int .u32 0] 22)).alloc (.cells #[.pointer (some ⟨p, 0, none⟩), .slice A1 1 c1, .int .i64 mm, .slice (some ⟨w3.heap.size, 0, none⟩) 1 1] 51)) (w3.heap.size + 1) p [nd0] [0, 0, 0] mm := by
    have hb2 : Below w3.heap.size w3 ((w3.alloc (.cells #[.int .u32 0] 22)).alloc (.cells #[.pointer (some ⟨p, 0, none⟩), .slice A1 1 c1, .int .i64 mm, .slice (some ⟨w3.heap.size, 0, none⟩) 1 1] 51)) := below_alloc (below_alloc (Below.refl _ _) _) _
    have kp := blk_new (w3.alloc (.cells #[.int .u32 0] 22)) (.cells #[.pointer (some ⟨p, 0, none⟩), .slice A1 1 c1, .int .i64 mm, .slice (some ⟨w3.heap.size, 0, none⟩) 1 1] 51)
    rw [show (w3.alloc (.cells #[.int .u32 0] 22)).heap.size = w3.heap.size + 1 by simp] at kp
    have h3 := B3.out.size
    refine ⟨⟨F, _, _, H3.out.below hb2, chain B3.out hb2 h3, kp, Kd.R_below HR3.out hb2, Kd.R_alloc (lit_slice w3 _ [0] (by decide) ⟨h3, fun hf => by have := H3.out.hi _ hf; omega⟩) _, ⟨by omega, fun hf => by have := H3.out.hi _ hf; omega⟩⟩, ?_, chain0 nd0 rfl rfl⟩
    intro i x hx
    have hi := (List.getElem?_eq_some_iff.1 hx).1
    obtain rfl : i = 0 := by simp at hi; omega
    obtain rfl := Option.some.inj hx
    exact ⟨by decide, by decide, by decide, by decide, by decide, fun _ => ⟨rfl, rfl, rfl, rfl⟩, fun h => absurd h (by decide)⟩
  have HS := Aside0.mk hS
  have B4 := Aside0.mk (show Below w.heap.size w ((w3.alloc (.cells #[.int .u32 0] 22)).alloc (.cells #[.pointer (some ⟨p, 0, none⟩), .slice A1 1 c1, .int .i64 mm, .slice (some ⟨w3.heap.size, 0, none⟩) 1 1] 51)) from below_alloc (below_alloc B3.out _) _)
  clear hS H3 HR3 B3
  generalize (w3.alloc (.cells #[.int .u32 0] 22)).alloc (.cells #[.pointer (some ⟨p, 0, none⟩), .slice A1 1 c1, .int .i64 mm, .slice (some ⟨w3.heap.size, 0, none⟩) 1 1] 51) = w4 at *
  generalize w3.heap.size + 1 = P at *
  go_wp2_with (fail)
  go_loopg [6] acts.length (fun kq c6 w' => ∃ (i : Nat) (nodes : List Nd) (empty : List Int) (mm : Int), i + kq = acts.length ∧ c6 = .int .i64 i ∧ i ≤ 60 ∧ nodes.length ≤ 50 * i + 1 ∧ Aside0 (mm ≤ 9223372036854775807 ∧ 64 ≤ mm) ∧ Aside0 (WSt w w' P p nodes empty mm) ∧ Aside0 (Below w.heap.size w w'))
  case atStart => exact ⟨0, _, _, mm, by omega, rfl, by omega, by simp, ⟨⟨hmb.2, hmb.1⟩⟩, HS, B4⟩
  case round =>
    clear HS B4 hmb
    obtain ⟨i, nodes, empty, mm, hi, rfl, hi60, hnl, HM, HS, B4⟩ := hrel
    by_cases hlt : i < acts.length ∧ i < 60
    · obtain ⟨hlt, hlt2⟩ := hlt
      obtain ⟨gm, rfl⟩ : ∃ m, gk = m + 1 := ⟨gk - 1, by omega⟩
      obtain ⟨ad, cs, rfl, _, hK, hc0⟩ := Kd.C_get (Kd.C_below HA.out B4.out) zAc i (by omega) (by omega)
      have hc : ∀ j u, cs[j]? = some u → wr.cell? (ad.add ((i : Int).toNat * 7 + j)) = some u := hc0
      obtain ⟨x, hx⟩ : ∃ x, acts.getD (i : Int).toNat zAc = x := ⟨_, rfl⟩
      rw [hx] at hK
      have hxo : AcOk x := HOK.out x (by rw [← hx, Int.toNat_natCast, List.getD_eq_getElem?_getD, List.getElem?_eq_getElem hlt]; exact List.getElem_mem _)
      obtain rfl := kAc_open hK
      rw [Int.toNat_natCast] at hc
      have c0 := hc 0 _ rfl
      have c1 := hc 1 _ rfl
      have c2 := hc 2 _ rfl
      have c3 := hc 3 _ rfl
      have c4 := hc 4 _ rfl
      have c5 := hc 5 _ rfl
      have c6 := hc 6 _ rfl
      rw [Nat.add_zero] at c0
      rw [add_field _ _ 1 (by omega)] at c1
      rw [add_field _ _ 2 (by omega)] at c2
      rw [add_field _ _ 3 (by omega)] at c3
      rw [add_field _ _ 4 (by omega)] at c4
      rw [add_field _ _ 5 (by omega)] at c5
      rw [add_field _ _ 6 (by omega)] at c6
      have HDO := Aside0.mk (show Calls Tryd.prog 17 #[.pointer (some ⟨P, 0, none⟩), .agg #[.int .i64 x.kind, .int .u32 x.bits, .int .i64 x.k0, .int .i64 x.k1, .int .i64 x.k2, .int .i64 x.k3, .int .i64 x.n]] wr fun e w' => DoesPost w P p nodes.length e w' from does_walk w wr P p nodes empty mm x hxo HS.out HE.out HM.out (by omega))
      clear hc hc0 hK hx hxo
      go_wp2_with (fail)
      refine HDO.out.mono ?_
      rintro e w5 ⟨rfl, nodes', empty', mm', hm1, hm2, hS5, hl5⟩
      have HS5 := Aside0.mk hS5
      have HM5 := Aside0.mk (And.intro hm1 hm2)
      have B5 : Aside0 (Below w.heap.size w w5) := ⟨by obtain ⟨F', xv', av', D'⟩ := hS5.d; exact D'.below⟩
      clear hS5 hm1 hm2 HDO c0 c1 c2 c3 c4 c5 c6
      go_wp2_with (fail)
      go_roundg gm
      case measure => omega
      case rel => exact ⟨i + 1, nodes', empty', mm', by omega, by go_num, by omega, by omega, HM5, HS5, B5⟩
    · have hor : ¬ i < acts.length ∨ (i < acts.length ∧ ¬ i < 60) := by omega
      clear hlt
      obtain ⟨⟨F', xv', av', D'⟩, ok', ch'⟩ := HS.out
      have HSM := Aside0.mk (same_walk w wr F' P p nodes empty mm xv' av' D' ok' (by omega))
      clear D' ok' ch'
      rcases hor with h1 | ⟨h1, h2⟩
      all_goals
        go_wp2_with (fail)
        refine HSM.out.mono ?_
        rintro e w6 ⟨rfl, hb⟩
        go_wp2_with (fail)
        go_ret
        exact ⟨rfl, hb⟩
end Go.Proofs.YtbeijhjafmalgaaDoor.ar
namespace Go.Proofs.YtbeijhjafmalgaaDoor.lawArenaPlays
open Go.ChangeShapes Go.WideShapes Go.ChangeAt Go.RowKit Go.Joins

theorem params_read : ∀ t ∈ Tryd.f5.params.toList, Tryd.prog.readableRec t = true ∧ t < Tryd.prog.types.size := by
  have h : (Tryd.f5.params.toList.all fun t => Tryd.prog.readableRec t && decide (t < Tryd.prog.types.size)) = true := by kernel_rfl
  intro t ht
  have := List.all_eq_true.1 h t ht
  simpa using this
set_option maxRecDepth 100000 in
theorem contract (H : Type) (enc : TypeId × Value → H) (W : World) (base : Nat) (args : Array Value) (ds gs : List (DataW H)) (before : List MemPlace)
    (hval : ∀ (j : Nat) t v, Tryd.f5.params[j]? = some t → args[j]? = some v → Value.okWide Tryd.prog W .any base t v)
    (hW : DataW.Whole enc Tryd.prog Tryd.f5.params.toList Rows.arenaPlaysSpec.vars false W args.toList ds gs before) (hL : laidMetH Tryd.prog Rows.arenaPlaysRow.laid W) :
    Calls Tryd.prog 5 args W fun e W' => ∃ v, e = .returned v ∧ Rows.arenaPlaysSpec.post enc Tryd.prog Tryd.f5 false true false false W args v W' := by
  have hW' := hW
  obtain ⟨p, q, hA0, hV, rfl, hfz, hnd⟩ := hW
  have hA : DataW.TrodAll enc Tryd.prog W 0 (fun _ => true) true Tryd.f5.params.toList args.toList ds p := hA0
  rw [Tryd.params5] at hA hval
  obtain ⟨v0, vs0, d0, ds0, p0, q0, hargs, rfl, rfl, h0, r0⟩ := trodAll_cons hA
  obtain ⟨v1, vs1, d1, ds1, p1, q1, rfl, rfl, rfl, h1, r1⟩ := trodAll_cons r0
  obtain ⟨rfl, rfl, rfl⟩ := trodAll_nil r1
  obtain rfl : args = #[v0, v1] := by cases args; simp_all
  obtain ⟨rfl, rfl⟩ := trodVars_none hV
  obtain ⟨most, rfl, rfl, rfl, wmost⟩ := open_int Tryd.underlying3 (hval 0 3 v0 rfl rfl) h0
  obtain ⟨actsA, actsn, actsc, acts, rfl, actsl, actsC, actsg⟩ := bs.open_rowsG ar.kAc ar.AcOk Tryd.underlying43 (by kernel_rfl) (fun m cs y h => ar.act_open m cs y h) (hval 1 43 v1 rfl rfl) h1
  clear hA0
  have bmost := bs.bd_i64 wmost
  refine (ar.plays_walk most bmost.2 actsA actsn actsc acts W actsl actsC actsg (ec.errAt_of_laid hL)).mono fun e W' ⟨he, hg⟩ => ?_
  subst he
  exact ⟨_, rfl, bs.post_law (tb := 4) hW' hg (by kernel_rfl) params_read rfl rfl Tryd.underlying4 rfl (fun _ => okWide_bool_mk Tryd.underlying4 _)⟩

theorem laid_met (os : Os) : laidMetH Tryd.prog Rows.arenaPlaysRow.laid ((ec.laidWorld os).forCall (fun _ _ => 0) ⟨#[], #[Value.int .i64 0, .slice none 0 0], []⟩).memory :=
  laidMetH_of_parts (laidMet_nil _ _) (by kernel_rfl)
theorem reads (os : Os) {H : Type} (enc : TypeId × Value → H) : ∃ places, DataW.whole enc Tryd.prog ((ec.laidWorld os).forCall (fun _ _ => 0) ⟨#[], #[Value.int .i64 0, .slice none 0 0], []⟩).memory Tryd.f5.params.toList Rows.arenaPlaysSpec.vars false #[Value.int .i64 0, .slice none 0 0].toList 8 = some ([.lit (.int .i64 0), .nil], [], places) :=
  ⟨[], by kernel_rfl⟩
set_option maxRecDepth 100000 in
theorem lifted (os : Os) (started : os.Started) (H : Type) (enc : TypeId × Value → H) (F : Stop.Interp) :
    ReturnsInHanded {} Tryd.checked os 5 .any ((OpenSpec.ofChange Rows.arenaPlaysSpec).preRow enc Tryd.prog Tryd.f5 Rows.arenaPlaysRow.domain false Rows.arenaPlaysRow.laid) (((OpenSpec.ofChange Rows.arenaPlaysSpec).at F).post enc Tryd.prog Tryd.f5 false true false false) := by
  obtain ⟨places, hx⟩ := reads os enc
  refine returnsInHanded_of_row (C := Tryd.checked) (s := OpenSpec.ofChange Rows.arenaPlaysSpec) ec.own started (by kernel_rfl) Tryd.func5
    (witness_row_at (enc := enc) (C := Tryd.checked) false (ec.laidWorld os) #[Value.int .i64 0, .slice none 0 0] rfl (by kernel_rfl) (by kernel_rfl) (by kernel_rfl)
      (OpenSpec.preRow_of_cond 8 hx (by kernel_rfl) (fun k hk => by cases hk) (by kernel_rfl) (laid_met os))) ?_
  intro W base args ds gs before hval hW _ _ _ hL _ _
  exact contract H enc W base args ds gs before hval hW hL

theorem said : Rows.ArenaPlaysSaid :=
  OpenClaim.holds_of_cond 5 Tryd.f5 rfl rfl rfl rfl rfl rfl rfl ⟨rfl, rfl, rfl, rfl, rfl⟩ rfl rfl rfl rfl rfl (by kernel_rfl) Tryd.func5 (by kernel_rfl)
    (of_decide_eq_true (by kernel_rfl)) (by unfold Func.isWrapper; first | (rw [if_pos (by decide +kernel)]; kernel_rfl) | (rw [if_neg (by decide +kernel)]; exact ⟨rfl, rfl⟩))
    (fun os started H enc _ F => by rw [OpenClaim.pre_eq_preRow]; exact lifted os started H enc F)

theorem plain (f : FuncId) (fn : Func) (hf : Tryd.pinned.checked.prog.funcNamed "honeycomb/honeycomblaw12.ArenaPlays" = some f) (hfn : Tryd.pinned.checked.prog.funcs[f]? = some fn) :
    true = Tryd.pinned.checked.prog.looks [] ∧ ∀ (j : Nat) t, fn.params[j]? = some t → Tryd.pinned.checked.prog.wantsStandIn t = false := by
  obtain rfl : f = 5 := Option.some.inj ((show Tryd.prog.funcNamed "honeycomb/honeycomblaw12.ArenaPlays" = some 5 by kernel_rfl).symm.trans hf) |>.symm
  obtain rfl : fn = Tryd.f5 := (Option.some.inj (Tryd.func5.symm.trans hfn)).symm
  refine ⟨by kernel_rfl, fun j t ht => ?_⟩
  rw [Tryd.params5] at ht
  have hm := Array.mem_of_getElem? ht
  simp only [List.mem_toArray, List.mem_cons, List.not_mem_nil, or_false] at hm
  rcases hm with rfl | rfl
  · exact (show Tryd.prog.wantsStandIn 3 = false by kernel_rfl)
  · exact (show Tryd.prog.wantsStandIn 43 = false by kernel_rfl)

/-- the card -/
theorem card : Rows.ArenaPlaysCardSaid :=
  Claim7.holds_tied_plain_at .later [] _ _ _ _ said (fun _ h => by cases h) (by kernel_rfl) (fun _ h => by cases h) arenaPlays_row_tie rfl ⟨rfl, rfl⟩ (by kernel_rfl) rfl plain (by kernel_rfl)
end Go.Proofs.YtbeijhjafmalgaaDoor.lawArenaPlays
