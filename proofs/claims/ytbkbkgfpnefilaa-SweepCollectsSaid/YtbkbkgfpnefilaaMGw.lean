/- The law's arena and the reference's list beside each other, as variables of the call. -/
import Derived.Test.YtbkbkgfpnefilaaMCo
import Derived.Test.YtbkbkgfpnefilaaMRn
import Derived.Test.YtbkbkgfpnefilaaWQPut
import Derived.Test.YtbkbkgfpnefilaaArEmpty
import Derived.Test.YtbkbkgfpnefilaaArHold
namespace Go.Proofs.Ytbkbkgfpnefilaa.ar
open Go.RowKit Go.Proofs.YtbkbkgfpnefilaaW.PrintWords Go.Proofs.YtbkbkgfpnefilaaW.PrintLast Go.Proofs.YtbkbkgfpnefilaaW.PrintMore Go.Proofs.Ytbkbkgfpnefilaa.bs Go.ChangeShapes Go.Proofs.Ytbkbkgfpnefilaa.lb Go.Maps

theorem infoI : (Try.prog.info? 3).map (fun i => (i.zero, i.size, i.bytes)) = some (some (.int .i64 0), 1, 8) := by kernel_rfl
/-- what was seen, as a row of numbers -/
def seenL (n : Nat) (S : List Nat) : List Int := (List.range n).map fun i => if i ∈ S then 1 else 0
theorem seenL_len (n : Nat) (S : List Nat) : (seenL n S).length = n := by simp [seenL]
theorem seenL_get (n : Nat) (S : List Nat) (i : Nat) (h : i < n) : rdOf 0 (seenL n S) (i : Int) = if i ∈ S then 1 else 0 := by simp [rdOf, seenL, h]
theorem seenL_nil (n : Nat) : List.replicate n (0 : Int) = seenL n [] := by
  apply List.ext_getElem
  · simp [seenL]
  · intro i h1 h2
    simp [seenL]
theorem seenL_set (n : Nat) (S : List Nat) (i : Nat) : (seenL n S).set i 1 = seenL n (i :: S) := by
  apply List.ext_getElem
  · simp [seenL]
  · intro j h1 h2
    rw [List.getElem_set]
    simp only [seenL, List.getElem_map, List.getElem_range, List.mem_cons]
    by_cases e : i = j
    · subst e; simp
    · have : ¬ j = i := fun h => e h.symm
      simp [e, this]
theorem reached_rep {nodes : List Nd} {rs : List Nat} (hw : WF nodes) (hr : ∀ r ∈ rs, r < nodes.length) {x : Nat} (h : Reached nodes rs x) : ∃ q, Rep nodes q x := by
  obtain ⟨r, hm, hu⟩ := h
  obtain ⟨q, hq⟩ := hw r (hr r hm)
  obtain ⟨q', h1, _⟩ := under_lv hu hq
  exact ⟨q', h1⟩
/-- a cell of a row of numbers that is read -/
theorem at_I {w : World} {A : Option Addr} {rs : List Nat} (h : Kd.C (Kd.int .i64) w A (uRow rs).length (uRow rs)) (j r : Nat) (hr : rs[j]? = some r) : ∃ ad, A = some ad ∧ w.cell? (ad.add j) = some (.int .i64 r) := by
  have hlt := (List.getElem?_eq_some_iff.1 hr).1
  obtain ⟨ad, c, e, _, hK, hc⟩ := Kd.C_get h 0 (j : Int) (by omega) (by rw [uRow_len]; omega)
  have hx : (uRow rs).getD (j : Int).toNat 0 = (r : Int) := by
    rw [Int.toNat_natCast, List.getD_eq_getElem?_getD]
    simp [uRow, hr]
  rw [hx] at hK
  have e2 : c = [.int .i64 (r : Int)] := hK
  subst e2
  have h0 := hc 0 _ rfl
  rw [Int.toNat_natCast] at h0
  exact ⟨ad, e, by simpa [show (Kd.int IntKind.i64).sz = 1 from rfl] using h0⟩
theorem index4in (w : World) (a b c d : Nat) : ∀ j : Nat, j < 4 → (Instr.index 82 (.agg #[.int .i64 a, .int .i64 b, .int .i64 c, .int .i64 d]) (.int .i64 j)).run Try.prog w = .ok (.int .i64 (([a, b, c, d].getD j 0 : Nat) : Int)) w
  | 0, _ => by kernel_rfl
  | 1, _ => by kernel_rfl
  | 2, _ => by kernel_rfl
  | 3, _ => by kernel_rfl
  | n + 4, h => by omega
theorem take4 (L : List Nat) (h : L.length = 4) (j : Nat) (hj : j < 4) : L.take (j + 1) = L.take j ++ [L.getD j 0] := by
  have hlt : j < L.length := by omega
  rw [List.take_succ_eq_append_getElem hlt, List.getD_eq_getElem?_getD, List.getElem?_eq_getElem hlt]; rfl
/-- blocks of the call's own, but two -/
def OkT (w : World) (sb g k : Nat) : Prop := w.heap.size ≤ k ∧ k ≠ sb ∧ k ≠ g
def RefPost (nodes : List Nd) (ps : List Nat) (w : World) (e : Ending) (w' : World) : Prop :=
  Below w.heap.size w w' ∧ ∃ S, ReachL nodes ps S ∧ e = .returned (.tuple #[.int .i64 (S.length : Nat), .bool (decide (0 ∈ S))])
set_option maxRecDepth 100000 in
set_option maxHeartbeats 2000000 in
theorem rreach_walk (nodes : List Nd) (most : Int) (A1 A2 : Option Addr) (c1 c2 : Nat) (ps : List Nat) (w : World) (hx : Kd.C kRn w A1 nodes.length nodes) (hp : Kd.C (Kd.int .i64) w A2 ps.length (uRow ps)) (hw : WF nodes) (hps : ∀ p ∈ ps, p < nodes.length) (hN : nodes.length < 100000) (h0 : 0 < nodes.length) (hpl : ps.length ≤ 1000) :
    Calls Try.prog 43 #[.agg #[.slice A1 nodes.length c1, .int .i64 most], .slice A2 ps.length c2] w fun e w' => RefPost nodes ps w e w' := by
  have HX := Aside0.mk hx
  have HP := Aside0.mk hp
  have HW := Aside0.mk hw
  have HPS := Aside0.mk hps
  have HB := Aside0.mk (below_alloc (Below.refl w.heap.size w) (.cells #[.slice A1 nodes.length c1, .int .i64 most] 79))
  have KG := Aside0.mk (blk_new w (.cells #[.slice A1 nodes.length c1, .int .i64 most] 79))
  clear hx hp hw hps
  go_enter Try.func43, Try.ntmps43
  go_upto_region 1 with (fail)
  obtain ⟨g, hg⟩ : ∃ g, w.heap.size = g := ⟨_, rfl⟩
  have HGW := Aside0.mk hg
  simp only [hg] at KG ⊢
  generalize w.alloc (.cells #[.slice A1 nodes.length c1, .int .i64 most] 79) = w1 at *
  clear hg
  have g0 := blk_cell KG.out 0
  simp only [List.getElem?_toArray, List.getElem?_cons_zero, List.getElem?_cons_succ] at g0
  go_upto_region 2 with (first | ((with_reducible refine gate_dst (N := 15) rfl ?_); refine Kd.R_make (Kd.int .i64) (w0 := w1) 0 3 rfl rfl 76 (.tmp 14) (.tmp 14) rfl (nodes.length : Int) rfl rfl Try.underlying76 (.int .i64 0) 8 infoI rfl (by decide) (by decide) 0 (ok := fun k => k = w1.heap.size) (okp := fun _ => False) rfl (fun _ hk => hk.elim) rfl (by omega) (by omega) (Below.refl _ _) (Nat.zero_le _) ?_; intro v1 w2 ho1 hb1 hg1 hat1; rw [Int.toNat_natCast, seenL_nil] at ho1; have HO1 := Aside0.mk ho1; have HG1 := Aside0.mk hg1; clear ho1 hg1 hb1 hat1))
  obtain ⟨sb, cb, rfl, _, hsb, _⟩ := Kd.R_form HO1.out (by rw [seenL_len]; exact h0)
  rw [seenL_len] at HO1
  simp only [seenL_len]
  have hsbw : sb = w1.heap.size := HO1.out.1 sb rfl
  have HW1 := Aside0.mk HB.out.size
  have HB2 := Aside0.mk (HB.out.trans ⟨HG1.out.os, HG1.out.tape, HG1.out.output, HG1.out.size, fun k hk => HG1.out.block k (by have := HB.out.size; omega) (by simp)⟩)
  have KG2 := Aside0.mk ((HG1.out.block g (blk_lt KG.out) (by simp)).trans KG.out)
  have hgs : Aside0 (g ≠ sb) := ⟨by have := blk_lt KG.out; omega⟩
  have hsW : Aside0 (w.heap.size ≤ sb) := ⟨by have := HW1.out; omega⟩
  have hsL : Aside0 (sb < w2.heap.size) := ⟨hsb⟩
  have HO2 := Aside0.mk (Kd.R_mono (ok' := fun k => k = sb) HO1.out (fun k hk => by rw [hk, hsbw]))
  clear HB KG HO1 HG1 g0 hsbw hsb HW1
  have HT := Aside0.mk (R_fresh0 (Kd.int .i64) w2 3 w2.heap.size (Nat.le_refl _))
  have HP2 := Aside0.mk (Kd.C_below HP.out (below_alloc (HB2.out) (.cells #[] 3)))
  go_upto_region 3 with (first | ((with_reducible refine gate_builtin (b := .append) (xs := #[.tmp 16, .tmp 17]) rfl ?_); at_builtin; refine Kd.R_append_row (Value.int .i64) 0 (w0 := w2) w2.heap.size rfl (.tmp 16) (.tmp 17) 76 3 (.int .i64 0) 8 rfl Try.underlying76 infoI rfl (by decide) (.slice (some ⟨w2.heap.size, 0, none⟩) 0 0) [] (uRow ps) A2 ps.length c2 (fun _ => True) rfl rfl (fun _ _ => trivial) HT.out HP2.out (below_alloc (Below.refl _ _) _) (by simp) (by simp; omega) ?_; intro v1 w3 ho3 hb3 hg3 hat3; have HO3 := Aside0.mk ho3; have HB3 := Aside0.mk hb3; clear ho3 hg3 hb3 hat3))
  have hsb2 := hsL.out
  have hgb : Aside0 (g < w2.heap.size) := ⟨blk_lt KG2.out⟩
  have HO4 := Aside0.mk (Kd.R_step HO2.out (fun k hk hlt => HB3.out.block k (by rw [hk]; exact hsb2)))
  have HB4 := Aside0.mk (chain HB2.out HB3.out HB2.out.size)
  have KG4 := Aside0.mk ((HB3.out.block g hgb.out).trans KG2.out)
  have HQ4 := Aside0.mk (Kd.Q_of_R (Kd.R_mono (ok' := OkT w sb g) (Kd.R_lower (Kd.R_bound HO3.out) (Nat.zero_le _)) (fun k hk => ⟨by have := hk.2.1; have := HB2.out.size; omega, by have := hk.2.1; omega, by have := hk.2.1; have := hgb.out; omega⟩)))
  have HBW := Aside0.mk HB2.out.size
  clear HO2 HB2 HB3 KG2 HT HP HP2 hsb2
  generalize w2.heap.size = b at *
  obtain ⟨A3, c3, rfl, _⟩ := Kd.Q_slice HQ4.out
  rw [List.nil_append, uRow_len] at HQ4
  simp only [List.nil_append, uRow_len]
  clear HO3
  go_wp2_with (fail)
  go_loopg [7, 8] (5 * nodes.length + ps.length) (fun kq c7 c8 w' => ∃ (S T : List Nat) (A : Option Addr) (cap : Nat), 5 * S.length + kq = 5 * nodes.length + T.length ∧ T.length ≤ 1000 + 4 * S.length ∧ c7 = .slice A T.length cap ∧ c8 = .int .i64 (S.length : Nat) ∧ Aside0 (QInv nodes ps S T) ∧ Aside0 (Kd.R (Kd.int .i64) 3 w' 0 (fun k => k = sb) (.slice (some ⟨sb, 0, none⟩) nodes.length cb) (seenL nodes.length S)) ∧ Aside0 (Kd.Q (Kd.int .i64) 3 w' 0 (OkT w sb g) (.slice A T.length cap) (uRow T)) ∧ Aside0 (w'.heap[g]? = some (.cells #[.slice A1 nodes.length c1, .int .i64 most] 79 (0, 0))) ∧ Aside0 (Below w.heap.size w w'))
  case atStart => exact ⟨[], ps, A3, c3, by simp, by simp; omega, rfl, rfl, ⟨qinv_start _ _⟩, HO4, HQ4, KG4, HB4⟩
  case round =>
    clear HO4 HQ4 KG4 HB4
    obtain ⟨S, T, A, cap, hm1, hm2, rfl, rfl, HI, HO, HQ, KG, HB⟩ := hrel
    cases T with
    | nil =>
      have HALL := Aside0.mk HI.out.all
      have hcell := Kd.R_celln (enc := Value.int .i64) (h1 := fun _ => rfl) 0 HO.out (0 : Int) (by omega) (by omega)
      have hz := seenL_get nodes.length S 0 h0
      rw [Int.toNat_zero, show rdOf 0 (seenL nodes.length S) (0 : Int) = if 0 ∈ S then 1 else 0 from hz] at hcell
      obtain ⟨hc1, hc2⟩ := hcell
      have hn0 : (0 : Int) < (nodes.length : Int) := by omega
      clear hz HI HQ KG
      by_cases hz : 0 ∈ S
      · rw [if_pos hz] at hc1
        have HZ : Aside0 (decide (0 ∈ S) = true) := ⟨by simpa using hz⟩
        clear hz
        go_wp2_with (fail)
        go_quiet (fail)
        go_wp2_with (fail)
        go_ret2
        exact ⟨chain HB.out (pw_below_drewN (Below.refl _ _) _) HB.out.size, S, HALL.out, by rw [HZ.out]; rfl⟩
      · rw [if_neg hz] at hc1
        have HZ : Aside0 (decide (0 ∈ S) = false) := ⟨by simpa using hz⟩
        clear hz
        go_wp2_with (fail)
        go_quiet (fail)
        go_wp2_with (fail)
        go_ret2
        exact ⟨chain HB.out (pw_below_drewN (Below.refl _ _) _) HB.out.size, S, HALL.out, by rw [HZ.out]; rfl⟩
    | cons i T =>
      obtain ⟨hcap, hC⟩ := (Kd.Q_reads' HQ.out).2
      obtain ⟨ad, rfl, hc⟩ := at_I hC 0 i rfl
      rw [show ad.add 0 = ad by cases ad; rfl] at hc
      have hcap2 : 1 ≤ cap := by simp at hcap; omega
      have hq2 := Kd.Q_drop HQ.out (k := 1) (by simp [uRow])
      rw [show (if cap = 1 then some ad else Option.map (fun x => x.add (1 * (Kd.int IntKind.i64).sz)) (some ad)) = (if cap = 1 then some ad else some ⟨ad.block, ad.off + 1, none⟩) by split <;> rfl, show (i :: T).length - 1 = T.length from rfl, show List.drop 1 (uRow (i :: T)) = uRow T from rfl] at hq2
      have HQ2 := Aside0.mk hq2
      clear hC hcap hq2
      go_upto_region 7 with (fail)
      clear hc
      generalize (if cap = 1 then some ad else some (⟨ad.block, ad.off + 1, none⟩ : Addr)) = A4 at *
      generalize cap - 1 = cap4 at *
      clear HQ hcap2
      obtain ⟨q, hq⟩ := reached_rep HW.out HPS.out (HI.out.todo i (by simp))
      have hil := hq.lt
      have hcell := Kd.R_celln (enc := Value.int .i64) (h1 := fun _ => rfl) 0 HO.out (i : Int) (by omega) (by omega)
      rw [Int.toNat_natCast, seenL_get _ _ _ hil] at hcell
      obtain ⟨hc1, hc2⟩ := hcell
      have hii : (i : Int) < (nodes.length : Int) := by omega
      simp only [List.length_cons] at hm1 hm2
      have hSle : S.length ≤ nodes.length := nodup_le nodes.length S HI.out.nodup (fun x hx => by
        obtain ⟨q', hq'⟩ := reached_rep HW.out HPS.out (HI.out.seen x hx)
        exact hq'.lt)
      by_cases hin : i ∈ S
      · rw [if_pos hin] at hc1
        have HI2 := Aside0.mk (HI.out.skip hin)
        obtain ⟨gm, rfl⟩ : ∃ m, gk = m + 1 := ⟨gk - 1, by omega⟩
        clear hin hq HI
        go_wp2_with (fail)
        go_roundg gm
        case measure => omega
        case rel => exact ⟨S, T, A4, cap4, by omega, by omega, rfl, rfl, HI2, HO, HQ2, KG, HB⟩
      · rw [if_neg hin] at hc1
        have hSl : S.length < nodes.length := by
          have := nodup_le nodes.length (i :: S) (List.nodup_cons.2 ⟨hin, HI.out.nodup⟩) (fun x hx => by
            rcases List.mem_cons.1 hx with rfl | hx
            · exact hil
            · obtain ⟨q', hq'⟩ := reached_rep HW.out HPS.out (HI.out.seen x hx)
              exact hq'.lt)
          simp only [List.length_cons] at this
          omega
        have HI2 := Aside0.mk (HI.out.see hin)
        have hput := Kd.R_putn (enc := Value.int .i64) (h1 := fun _ => rfl) HO.out (i : Int) 1
        rw [Int.toNat_natCast, seenL_set] at hput
        have HO5 := Aside0.mk hput
        have HQ5 := Aside0.mk (Kd.Q_far HQ2.out (p := ⟨sb, i, none⟩) (fun k hk => hk.2.1) (.int .i64 1))
        have KG5 := Aside0.mk (blk_far (p := ⟨sb, i, none⟩) KG.out hgs.out (.int .i64 1))
        have HB5 := Aside0.mk (HB.out.setCell (p := ⟨sb, i, none⟩) hsW.out (.int .i64 1))
        clear hput HI HO HQ2 KG HB hin
        go_upto_region 9 with (fail)
        generalize wr.setCell ⟨sb, i, none⟩ (.int .i64 1) = w5 at *
        clear hc1 hc2
        have g0 := blk_cell KG5.out 0
        simp only [List.getElem?_toArray, List.getElem?_cons_zero, List.getElem?_cons_succ] at g0
        obtain ⟨ax, rfl, x0, x1, x2, x3, x4, x5, x6⟩ := at_Rn (Kd.C_below HX.out HB5.out) (i : Int) (by omega) hii
        rw [Int.toNat_natCast] at x0 x1 x2 x3 x4 x5 x6
        clear x1 x6
        obtain ⟨x, hx, hxl, _⟩ := hq.get
        have hxg : nodes.getD i zNd = x := by rw [List.getD_eq_getElem?_getD, hx]; rfl
        rw [hxg] at x0 x2 x3 x4 x5
        rw [hxl] at x0
        have hq2 := q.lv_ge
        clear hxg hxl
        cases q with
        | leaf f =>
          have hkl : kidsL nodes i = [] := kids_leaf hq
          rw [hkl, List.append_nil] at HI2
          rw [show (Q.leaf f).lv = 2 from rfl] at x0
          obtain ⟨gm, rfl⟩ : ∃ m, gk = m + 6 := ⟨gk - 6, by omega⟩
          clear hkl hq hx hq2 x2 x3 x4 x5
          go_wp2_with (fail)
          go_roundg gm
          case measure => omega
          case rel => exact ⟨i :: S, T, A4, cap4, by simp only [List.length_cons]; omega, by simp only [List.length_cons]; omega, rfl, by simp only [List.length_cons]; go_num, HI2, HO5, HQ5, KG5, HB5⟩
        | node qa qb qc qd =>
          obtain ⟨k0, k1, k2, k3, hx', hkl, _⟩ := kids_node hq
          obtain rfl : x = _ := Option.some.inj (hx.symm.trans hx')
          dsimp only at x2 x3 x4 x5
          have hal : 2 < (Q.node qa qb qc qd).lv := by have := qa.lv_ge; show 2 < qa.lv + 1; omega
          rw [hkl] at HI2
          have hidx := fun (w : World) (j : Nat) (h : j < 4) => index4in w k0 k1 k2 k3 j h
          generalize (Q.node qa qb qc qd).lv = lq at *
          clear hx hx' hkl hq hq2
          obtain ⟨gm0, rfl⟩ : ∃ m, gk = m + 2 := ⟨gk - 2, by omega⟩
          go_upto_region 12 with (fail)
          clear x0 x2 x3 x4 x5 g0
          obtain ⟨L, hL⟩ : ∃ L, [k0, k1, k2, k3] = L := ⟨_, rfl⟩
          have HLl : Aside0 (L.length = 4) := ⟨by rw [← hL]; rfl⟩
          rw [hL] at HI2
          simp only [hL] at hidx
          clear hL
          have HQ6 : Aside0 (Kd.Q (Kd.int .i64) 3 w5 0 (OkT w sb g) (.slice A4 T.length cap4) (uRow (T ++ L.take 0))) := ⟨by rw [List.take_zero, List.append_nil]; exact HQ5.out⟩
          clear HQ5
          go_loopg [7, 53] 4 (fun kq c7 c53 w' => ∃ (j : Nat) (A : Option Addr) (cap : Nat), j + kq = 4 ∧ c53 = .int .i64 j ∧ c7 = .slice A (T.length + j) cap ∧ Aside0 (Kd.R (Kd.int .i64) 3 w' 0 (fun k => k = sb) (.slice (some ⟨sb, 0, none⟩) nodes.length cb) (seenL nodes.length (i :: S))) ∧ Aside0 (Kd.Q (Kd.int .i64) 3 w' 0 (OkT w sb g) (.slice A (T.length + j) cap) (uRow (T ++ L.take j))) ∧ Aside0 (w'.heap[g]? = some (.cells #[.slice (some ax) nodes.length c1, .int .i64 most] 79 (0, 0))) ∧ Aside0 (Below w.heap.size w w'))
          case atStart => exact ⟨0, A4, cap4, by omega, rfl, rfl, HO5, HQ6, KG5, HB5⟩
          case round =>
            clear HO5 HQ6 KG5 HB5
            obtain ⟨j, A5, cap5, hj, rfl, rfl, HO6, HQ6, KG6, HB6⟩ := hrel
            by_cases h4 : j < 4
            · obtain ⟨gm, rfl⟩ : ∃ m, gk = m + 1 := ⟨gk - 1, by omega⟩
              have hi := fun w => hidx w j h4
              have HTK := Aside0.mk (take4 L HLl.out j h4)
              have HLJ : Aside0 (j ≤ L.length) := ⟨by rw [HLl.out]; omega⟩
              generalize L.getD j 0 = kv at *
              have HFR : Aside0 (∀ k, wr.heap.size ≤ k → OkT w sb g k) := ⟨fun k hk => ⟨Nat.le_trans HB6.out.size hk, by have := Kd.R_lt HO6.out sb rfl; omega, by have := blk_lt KG6.out; omega⟩⟩
              clear hidx
              go_wp2_with (first | ((with_reducible refine gate_builtin (b := .append) (xs := #[.tmp 56, .tmp 58]) rfl ?_); at_builtin; refine Kd.Q_append (Kd.int .i64) (w0 := wr) 0 rfl (.tmp 56) (.tmp 58) 76 3 (.int .i64 0) 8 rfl Try.underlying76 infoI rfl (by decide) (by decide) (.slice A5 (T.length + j) cap5) (uRow (T ++ L.take j)) (kv : Int) [.int .i64 (kv : Int)] (OkT w sb g) (fun _ => False) rfl rfl rfl (fun _ hk => hk.elim) HFR.out HQ6.out (Below.refl _ _) (Nat.zero_le _) (by rw [uRow_len, List.length_append, List.length_take]; omega) ?_; intro v1 w7 ho7 hb7 hg7 hat7; have HO7 := Aside0.mk ho7; have HG7 := Aside0.mk hg7; have HBL7 := Aside0.mk hb7; clear ho7 hb7 hg7 hat7))
              obtain ⟨A7, cap7, rfl, _⟩ := Kd.Q_slice HO7.out
              have hrow := HQ6.out.1
              have HO8 := Aside0.mk (Kd.R_step HO6.out (fun k hk hlt => HG7.out.block k hlt (fun e => (hrow k e.symm).2.1 hk)))
              have KG8 := Aside0.mk ((HG7.out.block g (blk_lt KG6.out) (fun e => (hrow g e.symm).2.2 rfl)).trans KG6.out)
              have HB8 := Aside0.mk (HB6.out.trans ⟨HG7.out.os, HG7.out.tape, HG7.out.output, HG7.out.size, fun k hk => HG7.out.block k (Nat.lt_of_lt_of_le hk HB6.out.size) (fun e => by have := (hrow k e.symm).1; omega)⟩)
              have ho7 := HO7.out
              have hln : (uRow (T ++ L.take j) ++ [(kv : Int)]).length = T.length + (j + 1) := by
                rw [List.length_append, uRow_len, List.length_append, List.length_take]; have := HLJ.out; simp; omega
              rw [hln, uRow_snoc, List.append_assoc, ← HTK.out] at ho7
              have HQ8 := Aside0.mk ho7
              simp only [hln]
              clear hln ho7 HO7 HG7 HO6 HQ6 KG6 HB6 hi
              go_roundg gm
              case measure => omega
              case rel => exact ⟨j + 1, A7, cap7, by omega, by go_num, rfl, HO8, HQ8, KG8, HB8⟩
            · obtain rfl : j = 4 := by omega
              have hq6 := HQ6.out
              have hll := HLl.out
              rw [List.take_of_length_le (by omega), show T.length + 4 = (T ++ L).length by rw [List.length_append, hll]] at hq6
              have HQ8 := Aside0.mk hq6
              have hln : T.length + 4 = (T ++ L).length := by rw [List.length_append, hll]
              clear hq6 HQ6
              go_wp2_with (fail)
              go_roundg gm0
              case measure => omega
              case rel => exact ⟨i :: S, T ++ L, A5, cap5, by rw [← hln]; simp only [List.length_cons]; omega, by rw [← hln]; simp only [List.length_cons]; omega, by rw [hln], by simp only [List.length_cons]; go_num, HI2, HO6, HQ8, KG6, HB6⟩
end Go.Proofs.Ytbkbkgfpnefilaa.ar
namespace Go.Proofs.Ytbkbkgfpnefilaa.ar
open Go.RowKit Go.Proofs.YtbkbkgfpnefilaaW.PrintWords Go.Proofs.YtbkbkgfpnefilaaW.PrintLast Go.Proofs.YtbkbkgfpnefilaaW.PrintMore Go.Proofs.Ytbkbkgfpnefilaa.bs Go.ChangeShapes Go.Proofs.Ytbkbkgfpnefilaa.lb
theorem raddR_bd (xs : List Nd) (most : Int) (nd : Nd) : (raddR xs most nd).1.length ≤ xs.length + 1 ∧ xs.length ≤ (raddR xs most nd).1.length ∧ 0 ≤ (raddR xs most nd).2.1 ∧ (raddR xs most nd).2.1 ≤ xs.length ∧ (∀ (i : Nat) (x : Nd), (raddR xs most nd).1[i]? = some x → x = nd ∨ xs[i]? = some x) := by
  unfold raddR
  split
  · rename_i i h
    obtain ⟨x, hx, _⟩ := idx_some h
    have := (List.getElem?_eq_some_iff.1 hx).1
    exact ⟨by simp, by simp, by simp, by simp; omega, fun i x h => .inr h⟩
  · split
    · exact ⟨by simp, by simp, by simp, by simp, fun i x h => .inr h⟩
    · refine ⟨by simp, by simp, by simp, by simp, fun i x h => ?_⟩
      dsimp only at h
      rw [List.getElem?_append] at h
      split at h
      · exact .inr h
      · rw [List.getElem?_singleton] at h
        split at h
        · exact .inl (Option.some.inj h).symm
        · cases h
theorem sumTo_bd {xs : List Nd} (hok : RnOk xs) (k0 k1 k2 k3 : Int) : ∀ j, 0 ≤ sumTo xs k0 k1 k2 k3 j ∧ sumTo xs k0 k1 k2 k3 j ≤ 4611686018427387904
  | 0 => ⟨by simp [sumTo], by simp [sumTo]⟩
  | j + 1 => by
    have h := sumTo_bd hok k0 k1 k2 k3 j
    have hc : 0 ≤ cntAt xs (kidOf k0 k1 k2 k3 j) := by
      unfold cntAt
      split
      · rename_i x hx; exact (hok _ x hx).2.2.1
      · exact Int.le_refl _
    simp only [sumTo, cap62]
    omega
theorem lvAt_bd {xs : List Nd} (hok : RnOk xs) (k : Int) : -1 ≤ lvAt xs k := by
  unfold lvAt
  split
  · rename_i x hx; have := (hok _ x hx).1; omega
  · exact Int.le_refl _
theorem rjoinR_bd {xs : List Nd} (hok : RnOk xs) (most k0 k1 k2 k3 : Int) : (rjoinR xs most k0 k1 k2 k3).1.length ≤ xs.length + 1 ∧ xs.length ≤ (rjoinR xs most k0 k1 k2 k3).1.length ∧ 0 ≤ (rjoinR xs most k0 k1 k2 k3).2.1 ∧ (rjoinR xs most k0 k1 k2 k3).2.1 ≤ xs.length ∧ RnOk (rjoinR xs most k0 k1 k2 k3).1 := by
  unfold rjoinR
  split
  · rename_i hf
    split
    · exact ⟨by simp, by simp, by simp, by simp, hok⟩
    · rename_i hl
      have hb := raddR_bd xs most ⟨⟨lvAt xs k0 + 1, 0, k0, k1, k2, k3⟩, sumTo xs k0 k1 k2 k3 4⟩
      refine ⟨hb.1, hb.2.1, hb.2.2.1, hb.2.2.2.1, fun i x hx => ?_⟩
      rcases hb.2.2.2.2 i x hx with rfl | h
      · have h1 := sumTo_bd hok k0 k1 k2 k3 4
        have h2 := lvAt_bd hok k0
        exact ⟨by show 0 ≤ lvAt xs k0 + 1; omega, by show lvAt xs k0 + 1 ≤ 100; omega, h1.1, h1.2, (fits_kid hok hf _).mono hb.2.1⟩
      · have h3 := hok i x h
        exact ⟨h3.1, h3.2.1, h3.2.2.1, h3.2.2.2.1, h3.2.2.2.2.mono hb.2.1⟩
  · exact ⟨by simp, by simp, by simp, by simp, hok⟩
structure Step (nodes : List Nd) (r : List Nd × Int × Int) : Prop where
  ext : ∃ l, r.1 = nodes ++ l ∧ l.length ≤ 1
  ok : RnOk nodes → RnOk r.1
  good : r.2.2 = 0 → (r.1.length = nodes.length ∧ r.2.1 < nodes.length ∨ r.1.length = nodes.length + 1 ∧ r.2.1 = nodes.length)
  bad : r.2.2 ≠ 0 → r.1 = nodes ∧ r.2.1 = 0
  pos : 0 ≤ r.2.1
theorem step_same {nodes : List Nd} {i c : Int} (h0 : 0 ≤ i) (h : c = 0 → i < nodes.length) (hb : c ≠ 0 → i = 0) : Step nodes (nodes, i, c) :=
  ⟨⟨[], by simp⟩, id, fun hc => .inl ⟨rfl, h hc⟩, fun hc => ⟨rfl, hb hc⟩, h0⟩
theorem addN_radd (nodes : List Nd) (most : Int) (k : Key) (c : Int) : addN nodes most k c = raddR nodes most ⟨k, min c 4611686018427387904⟩ := rfl
theorem raddR_step (nodes : List Nd) (most : Int) (nd : Nd) (hn : RnOk nodes → 0 ≤ nd.key.level ∧ nd.key.level ≤ 100 ∧ 0 ≤ nd.count ∧ nd.count ≤ 4611686018427387904 ∧ KidOk nodes.length nd) : Step nodes (raddR nodes most nd) := by
  unfold raddR
  split
  · rename_i i h
    obtain ⟨x, hx, _⟩ := idx_some h
    have := (List.getElem?_eq_some_iff.1 hx).1
    exact step_same (by omega) (fun _ => by omega) (fun h => absurd rfl h)
  · split
    · exact step_same (by omega) (fun h => by omega) (fun _ => rfl)
    · refine ⟨⟨[nd], rfl, by simp⟩, fun hok i x hx => ?_, fun _ => .inr ⟨by simp, rfl⟩, fun h => absurd rfl h, by simp⟩
      dsimp only at hx
      rw [List.getElem?_append] at hx
      split at hx
      · have h3 := hok i x hx
        exact ⟨h3.1, h3.2.1, h3.2.2.1, h3.2.2.2.1, h3.2.2.2.2.mono (by simp)⟩
      · rw [List.getElem?_singleton] at hx
        split at hx
        · obtain rfl := Option.some.inj hx
          have h3 := hn hok
          exact ⟨h3.1, h3.2.1, h3.2.2.1, h3.2.2.2.1, h3.2.2.2.2.mono (by simp)⟩
        · cases hx
theorem leaf_same (nodes : List Nd) (most : Int) (f : Nat) : addN nodes most (leafKey f) (popN 32 f) = raddR nodes most ⟨leafKey f, (popN 32 f : Nat)⟩ := by
  rw [addN_radd]
  have h := popN_le 32 f
  rw [show min ((popN 32 f : Nat) : Int) 4611686018427387904 = ((popN 32 f : Nat) : Int) by omega]
theorem leaf_step (nodes : List Nd) (most : Int) (f : Nat) : Step nodes (raddR nodes most ⟨leafKey f, (popN 32 f : Nat)⟩) := by
  have h := popN_le 32 f
  exact raddR_step _ _ _ (fun _ => ⟨by show (0 : Int) ≤ 2; decide, by show (2 : Int) ≤ 100; decide, by show (0 : Int) ≤ (popN 32 f : Nat); omega, by show ((popN 32 f : Nat) : Int) ≤ _; omega, by show (2 : Int) ≤ 2; decide, fun _ => ⟨rfl, rfl, rfl, rfl⟩, fun h => absurd (show (2 : Int) < 2 from h) (by decide)⟩)
theorem rjoinR_step {nodes : List Nd} (hok : RnOk nodes) (most k0 k1 k2 k3 : Int) : Step nodes (rjoinR nodes most k0 k1 k2 k3) := by
  unfold rjoinR
  split
  · rename_i hf
    split
    · exact step_same (by omega) (fun h => by omega) (fun _ => rfl)
    · rename_i hl
      have h1 := sumTo_bd hok k0 k1 k2 k3 4
      have h2 := lvAt_bd hok k0
      exact raddR_step _ _ _ (fun _ => ⟨by show 0 ≤ lvAt nodes k0 + 1; omega, by show lvAt nodes k0 + 1 ≤ 100; omega, h1.1, h1.2, fits_kid hok hf _⟩)
  · exact step_same (by omega) (fun h => by omega) (fun _ => rfl)
/-- the number of a place; that of no node, if it is none -/
def ownOf (nodes : List Nd) (k : Int) : Int := if 0 ≤ k ∧ k < nodes.length then k else 2147483648
theorem ownOf_bd (nodes : List Nd) (k : Int) (hN : nodes.length < 2147483648) : 0 ≤ ownOf nodes k ∧ ownOf nodes k < 4294967296 := by
  unfold ownOf; split <;> omega
theorem lv_ok {nodes : List Nd} (hok : RnOk nodes) {k : Int} (h0 : 0 ≤ k) (h1 : k < nodes.length) : lvAt nodes k ≠ -1 := by
  have hlt : k.toNat < nodes.length := by omega
  rw [lvAt_some (List.getElem?_eq_getElem hlt)]
  have := (hok _ _ (List.getElem?_eq_getElem hlt)).1
  omega
theorem join_same {nodes : List Nd} (hok : RnOk nodes) (hN : nodes.length < 2147483648) (most k0 k1 k2 k3 : Int) :
    joinN nodes most (ownOf nodes k0) (ownOf nodes k1) (ownOf nodes k2) (ownOf nodes k3) = rjoinR nodes most k0 k1 k2 k3 := by
  have hin : ∀ k : Int, (0 ≤ k ∧ k < nodes.length) → ownOf nodes k = k := fun k h => if_pos h
  have hout : ∀ k : Int, ¬ (0 ≤ k ∧ k < nodes.length) → lvAt nodes (ownOf nodes k) = -1 := fun k h => by
    unfold ownOf; rw [if_neg h]; exact lvAt_none (by omega)
  by_cases hf : fitsR nodes k0 k1 k2 k3
  · obtain ⟨f0, f1, f2, f3⟩ := hf
    rw [hin k0 ⟨f0.1, f0.2.1⟩, hin k1 ⟨f1.1, f1.2.1⟩, hin k2 ⟨f2.1, f2.2.1⟩, hin k3 ⟨f3.1, f3.2.1⟩]
    unfold joinN rjoinR
    rw [if_pos (show fitsB nodes k0 k1 k2 k3 from ⟨lv_ok hok f0.1 f0.2.1, f1.2.2.2.2, f2.2.2.2.2, f3.2.2.2.2⟩), if_pos (show fitsR nodes k0 k1 k2 k3 from ⟨f0, f1, f2, f3⟩)]
    split
    · rfl
    · rw [addN_radd]
      have h1 := sumTo_bd hok k0 k1 k2 k3 4
      rw [show min (sumTo nodes k0 k1 k2 k3 4) 4611686018427387904 = sumTo nodes k0 k1 k2 k3 4 by omega]
  · unfold joinN rjoinR
    rw [if_neg hf, if_neg]
    intro hb
    obtain ⟨b0, b1, b2, b3⟩ := hb
    have r0 : 0 ≤ k0 ∧ k0 < nodes.length := by
      by_cases h : 0 ≤ k0 ∧ k0 < nodes.length
      · exact h
      · exact absurd (hout k0 h) b0
    have step : ∀ k : Int, lvAt nodes (ownOf nodes k) = lvAt nodes (ownOf nodes k0) → okR nodes k0 k := fun k h => by
      have r : 0 ≤ k ∧ k < nodes.length := by
        by_cases h' : 0 ≤ k ∧ k < nodes.length
        · exact h'
        · rw [hout k h'] at h; exact absurd h.symm b0
      rw [hin k r, hin k0 r0] at h
      exact ⟨r.1, r.2, r0.1, r0.2, h⟩
    exact hf ⟨step k0 rfl, step k1 b1, step k2 b2, step k3 b3⟩
end Go.Proofs.Ytbkbkgfpnefilaa.ar
namespace Go.Proofs.Ytbkbkgfpnefilaa.ar
open Go.RowKit Go.Proofs.YtbkbkgfpnefilaaW.PrintWords Go.Proofs.YtbkbkgfpnefilaaW.PrintLast Go.Proofs.YtbkbkgfpnefilaaW.PrintMore Go.Proofs.Ytbkbkgfpnefilaa.bs Go.ChangeShapes Go.Proofs.Ytbkbkgfpnefilaa.lb Go.Maps

/-- the call's blocks that are not the arena's -/
def Oth (w0 : World) (F : Nat → Prop) (k : Nat) : Prop := w0.heap.size ≤ k ∧ ¬ F k
def idL (n : Nat) : List Int := (List.range n).map fun (i : Nat) => (i : Int)
theorem idL_len (n : Nat) : (idL n).length = n := by simp [idL]
theorem idL_get (n i : Nat) (h : i < n) : (idL n)[i]? = some (i : Int) := by simp [idL, h]
theorem idL_succ (n : Nat) : idL n ++ [(n : Int)] = idL (n + 1) := by simp [idL, List.range_succ]
theorem idL_uRow (n : Nat) : idL n = uRow (List.range n) := rfl
theorem notE (q t : Nat) (E : List Nat) (e : Nat) (hE : E = []) (he : e ≠ t) (h : q ∈ e :: E) : q ≠ t := by
  rw [hE] at h
  simp only [List.mem_cons, List.not_mem_nil, or_false] at h
  subst h
  exact he
section
variable {w0 w w1 w2 : World} {F F' : Nat → Prop} {X R p n m : Nat} {nodes nodes' : List Nd} {xv av : Value}
theorem R_onto {α : Type} {d : Kd α} {e : Nat} {v : Value} {xs : List α} {em : List Int} {m : Int} {nd : List Nd} (h : Kd.R d e w 0 (Oth w0 F) v xs) (ho : Onto w0 w w1 F F' p nd em m) : Kd.R d e w1 0 (Oth w0 F') v xs :=
  Kd.R_mono (Kd.R_step (Kd.R_bound h) (fun k hk hlt => ho.keeps.block k hlt hk.1.2)) (fun k hk => ⟨hk.1.1, fun hf => hk.1.2 ((ho.old k hk.2.2.1).1 hf)⟩)
theorem oth_onto {k : Nat} {em : List Int} {m : Int} {nd : List Nd} (h : Oth w0 F k) (hk : k < w.heap.size) (ho : Onto w0 w w1 F F' p nd em m) : Oth w0 F' k := ⟨h.1, fun hf => h.2 ((ho.old k hk).1 hf)⟩
theorem oth_more {α : Type} {d : Kd α} {e : Nat} {v : Value} {xs : List α} {em : List Int} {most : Int} {nd : List Nd} (hh : Hold w0 w F p nd em most) (hb : Below w0.heap.size w0 w) (h : Kd.R d e w1 0 (More (Oth w0 F) w) v xs) : Kd.R d e w1 0 (Oth w0 F) v xs :=
  Kd.R_mono h (fun k hk => hk.elim id (fun hk => ⟨Nat.le_trans hb.size hk, fun hf => by have := hh.hi k hf; omega⟩))
theorem rn_more2 {G : Nat → Prop} {W : World} {v : Value} {xs : List Nd} (h : Kd.R kRn 84 w1 0 (More G W) v xs) (hs : w.heap.size ≤ W.heap.size) : Kd.R kRn 84 w1 0 (More G w) v xs :=
  Kd.R_mono h (fun _ hk => hk.elim .inl (fun hk => .inr (Nat.le_trans hs hk)))
theorem tyRnA (q : Nat) (h : q ∈ 84 :: kRn.E) : q ≠ 79 := notE q _ _ _ rfl (by decide) h
theorem tyUA (q : Nat) (h : q ∈ 38 :: (Kd.int IntKind.u32).E) : q ≠ 79 := notE q _ _ _ rfl (by decide) h
theorem tyRnU (q : Nat) (h : q ∈ 84 :: kRn.E) : q ≠ 38 := notE q _ _ _ rfl (by decide) h
/-- the arena, the reference's list, the numbers' row -/
structure Gx (w0 w : World) (F : Nat → Prop) (X R p : Nat) (nodes : List Nd) (n : Nat) (xv av : Value) : Prop where
  hold : Hold w0 w F p nodes [0, 0, 0] 1000
  below : Below w0.heap.size w0 w
  kx : w.heap[X]? = some (.cells #[xv, .int .i64 1000] 79 (0, 0))
  kr : w.heap[R]? = some (.cells #[.slice none 0 0, .int .i64 0] 79 (0, 0))
  hx : Kd.R kRn 84 w 0 (Oth w0 F) xv nodes
  ha : Kd.R (Kd.int .u32) 38 w 0 (Oth w0 F) av (idL n)
  hX : Oth w0 F X
  hR : Oth w0 F R
  ne : X ≠ R
theorem Gx.drop (h : Gx w0 w F X R p nodes n xv av) (hb : Below w.heap.size w w1) : Gx w0 w1 F X R p nodes n xv av :=
  ⟨h.hold.below hb, chain h.below hb h.below.size, blk_below h.kx hb, blk_below h.kr hb, Kd.R_below h.hx hb, Kd.R_below h.ha hb, h.hX, h.hR, h.ne⟩
/-- the program's step, then the reference's list -/
theorem Gx.step {xv1 : Value} (h : Gx w0 w F X R p nodes n xv av) (ho : Onto w0 w w1 F F' p nodes' [0, 0, 0] 1000) (hx1 : Kd.R kRn 84 w1 0 (Oth w0 F') xv1 nodes') : Gx w0 ((w1.setCell ⟨X, 0, none⟩ xv1).setCell ⟨X, 1, none⟩ (.int .i64 1000)) F' X R p nodes' n xv1 av := by
  have kx := (ho.keeps.block X (blk_lt h.kx) h.hX.2).trans h.kx
  have kr := (ho.keeps.block R (blk_lt h.kr) h.hR.2).trans h.kr
  have ha := R_onto h.ha ho
  have hX := oth_onto h.hX (blk_lt h.kx) ho
  have hR := oth_onto h.hR (blk_lt h.kr) ho
  have hb := h.hold.belowK h.below ho.keeps
  have b1 := blk_set kx 0 xv1
  refine ⟨(ho.hold.kept (G := fun k => k = X) ⟨by simp, fun k hk hn => ?_⟩ (fun k hk e => hX.2 (e ▸ hk))), (hb.setCell (p := ⟨X, 0, none⟩) hX.1 _).setCell (p := ⟨X, 1, none⟩) hX.1 _, blk_put b1 1 _ rfl, ?_, Kd.R_set (Kd.R_set hx1 kx tyRnA 0 xv1) b1 tyRnA 1 _, Kd.R_set (Kd.R_set ha kx tyUA 0 xv1) b1 tyUA 1 _, hX, hR, h.ne⟩
  · rw [Below.heap_setCell _ _ _ k hn, Below.heap_setCell _ _ _ k hn]
  · exact (Below.heap_setCell _ _ _ R (Ne.symm h.ne)).trans ((Below.heap_setCell _ _ _ R (Ne.symm h.ne)).trans kr)
theorem Gx.same (h : Gx w0 w F X R p nodes n xv av) (ho : Onto w0 w w1 F F' p nodes [0, 0, 0] 1000) : Gx w0 w1 F' X R p nodes n xv av :=
  ⟨ho.hold, h.hold.belowK h.below ho.keeps, (ho.keeps.block X (blk_lt h.kx) h.hX.2).trans h.kx, (ho.keeps.block R (blk_lt h.kr) h.hR.2).trans h.kr, R_onto h.hx ho, R_onto h.ha ho, oth_onto h.hX (blk_lt h.kx) ho, oth_onto h.hR (blk_lt h.kr) ho, h.ne⟩
/-- the numbers' row has grown -/
theorem Gx.grow {v1 : Value} (h : Gx w0 w F X R p nodes n xv av) (hg : w.grownBy w1 av.ownBlock) (h1 : Kd.R (Kd.int .u32) 38 w1 0 (Oth w0 F) v1 (idL m)) : Gx w0 w1 F X R p nodes m xv v1 := by
  have hF : ∀ k, F k → some k ≠ av.ownBlock := fun k hk e => (h.ha.1 k e.symm).2 hk
  have hw : w0.heap.size ≤ w.heap.size := h.below.size
  refine ⟨h.hold.kept (G := fun k => some k = av.ownBlock) ⟨hg.size, fun k hk hn => hg.block k hk hn⟩ (fun k hk e => hF k hk e), h.below.trans ⟨hg.os, hg.tape, hg.output, hg.size, fun k hk => hg.block k (by omega) (fun e => by have := (h.ha.1 k e.symm).1; omega)⟩, blk_grown h.kx hg (Kd.R_ne h.ha h.kx (by decide)), blk_grown h.kr hg (Kd.R_ne h.ha h.kr (by decide)), Kd.R_over h.hx h.ha tyRnU hg, h1, h.hX, h.hR, h.ne⟩
/-- another block of the call's own written -/
theorem Gx.other {o t : Nat} {cs : Array Value} (h : Gx w0 w F X R p nodes n xv av) (ko : w.heap[o]? = some (.cells cs t (0, 0))) (ho : Oth w0 F o) (hX : X ≠ o) (hR : R ≠ o) (t1 : 84 ≠ t) (t2 : 38 ≠ t) (j : Nat) (u : Value) : Gx w0 (w.setCell ⟨o, j, none⟩ u) F X R p nodes n xv av :=
  ⟨h.hold.kept (G := fun k => k = o) ⟨by simp, fun k hk hn => Below.heap_setCell _ _ _ k hn⟩ (fun k hk e => ho.2 (e ▸ hk)), h.below.setCell (p := ⟨o, j, none⟩) ho.1 _, blk_far (p := ⟨o, j, none⟩) h.kx hX _, blk_far (p := ⟨o, j, none⟩) h.kr hR _, Kd.R_set h.hx ko (fun q hq => notE q _ _ _ rfl t1 hq) j _, Kd.R_set h.ha ko (fun q hq => notE q _ _ _ rfl t2 hq) j _, h.hX, h.hR, h.ne⟩
/-- the arena, the reference's list and the numbers' row, handed back -/
structure Gz (w0 w : World) (F : Nat → Prop) (p : Nat) (nodes : List Nd) (xv av : Value) : Prop where
  hold : Hold w0 w F p nodes [0, 0, 0] 1000
  below : Below w0.heap.size w0 w
  hx : Kd.R kRn 84 w 0 (Oth w0 F) xv nodes
  ha : Kd.R (Kd.int .u32) 38 w 0 (Oth w0 F) av (idL nodes.length)
theorem Gx.done (h : Gx w0 w F X R p nodes nodes.length xv av) : Gz w0 (((w.setCell ⟨R, 0, none⟩ xv).setCell ⟨R, 1, none⟩ (.int .i64 1000)).drew) F p nodes xv av ∧ (((w.setCell ⟨R, 0, none⟩ xv).setCell ⟨R, 1, none⟩ (.int .i64 1000)).drew).heap[R]? = some (.cells #[xv, .int .i64 1000] 79 (0, 0)) := by
  have b1 := blk_set h.kr 0 xv
  have hd := below_drew (Below.refl ((w.setCell ⟨R, 0, none⟩ xv).setCell ⟨R, 1, none⟩ (.int .i64 1000)).heap.size ((w.setCell ⟨R, 0, none⟩ xv).setCell ⟨R, 1, none⟩ (.int .i64 1000)))
  have hh : Hold w0 ((w.setCell ⟨R, 0, none⟩ xv).setCell ⟨R, 1, none⟩ (.int .i64 1000)) F p nodes [0, 0, 0] 1000 := h.hold.kept (G := fun k => k = R) ⟨by simp, fun k hk hn => by rw [Below.heap_setCell _ _ _ k hn, Below.heap_setCell _ _ _ k hn]⟩ (fun k hk e => h.hR.2 (e ▸ hk))
  have hb := (h.below.setCell (p := ⟨R, 0, none⟩) h.hR.1 xv).setCell (p := ⟨R, 1, none⟩) h.hR.1 (.int .i64 1000)
  exact ⟨⟨hh.below hd, chain hb hd hb.size, Kd.R_below (Kd.R_set (Kd.R_set h.hx h.kr tyRnA 0 xv) b1 tyRnA 1 _) hd, Kd.R_below (Kd.R_set (Kd.R_set h.ha h.kr tyUA 0 xv) b1 tyUA 1 _) hd⟩, blk_below (blk_put b1 1 _ rfl) hd⟩
end
end Go.Proofs.Ytbkbkgfpnefilaa.ar
