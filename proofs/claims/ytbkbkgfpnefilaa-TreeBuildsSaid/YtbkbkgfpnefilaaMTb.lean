/- For any cells, near or far, any cell and any number the law TreeBuilds answers true: the root of the set, its level, its cells, its box, how many live, whether that one does; no more are told than are asked for. No condition. -/
import Derived.Test.YtbkbkgfpnefilaaMMe
import Derived.StillTailTactics
import Derived.Test.YtbkbkgfpnefilaaMSh
import Derived.Test.YtbkbkgfpnefilaaMGt
import Derived.Test.YtbkbkgfpnefilaaQTreeBuildsx12
import Derived.Test.YtbkbkgfpnefilaaRow
namespace Go.Proofs.Ytbkbkgfpnefilaa.tr
open Go.RowKit Go.Proofs.Ytbkbkgfpnefilaa.PTreeBuilds Go.Proofs.YtbkbkgfpnefilaaW.PrintWords Go.Proofs.YtbkbkgfpnefilaaW.PrintLast Go.Proofs.YtbkbkgfpnefilaaW.PrintMore Go.Proofs.Ytbkbkgfpnefilaa.bs Go.ChangeShapes Go.Proofs.Ytbkbkgfpnefilaa.lb Go.Proofs.Ytbkbkgfpnefilaa.ar Go.Maps

def bxC (E : Bx) : Array Value := #[.int .i64 E.la, .int .i64 E.lb, .int .i64 E.ha, .int .i64 E.hb]
/-- what the document's Box answers -/
def RBoxPost (l : List Rc) (w : World) (e : Ending) (w' : World) : Prop :=
  Below w.heap.size w w' ∧ ((l = [] ∧ e = .returned (.slice none 0 0)) ∨
    ∃ g E, e = .returned (.slice (some ⟨g, 0, none⟩) 4 4) ∧ BoxP (fun c => c ∈ l.map ownC) E ∧ w'.heap[g]? = some (.cells (bxC E) 2 (0, 0)))
theorem at_R0 {w : World} {A : Option Addr} {n : Nat} {xs : List Rc} (h : Kd.C k30 w A n xs) (j : Nat) (x : Rc) (hj : xs[j]? = some x) (hn : j < n) : ∃ ad, A = some ad ∧ w.cell? (ad.add (j * 3)) = some (.int .i64 x.f0) ∧ w.cell? ⟨(ad.add (j * 3)).block, (ad.add (j * 3)).off + 1, none⟩ = some (.int .i64 x.f1) ∧ w.cell? ⟨(ad.add (j * 3)).block, (ad.add (j * 3)).off + 2, none⟩ = some (.int .i64 x.f2) := by
  have := at_T30 h (j : Int) (by omega) (by omega)
  rw [rdR xs j x hj, Int.toNat_natCast] at this
  exact this
attribute [local go_sem] max_two min_two
set_option maxRecDepth 100000 in
set_option maxHeartbeats 4000000 in
theorem rbox_walk (l : List Rc) (A : Option Addr) (c : Nat) (w : World) (hC : Kd.C k30 w A l.length l) :
    Calls Try.prog 36 #[.slice A l.length c] w fun e w' => RBoxPost l w e w' := by
  have hmx := Kd.C_max hC
  have HC := Aside0.mk hC
  clear hC
  by_cases hl0 : l.length = 0
  · have hz : ((l.length : Nat) : Int) = 0 := by omega
    have hnil := List.length_eq_zero_iff.1 hl0
    subst hnil
    clear HC hz hl0 hmx
    go_enter Try.func36, Try.ntmps36
    go_wp2_with (fail)
    refine bodyPost_ret (v := .slice none 0 0) (by simp [results, Try.results36, go_sem]) rfl ?_
    exact ⟨Below.refl _ _, .inl ⟨rfl, rfl⟩⟩
  · obtain ⟨x0, hx0⟩ : ∃ x, l[0]? = some x := ⟨_, List.getElem?_eq_getElem (by omega)⟩
    obtain ⟨ad, rfl, q0, q1, q2⟩ := at_R0 HC.out 0 x0 hx0 (by omega)
    rw [show ad.add (0 * 3) = ad by cases ad; rfl] at q0 q1 q2
    have hne : ((l.length : Int) == 0) = false := by rw [beq_eq_false_iff_ne]; omega
    have hpos : (0 : Int) < (l.length : Int) := by omega
    have hpn : 0 < l.length := by omega
    clear q2
    go_enter Try.func36, Try.ntmps36
    go_upto_region 3 with (fail)
    go_cut [3] (fun v3 wx => ∃ g, v3 = .slice (some ⟨g, 0, none⟩) 4 4 ∧ w.heap.size ≤ g ∧ wx.heap[g]? = some (.cells (bxC (Bx.one (ownC x0))) 2 (0, 0)) ∧ Below w.heap.size w wx)
    case first =>
      go_region_held3 (fun w' => w'.cell? ad = some (.int .i64 x0.f0) ∧ w'.cell? ⟨ad.block, ad.off + 1, none⟩ = some (.int .i64 x0.f1)) (first | exact ⟨pw_cell_below (by (repeat' (first | (with_reducible exact Below.refl _ _) | (with_reducible assumption) | (with_reducible refine Below.alloc ?_ ?_ _) | (with_reducible refine Below.drew ?_) | (with_reducible refine Below.setCell ?_ ?_ _) | (with_reducible refine chain ?_ (by assumption) ?_) | go_size))) q0, pw_cell_below (by (repeat' (first | (with_reducible exact Below.refl _ _) | (with_reducible assumption) | (with_reducible refine Below.alloc ?_ ?_ _) | (with_reducible refine Below.drew ?_) | (with_reducible refine Below.setCell ?_ ?_ _) | (with_reducible refine chain ?_ (by assumption) ?_) | go_size))) q1⟩) (first | fail)
      go_wp2_with (fail)
      go_meet
      exact ⟨w.heap.size, rfl, Nat.le_refl _, blk_below (blk_new w (.cells #[.int .i64 x0.f0, .int .i64 x0.f1, .int .i64 x0.f0, .int .i64 x0.f1] 2)) (below_drew (Below.refl _ _)), below_drew (below_alloc (Below.refl _ _) _)⟩
    case rest =>
      obtain ⟨g, rfl, hg, kg, hb⟩ := hcut
      have KG := Aside0.mk kg
      have HB := Aside0.mk hb
      have HST : Aside0 (BoxP (fun c => c = ownC x0 ∨ c ∈ (l.take 0).map ownC) (Bx.one (ownC x0))) := ⟨(boxP_one (ownC x0)).congr (fun c => by simp)⟩
      clear kg hb q0 q1
      go_wp2_with (fail)
      go_loopg [28] l.length (fun kq c28 w' => ∃ (j : Nat) (E : Bx), j + kq = l.length ∧ c28 = .int .i64 j ∧ Aside0 (BoxP (fun c => c = ownC x0 ∨ c ∈ (l.take j).map ownC) E) ∧ Aside0 (w'.heap[g]? = some (.cells (bxC E) 2 (0, 0))) ∧ Aside0 (Below w.heap.size w w'))
      case atStart => exact ⟨0, _, by omega, rfl, HST, KG, HB⟩
      case round =>
        clear HST KG HB
        obtain ⟨j, E, hj, rfl, HE, KG, HB⟩ := hrel
        by_cases hlt : j < l.length
        · obtain ⟨gm, rfl⟩ : ∃ m, gk = m + 1 := ⟨gk - 1, by omega⟩
          obtain ⟨x, hx⟩ : ∃ x, l[j]? = some x := ⟨_, List.getElem?_eq_getElem hlt⟩
          obtain ⟨ad', hae, q0, q1, q2⟩ := at_R0 (Kd.C_below HC.out HB.out) j x hx hlt
          obtain rfl := Option.some.inj hae
          have HE2 : Aside0 (BoxP (fun c => c = ownC x0 ∨ c ∈ (l.take (j + 1)).map ownC) ⟨min E.la x.f0, min E.lb x.f1, max E.ha x.f0, max E.hb x.f1⟩) := ⟨(boxP_or HE.out (boxP_one (ownC x))).congr (fun c => by
            obtain ⟨h1, h2⟩ := List.getElem?_eq_some_iff.1 hx
            rw [List.take_succ_eq_append_getElem h1, h2, List.map_append, List.mem_append]
            simp [or_assoc])⟩
          clear hx hae hne hpos hpn
          go_upto_region 7 with (fail)
          have KX := Aside0.mk (blk_new wr (.cells #[.int .i64 x.f0, .int .i64 x.f1, .int .i64 x.f2] 30))
          have hba := below_alloc (Below.refl wr.heap.size wr) (.cells #[.int .i64 x.f0, .int .i64 x.f1, .int .i64 x.f2] 30)
          have KG1 := Aside0.mk (blk_below KG.out hba)
          have HB1 := Aside0.mk (chain HB.out hba HB.out.size)
          have hgx : wr.heap.size ≠ g := by have := blk_lt KG.out; omega
          clear KG HB hba q0 q1 q2
          generalize wr.alloc (.cells #[.int .i64 x.f0, .int .i64 x.f1, .int .i64 x.f2] 30) = w3 at *
          generalize wr.heap.size = X at *
          have m0 := min_i E.la x.f0
          have m1 := min_i E.lb x.f1
          have m2 := max_i E.ha x.f0
          have m3 := max_i E.hb x.f1
          have g0 : w3.drew.cell? ⟨g, 0, none⟩ = some (.int .i64 E.la) := blk_cell KG1.out 0
          have f0 : w3.drew.frozen? ⟨g, 0, none⟩ = false := blk_frozen KG1.out 0
          have gg0 : w3.cell? ⟨g, 0, none⟩ = some (.int .i64 E.la) := g0
          have xx0 : w3.cell? ⟨X, 0, none⟩ = some (.int .i64 x.f0) := blk_cell KX.out 0
          go_still_tail 8, (by kernel_rfl)
          change wpList _ _ _ _ _ w3.drew
          go_upto_region 8 with (fail)
          have KG2 := Aside0.mk (show ((w3.setCell ⟨g, 0, none⟩ (.int .i64 (min E.la x.f0))).drew).heap[g]? = some (.cells (bxC ⟨min E.la x.f0, E.lb, E.ha, E.hb⟩) 2 (0, 0)) from blk_below (blk_put KG1.out 0 (.int .i64 (min E.la x.f0)) rfl) (below_drew (Below.refl _ _)))
          have KX2 := Aside0.mk (blk_below (blk_far (p := ⟨g, 0, none⟩) KX.out hgx (.int .i64 (min E.la x.f0))) (below_drew (Below.refl _ _)))
          have HB2 := Aside0.mk (below_drew (HB1.out.setCell (p := ⟨g, 0, none⟩) hg (.int .i64 (min E.la x.f0))))
          clear KG1 KX HB1 g0 f0 gg0 xx0 m0
          generalize (w3.setCell ⟨g, 0, none⟩ (.int .i64 (min E.la x.f0))).drew = w4 at *
          have g1 : w4.drew.cell? ⟨g, 1, none⟩ = some (.int .i64 E.lb) := blk_cell KG2.out 1
          have f1 : w4.drew.frozen? ⟨g, 1, none⟩ = false := blk_frozen KG2.out 1
          have gg1 : w4.cell? ⟨g, 1, none⟩ = some (.int .i64 E.lb) := g1
          have xx1 : w4.cell? ⟨X, 1, none⟩ = some (.int .i64 x.f1) := blk_cell KX2.out 1
          go_still_tail 8, (by kernel_rfl)
          change wpList _ _ _ _ _ w4.drew
          go_upto_region 9 with (fail)
          have KG3 := Aside0.mk (show ((w4.setCell ⟨g, 1, none⟩ (.int .i64 (min E.lb x.f1))).drew).heap[g]? = some (.cells (bxC ⟨(min E.la x.f0), min E.lb x.f1, E.ha, E.hb⟩) 2 (0, 0)) from blk_below (blk_put KG2.out 1 (.int .i64 (min E.lb x.f1)) rfl) (below_drew (Below.refl _ _)))
          have KX3 := Aside0.mk (blk_below (blk_far (p := ⟨g, 1, none⟩) KX2.out hgx (.int .i64 (min E.lb x.f1))) (below_drew (Below.refl _ _)))
          have HB3 := Aside0.mk (below_drew (HB2.out.setCell (p := ⟨g, 1, none⟩) hg (.int .i64 (min E.lb x.f1))))
          clear KG2 KX2 HB2 g1 f1 gg1 xx1 m1
          generalize (w4.setCell ⟨g, 1, none⟩ (.int .i64 (min E.lb x.f1))).drew = w5 at *
          have g2 : w5.drew.cell? ⟨g, 2, none⟩ = some (.int .i64 E.ha) := blk_cell KG3.out 2
          have f2 : w5.drew.frozen? ⟨g, 2, none⟩ = false := blk_frozen KG3.out 2
          have gg2 : w5.cell? ⟨g, 2, none⟩ = some (.int .i64 E.ha) := g2
          have xx2 : w5.cell? ⟨X, 0, none⟩ = some (.int .i64 x.f0) := blk_cell KX3.out 0
          go_still_tail 8, (by kernel_rfl)
          change wpList _ _ _ _ _ w5.drew
          go_upto_region 10 with (fail)
          have KG4 := Aside0.mk (show ((w5.setCell ⟨g, 2, none⟩ (.int .i64 (max E.ha x.f0))).drew).heap[g]? = some (.cells (bxC ⟨(min E.la x.f0), (min E.lb x.f1), max E.ha x.f0, E.hb⟩) 2 (0, 0)) from blk_below (blk_put KG3.out 2 (.int .i64 (max E.ha x.f0)) rfl) (below_drew (Below.refl _ _)))
          have KX4 := Aside0.mk (blk_below (blk_far (p := ⟨g, 2, none⟩) KX3.out hgx (.int .i64 (max E.ha x.f0))) (below_drew (Below.refl _ _)))
          have HB4 := Aside0.mk (below_drew (HB3.out.setCell (p := ⟨g, 2, none⟩) hg (.int .i64 (max E.ha x.f0))))
          clear KG3 KX3 HB3 g2 f2 gg2 xx2 m2
          generalize (w5.setCell ⟨g, 2, none⟩ (.int .i64 (max E.ha x.f0))).drew = w6 at *
          have g3 : w6.drew.cell? ⟨g, 3, none⟩ = some (.int .i64 E.hb) := blk_cell KG4.out 3
          have f3 : w6.drew.frozen? ⟨g, 3, none⟩ = false := blk_frozen KG4.out 3
          have gg3 : w6.cell? ⟨g, 3, none⟩ = some (.int .i64 E.hb) := g3
          have xx3 : w6.cell? ⟨X, 1, none⟩ = some (.int .i64 x.f1) := blk_cell KX4.out 1
          go_still_tail 8, (by kernel_rfl)
          change wpList _ _ _ _ _ w6.drew
          go_wp2_with (fail)
          have KG5 := Aside0.mk (show ((w6.setCell ⟨g, 3, none⟩ (.int .i64 (max E.hb x.f1))).drew).heap[g]? = some (.cells (bxC ⟨(min E.la x.f0), (min E.lb x.f1), (max E.ha x.f0), max E.hb x.f1⟩) 2 (0, 0)) from blk_below (blk_put KG4.out 3 (.int .i64 (max E.hb x.f1)) rfl) (below_drew (Below.refl _ _)))
          have KX5 := Aside0.mk (blk_below (blk_far (p := ⟨g, 3, none⟩) KX4.out hgx (.int .i64 (max E.hb x.f1))) (below_drew (Below.refl _ _)))
          have HB5 := Aside0.mk (below_drew (HB4.out.setCell (p := ⟨g, 3, none⟩) hg (.int .i64 (max E.hb x.f1))))
          clear KG4 KX4 HB4 g3 f3 gg3 xx3 m3
          generalize (w6.setCell ⟨g, 3, none⟩ (.int .i64 (max E.hb x.f1))).drew = w7 at *
          go_roundg gm
          case measure => omega
          case rel => exact ⟨j + 1, ⟨min E.la x.f0, min E.lb x.f1, max E.ha x.f0, max E.hb x.f1⟩, by omega, by go_num, HE2, KG5, HB5⟩
        · obtain rfl : j = l.length := by omega
          have HEE := HE.out
          rw [List.take_length] at HEE
          have HEF := Aside0.mk (HEE.congr (P' := fun c => c ∈ l.map ownC) (fun c => ⟨fun h => by
            rcases h with rfl | h
            · exact List.mem_map.2 ⟨x0, List.mem_of_getElem? hx0, rfl⟩
            · exact h, .inr⟩))
          clear HEE HE
          go_wp2_with (fail)
          refine bodyPost_ret (v := .slice (some ⟨g, 0, none⟩) 4 4) (by simp [results, Try.results36, go_sem]) rfl ?_
          exact ⟨HB.out, .inr ⟨g, E, rfl, HEF.out, KG.out⟩⟩
end Go.Proofs.Ytbkbkgfpnefilaa.tr
namespace Go.Proofs.Ytbkbkgfpnefilaa.tr
open Go.RowKit Go.Proofs.Ytbkbkgfpnefilaa.PTreeBuilds Go.Proofs.YtbkbkgfpnefilaaW.PrintWords Go.Proofs.YtbkbkgfpnefilaaW.PrintLast Go.Proofs.YtbkbkgfpnefilaaW.PrintMore Go.Proofs.Ytbkbkgfpnefilaa.bs Go.ChangeShapes Go.Proofs.Ytbkbkgfpnefilaa.lb Go.Proofs.Ytbkbkgfpnefilaa.ar Go.Maps

theorem eqlBox0 (w : World) : (binOp .eql 27 (.agg #[.int .i64 0, .int .i64 0, .int .i64 0, .int .i64 0]) (.agg #[.int .i64 0, .int .i64 0, .int .i64 0, .int .i64 0])).run Try.prog w = .ok (.bool true) w := by kernel_rfl
theorem guardBox (w : World) (op : BinOp) (x y : Operand) (xs ys : Array Value) : (eqGuard op 27 x y (.agg xs) (.agg ys)).run Try.prog w = .ok () w :=
  run_eqGuard_agg w op _ x y xs ys (by kernel_rfl)
attribute [local go_sem high] eqlBox0 guardBox
set_option maxRecDepth 100000 in
set_option maxHeartbeats 1000000 in
theorem boxed_none (w : World) : Calls Try.prog 35 #[.agg #[.int .i64 0, .int .i64 0, .int .i64 0, .int .i64 0], .bool false, .slice none 0 0] w fun e w' => e = .returned (.bool true) ∧ Below w.heap.size w w' := by
  have hb := below_alloc (Below.refl w.heap.size w) (.cells #[.int .i64 0, .int .i64 0, .int .i64 0, .int .i64 0] 27)
  have hkb := blk_new w (.cells #[.int .i64 0, .int .i64 0, .int .i64 0, .int .i64 0] 27)
  have c0 := blk_cell hkb 0
  have c1 := blk_cell hkb 1
  have c2 := blk_cell hkb 2
  have c3 := blk_cell hkb 3
  simp only [List.getElem?_toArray, List.getElem?_cons_zero, List.getElem?_cons_succ] at c0 c1 c2 c3
  have HB := Aside0.mk hb
  clear hb hkb
  go_enter Try.func35, Try.ntmps35
  go_wp2_with (fail)
  refine bodyPost_ret (v := .bool true) (by simp [results, Try.results35, go_sem]) rfl ?_
  exact ⟨rfl, HB.out⟩
set_option maxRecDepth 100000 in
set_option maxHeartbeats 4000000 in
theorem boxed_some (E : Bx) (g : Nat) (w : World) (hk : w.heap[g]? = some (.cells (bxC E) 2 (0, 0))) : Calls Try.prog 35 #[edgV E, .bool true, .slice (some ⟨g, 0, none⟩) 4 4] w fun e w' => e = .returned (.bool true) ∧ Below w.heap.size w w' := by
  unfold edgV
  have hb := below_alloc (Below.refl w.heap.size w) (.cells #[.int .i64 E.la, .int .i64 E.lb, .int .i64 E.ha, .int .i64 E.hb] 27)
  have hkb := blk_new w (.cells #[.int .i64 E.la, .int .i64 E.lb, .int .i64 E.ha, .int .i64 E.hb] 27)
  have hk2 := blk_below hk hb
  have HB := Aside0.mk hb
  go_enter Try.func35, Try.ntmps35
  go_upto_region 3 with (fail)
  generalize w.alloc (.cells #[.int .i64 E.la, .int .i64 E.lb, .int .i64 E.ha, .int .i64 E.hb] 27) = w1 at *
  obtain ⟨X, hX⟩ : ∃ X, w.heap.size = X := ⟨_, rfl⟩
  rw [hX] at hkb
  simp only [hX]
  have c0 : w1.cell? ⟨X, 0, none⟩ = some (.int .i64 E.la) := blk_cell hkb 0
  have c1 : w1.cell? ⟨X, 1, none⟩ = some (.int .i64 E.lb) := blk_cell hkb 1
  have c2 : w1.cell? ⟨X, 2, none⟩ = some (.int .i64 E.ha) := blk_cell hkb 2
  have c3 : w1.cell? ⟨X, 3, none⟩ = some (.int .i64 E.hb) := blk_cell hkb 3
  have g0 : w1.cell? ⟨g, 0, none⟩ = some (.int .i64 E.la) := blk_cell hk2 0
  have g1 : w1.cell? ⟨g, 1, none⟩ = some (.int .i64 E.lb) := blk_cell hk2 1
  have g2 : w1.cell? ⟨g, 2, none⟩ = some (.int .i64 E.ha) := blk_cell hk2 2
  have g3 : w1.cell? ⟨g, 3, none⟩ = some (.int .i64 E.hb) := blk_cell hk2 3
  clear hX hkb hk2 hb hk
  go_quiet (fail)
  go_wp2_with (fail)
  refine bodyPost_ret (v := .bool true) (by simp [results, Try.results35, go_sem]) rfl ?_
  exact ⟨rfl, below_drewN HB.out _⟩
end Go.Proofs.Ytbkbkgfpnefilaa.tr
namespace Go.Proofs.Ytbkbkgfpnefilaa.tr
open Go.RowKit Go.Proofs.Ytbkbkgfpnefilaa.PTreeBuilds Go.Proofs.YtbkbkgfpnefilaaW.PrintWords Go.Proofs.YtbkbkgfpnefilaaW.PrintLast Go.Proofs.YtbkbkgfpnefilaaW.PrintMore Go.Proofs.Ytbkbkgfpnefilaa.bs Go.ChangeShapes Go.Proofs.Ytbkbkgfpnefilaa.lb Go.Proofs.Ytbkbkgfpnefilaa.ar Go.Maps

theorem wide_walk (raw : List Rc) (A : Option Addr) (c : Nat) (w : World) (hC : Kd.C k30 w A raw.length raw) (hc : raw.length ≤ c) :
    Calls Try.prog 22 #[.slice A raw.length c] w fun e w' => ∃ A' c', e = .returned (.slice A' (wideR raw).length c') ∧ (wideR raw).length ≤ c' ∧ Kd.C k30 w' A' (wideR raw).length (wideR raw) ∧ Below w.heap.size w w' := by
  refine (honeycomblaw13_Wide.calls 4000 A c raw (wideR raw) w hC hc (wide_val raw 4000 (by omega))).mono fun e w' ⟨v, he, hr, hb⟩ => ?_
  obtain ⟨A', c', hv, hc', hC'⟩ := Kd.R_reads hr
  exact ⟨A', c', by rw [he, hv], hc', hC', hb⟩
theorem are_walk (l : List Cl) (m : List Rc) (hm : m.length ≤ 1000000) (A B : Option Addr) (c d : Nat) (w : World) (hl : Kd.C k57 w A l.length l) (hc : l.length ≤ c) (hM : Kd.C k30 w B m.length m) (hd : m.length ≤ d) :
    Calls Try.prog 28 #[.slice A l.length c, .slice B m.length d] w fun e w' => e = .returned (.int .i64 (if l = m.map ownC then 0 else -1)) ∧ Below w.heap.size w w' :=
  honeycomblaw04_Are.calls (m.length + 1) A c l B d m _ w hl hc hM hd (are_val l m hm _ (by omega))
set_option maxRecDepth 100000 in
set_option maxHeartbeats 4000000 in
theorem shares_walk (raw other : List Rc) (rA oA : Option Addr) (rc oc : Nat) (w : World) (hR : Kd.C k30 w rA raw.length raw) (hrc : raw.length ≤ rc) (hO : Kd.C k30 w oA other.length other) (hoc : other.length ≤ oc) :
    Calls Try.prog 4 #[.slice rA raw.length rc, .slice oA other.length oc] w fun e w' => e = .returned (.bool true) ∧ Below w.heap.size w w' := by
  have hws := fun (w' : World) (hb : Below w.heap.size w w') => wide_walk raw rA rc w' (Kd.C_below hR hb) hrc
  have hwt := fun (w' : World) (hb : Below w.heap.size w w') => wide_walk other oA oc w' (Kd.C_below hO hb) hoc
  have hns := wide_near raw
  have hnt := wide_near other
  obtain ⟨s, hs⟩ : ∃ s, wideR raw = s := ⟨_, rfl⟩
  obtain ⟨t, ht⟩ : ∃ t, wideR other = t := ⟨_, rfl⟩
  simp only [hs] at hws hns
  simp only [ht] at hwt hnt
  have HWS := Aside0.mk hws
  have HWT := Aside0.mk hwt
  have HX := Aside0.mk (show rootQ (s.map ownC) = rootQ (t.map ownC) → s.map ownC = t.map ownC from hns.same hnt)
  have HOS := Aside0.mk (fun A c w h1 h2 => own_near hns A c w h1 h2)
  have HOT := Aside0.mk (fun A c w h1 h2 => own_near hnt A c w h1 h2)
  have HMK := Aside0.mk (fun A c w h1 h2 => (make_near (A := A) (c := c) (w := w) h1 h2 hns.len hns.bd).mono (fun _ _ h => make_roomy (by rw [List.length_map]; exact hns.len) h))
  have HBS := Aside0.mk (fun (w0 w : World) (F : Nat → Prop) (p N : Nat) (nodes : List Nd) (empty : List Int) (A : Option Addr) (c : Nat) (h : Roomy w0 w F p nodes empty N) (hN : N ≤ 200000) (hC : Kd.C k57 w A (s.map ownC).length (s.map ownC)) (hb : Below w0.heap.size w0 w) => build_roomy h hN hns A c hC hb)
  have HBT := Aside0.mk (fun (w0 w : World) (F : Nat → Prop) (p N : Nat) (nodes : List Nd) (empty : List Int) (A : Option Addr) (c : Nat) (h : Roomy w0 w F p nodes empty N) (hN : N ≤ 200000) (hC : Kd.C k57 w A (t.map ownC).length (t.map ownC)) (hb : Below w0.heap.size w0 w) => build_roomy h hN hnt A c hC hb)
  have HCS := Aside0.mk (fun (w0 w : World) (F : Nat → Prop) (p N : Nat) (nodes : List Nd) (empty : List Int) (i : Nat) (h : Roomy w0 w F p nodes empty N) (hN : N ≤ 200000) (hr : Rep nodes (rootQ (s.map ownC)) i) => cells_roomy h hN hns hr 100 (by omega))
  have HCT := Aside0.mk (fun (w0 w : World) (F : Nat → Prop) (p N : Nat) (nodes : List Nd) (empty : List Int) (i : Nat) (h : Roomy w0 w F p nodes empty N) (hN : N ≤ 200000) (hr : Rep nodes (rootQ (t.map ownC)) i) => cells_roomy h hN hnt hr 100 (by omega))
  have HAS := Aside0.mk (fun A B c d w h1 h2 h3 h4 => are_walk (s.map ownC) s (by have := hns.len; omega) A B c d w h1 h2 h3 h4)
  have HAT := Aside0.mk (fun A B c d w h1 h2 h3 h4 => are_walk (t.map ownC) t (by have := hnt.len; omega) A B c d w h1 h2 h3 h4)
  have HAX := Aside0.mk (fun A B c d w h1 h2 h3 h4 => are_walk (s.map ownC) t (by have := hnt.len; omega) A B c d w h1 h2 h3 h4)
  simp only [if_true] at HAS HAT
  generalize s.map ownC = S at *
  generalize t.map ownC = T at *
  generalize raw.length = rn at *
  generalize other.length = on at *
  clear hs ht hws hwt hns hnt hR hO hrc hoc
  go_enter Try.func4, Try.ntmps4
  go_upto_region 4 with (first
    | (go_at_call 15; refine (awake_walk _).mono ?_; rintro e w1 ⟨rfl, hb1⟩; have HB1 := Aside0.mk hb1; clear hb1)
    | (go_at_call 22; with_reducible refine (HWS.out _ HB1.out).mono ?_; rintro e w2 ⟨sA, sc, rfl, hsc, hsC, hb2⟩; have HB2 := Aside0.mk (chain HB1.out hb2 HB1.out.size); have HSC := Aside0.mk hsC; have HSc := Aside0.mk hsc; clear hsc hsC hb2)
    | (go_at_call 22; with_reducible refine (HWT.out _ HB2.out).mono ?_; rintro e w3 ⟨tA, tc, rfl, htc, htC, hb3⟩; have HB3 := Aside0.mk (chain HB2.out hb3 HB2.out.size); have HSC3 := Aside0.mk (Kd.C_below HSC.out hb3); have HTC := Aside0.mk htC; have HTc := Aside0.mk htc; clear htc htC hb3))
  go_upto_region 9 with (first
    | (go_at_call 23; with_reducible refine (HMK.out _ _ _ HSC3.out HSc.out).mono ?_; rintro e w4 ⟨p, F4, nodes4, empty4, x, rfl, hr4, hx4, hb4⟩; have HR4 := Aside0.mk hr4; have HX4 := Aside0.mk hx4; have HB4 := Aside0.mk hb4; clear hr4 hx4 hb4)
    | (go_at_call 25; with_reducible refine (HOT.out _ _ _ (Kd.C_below HTC.out HB4.out) HTc.out).mono ?_; rintro e w5 ⟨yA, yc, rfl, hyc, hyC, hb5⟩; have HR5 := Aside0.mk (HR4.out.below hb5); have HYC := Aside0.mk hyC; have HB5 := Aside0.mk (chain HB4.out hb5 HB4.out.size); clear hyc hyC hb5)
    | (go_at_call 24; with_reducible refine (HBT.out _ _ _ _ _ _ _ _ _ HR5.out (by omega) HYC.out HB5.out).mono ?_; rintro e w6 ⟨F6, nodes6, empty6, y, rfl, hr6, ho6, hy6, hh6, hb6⟩; have HR6 := Aside0.mk hr6; have HY6 := Aside0.mk hy6; have HX6 := Aside0.mk (ho6 _ _ HX4.out); have HB6 := Aside0.mk hb6; clear hr6 ho6 hy6 hh6 hb6)
    | (go_at_call 25; with_reducible refine (HOS.out _ _ _ (Kd.C_below HSC3.out HB6.out) HSc.out).mono ?_; rintro e w7 ⟨zA, zc, rfl, hzc, hzC, hb7⟩; have HR7 := Aside0.mk (HR6.out.below hb7); have HZC := Aside0.mk hzC; have HB7 := Aside0.mk (chain HB6.out hb7 HB6.out.size); clear hzc hzC hb7)
    | (go_at_call 24; with_reducible refine (HBS.out _ _ _ _ _ _ _ _ _ HR7.out (by omega) HZC.out HB7.out).mono ?_; rintro e w8 ⟨F8, nodes8, empty8, z, rfl, hr8, ho8, hz8, hh8, hb8⟩; have HN8 := Aside0.mk (hh8 ⟨_, HX6.out⟩); have HR8 := Aside0.mk hr8; have HZ8 := Aside0.mk hz8; have HB8 := Aside0.mk hb8; clear hr8 ho8 hz8 hh8 hb8))
  obtain rfl : nodes8 = nodes6 := HN8.out
  obtain rfl : z = x := Rep.same HR8.out.tr.once HZ8.out HX6.out
  clear HN8 HX6 HX4 HR4 HR5 HR6 HR7 HB4 HB5 HB6 HB7 HYC HZC HMK
  go_upto_region 13 with (first
    | (go_at_call 26; refine (alen_walk F8 p nodes8 empty8 1048576 _ HR8.out.tr.hold.ar).mono ?_; rintro e w9 ⟨rfl, rfl⟩)
    | (go_at_call 25; with_reducible refine (HOT.out _ _ _ (Kd.C_below HTC.out HB8.out) HTc.out).mono ?_; rintro e w10 ⟨yA, yc, rfl, hyc, hyC, hb10⟩; have HR10 := Aside0.mk (HR8.out.below hb10); have HYC := Aside0.mk hyC; have HB10 := Aside0.mk (chain HB8.out hb10 HB8.out.size); clear hyc hyC hb10)
    | (go_at_call 24; with_reducible refine (HBT.out _ _ _ _ _ _ _ _ _ HR10.out (by omega) HYC.out HB10.out).mono ?_; rintro e w11 ⟨F11, nodes11, empty11, v, rfl, hr11, ho11, hv11, hh11, hb11⟩; obtain rfl : nodes11 = nodes8 := hh11 ⟨_, HY6.out⟩; obtain rfl : v = y := Rep.same hr11.tr.once hv11 HY6.out; have HR11 := Aside0.mk hr11; have HB11 := Aside0.mk hb11; clear hr11 ho11 hv11 hh11 hb11)
    | (go_at_call 27; with_reducible refine (HCS.out _ _ _ _ _ _ _ _ HR11.out (by omega) HZ8.out).mono ?_; rintro e w12 ⟨oneA, onec, rfl, honec, hone, hb12⟩; have HR12 := Aside0.mk (HR11.out.below hb12); have HB12 := Aside0.mk (chain HB11.out hb12 HB11.out.size); have HONE := Aside0.mk hone; have HONEc := Aside0.mk honec; clear honec hone hb12)
    | (go_at_call 27; with_reducible refine (HCT.out _ _ _ _ _ _ _ _ HR12.out (by omega) HY6.out).mono ?_; rintro e w13 ⟨twoA, twoc, rfl, htwoc, htwo, hb13⟩; have HR13 := Aside0.mk (HR12.out.below hb13); have HB13 := Aside0.mk (chain HB12.out hb13 HB12.out.size); have HONE13 := Aside0.mk (Kd.C_below HONE.out hb13); have HTWO := Aside0.mk htwo; have HTWOc := Aside0.mk htwoc; clear htwoc htwo hb13))
  clear HBS HBT HCS HCT HOT HWS HWT HR8 HR10 HR11 HR12 HB8 HB10 HB11 HB12 HYC
  by_cases hxy : z = v
  · subst hxy
    have hST : S = T := HX.out (Rep.one HZ8.out HY6.out)
    subst hST
    simp only [if_true] at HAX
    clear HX HZ8 HY6
    go_wp2_with (first
      | (go_at_call 26; refine (alen_walk F11 p nodes11 empty11 1048576 _ HR13.out.tr.hold.ar).mono ?_; rintro e w14 ⟨rfl, rfl⟩)
      | (go_at_call 25; with_reducible refine (HOS.out _ _ _ (Kd.C_below HSC3.out HB13.out) HSc.out).mono ?_; rintro e w15 ⟨yA, yc, rfl, hyc, hyC, hb15⟩; have HB15 := Aside0.mk (chain HB13.out hb15 HB13.out.size); have HONE15 := Aside0.mk (Kd.C_below HONE13.out hb15); have HTWO15 := Aside0.mk (Kd.C_below HTWO.out hb15); have HYC := Aside0.mk hyC; have HYc := Aside0.mk hyc; clear hyc hyC hb15)
      | (go_at_call 28; with_reducible refine (HAX.out _ _ _ _ _ HYC.out HYc.out (Kd.C_below HTC.out HB15.out) HTc.out).mono ?_; rintro e w16 ⟨rfl, hb16⟩; have HB16 := Aside0.mk (chain HB15.out hb16 HB15.out.size); have HONE16 := Aside0.mk (Kd.C_below HONE15.out hb16); have HTWO16 := Aside0.mk (Kd.C_below HTWO15.out hb16); clear hb16 HYC)
      | (go_at_call 28; with_reducible refine (HAS.out _ _ _ _ _ HONE16.out HONEc.out (Kd.C_below HSC3.out HB16.out) HSc.out).mono ?_; rintro e w17 ⟨rfl, hb17⟩; have HB17 := Aside0.mk (chain HB16.out hb17 HB16.out.size); have HTWO17 := Aside0.mk (Kd.C_below HTWO16.out hb17); clear hb17 HONE16)
      | (go_at_call 28; with_reducible refine (HAT.out _ _ _ _ _ HTWO17.out HTWOc.out (Kd.C_below HTC.out HB17.out) HTc.out).mono ?_; rintro e w18 ⟨rfl, hb18⟩; have HB18 := Aside0.mk (chain HB17.out hb18 HB17.out.size); clear hb18))
    refine bodyPost_ret (v := .bool true) (by simp [results, Try.results4, go_sem]) rfl ?_
    exact ⟨rfl, chain HB3.out HB18.out HB3.out.size⟩
  · have hST : ¬ S = T := fun h => hxy (by subst h; exact Rep.same HR13.out.tr.once HZ8.out HY6.out)
    simp only [if_neg hST] at HAX
    have hne : ((z : Int) == (v : Int)) = false := by rw [beq_eq_false_iff_ne]; omega
    clear HX HZ8 HY6 hxy hST
    go_wp2_with (first
      | (go_at_call 26; refine (alen_walk F11 p nodes11 empty11 1048576 _ HR13.out.tr.hold.ar).mono ?_; rintro e w14 ⟨rfl, rfl⟩)
      | (go_at_call 25; with_reducible refine (HOS.out _ _ _ (Kd.C_below HSC3.out HB13.out) HSc.out).mono ?_; rintro e w15 ⟨yA, yc, rfl, hyc, hyC, hb15⟩; have HB15 := Aside0.mk (chain HB13.out hb15 HB13.out.size); have HONE15 := Aside0.mk (Kd.C_below HONE13.out hb15); have HTWO15 := Aside0.mk (Kd.C_below HTWO.out hb15); have HYC := Aside0.mk hyC; have HYc := Aside0.mk hyc; clear hyc hyC hb15)
      | (go_at_call 28; with_reducible refine (HAX.out _ _ _ _ _ HYC.out HYc.out (Kd.C_below HTC.out HB15.out) HTc.out).mono ?_; rintro e w16 ⟨rfl, hb16⟩; have HB16 := Aside0.mk (chain HB15.out hb16 HB15.out.size); have HONE16 := Aside0.mk (Kd.C_below HONE15.out hb16); have HTWO16 := Aside0.mk (Kd.C_below HTWO15.out hb16); clear hb16 HYC)
      | (go_at_call 28; with_reducible refine (HAS.out _ _ _ _ _ HONE16.out HONEc.out (Kd.C_below HSC3.out HB16.out) HSc.out).mono ?_; rintro e w17 ⟨rfl, hb17⟩; have HB17 := Aside0.mk (chain HB16.out hb17 HB16.out.size); have HTWO17 := Aside0.mk (Kd.C_below HTWO16.out hb17); clear hb17 HONE16)
      | (go_at_call 28; with_reducible refine (HAT.out _ _ _ _ _ HTWO17.out HTWOc.out (Kd.C_below HTC.out HB17.out) HTc.out).mono ?_; rintro e w18 ⟨rfl, hb18⟩; have HB18 := Aside0.mk (chain HB17.out hb18 HB17.out.size); clear hb18))
    refine bodyPost_ret (v := .bool true) (by simp [results, Try.results4, go_sem]) rfl ?_
    exact ⟨rfl, chain HB3.out HB18.out HB3.out.size⟩
theorem shares_law (rA oA : Option Addr) (rn rc on oc : Nat) (raw other : List Rc) (w : World) (hrl : raw.length = rn) (hR : Kd.C k30 w rA rn raw) (hrc : rn ≤ rc) (hol : other.length = on) (hO : Kd.C k30 w oA on other) (hoc : on ≤ oc) :
    Calls Try.prog 4 #[.slice rA rn rc, .slice oA on oc] w fun e w' => e = .returned (.bool true) ∧ Below w.heap.size w w' := by
  subst hrl hol
  exact shares_walk raw other rA oA rc oc w hR hrc hO hoc
end Go.Proofs.Ytbkbkgfpnefilaa.tr
namespace Go.Proofs.Ytbkbkgfpnefilaa.tr
open Go.RowKit Go.Proofs.Ytbkbkgfpnefilaa.PTreeBuilds Go.Proofs.YtbkbkgfpnefilaaW.PrintWords Go.Proofs.YtbkbkgfpnefilaaW.PrintLast Go.Proofs.YtbkbkgfpnefilaaW.PrintMore Go.Proofs.Ytbkbkgfpnefilaa.bs Go.ChangeShapes Go.Proofs.Ytbkbkgfpnefilaa.lb Go.Proofs.Ytbkbkgfpnefilaa.ar Go.Maps

theorem has_go (c : Rc) (l : List Rc) (hl : l.length ≤ 1000000) : ∀ (d i k : Nat), i + d = l.length → d < k → honeycombref04_Has.l0 k l (l.length : Int) (i : Int) c.f0 c.f1 c.f2 = some (decide (c ∈ l.drop i))
  | 0, i, k, h, hk => by
    obtain ⟨k, rfl⟩ : ∃ m, k = m + 1 := ⟨k - 1, by omega⟩
    unfold honeycombref04_Has.l0
    rw [if_neg (by omega), List.drop_eq_nil_of_le (by omega)]
    simp
  | d + 1, i, k, h, hk => by
    obtain ⟨k, rfl⟩ : ∃ m, k = m + 1 := ⟨k - 1, by omega⟩
    have hlt : i < l.length := by omega
    have hg := List.getElem?_eq_getElem hlt
    have hdr : l.drop i = l[i] :: l.drop (i + 1) := List.drop_eq_getElem_cons hlt
    have hw : wrap64 ((i : Int) + 1) = ((i + 1 : Nat) : Int) := by rw [w64 _ (by omega)]; omega
    unfold honeycombref04_Has.l0
    rw [if_pos (by omega), if_pos (by omega), if_pos (by omega), rdR l i _ hg, hdr, hw]
    by_cases he : l[i] = c
    · rw [if_pos (by rw [he]; simp), decide_eq_true (by rw [he]; exact List.mem_cons_self)]
    · rw [if_neg (fun h => he (by
        obtain ⟨a, b, t⟩ := c
        simp at h
        obtain ⟨h1, h2, h3⟩ := h
        have : l[i] = ⟨l[i].f0, l[i].f1, l[i].f2⟩ := rfl
        rw [this, h1, h2, h3]))]
      rw [has_go c l hl d (i + 1) k (by omega) (by omega)]
      congr 1
      exact decide_eq_decide.2 ⟨List.mem_cons_of_mem _, fun h => (List.mem_cons.1 h).elim (fun h => absurd h.symm he) id⟩
theorem has_val (c : Rc) (l : List Rc) (hl : l.length ≤ 1000000) (k : Nat) (hk : l.length < k) : honeycombref04_Has.f k l c.f0 c.f1 c.f2 = some (decide (c ∈ l)) := by
  have h := has_go c l hl l.length 0 k (by omega) hk
  simpa [honeycombref04_Has.f] using h
/-- what the document's Box is to be, beside the program's -/
def WantP (b0 b1 b2 b3 : Int) (is : Bool) (v : Value) (W : World) : Prop :=
  (b0 = 0 ∧ b1 = 0 ∧ b2 = 0 ∧ b3 = 0 ∧ is = false ∧ v = .slice none 0 0) ∨ (is = true ∧ ∃ g, v = .slice (some ⟨g, 0, none⟩) 4 4 ∧ W.heap[g]? = some (.cells (bxC ⟨b0, b1, b2, b3⟩) 2 (0, 0)))
theorem WantP.drop {b0 b1 b2 b3 : Int} {is : Bool} {v : Value} {W W' : World} (h : WantP b0 b1 b2 b3 is v W) (hb : Below W.heap.size W W') : WantP b0 b1 b2 b3 is v W' := by
  rcases h with h | ⟨h, g, hv, hk⟩
  · exact .inl h
  · exact .inr ⟨h, g, hv, blk_below hk hb⟩
theorem boxed_walk {b0 b1 b2 b3 : Int} {is : Bool} {v : Value} {W : World} (h : WantP b0 b1 b2 b3 is v W) : Calls Try.prog 35 #[.agg #[.int .i64 b0, .int .i64 b1, .int .i64 b2, .int .i64 b3], .bool is, v] W fun e w' => e = .returned (.bool true) ∧ Below W.heap.size W w' := by
  rcases h with ⟨rfl, rfl, rfl, rfl, rfl, rfl⟩ | ⟨rfl, g, rfl, hk⟩
  · exact boxed_none W
  · exact boxed_some ⟨b0, b1, b2, b3⟩ g W hk
/-- the program's box of a set's root, and the document's of the set -/
theorem box_both {l : List Rc} (hn : NearR l) {w w' : World} {e : Ending} (h : TBoxPost (rootQ (l.map ownC)) w e w') : Below w.heap.size w w' ∧ ∃ b0 b1 b2 b3 is, e = .returned (.tuple #[.agg #[.int .i64 b0, .int .i64 b1, .int .i64 b2, .int .i64 b3], .bool is]) ∧ ∀ W e' W', RBoxPost l W e' W' → Below W.heap.size W W' ∧ ∃ v, e' = .returned v ∧ WantP b0 b1 b2 b3 is v W' := by
  obtain ⟨hb, h⟩ := h
  refine ⟨hb, ?_⟩
  rcases h with ⟨hz, he⟩ | ⟨hz, E, hE, he⟩
  · refine ⟨0, 0, 0, 0, false, he, fun W e' W' h2 => ⟨h2.1, ?_⟩⟩
    have hl : l = [] := List.length_eq_zero_iff.1 (by have := hn.count.1; omega)
    rcases h2.2 with ⟨_, he'⟩ | ⟨g, E', _, hB, _⟩
    · exact ⟨_, he', .inl ⟨rfl, rfl, rfl, rfl, rfl, rfl⟩⟩
    · obtain ⟨c, hc, _⟩ := hB.a0
      rw [hl] at hc
      simp at hc
  · refine ⟨E.la, E.lb, E.ha, E.hb, true, he, fun W e' W' h2 => ⟨h2.1, ?_⟩⟩
    rcases h2.2 with ⟨hl, _⟩ | ⟨g, E', he', hB, hk⟩
    · exfalso
      apply hz
      rw [hn.count.1, hl]
      rfl
    · have e1 : E = E' := hE.one hB (fun c => by
        have := hn.cells
        constructor
        · intro hc
          rw [← this]
          exact (sortCl_perm _).mem_iff.2 hc
        · intro hc
          rw [← this] at hc
          exact (sortCl_perm _).mem_iff.1 hc)
      rw [← e1] at hk
      exact ⟨_, he', .inr ⟨rfl, g, rfl, hk⟩⟩
/-- what stays while the law looks -/
structure BS (w3 W : World) (F : Nat → Prop) (p : Nat) (nodes : List Nd) (empty : List Int) (B C : Nat) (b0 b1 b2 b3 c0 c1 c2 : Int) (gA : Option Addr) (S : List Cl) : Prop where
  below : Below w3.heap.size w3 W
  room : Roomy w3 W F p nodes empty 2000
  kb : W.heap[B]? = some (.cells #[.int .i64 b0, .int .i64 b1, .int .i64 b2, .int .i64 b3] 27 (0, 0))
  kc : W.heap[C]? = some (.cells #[.int .i64 c0, .int .i64 c1, .int .i64 c2] 30 (0, 0))
  got : Kd.C k57 W gA S.length S
section
variable {w3 W W' : World} {F : Nat → Prop} {p : Nat} {nodes : List Nd} {empty : List Int} {B C : Nat} {b0 b1 b2 b3 c0 c1 c2 : Int} {gA : Option Addr} {S : List Cl}
theorem BS.drop (h : BS w3 W F p nodes empty B C b0 b1 b2 b3 c0 c1 c2 gA S) (hb : Below W.heap.size W W') : BS w3 W' F p nodes empty B C b0 b1 b2 b3 c0 c1 c2 gA S :=
  ⟨chain h.below hb h.below.size, h.room.below hb, blk_below h.kb hb, blk_below h.kc hb, Kd.C_below h.got hb⟩
theorem c7 (h : BS w3 W F p nodes empty B C b0 b1 b2 b3 c0 c1 c2 gA S) : W.cell? ⟨B, 0, none⟩ = some (.int .i64 b0) ∧ W.cell? ⟨B, 1, none⟩ = some (.int .i64 b1) ∧ W.cell? ⟨B, 2, none⟩ = some (.int .i64 b2) ∧ W.cell? ⟨B, 3, none⟩ = some (.int .i64 b3) ∧ W.cell? ⟨C, 0, none⟩ = some (.int .i64 c0) ∧ W.cell? ⟨C, 1, none⟩ = some (.int .i64 c1) ∧ W.cell? ⟨C, 2, none⟩ = some (.int .i64 c2) :=
  ⟨blk_cell h.kb 0, blk_cell h.kb 1, blk_cell h.kb 2, blk_cell h.kb 3, blk_cell h.kc 0, blk_cell h.kc 1, blk_cell h.kc 2⟩
end
set_option maxRecDepth 100000 in
set_option maxHeartbeats 4000000 in
theorem builds_walk (raw : List Rc) (a b h most : Int) (hm : -9223372036854775808 ≤ most ∧ most ≤ 9223372036854775807) (rA : Option Addr) (rc : Nat) (w : World) (hR : Kd.C k30 w rA raw.length raw) (hrc : raw.length ≤ rc) :
    Calls Try.prog 6 #[.slice rA raw.length rc, .agg #[.int .i64 a, .int .i64 b, .int .i64 h], .int .i64 most] w fun e w' => e = .returned (.bool true) ∧ Below w.heap.size w w' := by
  have hba := below_alloc (Below.refl w.heap.size w) (.cells #[.int .i64 a, .int .i64 b, .int .i64 h] 30)
  have hkc := blk_new w (.cells #[.int .i64 a, .int .i64 b, .int .i64 h] 30)
  have hws := fun (w' : World) (hb : Below w.heap.size w w') => wide_walk raw rA rc w' (Kd.C_below hR hb) hrc
  have hns := wide_near raw
  obtain ⟨s, hs⟩ : ∃ s, wideR raw = s := ⟨_, rfl⟩
  simp only [hs] at hws hns
  have HWS := Aside0.mk hws
  have HNS := Aside0.mk hns
  have HMK := Aside0.mk (fun A c w h1 h2 => (make_near (A := A) (c := c) (w := w) h1 h2 hns.len hns.bd).mono (fun _ _ h => make_roomy (by rw [List.length_map]; exact hns.len) h))
  have HBA := Aside0.mk hba
  have HKC := Aside0.mk hkc
  generalize raw.length = rn at *
  clear hs hws hns hR hrc hba hkc
  go_enter Try.func6, Try.ntmps6
  go_upto_region 1 with (fail)
  generalize w.alloc (.cells #[.int .i64 a, .int .i64 b, .int .i64 h] 30) = w0 at *
  obtain ⟨C, hC⟩ : ∃ C, w.heap.size = C := ⟨_, rfl⟩
  have HCC := Aside0.mk hC
  rw [hC] at HKC
  simp only [hC]
  clear hC
  go_upto_region 4 with (first
    | (go_at_call 15; refine (awake_walk _).mono ?_; rintro e w1 ⟨rfl, hb1⟩; have HB1 := Aside0.mk (chain HBA.out hb1 HBA.out.size); have HKC1 := Aside0.mk (blk_below HKC.out hb1); clear hb1)
    | (go_at_call 22; with_reducible refine (HWS.out _ HB1.out).mono ?_; rintro e w3 ⟨sA, sc, rfl, hsc, hsC, hb3⟩; have HB3 := Aside0.mk (chain HB1.out hb3 HB1.out.size); have HKC3 := Aside0.mk (blk_below HKC1.out hb3); have HSC := Aside0.mk hsC; have HSc := Aside0.mk hsc; clear hsc hsC hb3))
  go_upto_region 7 with (go_at_call 23; with_reducible refine (HMK.out _ _ _ HSC.out HSc.out).mono ?_; rintro e w4 ⟨p, F, nodes, empty, x, rfl, hr4, hx4, hb4⟩; have HR4 := Aside0.mk hr4; have HX4 := Aside0.mk hx4; have HB4 := Aside0.mk hb4; have HKC4 := Aside0.mk (blk_below HKC3.out hb4); clear hr4 hx4 hb4)
  clear HBA HKC HB1 HKC1 HKC3 HWS HMK
  have HCELL := Aside0.mk (cells_roomy HR4.out (by omega) HNS.out HX4.out 100 (by omega))
  have HBOX := Aside0.mk (fun (W : World) (hb : Below w4.heap.size w4 W) => tbox_walk (HR4.out.below hb).tr.hold.ar (HR4.out.below hb).tr.hold.hi (rootQ (s.map ownC)) x HX4.out (by have := HR4.out.len; omega) (by rw [rootQ_lv]; have := rlv_bd (s.map ownC); omega) (by rw [rootQ_lv]; have := rlv_bd (s.map ownC); omega))
  obtain ⟨S, hS⟩ : ∃ S, s.map ownC = S := ⟨_, rfl⟩
  have HSS := Aside0.mk hS
  simp only [hS] at HCELL
  clear hS
  go_upto_region 9 with (first
    | (go_at_call 27; with_reducible refine HCELL.out.mono ?_; rintro e w5 ⟨gA, gc, rfl, hgc, hgC, hb5⟩; have HGC := Aside0.mk hgC; have HGc := Aside0.mk hgc; have HB5 := Aside0.mk hb5; have HKC5 := Aside0.mk (blk_below HKC4.out hb5); clear hgc hgC hb5)
    | (go_at_call 34; with_reducible refine (HBOX.out _ HB5.out).mono ?_; intro e w6 hp; obtain ⟨hb6, b0, b1, b2, b3, is, rfl, hwant⟩ := box_both HNS.out hp; have HWANT := Aside0.mk hwant; have HB6 := Aside0.mk (chain HB5.out hb6 HB5.out.size); have HKC6 := Aside0.mk (blk_below HKC5.out hb6); have HGC6 := Aside0.mk (Kd.C_below HGC.out hb6); clear hp hb6 hwant))
  have hb7 := below_alloc (Below.refl w6.heap.size w6) (.cells #[.int .i64 b0, .int .i64 b1, .int .i64 b2, .int .i64 b3] 27)
  have HBS : Aside0 (BS w3 (w6.alloc (.cells #[.int .i64 b0, .int .i64 b1, .int .i64 b2, .int .i64 b3] 27)) F p nodes empty w6.heap.size C b0 b1 b2 b3 a b h gA S) := ⟨by
    have hb67 := chain HB6.out hb7 HB6.out.size
    exact ⟨chain HB4.out hb67 HB4.out.size, HR4.out.below hb67, blk_new w6 _, blk_below HKC6.out hb7, Kd.C_below HGC6.out hb7⟩⟩
  have hsl := HNS.out.len
  have hct := HNS.out.count
  have hlb := rlv_bd (s.map ownC)
  rw [HSS.out] at hct hlb
  have HARE := Aside0.mk (fun W (hh : BS w3 W F p nodes empty w6.heap.size C b0 b1 b2 b3 a b h gA S) => are_walk S s (by omega) gA sA gc sc W hh.got HGc.out (Kd.C_below HSC.out hh.below) HSc.out)
  rw [HSS.out] at HARE
  simp only [if_true] at HARE
  have HRB := Aside0.mk (fun W (hh : BS w3 W F p nodes empty w6.heap.size C b0 b1 b2 b3 a b h gA S) => (rbox_walk s sA sc W (Kd.C_below HSC.out hh.below)).mono (fun e w' hp => HWANT.out _ _ _ hp))
  have HBXD := Aside0.mk (fun W v (hh : WantP b0 b1 b2 b3 is v W) => boxed_walk hh)
  have HLEV := Aside0.mk (fun W (hh : BS w3 W F p nodes empty w6.heap.size C b0 b1 b2 b3 a b h gA S) => by
    have := level_walk F p nodes empty 1048576 W hh.room.tr.hold.ar x (by omega) (by have := HX4.out.lt; have := hh.room.len; omega)
    rw [HX4.out.lv, rootQ_lv, HSS.out] at this
    exact this)
  have HRL := Aside0.mk (fun W (hh : BS w3 W F p nodes empty w6.heap.size C b0 b1 b2 b3 a b h gA S) => by
    have := honeycombref13_Level.calls 10000 sA sc s _ W (Kd.C_below HSC.out hh.below) HSc.out (rlevel_val s (fun c hc => by have := HNS.out.bd c hc; omega) (by omega) 10000 (by omega))
    rw [HSS.out] at this
    exact this)
  have HCNT := Aside0.mk (fun W (hh : BS w3 W F p nodes empty w6.heap.size C b0 b1 b2 b3 a b h gA S) => by
    have := ncount_walk F p nodes empty 1048576 W hh.room.tr.hold.ar x (by omega) (by have := HX4.out.lt; have := hh.room.len; omega)
    rw [HX4.out.cnt, HSS.out, hct.1] at this
    exact this)
  have HOWN := Aside0.mk (fun w => honeycomblaw03_Own.calls a b h a b h w rfl)
  have HGET := Aside0.mk (fun W (hh : BS w3 W F p nodes empty w6.heap.size C b0 b1 b2 b3 a b h gA S) => by
    have := get_walk hh.room.tr.hold.ar (rootQ (s.map ownC)) x HX4.out (by rw [rootQ_lv]; have := rlv_bd (s.map ownC); omega) a b h
    have e : getQ (rootQ (s.map ownC)) a b h = decide ((⟨a, b, h⟩ : Rc) ∈ s) := by
      rw [getQ_root _ HNS.out.ok.1 HNS.out.ok.2]
      exact decide_eq_decide.2 (mem_own s ⟨⟨a, b⟩, h⟩)
    rw [e] at this
    exact this)
  have HHAS := Aside0.mk (fun W (hh : BS w3 W F p nodes empty w6.heap.size C b0 b1 b2 b3 a b h gA S) => honeycombref04_Has.calls 1000 sA sc s a b h _ W (Kd.C_below HSC.out hh.below) HSc.out (has_val ⟨a, b, h⟩ s (by omega) 1000 (by omega)))
  generalize decide ((⟨a, b, h⟩ : Rc) ∈ s) = tb at *
  generalize (rlv S : Int) = n at *
  have hcv : IntKind.u64.wrap (s.length : Int) = (s.length : Int) := by simp [IntKind.wrap, IntKind.bits, IntKind.signed]; omega
  generalize w6.alloc (.cells #[.int .i64 b0, .int .i64 b1, .int .i64 b2, .int .i64 b3] 27) = w7 at *
  obtain ⟨B, hB⟩ : ∃ B, w6.heap.size = B := ⟨_, rfl⟩
  simp only [hB] at HBS HARE HRB HLEV HRL HCNT HGET HHAS ⊢
  have HLEN := Aside0.mk hsl
  have HCT := Aside0.mk hct.1
  clear hB hb7 hct hlb hsl HB4 HKC4 HB5 HKC5 HB6 HKC6 HGC HGC6 HCELL HBOX HWANT
  have BS5 := Aside0.mk (HBS.out.drop (Below.refl _ _).drew)
  obtain ⟨q0, q1, q2, q3, q4, q5, q6⟩ := c7 BS5.out
  clear HBS
  go_region_held3 (fun w' => w'.cell? ⟨B, 0, none⟩ = some (.int .i64 b0) ∧ w'.cell? ⟨B, 1, none⟩ = some (.int .i64 b1) ∧ w'.cell? ⟨B, 2, none⟩ = some (.int .i64 b2) ∧ w'.cell? ⟨B, 3, none⟩ = some (.int .i64 b3) ∧ w'.cell? ⟨C, 0, none⟩ = some (.int .i64 a) ∧ w'.cell? ⟨C, 1, none⟩ = some (.int .i64 b) ∧ w'.cell? ⟨C, 2, none⟩ = some (.int .i64 h)) (exact c7 BS5.out) (first
    | (go_at_call 28; refine (HARE.out _ BS5.out).mono ?_; rintro e w8 ⟨rfl, hb⟩; have BS5 := Aside0.mk (BS5.out.drop hb); obtain ⟨q0, q1, q2, q3, q4, q5, q6⟩ := c7 BS5.out; clear hb)
    | (go_at_call 36; refine (HRB.out _ BS5.out).mono ?_; rintro e w8 ⟨hb, v, rfl, hw⟩; have HW := Aside0.mk hw; have BS5 := Aside0.mk (BS5.out.drop hb); obtain ⟨q0, q1, q2, q3, q4, q5, q6⟩ := c7 BS5.out; clear hb hw)
    | (go_at_call 35; refine (HBXD.out _ _ HW.out).mono ?_; rintro e w8 ⟨rfl, hb⟩; have BS5 := Aside0.mk (BS5.out.drop hb); obtain ⟨q0, q1, q2, q3, q4, q5, q6⟩ := c7 BS5.out; clear hb)
    | (go_at_call 29; refine (HLEV.out _ BS5.out).mono ?_; rintro e w8 ⟨rfl, rfl⟩)
    | (go_at_call 17; refine (HRL.out _ BS5.out).mono ?_; rintro e w8 ⟨rfl, hb⟩; have BS5 := Aside0.mk (BS5.out.drop hb); obtain ⟨q0, q1, q2, q3, q4, q5, q6⟩ := c7 BS5.out; clear hb)
    | (go_at_call 37; refine (HCNT.out _ BS5.out).mono ?_; rintro e w8 ⟨rfl, rfl⟩)
    | (go_at_call 31; refine (HOWN.out _).mono ?_; rintro e w8 ⟨rfl, hb⟩; have BS5 := Aside0.mk (BS5.out.drop hb); obtain ⟨q0, q1, q2, q3, q4, q5, q6⟩ := c7 BS5.out; clear hb)
    | (go_at_call 38; refine (HGET.out _ BS5.out).mono ?_; rintro e w8 ⟨rfl, hb⟩; have BS5 := Aside0.mk (BS5.out.drop hb); obtain ⟨q0, q1, q2, q3, q4, q5, q6⟩ := c7 BS5.out; clear hb)
    | (go_at_call 39; refine (HHAS.out _ BS5.out).mono ?_; rintro e w8 ⟨rfl, hb⟩; have BS5 := Aside0.mk (BS5.out.drop hb); obtain ⟨q0, q1, q2, q3, q4, q5, q6⟩ := c7 BS5.out; clear hb))
  all_goals (
    have hcnt := HCT.out
    have hlv := rlv_bd (s.map ownC)
    have hlen := HLEN.out
    by_cases hlt : most < (s.length : Int)
    · have HCB := Aside0.mk (cells_big BS5.out.room.tr.hold.ar (rootQ (s.map ownC)) x HX4.out (by rw [rootQ_lv]; omega) most hm (.inr (by rw [HSS.out, hcnt]; exact hlt)))
      have hn33 := fun (w : World) => errEq w 3 3
      rw [show ((3 : Int) == 3) = true from by decide] at hn33
      clear hcnt hlv hlen q0 q1 q2 q3 q4 q5 q6 hm HARE HRB HBXD HLEV HRL HCNT HOWN HGET HHAS hcv
      go_wp2_with (go_at_call 27; refine HCB.out.mono ?_; rintro e w9 ⟨rfl, rfl⟩)
      refine bodyPost_ret (v := .bool true) (by simp [results, Try.results6, go_sem]) rfl ?_
      exact ⟨rfl, chain HB3.out BS5.out.below HB3.out.size⟩
    · have hrc := HNS.out.count
      rw [HSS.out] at hrc
      have HCB := Aside0.mk (cells_ok BS5.out.room.tr.hold.ar (by have := BS5.out.room.len; omega) BS5.out.room.tr.hold.hi (rootQ (s.map ownC)) x HX4.out (by rw [rootQ_lv]; omega) (by rw [rootQ_lv]; omega) (by rw [HSS.out, hrc.2]; omega) most hm ⟨by omega, by rw [HSS.out, hcnt]; omega⟩)
      rw [HNS.out.cells] at HCB
      have hsm : (s.map ownC).length = s.length := List.length_map _
      clear hcnt hlv hlen q0 q1 q2 q3 q4 q5 q6 hm hrc HARE HRB HBXD HLEV HRL HCNT HOWN HGET HHAS hcv
      go_wp2_with (go_at_call 27; refine HCB.out.mono ?_; rintro e w9 ⟨v9, rfl, hr9, hb9⟩; obtain ⟨A9, c9, rfl, _, _⟩ := Kd.R_reads hr9; rw [hsm]; have HB9 := Aside0.mk (BS5.out.drop hb9).below; clear hr9 hb9)
      refine bodyPost_ret (v := .bool true) (by simp [results, Try.results6, go_sem]) rfl ?_
      exact ⟨rfl, chain HB3.out HB9.out HB3.out.size⟩)
theorem builds_law (rA : Option Addr) (rn rc : Nat) (raw : List Rc) (a b h most : Int) (h0 : -9223372036854775808 ≤ most) (h1 : most ≤ 9223372036854775807) (w : World) (hrl : raw.length = rn) (hR : Kd.C k30 w rA rn raw) (hrc : rn ≤ rc) :
    Calls Try.prog 6 #[.slice rA rn rc, .agg #[.int .i64 a, .int .i64 b, .int .i64 h], .int .i64 most] w fun e w' => e = .returned (.bool true) ∧ Below w.heap.size w w' := by
  subst hrl
  exact builds_walk raw a b h most ⟨h0, h1⟩ rA rc w hR hrc
end Go.Proofs.Ytbkbkgfpnefilaa.tr
namespace Go.Proofs.Ytbkbkgfpnefilaa.lawTreeBuilds
open Go.ChangeShapes Go.WideShapes Go.ChangeAt Go.RowKit Go.Joins

theorem params_read : ∀ t ∈ Try.f6.params.toList, Try.prog.readableRec t = true ∧ t < Try.prog.types.size := by
  have h : (Try.f6.params.toList.all fun t => Try.prog.readableRec t && decide (t < Try.prog.types.size)) = true := by kernel_rfl
  intro t ht
  have := List.all_eq_true.1 h t ht
  simpa using this
set_option maxRecDepth 100000 in
theorem contract (H : Type) (enc : TypeId × Value → H) (W : World) (base : Nat) (args : Array Value) (ds gs : List (DataW H)) (before : List MemPlace)
    (hval : ∀ (j : Nat) t v, Try.f6.params[j]? = some t → args[j]? = some v → Value.okWide Try.prog W .any base t v)
    (hW : DataW.Whole enc Try.prog Try.f6.params.toList Rows.treeBuildsSpec.vars false W args.toList ds gs before) :
    Calls Try.prog 6 args W fun e W' => ∃ v, e = .returned v ∧ Rows.treeBuildsSpec.post enc Try.prog Try.f6 false true false false W args v W' := by
  have hW' := hW
  obtain ⟨p, q, hA0, hV, rfl, hfz, hnd⟩ := hW
  have hA : DataW.TrodAll enc Try.prog W 0 (fun _ => true) true Try.f6.params.toList args.toList ds p := hA0
  rw [Try.params6] at hA hval
  obtain ⟨v0, vs0, d0, ds0, p0, q0, hargs, rfl, rfl, h0, r0⟩ := trodAll_cons hA
  obtain ⟨v1, vs1, d1, ds1, p1, q1, rfl, rfl, rfl, h1, r1⟩ := trodAll_cons r0
  obtain ⟨v2, vs2, d2, ds2, p2, q2, rfl, rfl, rfl, h2, r2⟩ := trodAll_cons r1
  obtain ⟨rfl, rfl, rfl⟩ := trodAll_nil r2
  obtain rfl : args = #[v0, v1, v2] := by cases args; simp_all
  obtain ⟨rfl, rfl⟩ := trodVars_none hV
  obtain ⟨rawA, rawn, rawc, raw, rfl, rawl, rawC, rawg, rawm⟩ := tr.open_rowsC PTreeBuilds.k30 tr.RcOk Try.underlying31 (by kernel_rfl) (fun m cs y h => tr.rcell_open m cs y h) (hval 0 31 v0 rfl rfl) h0
  obtain ⟨c, rfl, bc⟩ := tr.open_rcell (hval 1 30 v1 rfl rfl) h1
  obtain ⟨most, rfl, rfl, rfl, wmost⟩ := open_int Try.underlying3 (hval 2 3 v2 rfl rfl) h2
  clear hA0
  have bmost := bs.bd_i64 wmost
  refine (tr.builds_law rawA rawn rawc raw c.f0 c.f1 c.f2 most bmost.1 bmost.2 W rawl rawC rawm).mono fun e W' ⟨he, hg⟩ => ?_
  subst he
  exact ⟨_, rfl, bs.post_law (tb := 4) hW' hg (by kernel_rfl) params_read rfl rfl Try.underlying4 rfl (fun _ => okWide_bool_mk Try.underlying4 _)⟩

theorem own : ownKnob Try.prog.godebug = none := by kernel_rfl
set_option maxRecDepth 100000 in
theorem lifted (os : Os) (started : os.Started) (H : Type) (enc : TypeId × Value → H) :
    ReturnsInHanded {} Try.checked os 6 .any (Rows.treeBuildsSpec.pre6 enc Try.prog Try.f6 Rows.treeBuildsRow.domain false) (Rows.treeBuildsSpec.post enc Try.prog Try.f6 false true false false) := by
  refine returnsInHanded_of_change_sized (C := Try.checked) own started (by kernel_rfl) Try.func6
    (ChangeSpec.witness6 (enc := enc) (C := Try.checked) false ⟨#[], #[Value.slice none 0 0, .agg #[.int .i64 0, .int .i64 0, .int .i64 0], .int .i64 0], []⟩ 8 (by kernel_rfl) (by kernel_rfl) (by kernel_rfl) (by kernel_rfl)) ?_
  intro W base args ds gs before hval hW _ _ _
  exact contract H enc W base args ds gs before hval hW

theorem said : Rows.TreeBuildsSaid :=
  OpenClaim.holds_of_wide 6 Try.f6 rfl rfl rfl rfl rfl rfl rfl ⟨rfl, rfl, rfl, rfl, rfl⟩ rfl rfl rfl rfl rfl (by kernel_rfl) Try.func6 (by kernel_rfl)
    (of_decide_eq_true (by kernel_rfl)) (by unfold Func.isWrapper; first | (rw [if_pos (by decide +kernel)]; kernel_rfl) | (rw [if_neg (by decide +kernel)]; exact ⟨rfl, rfl⟩))
    (fun os started H enc _ => lifted os started H enc)
end Go.Proofs.Ytbkbkgfpnefilaa.lawTreeBuilds
