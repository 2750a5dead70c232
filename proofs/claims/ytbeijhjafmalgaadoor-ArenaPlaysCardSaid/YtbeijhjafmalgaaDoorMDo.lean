/- The walk over the law's world.does: empty nodes, and how many there may be; all calls. -/
import Derived.Test.YtbeijhjafmalgaaDoorMWd
import Derived.Deep.RegionHeldLaw
namespace Go.Proofs.YtbeijhjafmalgaaDoor.ar
open Go.RowKit Go.Proofs.YtbeijhjafmalgaaDoorW.PrintWords Go.Proofs.YtbeijhjafmalgaaDoorW.PrintLast Go.Proofs.YtbeijhjafmalgaaDoorW.PrintMore Go.Proofs.YtbeijhjafmalgaaDoor.bs Go.ChangeShapes Go.Proofs.YtbeijhjafmalgaaDoor.lb

/-- a call, in memory -/
structure Ac where
  kind : Int
  bits : Nat
  k0 : Int
  k1 : Int
  k2 : Int
  k3 : Int
  n : Int
structure AcOk (c : Ac) : Prop where
  kind : I64 c.kind
  bits : c.bits < 4294967296
  k0 : I64 c.k0
  k1 : I64 c.k1
  k2 : I64 c.k2
  k3 : I64 c.k3
  n : I64 c.n
def Ac.cells (c : Ac) : Array Value := #[.int .i64 c.kind, .int .u32 c.bits, .int .i64 c.k0, .int .i64 c.k1, .int .i64 c.k2, .int .i64 c.k3, .int .i64 c.n]
theorem sDoes {w : World} {P C p : Nat} {xv av : Value} {most : Int} {c : Ac} {tw ta : TypeId} (hP : w.heap[P]? = some (.cells #[.pointer (some ⟨p, 0, none⟩), xv, .int .i64 most, av] tw (0, 0))) (hC : w.heap[C]? = some (.cells c.cells ta (0, 0))) :
    w.cell? ⟨P, 1, none⟩ = some xv ∧ w.cell? ⟨P, 2, none⟩ = some (.int .i64 most) ∧ w.cell? ⟨C, 1, none⟩ = some (.int .u32 c.bits) :=
  ⟨blk_cell hP 1, blk_cell hP 2, blk_cell hC 1⟩
/-- a reference's answer laid into a variable of the call -/
def YPost (w0 wr : World) (F : Nat → Prop) (most : Int) (r : List Nd × Int × Int) (v6 v7 v8 : Value) (wx : World) : Prop :=
  ∃ y A1 c1, v6 = .pointer (some ⟨y, 0, none⟩) ∧ v7 = .int .i64 r.2.1 ∧ v8 = .int .i64 r.2.2 ∧ wx.heap[y]? = some (.cells #[.slice A1 r.1.length c1, .int .i64 most] 47 (0, 0)) ∧ ¬ F y ∧ Kd.R kRn 69 wx 0 (Oth w0 F) (.slice A1 r.1.length c1) r.1 ∧ Below wr.heap.size wr wx
section
variable {w0 wr w1 : World} {F : Nat → Prop} {P p : Nat} {nodes nodesX : List Nd} {ats empty : List Int} {most : Int} {xv av : Value} {r : List Nd × Int × Int} {A1 : Option Addr} {c1 : Nat}
theorem yp_new (D : Wd w0 wr F P p nodes nodesX ats empty most xv av) (hb : Below wr.heap.size wr w1) (hR : Kd.R kRn 69 w1 0 (More (Oth w0 F) wr) (.slice A1 r.1.length c1) r.1) :
    YPost w0 wr F most r (.pointer (some ⟨w1.heap.size, 0, none⟩)) (.int .i64 r.2.1) (.int .i64 r.2.2) (w1.alloc (.cells #[.slice A1 r.1.length c1, .int .i64 most] 47)) :=
  ⟨_, A1, c1, rfl, rfl, rfl, blk_new w1 _, fun hf => by have := D.hold.hi _ hf; have := hb.size; omega, Kd.R_alloc (oth_more D.hold D.below hR) _, below_alloc hb _⟩
theorem yp_old (D : Wd w0 wr F P p nodes nodesX ats empty most xv av) (hb : Below wr.heap.size wr w1) (hR : Kd.R kRn 69 w1 0 (More (Oth w0 F) wr) (.slice A1 r.1.length c1) r.1) (ky : w1.heap[wr.heap.size]? = some (.cells #[.slice none 0 0, .int .i64 0] 47 (0, 0))) :
    YPost w0 wr F most r (.pointer (some ⟨wr.heap.size, 0, none⟩)) (.int .i64 r.2.1) (.int .i64 r.2.2) ((w1.setCell ⟨wr.heap.size, 0, none⟩ (.slice A1 r.1.length c1)).setCell ⟨wr.heap.size, 1, none⟩ (.int .i64 most)) :=
  ⟨_, A1, c1, rfl, rfl, rfl, blk_put (blk_set ky 0 _) 1 _ rfl, fun hf => by have := D.hold.hi _ hf; omega, rn_store2 (oth_more D.hold D.below hR) ky _ _, (hb.setCell (p := ⟨wr.heap.size, 0, none⟩) (Nat.le_refl _) _).setCell (p := ⟨wr.heap.size, 1, none⟩) (Nat.le_refl _) _⟩
end
theorem sDoes2 {w : World} {P C p : Nat} {xv av : Value} {most : Int} {c : Ac} {tw ta : TypeId} (hP : w.heap[P]? = some (.cells #[.pointer (some ⟨p, 0, none⟩), xv, .int .i64 most, av] tw (0, 0))) (hC : w.heap[C]? = some (.cells c.cells ta (0, 0))) :
    w.cell? ⟨P, 0, none⟩ = some (.pointer (some ⟨p, 0, none⟩)) ∧ w.cell? ⟨C, 1, none⟩ = some (.int .u32 c.bits) :=
  ⟨blk_cell hP 0, blk_cell hC 1⟩
theorem rmore {G : Nat → Prop} {w W w1 : World} {v : Value} {xs : List Nd} (h : Kd.R kRn 69 w1 0 (More G W) v xs) (hs : w.heap.size ≤ W.heap.size) : Kd.R kRn 69 w1 0 (More G w) v xs :=
  Kd.R_mono h (fun _ hk => hk.elim .inl (fun hk => .inr (Nat.le_trans hs hk)))
set_option maxRecDepth 100000 in
set_option maxHeartbeats 4000000 in
theorem does_leaf (w0 w : World) (P p : Nat) (nodes : List Nd) (empty : List Int) (most : Int) (c : Ac) (hc : AcOk c) (S : WSt w0 w P p nodes empty most) (hE : ec.ErrAt w0) (hm : most ≤ 9223372036854775807 ∧ 64 ≤ most) (hN : nodes.length < 500000000) (hk : (c.kind % 256) % 8 < 2) :
    Calls Tryd.prog 17 #[.pointer (some ⟨P, 0, none⟩), .agg c.cells] w fun e w' => DoesPost w0 P p nodes.length e w' := by
  obtain ⟨⟨F, xv, av, D⟩, ok, ch⟩ := S
  have DD := Aside0.mk (D.drop (below_alloc (Below.refl _ _) (.cells c.cells 55)))
  have KC := Aside0.mk (blk_new w (.cells c.cells 55))
  have hcF : Aside0 (¬ F w.heap.size) := ⟨fun hf => by have := D.hold.hi _ hf; omega⟩
  have HOK := Aside0.mk ok
  have HCH := Aside0.mk ch
  have HE := Aside0.mk hE
  have HM := Aside0.mk hm
  have HC := Aside0.mk hc
  have h255 := bs.and255 c.kind
  have hk0 : 0 ≤ (c.kind % 256) := Int.emod_nonneg _ (by decide)
  clear D ok ch hE hm hc
  have hkk : (c.kind % 256).tmod 8 = (c.kind % 256) % 8 := Int.tmod_eq_emod_of_nonneg hk0
  unfold Ac.cells at *
  go_enter Tryd.func17, Tryd.ntmps17
  go_upto_region 1 with (fail)
  generalize w.heap.size = C at *
  generalize w.alloc (.cells #[.int .i64 c.kind, .int .u32 c.bits, .int .i64 c.k0, .int .i64 c.k1, .int .i64 c.k2, .int .i64 c.k3, .int .i64 c.n] 55) = wr at *
  have c0 := blk_cell KC.out 0
  simp only [List.getElem?_toArray, List.getElem?_cons_zero] at c0
  obtain ⟨K, hK⟩ : ∃ K, (c.kind % 256) % 8 = K := ⟨_, rfl⟩
  rw [hK] at hkk hk
  have hKb : 0 ≤ K ∧ K < 8 := by omega
  have HK := Aside0.mk hK
  clear hK
  go_upto_region 2 with (fail)
  clear h255 hkk c0 hk0
  obtain ⟨xa, xc, rfl⟩ := Kd.R_slice DD.out.hx
  have hst := leaf_step nodes most c.bits
  have href := fun (W : World) (hb : Below wr.heap.size wr W) => rleaf_walk nodes most c.bits HC.out.bits xa xc (Oth w0 F) W (Kd.R_below DD.out.hx hb) (by omega)
  have hsame := leaf_same nodes most c.bits
  obtain ⟨r, hr⟩ : ∃ r, raddR nodes most ⟨leafKey c.bits, (popN 32 c.bits : Nat)⟩ = r := ⟨_, rfl⟩
  rw [hr] at hst hsame
  simp only [hr] at href
  have HST := Aside0.mk hst
  have HREF := Aside0.mk href
  have HSAME := Aside0.mk hsame
  clear hst href hsame hr
  have p1 := blk_cell DD.out.blk 1
  have p2 := blk_cell DD.out.blk 2
  have c1 := blk_cell KC.out 1
  simp only [List.getElem?_toArray, List.getElem?_cons_zero, List.getElem?_cons_succ] at p1 p2 c1
  go_upto_region 3 with (fail)
  go_cut [6, 7, 8] (fun v6 v7 v8 wx => YPost w0 wr F most r v6 v7 v8 wx)
  case first =>
    go_region_held_law (fun w' => w'.cell? ⟨P, 1, none⟩ = some (.slice xa nodes.length xc) ∧ w'.cell? ⟨P, 2, none⟩ = some (.int .i64 most) ∧ w'.cell? ⟨C, 1, none⟩ = some (.int .u32 c.bits)) (refine sDoes (c := c) (blk_below DD.out.blk ?_) (blk_below KC.out ?_) <;> ((repeat' (first | (with_reducible exact Below.refl _ _) | (with_reducible assumption) | (with_reducible refine Below.alloc ?_ ?_ _) | (with_reducible refine Below.drew ?_) | (with_reducible refine Below.setCell ?_ ?_ _) | (with_reducible refine chain ?_ (by assumption) ?_) | go_size)))) (first | ((go_at_call 24; refine (HREF.out (wr.drew) (by (repeat' (first | (with_reducible exact Below.refl _ _) | (with_reducible assumption) | (with_reducible refine Below.alloc ?_ ?_ _) | (with_reducible refine Below.drew ?_) | (with_reducible refine Below.setCell ?_ ?_ _) | (with_reducible refine chain ?_ (by assumption) ?_) | go_size)))).mono ?_; rintro e w1 ⟨A1, c1, rfl, hR1, hB1⟩; have hbw : Below wr.heap.size wr w1 := chain (by (repeat' (first | (with_reducible exact Below.refl _ _) | (with_reducible assumption) | (with_reducible refine Below.alloc ?_ ?_ _) | (with_reducible refine Below.drew ?_) | (with_reducible refine Below.setCell ?_ ?_ _) | (with_reducible refine chain ?_ (by assumption) ?_) | go_size))) hB1 (by simp <;> omega); have hs1 : wr.heap.size ≤ w1.heap.size := hbw.size; have HR1 := Aside0.mk (rmore (w := wr) hR1 (by simp <;> omega)); skip; clear hR1 hB1)) | ((go_at_call 24; refine (HREF.out ((wr.alloc (.cells #[.slice none 0 0, .int .i64 0] 47)).drew) (by (repeat' (first | (with_reducible exact Below.refl _ _) | (with_reducible assumption) | (with_reducible refine Below.alloc ?_ ?_ _) | (with_reducible refine Below.drew ?_) | (with_reducible refine Below.setCell ?_ ?_ _) | (with_reducible refine chain ?_ (by assumption) ?_) | go_size)))).mono ?_; rintro e w1 ⟨A1, c1, rfl, hR1, hB1⟩; have hbw : Below wr.heap.size wr w1 := chain (by (repeat' (first | (with_reducible exact Below.refl _ _) | (with_reducible assumption) | (with_reducible refine Below.alloc ?_ ?_ _) | (with_reducible refine Below.drew ?_) | (with_reducible refine Below.setCell ?_ ?_ _) | (with_reducible refine chain ?_ (by assumption) ?_) | go_size))) hB1 (by simp <;> omega); have hs1 : wr.heap.size ≤ w1.heap.size := hbw.size; have HR1 := Aside0.mk (rmore (w := wr) hR1 (by simp <;> omega)); have KY1 := Aside0.mk (blk_below (blk_below (blk_new wr (.cells #[.slice none 0 0, .int .i64 0] 47)) (below_drew (Below.refl _ _))) hB1); have y0 := blk_cell KY1.out 0; have y1 := blk_cell KY1.out 1; have fy0 := blk_frozen KY1.out 0; have fy1 := blk_frozen KY1.out 1; simp only [List.getElem?_toArray, List.getElem?_cons_zero, List.getElem?_cons_succ] at y0 y1; clear hR1 hB1)))
    all_goals go_wp2_with (fail)
    all_goals go_meet
    · exact yp_new DD.out hbw HR1.out
    · exact yp_old DD.out hbw HR1.out KY1.out
  case rest =>
    obtain ⟨y, A1, c1, rfl, rfl, rfl, ky, hyF, hR, hb⟩ := hcut
    have KY := Aside0.mk ky
    have HR := Aside0.mk hR
    have HYF := Aside0.mk hyF
    have D1 := Aside0.mk (DD.out.drop hb)
    have KC1 := Aside0.mk (blk_below KC.out hb)
    clear ky hR hyF hb DD KC HREF p1 p2
    have Dd := Aside0.mk (D1.out.drop (below_drew (Below.refl _ _)))
    have HRd := Aside0.mk (Kd.R_drew HR.out)
    have KYd := Aside0.mk (blk_below KY.out (below_drew (Below.refl _ _)))
    have KCd := Aside0.mk (blk_below KC1.out (below_drew (Below.refl _ _)))
    have hCF : Aside0 (¬ F C) := hcF
    have hle := hold_leaf Dd.out.hold Dd.out.below.size c.bits HC.out.bits (by omega)
    rw [HSAME.out] at hle
    have HAR := Aside0.mk hle
    clear hle HR KY D1 KC1
    go_upto_region 4 with (fail)
    go_region_held_law (fun w' => w'.cell? ⟨P, 0, none⟩ = some (.pointer (some ⟨p, 0, none⟩)) ∧ w'.cell? ⟨C, 1, none⟩ = some (.int .u32 c.bits)) (first | exact sDoes2 (c := c) Dd.out.blk KCd.out | exact sDoes2 (c := c) D3.out.blk KC3.out) ((go_at_call 19; refine HAR.out.mono ?_; rintro e w3 ⟨rfl, F', ho⟩; have D3 := Aside0.mk (Dd.out.onto ho); have HR3 := Aside0.mk (R_onto HRd.out ho); have KY3 := Aside0.mk ((ho.keeps.block y (blk_lt KYd.out) HYF.out).trans KYd.out); have KC3 := Aside0.mk ((ho.keeps.block C (blk_lt KCd.out) hCF.out).trans KCd.out); clear ho))
    clear HAR Dd HRd KYd KCd
    have y0 := blk_cell KY3.out 0
    have y1 := blk_cell KY3.out 1
    simp only [List.getElem?_toArray, List.getElem?_cons_zero, List.getElem?_cons_succ] at y0 y1
    obtain ⟨l, hl, hl1⟩ := HST.out.ext
    have hlen : r.1.length ≤ nodes.length + 1 := by rw [hl, List.length_append]; omega
    clear hl hl1
    have HF := Aside0.mk (fits_any D3.out (HE.out.below D3.out.below) A1 _ HR3.out HST.out (by omega))
    go_wp2_with (fail)
    refine HF.out.mono ?_
    rintro e w4 ⟨xv4, av4, rfl, d4⟩
    have D4 := Aside0.mk d4
    clear d4 HF D3 HR3 KY3 y0 y1
    have HOK4 := Aside0.mk (HST.out.ok HOK.out)
    obtain ⟨l, hl, hl1⟩ := HST.out.ext
    have HCH4 : Aside0 (Chain r.1 empty) := ⟨by rw [hl]; exact HCH.out.ext l⟩
    go_wp2_with (fail)
    go_ret
    exact ⟨rfl, r.1, empty, most, HM.out.1, HM.out.2, ⟨⟨F', xv4, av4, D4.out⟩, HOK4.out, HCH4.out⟩, by omega⟩
end Go.Proofs.YtbeijhjafmalgaaDoor.ar
namespace Go.Proofs.YtbeijhjafmalgaaDoor.ar
open Go.RowKit Go.Proofs.YtbeijhjafmalgaaDoorW.PrintWords Go.Proofs.YtbeijhjafmalgaaDoorW.PrintLast Go.Proofs.YtbeijhjafmalgaaDoorW.PrintMore Go.Proofs.YtbeijhjafmalgaaDoor.bs Go.ChangeShapes Go.Proofs.YtbeijhjafmalgaaDoor.lb

def uCells (os : List Int) : Array Value := (os.map (Value.int .u32)).toArray
theorem uCells_get (os : List Int) (j : Nat) (x : Int) (h : os[j]? = some x) : (uCells os)[j]? = some (.int .u32 x) := by simp [uCells, h]
theorem uCells_set (os : List Int) (j : Nat) (x : Int) : (uCells os).setIfInBounds j (.int .u32 x) = uCells (os.set j x) := by simp [uCells, List.map_set]
/-- the first j numbers are laid -/
def OwnTo (nodes : List Nd) (z0 z1 z2 z3 : Int) (j : Nat) (os : List Int) : Prop := os.length = 4 ∧ ∀ i, i < j → os[i]? = some (ownOf nodes (kidOf z0 z1 z2 z3 i))
theorem ownTo_zero (nodes : List Nd) (z0 z1 z2 z3 : Int) : OwnTo nodes z0 z1 z2 z3 0 [0, 0, 0, 0] := ⟨rfl, fun i h => by omega⟩
theorem OwnTo.get {nodes : List Nd} {z0 z1 z2 z3 : Int} {j : Nat} {os : List Int} (h : OwnTo nodes z0 z1 z2 z3 j os) (i : Nat) (hi : i < 4) : ∃ x, os[i]? = some x := ⟨_, List.getElem?_eq_getElem (by rw [h.1]; exact hi)⟩
theorem OwnTo.next {nodes : List Nd} {z0 z1 z2 z3 : Int} {j : Nat} {os : List Int} (h : OwnTo nodes z0 z1 z2 z3 j os) (hj : j < 4) {v : Int} (hv : ownOf nodes (kidOf z0 z1 z2 z3 j) = v) : OwnTo nodes z0 z1 z2 z3 (j + 1) (os.set j v) := by
  refine ⟨by rw [List.length_set]; exact h.1, fun i hi => ?_⟩
  by_cases e : i = j
  · subst e; rw [List.getElem?_set_self (by rw [h.1]; exact hj), hv]
  · rw [List.getElem?_set_ne (by omega)]; exact h.2 i (by omega)
theorem OwnTo.set {nodes : List Nd} {z0 z1 z2 z3 : Int} {j : Nat} {os : List Int} (h : OwnTo nodes z0 z1 z2 z3 j os) (v : Int) : OwnTo nodes z0 z1 z2 z3 j (os.set j v) := by
  refine ⟨by rw [List.length_set]; exact h.1, fun i hi => ?_⟩
  rw [List.getElem?_set_ne (by omega)]; exact h.2 i hi
theorem OwnTo.all {nodes : List Nd} {z0 z1 z2 z3 : Int} {os : List Int} (h : OwnTo nodes z0 z1 z2 z3 4 os) : os = [ownOf nodes z0, ownOf nodes z1, ownOf nodes z2, ownOf nodes z3] := by
  obtain ⟨hl, hg⟩ := h
  match os, hl with
  | [a, b, c, d], _ =>
    have h0 := hg 0 (by omega)
    have h1 := hg 1 (by omega)
    have h2 := hg 2 (by omega)
    have h3 := hg 3 (by omega)
    simp [kidOf] at h0 h1 h2 h3
    rw [h0, h1, h2, h3]
/-- another block of the call's own written -/
theorem Wd.other {w0 w : World} {F : Nat → Prop} {P p o : Nat} {nodes nodesX : List Nd} {ats empty : List Int} {most : Int} {xv av : Value} {cs : Array Value} (h : Wd w0 w F P p nodes nodesX ats empty most xv av) (ko : w.heap[o]? = some (.cells cs 32 (0, 0))) (hF : ¬ F o) (hw : w0.heap.size ≤ o) (j : Nat) (u : Value) : Wd w0 (w.setCell ⟨o, j, none⟩ u) F P p nodes nodesX ats empty most xv av := by
  have hPo : P ≠ o := fun e => by
    have h1 := h.blk
    rw [e, ko] at h1
    injection h1 with h1
    injection h1 with _ ht _
    exact absurd ht (by decide)
  have e1 : kRn.E = [] := rfl
  have e2 : (Kd.int IntKind.u32).E = [] := rfl
  refine ⟨h.hold.kept (G := fun k => k = o) ⟨by simp, fun k hk hn => Below.heap_setCell _ _ _ k hn⟩ (fun k hk e => hF (e ▸ hk)), h.below.setCell (p := ⟨o, j, none⟩) hw _, blk_far (p := ⟨o, j, none⟩) h.blk hPo _, Kd.R_set h.hx ko (fun q hq => ?_) j _, Kd.R_set h.ha ko (fun q hq => ?_) j _, h.hP⟩
  · rw [e1] at hq
    simp only [List.mem_cons, List.not_mem_nil, or_false] at hq
    subst hq; decide
  · rw [e2] at hq
    simp only [List.mem_cons, List.not_mem_nil, or_false] at hq
    subst hq; decide
theorem sJn {w : World} {P K p : Nat} {xv av : Value} {most z0 z1 z2 z3 : Int} {tw ta : TypeId} (hP : w.heap[P]? = some (.cells #[.pointer (some ⟨p, 0, none⟩), xv, .int .i64 most, av] tw (0, 0))) (hK : w.heap[K]? = some (.cells #[.int .i64 z0, .int .i64 z1, .int .i64 z2, .int .i64 z3] ta (0, 0))) :
    w.cell? ⟨P, 1, none⟩ = some xv ∧ w.cell? ⟨P, 2, none⟩ = some (.int .i64 most) ∧ w.cell? ⟨K, 0, none⟩ = some (.int .i64 z0) ∧ w.cell? ⟨K, 1, none⟩ = some (.int .i64 z1) ∧ w.cell? ⟨K, 2, none⟩ = some (.int .i64 z2) ∧ w.cell? ⟨K, 3, none⟩ = some (.int .i64 z3) :=
  ⟨blk_cell hP 1, blk_cell hP 2, blk_cell hK 0, blk_cell hK 1, blk_cell hK 2, blk_cell hK 3⟩
theorem sJn2 {w : World} {P K p : Nat} {xv av : Value} {most z0 z1 z2 z3 : Int} {tw ta : TypeId} (hP : w.heap[P]? = some (.cells #[.pointer (some ⟨p, 0, none⟩), xv, .int .i64 most, av] tw (0, 0))) (hK : w.heap[K]? = some (.cells #[.int .u32 z0, .int .u32 z1, .int .u32 z2, .int .u32 z3] ta (0, 0))) :
    w.cell? ⟨P, 0, none⟩ = some (.pointer (some ⟨p, 0, none⟩)) ∧ w.cell? ⟨K, 0, none⟩ = some (.int .u32 z0) ∧ w.cell? ⟨K, 1, none⟩ = some (.int .u32 z1) ∧ w.cell? ⟨K, 2, none⟩ = some (.int .u32 z2) ∧ w.cell? ⟨K, 3, none⟩ = some (.int .u32 z3) :=
  ⟨blk_cell hP 0, blk_cell hK 0, blk_cell hK 1, blk_cell hK 2, blk_cell hK 3⟩
set_option maxRecDepth 100000 in
set_option maxHeartbeats 4000000 in
theorem does_join (w0 w : World) (P p : Nat) (nodes : List Nd) (empty : List Int) (most : Int) (c : Ac) (hc : AcOk c) (S : WSt w0 w P p nodes empty most) (hE : ec.ErrAt w0) (hm : most ≤ 9223372036854775807 ∧ 64 ≤ most) (hN : nodes.length < 500000000) (hk : 2 ≤ (c.kind % 256) % 8 ∧ (c.kind % 256) % 8 < 6) :
    Calls Tryd.prog 17 #[.pointer (some ⟨P, 0, none⟩), .agg c.cells] w fun e w' => DoesPost w0 P p nodes.length e w' := by
  obtain ⟨⟨F, xv, av, D⟩, ok, ch⟩ := S
  have DD := Aside0.mk (D.drop (below_alloc (Below.refl _ _) (.cells c.cells 55)))
  have KC := Aside0.mk (blk_new w (.cells c.cells 55))
  have hcF : Aside0 (¬ F w.heap.size) := ⟨fun hf => by have := D.hold.hi _ hf; omega⟩
  have HOK := Aside0.mk ok
  have HCH := Aside0.mk ch
  have HE := Aside0.mk hE
  have HM := Aside0.mk hm
  have HC := Aside0.mk hc
  have h255 := bs.and255 c.kind
  have hk0 : 0 ≤ (c.kind % 256) := Int.emod_nonneg _ (by decide)
  have h0l : Aside0 (∃ x, nodes[0]? = some x) := ⟨by
    have hb := ch.bd 2 (by omega) (by have := ch.l0; omega)
    exact ⟨_, List.getElem?_eq_getElem (show 0 < nodes.length by omega)⟩⟩
  clear D ok ch hE hm hc
  have hkk : (c.kind % 256).tmod 8 = (c.kind % 256) % 8 := Int.tmod_eq_emod_of_nonneg hk0
  unfold Ac.cells at *
  go_enter Tryd.func17, Tryd.ntmps17
  go_upto_region 1 with (fail)
  generalize w.heap.size = C at *
  generalize w.alloc (.cells #[.int .i64 c.kind, .int .u32 c.bits, .int .i64 c.k0, .int .i64 c.k1, .int .i64 c.k2, .int .i64 c.k3, .int .i64 c.n] 55) = wr at *
  have c0 := blk_cell KC.out 0
  have c2 := blk_cell KC.out 2
  have c3 := blk_cell KC.out 3
  have c4 := blk_cell KC.out 4
  have c5 := blk_cell KC.out 5
  simp only [List.getElem?_toArray, List.getElem?_cons_zero, List.getElem?_cons_succ] at c0 c2 c3 c4 c5
  obtain ⟨K, hK⟩ : ∃ K, (c.kind % 256) % 8 = K := ⟨_, rfl⟩
  rw [hK] at hkk hk
  obtain ⟨hk1, hk2⟩ := hk
  have HK := Aside0.mk hK
  clear hK
  go_upto_region 7 with (fail)
  clear h255 hkk c0 hk0
  obtain ⟨xa, xc, rfl⟩ := Kd.R_slice DD.out.hx
  obtain ⟨aa, ac, rfl⟩ := Kd.R_slice DD.out.ha
  have hkids := wkids_walk w0 wr F P p nodes nodes (idL nodes.length) empty most _ _ DD.out (by obtain ⟨x, hx⟩ := h0l.out; exact (List.getElem?_eq_some_iff.1 hx).1) c.k0 c.k1 c.k2 c.k3 HC.out.k0 HC.out.k1 HC.out.k2 HC.out.k3
  have HKID := Aside0.mk hkids
  clear hkids
  go_wp2_with (go_at_call 26; refine HKID.out.mono ?_; rintro e w1 ⟨z0, z1, z2, z3, rfl, hz0, hz1, hz2, hz3, hb⟩; have D1 := Aside0.mk ((DD.out.drop hb).drop (below_alloc (below_alloc (Below.refl _ _) (.cells #[.int .i64 z0, .int .i64 z1, .int .i64 z2, .int .i64 z3] 53)) (.cells #[.int .u32 0, .int .u32 0, .int .u32 0, .int .u32 0] 32))); have KK1 := Aside0.mk (blk_below (blk_new w1 (.cells #[.int .i64 z0, .int .i64 z1, .int .i64 z2, .int .i64 z3] 53)) (below_alloc (Below.refl _ _) (.cells #[.int .u32 0, .int .u32 0, .int .u32 0, .int .u32 0] 32))); have KO1 := Aside0.mk (blk_new (w1.alloc (.cells #[.int .i64 z0, .int .i64 z1, .int .i64 z2, .int .i64 z3] 53)) (.cells #[.int .u32 0, .int .u32 0, .int .u32 0, .int .u32 0] 32)); have HZ := Aside0.mk (And.intro hz0 (And.intro hz1 (And.intro hz2 hz3))); have hs1 : wr.heap.size ≤ w1.heap.size := hb.size; clear hb hz0 hz1 hz2 hz3)
  have hqo : Aside0 (w1.heap.size ≠ w1.heap.size + 1) := ⟨by omega⟩
  have hqF : Aside0 (¬ F w1.heap.size) := ⟨fun hf => by have := DD.out.hold.hi _ hf; omega⟩
  have hoF : Aside0 (¬ F (w1.heap.size + 1)) := ⟨fun hf => by have := DD.out.hold.hi _ hf; omega⟩
  have hoW : Aside0 (w0.heap.size ≤ w1.heap.size + 1) := ⟨by have := DD.out.below.size; omega⟩
  have ko := KO1.out
  rw [show (w1.alloc (.cells #[.int .i64 z0, .int .i64 z1, .int .i64 z2, .int .i64 z3] 53)).heap.size = w1.heap.size + 1 by simp] at ko
  have KO2 := Aside0.mk (show _ = some (Obj.cells (uCells [0, 0, 0, 0]) _ _) from ko)
  clear ko KO1
  generalize (w1.alloc (.cells #[.int .i64 z0, .int .i64 z1, .int .i64 z2, .int .i64 z3] 53)).alloc (.cells #[.int .u32 0, .int .u32 0, .int .u32 0, .int .u32 0] 32) = w2 at *
  generalize w1.heap.size + 1 = o at *
  generalize w1.heap.size = q at *
  clear DD KC HKID c2 c3 c4 c5 h0l hs1 hcF
  have hidx := fun (w : World) (j : Nat) (h : j < 4) => index4i w z0 z1 z2 z3 j h
  have hkb := kidOf_i64 HZ.out.1 HZ.out.2.1 HZ.out.2.2.1 HZ.out.2.2.2
  rw [idL_len] at D1
  go_loopg [65] 4 (fun kq c65 w' => ∃ (j : Nat) (os : List Int), j + kq = 4 ∧ c65 = .int .i64 j ∧ Aside0 (OwnTo nodes z0 z1 z2 z3 j os) ∧ Aside0 (Wd w0 w' F P p nodes nodes (idL nodes.length) empty most (.slice xa nodes.length xc) (.slice aa nodes.length ac)) ∧ Aside0 (w'.heap[q]? = some (.cells #[.int .i64 z0, .int .i64 z1, .int .i64 z2, .int .i64 z3] 53 (0, 0))) ∧ Aside0 (w'.heap[o]? = some (.cells (uCells os) 32 (0, 0))))
  case atStart => exact ⟨0, [0, 0, 0, 0], by omega, rfl, ⟨ownTo_zero _ _ _ _ _⟩, D1, KK1, KO2⟩
  case round =>
    clear D1 KK1 KO2
    obtain ⟨j, os, hj, rfl, HOS, D1, KK1, KO1⟩ := hrel
    by_cases h4 : j < 4
    · obtain ⟨gm, rfl⟩ : ∃ m, gk = m + 1 := ⟨gk - 1, by omega⟩
      have hi := fun w => hidx w j h4
      have hkv := hkb j
      have hnext := Aside0.mk (fun (v : Int) (hv : ownOf nodes (kidOf z0 z1 z2 z3 j) = v) => (HOS.out.set 2147483648 (j := j)).next h4 hv)
      have hnextB := Aside0.mk (fun (hv : ownOf nodes (kidOf z0 z1 z2 z3 j) = 2147483648) => HOS.out.next h4 hv)
      have hset : Aside0 ((os.set j 2147483648).length = 4) := ⟨by rw [List.length_set]; exact HOS.out.1⟩
      obtain ⟨x, hx⟩ := HOS.out.get j h4
      have oc := blk_cell KO1.out j
      rw [uCells_get os j x hx] at oc
      have of := blk_frozen KO1.out j
      generalize kidOf z0 z1 z2 z3 j = kv at *
      clear hx hidx hkb HOS
      have KO2 := Aside0.mk (blk_put KO1.out j (.int .u32 2147483648) (uCells_set os j 2147483648))
      have KK2 := Aside0.mk (blk_far (p := ⟨o, j, none⟩) KK1.out hqo.out (.int .u32 2147483648))
      have D2 := Aside0.mk (D1.out.other (o := o) KO1.out hoF.out hoW.out j (.int .u32 2147483648))
      go_upto_region 13 with (fail)
      clear oc of hi D1 KK1 KO1
      generalize wr.setCell ⟨o, j, none⟩ (.int .u32 2147483648) = w3 at *
      have p0 := blk_cell D2.out.blk 0
      have p3 := blk_cell D2.out.blk 3
      simp only [List.getElem?_toArray, List.getElem?_cons_zero, List.getElem?_cons_succ] at p0 p3
      have hil := idL_len nodes.length
      by_cases hin : 0 ≤ kv ∧ kv < nodes.length
      · obtain ⟨hi0, hi1⟩ := hin
        have hown := Aside0.mk (hnext.out kv (if_pos ⟨hi0, hi1⟩))
        obtain ⟨i, rfl⟩ := Int.eq_ofNat_of_zero_le hi0
        obtain ⟨ba, ca, hv, _⟩ := Kd.R_form D2.out.ha (by rw [hil]; omega)
        injection hv with hv1 hv2 hv3
        subst hv1
        have hc := Kd.R_celln (enc := Value.int .u32) (h1 := fun _ => rfl) 0 D2.out.ha (i : Int) (by omega) (by omega)
        rw [Int.toNat_natCast, show rdOf 0 (idL nodes.length) (i : Int) = (i : Int) by simp [rdOf, idL_get nodes.length i (by omega)]] at hc
        obtain ⟨hc1, hc2⟩ := hc
        have hmxA := Kd.C_max (Kd.R_reads' D2.out.ha).2.2
        rw [hil] at hmxA
        have oc := blk_cell KO2.out j
        obtain ⟨x, hx⟩ : ∃ x, (os.set j 2147483648)[j]? = some x := ⟨_, List.getElem?_eq_getElem (by rw [hset.out]; exact h4)⟩
        rw [uCells_get _ j x hx] at oc
        have of := blk_frozen KO2.out j
        have KO3 := Aside0.mk (blk_put KO2.out j (.int .u32 i) (uCells_set (os.set j 2147483648) j i))
        have KK3 := Aside0.mk (blk_far (p := ⟨o, j, none⟩) KK2.out hqo.out (.int .u32 i))
        have D3 := Aside0.mk (D2.out.other (o := o) KO2.out hoF.out hoW.out j (.int .u32 i))
        have hin2 : (i : Int) < (nodes.length : Int) := hi1
        have hin3 : i < nodes.length := by omega
        clear hx D2 KO2 KK2 hnext hnextB hil hv2 hv3
        go_wp2_with (fail)
        go_roundg gm
        case measure => omega
        case rel => exact ⟨j + 1, _, by omega, by go_num, hown, D3, KK3, KO3⟩
      · have hown := Aside0.mk (hnextB.out (if_neg hin))
        have hor : kv < 0 ∨ (0 ≤ kv ∧ ¬ kv < (nodes.length : Int)) := by omega
        clear hin hnext hnextB hil
        rcases hor with h1 | ⟨h1, h2⟩
        all_goals
          go_wp2_with (fail)
          go_roundg gm
          case measure => omega
          case rel => exact ⟨j + 1, _, by omega, by go_num, hown, D2, KK2, KO2⟩
    · obtain rfl : j = 4 := by omega
      obtain rfl := HOS.out.all
      have KO2 := Aside0.mk (show _ = some (Obj.cells #[.int .u32 (ownOf nodes z0), .int .u32 (ownOf nodes z1), .int .u32 (ownOf nodes z2), .int .u32 (ownOf nodes z3)] _ _) from KO1.out)
      clear KO1 HOS hidx hkb
      have hb0 := ownOf_bd nodes z0 (by omega)
      have hb1 := ownOf_bd nodes z1 (by omega)
      have hb2 := ownOf_bd nodes z2 (by omega)
      have hb3 := ownOf_bd nodes z3 (by omega)
      have hst := rjoinR_step HOK.out most z0 z1 z2 z3
      have href := fun (W : World) (hb : Below wr.heap.size wr W) => rjoin_walk nodes most z0 z1 z2 z3 HZ.out.1 HZ.out.2.1 HZ.out.2.2.1 HZ.out.2.2.2 xa xc (Oth w0 F) W (Kd.R_below D1.out.hx hb) HOK.out (by omega)
      have hsame := join_same HOK.out (by omega) most z0 z1 z2 z3
      obtain ⟨r, hr⟩ : ∃ r, rjoinR nodes most z0 z1 z2 z3 = r := ⟨_, rfl⟩
      rw [hr] at hst hsame
      simp only [hr] at href
      have HST := Aside0.mk hst
      have HREF := Aside0.mk href
      have HSAME := Aside0.mk hsame
      clear hst href hsame hr
      have p1 := blk_cell D1.out.blk 1
      have p2 := blk_cell D1.out.blk 2
      have q0 := blk_cell KK1.out 0
      have q1 := blk_cell KK1.out 1
      have q2 := blk_cell KK1.out 2
      have q3 := blk_cell KK1.out 3
      simp only [List.getElem?_toArray, List.getElem?_cons_zero, List.getElem?_cons_succ] at p1 p2 q0 q1 q2 q3
      go_upto_region 16 with (fail)
      go_cut [15, 16, 17] (fun v6 v7 v8 wx => YPost w0 wr F most r v6 v7 v8 wx)
      case first =>
        go_region_held_law (fun w' => w'.cell? ⟨P, 1, none⟩ = some (.slice xa nodes.length xc) ∧ w'.cell? ⟨P, 2, none⟩ = some (.int .i64 most) ∧ w'.cell? ⟨q, 0, none⟩ = some (.int .i64 z0) ∧ w'.cell? ⟨q, 1, none⟩ = some (.int .i64 z1) ∧ w'.cell? ⟨q, 2, none⟩ = some (.int .i64 z2) ∧ w'.cell? ⟨q, 3, none⟩ = some (.int .i64 z3)) (refine sJn (blk_below D1.out.blk ?_) (blk_below KK1.out ?_) <;> ((repeat' (first | (with_reducible exact Below.refl _ _) | (with_reducible assumption) | (with_reducible refine Below.alloc ?_ ?_ _) | (with_reducible refine Below.drew ?_) | (with_reducible refine Below.setCell ?_ ?_ _) | (with_reducible refine chain ?_ (by assumption) ?_) | go_size)))) (first | ((go_at_call 27; refine (HREF.out (wr.drew) (by (repeat' (first | (with_reducible exact Below.refl _ _) | (with_reducible assumption) | (with_reducible refine Below.alloc ?_ ?_ _) | (with_reducible refine Below.drew ?_) | (with_reducible refine Below.setCell ?_ ?_ _) | (with_reducible refine chain ?_ (by assumption) ?_) | go_size)))).mono ?_; rintro e w1 ⟨A1, c1, rfl, hR1, hB1⟩; have hbw : Below wr.heap.size wr w1 := chain (by (repeat' (first | (with_reducible exact Below.refl _ _) | (with_reducible assumption) | (with_reducible refine Below.alloc ?_ ?_ _) | (with_reducible refine Below.drew ?_) | (with_reducible refine Below.setCell ?_ ?_ _) | (with_reducible refine chain ?_ (by assumption) ?_) | go_size))) hB1 (by simp <;> omega); have hs1 : wr.heap.size ≤ w1.heap.size := hbw.size; have HR1 := Aside0.mk (rmore (w := wr) hR1 (by simp <;> omega)); skip; clear hR1 hB1)) | ((go_at_call 27; refine (HREF.out ((wr.alloc (.cells #[.slice none 0 0, .int .i64 0] 47)).drew) (by (repeat' (first | (with_reducible exact Below.refl _ _) | (with_reducible assumption) | (with_reducible refine Below.alloc ?_ ?_ _) | (with_reducible refine Below.drew ?_) | (with_reducible refine Below.setCell ?_ ?_ _) | (with_reducible refine chain ?_ (by assumption) ?_) | go_size)))).mono ?_; rintro e w1 ⟨A1, c1, rfl, hR1, hB1⟩; have hbw : Below wr.heap.size wr w1 := chain (by (repeat' (first | (with_reducible exact Below.refl _ _) | (with_reducible assumption) | (with_reducible refine Below.alloc ?_ ?_ _) | (with_reducible refine Below.drew ?_) | (with_reducible refine Below.setCell ?_ ?_ _) | (with_reducible refine chain ?_ (by assumption) ?_) | go_size))) hB1 (by simp <;> omega); have hs1 : wr.heap.size ≤ w1.heap.size := hbw.size; have HR1 := Aside0.mk (rmore (w := wr) hR1 (by simp <;> omega)); have KY1 := Aside0.mk (blk_below (blk_below (blk_new wr (.cells #[.slice none 0 0, .int .i64 0] 47)) (below_drew (Below.refl _ _))) hB1); have y0 := blk_cell KY1.out 0; have y1 := blk_cell KY1.out 1; have fy0 := blk_frozen KY1.out 0; have fy1 := blk_frozen KY1.out 1; simp only [List.getElem?_toArray, List.getElem?_cons_zero, List.getElem?_cons_succ] at y0 y1; clear hR1 hB1)))
        all_goals go_wp2_with (fail)
        all_goals go_meet
        · exact yp_new D1.out hbw HR1.out
        · exact yp_old D1.out hbw HR1.out KY1.out
      case rest =>
        obtain ⟨y, A1, c1, rfl, rfl, rfl, ky, hyF, hR, hb⟩ := hcut
        have HRd := Aside0.mk (Kd.R_drew hR)
        have HYF := Aside0.mk hyF
        have Dd := Aside0.mk ((D1.out.drop hb).drop (below_drew (Below.refl _ _)))
        have KYd := Aside0.mk (blk_below ky (below_drew (Below.refl _ _)))
        have KOd := Aside0.mk (blk_below (blk_below KO2.out hb) (below_drew (Below.refl _ _)))
        have D2 := D1.out.drop hb
        have KO3 := blk_below KO2.out hb
        have p0 := blk_cell D2.blk 0
        have o0 := blk_cell KO3 0
        have o1 := blk_cell KO3 1
        have o2 := blk_cell KO3 2
        have o3 := blk_cell KO3 3
        simp only [List.getElem?_toArray, List.getElem?_cons_zero, List.getElem?_cons_succ] at p0 o0 o1 o2 o3
        clear ky hR hyF hb D1 KK1 KO2 HREF p1 p2 q0 q1 q2 q3 D2 KO3
        have hle := hold_join Dd.out.hold Dd.out.below.size (ownOf nodes z0) (ownOf nodes z1) (ownOf nodes z2) (ownOf nodes z3) hb0 hb1 hb2 hb3 (by omega)
        rw [HSAME.out] at hle
        have HAR := Aside0.mk hle
        clear hle
        go_upto_region 17 with (fail)
        go_region_held_law (fun w' => w'.cell? ⟨P, 0, none⟩ = some (.pointer (some ⟨p, 0, none⟩)) ∧ w'.cell? ⟨o, 0, none⟩ = some (.int .u32 (ownOf nodes z0)) ∧ w'.cell? ⟨o, 1, none⟩ = some (.int .u32 (ownOf nodes z1)) ∧ w'.cell? ⟨o, 2, none⟩ = some (.int .u32 (ownOf nodes z2)) ∧ w'.cell? ⟨o, 3, none⟩ = some (.int .u32 (ownOf nodes z3))) (first | exact sJn2 Dd.out.blk KOd.out | exact sJn2 D3.out.blk KO3.out) ((go_at_call 10; refine HAR.out.mono ?_; rintro e w3 ⟨rfl, F', ho⟩; have D3 := Aside0.mk (Dd.out.onto ho); have HR3 := Aside0.mk (R_onto HRd.out ho); have KY3 := Aside0.mk ((ho.keeps.block y (blk_lt KYd.out) HYF.out).trans KYd.out); have KO3 := Aside0.mk ((ho.keeps.block o (blk_lt KOd.out) hoF.out).trans KOd.out); clear ho))
        clear HAR Dd HRd KYd KOd
        have y0 := blk_cell KY3.out 0
        have y1 := blk_cell KY3.out 1
        simp only [List.getElem?_toArray, List.getElem?_cons_zero, List.getElem?_cons_succ] at y0 y1
        obtain ⟨l, hl, hl1⟩ := HST.out.ext
        have hlen : r.1.length ≤ nodes.length + 1 := by rw [hl, List.length_append]; omega
        clear hl hl1
        have HF := Aside0.mk (fits_any D3.out (HE.out.below D3.out.below) A1 _ HR3.out HST.out (by omega))
        go_wp2_with (fail)
        refine HF.out.mono ?_
        rintro e w4 ⟨xv4, av4, rfl, d4⟩
        have D4 := Aside0.mk d4
        clear d4 HF D3 HR3 KY3 y0 y1
        have HOK4 := Aside0.mk (HST.out.ok HOK.out)
        obtain ⟨l, hl, hl1⟩ := HST.out.ext
        have HCH4 : Aside0 (Chain r.1 empty) := ⟨by rw [hl]; exact HCH.out.ext l⟩
        go_wp2_with (fail)
        go_ret
        exact ⟨rfl, r.1, empty, most, HM.out.1, HM.out.2, ⟨⟨F', xv4, av4, D4.out⟩, HOK4.out, HCH4.out⟩, by omega⟩
end Go.Proofs.YtbeijhjafmalgaaDoor.ar
namespace Go.Proofs.YtbeijhjafmalgaaDoor.ar
open Go.RowKit Go.Proofs.YtbeijhjafmalgaaDoorW.PrintWords Go.Proofs.YtbeijhjafmalgaaDoorW.PrintLast Go.Proofs.YtbeijhjafmalgaaDoorW.PrintMore Go.Proofs.YtbeijhjafmalgaaDoor.bs Go.ChangeShapes Go.Proofs.YtbeijhjafmalgaaDoor.lb

section
variable {w0 w W w3 : World} {F : Nat → Prop} {P p : Nat} {nodes nodesX : List Nd} {ats empty : List Int} {most mm : Int} {xv av : Value}
theorem Wd.held (D : Wd w0 w F P p nodes nodesX ats empty most xv av) (mm : Int) : Hold w0 (w.setCell ⟨P, 2, none⟩ (.int .i64 mm)) F p nodes empty most :=
  D.hold.kept (G := fun k => k = P) ⟨by simp, fun k hk hn => Below.heap_setCell _ _ _ k hn⟩ (fun k hk e => D.hP.2 (e ▸ hk))
theorem Wd.newmost (D : Wd w0 w F P p nodes nodesX ats empty most xv av) (hW : Below (w.setCell ⟨P, 2, none⟩ (.int .i64 mm)).heap.size (w.setCell ⟨P, 2, none⟩ (.int .i64 mm)) W) (ha : Ar w3 F p nodes empty mm) (hk : Keeps F W w3) : Wd w0 w3 F P p nodes nodesX ats empty mm xv av := by
  have b1 := blk_below (blk_put D.blk 2 (.int .i64 mm) rfl) hW
  have hs : w.heap.size ≤ W.heap.size := by have := hW.size; simpa using this
  have hx := Kd.R_below (Kd.R_set D.hx D.blk tyRn2 2 (.int .i64 mm)) hW
  have hv := Kd.R_below (Kd.R_set D.ha D.blk tyU 2 (.int .i64 mm)) hW
  have hbW : Below w0.heap.size w0 W := chain (D.below.setCell (p := ⟨P, 2, none⟩) D.hP.1 _) hW (by have := D.below.size; simpa using this)
  refine ⟨⟨ha, D.hold.lo, fun k hf => Nat.lt_of_lt_of_le (D.hold.hi k hf) (Nat.le_trans hs hk.size)⟩, hbW.trans (hk.below D.hold.lo hbW.size), (hk.block P (blk_lt b1) D.hP.2).trans b1, ?_, ?_, D.hP⟩
  · exact Kd.R_step hx (fun k hk2 hlt => hk.block k hlt hk2.2)
  · exact Kd.R_step hv (fun k hk2 hlt => hk.block k hlt hk2.2)
end
theorem sMo {w : World} {P C p : Nat} {xv av : Value} {most : Int} {c : Ac} {tw ta : TypeId} (hP : w.heap[P]? = some (.cells #[.pointer (some ⟨p, 0, none⟩), xv, .int .i64 most, av] tw (0, 0))) (hC : w.heap[C]? = some (.cells c.cells ta (0, 0))) :
    w.cell? ⟨P, 0, none⟩ = some (.pointer (some ⟨p, 0, none⟩)) ∧ w.cell? ⟨P, 2, none⟩ = some (.int .i64 most) ∧ w.cell? ⟨C, 6, none⟩ = some (.int .i64 c.n) :=
  ⟨blk_cell hP 0, blk_cell hP 2, blk_cell hC 6⟩
attribute [local go_sem] max_two
set_option maxRecDepth 100000 in
set_option maxHeartbeats 4000000 in
theorem does_empt (w0 w : World) (P p : Nat) (nodes : List Nd) (empty : List Int) (most : Int) (c : Ac) (hc : AcOk c) (S : WSt w0 w P p nodes empty most) (hE : ec.ErrAt w0) (hm : most ≤ 9223372036854775807 ∧ 64 ≤ most) (hN : nodes.length < 500000000) (hk : (c.kind % 256) % 8 = 6) :
    Calls Tryd.prog 17 #[.pointer (some ⟨P, 0, none⟩), .agg c.cells] w fun e w' => DoesPost w0 P p nodes.length e w' := by
  obtain ⟨⟨F, xv, av, D⟩, ok, ch⟩ := S
  have DD := Aside0.mk (D.drop (below_alloc (Below.refl _ _) (.cells c.cells 55)))
  have KC := Aside0.mk (blk_new w (.cells c.cells 55))
  have hcF : Aside0 (¬ F w.heap.size) := ⟨fun hf => by have := D.hold.hi _ hf; omega⟩
  have hCP : Aside0 (w.heap.size ≠ P) := ⟨fun e => by have := blk_lt D.blk; omega⟩
  have HOK := Aside0.mk ok
  have HCH := Aside0.mk ch
  have HE := Aside0.mk hE
  have HM := Aside0.mk hm
  have HC := Aside0.mk hc
  have h255 := bs.and255 c.kind
  have hk0 : 0 ≤ (c.kind % 256) := Int.emod_nonneg _ (by decide)
  clear D ok ch hE hm hc
  have hkk : (c.kind % 256).tmod 8 = (c.kind % 256) % 8 := Int.tmod_eq_emod_of_nonneg hk0
  unfold Ac.cells at *
  go_enter Tryd.func17, Tryd.ntmps17
  go_upto_region 1 with (fail)
  generalize w.heap.size = C at *
  generalize w.alloc (.cells #[.int .i64 c.kind, .int .u32 c.bits, .int .i64 c.k0, .int .i64 c.k1, .int .i64 c.k2, .int .i64 c.k3, .int .i64 c.n] 55) = wr at *
  have c0 := blk_cell KC.out 0
  have c6 := blk_cell KC.out 6
  simp only [List.getElem?_toArray, List.getElem?_cons_zero, List.getElem?_cons_succ] at c0 c6
  obtain ⟨K, hK⟩ : ∃ K, (c.kind % 256) % 8 = K := ⟨_, rfl⟩
  rw [hK] at hkk hk
  subst hk
  have HK := Aside0.mk hK
  clear hK
  have HEM := Aside0.mk (empts_walk w0 wr P p nodes empty most c.n ⟨⟨F, xv, av, DD.out⟩, HOK.out, HCH.out⟩ HE.out HM.out hN)
  go_wp2_with (fail)
  refine HEM.out.mono ?_
  rintro e w1 ⟨rfl, h⟩
  have H := Aside0.mk h
  clear h
  go_wp2_with (fail)
  go_ret
  exact ⟨rfl, H.out⟩
set_option maxRecDepth 100000 in
set_option maxHeartbeats 4000000 in
theorem does_most (w0 w : World) (P p : Nat) (nodes : List Nd) (empty : List Int) (most : Int) (c : Ac) (hc : AcOk c) (S : WSt w0 w P p nodes empty most) (hE : ec.ErrAt w0) (hm : most ≤ 9223372036854775807 ∧ 64 ≤ most) (_hN : nodes.length < 500000000) (hk : (c.kind % 256) % 8 = 7) :
    Calls Tryd.prog 17 #[.pointer (some ⟨P, 0, none⟩), .agg c.cells] w fun e w' => DoesPost w0 P p nodes.length e w' := by
  obtain ⟨⟨F, xv, av, D⟩, ok, ch⟩ := S
  have DD := Aside0.mk (D.drop (below_alloc (Below.refl _ _) (.cells c.cells 55)))
  have KC := Aside0.mk (blk_new w (.cells c.cells 55))
  have hcF : Aside0 (¬ F w.heap.size) := ⟨fun hf => by have := D.hold.hi _ hf; omega⟩
  have hCP : Aside0 (w.heap.size ≠ P) := ⟨fun e => by have := blk_lt D.blk; omega⟩
  have HOK := Aside0.mk ok
  have HCH := Aside0.mk ch
  have HE := Aside0.mk hE
  have HM := Aside0.mk hm
  have HC := Aside0.mk hc
  have h255 := bs.and255 c.kind
  have hk0 : 0 ≤ (c.kind % 256) := Int.emod_nonneg _ (by decide)
  clear D ok ch hE hm hc
  have hkk : (c.kind % 256).tmod 8 = (c.kind % 256) % 8 := Int.tmod_eq_emod_of_nonneg hk0
  unfold Ac.cells at *
  obtain ⟨mm, hmm, hmax⟩ : ∃ mm : Int, max c.n 64 = mm ∧ Builtin.max2 (.int .i64 c.n) (.int .i64 64) = pure (.int .i64 mm) := ⟨_, rfl, by rw [max2_int]; congr 2; split <;> omega⟩
  have hmb : 64 ≤ mm ∧ mm ≤ 9223372036854775807 := by have := HC.out.n.2; omega
  have HMM := Aside0.mk hmm
  clear hmm
  go_enter Tryd.func17, Tryd.ntmps17
  go_upto_region 1 with (fail)
  generalize w.heap.size = C at *
  generalize w.alloc (.cells #[.int .i64 c.kind, .int .u32 c.bits, .int .i64 c.k0, .int .i64 c.k1, .int .i64 c.k2, .int .i64 c.k3, .int .i64 c.n] 55) = wr at *
  have c0 := blk_cell KC.out 0
  have c6 := blk_cell KC.out 6
  simp only [List.getElem?_toArray, List.getElem?_cons_zero, List.getElem?_cons_succ] at c0 c6
  obtain ⟨K, hK⟩ : ∃ K, (c.kind % 256) % 8 = K := ⟨_, rfl⟩
  rw [hK] at hkk hk
  subst hk
  have HK := Aside0.mk hK
  clear hK
  obtain ⟨xa, xc, rfl⟩ := Kd.R_slice DD.out.hx
  have p1 := blk_cell DD.out.blk 1
  have p2 := blk_cell DD.out.blk 2
  have q2 := blk_frozen DD.out.blk 2
  have p0 := blk_cell DD.out.blk 0
  simp only [List.getElem?_toArray, List.getElem?_cons_zero, List.getElem?_cons_succ] at p0 p1 p2
  by_cases hlt : mm < (nodes.length : Int)
  · as_aux_lemma =>
    have HAR := Aside0.mk (setmost_small F p nodes empty most c.n wr.drew (DD.out.drop (below_drew (Below.refl _ _))).hold.ar (by rw [HMM.out]; exact hlt))
    have Dd := Aside0.mk (DD.out.drop (below_drew (Below.refl _ _)))
    have KCd := Aside0.mk (blk_below KC.out (below_drew (Below.refl _ _)))
    go_upto_region 26 with (fail)
    go_region_held_law (fun w' => w'.cell? ⟨P, 0, none⟩ = some (.pointer (some ⟨p, 0, none⟩)) ∧ w'.cell? ⟨P, 2, none⟩ = some (.int .i64 most) ∧ w'.cell? ⟨C, 6, none⟩ = some (.int .i64 c.n)) (first | exact sMo (c := c) D3.out.blk KC3.out | exact sMo (c := c) Dd.out.blk KCd.out) (first | (go_at_call 29; refine HAR.out.mono ?_; rintro e w3 ⟨rfl, rfl⟩; rw [show errOf 8 = .iface 38 (.int .i64 8) from rfl]) | (go_at_call 14; refine (ec.code_hit 8 _ (HE.out.below Dd.out.below)).mono ?_; rintro e w4 ⟨rfl, hb⟩; have D3 := Aside0.mk (Dd.out.drop hb); have KC3 := Aside0.mk (blk_below KCd.out hb); clear hb) | (go_at_call 20; refine (amost_walk F p nodes empty most _ D3.out.hold.ar).mono ?_; rintro e w5 ⟨rfl, rfl⟩))
    go_wp2_with (fail)
    go_ret
    exact ⟨rfl, nodes, empty, most, HM.out.1, HM.out.2, ⟨⟨F, _, av, D3.out⟩, HOK.out, HCH.out⟩, by omega⟩
  · have hge : ¬ mm < (nodes.length : Int) := hlt
    have HH := Aside0.mk ((DD.out.held mm).below (below_drew (Below.refl _ _)))
    have HAR := Aside0.mk (setmost_big F p nodes empty most c.n (wr.setCell ⟨P, 2, none⟩ (.int .i64 mm)).drew HH.out.ar (by rw [HMM.out]; exact hlt))
    rw [HMM.out] at HAR
    have KB := Aside0.mk (blk_below (blk_put DD.out.blk 2 (.int .i64 mm) rfl) (below_drew (Below.refl _ _)))
    have KCd := Aside0.mk (blk_below (blk_far (p := ⟨P, 2, none⟩) KC.out hCP.out (.int .i64 mm)) (below_drew (Below.refl _ _)))
    go_upto_region 26 with (fail)
    have b2 := blk_put DD.out.blk 2 (.int .i64 mm) rfl
    have kc2 := blk_far (p := ⟨P, 2, none⟩) KC.out hCP.out (.int .i64 mm)
    have p0 := blk_cell b2 0
    have p2 := blk_cell b2 2
    have c6 := blk_cell kc2 6
    simp only [List.getElem?_toArray, List.getElem?_cons_zero, List.getElem?_cons_succ] at p0 p2 c6
    go_region_held_law (fun w' => w'.cell? ⟨P, 0, none⟩ = some (.pointer (some ⟨p, 0, none⟩)) ∧ w'.cell? ⟨P, 2, none⟩ = some (.int .i64 mm) ∧ w'.cell? ⟨C, 6, none⟩ = some (.int .i64 c.n)) (first | exact sMo (c := c) D3.out.blk KC3.out | exact sMo (c := c) KB.out KCd.out) (first | (go_at_call 29; refine HAR.out.mono ?_; rintro e w3 ⟨rfl, ha, hk⟩; have D3 := Aside0.mk (DD.out.newmost (mm := mm) (below_drew (Below.refl _ _)) ha hk); have KC3 := Aside0.mk ((hk.block C (blk_lt KCd.out) hcF.out).trans KCd.out); clear ha hk) | (go_at_call 14; refine (ec.code_nil _).mono ?_; rintro e w4 ⟨rfl, hb⟩; replace D3 := Aside0.mk (D3.out.drop hb); replace KC3 := Aside0.mk (blk_below KC3.out hb); clear hb) | (go_at_call 20; refine (amost_walk F p nodes empty mm _ D3.out.hold.ar).mono ?_; rintro e w5 ⟨rfl, rfl⟩))
    go_wp2_with (fail)
    go_ret
    exact ⟨rfl, nodes, empty, mm, hmb.2, hmb.1, ⟨⟨F, _, av, D3.out⟩, HOK.out, HCH.out⟩, by omega⟩
/-- any call -/
theorem does_walk (w0 w : World) (P p : Nat) (nodes : List Nd) (empty : List Int) (most : Int) (c : Ac) (hc : AcOk c) (S : WSt w0 w P p nodes empty most) (hE : ec.ErrAt w0) (hm : most ≤ 9223372036854775807 ∧ 64 ≤ most) (hN : nodes.length < 500000000) :
    Calls Tryd.prog 17 #[.pointer (some ⟨P, 0, none⟩), .agg c.cells] w fun e w' => DoesPost w0 P p nodes.length e w' := by
  have h1 : 0 ≤ (c.kind % 256) % 8 := Int.emod_nonneg _ (by decide)
  have h2 : (c.kind % 256) % 8 < 8 := Int.emod_lt_of_pos _ (by decide)
  by_cases ha : (c.kind % 256) % 8 < 2
  · exact does_leaf w0 w P p nodes empty most c hc S hE hm hN ha
  · by_cases hb : (c.kind % 256) % 8 < 6
    · exact does_join w0 w P p nodes empty most c hc S hE hm hN ⟨by omega, hb⟩
    · by_cases hd : (c.kind % 256) % 8 = 6
      · exact does_empt w0 w P p nodes empty most c hc S hE hm hN hd
      · exact does_most w0 w P p nodes empty most c hc S hE hm hN (by omega)
end Go.Proofs.YtbeijhjafmalgaaDoor.ar
