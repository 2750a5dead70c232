/- The walk over (*Arena).grow: twice as many slots. -/
import Derived.Test.YtbkbkgfpnefilaaArKeep
import Derived.Deep.DeepCutAuto
import Derived.Deep.LoopGhost
import Derived.Deep.RegionHeld3
import Derived.Outline
namespace Go.Proofs.Ytbkbkgfpnefilaa.ar
open Go.RowKit Go.Proofs.YtbkbkgfpnefilaaW.PrintWords Go.Proofs.YtbkbkgfpnefilaaW.PrintLast Go.Proofs.YtbkbkgfpnefilaaW.PrintMore Go.Proofs.Ytbkbkgfpnefilaa.bs Go.ChangeShapes

attribute [local go_sem high] buildKey
theorem cell_far {w : World} {b i g o : Nat} {u : Value} {v : Option Value} (hne : g ≠ b) (h : w.cell? ⟨g, o, none⟩ = v) : (w.setCell ⟨b, i, none⟩ u).cell? ⟨g, o, none⟩ = v := by
  rw [← h]
  exact World.cell?_of_block (Below.heap_setCell w ⟨b, i, none⟩ u g hne)
def GrowPost (F : Nat → Prop) (w : World) (p : Nat) (nodes : List Nd) (empty : List Int) (most : Int) (nv sv ev : Value) (len i : Nat) (wx : World) : Prop :=
  ∃ sl, sl.length = len ∧ ArAt wx (More F w) p nodes sl empty most nv sv ev ∧ Slotted st nodes (i + 1) sl ∧ Keeps F w wx
theorem slotres_lt {nodes : List Nd} {slots : List Nat} {k : Key} {i : Nat} (h : SlotRes nodes slots k i) (hp : 0 < slots.length) : i < slots.length := by
  obtain ⟨d, rfl, _⟩ := h
  exact Nat.mod_lt _ hp
theorem slotres_free {nodes : List Nd} {slots : List Nat} {nd : Nd} {m i : Nat} (S : Slotted st nodes m slots) (hnd : nodes[m]? = some nd) (h : SlotRes nodes slots nd.key i) (hroom : m + 1 < slots.length) :
    Slotted st nodes (m + 1) (slots.set i (m + 1)) := by
  obtain ⟨d, rfl, hP, h0⟩ := h
  rcases h0 with h0 | ⟨j, x, hj, hx, hk⟩
  · exact slotted_insert S hnd hP (by omega) h0 hroom
  · have := S.once j m x nd hx hnd hk
    have h2 := S.val _ (List.mem_of_getElem? hj)
    omega
set_option maxHeartbeats 4000000 in
set_option maxRecDepth 100000 in
theorem grow_walk (F : Nat → Prop) (p : Nat) (nodes : List Nd) (slots : List Nat) (empty : List Int) (most : Int) (nv sv ev : Value) (w : World)
    (A : ArAt w F p nodes slots empty most nv sv ev) (once : ∀ (i j : Nat) (x y : Nd), nodes[i]? = some x → nodes[j]? = some y → x.key = y.key → i = j) (hok : ∀ (i : Nat) (x : Nd), nodes[i]? = some x → KeyOk x.key)
    (hN : nodes.length ≤ 1073741824) (hroom : nodes.length < 2 * slots.length) (hmax : slots.length ≤ 8589934592) :
    Calls Try.prog 124 #[.pointer (some ⟨p, 0, none⟩)] w fun e w' => e = .returned (.tuple #[]) ∧ ∃ slots' sv', ArAt w' (More F w) p nodes slots' empty most nv sv' ev ∧ Slotted st nodes nodes.length slots' ∧ slots'.length = 2 * slots.length ∧ Keeps F w w' := by
  obtain ⟨sa, cs, rfl⟩ := Kd.R_slice A.hs
  rw [ints_len] at A
  have c1 := blk_cell A.blk 1
  have f1 := blk_frozen A.blk 1
  simp only [List.getElem?_toArray, List.getElem?_cons_zero, List.getElem?_cons_succ] at c1
  have A0 := Aside0.mk A
  clear A
  go_enter Try.func124, Try.ntmps124
  go_upto_region 1 with (first | ((with_reducible refine gate_dst (N := 11) rfl ?_); refine Kd.R_make (Kd.int .u32) (w0 := w) 0 38 rfl rfl 74 (.tmp 10) (.tmp 10) rfl (2 * (slots.length : Int)) rfl rfl Try.underlying74 (.int .u32 0) 4 infoU rfl (by decide) (by decide) 0 (ok := fun k => k = w.heap.size) (okp := fun _ => False) rfl (fun _ hk => hk.elim) rfl (by omega) (by omega) (Below.refl _ _) (Nat.zero_le _) ?_; intro v1 w1 ho1 hb1 hg1 hat1; rw [show (2 * (slots.length : Int)).toNat = 2 * slots.length by omega, show List.replicate (2 * slots.length) (0 : Int) = ints (List.replicate (2 * slots.length) 0) by simp [ints]] at ho1; obtain ⟨bs, cb, rfl, _, hbz, _⟩ := Kd.R_form ho1 (by rw [ints_len, List.length_replicate]; omega); simp only [ints_len, List.length_replicate] at ho1 ⊢; have c1' := blk_cell (blk_grown A0.out.blk hg1 (by simp)) 1; have f1' := blk_frozen (blk_grown A0.out.blk hg1 (by simp)) 1; simp only [List.getElem?_toArray, List.getElem?_cons_zero, List.getElem?_cons_succ] at c1'; have HO := Aside0.mk ho1; have HG := Aside0.mk hg1; clear ho1 hb1 hg1 hat1))
  have AR := Aside0.mk (A0.out.new_slots HG.out HO.out)
  have HK := Aside0.mk ((Keeps.refl F w).grown HG.out (fun _ hk => by cases hk) |>.setCell (p := ⟨p, 1, none⟩) (.inl A0.out.hF) (Value.slice (some ⟨bs, 0, none⟩) (2 * slots.length) cb))
  have HS := Aside0.mk (slotted_zeros (st := st) (n := 2 * slots.length) (by omega) once)
  have HL : (List.replicate (2 * slots.length) (0 : Nat)).length = 2 * slots.length := List.length_replicate
  clear A0 HG HO c1 f1 c1' f1' hbz
  generalize w1.setCell ⟨p, 1, none⟩ (Value.slice (some ⟨bs, 0, none⟩) (2 * slots.length) cb) = W2 at *
  generalize List.replicate (2 * slots.length) (0 : Nat) = sl0 at *
  obtain ⟨na, cn, rfl⟩ := Kd.R_slice AR.out.hn
  have c0 := blk_cell AR.out.blk 0
  simp only [List.getElem?_toArray, List.getElem?_cons_zero, List.getElem?_cons_succ] at c0
  go_wp2_with (fail)
  have hcap : 2 * slots.length ≤ 17179869184 := by omega
  generalize hcc : 2 * slots.length = cap2 at *
  have HCC := Aside0.mk hcc
  clear hcc
  go_loopg [19] nodes.length (fun kq c19 w' => ∃ (i : Nat) (sl : List Nat), i + kq = nodes.length ∧ c19 = .int .i64 i ∧ sl.length = cap2 ∧ Aside0 (ArAt w' (More F w) p nodes sl empty most (.slice na nodes.length cn) (.slice (some ⟨bs, 0, none⟩) (cap2) cb) ev) ∧ Aside0 (Slotted st nodes i sl) ∧ Aside0 (Keeps F w w'))
  case atStart => exact ⟨0, sl0, by omega, rfl, HL, AR, HS, HK⟩
  case round =>
    clear AR HS HK HL c0
    obtain ⟨i, sl, hi, rfl, hsl, AR, HS, HK⟩ := hrel
    have c0 := blk_cell AR.out.blk 0
    have c1 := blk_cell AR.out.blk 1
    simp only [List.getElem?_toArray, List.getElem?_cons_zero, List.getElem?_cons_succ] at c0 c1
    by_cases hin : i < nodes.length
    · obtain ⟨gk, rfl⟩ : ∃ m, gk = m + 1 := ⟨gk - 1, by omega⟩
      obtain ⟨nd, hnd⟩ : ∃ nd, nodes[i]? = some nd := ⟨_, List.getElem?_eq_getElem hin⟩
      obtain ⟨ad, rfl, ⟨n0, n1, n2, n3, n4, n5, n6⟩⟩ := AR.out.node_cells hnd
      go_upto_region 4 with (fail)
      have hkey := hok i nd hnd
      have hslot := fun (W : World) (A' : ArAt W (More F w) p nodes sl empty most (.slice (some ad) nodes.length cn) (.slice (some ⟨bs, 0, none⟩) (cap2) cb) ev) => slot_walk (More F w) p i nodes sl empty most _ _ ev W nd.key hkey A' HS.out hN
      unfold Key.vals at hslot
      have hslot2 := Aside0.mk hslot
      clear hslot
      have AR3 := Aside0.mk (AR.out.below (below_alloc (Below.refl _ _) (.cells nd.cells.toArray 131)))
      have K3 := blk_new wr (.cells nd.cells.toArray 131)
      have HK3 := Aside0.mk (HK.out.alloc (.cells nd.cells.toArray 131))
      obtain ⟨g3, hg3⟩ : ∃ g3, wr.heap.size = g3 := ⟨_, rfl⟩
      change Code.wp _ _ _ _ (wr.alloc (.cells nd.cells.toArray 131))
      simp only [hg3] at K3 ⊢
      have hp3 : p < (wr.alloc (.cells nd.cells.toArray 131)).heap.size := AR3.out.lt
      have hg4 : g3 < (wr.alloc (.cells nd.cells.toArray 131)).heap.size := blk_lt K3
      clear hg3 n0 n1 n2 n3 n4 n5 n6 c0 c1
      generalize wr.alloc (.cells nd.cells.toArray 131) = W3 at *
      obtain ⟨bcells, hbk⟩ := Kd.R_typed AR3.out.hs bs rfl
      have hpb : p ≠ bs := by
        intro e
        have h1 := AR3.out.blk
        rw [e, hbk] at h1
        injection h1 with h1
        injection h1 with _ ht _
        exact absurd ht (by decide)
      have hgb : g3 ≠ bs := by
        intro e
        have h1 := K3
        rw [e, hbk] at h1
        injection h1 with h1
        injection h1 with _ ht _
        exact absurd ht (by decide)
      have hbp : bs ≠ p := fun e => hpb e.symm
      have hbg : bs ≠ g3 := fun e => hgb e.symm
      clear hbk
      have c1 := blk_cell AR3.out.blk 1
      have a0 := blk_cell K3 0
      have a1 := blk_cell K3 1
      have a2 := blk_cell K3 2
      have a3 := blk_cell K3 3
      have a4 := blk_cell K3 4
      have a5 := blk_cell K3 5
      simp only [Nd.cells, List.getElem?_toArray, List.getElem?_cons_zero, List.getElem?_cons_succ] at a0 a1 a2 a3 a4 a5 c1
      clear K3
      have hwi : IntKind.u32.wrap (i : Int) = (i : Int) := by rw [IntKind.wrap_u32]; omega
      have hwi2 : IntKind.u32.wrap ((i : Int) + 1) = (i : Int) + 1 := by rw [IntKind.wrap_u32]; omega
      go_region_held3 (fun w' => w'.cell? ⟨p, 1, none⟩ = some (.slice (some ⟨bs, 0, none⟩) (cap2) cb) ∧ w'.cell? ⟨g3, 0, none⟩ = some (.int .i64 nd.key.level) ∧ w'.cell? ⟨g3, 1, none⟩ = some (.int .u32 nd.key.bits) ∧ w'.cell? ⟨g3, 2, none⟩ = some (.int .u32 nd.key.k0) ∧ w'.cell? ⟨g3, 3, none⟩ = some (.int .u32 nd.key.k1) ∧ w'.cell? ⟨g3, 4, none⟩ = some (.int .u32 nd.key.k2) ∧ w'.cell? ⟨g3, 5, none⟩ = some (.int .u32 nd.key.k3)) (refine ⟨?_, ?_, ?_, ?_, ?_, ?_, ?_⟩ <;> (first | exact c1 | exact a0 | exact a1 | exact a2 | exact a3 | exact a4 | exact a5 | assumption | exact cell_far hpb (by assumption) | exact cell_far hgb (by assumption))) (first | (go_at_call 123; refine (hslot2.out _ (AR3.out.below (by first | exact Below.refl _ _ | exact (Below.refl _ _).drew | exact pw_below_drewN (Below.refl _ _) _))).mono ?_; rintro e w4 ⟨ix, rfl, hres, hb⟩; have c1' := (hb.cell (p := ⟨p, 1, none⟩) hp3).trans c1; have a0' := (hb.cell (p := ⟨g3, 0, none⟩) hg4).trans a0; have a1' := (hb.cell (p := ⟨g3, 1, none⟩) hg4).trans a1; have a2' := (hb.cell (p := ⟨g3, 2, none⟩) hg4).trans a2; have a3' := (hb.cell (p := ⟨g3, 3, none⟩) hg4).trans a3; have a4' := (hb.cell (p := ⟨g3, 4, none⟩) hg4).trans a4; have a5' := (hb.cell (p := ⟨g3, 5, none⟩) hg4).trans a5; have hlt := slotres_lt hres (by omega); rw [hsl] at hlt; have hixm : (ix : Int) ≤ 17179869184 := (by omega); have hltI : (ix : Int) < (cap2 : Int) := (by omega); have s9 := (AR3.out.below (Below.trans ((Below.refl _ _).drew) hb)).slot_cell (List.getElem?_eq_getElem (l := sl) (i := ix) (by omega)); obtain ⟨s9, s10⟩ := s9; have HRES := Aside0.mk hres; have HBB := Aside0.mk hb; clear hres hb))
      have hB34 : Below W3.heap.size W3 w4 := Below.trans ((Below.refl _ _).drew) HBB.out
      have hbF : F bs ∨ w.heap.size ≤ bs := AR3.out.hs.1 bs rfl
      have AR4 := Aside0.mk ((AR3.out.below hB34).put_slot ix (i + 1))
      have HK4 := Aside0.mk ((HK3.out.below_ hB34).setCell (p := ⟨bs, ix, none⟩) hbF (.int .u32 (((i + 1 : Nat) : Int))))
      have HS4 := Aside0.mk (slotres_free HS.out hnd HRES.out (by omega))
      rw [show ((i + 1 : Nat) : Int) = (i : Int) + 1 from by omega] at AR4 HK4
      clear a0 a1 a2 a3 a4 a5 a0' a1' a2' a3' a4' a5' c1 c1' s9 s10 hwi hwi2 hp3 hg4 hB34 hbF HBB HRES AR3 HK3 AR HS HK hslot2
      generalize w4.setCell ⟨bs, ix, none⟩ (.int .u32 ((i : Int) + 1)) = W5 at *
      go_wp2_with (fail)
      go_roundg gk
      case measure => omega
      case rel => exact ⟨i + 1, sl.set ix (i + 1), by omega, by go_num, by rw [List.length_set]; exact hsl, AR4, HS4, HK4⟩
    · as_aux_lemma =>
      obtain rfl : i = nodes.length := by omega
      go_wp2_with (fail)
      go_end0
      exact ⟨rfl, sl, _, AR.out, HS.out, by rw [HCC.out]; exact hsl, HK.out⟩
end Go.Proofs.Ytbkbkgfpnefilaa.ar
