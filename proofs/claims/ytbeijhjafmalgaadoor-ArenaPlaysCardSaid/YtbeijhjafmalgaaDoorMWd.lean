/- The walk over the law's world.empties: level by level. -/
import Derived.Test.YtbeijhjafmalgaaDoorMRn
import Derived.Test.YtbeijhjafmalgaaDoorArHold
import Derived.Test.YtbeijhjafmalgaaDoorErrAs
import Derived.Test.YtbeijhjafmalgaaDoorArEmpty
namespace Go.Proofs.YtbeijhjafmalgaaDoor.ar
open Go.RowKit Go.Proofs.YtbeijhjafmalgaaDoorW.PrintWords Go.Proofs.YtbeijhjafmalgaaDoorW.PrintLast Go.Proofs.YtbeijhjafmalgaaDoorW.PrintMore Go.Proofs.YtbeijhjafmalgaaDoor.bs Go.ChangeShapes Go.Proofs.YtbeijhjafmalgaaDoor.lb

/-- the call's blocks that are not the arena's -/
def Oth (w0 : World) (F : Nat → Prop) (k : Nat) : Prop := w0.heap.size ≤ k ∧ ¬ F k
def idL (n : Nat) : List Int := (List.range n).map fun (i : Nat) => (i : Int)
theorem idL_len (n : Nat) : (idL n).length = n := by simp [idL]
theorem idL_get (n i : Nat) (h : i < n) : (idL n)[i]? = some (i : Int) := by simp [idL, h]
theorem idL_succ (n : Nat) : idL (n + 1) = idL n ++ [(n : Int)] := by simp [idL, List.range_succ]
structure Wd (w0 w : World) (F : Nat → Prop) (P p : Nat) (nodes nodesX : List Nd) (ats : List Int) (empty : List Int) (most : Int) (xv av : Value) : Prop where
  hold : Hold w0 w F p nodes empty most
  below : Below w0.heap.size w0 w
  blk : w.heap[P]? = some (.cells #[.pointer (some ⟨p, 0, none⟩), xv, .int .i64 most, av] 51 (0, 0))
  hx : Kd.R kRn 69 w 0 (Oth w0 F) xv nodesX
  ha : Kd.R (Kd.int .u32) 22 w 0 (Oth w0 F) av ats
  hP : Oth w0 F P
section
variable {w0 w w1 w2 : World} {F F' : Nat → Prop} {P p : Nat} {nodes nodes' nodesX : List Nd} {ats : List Int} {empty empty' : List Int} {most most' : Int} {xv av : Value}
theorem Wd.drop (h : Wd w0 w F P p nodes nodesX ats empty most xv av) (hb : Below w.heap.size w w1) : Wd w0 w1 F P p nodes nodesX ats empty most xv av :=
  ⟨h.hold.below hb, chain h.below hb h.below.size, blk_below h.blk hb, Kd.R_below h.hx hb, Kd.R_below h.ha hb, h.hP⟩
theorem R_onto {α : Type} {d : Kd α} {e : Nat} {v : Value} {xs : List α} {em : List Int} {m : Int} {nd : List Nd} (h : Kd.R d e w 0 (Oth w0 F) v xs) (ho : Onto w0 w w1 F F' p nd em m) : Kd.R d e w1 0 (Oth w0 F') v xs :=
  Kd.R_mono (Kd.R_step (Kd.R_bound h) (fun k hk hlt => ho.keeps.block k hlt hk.1.2)) (fun k hk => ⟨hk.1.1, fun hf => hk.1.2 ((ho.old k hk.2.2.1).1 hf)⟩)
theorem Wd.onto (h : Wd w0 w F P p nodes nodesX ats empty most xv av) (ho : Onto w0 w w1 F F' p nodes' empty' most) : Wd w0 w1 F' P p nodes' nodesX ats empty' most xv av :=
  ⟨ho.hold, h.hold.belowK h.below ho.keeps, (ho.keeps.block P (blk_lt h.blk) h.hP.2).trans h.blk, R_onto h.hx ho, R_onto h.ha ho, ⟨h.hP.1, fun hf => h.hP.2 ((ho.old P (blk_lt h.blk)).1 hf)⟩⟩
theorem tyRn2 (q : Nat) (h : q ∈ 69 :: kRn.E) : q ≠ 51 := by
  have h2 : kRn.E = [] := rfl
  rw [h2] at h
  simp only [List.mem_cons, List.not_mem_nil, or_false] at h
  subst h
  decide
theorem tyU (q : Nat) (h : q ∈ 22 :: (Kd.int IntKind.u32).E) : q ≠ 51 := by
  have h2 : (Kd.int IntKind.u32).E = [] := rfl
  rw [h2] at h
  simp only [List.mem_cons, List.not_mem_nil, or_false] at h
  subst h
  decide
theorem oth_more {α : Type} {d : Kd α} {e : Nat} {v : Value} {xs : List α} (hh : Hold w0 w F p nodes empty most) (hb : Below w0.heap.size w0 w) (h : Kd.R d e w1 0 (More (Oth w0 F) w) v xs) : Kd.R d e w1 0 (Oth w0 F) v xs :=
  Kd.R_mono h (fun k hk => hk.elim id (fun hk => ⟨Nat.le_trans hb.size hk, fun hf => by have := hh.hi k hf; omega⟩))
/-- another list of nodes laid into the world's struct -/
theorem Wd.putX {xv1 : Value} {xs1 : List Nd} (h : Wd w0 w F P p nodes nodesX ats empty most xv av) (hx1 : Kd.R kRn 69 w 0 (Oth w0 F) xv1 xs1) : Wd w0 ((w.setCell ⟨P, 1, none⟩ xv1).setCell ⟨P, 2, none⟩ (.int .i64 most)) F P p nodes xs1 ats empty most xv1 av := by
  have b1 := blk_set h.blk 1 xv1
  refine ⟨(h.hold.kept (G := fun k => k = P) ⟨by simp, fun k hk hn => ?_⟩ (fun k hk e => h.hP.2 (e ▸ hk))), (h.below.setCell (p := ⟨P, 1, none⟩) h.hP.1 _).setCell (p := ⟨P, 2, none⟩) h.hP.1 _, blk_put b1 2 _ rfl, Kd.R_set (Kd.R_set hx1 h.blk tyRn2 1 xv1) b1 tyRn2 2 _, Kd.R_set (Kd.R_set h.ha h.blk tyU 1 xv1) b1 tyU 2 _, h.hP⟩
  rw [Below.heap_setCell _ _ _ k hn, Below.heap_setCell _ _ _ k hn]
/-- the numbers' row has grown, or is another one -/
theorem Wd.grow {v1 : Value} {ats1 : List Int} (h : Wd w0 w F P p nodes nodesX ats empty most xv av) (hg : w.grownBy w1 av.ownBlock) (h1 : Kd.R (Kd.int .u32) 22 w1 0 (More (Oth w0 F) w) v1 ats1) : Wd w0 (w1.setCell ⟨P, 3, none⟩ v1) F P p nodes nodesX ats1 empty most xv v1 := by
  have hne : some P ≠ av.ownBlock := Kd.R_ne h.ha h.blk (by decide)
  have hb1 := blk_grown h.blk hg hne
  have hF : ∀ k, F k → some k ≠ av.ownBlock := fun k hk e => (h.ha.1 k e.symm).2 hk
  have hw : w0.heap.size ≤ w.heap.size := h.below.size
  have hu : ∀ q, q ∈ 69 :: kRn.E → q ≠ 22 := by
    intro q hq
    have h2 : kRn.E = [] := rfl
    rw [h2] at hq
    simp only [List.mem_cons, List.not_mem_nil, or_false] at hq
    subst hq
    decide
  refine ⟨?_, ?_, blk_put hb1 3 _ rfl, ?_, ?_, h.hP⟩
  · have h2 : Hold w0 w1 F p nodes empty most := h.hold.kept (G := fun k => some k = av.ownBlock) ⟨hg.size, fun k hk hn => hg.block k hk hn⟩ (fun k hk e => hF k hk e)
    exact h2.kept (G := fun k => k = P) ⟨by simp, fun k hk hn => Below.heap_setCell _ _ _ k hn⟩ (fun k hk e => h.hP.2 (e ▸ hk))
  · refine Below.setCell (p := ⟨P, 3, none⟩) ?_ h.hP.1 _
    exact h.below.trans ⟨hg.os, hg.tape, hg.output, hg.size, fun k hk => hg.block k (by omega) (fun e => by have := (h.ha.1 k e.symm).1; omega)⟩
  · exact Kd.R_set (Kd.R_over h.hx h.ha hu hg) hb1 tyRn2 3 _
  · refine Kd.R_mono (Kd.R_set h1 hb1 tyU 3 _) (fun k hk => hk.elim id (fun hk => ⟨by omega, fun hf => ?_⟩))
    have := h.hold.hi k hf
    omega
/-- a number laid into its place -/
theorem Wd.put {b n c : Nat} (h : Wd w0 w F P p nodes nodesX ats empty most xv (.slice (some ⟨b, 0, none⟩) n c)) (i : Nat) (x : Int) : Wd w0 (w.setCell ⟨b, i, none⟩ (.int .u32 x)) F P p nodes nodesX (ats.set i x) empty most xv (.slice (some ⟨b, 0, none⟩) n c) := by
  have hob : (Value.slice (some ⟨b, 0, none⟩) n c).ownBlock = some b := rfl
  have hbo := h.ha.1 b hob
  have hne : some P ≠ some b := hob ▸ Kd.R_ne h.ha h.blk (by decide)
  have hPb : P ≠ b := fun e => hne (by rw [e])
  have hp := Kd.R_putn (enc := Value.int .u32) (h1 := fun _ => rfl) h.ha (i : Int) x
  rw [Int.toNat_natCast] at hp
  have hu : ∀ q, q ∈ 69 :: kRn.E → q ≠ 22 := by
    intro q hq
    have h2 : kRn.E = [] := rfl
    rw [h2] at hq
    simp only [List.mem_cons, List.not_mem_nil, or_false] at hq
    subst hq
    decide
  obtain ⟨cells, hcb⟩ := Kd.R_typed h.ha b hob
  refine ⟨h.hold.kept (G := fun k => k = b) ⟨by simp, fun k hk hn => Below.heap_setCell _ _ _ k hn⟩ (fun k hk e => hbo.2 (e ▸ hk)), h.below.setCell (p := ⟨b, i, none⟩) hbo.1 _, blk_far (p := ⟨b, i, none⟩) h.blk hPb _, Kd.R_set h.hx hcb hu i _, hp, h.hP⟩
end
end Go.Proofs.YtbeijhjafmalgaaDoor.ar
namespace Go.Proofs.YtbeijhjafmalgaaDoor.ar
open Go.RowKit Go.Proofs.YtbeijhjafmalgaaDoorW.PrintWords Go.Proofs.YtbeijhjafmalgaaDoorW.PrintLast Go.Proofs.YtbeijhjafmalgaaDoorW.PrintMore Go.Proofs.YtbeijhjafmalgaaDoor.bs Go.ChangeShapes Go.Proofs.YtbeijhjafmalgaaDoor.lb

def FitsPost (w0 : World) (F : Nat → Prop) (P p : Nat) (nodes : List Nd) (empty : List Int) (most : Int) (e : Ending) (w' : World) : Prop :=
  ∃ xv av, e = .returned (.bool true) ∧ Wd w0 w' F P p nodes nodes (idL nodes.length) empty most xv av
theorem fits_ret {w0 w : World} {F : Nat → Prop} {P p m : Nat} {nodes : List Nd} {empty : List Int} {most : Int} {xv av : Value} {e : Ending} (h : Wd w0 w F P p nodes nodes (idL m) empty most xv av) (hm : nodes.length = m) (he : e = .returned (.bool true)) : FitsPost w0 F P p nodes empty most e w := ⟨xv, av, he, by rw [hm]; exact h⟩
theorem rnU (q : Nat) (hq : q ∈ 69 :: kRn.E) : q ≠ 22 := by
  have h2 : kRn.E = [] := rfl
  rw [h2] at hq
  simp only [List.mem_cons, List.not_mem_nil, or_false] at hq
  subst hq
  decide
/-- the numbers, with k new places -/
def atK (n k : Nat) : List Int := idL n ++ List.replicate k 4294967295
theorem atK_len (n k : Nat) : (atK n k).length = n + k := by simp [atK, idL_len]
theorem atK_succ (n k : Nat) : atK n k ++ [4294967295] = atK n (k + 1) := by simp [atK, List.replicate_succ']
theorem atK_zero (n : Nat) : atK n 0 = idL n := by simp [atK]
theorem atK_old (n k i : Nat) (h : i < n) : (atK n k)[i]? = some (i : Int) := by
  unfold atK
  rw [List.getElem?_append_left (by rw [idL_len]; exact h), idL_get n i h]
theorem atK_new (n : Nat) : (atK n 1)[n]? = some 4294967295 := by
  unfold atK
  rw [List.getElem?_append_right (by rw [idL_len]; exact Nat.le_refl _), idL_len]
  simp
theorem atK_set (n : Nat) : (atK n 1).set n (n : Int) = idL (n + 1) := by
  unfold atK
  rw [idL_succ, List.set_append_right _ _ (by rw [idL_len]; exact Nat.le_refl _), idL_len]
  simp
set_option maxRecDepth 100000 in
set_option maxHeartbeats 4000000 in
theorem fits_zero (w0 w : World) (F : Nat → Prop) (P p : Nat) (nodes nodesX : List Nd) (empty : List Int) (most : Int) (xv av : Value) (D : Wd w0 w F P p nodes nodesX (idL nodesX.length) empty most xv av) (hE : ec.ErrAt w)
    (A : Option Addr) (c : Nat) (hy : Kd.R kRn 69 w 0 (Oth w0 F) (.slice A nodes.length c) nodes) (place : Int) (hl : nodes.length = nodesX.length ∧ place < nodes.length ∨ nodes.length = nodesX.length + 1 ∧ place = nodesX.length) (h0 : 0 ≤ place) (hN : nodes.length < 536870912) :
    Calls Tryd.prog 25 #[.pointer (some ⟨P, 0, none⟩), .agg #[.slice A nodes.length c, .int .i64 most], .int .i64 place, .int .i64 0, .int .u32 place, errOf 0] w fun e w' => FitsPost w0 F P p nodes empty most e w' := by
  obtain ⟨n, hn⟩ : ∃ n, nodesX.length = n := ⟨_, rfl⟩
  rw [hn] at D hl
  clear hn
  obtain ⟨m, hm⟩ : ∃ m, nodes.length = m := ⟨_, rfl⟩
  rw [hm] at hy hl hN ⊢
  have HM := Aside0.mk hm
  clear hm
  rw [← atK_zero] at D
  have DD := Aside0.mk (D.drop (below_alloc (Below.refl _ _) (.cells #[.slice A m c, .int .i64 most] 47)))
  have HY := Aside0.mk (Kd.R_alloc hy (.cells #[.slice A m c, .int .i64 most] 47))
  have KY := Aside0.mk (blk_new w (.cells #[.slice A m c, .int .i64 most] 47))
  have HE := Aside0.mk (hE.below (below_alloc (Below.refl _ _) (.cells #[.slice A m c, .int .i64 most] 47)))
  clear D hy hE
  have HC := Aside0.mk (fun W (_ : ec.ErrAt W) => ec.code_nil W)
  rw [show errOf 0 = .nilIface from rfl]
  have hnm : Aside0 (n ≤ m ∧ m ≤ n + 1) := ⟨by omega⟩
  have HL := Aside0.mk hl
  clear hl
  go_enter Tryd.func25, Tryd.ntmps25
  go_upto_region 1 with (fail)
  generalize w.heap.size = y at *
  generalize w.alloc (.cells #[.slice A m c, .int .i64 most] 47) = w1 at *
  go_wp2_with (first | (go_at_call 14; refine (HC.out _ HE.out).mono ?_; rintro e w2 ⟨rfl, hb⟩; have D2 := Aside0.mk (DD.out.drop hb); have HY2 := Aside0.mk (Kd.R_below HY.out hb); have KY2 := Aside0.mk (blk_below KY.out hb); clear hb))
  clear DD HY HE KY HC
  have D20 := Aside0.mk (⟨av, D2.out⟩ : ∃ av, Wd w0 w2 F P p nodes nodesX (atK n 0) empty most xv av)
  obtain ⟨hnm1, hnm2⟩ := hnm.out
  go_loopg [] (m - n) (fun kq w' => ∃ (k : Nat) (av : Value), n + k + kq = m ∧ k ≤ 1 ∧ Aside0 (Wd w0 w' F P p nodes nodesX (atK n k) empty most xv av) ∧ Aside0 (Kd.R kRn 69 w' 0 (Oth w0 F) (.slice A m c) nodes) ∧ Aside0 (w'.heap[y]? = some (.cells #[.slice A m c, .int .i64 most] 47 (0, 0))))
  case atStart => exact ⟨0, av, by omega, by omega, D2, HY2, KY2⟩
  case round =>
    clear D2 HY2 KY2 D20
    obtain ⟨k, av, hk, hk1, D2, HY2, KY2⟩ := hrel
    have hal : Aside0 ((atK n k).length = n + k) := ⟨atK_len n k⟩
    obtain ⟨aa, ac, rfl⟩ := Kd.R_slice D2.out.ha
    rw [hal.out] at D2
    have p0 := blk_cell D2.out.blk 0
    have p1 := blk_cell D2.out.blk 1
    have p2 := blk_cell D2.out.blk 2
    have p3 := blk_cell D2.out.blk 3
    have q1 := blk_frozen D2.out.blk 1
    have q2 := blk_frozen D2.out.blk 2
    have q3 := blk_frozen D2.out.blk 3
    have y0 := blk_cell KY2.out 0
    have y1 := blk_cell KY2.out 1
    simp only [List.getElem?_toArray, List.getElem?_cons_zero, List.getElem?_cons_succ] at p0 p1 p2 p3 y0 y1

    by_cases hlt : n + k < m
    · obtain ⟨gm, rfl⟩ : ∃ m, gk = m + 1 := ⟨gk - 1, by omega⟩
      have hltI : (n : Int) + (k : Int) < (m : Int) := by omega
      go_upto_region 3 with (fail)
      go_quiet (fail)
      clear p0 p1 p2 p3 q1 q2 q3 y0 y1
      have D3 := Aside0.mk (D2.out.drop (pw_below_drewN (Below.refl _ _) nq))
      have HY3 := Aside0.mk (Kd.R_drewN HY2.out nq)
      have KY3 := Aside0.mk (blk_drewN KY2.out nq)
      clear D2 HY2 KY2
      generalize wr.drewN nq = w3 at *
      have p0 := blk_cell D3.out.blk 0
      have p1 := blk_cell D3.out.blk 1
      have p2 := blk_cell D3.out.blk 2
      have p3 := blk_cell D3.out.blk 3
      have q1 := blk_frozen D3.out.blk 1
      have q2 := blk_frozen D3.out.blk 2
      have q3 := blk_frozen D3.out.blk 3
      have y0 := blk_cell KY3.out 0
      have y1 := blk_cell KY3.out 1
      simp only [List.getElem?_toArray, List.getElem?_cons_zero, List.getElem?_cons_succ] at p0 p1 p2 p3 y0 y1

      have HA3 := Aside0.mk (Kd.R_mono (ok' := More (Oth w0 F) w3) D3.out.ha (fun _ h => .inl h))
      have hPn : Aside0 (some P ≠ (Value.slice aa (n + k) ac).ownBlock) := ⟨Kd.R_ne D3.out.ha D3.out.blk (by decide)⟩
      have hYn : Aside0 (some y ≠ (Value.slice aa (n + k) ac).ownBlock) := ⟨Kd.R_ne D3.out.ha KY3.out (by decide)⟩
      have hYP : Aside0 (y ≠ P) := ⟨fun e => by
        have h1 := KY3.out
        rw [e, D3.out.blk] at h1
        injection h1 with h1
        injection h1 with _ ht _
        exact absurd ht (by decide)⟩
      go_wp2_with (first | ((with_reducible refine gate_builtin (b := .append) (xs := #[.tmp 38, .tmp 39]) rfl ?_); at_builtin; refine Kd.R_append (Kd.int .u32) (w0 := w3) 0 rfl (.tmp 38) (.tmp 39) 49 22 (.int .u32 0) 4 rfl Tryd.underlying49 infoU rfl (by decide) (by decide) (.slice aa (n + k) ac) (atK n k) 4294967295 [.int .u32 4294967295] (More (Oth w0 F) w3) (fun _ => False) rfl rfl rfl (fun _ hk => hk.elim) (fun _ h => .inr h) HA3.out (Below.refl _ _) (Nat.zero_le _) (by rw [hal.out]; omega) ?_; intro v1 w4 ho4 hb4 hg4 hat4; have p3' := (World.cell?_of_block (a := ⟨P, 3, none⟩) (hg4.block P (blk_lt D3.out.blk) hPn.out)).trans p3; have q3' := (World.frozen?_of_block (a := ⟨P, 3, none⟩) (hg4.block P (blk_lt D3.out.blk) hPn.out)).trans q3; have HO4 := Aside0.mk ho4; have HG4 := Aside0.mk hg4; clear ho4 hb4 hg4 hat4; obtain ⟨a4, c4, rfl⟩ := Kd.R_slice HO4.out))
      have D4 := D3.out.grow HG4.out HO4.out
      have hl4 : (atK n k ++ [4294967295]).length = n + k + 1 := by rw [List.length_append, hal.out]; rfl
      rw [atK_succ] at D4
      have D5 := Aside0.mk D4
      have KY5 := Aside0.mk (blk_far (p := ⟨P, 3, none⟩) (blk_grown KY3.out HG4.out hYn.out) hYP.out (.slice a4 (atK n k ++ [4294967295]).length c4))
      have HY5 := Aside0.mk (Kd.R_set (Kd.R_over HY3.out D3.out.ha rnU HG4.out) (blk_grown D3.out.blk HG4.out hPn.out) tyRn2 3 (.slice a4 (atK n k ++ [4294967295]).length c4))
      rw [hl4] at KY5 HY5
      rw [atK_succ] at hl4
      rw [hl4] at D5
      clear D4 hl4
      go_roundg gm
      case measure => omega
      case rel => simp only [hal.out]; exact ⟨k + 1, _, by omega, by omega, D5, HY5, KY5⟩
    · obtain rfl : gk = 0 := by omega
      obtain rfl : m = n + k := by omega
      clear hnm1 hnm2
      have hfin := HL.out
      go_upto_region 3 with (fail)
      go_quiet (fail)
      clear p0 p1 p2 p3 q1 q2 q3 y0 y1
      have D3 := Aside0.mk (D2.out.drop (pw_below_drewN (Below.refl _ _) nq))
      have HY3 := Aside0.mk (Kd.R_drewN HY2.out nq)
      have KY3 := Aside0.mk (blk_drewN KY2.out nq)
      clear D2 HY2 KY2
      generalize wr.drewN nq = w3 at *
      have p0 := blk_cell D3.out.blk 0
      have p1 := blk_cell D3.out.blk 1
      have p2 := blk_cell D3.out.blk 2
      have p3 := blk_cell D3.out.blk 3
      have q1 := blk_frozen D3.out.blk 1
      have q2 := blk_frozen D3.out.blk 2
      have q3 := blk_frozen D3.out.blk 3
      have y0 := blk_cell KY3.out 0
      have y1 := blk_cell KY3.out 1
      simp only [List.getElem?_toArray, List.getElem?_cons_zero, List.getElem?_cons_succ] at p0 p1 p2 p3 y0 y1

      have hpl := (show n + k = n ∧ place < ((n + k : Nat) : Int) ∨ n + k = n + 1 ∧ place = n from HL.out)
      clear hfin
      have D4 := Aside0.mk (D3.out.putX HY3.out)
      clear KY3 HY3
      go_upto_region 6 with (fail)
      clear p0 p1 p2 p3 q1 q2 q3 y0 y1
      generalize (w3.setCell ⟨P, 1, none⟩ (.slice A (n + k) c)).setCell ⟨P, 2, none⟩ (.int .i64 most) = w4 at *
      have p3 := blk_cell D4.out.blk 3
      simp only [List.getElem?_toArray, List.getElem?_cons_zero, List.getElem?_cons_succ] at p3
      obtain ⟨i, rfl⟩ := Int.eq_ofNat_of_zero_le h0
      have hi : i < n + k := by omega
      have hii : (i : Int) < (n : Int) + (k : Int) := by omega
      obtain ⟨ba, ca, hv, _⟩ := Kd.R_form D4.out.ha (by rw [hal.out]; omega)
      rw [hal.out] at hv
      injection hv with hv1 hv2 hv3
      subst hv1 hv3
      have hc := Kd.R_celln (enc := Value.int .u32) (h1 := fun _ => rfl) 0 D4.out.ha (i : Int) (by omega) (by omega)
      rw [Int.toNat_natCast] at hc
      have hmxA := Kd.C_max (Kd.R_reads' D4.out.ha).2.2
      rw [hal.out] at hmxA
      by_cases hin : i < n
      · as_aux_lemma =>
        rw [show rdOf 0 (atK n k) (i : Int) = (i : Int) by simp [rdOf, atK_old n k i hin]] at hc
        obtain ⟨hc1, hc2⟩ := hc
        have hkz : k = 0 := by omega
        subst hkz
        have hne : ((i : Int) == 4294967295) = false := by rw [beq_eq_false_iff_ne]; omega
        go_wp2_with (fail)
        go_ret
        have D5 := D4.out
        rw [atK_zero] at D5
        exact fits_ret D5 HM.out rfl
      · as_aux_lemma =>
        have hk1' : k = 1 := by omega
        subst hk1'
        obtain rfl : i = n := by omega
        rw [show rdOf 0 (atK i 1) (i : Int) = 4294967295 by simp [rdOf, atK_new i]] at hc
        obtain ⟨hc1, hc2⟩ := hc
        have D5 := D4.out.put i (i : Int)
        rw [atK_set] at D5
        have D6 := Aside0.mk D5
        have p3 := blk_cell D6.out.blk 3
        simp only [List.getElem?_toArray, List.getElem?_cons_zero, List.getElem?_cons_succ] at p3
        have hc3 := Kd.R_celln (enc := Value.int .u32) (h1 := fun _ => rfl) 0 D6.out.ha (i : Int) (by omega) (by omega)
        rw [Int.toNat_natCast, show rdOf 0 (idL (i + 1)) (i : Int) = (i : Int) by simp [rdOf, idL_get (i + 1) i (by omega)]] at hc3
        obtain ⟨hc3, hc4⟩ := hc3
        clear D5
        go_wp2_with (fail)
        go_ret
        exact fits_ret D6.out HM.out rfl
set_option maxRecDepth 100000 in
set_option maxHeartbeats 4000000 in
theorem fits_err (w0 w : World) (F : Nat → Prop) (P p : Nat) (nodes nodesX : List Nd) (empty : List Int) (most : Int) (xv av : Value) (D : Wd w0 w F P p nodes nodesX (idL nodesX.length) empty most xv av) (hE : ec.ErrAt w)
    (A : Option Addr) (c : Nat) (hy : Kd.R kRn 69 w 0 (Oth w0 F) (.slice A nodes.length c) nodes) (place code : Int) (hc : code ≠ 0) (hl : nodes.length = nodesX.length) (hN : nodes.length < 536870912) :
    Calls Tryd.prog 25 #[.pointer (some ⟨P, 0, none⟩), .agg #[.slice A nodes.length c, .int .i64 most], .int .i64 place, .int .i64 code, .int .u32 0, errOf code] w fun e w' => FitsPost w0 F P p nodes empty most e w' := by
  obtain ⟨n, hn⟩ : ∃ n, nodesX.length = n := ⟨_, rfl⟩
  rw [hn] at D hl
  clear hn
  obtain ⟨m, hm⟩ : ∃ m, nodes.length = m := ⟨_, rfl⟩
  rw [hm] at hy hl hN ⊢
  have HM := Aside0.mk hm
  clear hm
  rw [← atK_zero] at D
  have DD := Aside0.mk (D.drop (below_alloc (Below.refl _ _) (.cells #[.slice A m c, .int .i64 most] 47)))
  have HY := Aside0.mk (Kd.R_alloc hy (.cells #[.slice A m c, .int .i64 most] 47))
  have KY := Aside0.mk (blk_new w (.cells #[.slice A m c, .int .i64 most] 47))
  have HE := Aside0.mk (hE.below (below_alloc (Below.refl _ _) (.cells #[.slice A m c, .int .i64 most] 47)))
  clear D hy hE
  have HC : Aside0 (∀ W, ec.ErrAt W → Calls Tryd.prog 14 #[errOf code] W fun e w' => e = .returned (.int .i64 code) ∧ Below W.heap.size W w') := ⟨fun W hW => by
    unfold errOf
    rw [if_neg hc]; exact ec.code_hit code W hW⟩
  generalize errOf code = ev at *
  have hnm : Aside0 (n ≤ m ∧ m ≤ n + 1) := ⟨by omega⟩
  have HL := Aside0.mk hl
  clear hl
  go_enter Tryd.func25, Tryd.ntmps25
  go_upto_region 1 with (fail)
  generalize w.heap.size = y at *
  generalize w.alloc (.cells #[.slice A m c, .int .i64 most] 47) = w1 at *
  have hcx : (code != 0) = true := by simp [hc]
  go_wp2_with (first | (go_at_call 14; refine (HC.out _ HE.out).mono ?_; rintro e w2 ⟨rfl, hb⟩; have D2 := Aside0.mk (DD.out.drop hb); have HY2 := Aside0.mk (Kd.R_below HY.out hb); have KY2 := Aside0.mk (blk_below KY.out hb); clear hb))
  clear DD HY HE KY HC
  have D20 := Aside0.mk (⟨av, D2.out⟩ : ∃ av, Wd w0 w2 F P p nodes nodesX (atK n 0) empty most xv av)
  obtain ⟨hnm1, hnm2⟩ := hnm.out
  go_loopg [] (m - n) (fun kq w' => ∃ (k : Nat) (av : Value), n + k + kq = m ∧ k ≤ 1 ∧ Aside0 (Wd w0 w' F P p nodes nodesX (atK n k) empty most xv av) ∧ Aside0 (Kd.R kRn 69 w' 0 (Oth w0 F) (.slice A m c) nodes) ∧ Aside0 (w'.heap[y]? = some (.cells #[.slice A m c, .int .i64 most] 47 (0, 0))))
  case atStart => exact ⟨0, av, by omega, by omega, D2, HY2, KY2⟩
  case round =>
    clear D2 HY2 KY2 D20
    obtain ⟨k, av, hk, hk1, D2, HY2, KY2⟩ := hrel
    have hal : Aside0 ((atK n k).length = n + k) := ⟨atK_len n k⟩
    obtain ⟨aa, ac, rfl⟩ := Kd.R_slice D2.out.ha
    rw [hal.out] at D2
    have p0 := blk_cell D2.out.blk 0
    have p1 := blk_cell D2.out.blk 1
    have p2 := blk_cell D2.out.blk 2
    have p3 := blk_cell D2.out.blk 3
    have q1 := blk_frozen D2.out.blk 1
    have q2 := blk_frozen D2.out.blk 2
    have q3 := blk_frozen D2.out.blk 3
    have y0 := blk_cell KY2.out 0
    have y1 := blk_cell KY2.out 1
    simp only [List.getElem?_toArray, List.getElem?_cons_zero, List.getElem?_cons_succ] at p0 p1 p2 p3 y0 y1

    by_cases hlt : n + k < m
    · obtain ⟨gm, rfl⟩ : ∃ m, gk = m + 1 := ⟨gk - 1, by omega⟩
      have hltI : (n : Int) + (k : Int) < (m : Int) := by omega
      go_upto_region 3 with (fail)
      go_quiet (fail)
      clear p0 p1 p2 p3 q1 q2 q3 y0 y1
      have D3 := Aside0.mk (D2.out.drop (pw_below_drewN (Below.refl _ _) nq))
      have HY3 := Aside0.mk (Kd.R_drewN HY2.out nq)
      have KY3 := Aside0.mk (blk_drewN KY2.out nq)
      clear D2 HY2 KY2
      generalize wr.drewN nq = w3 at *
      have p0 := blk_cell D3.out.blk 0
      have p1 := blk_cell D3.out.blk 1
      have p2 := blk_cell D3.out.blk 2
      have p3 := blk_cell D3.out.blk 3
      have q1 := blk_frozen D3.out.blk 1
      have q2 := blk_frozen D3.out.blk 2
      have q3 := blk_frozen D3.out.blk 3
      have y0 := blk_cell KY3.out 0
      have y1 := blk_cell KY3.out 1
      simp only [List.getElem?_toArray, List.getElem?_cons_zero, List.getElem?_cons_succ] at p0 p1 p2 p3 y0 y1

      have HA3 := Aside0.mk (Kd.R_mono (ok' := More (Oth w0 F) w3) D3.out.ha (fun _ h => .inl h))
      have hPn : Aside0 (some P ≠ (Value.slice aa (n + k) ac).ownBlock) := ⟨Kd.R_ne D3.out.ha D3.out.blk (by decide)⟩
      have hYn : Aside0 (some y ≠ (Value.slice aa (n + k) ac).ownBlock) := ⟨Kd.R_ne D3.out.ha KY3.out (by decide)⟩
      have hYP : Aside0 (y ≠ P) := ⟨fun e => by
        have h1 := KY3.out
        rw [e, D3.out.blk] at h1
        injection h1 with h1
        injection h1 with _ ht _
        exact absurd ht (by decide)⟩
      go_wp2_with (first | ((with_reducible refine gate_builtin (b := .append) (xs := #[.tmp 38, .tmp 39]) rfl ?_); at_builtin; refine Kd.R_append (Kd.int .u32) (w0 := w3) 0 rfl (.tmp 38) (.tmp 39) 49 22 (.int .u32 0) 4 rfl Tryd.underlying49 infoU rfl (by decide) (by decide) (.slice aa (n + k) ac) (atK n k) 4294967295 [.int .u32 4294967295] (More (Oth w0 F) w3) (fun _ => False) rfl rfl rfl (fun _ hk => hk.elim) (fun _ h => .inr h) HA3.out (Below.refl _ _) (Nat.zero_le _) (by rw [hal.out]; omega) ?_; intro v1 w4 ho4 hb4 hg4 hat4; have p3' := (World.cell?_of_block (a := ⟨P, 3, none⟩) (hg4.block P (blk_lt D3.out.blk) hPn.out)).trans p3; have q3' := (World.frozen?_of_block (a := ⟨P, 3, none⟩) (hg4.block P (blk_lt D3.out.blk) hPn.out)).trans q3; have HO4 := Aside0.mk ho4; have HG4 := Aside0.mk hg4; clear ho4 hb4 hg4 hat4; obtain ⟨a4, c4, rfl⟩ := Kd.R_slice HO4.out))
      have D4 := D3.out.grow HG4.out HO4.out
      have hl4 : (atK n k ++ [4294967295]).length = n + k + 1 := by rw [List.length_append, hal.out]; rfl
      rw [atK_succ] at D4
      have D5 := Aside0.mk D4
      have KY5 := Aside0.mk (blk_far (p := ⟨P, 3, none⟩) (blk_grown KY3.out HG4.out hYn.out) hYP.out (.slice a4 (atK n k ++ [4294967295]).length c4))
      have HY5 := Aside0.mk (Kd.R_set (Kd.R_over HY3.out D3.out.ha rnU HG4.out) (blk_grown D3.out.blk HG4.out hPn.out) tyRn2 3 (.slice a4 (atK n k ++ [4294967295]).length c4))
      rw [hl4] at KY5 HY5
      rw [atK_succ] at hl4
      rw [hl4] at D5
      clear D4 hl4
      go_roundg gm
      case measure => omega
      case rel => simp only [hal.out]; exact ⟨k + 1, _, by omega, by omega, D5, HY5, KY5⟩
    · obtain rfl : gk = 0 := by omega
      obtain rfl : m = n + k := by omega
      clear hnm1 hnm2
      have hfin := HL.out
      go_upto_region 3 with (fail)
      go_quiet (fail)
      clear p0 p1 p2 p3 q1 q2 q3 y0 y1
      have D3 := Aside0.mk (D2.out.drop (pw_below_drewN (Below.refl _ _) nq))
      have HY3 := Aside0.mk (Kd.R_drewN HY2.out nq)
      have KY3 := Aside0.mk (blk_drewN KY2.out nq)
      clear D2 HY2 KY2
      generalize wr.drewN nq = w3 at *
      have p0 := blk_cell D3.out.blk 0
      have p1 := blk_cell D3.out.blk 1
      have p2 := blk_cell D3.out.blk 2
      have p3 := blk_cell D3.out.blk 3
      have q1 := blk_frozen D3.out.blk 1
      have q2 := blk_frozen D3.out.blk 2
      have q3 := blk_frozen D3.out.blk 3
      have y0 := blk_cell KY3.out 0
      have y1 := blk_cell KY3.out 1
      simp only [List.getElem?_toArray, List.getElem?_cons_zero, List.getElem?_cons_succ] at p0 p1 p2 p3 y0 y1

      have hk0 : k = 0 := by omega
      subst hk0
      clear hfin
      have D4 := Aside0.mk (D3.out.putX HY3.out)
      clear KY3 HY3
      have hne : (code == 0) = false := by simp [hc]
      go_wp2_with (fail)
      go_ret
      have D5 := D4.out
      rw [atK_zero] at D5
      exact fits_ret D5 HM.out rfl
end Go.Proofs.YtbeijhjafmalgaaDoor.ar
namespace Go.Proofs.YtbeijhjafmalgaaDoor.ar
open Go.RowKit Go.Proofs.YtbeijhjafmalgaaDoorW.PrintWords Go.Proofs.YtbeijhjafmalgaaDoorW.PrintLast Go.Proofs.YtbeijhjafmalgaaDoorW.PrintMore Go.Proofs.YtbeijhjafmalgaaDoor.bs Go.ChangeShapes Go.Proofs.YtbeijhjafmalgaaDoor.lb

def I64 (x : Int) : Prop := -9223372036854775808 ≤ x ∧ x ≤ 9223372036854775807
def iCells (os : List Int) : Array Value := (os.map (Value.int .i64)).toArray
theorem iCells_get (os : List Int) (j : Nat) (x : Int) (h : os[j]? = some x) : (iCells os)[j]? = some (.int .i64 x) := by simp [iCells, h]
theorem iCells_set (os : List Int) (j : Nat) (x : Int) : (iCells os).setIfInBounds j (.int .i64 x) = iCells (os.set j x) := by simp [iCells, List.map_set]
def Four (os : List Int) : Prop := os.length = 4 ∧ ∀ x ∈ os, I64 x
theorem Four.set {os : List Int} (h : Four os) (j : Nat) {x : Int} (hx : I64 x) : Four (os.set j x) :=
  ⟨by rw [List.length_set]; exact h.1, fun y hy => (List.mem_or_eq_of_mem_set hy).elim (h.2 y) (fun e => e ▸ hx)⟩
theorem Four.list {os : List Int} (h : Four os) : ∃ a b c d, os = [a, b, c, d] ∧ I64 a ∧ I64 b ∧ I64 c ∧ I64 d := by
  obtain ⟨hl, hb⟩ := h
  match os, hl with
  | [a, b, c, d], _ => exact ⟨a, b, c, d, rfl, hb a (by simp), hb b (by simp), hb c (by simp), hb d (by simp)⟩
theorem four_get {os : List Int} (h : Four os) (j : Nat) (hj : j < 4) : ∃ x, os[j]? = some x ∧ I64 x := by
  have hl := h.1
  exact ⟨os[j]'(by omega), List.getElem?_eq_getElem (by omega), h.2 _ (List.getElem_mem _)⟩
theorem arr4_get (a b c d : Int) : ∀ j : Nat, j < 4 → (#[.int .i64 a, .int .i64 b, .int .i64 c, .int .i64 d] : Array Value)[j]? = some (.int .i64 (kidOf a b c d j))
  | 0, _ => rfl
  | 1, _ => rfl
  | 2, _ => rfl
  | 3, _ => rfl
  | n + 4, h => by omega
def KidsPost (w : World) (e : Ending) (w' : World) : Prop := ∃ a b c d, e = .returned (.agg #[.int .i64 a, .int .i64 b, .int .i64 c, .int .i64 d]) ∧ I64 a ∧ I64 b ∧ I64 c ∧ I64 d ∧ Below w.heap.size w w'
set_option maxRecDepth 100000 in
set_option maxHeartbeats 4000000 in
theorem wkids_walk (w0 w : World) (F : Nat → Prop) (P p : Nat) (nodes nodesX : List Nd) (ats empty : List Int) (most : Int) (xv av : Value) (D : Wd w0 w F P p nodes nodesX ats empty most xv av) (hpos : 0 < nodesX.length) (r0 r1 r2 r3 : Int) (b0 : I64 r0) (b1 : I64 r1) (b2 : I64 r2) (b3 : I64 r3) :
    Calls Tryd.prog 26 #[.pointer (some ⟨P, 0, none⟩), .agg #[.int .i64 r0, .int .i64 r1, .int .i64 r2, .int .i64 r3]] w fun e w' => KidsPost w e w' := by
  have hidx := fun (w : World) (j : Nat) (h : j < 4) => index4i w r0 r1 r2 r3 j h
  have hkb := kidOf_i64 b0 b1 b2 b3
  obtain ⟨ka, kg, ko, hB⟩ := three_new w #[.int .i64 r0, .int .i64 r1, .int .i64 r2, .int .i64 r3] #[.int .i64 0, .int .i64 0, .int .i64 0, .int .i64 0] #[.int .i64 0, .int .i64 0, .int .i64 0, .int .i64 0] 53 53 53
  have KA := Aside0.mk ka
  have KG := Aside0.mk kg
  have KO := Aside0.mk (show _ = some (Obj.cells (iCells [0, 0, 0, 0]) _ _) from ko)
  have HB := Aside0.mk hB
  have DD := Aside0.mk D
  have HP := Aside0.mk hpos
  clear ka kg ko hB D hpos
  go_enter Tryd.func26, Tryd.ntmps26
  go_upto_region 3 with (fail)
  generalize ((w.alloc (.cells #[.int .i64 r0, .int .i64 r1, .int .i64 r2, .int .i64 r3] 53)).alloc (.cells #[.int .i64 0, .int .i64 0, .int .i64 0, .int .i64 0] 53)).alloc (.cells #[.int .i64 0, .int .i64 0, .int .i64 0, .int .i64 0] 53) = w1 at *
  have hwo : Aside0 (w.heap.size ≤ w.heap.size + 1 + 1) := ⟨by omega⟩
  have hwg : Aside0 (w.heap.size ≤ w.heap.size + 1) := ⟨by omega⟩
  have hao : Aside0 (w.heap.size ≠ w.heap.size + 1 + 1) := ⟨by omega⟩
  have hgo : Aside0 (w.heap.size + 1 ≠ w.heap.size + 1 + 1) := ⟨by omega⟩
  generalize w.heap.size + 1 + 1 = o at *
  generalize w.heap.size + 1 = g at *
  obtain ⟨a, ha⟩ : ∃ a, w.heap.size = a := ⟨_, rfl⟩
  simp only [ha] at KA hao ⊢
  clear ha
  obtain ⟨xa, xc, rfl⟩ := Kd.R_slice DD.out.hx
  have hmx := Kd.C_max (Kd.R_reads' DD.out.hx).2.2
  go_loopg [12] 4 (fun kq c12 w' => ∃ (j : Nat) (os : List Int), j + kq = 4 ∧ c12 = .int .i64 j ∧ Four os ∧ Aside0 (w'.heap[a]? = some (.cells #[.int .i64 r0, .int .i64 r1, .int .i64 r2, .int .i64 r3] 53 (0, 0))) ∧ Aside0 (w'.heap[g]? = some (.cells #[.int .i64 0, .int .i64 0, .int .i64 0, .int .i64 0] 53 (0, 0))) ∧ Aside0 (w'.heap[o]? = some (.cells (iCells os) 53 (0, 0))) ∧ Aside0 (Below w.heap.size w w'))
  case atStart => exact ⟨0, [0, 0, 0, 0], by omega, rfl, ⟨rfl, by simp [I64]⟩, KA, KG, KO, HB⟩
  case round =>
    clear KA KG KO HB
    obtain ⟨j, os, hj, rfl, hos, KA, KG, KO, HB⟩ := hrel
    have HOS := Aside0.mk hos
    clear hos
    have D1 := Aside0.mk (DD.out.drop HB.out)
    have p1 := blk_cell D1.out.blk 1
    simp only [List.getElem?_toArray, List.getElem?_cons_zero, List.getElem?_cons_succ] at p1
    by_cases h4 : j < 4
    · obtain ⟨gm, rfl⟩ : ∃ m, gk = m + 1 := ⟨gk - 1, by omega⟩
      have hi := fun w => hidx w j h4
      have hkv := hkb j
      generalize kidOf r0 r1 r2 r3 j = kv at *
      obtain ⟨x, hx, _⟩ := four_get HOS.out j h4
      have oc := blk_cell KO.out j
      rw [iCells_get os j x hx] at oc
      have of := blk_frozen KO.out j
      have KO1 := Aside0.mk (blk_put KO.out j (.int .i64 kv) (iCells_set os j kv))
      have KA1 := Aside0.mk (blk_far (p := ⟨o, j, none⟩) KA.out hao.out (.int .i64 kv))
      have KG1 := Aside0.mk (blk_far (p := ⟨o, j, none⟩) KG.out hgo.out (.int .i64 kv))
      have HB1 := Aside0.mk (HB.out.setCell (p := ⟨o, j, none⟩) hwo.out (.int .i64 kv))
      have HOS1 := Aside0.mk (HOS.out.set j (x := kv) hkv)
      clear hx hidx hkb
      go_upto_region 6 with (fail)
      clear oc of p1 hi D1
      generalize wr.setCell ⟨o, j, none⟩ (.int .i64 kv) = w2 at *
      have D2 := Aside0.mk (DD.out.drop HB1.out)
      have p1 := blk_cell D2.out.blk 1
      simp only [List.getElem?_toArray, List.getElem?_cons_zero, List.getElem?_cons_succ] at p1
      by_cases hin : 0 ≤ kv ∧ kv < 1000
      · obtain ⟨hi0, hi1⟩ := hin
        obtain ⟨x, hx, _⟩ := four_get HOS1.out j h4
        have oc := blk_cell KO1.out j
        rw [iCells_get _ j x hx] at oc
        have of := blk_frozen KO1.out j
        have hp0 := HP.out
        have hnz : ((nodesX.length : Int) == 0) = false := by rw [beq_eq_false_iff_ne]; omega
        obtain ⟨q, hq, hqb⟩ : ∃ q : Int, kv % (nodesX.length : Int) = q ∧ I64 q := ⟨_, rfl, by
          have h1 := Int.emod_nonneg kv (show (nodesX.length : Int) ≠ 0 by omega)
          have h2 := Int.emod_lt_of_pos kv (show (0 : Int) < nodesX.length by omega)
          unfold I64; omega⟩
        have HQ := Aside0.mk hq
        have hne0 : ¬ nodesX.length = 0 := by omega
        clear hq
        go_upto_region 7 with (fail)
        have KO3 := Aside0.mk (blk_put KO1.out j (.int .i64 q) (iCells_set _ j q))
        have KA3 := Aside0.mk (blk_far (p := ⟨o, j, none⟩) KA1.out hao.out (.int .i64 q))
        have KG3 := Aside0.mk (blk_far (p := ⟨o, j, none⟩) KG1.out hgo.out (.int .i64 q))
        have HB3 := Aside0.mk (HB1.out.setCell (p := ⟨o, j, none⟩) hwo.out (.int .i64 q))
        have HOS3 := Aside0.mk (HOS1.out.set j hqb)
        clear D2 HOS HOS1 KA KG KO HB hx
        go_wp2_with (fail)
        go_roundg gm
        case measure => omega
        case rel => rw [HQ.out]; exact ⟨j + 1, _, by omega, by go_num, HOS3.out, KA3, KG3, KO3, HB3⟩
      · have hcond : ((decide (kv ≥ 0)) && (decide (kv < 1000))) = false := by
          simp only [Bool.and_eq_false_iff, decide_eq_false_iff_not]; omega
        clear D2
        have hor : kv < 0 ∨ (0 ≤ kv ∧ ¬ kv < 1000) := by omega
        clear hin
        rcases hor with h1 | ⟨h1, h2⟩
        all_goals
          go_wp2_with (fail)
          go_roundg gm
          case measure => omega
          case rel => exact ⟨j + 1, _, by omega, by go_num, HOS1.out, KA1, KG1, KO1, HB1⟩
    · obtain rfl : j = 4 := by omega
      obtain ⟨o0, o1, o2, o3, rfl, ho0, ho1, ho2, ho3⟩ := HOS.out.list
      clear HOS D1 p1
      have k0 : wr.cell? ⟨o, 0, none⟩ = some (.int .i64 o0) := blk_cell KO.out 0
      have k1 : wr.cell? ⟨o, 1, none⟩ = some (.int .i64 o1) := blk_cell KO.out 1
      have k2 : wr.cell? ⟨o, 2, none⟩ = some (.int .i64 o2) := blk_cell KO.out 2
      have k3 : wr.cell? ⟨o, 3, none⟩ = some (.int .i64 o3) := blk_cell KO.out 3
      have g0 := blk_cell KG.out 0
      have g1 := blk_cell KG.out 1
      have g2 := blk_cell KG.out 2
      have g3 := blk_cell KG.out 3
      have f0 := blk_frozen KG.out 0
      have f1 := blk_frozen KG.out 1
      have f2 := blk_frozen KG.out 2
      have f3 := blk_frozen KG.out 3
      simp only [List.getElem?_toArray, List.getElem?_cons_zero, List.getElem?_cons_succ] at g0 g1 g2 g3
      have D1 := Aside0.mk (DD.out.drop HB.out)
      have p1 := blk_cell D1.out.blk 1
      simp only [List.getElem?_toArray, List.getElem?_cons_zero, List.getElem?_cons_succ] at p1
      by_cases hin : 0 ≤ o0 ∧ o0 < nodesX.length
      · obtain ⟨hi0, hi1⟩ := hin
        have hidx2 := fun (w : World) (j : Nat) (h : j < 4) => index4i w o0 o1 o2 o3 j h
        have hkb2 := kidOf_i64 ho0 ho1 ho2 ho3
        clear g0 g1 g2 g3 f0 f1 f2 f3
        go_upto_region 12 with (fail)
        clear k0 k1 k2 k3 D1 p1 hidx
        go_loopg [51] 4 (fun kq c51 w' => ∃ (j : Nat) (os : List Int), j + kq = 4 ∧ c51 = .int .i64 j ∧ Four os ∧ Aside0 (w'.heap[a]? = some (.cells #[.int .i64 r0, .int .i64 r1, .int .i64 r2, .int .i64 r3] 53 (0, 0))) ∧ Aside0 (w'.heap[g]? = some (.cells #[.int .i64 0, .int .i64 0, .int .i64 0, .int .i64 0] 53 (0, 0))) ∧ Aside0 (w'.heap[o]? = some (.cells (iCells os) 53 (0, 0))) ∧ Aside0 (Below w.heap.size w w'))
        case atStart => exact ⟨0, [o0, o1, o2, o3], by omega, rfl, ⟨rfl, by simp [ho0, ho1, ho2, ho3]⟩, KA, KG, KO, HB⟩
        case round =>
          clear KA KG KO HB
          obtain ⟨j, os, hj, rfl, hos, KA, KG, KO, HB⟩ := hrel
          have HOS := Aside0.mk hos
          clear hos
          have D1 := Aside0.mk (DD.out.drop HB.out)
          have p1 := blk_cell D1.out.blk 1
          simp only [List.getElem?_toArray, List.getElem?_cons_zero, List.getElem?_cons_succ] at p1
          by_cases h4 : j < 4
          · obtain ⟨gm, rfl⟩ : ∃ m, gk = m + 1 := ⟨gk - 1, by omega⟩
            have hi := fun w => hidx2 w j h4
            have hkv := hkb2 j
            generalize kidOf o0 o1 o2 o3 j = kv at *
            have ra := blk_cell KA.out j
            rw [arr4_get r0 r1 r2 r3 j h4] at ra
            generalize kidOf r0 r1 r2 r3 j = rv at *
            clear hidx2 hkb2
            go_upto_region 14 with (fail)
            clear hi
            have d3 : decide (kv ≥ 0) = decide (0 ≤ kv) := rfl
            by_cases h1 : 0 ≤ kv ∧ kv < nodesX.length
            · obtain ⟨h1, h2⟩ := h1
              clear d3
              have d1 : decide (kv ≥ 0) = true := by simp; omega
              have d2 : decide (kv < (nodesX.length : Int)) = true := by simp; omega
              obtain ⟨x, ad, rfl, hx, qx, qc⟩ := rn_get (Kd.R_reads' D1.out.hx).2.2 kv h1 h2
              obtain ⟨x0, ad', e', hx0, q0l, q0c⟩ := rn_get (Kd.R_reads' D1.out.hx).2.2 o0 hi0 hi1
              obtain rfl := Option.some.inj e'
              clear e' hx hx0 qc q0c
              cases hlv : (x.key.level != x0.key.level) with
              | false =>
                go_quiet (fail)
                have KA3 := Aside0.mk (blk_drewN KA.out nq)
                have KG3 := Aside0.mk (blk_drewN KG.out nq)
                have KO3 := Aside0.mk (blk_drewN KO.out nq)
                have HB3 := Aside0.mk (pw_below_drewN HB.out nq)
                clear KA KG KO HB
                go_wp2_with (fail)
                go_roundg gm
                case measure => omega
                case rel => exact ⟨j + 1, _, by omega, by go_num, HOS.out, KA3, KG3, KO3, HB3⟩

              | true =>
                obtain ⟨z, hz⟩ : ∃ z, Go.bits .and .i64 rv 1 = z := ⟨_, rfl⟩
                cases hb : (z == 0) with
                | false =>
                  go_quiet (fail)
                  have HZ := Aside0.mk hz
                  clear hz
                  have KA3 := Aside0.mk (blk_drewN KA.out nq)
                  have KG3 := Aside0.mk (blk_drewN KG.out nq)
                  have KO3 := Aside0.mk (blk_drewN KO.out nq)
                  have HB3 := Aside0.mk (pw_below_drewN HB.out nq)
                  clear KA KG KO HB
                  go_wp2_with (fail)
                  go_roundg gm
                  case measure => omega
                  case rel => exact ⟨j + 1, _, by omega, by go_num, HOS.out, KA3, KG3, KO3, HB3⟩

                | true =>
                  go_quiet (fail)
                  have HZ := Aside0.mk hz
                  clear hz p1 qx q0l ra D1
                  have KA3 := Aside0.mk (blk_far (p := ⟨o, j, none⟩) (blk_drewN KA.out nq) hao.out (.int .i64 o0))
                  have KG3 := Aside0.mk (blk_far (p := ⟨o, j, none⟩) (blk_drewN KG.out nq) hgo.out (.int .i64 o0))
                  have KO3 := Aside0.mk (blk_put (blk_drewN KO.out nq) j (.int .i64 o0) (iCells_set os j o0))
                  have HB3 := Aside0.mk ((pw_below_drewN HB.out nq).setCell (p := ⟨o, j, none⟩) hwo.out (.int .i64 o0))
                  obtain ⟨x, hx, _⟩ := four_get HOS.out j h4
                  have oc := blk_cell (blk_drewN KO.out nq) j
                  rw [iCells_get os j x hx] at oc
                  have of := blk_frozen (blk_drewN KO.out nq) j
                  clear hx KA KG KO HB
                  go_wp2_with (fail)
                  go_roundg gm
                  case measure => omega
                  case rel => exact ⟨j + 1, _, by omega, by go_num, HOS.out.set j ho0, KA3, KG3, KO3, HB3⟩
            · have hor : kv < 0 ∨ (0 ≤ kv ∧ ¬ kv < (nodesX.length : Int)) := by omega
              clear h1 d3
              rcases hor with h1 | ⟨h1, h2⟩
              · have d1 : decide (kv ≥ 0) = false := by simp; omega
                go_quiet (fail)
                have KA3 := Aside0.mk (blk_drewN KA.out nq)
                have KG3 := Aside0.mk (blk_drewN KG.out nq)
                have KO3 := Aside0.mk (blk_drewN KO.out nq)
                have HB3 := Aside0.mk (pw_below_drewN HB.out nq)
                clear KA KG KO HB
                go_wp2_with (fail)
                go_roundg gm
                case measure => omega
                case rel => exact ⟨j + 1, _, by omega, by go_num, HOS.out, KA3, KG3, KO3, HB3⟩

              · have d1 : decide (kv ≥ 0) = true := by simp; omega
                have d2 : decide (kv < (nodesX.length : Int)) = false := by simp; omega
                go_quiet (fail)
                have KA3 := Aside0.mk (blk_drewN KA.out nq)
                have KG3 := Aside0.mk (blk_drewN KG.out nq)
                have KO3 := Aside0.mk (blk_drewN KO.out nq)
                have HB3 := Aside0.mk (pw_below_drewN HB.out nq)
                clear KA KG KO HB
                go_wp2_with (fail)
                go_roundg gm
                case measure => omega
                case rel => exact ⟨j + 1, _, by omega, by go_num, HOS.out, KA3, KG3, KO3, HB3⟩

          · obtain rfl : j = 4 := by omega
            obtain ⟨z0, z1, z2, z3, rfl, hz0, hz1, hz2, hz3⟩ := HOS.out.list
            clear HOS D1 p1 hidx2 hkb2
            have k0 : wr.cell? ⟨o, 0, none⟩ = some (.int .i64 z0) := blk_cell KO.out 0
            have k1 : wr.cell? ⟨o, 1, none⟩ = some (.int .i64 z1) := blk_cell KO.out 1
            have k2 : wr.cell? ⟨o, 2, none⟩ = some (.int .i64 z2) := blk_cell KO.out 2
            have k3 : wr.cell? ⟨o, 3, none⟩ = some (.int .i64 z3) := blk_cell KO.out 3
            have g0 := blk_cell KG.out 0
            have g1 := blk_cell KG.out 1
            have g2 := blk_cell KG.out 2
            have g3 := blk_cell KG.out 3
            have f0 := blk_frozen KG.out 0
            have f1 := blk_frozen KG.out 1
            have f2 := blk_frozen KG.out 2
            have f3 := blk_frozen KG.out 3
            simp only [List.getElem?_toArray, List.getElem?_cons_zero, List.getElem?_cons_succ] at g0 g1 g2 g3
            have HBX : Aside0 (Below w.heap.size w ((((wr.setCell ⟨g, 0, none⟩ (.int .i64 z0)).setCell ⟨g, 1, none⟩ (.int .i64 z1)).setCell ⟨g, 2, none⟩ (.int .i64 z2)).setCell ⟨g, 3, none⟩ (.int .i64 z3))) := ⟨(((HB.out.setCell (p := ⟨g, 0, none⟩) hwg.out _).setCell (p := ⟨g, 1, none⟩) hwg.out _).setCell (p := ⟨g, 2, none⟩) hwg.out _).setCell (p := ⟨g, 3, none⟩) hwg.out _⟩
            go_wp2_with (fail)
            exact bodyPost_ret (v := .agg #[.int .i64 z0, .int .i64 z1, .int .i64 z2, .int .i64 z3]) (by simp [results, Tryd.results26, go_sem, g0, g1, g2, g3]) rfl ⟨z0, z1, z2, z3, rfl, hz0, hz1, hz2, hz3, HBX.out⟩
      · have hor : o0 < 0 ∨ (0 ≤ o0 ∧ ¬ o0 < (nodesX.length : Int)) := by omega
        clear hin
        have HBX : Aside0 (Below w.heap.size w ((((wr.setCell ⟨g, 0, none⟩ (.int .i64 o0)).setCell ⟨g, 1, none⟩ (.int .i64 o1)).setCell ⟨g, 2, none⟩ (.int .i64 o2)).setCell ⟨g, 3, none⟩ (.int .i64 o3))) := ⟨(((HB.out.setCell (p := ⟨g, 0, none⟩) hwg.out _).setCell (p := ⟨g, 1, none⟩) hwg.out _).setCell (p := ⟨g, 2, none⟩) hwg.out _).setCell (p := ⟨g, 3, none⟩) hwg.out _⟩
        rcases hor with h1 | ⟨h1, h2⟩
        all_goals
          go_wp2_with (fail)
          exact bodyPost_ret (v := .agg #[.int .i64 o0, .int .i64 o1, .int .i64 o2, .int .i64 o3]) (by simp [results, Tryd.results26, go_sem, g0, g1, g2, g3]) rfl ⟨o0, o1, o2, o3, rfl, ho0, ho1, ho2, ho3, HBX.out⟩
end Go.Proofs.YtbeijhjafmalgaaDoor.ar
namespace Go.Proofs.YtbeijhjafmalgaaDoor.ar
open Go.RowKit Go.Proofs.YtbeijhjafmalgaaDoor.lb

/-- what a node that is found, or made, leaves: the old nodes, or one more -/
structure Step (nodes : List Nd) (r : List Nd × Int × Int) : Prop where
  ext : ∃ l, r.1 = nodes ++ l ∧ l.length ≤ 1
  ok : RnOk nodes → RnOk r.1
  good : r.2.2 = 0 → (r.1.length = nodes.length ∧ r.2.1 < nodes.length ∨ r.1.length = nodes.length + 1 ∧ r.2.1 = nodes.length)
  bad : r.2.2 ≠ 0 → r.1 = nodes ∧ r.2.1 = 0
  pos : 0 ≤ r.2.1
theorem step_same {nodes : List Nd} {i c : Int} (h0 : 0 ≤ i) (h : c = 0 → i < nodes.length) (hb : c ≠ 0 → i = 0) : Step nodes (nodes, i, c) :=
  ⟨⟨[], by simp⟩, id, fun hc => .inl ⟨rfl, h hc⟩, fun hc => ⟨rfl, hb hc⟩, h0⟩
theorem addN_radd (nodes : List Nd) (most : Int) (k : Key) (c : Int) : addN nodes most k c = raddR nodes most ⟨k, min c 4611686018427387904⟩ := rfl
theorem raddR_step (nodes : List Nd) (most : Int) (nd : Nd) (hn : RnOk nodes → 0 ≤ nd.key.level ∧ nd.key.level ≤ 100 ∧ 0 ≤ nd.count ∧ nd.count ≤ 4611686018427387904 ∧ KidOk nodes.length nd) : Step nodes (raddR nodes most nd) := by
  unfold raddR
  split
  · rename_i i h
    obtain ⟨x, hx, _⟩ := idx_some h
    have := (List.getElem?_eq_some_iff.1 hx).1
    exact step_same (by omega) (fun _ => by omega) (fun h => absurd rfl h)
  · split
    · exact step_same (by omega) (fun h => by omega) (fun _ => rfl)
    · refine ⟨⟨[nd], rfl, by simp⟩, fun hok i x hx => ?_, fun _ => .inr ⟨by simp, rfl⟩, fun h => absurd rfl h, by simp⟩
      dsimp only at hx
      rw [List.getElem?_append] at hx
      split at hx
      · have h3 := hok i x hx
        exact ⟨h3.1, h3.2.1, h3.2.2.1, h3.2.2.2.1, h3.2.2.2.2.mono (by simp)⟩
      · rw [List.getElem?_singleton] at hx
        split at hx
        · obtain rfl := Option.some.inj hx
          have h3 := hn hok
          exact ⟨h3.1, h3.2.1, h3.2.2.1, h3.2.2.2.1, h3.2.2.2.2.mono (by simp)⟩
        · cases hx
theorem leaf_same (nodes : List Nd) (most : Int) (f : Nat) : addN nodes most (leafKey f) (popN 32 f) = raddR nodes most ⟨leafKey f, (popN 32 f : Nat)⟩ := by
  rw [addN_radd]
  have h := popN_le 32 f
  rw [show min ((popN 32 f : Nat) : Int) 4611686018427387904 = ((popN 32 f : Nat) : Int) by omega]
theorem leaf_step (nodes : List Nd) (most : Int) (f : Nat) : Step nodes (raddR nodes most ⟨leafKey f, (popN 32 f : Nat)⟩) := by
  have h := popN_le 32 f
  exact raddR_step _ _ _ (fun _ => ⟨by show (0 : Int) ≤ 2; decide, by show (2 : Int) ≤ 100; decide, by show (0 : Int) ≤ (popN 32 f : Nat); omega, by show ((popN 32 f : Nat) : Int) ≤ _; omega, by show (2 : Int) ≤ 2; decide, fun _ => ⟨rfl, rfl, rfl, rfl⟩, fun h => absurd (show (2 : Int) < 2 from h) (by decide)⟩)
theorem rjoinR_step {nodes : List Nd} (hok : RnOk nodes) (most k0 k1 k2 k3 : Int) : Step nodes (rjoinR nodes most k0 k1 k2 k3) := by
  unfold rjoinR
  split
  · rename_i hf
    split
    · exact step_same (by omega) (fun h => by omega) (fun _ => rfl)
    · rename_i hl
      have h1 := sumTo_bd hok k0 k1 k2 k3 4
      have h2 := lvAt_bd hok k0
      exact raddR_step _ _ _ (fun _ => ⟨by show 0 ≤ lvAt nodes k0 + 1; omega, by show lvAt nodes k0 + 1 ≤ 100; omega, h1.1, h1.2, fits_kid hok hf _⟩)
  · exact step_same (by omega) (fun h => by omega) (fun _ => rfl)
/-- the number of a place; that of no node, if it is none -/
def ownOf (nodes : List Nd) (k : Int) : Int := if 0 ≤ k ∧ k < nodes.length then k else 2147483648
theorem ownOf_bd (nodes : List Nd) (k : Int) (hN : nodes.length < 2147483648) : 0 ≤ ownOf nodes k ∧ ownOf nodes k < 4294967296 := by
  unfold ownOf; split <;> omega
theorem lv_ok {nodes : List Nd} (hok : RnOk nodes) {k : Int} (h0 : 0 ≤ k) (h1 : k < nodes.length) : lvAt nodes k ≠ -1 := by
  have hlt : k.toNat < nodes.length := by omega
  rw [lvAt_some (List.getElem?_eq_getElem hlt)]
  have := (hok _ _ (List.getElem?_eq_getElem hlt)).1
  omega
theorem join_same {nodes : List Nd} (hok : RnOk nodes) (hN : nodes.length < 2147483648) (most k0 k1 k2 k3 : Int) :
    joinN nodes most (ownOf nodes k0) (ownOf nodes k1) (ownOf nodes k2) (ownOf nodes k3) = rjoinR nodes most k0 k1 k2 k3 := by
  have hin : ∀ k : Int, (0 ≤ k ∧ k < nodes.length) → ownOf nodes k = k := fun k h => if_pos h
  have hout : ∀ k : Int, ¬ (0 ≤ k ∧ k < nodes.length) → lvAt nodes (ownOf nodes k) = -1 := fun k h => by
    unfold ownOf; rw [if_neg h]; exact lvAt_none (by omega)
  by_cases hf : fitsR nodes k0 k1 k2 k3
  · obtain ⟨f0, f1, f2, f3⟩ := hf
    rw [hin k0 ⟨f0.1, f0.2.1⟩, hin k1 ⟨f1.1, f1.2.1⟩, hin k2 ⟨f2.1, f2.2.1⟩, hin k3 ⟨f3.1, f3.2.1⟩]
    unfold joinN rjoinR
    rw [if_pos (show fitsB nodes k0 k1 k2 k3 from ⟨lv_ok hok f0.1 f0.2.1, f1.2.2.2.2, f2.2.2.2.2, f3.2.2.2.2⟩), if_pos (show fitsR nodes k0 k1 k2 k3 from ⟨f0, f1, f2, f3⟩)]
    split
    · rfl
    · rw [addN_radd]
      have h1 := sumTo_bd hok k0 k1 k2 k3 4
      rw [show min (sumTo nodes k0 k1 k2 k3 4) 4611686018427387904 = sumTo nodes k0 k1 k2 k3 4 by omega]
  · unfold joinN rjoinR
    rw [if_neg hf, if_neg]
    intro hb
    obtain ⟨b0, b1, b2, b3⟩ := hb
    have r0 : 0 ≤ k0 ∧ k0 < nodes.length := by
      by_cases h : 0 ≤ k0 ∧ k0 < nodes.length
      · exact h
      · exact absurd (hout k0 h) b0
    have step : ∀ k : Int, lvAt nodes (ownOf nodes k) = lvAt nodes (ownOf nodes k0) → okR nodes k0 k := fun k h => by
      have r : 0 ≤ k ∧ k < nodes.length := by
        by_cases h' : 0 ≤ k ∧ k < nodes.length
        · exact h'
        · rw [hout k h'] at h; exact absurd h.symm b0
      rw [hin k r, hin k0 r0] at h
      exact ⟨r.1, r.2, r0.1, r0.2, h⟩
    exact hf ⟨step k0 rfl, step k1 b1, step k2 b2, step k3 b3⟩
theorem idx_ext {nodes : List Nd} {k : Key} {i : Nat} (l : List Nd) (h : idx nodes k = some i) : idx (nodes ++ l) k = some i := by
  unfold idx at h ⊢
  rw [List.findIdx?_append, h]
  rfl
theorem lvAt_ext {nodes : List Nd} {k : Int} (l : List Nd) (h0 : 0 ≤ k) (h : k < nodes.length) : lvAt (nodes ++ l) k = lvAt nodes k := by
  unfold lvAt
  rw [List.getElem?_append_left (by omega)]
/-- the empty ones of the levels known, each joined of the one below -/
structure Chain (nodes : List Nd) (empty : List Int) : Prop where
  l0 : 3 ≤ empty.length
  l1 : empty.length ≤ 45
  e0 : empty.getD 0 0 = 0
  e1 : empty.getD 1 0 = 0
  e2 : empty.getD 2 0 = 0
  bd : ∀ i, 2 ≤ i → i < empty.length → 0 ≤ empty.getD i 0 ∧ empty.getD i 0 < nodes.length ∧ lvAt nodes (empty.getD i 0) = i
  link : ∀ i : Nat, 2 ≤ i → i + 1 < empty.length → idx nodes ⟨(i : Int) + 1, 0, empty.getD i 0, empty.getD i 0, empty.getD i 0, empty.getD i 0⟩ = some (empty.getD (i + 1) 0).toNat
theorem Chain.ext {nodes : List Nd} {empty : List Int} (h : Chain nodes empty) (l : List Nd) : Chain (nodes ++ l) empty :=
  ⟨h.l0, h.l1, h.e0, h.e1, h.e2, fun i h2 hi => by
    have := h.bd i h2 hi
    exact ⟨this.1, by rw [List.length_append]; omega, by rw [lvAt_ext l this.1 this.2.1]; exact this.2.2⟩, fun i h2 hi => idx_ext l (h.link i h2 hi)⟩
theorem Chain.em {nodes : List Nd} {empty : List Int} (h : Chain nodes empty) (hN : nodes.length < 4294967296) : EmOk nodes empty := by
  refine ⟨h.l0, h.l1, fun i => ?_⟩
  by_cases hi : i < empty.length
  · match i, hi with
    | 0, _ => rw [h.e0]; decide
    | 1, _ => rw [h.e1]; decide
    | n + 2, hi => have := h.bd (n + 2) (by omega) hi; omega
  · rw [List.getD_eq_getElem?_getD, List.getElem?_eq_none (by omega)]
    decide
theorem chain0 {nodes : List Nd} (x : Nd) (hx : nodes[0]? = some x) (hl : x.key.level = 2) : Chain nodes [0, 0, 0] := by
  have hlt := (List.getElem?_eq_some_iff.1 hx).1
  refine ⟨by simp, by simp, rfl, rfl, rfl, fun i h2 hi => ?_, fun i h2 hi => by simp at hi; omega⟩
  have : i = 2 := by simp at hi; omega
  subst this
  exact ⟨by decide, by show (0 : Int) < nodes.length; omega, by rw [show ([0, 0, 0] : List Int).getD 2 0 = 0 from rfl, lvAt_some hx, hl]; rfl⟩
/-- a link of the chain, joined again -/
theorem Chain.again {nodes : List Nd} {empty : List Int} (h : Chain nodes empty) (most : Int) (i : Nat) (h2 : 2 ≤ i) (hi : i + 1 < empty.length) :
    rjoinR nodes most (empty.getD i 0) (empty.getD i 0) (empty.getD i 0) (empty.getD i 0) = (nodes, empty.getD (i + 1) 0, 0) := by
  have hb := h.bd i h2 (by omega)
  have hb1 := h.bd (i + 1) (by omega) hi
  have hl1 := h.l1
  have hok : okR nodes (empty.getD i 0) (empty.getD i 0) := ⟨hb.1, hb.2.1, hb.1, hb.2.1, rfl⟩
  unfold rjoinR
  rw [if_pos ⟨hok, hok, hok, hok⟩, if_neg (by rw [hb.2.2]; omega)]
  unfold raddR
  rw [hb.2.2]
  dsimp only
  rw [h.link i h2 hi]
  dsimp only
  rw [Int.toNat_of_nonneg hb1.1]
theorem rempty_run {nodes : List Nd} {empty : List Int} (h : Chain nodes empty) (most : Int) (m : Nat) : ∀ (n i : Nat), 2 ≤ i → i + n < empty.length → remptyGo most (n + m) nodes (empty.getD i 0) = remptyGo most m nodes (empty.getD (i + n) 0)
  | 0, i, _, _ => by simp
  | n + 1, i, h2, hi => by
    rw [show n + 1 + m = (n + m) + 1 by omega]
    simp only [remptyGo]
    rw [h.again most i h2 (by omega)]
    dsimp only
    rw [if_pos rfl, rempty_run h most m n (i + 1) (by omega) (by omega), show i + 1 + n = i + (n + 1) by omega]
/-- what Empty of a level leaves where the one below is known -/
structure EStep (nodes : List Nd) (empty : List Int) (most level : Int) (r : List Nd × Int × Int) : Prop where
  emp : ∃ empty', emptyN nodes empty most level = (r.1, empty', r.2.1, r.2.2) ∧ Chain r.1 empty' ∧ (r.2.2 = 0 → level < empty'.length)
  step : Step nodes r
theorem empty_step {nodes : List Nd} {empty : List Int} (h : Chain nodes empty) (hok : RnOk nodes) (hN : nodes.length < 2147483648) (most level : Int) (hlv : level ≤ empty.length ∨ level > 44) :
    EStep nodes empty most level (remptyR nodes most level) := by
  have hl0 := h.l0
  have hl1 := h.l1
  by_cases h2 : level < 2
  · have hr : remptyR nodes most level = (nodes, 0, 4) := if_pos h2
    rw [hr]
    exact ⟨⟨empty, if_pos h2, h, fun hc => by simp at hc⟩, step_same (by omega) (fun h => by omega) (fun _ => rfl)⟩
  · by_cases h44 : 44 < level
    · have hr : remptyR nodes most level = (nodes, 0, 7) := by unfold remptyR; rw [if_neg h2, if_pos h44]
      rw [hr]
      exact ⟨⟨empty, by unfold emptyN; rw [if_neg h2, if_pos h44], h, fun hc => by simp at hc⟩, step_same (by omega) (fun h => by omega) (fun _ => rfl)⟩
    · obtain ⟨n, hn⟩ : ∃ n : Nat, level = (n : Int) + 2 := ⟨(level - 2).toNat, by omega⟩
      have hr : remptyR nodes most level = remptyGo most n nodes 0 := by unfold remptyR; rw [if_neg h2, if_neg h44, show level.toNat - 2 = n by omega]
      have he : emptyN nodes empty most level = emptyGo most level (level.toNat + 1 - empty.length) nodes empty := by unfold emptyN; rw [if_neg h2, if_neg h44]
      by_cases hk : level < empty.length
      · have hb := h.bd (n + 2) (by omega) (by omega)
        have hrun := rempty_run h most 0 n 2 (by omega) (by omega)
        rw [h.e2, Nat.add_zero] at hrun
        rw [hr, hrun]
        simp only [remptyGo]
        rw [show 2 + n = n + 2 by omega]
        refine ⟨⟨empty, ?_, h, fun _ => hk⟩, step_same hb.1 (fun _ => hb.2.1) (fun hc => absurd rfl hc)⟩
        rw [he, show level.toNat + 1 - empty.length = 0 by omega]
        simp only [emptyGo]
        rw [show level.toNat = n + 2 by omega]
      · have hlen : empty.length = n + 2 := by omega
        obtain ⟨m, rfl⟩ : ∃ m, n = m + 1 := ⟨n - 1, by omega⟩
        have hb := h.bd (m + 2) (by omega) (by omega)
        have hrun := rempty_run h most 1 m 2 (by omega) (by omega)
        rw [h.e2] at hrun
        have hjs := join_same hok hN most (empty.getD (m + 2) 0) (empty.getD (m + 2) 0) (empty.getD (m + 2) 0) (empty.getD (m + 2) 0)
        rw [show ownOf nodes (empty.getD (m + 2) 0) = empty.getD (m + 2) 0 from if_pos ⟨hb.1, hb.2.1⟩] at hjs
        have hst := rjoinR_step hok most (empty.getD (m + 2) 0) (empty.getD (m + 2) 0) (empty.getD (m + 2) 0) (empty.getD (m + 2) 0)
        have hokk : okR nodes (empty.getD (m + 2) 0) (empty.getD (m + 2) 0) := ⟨hb.1, hb.2.1, hb.1, hb.2.1, rfl⟩
        have hval : rjoinR nodes most (empty.getD (m + 2) 0) (empty.getD (m + 2) 0) (empty.getD (m + 2) 0) (empty.getD (m + 2) 0) = raddR nodes most ⟨⟨((m + 2 : Nat) : Int) + 1, 0, empty.getD (m + 2) 0, empty.getD (m + 2) 0, empty.getD (m + 2) 0, empty.getD (m + 2) 0⟩, sumTo nodes (empty.getD (m + 2) 0) (empty.getD (m + 2) 0) (empty.getD (m + 2) 0) (empty.getD (m + 2) 0) 4⟩ := by
          unfold rjoinR
          rw [if_pos ⟨hokk, hokk, hokk, hokk⟩, if_neg (by rw [hb.2.2]; omega), hb.2.2]
        rw [show 2 + m = m + 2 by omega] at hrun
        have hgo : remptyGo most 1 nodes (empty.getD (m + 2) 0) = (if (rjoinR nodes most (empty.getD (m + 2) 0) (empty.getD (m + 2) 0) (empty.getD (m + 2) 0) (empty.getD (m + 2) 0)).2.2 = 0 then ((rjoinR nodes most (empty.getD (m + 2) 0) (empty.getD (m + 2) 0) (empty.getD (m + 2) 0) (empty.getD (m + 2) 0)).1, (rjoinR nodes most (empty.getD (m + 2) 0) (empty.getD (m + 2) 0) (empty.getD (m + 2) 0) (empty.getD (m + 2) 0)).2.1, 0) else (nodes, 0, (rjoinR nodes most (empty.getD (m + 2) 0) (empty.getD (m + 2) 0) (empty.getD (m + 2) 0) (empty.getD (m + 2) 0)).2.2)) := rfl
        have heg : emptyGo most level 1 nodes empty = (if (joinN nodes most (empty.getD (empty.length - 1) 0) (empty.getD (empty.length - 1) 0) (empty.getD (empty.length - 1) 0) (empty.getD (empty.length - 1) 0)).2.2 = 0 then ((joinN nodes most (empty.getD (empty.length - 1) 0) (empty.getD (empty.length - 1) 0) (empty.getD (empty.length - 1) 0) (empty.getD (empty.length - 1) 0)).1, empty ++ [(joinN nodes most (empty.getD (empty.length - 1) 0) (empty.getD (empty.length - 1) 0) (empty.getD (empty.length - 1) 0) (empty.getD (empty.length - 1) 0)).2.1], (empty ++ [(joinN nodes most (empty.getD (empty.length - 1) 0) (empty.getD (empty.length - 1) 0) (empty.getD (empty.length - 1) 0) (empty.getD (empty.length - 1) 0)).2.1]).getD level.toNat 0, 0) else ((joinN nodes most (empty.getD (empty.length - 1) 0) (empty.getD (empty.length - 1) 0) (empty.getD (empty.length - 1) 0) (empty.getD (empty.length - 1) 0)).1, empty, 0, (joinN nodes most (empty.getD (empty.length - 1) 0) (empty.getD (empty.length - 1) 0) (empty.getD (empty.length - 1) 0) (empty.getD (empty.length - 1) 0)).2.2)) := rfl
        rw [hr, hrun, hgo]
        rw [show empty.length - 1 = m + 2 by omega, hjs] at heg
        rw [show level.toNat + 1 - empty.length = 1 by omega, heg] at he
        clear hgo heg hjs hrun hr
        generalize hrr : rjoinR nodes most (empty.getD (m + 2) 0) (empty.getD (m + 2) 0) (empty.getD (m + 2) 0) (empty.getD (m + 2) 0) = r at *
        obtain ⟨r1, r2, r3⟩ := r
        dsimp only at *
        have hlev : level.toNat = empty.length := by omega
        have hgl : ∀ (i : Nat) (v : Int), i < empty.length → (empty ++ [v]).getD i 0 = empty.getD i 0 := fun i v hi => by
          rw [List.getD_eq_getElem?_getD, List.getD_eq_getElem?_getD, List.getElem?_append_left hi]
        have hgr : ∀ v : Int, (empty ++ [v]).getD empty.length 0 = v := fun v => by
          rw [List.getD_eq_getElem?_getD, List.getElem?_append_right (Nat.le_refl _)]; simp
        by_cases h0 : r3 = 0
        · subst h0
          rw [if_pos rfl] at he ⊢
          obtain ⟨l, hx, _⟩ := hst.ext
          dsimp only at hx
          have hce := h.ext l
          rw [← hx] at hce
          have hpos := hst.pos
          have hgood := hst.good rfl
          dsimp only at hpos hgood
          -- the new one's key
          have hkey : ∃ (i : Nat) (x : Nd), r1[i]? = some x ∧ x.key = ⟨((m + 2 : Nat) : Int) + 1, 0, empty.getD (m + 2) 0, empty.getD (m + 2) 0, empty.getD (m + 2) 0, empty.getD (m + 2) 0⟩ ∧ (i : Int) = r2 ∧ idx r1 ⟨((m + 2 : Nat) : Int) + 1, 0, empty.getD (m + 2) 0, empty.getD (m + 2) 0, empty.getD (m + 2) 0, empty.getD (m + 2) 0⟩ = some i := by
            unfold raddR at hval
            dsimp only at hval
            split at hval
            · rename_i i hi
              obtain ⟨x, hx1, hx2⟩ := idx_some hi
              simp only [Prod.mk.injEq] at hval
              obtain ⟨rfl, rfl, _⟩ := hval
              exact ⟨i, x, hx1, hx2, rfl, hi⟩
            · rename_i hi
              split at hval
              · simp only [Prod.mk.injEq] at hval
                exact absurd hval.2.2 (by decide)
              · simp only [Prod.mk.injEq] at hval
                obtain ⟨rfl, rfl, _⟩ := hval
                refine ⟨nodes.length, _, by rw [List.getElem?_append_right (Nat.le_refl _)]; simp; rfl, rfl, rfl, ?_⟩
                unfold idx at hi ⊢
                rw [List.findIdx?_append, hi]
                simp [List.findIdx?_cons]
          obtain ⟨i, x, hx1, hx2, hx3, hx4⟩ := hkey
          refine ⟨⟨empty ++ [r2], ?_, ⟨by simp; omega, by simp; omega, by rw [hgl 0 _ (by omega)]; exact h.e0, by rw [hgl 1 _ (by omega)]; exact h.e1, by rw [hgl 2 _ (by omega)]; exact h.e2, ?_, ?_⟩, fun _ => by simp; omega⟩, hst⟩
          · rw [he, hlev, hgr]
          · intro j hj2 hj
            by_cases hj3 : j < empty.length
            · rw [hgl j _ hj3]; exact hce.bd j hj2 hj3
            · have : j = empty.length := by simp at hj; omega
              subst this
              rw [hgr]
              have hilt := (List.getElem?_eq_some_iff.1 hx1).1
              refine ⟨hpos, by show r2 < (r1.length : Int); omega, ?_⟩
              rw [lvAt_some (show r1[r2.toNat]? = some x by rw [← hx3, Int.toNat_natCast]; exact hx1), hx2]
              show ((m + 2 : Nat) : Int) + 1 = _
              omega
          · intro j hj2 hj
            by_cases hj3 : j + 1 < empty.length
            · rw [hgl j _ (by omega), hgl (j + 1) _ hj3]; exact hce.link j hj2 hj3
            · have : j = m + 2 := by simp at hj; omega
              subst this
              rw [hgl (m + 2) _ (by omega), show m + 2 + 1 = empty.length by omega, hgr, hx4, ← hx3, Int.toNat_natCast]
        · rw [if_neg h0] at he ⊢
          have hbad := hst.bad h0
          dsimp only at hbad
          obtain ⟨rfl, rfl⟩ := hbad
          exact ⟨⟨empty, he, h, fun hc => absurd hc h0⟩, hst⟩
end Go.Proofs.YtbeijhjafmalgaaDoor.ar
namespace Go.Proofs.YtbeijhjafmalgaaDoor.ar
open Go.RowKit Go.Proofs.YtbeijhjafmalgaaDoorW.PrintWords Go.Proofs.YtbeijhjafmalgaaDoorW.PrintLast Go.Proofs.YtbeijhjafmalgaaDoorW.PrintMore Go.Proofs.YtbeijhjafmalgaaDoor.bs Go.ChangeShapes Go.Proofs.YtbeijhjafmalgaaDoor.lb

theorem fits_any {w0 w : World} {F : Nat → Prop} {P p : Nat} {r : List Nd × Int × Int} {nodesX : List Nd} {empty : List Int} {most : Int} {xv av : Value} (D : Wd w0 w F P p r.1 nodesX (idL nodesX.length) empty most xv av) (hE : ec.ErrAt w)
    (A : Option Addr) (c : Nat) (hy : Kd.R kRn 69 w 0 (Oth w0 F) (.slice A r.1.length c) r.1) (S : Step nodesX r) (hN : r.1.length < 536870912) :
    Calls Tryd.prog 25 #[.pointer (some ⟨P, 0, none⟩), .agg #[.slice A r.1.length c, .int .i64 most], .int .i64 r.2.1, .int .i64 r.2.2, .int .u32 r.2.1, errOf r.2.2] w fun e w' => FitsPost w0 F P p r.1 empty most e w' := by
  by_cases h : r.2.2 = 0
  · rw [h]
    exact fits_zero w0 w F P p r.1 nodesX empty most xv av D hE A c hy r.2.1 ((S.good h).elim (fun h => .inl ⟨h.1, by rw [h.1]; exact h.2⟩) .inr) S.pos hN
  · have hb := S.bad h
    have := fits_err w0 w F P p r.1 nodesX empty most xv av D hE A c hy r.2.1 r.2.2 h (by rw [hb.1]) hN
    rw [hb.2] at this ⊢
    exact this
/-- the law's world between its calls -/
structure WSt (w0 w : World) (P p : Nat) (nodes : List Nd) (empty : List Int) (most : Int) : Prop where
  d : ∃ F xv av, Wd w0 w F P p nodes nodes (idL nodes.length) empty most xv av
  ok : RnOk nodes
  ch : Chain nodes empty
def DoesPost (w0 : World) (P p : Nat) (n : Nat) (e : Ending) (w' : World) : Prop := e = .returned (.bool true) ∧ ∃ nodes' empty' most', most' ≤ 9223372036854775807 ∧ 64 ≤ most' ∧ WSt w0 w' P p nodes' empty' most' ∧ nodes'.length ≤ n + 50
attribute [local go_sem] min_two
set_option maxRecDepth 100000 in
set_option maxHeartbeats 4000000 in
theorem empts_walk (w0 w : World) (P p : Nat) (nodes : List Nd) (empty : List Int) (most level : Int) (S : WSt w0 w P p nodes empty most) (hE : ec.ErrAt w0) (hm : most ≤ 9223372036854775807 ∧ 64 ≤ most) (hN : nodes.length < 500000000) :
    Calls Tryd.prog 28 #[.pointer (some ⟨P, 0, none⟩), .int .i64 level] w fun e w' => DoesPost w0 P p nodes.length e w' := by
  obtain ⟨⟨F, xv, av, D⟩, ok, ch⟩ := S
  have DD := Aside0.mk D
  have HOK := Aside0.mk ok
  have HCH := Aside0.mk ch
  have HE := Aside0.mk hE
  have HM := Aside0.mk hm
  clear D ok ch hE hm
  obtain ⟨lim, hlim, hmin⟩ : ∃ lim : Int, min level 45 = lim ∧ Builtin.min2 (.int .i64 level) (.int .i64 45) = pure (.int .i64 lim) := ⟨_, rfl, by rw [min2_int]; congr 2; split <;> omega⟩
  obtain ⟨n0, hn0⟩ : ∃ n0 : Nat, (n0 : Int) = max lim 2 - 2 := ⟨(max lim 2 - 2).toNat, by omega⟩
  have hle : n0 ≤ 43 := by omega
  have HLIM := Aside0.mk hlim
  have HN0 := Aside0.mk hn0
  clear hlim hn0
  obtain ⟨B, hB⟩ : ∃ B, nodes.length = B := ⟨_, rfl⟩
  have HNB := Aside0.mk (show nodes.length + n0 ≤ B + n0 by omega)
  have h3 := HCH.out.l0
  rw [hB] at hN ⊢
  clear hB
  go_enter Tryd.func28, Tryd.ntmps28
  go_wp2_with (fail)
  go_loopg [5] n0 (fun kq c5 w' => ∃ (n : Nat) (nodes : List Nd) (empty : List Int) (F : Nat → Prop) (xv av : Value), 2 ≤ n ∧ n + kq = n0 + 2 ∧ c5 = .int .i64 n ∧ Aside0 (n ≤ empty.length) ∧ Aside0 (nodes.length + kq ≤ B + n0) ∧ Aside0 (RnOk nodes) ∧ Aside0 (Chain nodes empty) ∧ Aside0 (Wd w0 w' F P p nodes nodes (idL nodes.length) empty most xv av))
  case atStart => exact ⟨2, nodes, empty, F, xv, av, by omega, by omega, rfl, ⟨by omega⟩, HNB, HOK, HCH, DD⟩
  case round =>
    clear DD HOK HCH HNB h3
    obtain ⟨n, nodes, empty, F, xv, av, hn2, hk, rfl, HNE, HNB, HOK, HCH, DD⟩ := hrel
    obtain ⟨xa, xc, rfl⟩ := Kd.R_slice DD.out.hx
    obtain ⟨aa, ac, rfl⟩ := Kd.R_slice DD.out.ha
    have p0 := blk_cell DD.out.blk 0
    have p1 := blk_cell DD.out.blk 1
    have p2 := blk_cell DD.out.blk 2
    have p3 := blk_cell DD.out.blk 3
    simp only [List.getElem?_toArray, List.getElem?_cons_zero, List.getElem?_cons_succ] at p0 p1 p2 p3
    by_cases hlt : (n : Int) < lim
    · obtain ⟨gm, rfl⟩ : ∃ m, gk = m + 1 := ⟨gk - 1, by have := HN0.out; omega⟩
      have hes := empty_step HCH.out HOK.out (by have := HNB.out; omega) most (n : Int) (.inl (by have := HNE.out; omega))
      have href := rempty_walk nodes most (n : Int) xa xc (Oth w0 F) wr DD.out.hx HOK.out (by have := HNB.out; omega)
      obtain ⟨r, hr⟩ : ∃ r, remptyR nodes most (n : Int) = r := ⟨_, rfl⟩
      rw [hr] at hes href
      clear hr
      obtain ⟨⟨emp', hemp, hch', hcl⟩, hst⟩ := hes
      have HREF := Aside0.mk href
      have HST := Aside0.mk hst
      have HEMP := Aside0.mk hemp
      have HCH' := Aside0.mk hch'
      have HCL := Aside0.mk hcl
      clear href hst hemp hch' hcl
      go_wp2_with (fail)
      refine HREF.out.mono ?_
      rintro e w1 ⟨A1, c1, rfl, hR1, hB1⟩
      have D1 := Aside0.mk ((DD.out.drop hB1).drop (below_alloc (Below.refl _ _) (.cells #[.slice A1 r.1.length c1, .int .i64 most] 47)))
      have HR1 := Aside0.mk (Kd.R_alloc (oth_more DD.out.hold DD.out.below hR1) (.cells #[.slice A1 r.1.length c1, .int .i64 most] 47))
      have KY1 := Aside0.mk (blk_new w1 (.cells #[.slice A1 r.1.length c1, .int .i64 most] 47))
      have hyF : Aside0 (¬ F w1.heap.size) := ⟨fun hf => by have := DD.out.hold.hi _ hf; have := hB1.size; omega⟩
      clear hR1 hB1 HREF
      go_upto_region 5 with (fail)
      clear p0 p1 p2 p3
      generalize w1.heap.size = y at *
      generalize w1.alloc (.cells #[.slice A1 r.1.length c1, .int .i64 most] 47) = w2 at *
      have p0 := blk_cell D1.out.blk 0
      simp only [List.getElem?_toArray, List.getElem?_cons_zero] at p0
      have hemp2 := hold_empty D1.out.hold D1.out.below.size (n : Int) (HCH.out.em (by have := HNB.out; omega)) (by have := HNB.out; omega)
      rw [HEMP.out] at hemp2
      dsimp only at hemp2
      have HAR := Aside0.mk hemp2
      clear hemp2 HEMP
      go_wp2_with (fail)
      refine HAR.out.mono ?_
      rintro e w3 ⟨rfl, F', ho⟩
      have D3 := Aside0.mk (D1.out.onto ho)
      have HR3 := Aside0.mk (R_onto HR1.out ho)
      have KY3 := Aside0.mk ((ho.keeps.block y (blk_lt KY1.out) hyF.out).trans KY1.out)
      clear ho HAR D1 HR1 KY1 p0
      have y0 := blk_cell KY3.out 0
      have y1 := blk_cell KY3.out 1
      simp only [List.getElem?_toArray, List.getElem?_cons_zero, List.getElem?_cons_succ] at y0 y1
      obtain ⟨l, hl, hl1⟩ := HST.out.ext
      have hlen : r.1.length ≤ nodes.length + 1 := by rw [hl, List.length_append]; omega
      clear hl hl1
      have HF := Aside0.mk (fits_any D3.out (HE.out.below D3.out.below) A1 c1 HR3.out HST.out (by have := HNB.out; omega))
      have hww : n < 45 := by have := HLIM.out; omega
      go_wp2_with (fail)
      refine HF.out.mono ?_
      rintro e w4 ⟨xv4, av4, rfl, d4⟩
      have D4 := Aside0.mk d4
      clear d4 HF D3 HR3 KY3 y0 y1 DD
      have HOK4 := Aside0.mk (HST.out.ok HOK.out)
      have HNB4 : Aside0 (r.1.length + gm ≤ B + n0) := ⟨by have := HNB.out; omega⟩
      by_cases hc : r.2.2 = 0
      · have HNE4 : Aside0 (n + 1 ≤ emp'.length) := ⟨by have := HCL.out hc; omega⟩
        have hcb : (r.2.2 != 0) = false := by simp [hc]
        clear hc
        go_wp2_with (fail)
        go_roundg gm
        case measure => omega
        case rel => exact ⟨n + 1, r.1, emp', F', xv4, av4, by omega, by omega, by go_num, HNE4, HNB4, HOK4, HCH', D4⟩
      · as_aux_lemma =>
        have hcb : (r.2.2 != 0) = true := by simp [hc]
        clear hc
        go_wp2_with (fail)
        go_ret
        exact ⟨rfl, r.1, emp', most, HM.out.1, HM.out.2, ⟨⟨F', xv4, av4, D4.out⟩, HOK4.out, HCH'.out⟩, by have := HNB4.out; omega⟩
    · obtain rfl : gk = 0 := by have := HN0.out; omega
      have hes := empty_step HCH.out HOK.out (by have := HNB.out; omega) most level (by have := HNE.out; have := HLIM.out; have := HN0.out; omega)
      have href := rempty_walk nodes most level xa xc (Oth w0 F) wr DD.out.hx HOK.out (by have := HNB.out; omega)
      obtain ⟨r, hr⟩ : ∃ r, remptyR nodes most level = r := ⟨_, rfl⟩
      rw [hr] at hes href
      clear hr
      obtain ⟨⟨emp', hemp, hch', hcl⟩, hst⟩ := hes
      have HREF := Aside0.mk href
      have HST := Aside0.mk hst
      have HEMP := Aside0.mk hemp
      have HCH' := Aside0.mk hch'
      have HCL := Aside0.mk hcl
      clear href hst hemp hch' hcl
      go_wp2_with (fail)
      refine HREF.out.mono ?_
      rintro e w1 ⟨A1, c1, rfl, hR1, hB1⟩
      have D1 := Aside0.mk ((DD.out.drop hB1).drop (below_alloc (Below.refl _ _) (.cells #[.slice A1 r.1.length c1, .int .i64 most] 47)))
      have HR1 := Aside0.mk (Kd.R_alloc (oth_more DD.out.hold DD.out.below hR1) (.cells #[.slice A1 r.1.length c1, .int .i64 most] 47))
      have KY1 := Aside0.mk (blk_new w1 (.cells #[.slice A1 r.1.length c1, .int .i64 most] 47))
      have hyF : Aside0 (¬ F w1.heap.size) := ⟨fun hf => by have := DD.out.hold.hi _ hf; have := hB1.size; omega⟩
      clear hR1 hB1 HREF
      go_upto_region 11 with (fail)
      clear p0 p1 p2 p3
      generalize w1.heap.size = y at *
      generalize w1.alloc (.cells #[.slice A1 r.1.length c1, .int .i64 most] 47) = w2 at *
      have p0 := blk_cell D1.out.blk 0
      simp only [List.getElem?_toArray, List.getElem?_cons_zero] at p0
      have hemp2 := hold_empty D1.out.hold D1.out.below.size level (HCH.out.em (by have := HNB.out; omega)) (by have := HNB.out; omega)
      rw [HEMP.out] at hemp2
      dsimp only at hemp2
      have HAR := Aside0.mk hemp2
      clear hemp2 HEMP
      go_wp2_with (fail)
      refine HAR.out.mono ?_
      rintro e w3 ⟨rfl, F', ho⟩
      have D3 := Aside0.mk (D1.out.onto ho)
      have HR3 := Aside0.mk (R_onto HR1.out ho)
      have KY3 := Aside0.mk ((ho.keeps.block y (blk_lt KY1.out) hyF.out).trans KY1.out)
      clear ho HAR D1 HR1 KY1 p0
      have y0 := blk_cell KY3.out 0
      have y1 := blk_cell KY3.out 1
      simp only [List.getElem?_toArray, List.getElem?_cons_zero, List.getElem?_cons_succ] at y0 y1
      obtain ⟨l, hl, hl1⟩ := HST.out.ext
      have hlen : r.1.length ≤ nodes.length + 1 := by rw [hl, List.length_append]; omega
      clear hl hl1
      have HF := Aside0.mk (fits_any D3.out (HE.out.below D3.out.below) A1 c1 HR3.out HST.out (by have := HNB.out; omega))
      go_wp2_with (fail)
      refine HF.out.mono ?_
      rintro e w4 ⟨xv4, av4, rfl, d4⟩
      have D4 := Aside0.mk d4
      clear d4 HF D3 HR3 KY3 y0 y1 DD
      have HOK4 := Aside0.mk (HST.out.ok HOK.out)
      go_wp2_with (fail)
      go_ret
      exact ⟨rfl, r.1, emp', most, HM.out.1, HM.out.2, ⟨⟨F', xv4, av4, D4.out⟩, HOK4.out, HCH'.out⟩, by have := HNB.out; omega⟩
end Go.Proofs.YtbeijhjafmalgaaDoor.ar
