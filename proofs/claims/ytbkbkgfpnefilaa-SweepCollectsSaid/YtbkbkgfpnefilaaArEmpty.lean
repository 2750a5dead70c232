/- The walk over (*Arena).Empty: the node of a level without cells. -/
import Derived.Test.YtbkbkgfpnefilaaArNew
namespace Go.Proofs.Ytbkbkgfpnefilaa.ar
open Go.RowKit Go.Proofs.YtbkbkgfpnefilaaW.PrintWords Go.Proofs.YtbkbkgfpnefilaaW.PrintLast Go.Proofs.YtbkbkgfpnefilaaW.PrintMore Go.Proofs.Ytbkbkgfpnefilaa.bs Go.ChangeShapes Go.Proofs.Ytbkbkgfpnefilaa.lb

theorem addN_bd (nodes : List Nd) (most : Int) (k : Key) (c : Int) : (addN nodes most k c).1.length ≤ nodes.length + 1 ∧ 0 ≤ (addN nodes most k c).2.1 ∧ (addN nodes most k c).2.1 ≤ nodes.length := by
  unfold addN
  split
  · rename_i i h
    obtain ⟨x, hx, _⟩ := idx_some h
    have := (List.getElem?_eq_some_iff.1 hx).1
    exact ⟨by simp, by simp, by simp; omega⟩
  · split
    · exact ⟨by simp, by simp, by simp⟩
    · exact ⟨by simp, by simp, by simp⟩
theorem joinN_bd (nodes : List Nd) (most k0 k1 k2 k3 : Int) : (joinN nodes most k0 k1 k2 k3).1.length ≤ nodes.length + 1 ∧ 0 ≤ (joinN nodes most k0 k1 k2 k3).2.1 ∧ (joinN nodes most k0 k1 k2 k3).2.1 ≤ nodes.length := by
  unfold joinN
  split
  · split
    · exact ⟨by simp, by simp, by simp⟩
    · exact addN_bd _ _ _ _
  · exact ⟨by simp, by simp, by simp⟩
/-- so many levels more -/
def emptyGo (most level : Int) : Nat → List Nd → List Int → List Nd × List Int × Int × Int
  | 0, nodes, empty => (nodes, empty, empty.getD level.toNat 0, 0)
  | n + 1, nodes, empty =>
    let i := empty.getD (empty.length - 1) 0
    let r := joinN nodes most i i i i
    if r.2.2 = 0 then emptyGo most level n r.1 (empty ++ [r.2.1]) else (r.1, empty, 0, r.2.2)
def emptyN (nodes : List Nd) (empty : List Int) (most level : Int) : List Nd × List Int × Int × Int :=
  if level < 2 then (nodes, empty, 0, 4) else if 44 < level then (nodes, empty, 0, 7) else emptyGo most level (level.toNat + 1 - empty.length) nodes empty
def EmptyPost (F : Nat → Prop) (w : World) (p : Nat) (most : Int) (r : List Nd × List Int × Int × Int) (e : Ending) (w' : World) : Prop :=
  e = .returned (.tuple #[.int .u32 r.2.2.1, errOf r.2.2.2]) ∧ Ar w' (More F w) p r.1 r.2.1 most ∧ Keeps F w w'
theorem ArAt.empty_cell {w : World} {F : Nat → Prop} {p : Nat} {nodes : List Nd} {slots : List Nat} {empty : List Int} {most : Int} {nv sv : Value} {a : Option Addr} {n cn : Nat}
    (h : ArAt w F p nodes slots empty most nv sv (.slice a n cn)) {i : Nat} (hi : i < empty.length) :
    ∃ be, a = some ⟨be, 0, none⟩ ∧ n = empty.length ∧ w.cell? ⟨be, i, none⟩ = some (.int .u32 (empty.getD i 0)) := by
  obtain ⟨be, ce, hv, _⟩ := Kd.R_form h.he (by omega)
  injection hv with h1 h2 h3
  subst h1 h2 h3
  have := Kd.R_cell (enc := Value.int .u32) (h1 := fun _ => rfl) 0 h.he (i : Int) (by omega) (by omega)
  rw [Int.toNat_natCast] at this
  refine ⟨be, rfl, rfl, ?_⟩
  rw [this.1]
  rfl
structure EmOk (nodes : List Nd) (empty : List Int) : Prop where
  l0 : 3 ≤ empty.length
  l1 : empty.length ≤ 45
  bd : ∀ i, 0 ≤ empty.getD i 0 ∧ empty.getD i 0 < 4294967296
set_option maxHeartbeats 2000000 in
set_option maxRecDepth 100000 in
theorem empty_walk (F : Nat → Prop) (p : Nat) (nodes : List Nd) (empty : List Int) (most level : Int) (w : World) (E : EmOk nodes empty) (hN : nodes.length < 536870860) (A : Ar w F p nodes empty most) :
    Calls Try.prog 63 #[.pointer (some ⟨p, 0, none⟩), .int .i64 level] w fun e w' => EmptyPost F w p most (emptyN nodes empty most level) e w' := by
  by_cases h2 : level < 2
  · have hr : emptyN nodes empty most level = (nodes, empty, 0, 4) := if_pos h2
    rw [hr]
    go_enter Try.func63, Try.ntmps63
    go_wp2_with (fail)
    go_ret2
    exact ⟨rfl, A.mono (fun _ h => .inl h), Keeps.refl F w⟩
  · by_cases h44 : 44 < level
    · have hr : emptyN nodes empty most level = (nodes, empty, 0, 7) := by unfold emptyN; rw [if_neg h2, if_pos h44]
      rw [hr]
      go_enter Try.func63, Try.ntmps63
      go_wp2_with (fail)
      go_ret2
      exact ⟨rfl, A.mono (fun _ h => .inl h), Keeps.refl F w⟩
    · have hr : emptyN nodes empty most level = emptyGo most level (level.toNat + 1 - empty.length) nodes empty := by unfold emptyN; rw [if_neg h2, if_neg h44]
      rw [hr]
      clear hr
      generalize hR : emptyGo most level (level.toNat + 1 - empty.length) nodes empty = R at *
      have HR := Aside0.mk hR
      clear hR
      have hl0 := E.l0
      have hl1 := E.l1
      go_enter Try.func63, Try.ntmps63
      go_wp2_with (fail)
      obtain ⟨n0, hn0⟩ : ∃ n0, level.toNat + 1 - empty.length = n0 := ⟨_, rfl⟩
      rw [hn0] at HR
      have A0 := Aside0.mk (show Ar w (More F w) p nodes empty most from A.mono (fun _ h => .inl h))
      have EB := Aside0.mk E.bd
      have HN := Aside0.mk (show nodes.length + n0 < 536870912 by omega)
      have KK := Aside0.mk (Keeps.refl F w)
      clear hN A E
      go_loopg [6] n0 (fun kq c6 w' => ∃ (nodes' : List Nd) (em : List Int), level.toNat + 1 - em.length = kq ∧ 3 ≤ em.length ∧ em.length ≤ 45 ∧ Aside0 (∀ i, 0 ≤ em.getD i 0 ∧ em.getD i 0 < 4294967296) ∧ Aside0 (nodes'.length + kq < 536870912) ∧ Aside0 (emptyGo most level kq nodes' em = R) ∧ Aside0 (Ar w' (More F w) p nodes' em most) ∧ Aside0 (Keeps F w w'))
      case atStart => exact ⟨nodes, empty, hn0, hl0, hl1, EB, HN, HR, A0, KK⟩
      case round =>
        clear A0 EB HN KK HR hn0 hl0 hl1
        obtain ⟨nodes', em, hk, hl0, hl1, EB, HN, HR, A0, KK⟩ := hrel
        have HJ := Aside0.mk (fun (i : Int) (hi : 0 ≤ i ∧ i < 4294967296) (hN : nodes'.length < 536870912) (W : World) (AW : Ar W (More F w) p nodes' em most) => join_walk (More F w) p nodes' em most W i i i i hi hi hi hi hN AW)
        obtain ⟨⟨slots, nv, sv, ev, AR, S, h1, h2, h3⟩, hok, hsz⟩ := A0.out
        obtain ⟨a, cn, rfl⟩ := Kd.R_slice AR.he
        have c2 := blk_cell AR.blk 2
        simp only [List.getElem?_toArray, List.getElem?_cons_zero, List.getElem?_cons_succ] at c2
        obtain ⟨be, rfl, _, e1⟩ := AR.empty_cell (i := em.length - 1) (by omega)
        have hmx := Kd.C_max (Kd.R_reads' AR.he).2.2
        by_cases hlt : (em.length : Int) ≤ level
        · obtain ⟨gm, rfl⟩ : ∃ m, gk = m + 1 := ⟨gk - 1, by omega⟩
          have hbd := EB.out (em.length - 1)
          have hgo : emptyGo most level (gm + 1) nodes' em = (if (joinN nodes' most (em.getD (em.length - 1) 0) (em.getD (em.length - 1) 0) (em.getD (em.length - 1) 0) (em.getD (em.length - 1) 0)).2.2 = 0 then emptyGo most level gm (joinN nodes' most (em.getD (em.length - 1) 0) (em.getD (em.length - 1) 0) (em.getD (em.length - 1) 0) (em.getD (em.length - 1) 0)).1 (em ++ [(joinN nodes' most (em.getD (em.length - 1) 0) (em.getD (em.length - 1) 0) (em.getD (em.length - 1) 0) (em.getD (em.length - 1) 0)).2.1]) else ((joinN nodes' most (em.getD (em.length - 1) 0) (em.getD (em.length - 1) 0) (em.getD (em.length - 1) 0) (em.getD (em.length - 1) 0)).1, em, 0, (joinN nodes' most (em.getD (em.length - 1) 0) (em.getD (em.length - 1) 0) (em.getD (em.length - 1) 0) (em.getD (em.length - 1) 0)).2.2)) := rfl
          rw [hgo] at HR
          clear hgo
          generalize em.getD (em.length - 1) 0 = iv at *
          have hbJ := joinN_bd nodes' most iv iv iv iv
          have hJ := Aside0.mk (HJ.out iv hbd (by have := HN.out; omega))
          generalize joinN nodes' most iv iv iv iv = r at *
          clear HJ
          go_upto_region 6 with (fail)
          go_quiet (fail)
          go_wp2_with (fail)
          refine (hJ.out _ (A0.out.drewN nq)).mono ?_
          obtain ⟨r1, r2, r3⟩ := r
          have hsw := KK.out.size
          have KD := Aside0.mk (KK.out.drewN nq)
          rintro e w3 ⟨rfl, hA, hK⟩
          dsimp only at hA hbJ HR ⊢
          have A3 := Aside0.mk (hA.mono (F' := More F w) (fun k hk => hk.elim id (fun h => .inr (by rw [World.heap_drewN] at h; omega))))
          have K3 := Aside0.mk (KD.out.trans hK (fun k hk => hk))
          clear hA hK KD KK A0 AR c2 e1 hJ S
          by_cases h0 : r3 = 0
          · subst h0
            rw [show errOf 0 = .nilIface from rfl]
            rw [if_pos rfl] at HR
            obtain ⟨⟨slots3, nv3, sv3, ev3, AR3, S3, g1, g2, g3⟩, hok3, hsz3⟩ := A3.out
            obtain ⟨a3, c3, rfl⟩ := Kd.R_slice AR3.he
            have c2 := blk_cell AR3.blk 2
            simp only [List.getElem?_toArray, List.getElem?_cons_zero, List.getElem?_cons_succ] at c2
            have HE := Aside0.mk AR3.he
            have AR3' := Aside0.mk AR3
            have HPN := Aside0.mk (show some p ≠ (Value.slice a3 em.length c3).ownBlock from Kd.R_ne AR3.he AR3.blk (by decide))
            have HMF := Aside0.mk (show ∀ k, w3.heap.size ≤ k → More F w k from fun k hk => .inr (by have := K3.out.size; omega))
            clear AR3
            go_wp2_with (first | ((with_reducible refine gate_builtin (b := .append) (xs := #[.tmp 53, .tmp 55]) rfl ?_); at_builtin; refine Kd.R_append (Kd.int .u32) (w0 := w3) 0 rfl (.tmp 53) (.tmp 55) 74 38 (.int .u32 0) 4 rfl Try.underlying74 infoU rfl (by decide) (by decide) (.slice a3 em.length c3) em r2 [.int .u32 r2] (More F w) (fun _ => False) rfl rfl rfl (fun _ hk => hk.elim) HMF.out HE.out (Below.refl _ _) (Nat.zero_le _) (by omega) ?_; intro v1 w4 ho4 hb4 hg4 hat4; have c2' := (World.cell?_of_block (a := ⟨p, 2, none⟩) (hg4.block p AR3'.out.lt HPN.out)).trans c2; have f2' := (World.frozen?_of_block (a := ⟨p, 2, none⟩) (hg4.block p AR3'.out.lt HPN.out)).trans (blk_frozen AR3'.out.blk 2); have HO4 := Aside0.mk ho4; have HG4 := Aside0.mk hg4; have HAT := Aside0.mk hat4; clear ho4 hb4 hg4 hat4; obtain ⟨a4, c4, rfl⟩ := Kd.R_slice HO4.out))
            have A5 := ArAt.new_empty AR3'.out HG4.out (fun _ h => h) HO4.out HAT.out
            have K5 := Aside0.mk ((K3.out.grown HG4.out (fun k hk => (AR3'.out.he.1 k hk))).setCell (p := ⟨p, 2, none⟩) AR3'.out.hF (.slice a4 (em ++ [r2]).length c4))
            have A6 := Aside0.mk (show Ar _ (More F w) p r1 (em ++ [r2]) most from ⟨⟨slots3, _, _, _, A5, S3, g1, g2, g3⟩, hok3, hsz3⟩)
            clear A5
            rw [show (em ++ [r2]).length = em.length + 1 by simp] at A6 K5
            have hL := Aside0.mk (show (em ++ [r2]).length = em.length + 1 by simp)
            have hbn := HN.out
            have HN2 := Aside0.mk (show r1.length + gm < 536870912 by omega)
            have EB2 := Aside0.mk (show ∀ i, 0 ≤ (em ++ [r2]).getD i 0 ∧ (em ++ [r2]).getD i 0 < 4294967296 from fun i => by
              have h1 := EB.out i
              rw [List.getD_eq_getElem?_getD] at h1 ⊢
              rw [List.getElem?_append]
              split
              · exact h1
              · rw [List.getElem?_singleton]
                split
                · exact ⟨hbJ.2.1, by show r2 < 4294967296; omega⟩
                · exact ⟨by simp, by simp⟩)
            go_roundg gm
            case measure => omega
            case rel => exact ⟨r1, em ++ [r2], by rw [hL.out]; omega, by rw [hL.out]; omega, by rw [hL.out]; omega, EB2, HN2, HR, A6, K5⟩
          · as_aux_lemma =>
            rw [if_neg h0] at HR
            obtain ⟨ev3, hev⟩ : ∃ v, errOf r3 = v := ⟨_, rfl⟩
            have hev2 : ev3 = .iface 59 (.int .i64 r3) := by rw [← hev]; exact if_neg h0
            rw [hev, hev2]
            rw [hev2] at hev
            have HEV := Aside0.mk hev
            clear hev hev2
            go_wp2_with (fail)
            go_ret2
            rw [← HR.out]
            dsimp only
            rw [← HEV.out]
            exact ⟨rfl, A3.out, K3.out⟩
        · obtain rfl : gk = 0 := by omega
          obtain ⟨be', e', _, e2⟩ := AR.empty_cell (i := level.toNat) (by omega)
          obtain rfl : be = be' := by injection e' with e'; injection e'
          have hres : R = (nodes', em, em.getD level.toNat 0, 0) := HR.out.symm
          have HRES := Aside0.mk hres
          clear hres HR e' e1 HJ
          generalize em.getD level.toNat 0 = v at *
          go_wp2_with (fail)
          go_ret2
          rw [HRES.out]
          exact ⟨rfl, A0.out, KK.out⟩
end Go.Proofs.Ytbkbkgfpnefilaa.ar
