/- The walk over (*Arena).Join: four of one level. -/
import Derived.Test.YtbkbkgfpnefilaaArLeaf
namespace Go.Proofs.Ytbkbkgfpnefilaa.ar
open Go.RowKit Go.Proofs.YtbkbkgfpnefilaaW.PrintWords Go.Proofs.YtbkbkgfpnefilaaW.PrintLast Go.Proofs.YtbkbkgfpnefilaaW.PrintMore Go.Proofs.Ytbkbkgfpnefilaa.bs Go.ChangeShapes Go.Proofs.Ytbkbkgfpnefilaa.lb

def kidOf (k0 k1 k2 k3 : Int) (j : Nat) : Int := [k0, k1, k2, k3].getD j 0
def cap62 (x : Int) : Int := min x 4611686018427387904
def sumTo (nodes : List Nd) (k0 k1 k2 k3 : Int) : Nat → Int
  | 0 => 0
  | j + 1 => cap62 (sumTo nodes k0 k1 k2 k3 j + cntAt nodes (kidOf k0 k1 k2 k3 j))
def fitsB (nodes : List Nd) (k0 k1 k2 k3 : Int) : Prop := lvAt nodes k0 ≠ -1 ∧ lvAt nodes k1 = lvAt nodes k0 ∧ lvAt nodes k2 = lvAt nodes k0 ∧ lvAt nodes k3 = lvAt nodes k0
instance (nodes : List Nd) (k0 k1 k2 k3 : Int) : Decidable (fitsB nodes k0 k1 k2 k3) := by unfold fitsB; infer_instance
/-- four joined: the nodes behind it, its number, the code -/
def joinN (nodes : List Nd) (most : Int) (k0 k1 k2 k3 : Int) : List Nd × Int × Int :=
  if fitsB nodes k0 k1 k2 k3 then
    if 43 < lvAt nodes k0 then (nodes, 0, 7) else addN nodes most ⟨lvAt nodes k0 + 1, 0, k0, k1, k2, k3⟩ (sumTo nodes k0 k1 k2 k3 4)
  else (nodes, 0, 4)
theorem fits_of {nodes : List Nd} {k0 k1 k2 k3 : Int} (h : ∀ i, i < 4 → lvAt nodes (kidOf k0 k1 k2 k3 i) = lvAt nodes k0 ∧ lvAt nodes k0 ≠ -1) : fitsB nodes k0 k1 k2 k3 :=
  ⟨(h 0 (by omega)).2, (h 1 (by omega)).1, (h 2 (by omega)).1, (h 3 (by omega)).1⟩
theorem of_fits {nodes : List Nd} {k0 k1 k2 k3 : Int} (h : fitsB nodes k0 k1 k2 k3) : ∀ i, i < 4 → lvAt nodes (kidOf k0 k1 k2 k3 i) = lvAt nodes k0 ∧ lvAt nodes k0 ≠ -1 := by
  intro i hi
  obtain ⟨h0, h1, h2, h3⟩ := h
  have : i = 0 ∨ i = 1 ∨ i = 2 ∨ i = 3 := by omega
  rcases this with rfl | rfl | rfl | rfl
  · exact ⟨rfl, h0⟩
  · exact ⟨h1, h0⟩
  · exact ⟨h2, h0⟩
  · exact ⟨h3, h0⟩
theorem kidOf_bd {k0 k1 k2 k3 : Int} (h0 : 0 ≤ k0 ∧ k0 < 4294967296) (h1 : 0 ≤ k1 ∧ k1 < 4294967296) (h2 : 0 ≤ k2 ∧ k2 < 4294967296) (h3 : 0 ≤ k3 ∧ k3 < 4294967296) (j : Nat) :
    0 ≤ kidOf k0 k1 k2 k3 j ∧ kidOf k0 k1 k2 k3 j < 4294967296 := by
  match j with
  | 0 => exact h0
  | 1 => exact h1
  | 2 => exact h2
  | 3 => exact h3
  | n + 4 => exact ⟨by simp [kidOf], by simp [kidOf]⟩
attribute [local go_sem] min_two
set_option maxHeartbeats 4000000 in
set_option maxRecDepth 100000 in
theorem join_walk (F : Nat → Prop) (p : Nat) (nodes : List Nd) (empty : List Int) (most : Int) (w : World) (k0 k1 k2 k3 : Int)
    (b0 : 0 ≤ k0 ∧ k0 < 4294967296) (b1 : 0 ≤ k1 ∧ k1 < 4294967296) (b2 : 0 ≤ k2 ∧ k2 < 4294967296) (b3 : 0 ≤ k3 ∧ k3 < 4294967296)
    (hN : nodes.length < 536870912) (A : Ar w F p nodes empty most) :
    Calls Try.prog 84 #[.pointer (some ⟨p, 0, none⟩), .agg #[.int .u32 k0, .int .u32 k1, .int .u32 k2, .int .u32 k3]] w fun e w' => FindPost F w p empty most (joinN nodes most k0 k1 k2 k3) e w' := by
  obtain ⟨⟨slots, nv, sv, ev, AR, S, hs1, hs2, hs128⟩, hok, hsz⟩ := A
  have hidx : ∀ (w : World) (j : Nat), j < 4 → (Instr.index 129 (.agg #[.int .u32 k0, .int .u32 k1, .int .u32 k2, .int .u32 k3]) (.int .i64 j)).run Try.prog w = .ok (.int .u32 (kidOf k0 k1 k2 k3 j)) w := fun w j h => index4 w k0 k1 k2 k3 j h
  have hkb := kidOf_bd b0 b1 b2 b3
  have HOK := Aside0.mk hok
  have HS := Aside0.mk S
  clear hok S
  go_enter Try.func84, Try.ntmps84
  go_wp2_with (fail)
  have A0 := Aside0.mk (AR.below (below_alloc (Below.refl _ _) (.cells #[.int .u32 k0, .int .u32 k1, .int .u32 k2, .int .u32 k3] 129)))
  have BK0 := Aside0.mk (blk_new w (.cells #[.int .u32 k0, .int .u32 k1, .int .u32 k2, .int .u32 k3] 129))
  have HK0 := Aside0.mk ((Keeps.refl F w).alloc (.cells #[.int .u32 k0, .int .u32 k1, .int .u32 k2, .int .u32 k3] 129))
  obtain ⟨g, hg⟩ : ∃ g, w.heap.size = g := ⟨_, rfl⟩
  simp only [hg] at BK0 ⊢
  have Hg := Aside0.mk hg
  clear hg AR
  change Code.wp _ _ _ _ (w.alloc (.cells #[.int .u32 k0, .int .u32 k1, .int .u32 k2, .int .u32 k3] 129))
  generalize w.alloc (.cells #[.int .u32 k0, .int .u32 k1, .int .u32 k2, .int .u32 k3] 129) = W0 at *
  go_loopg [6, 11] 4 (fun kq c6 c11 w' => ∃ j : Nat, j + kq = 4 ∧ c11 = .int .i64 j ∧ c6 = .int .u64 (sumTo nodes k0 k1 k2 k3 j) ∧ 0 ≤ sumTo nodes k0 k1 k2 k3 j ∧ sumTo nodes k0 k1 k2 k3 j ≤ 4611686018427387904 ∧ Aside0 (∀ i, i < j → lvAt nodes (kidOf k0 k1 k2 k3 i) = lvAt nodes k0 ∧ lvAt nodes k0 ≠ -1) ∧ Aside0 (ArAt w' F p nodes slots empty most nv sv ev) ∧ Aside0 (w'.heap[g]? = some (.cells #[.int .u32 k0, .int .u32 k1, .int .u32 k2, .int .u32 k3] 129 (0, 0))) ∧ Aside0 (Keeps F w w'))
  case atStart => exact ⟨0, by omega, rfl, rfl, by simp [sumTo], by simp [sumTo], ⟨fun i hi => by omega⟩, A0, BK0, HK0⟩
  case round =>
    clear A0 BK0 HK0
    obtain ⟨j, hj, rfl, rfl, hs0, hs62, HL, AR, BK, HK⟩ := hrel
    obtain ⟨na, cn, rfl⟩ := Kd.R_slice AR.out.hn
    have hmx := Kd.C_max (Kd.R_reads' AR.out.hn).2.2
    have c0 := blk_cell AR.out.blk 0
    have g0 := blk_cell BK.out 0
    simp only [List.getElem?_toArray, List.getElem?_cons_zero, List.getElem?_cons_succ] at c0 g0
    by_cases h4 : j < 4
    · obtain ⟨gk, rfl⟩ : ∃ m, gk = m + 1 := ⟨gk - 1, by omega⟩
      have hi := fun w => hidx w j h4
      have hkv := hkb j
      have hsum := Aside0.mk (show sumTo nodes k0 k1 k2 k3 (j + 1) = cap62 (sumTo nodes k0 k1 k2 k3 j + cntAt nodes (kidOf k0 k1 k2 k3 j)) from rfl)
      have hkv0 := Aside0.mk (fun (h : j = 0) => (show kidOf k0 k1 k2 k3 j = k0 by subst h; rfl))
      have hnext := Aside0.mk (fun (h : lvAt nodes (kidOf k0 k1 k2 k3 j) = lvAt nodes k0 ∧ lvAt nodes k0 ≠ -1) => (show ∀ i, i < j + 1 → lvAt nodes (kidOf k0 k1 k2 k3 i) = lvAt nodes k0 ∧ lvAt nodes k0 ≠ -1 from fun i hi => by
        by_cases e : i = j
        · subst e; exact h
        · exact HL.out i (by omega)))
      have hbad := Aside0.mk (fun (h : ¬ (lvAt nodes (kidOf k0 k1 k2 k3 j) = lvAt nodes k0 ∧ lvAt nodes k0 ≠ -1)) => (show joinN nodes most k0 k1 k2 k3 = (nodes, 0, 4) from if_neg (fun hf => h (of_fits hf j h4))))
      generalize kidOf k0 k1 k2 k3 j = kv at *
      generalize hsv : sumTo nodes k0 k1 k2 k3 j = sm at *
      clear hidx hkb hsv
      obtain ⟨kn, rfl⟩ := Int.eq_ofNat_of_zero_le hkv.1
      go_upto_region 5 with (fail)
      clear hi
      by_cases hh : nodes.length ≤ kn
      · as_aux_lemma =>
        have hhas : ∀ n : Nat, Calls Try.prog 72 #[.pointer (some ⟨p, 0, none⟩), .int .u32 kn] (wr.drewN n) fun e w' => e = .returned (.bool false) ∧ ∃ m, w' = wr.drewN m := fun n => (has_no F p nodes slots empty most _ sv ev _ (AR.out.drewN n) kn hkv.1 hkv.2 (by omega)).mono fun _ _ ⟨he, hm⟩ => ⟨he, n, hm.symm⟩
        have hres := Aside0.mk (hbad.out (fun h => by have := lvAt_none (nodes := nodes) (k := (kn : Int)) (by omega); rw [this] at h; exact h.2 h.1.symm))
        clear hsum hkv0 hnext hbad HL
        go_quiet ((go_at_call 72; exact hhas _))
        go_wp2_with (fail)
        go_ret2
        rw [hres.out]
        exact ⟨rfl, ⟨⟨slots, _, _, ev, (AR.out.drewN _).mono (fun _ h => .inl h), HS.out, hs1, hs2, hs128⟩, HOK.out, hsz⟩, HK.out.drewN _⟩
      · have hhas : ∀ n : Nat, Calls Try.prog 72 #[.pointer (some ⟨p, 0, none⟩), .int .u32 kn] (wr.drewN n) fun e w' => e = .returned (.bool true) ∧ ∃ m, w' = wr.drewN m := fun n => (has_yes F p nodes slots empty most _ sv ev _ (AR.out.drewN n) kn (by omega)).mono fun _ _ ⟨he, hm⟩ => ⟨he, n, hm.symm⟩
        obtain ⟨x, hx⟩ : ∃ x, nodes[kn]? = some x := ⟨_, List.getElem?_eq_getElem (by omega)⟩
        have hlx : lvAt nodes (kn : Int) = x.key.level := lvAt_some (by rw [Int.toNat_natCast]; exact hx)
        have hcx : cntAt nodes (kn : Int) = x.count := cntAt_some (by rw [Int.toNat_natCast]; exact hx)
        have hk0 : k0 < nodes.length := by
          by_cases e : j = 0
          · have := hkv0.out e; omega
          · by_cases h : k0 < nodes.length
            · exact h
            · have h1 := lvAt_none (nodes := nodes) (k := k0) (by omega)
              exact absurd h1 (HL.out 0 (by omega)).2
        obtain ⟨n0, rfl⟩ := Int.eq_ofNat_of_zero_le b0.1
        obtain ⟨x0, hx0⟩ : ∃ x0, nodes[n0]? = some x0 := ⟨_, List.getElem?_eq_getElem (by omega)⟩
        have hl0 : lvAt nodes (n0 : Int) = x0.key.level := lvAt_some (by rw [Int.toNat_natCast]; exact hx0)
        obtain ⟨ad, rfl, ⟨m0, m1, m2, m3, m4, m5, m6⟩⟩ := AR.out.node_cells hx0
        obtain ⟨ad', e', ⟨q0, q1, q2, q3, q4, q5, q6⟩⟩ := AR.out.node_cells hx
        obtain rfl := Option.some.inj e'
        have hok0 := HOK.out n0 x0 hx0
        have hokx := HOK.out kn x hx
        have hxl := hokx.lv
        have hx0l := hok0.lv
        have hxc0 := hokx.c0
        have hxc1 := hokx.c1
        clear m1 m2 m3 m4 m5 m6 q1 q2 q3 q4 q5 hok0 hokx e'
        by_cases hne : x.key.level = x0.key.level
        · have hb : (x.key.level != x0.key.level) = false := by simp [hne]
          have hnx := Aside0.mk (hnext.out (by rw [hlx, hl0]; exact ⟨hne, by omega⟩))
          have hsm := hsum.out
          rw [hcx] at hsm
          obtain ⟨cc, hcc, hmin⟩ : ∃ cc : Int, cap62 (sm + x.count) = cc ∧ Builtin.min2 (.int .u64 (sm + x.count)) (.int .u64 4611686018427387904) = pure (.int .u64 cc) := ⟨_, rfl, by rw [min2_int]; congr 2; unfold cap62; split <;> omega⟩
          have hcc0 : 0 ≤ cc ∧ cc ≤ 4611686018427387904 := by unfold cap62 at hcc; omega
          rw [hcc] at hsm
          have HSM := Aside0.mk hsm
          clear hsm hcc hne hlx hcx hl0 hsum hkv0 hnext hbad HL
          go_quiet ((go_at_call 72; exact hhas _))
          have ARd := Aside0.mk (AR.out.drewN nq)
          have BKd := Aside0.mk (blk_drewN BK.out nq)
          have HKd := Aside0.mk (HK.out.drewN nq)
          go_wp2_with (fail)
          go_roundg gk
          case measure => omega
          case rel => exact ⟨j + 1, by omega, by go_num, by rw [HSM.out], by rw [HSM.out]; exact hcc0.1, by rw [HSM.out]; exact hcc0.2, hnx, ARd, BKd, HKd⟩
        · as_aux_lemma =>
          have hb : (x.key.level != x0.key.level) = true := by simp [hne]
          have hres := Aside0.mk (hbad.out (fun h => hne (by rw [hlx, hl0] at h; exact h.1)))
          clear hne hlx hcx hl0 hsum hkv0 hnext hbad HL
          go_quiet ((go_at_call 72; exact hhas _))
          go_wp2_with (fail)
          go_ret2
          rw [hres.out]
          exact ⟨rfl, ⟨⟨slots, _, _, ev, (AR.out.drewN _).mono (fun _ h => .inl h), HS.out, hs1, hs2, hs128⟩, HOK.out, hsz⟩, HK.out.drewN _⟩
    · as_aux_lemma =>
      obtain rfl : j = 4 := by omega
      have hf := fits_of HL.out
      have hk0 : k0 < nodes.length := by
        by_cases h : k0 < nodes.length
        · exact h
        · have h1 := lvAt_none (nodes := nodes) (k := k0) (by omega)
          exact absurd h1 hf.1
      have hJ : joinN nodes most k0 k1 k2 k3 = if 43 < lvAt nodes k0 then (nodes, 0, 7) else addN nodes most ⟨lvAt nodes k0 + 1, 0, k0, k1, k2, k3⟩ (sumTo nodes k0 k1 k2 k3 4) := if_pos hf
      generalize sumTo nodes k0 k1 k2 k3 4 = sm at *
      obtain ⟨n0, rfl⟩ := Int.eq_ofNat_of_zero_le b0.1
      obtain ⟨x0, hx0⟩ : ∃ x0, nodes[n0]? = some x0 := ⟨_, List.getElem?_eq_getElem (by omega)⟩
      have hl0 : lvAt nodes (n0 : Int) = x0.key.level := lvAt_some (by rw [Int.toNat_natCast]; exact hx0)
      rw [hl0] at hJ
      have HJ := Aside0.mk hJ
      obtain ⟨ad, rfl, ⟨m0, m1, m2, m3, m4, m5, m6⟩⟩ := AR.out.node_cells hx0
      have hok0 := HOK.out n0 x0 hx0
      have hx0l := hok0.lv
      have hx0h := hok0.key.l1
      have g1 := blk_cell BK.out 1
      have g2 := blk_cell BK.out 2
      have g3 := blk_cell BK.out 3
      simp only [List.getElem?_toArray, List.getElem?_cons_zero, List.getElem?_cons_succ] at g1 g2 g3
      clear m1 m2 m3 m4 m5 m6 hJ hl0 hok0 hf hidx hkb
      by_cases hd : 43 < x0.key.level
      · as_aux_lemma =>
        go_upto_region 9 with (fail)
        go_quiet (fail)
        go_wp2_with (fail)
        go_ret2
        rw [HJ.out, if_pos hd]
        exact ⟨rfl, ⟨⟨slots, _, _, ev, (AR.out.drewN nq).mono (fun _ h => .inl h), HS.out, hs1, hs2, hs128⟩, HOK.out, hsz⟩, HK.out.drewN nq⟩
      · as_aux_lemma =>
        go_upto_region 9 with (fail)
        go_quiet (fail)
        have hlI : 2 ≤ x0.key.level + 1 ∧ x0.key.level + 1 ≤ 44 := by omega
        have hfind := find_walk F p nodes empty most (wr.drewN nq) ⟨x0.key.level + 1, 0, n0, k1, k2, k3⟩ sm ⟨by show 0 ≤ x0.key.level + 1; omega, by show x0.key.level + 1 ≤ 100; omega, zero_bd.1, zero_bd.2, b0, b1, b2, b3⟩ hlI.1 hs0 (by omega) hN ⟨⟨slots, _, _, ev, AR.out.drewN nq, HS.out, hs1, hs2, hs128⟩, HOK.out, hsz⟩
        have hKd := Aside0.mk (HK.out.drewN nq)
        unfold Key.vals at hfind
        have HF := Aside0.mk hfind
        clear hfind
        go_wp2_with (fail)
        refine HF.out.mono ?_
        rintro e w9 ⟨rfl, a9, k9⟩
        have A9 := Aside0.mk a9
        have K9 := Aside0.mk k9
        clear a9 k9
        go_wp2_with (fail)
        go_ret2
        rw [HJ.out, if_neg (by omega)]
        have hsz' := hKd.out.size
        exact ⟨rfl, A9.out.mono (fun k hk => hk.elim .inl (fun h => .inr (Nat.le_trans hsz' h))), hKd.out.trans K9.out (fun k hk => .inl hk)⟩
end Go.Proofs.Ytbkbkgfpnefilaa.ar
