/- An arena among other blocks of the call's own: its blocks are told apart from all others, old and new. -/
import Derived.Test.YtpmipllohiiocaaMAr
import Derived.Test.YtpmipllohiiocaaMLb
namespace Go.Proofs.Ytpmipllohiiocaa.ar
open Go.RowKit Go.Proofs.YtpmipllohiiocaaW.PrintWords Go.Proofs.YtpmipllohiiocaaW.PrintLast Go.Proofs.YtpmipllohiiocaaW.PrintMore Go.Proofs.Ytpmipllohiiocaa.bs Go.ChangeShapes Go.Proofs.Ytpmipllohiiocaa.lb

theorem popN_le (n : Nat) : ∀ x, popN n x ≤ n := by
  induction n with
  | zero => intro x; exact Nat.le_refl _
  | succ n ih => intro x; have := ih (x / 2); simp only [popN]; omega
theorem popN_pos (n : Nat) : ∀ x, x < 2 ^ n → popN n x = 0 → x = 0 := by
  induction n with
  | zero => intro x h _; simp at h; exact h
  | succ n ih =>
    intro x h h0
    simp only [popN] at h0
    rw [Nat.pow_succ] at h
    have := ih (x / 2) (by omega) (by omega)
    omega
set_option maxHeartbeats 1000000 in
theorem count_walk (f : Nat) (hf : f < 4294967296) (w : World) : Calls Try.prog 10 #[.int .u32 f] w fun e w' => e = .returned (.int .i64 (popN 32 f)) ∧ w = w' := by
  have hle := popN_le 32 f
  go_enter Try.func10, Try.ntmps10
  go_wp2_with (fail)
  obtain ⟨m, hm⟩ : ∃ m, popN 32 f = m := ⟨_, rfl⟩
  have HM := Aside0.mk hm
  rw [hm] at hle
  clear hm
  go_loopg [0, 3] m (fun kq c0 c3 w' => ∃ (x n : Nat), x < 4294967296 ∧ c0 = .int .u32 x ∧ c3 = .int .i64 n ∧ n + kq = m ∧ Aside0 (popN 32 x = kq) ∧ w' = w)
  case atStart => exact ⟨f, 0, hf, rfl, rfl, by omega, HM, rfl⟩
  case round =>
    obtain ⟨x, n, hx, rfl, rfl, hn, hp, rfl⟩ := hrel
    by_cases h0 : x = 0
    · subst h0
      have hz := hp.out
      rw [popN_zero] at hz
      subst hz
      obtain rfl : n = m := by omega
      go_wp2_with (fail)
      go_ret
      rw [HM.out]
      exact ⟨rfl, rfl⟩
    · have h1 : (x : Int) ≠ 0 := by omega
      have hand := Aside0.mk (by have := and_pred_u32 x (by omega) hx; rwa [show ((x : Int) - 1) % 4294967296 = (x : Int) - 1 by omega] at this)
      have hpred := and_pred 32 x (by omega) (by omega)
      rw [hp.out] at hpred
      obtain ⟨gk, rfl⟩ : ∃ m, gk = m + 1 := ⟨gk - 1, by omega⟩
      have hp2 := Aside0.mk (show popN 32 (x &&& (x - 1)) = gk by omega)
      have hlt := Aside0.mk (show x &&& (x - 1) < 4294967296 from Nat.lt_of_le_of_lt Nat.and_le_left hx)
      clear hpred
      go_wp2_with (fail)
      go_roundg gk
      case measure => omega
      case rel => exact ⟨x &&& (x - 1), n + 1, hlt.out, by rw [← hand.out], by go_num, by omega, hp2, rfl⟩
theorem zero_bd : (0 : Int) ≤ 0 ∧ (0 : Int) < 4294967296 := by decide
def leafKey (f : Int) : Key := ⟨2, f, 0, 0, 0, 0⟩
theorem leafKey_ok {f : Int} (h0 : 0 ≤ f) (h1 : f < 4294967296) : KeyOk (leafKey f) := ⟨show (0 : Int) ≤ 2 by decide, show (2 : Int) ≤ 44 by decide, h0, h1, zero_bd, zero_bd, zero_bd, zero_bd⟩
set_option maxHeartbeats 1000000 in
theorem leaf_walk (F : Nat → Prop) (p : Nat) (nodes : List Nd) (empty : List Int) (most : Int) (w : World) (f : Nat) (hf : f < 4294967296)
    (hN : nodes.length < 536870912) (A : Ar w F p nodes empty most) :
    Calls Try.prog 53 #[.pointer (some ⟨p, 0, none⟩), .int .u32 f] w fun e w' => FindPost F w p empty most (addN nodes most (leafKey f) (popN 32 f)) e w' := by
  have hle := popN_le 32 f
  have hc := Aside0.mk (count_walk f hf)
  have hfind := Aside0.mk (fun (W : World) (A' : Ar W F p nodes empty most) => find_walk F p nodes empty most W (leafKey f) (popN 32 f) (leafKey_ok (by omega) (by omega)) (show (2 : Int) ≤ 2 by decide) (by omega) (by omega) hN A')
  go_enter Try.func53, Try.ntmps53
  go_wp2_with (fail)
  refine (hc.out _).mono ?_; rintro e w1 ⟨rfl, rfl⟩
  go_wp2_with (fail)
  refine (hfind.out _ A).mono ?_; rintro e w1 ⟨rfl, h⟩
  have H := Aside0.mk h
  clear h
  go_wp2_with (fail)
  go_ret2
  exact ⟨rfl, H.out⟩
/-- a node's level; -1: there is none -/
def lvAt (nodes : List Nd) (k : Int) : Int := match nodes[k.toNat]? with | some x => x.key.level | none => -1
def cntAt (nodes : List Nd) (k : Int) : Int := match nodes[k.toNat]? with | some x => x.count | none => 0
theorem lvAt_some {nodes : List Nd} {k : Int} {x : Nd} (h : nodes[k.toNat]? = some x) : lvAt nodes k = x.key.level := by unfold lvAt; rw [h]
theorem cntAt_some {nodes : List Nd} {k : Int} {x : Nd} (h : nodes[k.toNat]? = some x) : cntAt nodes k = x.count := by unfold cntAt; rw [h]
theorem lvAt_none {nodes : List Nd} {k : Int} (h : (nodes.length : Int) ≤ k) : lvAt nodes k = -1 := by
  unfold lvAt; rw [List.getElem?_eq_none (by omega)]
theorem Ar.mono {w : World} {F F' : Nat → Prop} {p : Nat} {nodes : List Nd} {empty : List Int} {most : Int} (h : Ar w F p nodes empty most) (hF : ∀ k, F k → F' k) : Ar w F' p nodes empty most := by
  obtain ⟨⟨slots, nv, sv, ev, AR, S, h1, h2, h3⟩, hok, hsz⟩ := h
  exact ⟨⟨slots, nv, sv, ev, AR.mono hF, S, h1, h2, h3⟩, hok, hsz⟩
theorem Ar.below {w w' : World} {F : Nat → Prop} {p : Nat} {nodes : List Nd} {empty : List Int} {most : Int} (h : Ar w F p nodes empty most) (hb : Below w.heap.size w w') : Ar w' F p nodes empty most := by
  obtain ⟨⟨slots, nv, sv, ev, AR, S, h1, h2, h3⟩, hok, hsz⟩ := h
  exact ⟨⟨slots, nv, sv, ev, AR.below hb, S, h1, h2, h3⟩, hok, hsz⟩
theorem Ar.drewN {w : World} {F : Nat → Prop} {p : Nat} {nodes : List Nd} {empty : List Int} {most : Int} (h : Ar w F p nodes empty most) (n : Nat) : Ar (w.drewN n) F p nodes empty most := h.below (pw_below_drewN (Below.refl _ _) n)
theorem Ar.kept {w w' : World} {F G : Nat → Prop} {p : Nat} {nodes : List Nd} {empty : List Int} {most : Int} (h : Ar w F p nodes empty most) (hk : Kept w w' G) (hd : ∀ k, F k → ¬ G k) : Ar w' F p nodes empty most := by
  obtain ⟨⟨slots, nv, sv, ev, AR, S, h1, h2, h3⟩, hok, hsz⟩ := h
  exact ⟨⟨slots, nv, sv, ev, AR.kept hk hd, S, h1, h2, h3⟩, hok, hsz⟩
end Go.Proofs.Ytpmipllohiiocaa.ar
namespace Go.Proofs.Ytpmipllohiiocaa.ar
open Go.RowKit Go.Proofs.YtpmipllohiiocaaW.PrintWords Go.Proofs.YtpmipllohiiocaaW.PrintLast Go.Proofs.YtpmipllohiiocaaW.PrintMore Go.Proofs.Ytpmipllohiiocaa.bs Go.ChangeShapes Go.Proofs.Ytpmipllohiiocaa.lb

def kidOf (k0 k1 k2 k3 : Int) (j : Nat) : Int := [k0, k1, k2, k3].getD j 0
def cap62 (x : Int) : Int := min x 4611686018427387904
def sumTo (nodes : List Nd) (k0 k1 k2 k3 : Int) : Nat → Int
  | 0 => 0
  | j + 1 => cap62 (sumTo nodes k0 k1 k2 k3 j + cntAt nodes (kidOf k0 k1 k2 k3 j))
def fitsB (nodes : List Nd) (k0 k1 k2 k3 : Int) : Prop := lvAt nodes k0 ≠ -1 ∧ lvAt nodes k1 = lvAt nodes k0 ∧ lvAt nodes k2 = lvAt nodes k0 ∧ lvAt nodes k3 = lvAt nodes k0
instance (nodes : List Nd) (k0 k1 k2 k3 : Int) : Decidable (fitsB nodes k0 k1 k2 k3) := by unfold fitsB; infer_instance
/-- four joined: the nodes behind it, its number, the code -/
def joinN (nodes : List Nd) (most : Int) (k0 k1 k2 k3 : Int) : List Nd × Int × Int :=
  if fitsB nodes k0 k1 k2 k3 then
    if 43 < lvAt nodes k0 then (nodes, 0, 7) else addN nodes most ⟨lvAt nodes k0 + 1, 0, k0, k1, k2, k3⟩ (sumTo nodes k0 k1 k2 k3 4)
  else (nodes, 0, 4)
theorem fits_of {nodes : List Nd} {k0 k1 k2 k3 : Int} (h : ∀ i, i < 4 → lvAt nodes (kidOf k0 k1 k2 k3 i) = lvAt nodes k0 ∧ lvAt nodes k0 ≠ -1) : fitsB nodes k0 k1 k2 k3 :=
  ⟨(h 0 (by omega)).2, (h 1 (by omega)).1, (h 2 (by omega)).1, (h 3 (by omega)).1⟩
theorem of_fits {nodes : List Nd} {k0 k1 k2 k3 : Int} (h : fitsB nodes k0 k1 k2 k3) : ∀ i, i < 4 → lvAt nodes (kidOf k0 k1 k2 k3 i) = lvAt nodes k0 ∧ lvAt nodes k0 ≠ -1 := by
  intro i hi
  obtain ⟨h0, h1, h2, h3⟩ := h
  have : i = 0 ∨ i = 1 ∨ i = 2 ∨ i = 3 := by omega
  rcases this with rfl | rfl | rfl | rfl
  · exact ⟨rfl, h0⟩
  · exact ⟨h1, h0⟩
  · exact ⟨h2, h0⟩
  · exact ⟨h3, h0⟩
theorem kidOf_bd {k0 k1 k2 k3 : Int} (h0 : 0 ≤ k0 ∧ k0 < 4294967296) (h1 : 0 ≤ k1 ∧ k1 < 4294967296) (h2 : 0 ≤ k2 ∧ k2 < 4294967296) (h3 : 0 ≤ k3 ∧ k3 < 4294967296) (j : Nat) :
    0 ≤ kidOf k0 k1 k2 k3 j ∧ kidOf k0 k1 k2 k3 j < 4294967296 := by
  match j with
  | 0 => exact h0
  | 1 => exact h1
  | 2 => exact h2
  | 3 => exact h3
  | n + 4 => exact ⟨by simp [kidOf], by simp [kidOf]⟩
attribute [local go_sem] min_two
set_option maxHeartbeats 4000000 in
set_option maxRecDepth 100000 in
theorem join_walk (F : Nat → Prop) (p : Nat) (nodes : List Nd) (empty : List Int) (most : Int) (w : World) (k0 k1 k2 k3 : Int)
    (b0 : 0 ≤ k0 ∧ k0 < 4294967296) (b1 : 0 ≤ k1 ∧ k1 < 4294967296) (b2 : 0 ≤ k2 ∧ k2 < 4294967296) (b3 : 0 ≤ k3 ∧ k3 < 4294967296)
    (hN : nodes.length < 536870912) (A : Ar w F p nodes empty most) :
    Calls Try.prog 64 #[.pointer (some ⟨p, 0, none⟩), .agg #[.int .u32 k0, .int .u32 k1, .int .u32 k2, .int .u32 k3]] w fun e w' => FindPost F w p empty most (joinN nodes most k0 k1 k2 k3) e w' := by
  obtain ⟨⟨slots, nv, sv, ev, AR, S, hs1, hs2, hs128⟩, hok, hsz⟩ := A
  have hidx : ∀ (w : World) (j : Nat), j < 4 → (Instr.index 89 (.agg #[.int .u32 k0, .int .u32 k1, .int .u32 k2, .int .u32 k3]) (.int .i64 j)).run Try.prog w = .ok (.int .u32 (kidOf k0 k1 k2 k3 j)) w := fun w j h => index4 w k0 k1 k2 k3 j h
  have hkb := kidOf_bd b0 b1 b2 b3
  have HOK := Aside0.mk hok
  have HS := Aside0.mk S
  clear hok S
  go_enter Try.func64, Try.ntmps64
  go_wp2_with (fail)
  have A0 := Aside0.mk (AR.below (below_alloc (Below.refl _ _) (.cells #[.int .u32 k0, .int .u32 k1, .int .u32 k2, .int .u32 k3] 89)))
  have BK0 := Aside0.mk (blk_new w (.cells #[.int .u32 k0, .int .u32 k1, .int .u32 k2, .int .u32 k3] 89))
  have HK0 := Aside0.mk ((Keeps.refl F w).alloc (.cells #[.int .u32 k0, .int .u32 k1, .int .u32 k2, .int .u32 k3] 89))
  obtain ⟨g, hg⟩ : ∃ g, w.heap.size = g := ⟨_, rfl⟩
  simp only [hg] at BK0 ⊢
  have Hg := Aside0.mk hg
  clear hg AR
  change Code.wp _ _ _ _ (w.alloc (.cells #[.int .u32 k0, .int .u32 k1, .int .u32 k2, .int .u32 k3] 89))
  generalize w.alloc (.cells #[.int .u32 k0, .int .u32 k1, .int .u32 k2, .int .u32 k3] 89) = W0 at *
  go_loopg [6, 11] 4 (fun kq c6 c11 w' => ∃ j : Nat, j + kq = 4 ∧ c11 = .int .i64 j ∧ c6 = .int .u64 (sumTo nodes k0 k1 k2 k3 j) ∧ 0 ≤ sumTo nodes k0 k1 k2 k3 j ∧ sumTo nodes k0 k1 k2 k3 j ≤ 4611686018427387904 ∧ Aside0 (∀ i, i < j → lvAt nodes (kidOf k0 k1 k2 k3 i) = lvAt nodes k0 ∧ lvAt nodes k0 ≠ -1) ∧ Aside0 (ArAt w' F p nodes slots empty most nv sv ev) ∧ Aside0 (w'.heap[g]? = some (.cells #[.int .u32 k0, .int .u32 k1, .int .u32 k2, .int .u32 k3] 89 (0, 0))) ∧ Aside0 (Keeps F w w'))
  case atStart => exact ⟨0, by omega, rfl, rfl, by simp [sumTo], by simp [sumTo], ⟨fun i hi => by omega⟩, A0, BK0, HK0⟩
  case round =>
    clear A0 BK0 HK0
    obtain ⟨j, hj, rfl, rfl, hs0, hs62, HL, AR, BK, HK⟩ := hrel
    obtain ⟨na, cn, rfl⟩ := Kd.R_slice AR.out.hn
    have hmx := Kd.C_max (Kd.R_reads' AR.out.hn).2.2
    have c0 := blk_cell AR.out.blk 0
    have g0 := blk_cell BK.out 0
    simp only [List.getElem?_toArray, List.getElem?_cons_zero] at c0 g0
    by_cases h4 : j < 4
    · obtain ⟨gk, rfl⟩ : ∃ m, gk = m + 1 := ⟨gk - 1, by omega⟩
      have hi := fun w => hidx w j h4
      have hkv := hkb j
      have hsum := Aside0.mk (show sumTo nodes k0 k1 k2 k3 (j + 1) = cap62 (sumTo nodes k0 k1 k2 k3 j + cntAt nodes (kidOf k0 k1 k2 k3 j)) from rfl)
      have hkv0 := Aside0.mk (fun (h : j = 0) => (show kidOf k0 k1 k2 k3 j = k0 by subst h; rfl))
      have hnext := Aside0.mk (fun (h : lvAt nodes (kidOf k0 k1 k2 k3 j) = lvAt nodes k0 ∧ lvAt nodes k0 ≠ -1) => (show ∀ i, i < j + 1 → lvAt nodes (kidOf k0 k1 k2 k3 i) = lvAt nodes k0 ∧ lvAt nodes k0 ≠ -1 from fun i hi => by
        by_cases e : i = j
        · subst e; exact h
        · exact HL.out i (by omega)))
      have hbad := Aside0.mk (fun (h : ¬ (lvAt nodes (kidOf k0 k1 k2 k3 j) = lvAt nodes k0 ∧ lvAt nodes k0 ≠ -1)) => (show joinN nodes most k0 k1 k2 k3 = (nodes, 0, 4) from if_neg (fun hf => h (of_fits hf j h4))))
      generalize kidOf k0 k1 k2 k3 j = kv at *
      generalize hsv : sumTo nodes k0 k1 k2 k3 j = sm at *
      clear hidx hkb hsv
      obtain ⟨kn, rfl⟩ := Int.eq_ofNat_of_zero_le hkv.1
      go_upto_region 5 with (fail)
      clear hi
      by_cases hh : nodes.length ≤ kn
      · as_aux_lemma =>
        have hhas : ∀ n : Nat, Calls Try.prog 43 #[.pointer (some ⟨p, 0, none⟩), .int .u32 kn] (wr.drewN n) fun e w' => e = .returned (.bool false) ∧ ∃ m, w' = wr.drewN m := fun n => (has_no F p nodes slots empty most _ sv ev _ (AR.out.drewN n) kn hkv.1 hkv.2 (by omega)).mono fun _ _ ⟨he, hm⟩ => ⟨he, n, hm.symm⟩
        have hres := Aside0.mk (hbad.out (fun h => by have := lvAt_none (nodes := nodes) (k := (kn : Int)) (by omega); rw [this] at h; exact h.2 h.1.symm))
        clear hsum hkv0 hnext hbad HL
        go_quiet ((go_at_call 43; exact hhas _))
        go_wp2_with (fail)
        go_ret2
        rw [hres.out]
        exact ⟨rfl, ⟨⟨slots, _, _, ev, (AR.out.drewN _).mono (fun _ h => .inl h), HS.out, hs1, hs2, hs128⟩, HOK.out, hsz⟩, HK.out.drewN _⟩
      · have hhas : ∀ n : Nat, Calls Try.prog 43 #[.pointer (some ⟨p, 0, none⟩), .int .u32 kn] (wr.drewN n) fun e w' => e = .returned (.bool true) ∧ ∃ m, w' = wr.drewN m := fun n => (has_yes F p nodes slots empty most _ sv ev _ (AR.out.drewN n) kn (by omega)).mono fun _ _ ⟨he, hm⟩ => ⟨he, n, hm.symm⟩
        obtain ⟨x, hx⟩ : ∃ x, nodes[kn]? = some x := ⟨_, List.getElem?_eq_getElem (by omega)⟩
        have hlx : lvAt nodes (kn : Int) = x.key.level := lvAt_some (by rw [Int.toNat_natCast]; exact hx)
        have hcx : cntAt nodes (kn : Int) = x.count := cntAt_some (by rw [Int.toNat_natCast]; exact hx)
        have hk0 : k0 < nodes.length := by
          by_cases e : j = 0
          · have := hkv0.out e; omega
          · by_cases h : k0 < nodes.length
            · exact h
            · have h1 := lvAt_none (nodes := nodes) (k := k0) (by omega)
              exact absurd h1 (HL.out 0 (by omega)).2
        obtain ⟨n0, rfl⟩ := Int.eq_ofNat_of_zero_le b0.1
        obtain ⟨x0, hx0⟩ : ∃ x0, nodes[n0]? = some x0 := ⟨_, List.getElem?_eq_getElem (by omega)⟩
        have hl0 : lvAt nodes (n0 : Int) = x0.key.level := lvAt_some (by rw [Int.toNat_natCast]; exact hx0)
        obtain ⟨ad, rfl, ⟨m0, m1, m2, m3, m4, m5, m6⟩⟩ := AR.out.node_cells hx0
        obtain ⟨ad', e', ⟨q0, q1, q2, q3, q4, q5, q6⟩⟩ := AR.out.node_cells hx
        obtain rfl := Option.some.inj e'
        have hok0 := HOK.out n0 x0 hx0
        have hokx := HOK.out kn x hx
        have hxl := hokx.lv
        have hx0l := hok0.lv
        have hxc0 := hokx.c0
        have hxc1 := hokx.c1
        clear m1 m2 m3 m4 m5 m6 q1 q2 q3 q4 q5 hok0 hokx e'
        by_cases hne : x.key.level = x0.key.level
        · have hb : (x.key.level != x0.key.level) = false := by simp [hne]
          have hnx := Aside0.mk (hnext.out (by rw [hlx, hl0]; exact ⟨hne, by omega⟩))
          have hsm := hsum.out
          rw [hcx] at hsm
          obtain ⟨cc, hcc, hmin⟩ : ∃ cc : Int, cap62 (sm + x.count) = cc ∧ Builtin.min2 (.int .u64 (sm + x.count)) (.int .u64 4611686018427387904) = pure (.int .u64 cc) := ⟨_, rfl, by rw [min2_int]; congr 2; unfold cap62; split <;> omega⟩
          have hcc0 : 0 ≤ cc ∧ cc ≤ 4611686018427387904 := by unfold cap62 at hcc; omega
          rw [hcc] at hsm
          have HSM := Aside0.mk hsm
          clear hsm hcc hne hlx hcx hl0 hsum hkv0 hnext hbad HL
          go_quiet ((go_at_call 43; exact hhas _))
          have ARd := Aside0.mk (AR.out.drewN nq)
          have BKd := Aside0.mk (blk_drewN BK.out nq)
          have HKd := Aside0.mk (HK.out.drewN nq)
          go_wp2_with (fail)
          go_roundg gk
          case measure => omega
          case rel => exact ⟨j + 1, by omega, by go_num, by rw [HSM.out], by rw [HSM.out]; exact hcc0.1, by rw [HSM.out]; exact hcc0.2, hnx, ARd, BKd, HKd⟩
        · as_aux_lemma =>
          have hb : (x.key.level != x0.key.level) = true := by simp [hne]
          have hres := Aside0.mk (hbad.out (fun h => hne (by rw [hlx, hl0] at h; exact h.1)))
          clear hne hlx hcx hl0 hsum hkv0 hnext hbad HL
          go_quiet ((go_at_call 43; exact hhas _))
          go_wp2_with (fail)
          go_ret2
          rw [hres.out]
          exact ⟨rfl, ⟨⟨slots, _, _, ev, (AR.out.drewN _).mono (fun _ h => .inl h), HS.out, hs1, hs2, hs128⟩, HOK.out, hsz⟩, HK.out.drewN _⟩
    · as_aux_lemma =>
      obtain rfl : j = 4 := by omega
      have hf := fits_of HL.out
      have hk0 : k0 < nodes.length := by
        by_cases h : k0 < nodes.length
        · exact h
        · have h1 := lvAt_none (nodes := nodes) (k := k0) (by omega)
          exact absurd h1 hf.1
      have hJ : joinN nodes most k0 k1 k2 k3 = if 43 < lvAt nodes k0 then (nodes, 0, 7) else addN nodes most ⟨lvAt nodes k0 + 1, 0, k0, k1, k2, k3⟩ (sumTo nodes k0 k1 k2 k3 4) := if_pos hf
      generalize sumTo nodes k0 k1 k2 k3 4 = sm at *
      obtain ⟨n0, rfl⟩ := Int.eq_ofNat_of_zero_le b0.1
      obtain ⟨x0, hx0⟩ : ∃ x0, nodes[n0]? = some x0 := ⟨_, List.getElem?_eq_getElem (by omega)⟩
      have hl0 : lvAt nodes (n0 : Int) = x0.key.level := lvAt_some (by rw [Int.toNat_natCast]; exact hx0)
      rw [hl0] at hJ
      have HJ := Aside0.mk hJ
      obtain ⟨ad, rfl, ⟨m0, m1, m2, m3, m4, m5, m6⟩⟩ := AR.out.node_cells hx0
      have hok0 := HOK.out n0 x0 hx0
      have hx0l := hok0.lv
      have hx0h := hok0.key.l1
      have g1 := blk_cell BK.out 1
      have g2 := blk_cell BK.out 2
      have g3 := blk_cell BK.out 3
      simp only [List.getElem?_toArray, List.getElem?_cons_zero, List.getElem?_cons_succ] at g1 g2 g3
      clear m1 m2 m3 m4 m5 m6 hJ hl0 hok0 hf hidx hkb
      by_cases hd : 43 < x0.key.level
      · as_aux_lemma =>
        go_upto_region 9 with (fail)
        go_quiet (fail)
        go_wp2_with (fail)
        go_ret2
        rw [HJ.out, if_pos hd]
        exact ⟨rfl, ⟨⟨slots, _, _, ev, (AR.out.drewN nq).mono (fun _ h => .inl h), HS.out, hs1, hs2, hs128⟩, HOK.out, hsz⟩, HK.out.drewN nq⟩
      · as_aux_lemma =>
        go_upto_region 9 with (fail)
        go_quiet (fail)
        have hlI : 2 ≤ x0.key.level + 1 ∧ x0.key.level + 1 ≤ 44 := by omega
        have hfind := find_walk F p nodes empty most (wr.drewN nq) ⟨x0.key.level + 1, 0, n0, k1, k2, k3⟩ sm ⟨by show 0 ≤ x0.key.level + 1; omega, by show x0.key.level + 1 ≤ 44; omega, zero_bd.1, zero_bd.2, b0, b1, b2, b3⟩ hlI.1 hs0 (by omega) hN ⟨⟨slots, _, _, ev, AR.out.drewN nq, HS.out, hs1, hs2, hs128⟩, HOK.out, hsz⟩
        have hKd := Aside0.mk (HK.out.drewN nq)
        unfold Key.vals at hfind
        have HF := Aside0.mk hfind
        clear hfind
        go_wp2_with (fail)
        refine HF.out.mono ?_
        rintro e w9 ⟨rfl, a9, k9⟩
        have A9 := Aside0.mk a9
        have K9 := Aside0.mk k9
        clear a9 k9
        go_wp2_with (fail)
        go_ret2
        rw [HJ.out, if_neg (by omega)]
        have hsz' := hKd.out.size
        exact ⟨rfl, A9.out.mono (fun k hk => hk.elim .inl (fun h => .inr (Nat.le_trans hsz' h))), hKd.out.trans K9.out (fun k hk => .inl hk)⟩
end Go.Proofs.Ytpmipllohiiocaa.ar
namespace Go.Proofs.Ytpmipllohiiocaa.ar
open Go.RowKit Go.Proofs.YtpmipllohiiocaaW.PrintWords Go.Proofs.YtpmipllohiiocaaW.PrintLast Go.Proofs.YtpmipllohiiocaaW.PrintMore Go.Proofs.Ytpmipllohiiocaa.bs Go.ChangeShapes Go.Proofs.Ytpmipllohiiocaa.lb

def bitsAt (nodes : List Nd) (k : Int) : Int := match nodes[k.toNat]? with | some x => x.key.bits | none => 0
def keyAt (nodes : List Nd) (k : Int) : Key := match nodes[k.toNat]? with | some x => x.key | none => ⟨0, 0, 0, 0, 0, 0⟩
theorem bitsAt_some {nodes : List Nd} {k : Int} {x : Nd} (h : nodes[k.toNat]? = some x) : bitsAt nodes k = x.key.bits := by unfold bitsAt; rw [h]
theorem keyAt_some {nodes : List Nd} {k : Int} {x : Nd} (h : nodes[k.toNat]? = some x) : keyAt nodes k = x.key := by unfold keyAt; rw [h]
theorem at_cases (nodes : List Nd) (k : Int) (h0 : 0 ≤ k) : (∃ (i : Nat) (x : Nd), k = i ∧ nodes[i]? = some x) ∨ ((nodes.length : Int) ≤ k ∧ lvAt nodes k = -1 ∧ bitsAt nodes k = 0 ∧ cntAt nodes k = 0 ∧ keyAt nodes k = ⟨0, 0, 0, 0, 0, 0⟩) := by
  by_cases h : k < nodes.length
  · exact .inl ⟨k.toNat, _, by omega, List.getElem?_eq_getElem (by omega)⟩
  · have hn : nodes[k.toNat]? = none := List.getElem?_eq_none (by omega)
    exact .inr ⟨by omega, by unfold lvAt; rw [hn], by unfold bitsAt; rw [hn], by unfold cntAt; rw [hn], by unfold keyAt; rw [hn]⟩
section
variable (F : Nat → Prop) (p : Nat) (nodes : List Nd) (empty : List Int) (most : Int) (w : World) (A : Ar w F p nodes empty most)
include A
theorem level_walk (k : Int) (h0 : 0 ≤ k) (h1 : k < 4294967296) : Calls Try.prog 22 #[.pointer (some ⟨p, 0, none⟩), .int .u32 k] w fun e w' => e = .returned (.int .i64 (lvAt nodes k)) ∧ w = w' := by
  obtain ⟨⟨slots, nv, sv, ev, AR, _, _, _, _⟩, _, _⟩ := A
  rcases at_cases nodes k h0 with ⟨i, x, rfl, hx⟩ | ⟨hl, h2, _, _, _⟩
  · rw [lvAt_some (by rw [Int.toNat_natCast]; exact hx)]
    exact level_yes F p nodes slots empty most nv sv ev w AR i x hx
  · rw [h2]
    exact level_no F p nodes slots empty most nv sv ev w AR k h0 h1 hl
theorem bits_walk (k : Int) (h0 : 0 ≤ k) (h1 : k < 4294967296) : Calls Try.prog 48 #[.pointer (some ⟨p, 0, none⟩), .int .u32 k] w fun e w' => e = .returned (.int .u32 (bitsAt nodes k)) ∧ w = w' := by
  obtain ⟨⟨slots, nv, sv, ev, AR, _, _, _, _⟩, _, _⟩ := A
  rcases at_cases nodes k h0 with ⟨i, x, rfl, hx⟩ | ⟨hl, _, h2, _, _⟩
  · rw [bitsAt_some (by rw [Int.toNat_natCast]; exact hx)]
    exact bits_yes F p nodes slots empty most nv sv ev w AR i x hx
  · rw [h2]
    exact bits_no F p nodes slots empty most nv sv ev w AR k h0 h1 hl
theorem ncount_walk (k : Int) (h0 : 0 ≤ k) (h1 : k < 4294967296) : Calls Try.prog 24 #[.pointer (some ⟨p, 0, none⟩), .int .u32 k] w fun e w' => e = .returned (.int .u64 (cntAt nodes k)) ∧ w = w' := by
  obtain ⟨⟨slots, nv, sv, ev, AR, _, _, _, _⟩, _, _⟩ := A
  rcases at_cases nodes k h0 with ⟨i, x, rfl, hx⟩ | ⟨hl, _, _, h2, _⟩
  · rw [cntAt_some (by rw [Int.toNat_natCast]; exact hx)]
    exact count_yes F p nodes slots empty most nv sv ev w AR i x hx
  · rw [h2]
    exact count_no F p nodes slots empty most nv sv ev w AR k h0 h1 hl
theorem alen_walk : Calls Try.prog 76 #[.pointer (some ⟨p, 0, none⟩)] w fun e w' => e = .returned (.int .i64 nodes.length) ∧ w = w' := by
  obtain ⟨⟨slots, nv, sv, ev, AR, _, _, _, _⟩, _, _⟩ := A
  exact len_walk F p nodes slots empty most nv sv ev w AR
def kidsVal (k : Key) : Value := .agg #[.int .u32 k.k0, .int .u32 k.k1, .int .u32 k.k2, .int .u32 k.k3]
set_option maxRecDepth 100000 in
theorem kids_walk (k : Int) (h0 : 0 ≤ k) (h1 : k < 4294967296) : Calls Try.prog 47 #[.pointer (some ⟨p, 0, none⟩), .int .u32 k] w fun e w' => e = .returned (kidsVal (keyAt nodes k)) ∧ Below w.heap.size w w' := by
  obtain ⟨⟨slots, nv, sv, ev, AR, _, _, _, _⟩, _, _⟩ := A
  have AW := Aside0.mk (AR.below (below_alloc (Below.refl _ _) (.cells #[.int .u32 0, .int .u32 0, .int .u32 0, .int .u32 0] 89)))
  have HB := Aside0.mk (below_alloc (Below.refl w.heap.size w) (.cells #[.int .u32 0, .int .u32 0, .int .u32 0, .int .u32 0] 89))
  have BK := Aside0.mk (blk_new w (.cells #[.int .u32 0, .int .u32 0, .int .u32 0, .int .u32 0] 89))
  obtain ⟨g, hg⟩ : ∃ g, w.heap.size = g := ⟨_, rfl⟩
  rcases at_cases nodes k h0 with ⟨i, x, rfl, hx⟩ | ⟨hl, _, _, _, h2⟩
  · rw [keyAt_some (by rw [Int.toNat_natCast]; exact hx)]
    have hi := (List.getElem?_eq_some_iff.1 hx).1
    have hh := has_yes F p nodes slots empty most nv sv ev _ AW.out i hi
    obtain ⟨a, c, rfl⟩ := Kd.R_slice AR.hn
    have c0 := blk_cell AW.out.blk 0
    simp only [List.getElem?_toArray, List.getElem?_cons_zero] at c0
    obtain ⟨ad, rfl, ⟨n0, n1, n2, n3, n4, n5, n6⟩⟩ := AW.out.node_cells hx
    clear AR AW
    go_enter Try.func47, Try.ntmps47
    go_wp2_with (fail)
    change Calls _ _ _ (w.alloc (.cells #[.int .u32 0, .int .u32 0, .int .u32 0, .int .u32 0] 89)) _
    refine hh.mono ?_; rintro e w1 ⟨rfl, rfl⟩
    clear hh
    have z0 := blk_cell BK.out 0
    have z1 := blk_cell BK.out 1
    have z2 := blk_cell BK.out 2
    have z3 := blk_cell BK.out 3
    have y0 := blk_frozen BK.out 0
    have y1 := blk_frozen BK.out 1
    have y2 := blk_frozen BK.out 2
    have y3 := blk_frozen BK.out 3
    simp only [List.getElem?_toArray, List.getElem?_cons_zero, List.getElem?_cons_succ] at z0 z1 z2 z3
    simp only [hg] at z0 z1 z2 z3 y0 y1 y2 y3 HB ⊢
    have Hg := Aside0.mk hg
    clear hg
    generalize w.alloc (.cells #[.int .u32 0, .int .u32 0, .int .u32 0, .int .u32 0] 89) = W1 at *
    clear BK
    go_wp2_with (fail)
    refine bodyPost_ret (v := kidsVal x.key) (by simp [results, Try.results47, go_sem, *, kidsVal]) rfl ⟨rfl, ?_⟩
    rw [Hg.out]
    repeat (refine Below.setCell (p := ⟨g, _, none⟩) ?_ (Nat.le_refl g) _)
    exact HB.out
  · rw [h2]
    have hh := has_no F p nodes slots empty most nv sv ev _ AW.out k h0 h1 hl
    clear AR AW
    go_enter Try.func47, Try.ntmps47
    go_wp2_with (fail)
    change Calls _ _ _ (w.alloc (.cells #[.int .u32 0, .int .u32 0, .int .u32 0, .int .u32 0] 89)) _
    refine hh.mono ?_; rintro e w1 ⟨rfl, rfl⟩
    clear hh
    have z0 := blk_cell BK.out 0
    have z1 := blk_cell BK.out 1
    have z2 := blk_cell BK.out 2
    have z3 := blk_cell BK.out 3
    have y0 := blk_frozen BK.out 0
    have y1 := blk_frozen BK.out 1
    have y2 := blk_frozen BK.out 2
    have y3 := blk_frozen BK.out 3
    simp only [List.getElem?_toArray, List.getElem?_cons_zero, List.getElem?_cons_succ] at z0 z1 z2 z3
    simp only [hg] at z0 z1 z2 z3 y0 y1 y2 y3 HB ⊢
    have Hg := Aside0.mk hg
    clear hg
    generalize w.alloc (.cells #[.int .u32 0, .int .u32 0, .int .u32 0, .int .u32 0] 89) = W1 at *
    clear BK
    go_wp2_with (fail)
    refine bodyPost_ret (v := kidsVal ⟨0, 0, 0, 0, 0, 0⟩) (by simp [results, Try.results47, go_sem, *, kidsVal]) rfl ⟨rfl, ?_⟩
    rw [Hg.out]
    repeat (refine Below.setCell (p := ⟨g, _, none⟩) ?_ (Nat.le_refl g) _)
    exact HB.out
end
end Go.Proofs.Ytpmipllohiiocaa.ar
namespace Go.Proofs.Ytpmipllohiiocaa.ar
open Go.RowKit Go.Proofs.YtpmipllohiiocaaW.PrintWords Go.Proofs.YtpmipllohiiocaaW.PrintLast Go.Proofs.YtpmipllohiiocaaW.PrintMore Go.Proofs.Ytpmipllohiiocaa.bs Go.ChangeShapes Go.Proofs.Ytpmipllohiiocaa.lb

/-- new empty ones -/
theorem ArAt.new_empty {w w1 : World} {F F' : Nat → Prop} {p : Nat} {nodes : List Nd} {slots : List Nat} {empty empty' : List Int} {most : Int} {nv sv ev ev' : Value}
    (h : ArAt w F p nodes slots empty most nv sv ev) (hg : w.grownBy w1 ev.ownBlock) (hF : ∀ k, F k → F' k) (ho : Kd.R (Kd.int .u32) 33 w1 0 F' ev' empty')
    (hat : ev'.ownBlock = ev.ownBlock ∨ ∃ b, ev'.ownBlock = some b ∧ w.heap.size ≤ b) :
    ArAt (w1.setCell ⟨p, 2, none⟩ ev') F' p nodes slots empty' most nv sv ev' := by
  have hpn : some p ≠ ev.ownBlock := Kd.R_ne h.he h.blk (by decide)
  have hb := blk_grown h.blk hg hpn
  have hu : ∀ q, q ∈ 91 :: kNd.E → q ≠ 33 := by
    intro q hq
    simp only [List.mem_cons] at hq
    rcases hq with rfl | hq
    · decide
    · exact absurd hq (by simp [kNd, Kd.iso, Kd.pair, Kd.int, Kd.scalar])
  refine ⟨blk_put hb 2 _ rfl, ?_, ?_, Kd.R_set ho hb types_ne2 2 _, hF _ h.hF, ?_⟩
  · exact Kd.R_mono (Kd.R_set (Kd.R_over h.hn h.he hu hg) hb types_ne 2 _) hF
  · exact Kd.R_mono (Kd.R_set (Kd.R_grown2 h.hs rfl hg (fun k hk hk2 => h.apart k hk2.symm hk)) hb types_ne2 2 _) hF
  · intro k hk hk2
    rcases hat with e | ⟨b, e, hlt⟩
    · exact h.apart k hk (e ▸ hk2)
    · have h1 : b = k := by rw [e] at hk2; exact Option.some.inj hk2
      have h2 := Kd.R_lt h.hs k hk
      omega
theorem grown_alloc (w : World) (o : Obj) (row : Option Nat) : w.grownBy (w.alloc o) row := ⟨rfl, rfl, rfl, by simp, fun k hk _ => Below.heap_alloc w o k hk⟩
/-- a slice of numbers written out -/
theorem lit_slice (w : World) (ok : Nat → Prop) (xs : List Int) (hmax : xs.length ≤ maxLen) (hok : ok w.heap.size) :
    Kd.R (Kd.int .u32) 33 (w.alloc (.cells (xs.map (Value.int .u32)).toArray 33)) 0 ok (.slice (some ⟨w.heap.size, 0, none⟩) xs.length xs.length) xs := by
  refine Kd.R_of_own ⟨by simp [encs], .inr ⟨w.heap.size, xs.length, _, rfl, Nat.zero_le _, blk_new w _, Nat.le_refl _, hmax, by simp, ?_⟩⟩ (fun k hk => ?_)
  · rw [List.take_of_length_le (by simp)]; rfl
  · obtain rfl := Option.some.inj hk
    exact hok
def nd0 : Nd := ⟨leafKey 0, 0⟩
theorem add_first (mm : Int) (h : 64 ≤ mm) : addN [] mm (leafKey (0 : Nat)) (popN 32 0 : Nat) = ([nd0], 0, 0) := by
  unfold addN
  rw [show idx [] (leafKey (0 : Nat)) = none from rfl]
  simp only [List.length_nil]
  rw [if_neg (by omega), popN_zero]
  rfl
attribute [local go_sem] max_two min_two
set_option maxHeartbeats 1000000 in
theorem new_walk (most : Int) (hm : most ≤ 9223372036854775807) (w : World) :
    Calls Try.prog 36 #[.int .i64 most] w fun e w' => ∃ p, e = .returned (.pointer (some ⟨p, 0, none⟩)) ∧ Ar w' (fun k => w.heap.size ≤ k) p [nd0] [0, 0, 0] (max most 64) ∧ Below w.heap.size w w' := by
  obtain ⟨mm, hmm, hmax⟩ : ∃ mm : Int, max most 64 = mm ∧ Builtin.max2 (.int .i64 most) (.int .i64 64) = pure (.int .i64 mm) := ⟨_, rfl, by rw [max2_int]; congr 2; split <;> omega⟩
  have hm64 : 64 ≤ mm := by omega
  have HMM := Aside0.mk hmm
  clear hmm
  go_enter Try.func36, Try.ntmps36
  go_upto_region 2 with (first | ((with_reducible refine gate_dst (N := 6) rfl ?_); refine Kd.R_make (Kd.int .u32) (w0 := w) 0 33 rfl rfl 93 (.const (.int .i64 128)) (.const (.int .i64 128)) rfl 128 rfl rfl Try.underlying93 (.int .u32 0) 4 infoU rfl (by decide) (by decide) 0 (ok := fun k => w.heap.size ≤ k) (okp := fun _ => False) rfl (fun _ hk => hk.elim) (Nat.le_refl _) (by omega) (by omega) (Below.refl _ _) (Nat.zero_le _) ?_; intro v1 w1 ho1 hb1 hg1 hat1; rw [show (128 : Int).toNat = 128 by rfl, show List.replicate 128 (0 : Int) = ints (List.replicate 128 0) by simp [ints]] at ho1; obtain ⟨bs, cb, rfl, _, hbz, _⟩ := Kd.R_form ho1 (by rw [ints_len, List.length_replicate]; omega); simp only [ints_len, List.length_replicate] at ho1 ⊢; have HO := Aside0.mk ho1; have HG := Aside0.mk hg1; clear ho1 hb1 hg1 hat1))
  have hs1 := HG.out.size
  have AA : ArAt (w1.alloc (.cells #[.slice none 0 0, .slice (some ⟨bs, 0, none⟩) 128 cb, .slice none 0 0, .int .i64 mm] 95)) (fun k => w.heap.size ≤ k) w1.heap.size [] (List.replicate 128 0) [] mm (.slice none 0 0) (.slice (some ⟨bs, 0, none⟩) 128 cb) (.slice none 0 0) :=
    ⟨blk_new w1 _, Kd.R_nil _ _ _ _ _, Kd.R_below HO.out (below_alloc (Below.refl _ _) _), Kd.R_nil _ _ _ _ _, hs1, ne_nil' _⟩
  have A1 : Ar (w1.alloc (.cells #[.slice none 0 0, .slice (some ⟨bs, 0, none⟩) 128 cb, .slice none 0 0, .int .i64 mm] 95)) (fun k => w.heap.size ≤ k) w1.heap.size [] [] mm :=
    ⟨⟨_, _, _, _, AA, slotted_zeros (by omega) (fun i j x y hx => by simp at hx), by simp, by simp, by simp⟩, fun i x hx => by simp at hx, by simp⟩
  have K1 := Aside0.mk (((Keeps.refl (fun k => w.heap.size ≤ k) w).grown HG.out (fun _ hk => by cases hk)).alloc (.cells #[.slice none 0 0, .slice (some ⟨bs, 0, none⟩) 128 cb, .slice none 0 0, .int .i64 mm] 95))
  have hs2 : w.heap.size ≤ (w1.alloc (.cells #[.slice none 0 0, .slice (some ⟨bs, 0, none⟩) 128 cb, .slice none 0 0, .int .i64 mm] 95)).heap.size := by simp; omega
  have HLEAF := Aside0.mk (leaf_walk (fun k => w.heap.size ≤ k) w1.heap.size [] [] mm _ 0 (by omega) (by simp) A1)
  clear AA A1 HO HG
  obtain ⟨p, hp⟩ : ∃ p, w1.heap.size = p := ⟨_, rfl⟩
  simp only [hp] at HLEAF ⊢
  rw [hp] at hs1
  have HP := Aside0.mk hp
  clear hp
  change Code.wp _ _ _ _ (w1.alloc (.cells #[.slice none 0 0, .slice (some ⟨bs, 0, none⟩) 128 cb, .slice none 0 0, .int .i64 mm] 95))
  generalize w1.alloc (.cells #[.slice none 0 0, .slice (some ⟨bs, 0, none⟩) 128 cb, .slice none 0 0, .int .i64 mm] 95) = w2 at *
  go_wp2_with (fail)
  refine HLEAF.out.mono ?_
  rw [add_first mm hm64]
  rintro e w3 ⟨rfl, hA3, hk3⟩
  dsimp only at hA3 ⊢
  rw [show errOf 0 = .nilIface from rfl]
  obtain ⟨⟨slots, nv, sv, ev, AR, S, h1, h2, h3⟩, hok, hsz⟩ := hA3
  have A3 := Aside0.mk AR
  have HS := Aside0.mk S
  have K3 := Aside0.mk (K1.out.trans hk3 (fun k hk => .inl hk))
  clear AR S hk3 HLEAF K1
  have A4 := Aside0.mk (A3.out.below (below_alloc (Below.refl _ _) (.cells #[.int .u32 0, .int .u32 0, .int .u32 0] 33)))
  have A5 := Aside0.mk (ArAt.new_empty (F' := fun k => w.heap.size ≤ k) A3.out (grown_alloc w3 (.cells #[.int .u32 0, .int .u32 0, .int .u32 0] 33) _) (fun k hk => hk.elim id (fun h => Nat.le_trans hs2 h)) (lit_slice w3 _ [0, 0, 0] (by decide) K3.out.size) (.inr ⟨_, rfl, Nat.le_refl _⟩))
  have K5 := Aside0.mk (((K3.out.alloc (.cells #[.int .u32 0, .int .u32 0, .int .u32 0] 33))).setCell (p := ⟨p, 2, none⟩) (.inl hs1) (.slice (some ⟨w3.heap.size, 0, none⟩) 3 3))
  have c2 := blk_cell A4.out.blk 2
  have f2 := blk_frozen A4.out.blk 2
  simp only [List.getElem?_toArray, List.getElem?_cons_zero, List.getElem?_cons_succ] at c2
  clear A3 K3 A4
  go_wp2_with (fail)
  go_ret
  rw [HMM.out]
  exact ⟨p, rfl, ⟨⟨slots, _, _, _, A5.out, HS.out, h1, h2, h3⟩, hok, hsz⟩, K5.out.below (fun k hk => hk) (Nat.le_refl _)⟩
end Go.Proofs.Ytpmipllohiiocaa.ar
namespace Go.Proofs.Ytpmipllohiiocaa.ar
open Go.RowKit Go.Proofs.YtpmipllohiiocaaW.PrintWords Go.Proofs.YtpmipllohiiocaaW.PrintLast Go.Proofs.YtpmipllohiiocaaW.PrintMore Go.Proofs.Ytpmipllohiiocaa.bs Go.ChangeShapes Go.Proofs.Ytpmipllohiiocaa.lb

theorem addN_bd (nodes : List Nd) (most : Int) (k : Key) (c : Int) : (addN nodes most k c).1.length ≤ nodes.length + 1 ∧ 0 ≤ (addN nodes most k c).2.1 ∧ (addN nodes most k c).2.1 ≤ nodes.length := by
  unfold addN
  split
  · rename_i i h
    obtain ⟨x, hx, _⟩ := idx_some h
    have := (List.getElem?_eq_some_iff.1 hx).1
    exact ⟨by simp, by simp, by simp; omega⟩
  · split
    · exact ⟨by simp, by simp, by simp⟩
    · exact ⟨by simp, by simp, by simp⟩
theorem joinN_bd (nodes : List Nd) (most k0 k1 k2 k3 : Int) : (joinN nodes most k0 k1 k2 k3).1.length ≤ nodes.length + 1 ∧ 0 ≤ (joinN nodes most k0 k1 k2 k3).2.1 ∧ (joinN nodes most k0 k1 k2 k3).2.1 ≤ nodes.length := by
  unfold joinN
  split
  · split
    · exact ⟨by simp, by simp, by simp⟩
    · exact addN_bd _ _ _ _
  · exact ⟨by simp, by simp, by simp⟩
/-- so many levels more -/
def emptyGo (most level : Int) : Nat → List Nd → List Int → List Nd × List Int × Int × Int
  | 0, nodes, empty => (nodes, empty, empty.getD level.toNat 0, 0)
  | n + 1, nodes, empty =>
    let i := empty.getD (empty.length - 1) 0
    let r := joinN nodes most i i i i
    if r.2.2 = 0 then emptyGo most level n r.1 (empty ++ [r.2.1]) else (r.1, empty, 0, r.2.2)
def emptyN (nodes : List Nd) (empty : List Int) (most level : Int) : List Nd × List Int × Int × Int :=
  if level < 2 then (nodes, empty, 0, 4) else if 44 < level then (nodes, empty, 0, 7) else emptyGo most level (level.toNat + 1 - empty.length) nodes empty
def EmptyPost (F : Nat → Prop) (w : World) (p : Nat) (most : Int) (r : List Nd × List Int × Int × Int) (e : Ending) (w' : World) : Prop :=
  e = .returned (.tuple #[.int .u32 r.2.2.1, errOf r.2.2.2]) ∧ Ar w' (More F w) p r.1 r.2.1 most ∧ Keeps F w w'
theorem ArAt.empty_cell {w : World} {F : Nat → Prop} {p : Nat} {nodes : List Nd} {slots : List Nat} {empty : List Int} {most : Int} {nv sv : Value} {a : Option Addr} {n cn : Nat}
    (h : ArAt w F p nodes slots empty most nv sv (.slice a n cn)) {i : Nat} (hi : i < empty.length) :
    ∃ be, a = some ⟨be, 0, none⟩ ∧ n = empty.length ∧ w.cell? ⟨be, i, none⟩ = some (.int .u32 (empty.getD i 0)) := by
  obtain ⟨be, ce, hv, _⟩ := Kd.R_form h.he (by omega)
  injection hv with h1 h2 h3
  subst h1 h2 h3
  have := Kd.R_cell (enc := Value.int .u32) (h1 := fun _ => rfl) 0 h.he (i : Int) (by omega) (by omega)
  rw [Int.toNat_natCast] at this
  refine ⟨be, rfl, rfl, ?_⟩
  rw [this.1]
  rfl
structure EmOk (nodes : List Nd) (empty : List Int) : Prop where
  l0 : 3 ≤ empty.length
  l1 : empty.length ≤ 45
  bd : ∀ i, 0 ≤ empty.getD i 0 ∧ empty.getD i 0 < 4294967296
set_option maxHeartbeats 2000000 in
set_option maxRecDepth 100000 in
theorem empty_walk (F : Nat → Prop) (p : Nat) (nodes : List Nd) (empty : List Int) (most level : Int) (w : World) (E : EmOk nodes empty) (hN : nodes.length < 536870860) (A : Ar w F p nodes empty most) :
    Calls Try.prog 55 #[.pointer (some ⟨p, 0, none⟩), .int .i64 level] w fun e w' => EmptyPost F w p most (emptyN nodes empty most level) e w' := by
  by_cases h2 : level < 2
  · have hr : emptyN nodes empty most level = (nodes, empty, 0, 4) := if_pos h2
    rw [hr]
    go_enter Try.func55, Try.ntmps55
    go_wp2_with (fail)
    go_ret2
    exact ⟨rfl, A.mono (fun _ h => .inl h), Keeps.refl F w⟩
  · by_cases h44 : 44 < level
    · have hr : emptyN nodes empty most level = (nodes, empty, 0, 7) := by unfold emptyN; rw [if_neg h2, if_pos h44]
      rw [hr]
      go_enter Try.func55, Try.ntmps55
      go_wp2_with (fail)
      go_ret2
      exact ⟨rfl, A.mono (fun _ h => .inl h), Keeps.refl F w⟩
    · have hr : emptyN nodes empty most level = emptyGo most level (level.toNat + 1 - empty.length) nodes empty := by unfold emptyN; rw [if_neg h2, if_neg h44]
      rw [hr]
      clear hr
      generalize hR : emptyGo most level (level.toNat + 1 - empty.length) nodes empty = R at *
      have HR := Aside0.mk hR
      clear hR
      have hl0 := E.l0
      have hl1 := E.l1
      go_enter Try.func55, Try.ntmps55
      go_wp2_with (fail)
      obtain ⟨n0, hn0⟩ : ∃ n0, level.toNat + 1 - empty.length = n0 := ⟨_, rfl⟩
      rw [hn0] at HR
      have A0 := Aside0.mk (show Ar w (More F w) p nodes empty most from A.mono (fun _ h => .inl h))
      have EB := Aside0.mk E.bd
      have HN := Aside0.mk (show nodes.length + n0 < 536870912 by omega)
      have KK := Aside0.mk (Keeps.refl F w)
      clear hN A E
      go_loopg [6] n0 (fun kq c6 w' => ∃ (nodes' : List Nd) (em : List Int), level.toNat + 1 - em.length = kq ∧ 3 ≤ em.length ∧ em.length ≤ 45 ∧ Aside0 (∀ i, 0 ≤ em.getD i 0 ∧ em.getD i 0 < 4294967296) ∧ Aside0 (nodes'.length + kq < 536870912) ∧ Aside0 (emptyGo most level kq nodes' em = R) ∧ Aside0 (Ar w' (More F w) p nodes' em most) ∧ Aside0 (Keeps F w w'))
      case atStart => exact ⟨nodes, empty, hn0, hl0, hl1, EB, HN, HR, A0, KK⟩
      case round =>
        clear A0 EB HN KK HR hn0 hl0 hl1
        obtain ⟨nodes', em, hk, hl0, hl1, EB, HN, HR, A0, KK⟩ := hrel
        have HJ := Aside0.mk (fun (i : Int) (hi : 0 ≤ i ∧ i < 4294967296) (hN : nodes'.length < 536870912) (W : World) (AW : Ar W (More F w) p nodes' em most) => join_walk (More F w) p nodes' em most W i i i i hi hi hi hi hN AW)
        obtain ⟨⟨slots, nv, sv, ev, AR, S, h1, h2, h3⟩, hok, hsz⟩ := A0.out
        obtain ⟨a, cn, rfl⟩ := Kd.R_slice AR.he
        have c2 := blk_cell AR.blk 2
        simp only [List.getElem?_toArray, List.getElem?_cons_zero, List.getElem?_cons_succ] at c2
        obtain ⟨be, rfl, _, e1⟩ := AR.empty_cell (i := em.length - 1) (by omega)
        have hmx := Kd.C_max (Kd.R_reads' AR.he).2.2
        by_cases hlt : (em.length : Int) ≤ level
        · obtain ⟨gm, rfl⟩ : ∃ m, gk = m + 1 := ⟨gk - 1, by omega⟩
          have hbd := EB.out (em.length - 1)
          have hgo : emptyGo most level (gm + 1) nodes' em = (if (joinN nodes' most (em.getD (em.length - 1) 0) (em.getD (em.length - 1) 0) (em.getD (em.length - 1) 0) (em.getD (em.length - 1) 0)).2.2 = 0 then emptyGo most level gm (joinN nodes' most (em.getD (em.length - 1) 0) (em.getD (em.length - 1) 0) (em.getD (em.length - 1) 0) (em.getD (em.length - 1) 0)).1 (em ++ [(joinN nodes' most (em.getD (em.length - 1) 0) (em.getD (em.length - 1) 0) (em.getD (em.length - 1) 0) (em.getD (em.length - 1) 0)).2.1]) else ((joinN nodes' most (em.getD (em.length - 1) 0) (em.getD (em.length - 1) 0) (em.getD (em.length - 1) 0) (em.getD (em.length - 1) 0)).1, em, 0, (joinN nodes' most (em.getD (em.length - 1) 0) (em.getD (em.length - 1) 0) (em.getD (em.length - 1) 0) (em.getD (em.length - 1) 0)).2.2)) := rfl
          rw [hgo] at HR
          clear hgo
          generalize em.getD (em.length - 1) 0 = iv at *
          have hbJ := joinN_bd nodes' most iv iv iv iv
          have hJ := Aside0.mk (HJ.out iv hbd (by have := HN.out; omega))
          generalize joinN nodes' most iv iv iv iv = r at *
          clear HJ
          go_upto_region 6 with (fail)
          go_quiet (fail)
          go_wp2_with (fail)
          refine (hJ.out _ (A0.out.drewN nq)).mono ?_
          obtain ⟨r1, r2, r3⟩ := r
          have hsw := KK.out.size
          have KD := Aside0.mk (KK.out.drewN nq)
          rintro e w3 ⟨rfl, hA, hK⟩
          dsimp only at hA hbJ HR ⊢
          have A3 := Aside0.mk (hA.mono (F' := More F w) (fun k hk => hk.elim id (fun h => .inr (by rw [World.heap_drewN] at h; omega))))
          have K3 := Aside0.mk (KD.out.trans hK (fun k hk => hk))
          clear hA hK KD KK A0 AR c2 e1 hJ S
          by_cases h0 : r3 = 0
          · subst h0
            rw [show errOf 0 = .nilIface from rfl]
            rw [if_pos rfl] at HR
            obtain ⟨⟨slots3, nv3, sv3, ev3, AR3, S3, g1, g2, g3⟩, hok3, hsz3⟩ := A3.out
            obtain ⟨a3, c3, rfl⟩ := Kd.R_slice AR3.he
            have c2 := blk_cell AR3.blk 2
            simp only [List.getElem?_toArray, List.getElem?_cons_zero, List.getElem?_cons_succ] at c2
            have HE := Aside0.mk AR3.he
            have AR3' := Aside0.mk AR3
            have HPN := Aside0.mk (show some p ≠ (Value.slice a3 em.length c3).ownBlock from Kd.R_ne AR3.he AR3.blk (by decide))
            have HMF := Aside0.mk (show ∀ k, w3.heap.size ≤ k → More F w k from fun k hk => .inr (by have := K3.out.size; omega))
            clear AR3
            go_wp2_with (first | ((with_reducible refine gate_builtin (b := .append) (xs := #[.tmp 53, .tmp 55]) rfl ?_); at_builtin; refine Kd.R_append (Kd.int .u32) (w0 := w3) 0 rfl (.tmp 53) (.tmp 55) 93 33 (.int .u32 0) 4 rfl Try.underlying93 infoU rfl (by decide) (by decide) (.slice a3 em.length c3) em r2 [.int .u32 r2] (More F w) (fun _ => False) rfl rfl rfl (fun _ hk => hk.elim) HMF.out HE.out (Below.refl _ _) (Nat.zero_le _) (by omega) ?_; intro v1 w4 ho4 hb4 hg4 hat4; have c2' := (World.cell?_of_block (a := ⟨p, 2, none⟩) (hg4.block p AR3'.out.lt HPN.out)).trans c2; have f2' := (World.frozen?_of_block (a := ⟨p, 2, none⟩) (hg4.block p AR3'.out.lt HPN.out)).trans (blk_frozen AR3'.out.blk 2); have HO4 := Aside0.mk ho4; have HG4 := Aside0.mk hg4; have HAT := Aside0.mk hat4; clear ho4 hb4 hg4 hat4; obtain ⟨a4, c4, rfl⟩ := Kd.R_slice HO4.out))
            have A5 := ArAt.new_empty AR3'.out HG4.out (fun _ h => h) HO4.out HAT.out
            have K5 := Aside0.mk ((K3.out.grown HG4.out (fun k hk => (AR3'.out.he.1 k hk))).setCell (p := ⟨p, 2, none⟩) AR3'.out.hF (.slice a4 (em ++ [r2]).length c4))
            have A6 := Aside0.mk (show Ar _ (More F w) p r1 (em ++ [r2]) most from ⟨⟨slots3, _, _, _, A5, S3, g1, g2, g3⟩, hok3, hsz3⟩)
            clear A5
            rw [show (em ++ [r2]).length = em.length + 1 by simp] at A6 K5
            have hL := Aside0.mk (show (em ++ [r2]).length = em.length + 1 by simp)
            have hbn := HN.out
            have HN2 := Aside0.mk (show r1.length + gm < 536870912 by omega)
            have EB2 := Aside0.mk (show ∀ i, 0 ≤ (em ++ [r2]).getD i 0 ∧ (em ++ [r2]).getD i 0 < 4294967296 from fun i => by
              have h1 := EB.out i
              rw [List.getD_eq_getElem?_getD] at h1 ⊢
              rw [List.getElem?_append]
              split
              · exact h1
              · rw [List.getElem?_singleton]
                split
                · exact ⟨hbJ.2.1, by show r2 < 4294967296; omega⟩
                · exact ⟨by simp, by simp⟩)
            go_roundg gm
            case measure => omega
            case rel => exact ⟨r1, em ++ [r2], by rw [hL.out]; omega, by rw [hL.out]; omega, by rw [hL.out]; omega, EB2, HN2, HR, A6, K5⟩
          · as_aux_lemma =>
            rw [if_neg h0] at HR
            obtain ⟨ev3, hev⟩ : ∃ v, errOf r3 = v := ⟨_, rfl⟩
            have hev2 : ev3 = .iface 68 (.int .i64 r3) := by rw [← hev]; exact if_neg h0
            rw [hev, hev2]
            rw [hev2] at hev
            have HEV := Aside0.mk hev
            clear hev hev2
            go_wp2_with (fail)
            go_ret2
            rw [← HR.out]
            dsimp only
            rw [← HEV.out]
            exact ⟨rfl, A3.out, K3.out⟩
        · obtain rfl : gk = 0 := by omega
          obtain ⟨be', e', _, e2⟩ := AR.empty_cell (i := level.toNat) (by omega)
          obtain rfl : be = be' := by injection e' with e'; injection e'
          have hres : R = (nodes', em, em.getD level.toNat 0, 0) := HR.out.symm
          have HRES := Aside0.mk hres
          clear hres HR e' e1 HJ
          generalize em.getD level.toNat 0 = v at *
          go_wp2_with (fail)
          go_ret2
          rw [HRES.out]
          exact ⟨rfl, A0.out, KK.out⟩
end Go.Proofs.Ytpmipllohiiocaa.ar
namespace Go.Proofs.Ytpmipllohiiocaa.ar
open Go.RowKit Go.Proofs.YtpmipllohiiocaaW.PrintWords Go.Proofs.YtpmipllohiiocaaW.PrintLast Go.Proofs.YtpmipllohiiocaaW.PrintMore Go.Proofs.Ytpmipllohiiocaa.bs Go.ChangeShapes Go.Proofs.Ytpmipllohiiocaa.lb

/-- an arena whose blocks are all newer than the world w -/
structure Own (w w' : World) (p : Nat) (nodes : List Nd) (empty : List Int) (most : Int) : Prop where
  ar : Ar w' (fun k => w.heap.size ≤ k) p nodes empty most
  below : Below w.heap.size w w'
section
variable {w w1 w2 w3 : World} {p : Nat} {nodes nodes' : List Nd} {empty empty' : List Int} {most most' : Int}
theorem Own.step (h : Own w w2 p nodes empty most) (ha : Ar w3 (More (fun k => w.heap.size ≤ k) w2) p nodes' empty' most') (hk : Keeps (fun k => w.heap.size ≤ k) w2 w3) : Own w w3 p nodes' empty' most' :=
  ⟨ha.mono (fun _ hk => hk.elim id (fun hh => Nat.le_trans h.below.size hh)), h.below.trans (hk.below (fun _ hh => hh) h.below.size)⟩
theorem Own.next (h : Own w w2 p nodes empty most) (hb : Below w2.heap.size w2 w3) : Own w w3 p nodes empty most := ⟨h.ar.below hb, chain h.below hb h.below.size⟩
theorem Own.drewN (h : Own w w2 p nodes empty most) (n : Nat) : Own w (w2.drewN n) p nodes empty most := h.next (pw_below_drewN (Below.refl _ _) n)
theorem Own.elder (h : Own w1 w2 p nodes empty most) (hb : Below w.heap.size w w1) : Own w w2 p nodes empty most :=
  ⟨h.ar.mono (fun _ hk => Nat.le_trans hb.size hk), chain hb h.below hb.size⟩
theorem own_new (most : Int) (hm : most ≤ 9223372036854775807) (w : World) :
    Calls Try.prog 36 #[.int .i64 most] w fun e w' => ∃ p, e = .returned (.pointer (some ⟨p, 0, none⟩)) ∧ Own w w' p [nd0] [0, 0, 0] (max most 64) :=
  (new_walk most hm w).mono fun _ _ ⟨p, he, ha, hb⟩ => ⟨p, he, ha, hb⟩
theorem own_leaf (h : Own w w2 p nodes empty most) (f : Nat) (hf : f < 4294967296) (hN : nodes.length < 536870912) :
    Calls Try.prog 53 #[.pointer (some ⟨p, 0, none⟩), .int .u32 f] w2 fun e w' => e = .returned (.tuple #[.int .u32 (addN nodes most (leafKey f) (popN 32 f)).2.1, errOf (addN nodes most (leafKey f) (popN 32 f)).2.2]) ∧ Own w w' p (addN nodes most (leafKey f) (popN 32 f)).1 empty most :=
  (leaf_walk _ p nodes empty most w2 f hf hN h.ar).mono fun _ _ ⟨he, ha, hk⟩ => ⟨he, h.step ha hk⟩
theorem own_join (h : Own w w2 p nodes empty most) (k0 k1 k2 k3 : Int) (b0 : 0 ≤ k0 ∧ k0 < 4294967296) (b1 : 0 ≤ k1 ∧ k1 < 4294967296) (b2 : 0 ≤ k2 ∧ k2 < 4294967296) (b3 : 0 ≤ k3 ∧ k3 < 4294967296) (hN : nodes.length < 536870912) :
    Calls Try.prog 64 #[.pointer (some ⟨p, 0, none⟩), .agg #[.int .u32 k0, .int .u32 k1, .int .u32 k2, .int .u32 k3]] w2 fun e w' => e = .returned (.tuple #[.int .u32 (joinN nodes most k0 k1 k2 k3).2.1, errOf (joinN nodes most k0 k1 k2 k3).2.2]) ∧ Own w w' p (joinN nodes most k0 k1 k2 k3).1 empty most :=
  (join_walk _ p nodes empty most w2 k0 k1 k2 k3 b0 b1 b2 b3 hN h.ar).mono fun _ _ ⟨he, ha, hk⟩ => ⟨he, h.step ha hk⟩
theorem own_empty (h : Own w w2 p nodes empty most) (level : Int) (E : EmOk nodes empty) (hN : nodes.length < 536870860) :
    Calls Try.prog 55 #[.pointer (some ⟨p, 0, none⟩), .int .i64 level] w2 fun e w' => e = .returned (.tuple #[.int .u32 (emptyN nodes empty most level).2.2.1, errOf (emptyN nodes empty most level).2.2.2]) ∧ Own w w' p (emptyN nodes empty most level).1 (emptyN nodes empty most level).2.1 most :=
  (empty_walk _ p nodes empty most level w2 E hN h.ar).mono fun _ _ ⟨he, ha, hk⟩ => ⟨he, h.step ha hk⟩
theorem own_kids (h : Own w w2 p nodes empty most) (k : Int) (h0 : 0 ≤ k) (h1 : k < 4294967296) :
    Calls Try.prog 47 #[.pointer (some ⟨p, 0, none⟩), .int .u32 k] w2 fun e w' => e = .returned (kidsVal (keyAt nodes k)) ∧ Own w w' p nodes empty most :=
  (kids_walk _ p nodes empty most w2 h.ar k h0 h1).mono fun _ _ ⟨he, hb⟩ => ⟨he, h.next hb⟩
theorem own_level (h : Own w w2 p nodes empty most) (k : Int) (h0 : 0 ≤ k) (h1 : k < 4294967296) :
    Calls Try.prog 22 #[.pointer (some ⟨p, 0, none⟩), .int .u32 k] w2 fun e w' => e = .returned (.int .i64 (lvAt nodes k)) ∧ w2 = w' := level_walk _ p nodes empty most w2 h.ar k h0 h1
theorem own_bits (h : Own w w2 p nodes empty most) (k : Int) (h0 : 0 ≤ k) (h1 : k < 4294967296) :
    Calls Try.prog 48 #[.pointer (some ⟨p, 0, none⟩), .int .u32 k] w2 fun e w' => e = .returned (.int .u32 (bitsAt nodes k)) ∧ w2 = w' := bits_walk _ p nodes empty most w2 h.ar k h0 h1
theorem own_count (h : Own w w2 p nodes empty most) (k : Int) (h0 : 0 ≤ k) (h1 : k < 4294967296) :
    Calls Try.prog 24 #[.pointer (some ⟨p, 0, none⟩), .int .u32 k] w2 fun e w' => e = .returned (.int .u64 (cntAt nodes k)) ∧ w2 = w' := ncount_walk _ p nodes empty most w2 h.ar k h0 h1
theorem own_len (h : Own w w2 p nodes empty most) : Calls Try.prog 76 #[.pointer (some ⟨p, 0, none⟩)] w2 fun e w' => e = .returned (.int .i64 nodes.length) ∧ w2 = w' := alen_walk _ p nodes empty most w2 h.ar
theorem emOk0 (nodes : List Nd) : EmOk nodes [0, 0, 0] := ⟨by simp, by simp, fun i => by
  match i with
  | 0 => exact zero_bd
  | 1 => exact zero_bd
  | 2 => exact zero_bd
  | n + 3 => exact ⟨by simp, by simp⟩⟩
end
end Go.Proofs.Ytpmipllohiiocaa.ar
namespace Go.Proofs.Ytpmipllohiiocaa.ar
open Go.RowKit Go.Proofs.YtpmipllohiiocaaW.PrintWords Go.Proofs.YtpmipllohiiocaaW.PrintLast Go.Proofs.YtpmipllohiiocaaW.PrintMore Go.Proofs.Ytpmipllohiiocaa.bs Go.ChangeShapes Go.Proofs.Ytpmipllohiiocaa.lb

theorem ArAt.tight {w : World} {F : Nat → Prop} {p : Nat} {nodes : List Nd} {slots : List Nat} {empty : List Int} {most : Int} {nv sv ev : Value}
    (h : ArAt w F p nodes slots empty most nv sv ev) : ArAt w (fun k => F k ∧ k < w.heap.size) p nodes slots empty most nv sv ev :=
  ⟨h.blk, Kd.R_flat (fun h => h) h.hn (fun k hk hf => ⟨hf, Kd.R_lt h.hn k hk⟩), Kd.R_flat (fun h => h) h.hs (fun k hk hf => ⟨hf, Kd.R_lt h.hs k hk⟩), Kd.R_flat (fun h => h) h.he (fun k hk hf => ⟨hf, Kd.R_lt h.he k hk⟩), ⟨h.hF, h.lt⟩, h.apart⟩
theorem Ar.tight {w : World} {F : Nat → Prop} {p : Nat} {nodes : List Nd} {empty : List Int} {most : Int} (h : Ar w F p nodes empty most) : Ar w (fun k => F k ∧ k < w.heap.size) p nodes empty most := by
  obtain ⟨⟨slots, nv, sv, ev, AR, S, h1, h2, h3⟩, hok, hsz⟩ := h
  exact ⟨⟨slots, nv, sv, ev, AR.tight, S, h1, h2, h3⟩, hok, hsz⟩
theorem Ar.once {w : World} {F : Nat → Prop} {p : Nat} {nodes : List Nd} {empty : List Int} {most : Int} (h : Ar w F p nodes empty most) :
    ∀ (i j : Nat) (x y : Nd), nodes[i]? = some x → nodes[j]? = some y → x.key = y.key → i = j := by
  obtain ⟨⟨slots, nv, sv, ev, AR, S, h1, h2, h3⟩, hok, hsz⟩ := h
  exact S.once
structure Hold (w0 w : World) (F : Nat → Prop) (p : Nat) (nodes : List Nd) (empty : List Int) (most : Int) : Prop where
  ar : Ar w F p nodes empty most
  lo : ∀ k, F k → w0.heap.size ≤ k
  hi : ∀ k, F k → k < w.heap.size
/-- what a step leaves: the arena, its new blocks; all others as they were -/
structure Onto (w0 w2 w3 : World) (F F' : Nat → Prop) (p : Nat) (nodes : List Nd) (empty : List Int) (most : Int) : Prop where
  hold : Hold w0 w3 F' p nodes empty most
  old : ∀ k, k < w2.heap.size → (F' k ↔ F k)
  keeps : Keeps F w2 w3
section
variable {w0 w w1 w2 w3 : World} {F G : Nat → Prop} {p : Nat} {nodes nodes' : List Nd} {empty empty' : List Int} {most most' : Int}
theorem Hold.step (h : Hold w0 w2 F p nodes empty most) (h0 : w0.heap.size ≤ w2.heap.size) (ha : Ar w3 (More F w2) p nodes' empty' most') (hk : Keeps F w2 w3) : ∃ F', Onto w0 w2 w3 F F' p nodes' empty' most' :=
  ⟨fun k => More F w2 k ∧ k < w3.heap.size, ⟨ha.tight, fun k hk => hk.1.elim (h.lo k) (fun hh => Nat.le_trans h0 hh), fun k hk => hk.2⟩,
    fun k hk2 => ⟨fun hh => hh.1.elim id (fun h2 => absurd h2 (by omega)), fun hh => ⟨.inl hh, Nat.lt_of_lt_of_le hk2 hk.size⟩⟩, hk⟩
/-- all else that a call does: no block of the arena is written -/
theorem Hold.kept (h : Hold w0 w2 F p nodes empty most) (hk : Kept w2 w3 G) (hd : ∀ k, F k → ¬ G k) : Hold w0 w3 F p nodes empty most :=
  ⟨h.ar.kept hk hd, h.lo, fun k hf => Nat.lt_of_lt_of_le (h.hi k hf) hk.1⟩
theorem Hold.below (h : Hold w0 w2 F p nodes empty most) (hb : Below w2.heap.size w2 w3) : Hold w0 w3 F p nodes empty most :=
  ⟨h.ar.below hb, h.lo, fun k hf => Nat.lt_of_lt_of_le (h.hi k hf) hb.size⟩
theorem Hold.drewN (h : Hold w0 w2 F p nodes empty most) (n : Nat) : Hold w0 (w2.drewN n) F p nodes empty most := h.below (pw_below_drewN (Below.refl _ _) n)
theorem Hold.elder (h : Hold w1 w2 F p nodes empty most) (hs : w0.heap.size ≤ w1.heap.size) : Hold w0 w2 F p nodes empty most := ⟨h.ar, fun k hk => Nat.le_trans hs (h.lo k hk), h.hi⟩
theorem Hold.belowK (h : Hold w0 w2 F p nodes empty most) (hb : Below w0.heap.size w0 w2) (hk : Keeps F w2 w3) : Below w0.heap.size w0 w3 := hb.trans (hk.below h.lo hb.size)
theorem hold_new (most : Int) (hm : most ≤ 9223372036854775807) (w : World) :
    Calls Try.prog 36 #[.int .i64 most] w fun e w' => ∃ p F, e = .returned (.pointer (some ⟨p, 0, none⟩)) ∧ Hold w w' F p [nd0] [0, 0, 0] (max most 64) ∧ Below w.heap.size w w' :=
  (new_walk most hm w).mono fun _ _ ⟨p, he, ha, hb⟩ => ⟨p, _, he, ⟨ha.tight, fun _ hk => hk.1, fun _ hk => hk.2⟩, hb⟩
theorem hold_leaf (h : Hold w0 w2 F p nodes empty most) (h0 : w0.heap.size ≤ w2.heap.size) (f : Nat) (hf : f < 4294967296) (hN : nodes.length < 536870912) :
    Calls Try.prog 53 #[.pointer (some ⟨p, 0, none⟩), .int .u32 f] w2 fun e w' => e = .returned (.tuple #[.int .u32 (addN nodes most (leafKey f) (popN 32 f)).2.1, errOf (addN nodes most (leafKey f) (popN 32 f)).2.2]) ∧ ∃ F', Onto w0 w2 w' F F' p (addN nodes most (leafKey f) (popN 32 f)).1 empty most :=
  (leaf_walk _ p nodes empty most w2 f hf hN h.ar).mono fun _ _ ⟨he, ha, hk⟩ => ⟨he, h.step h0 ha hk⟩
theorem hold_join (h : Hold w0 w2 F p nodes empty most) (h0 : w0.heap.size ≤ w2.heap.size) (k0 k1 k2 k3 : Int) (b0 : 0 ≤ k0 ∧ k0 < 4294967296) (b1 : 0 ≤ k1 ∧ k1 < 4294967296) (b2 : 0 ≤ k2 ∧ k2 < 4294967296) (b3 : 0 ≤ k3 ∧ k3 < 4294967296) (hN : nodes.length < 536870912) :
    Calls Try.prog 64 #[.pointer (some ⟨p, 0, none⟩), .agg #[.int .u32 k0, .int .u32 k1, .int .u32 k2, .int .u32 k3]] w2 fun e w' => e = .returned (.tuple #[.int .u32 (joinN nodes most k0 k1 k2 k3).2.1, errOf (joinN nodes most k0 k1 k2 k3).2.2]) ∧ ∃ F', Onto w0 w2 w' F F' p (joinN nodes most k0 k1 k2 k3).1 empty most :=
  (join_walk _ p nodes empty most w2 k0 k1 k2 k3 b0 b1 b2 b3 hN h.ar).mono fun _ _ ⟨he, ha, hk⟩ => ⟨he, h.step h0 ha hk⟩
theorem hold_empty (h : Hold w0 w2 F p nodes empty most) (h0 : w0.heap.size ≤ w2.heap.size) (level : Int) (E : EmOk nodes empty) (hN : nodes.length < 536870860) :
    Calls Try.prog 55 #[.pointer (some ⟨p, 0, none⟩), .int .i64 level] w2 fun e w' => e = .returned (.tuple #[.int .u32 (emptyN nodes empty most level).2.2.1, errOf (emptyN nodes empty most level).2.2.2]) ∧ ∃ F', Onto w0 w2 w' F F' p (emptyN nodes empty most level).1 (emptyN nodes empty most level).2.1 most :=
  (empty_walk _ p nodes empty most level w2 E hN h.ar).mono fun _ _ ⟨he, ha, hk⟩ => ⟨he, h.step h0 ha hk⟩
end
end Go.Proofs.Ytpmipllohiiocaa.ar
