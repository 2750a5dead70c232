/- The walk over tree.Build: the root of a set. -/
import Derived.Test.YtpmipllohiiocaaMTr
import Derived.Deep.RegionHeldLaw
import Derived.BigRegion
import Derived.Deep.RegionHeld3
namespace Go.Proofs.Ytpmipllohiiocaa.tr
open Go.RowKit Go.Proofs.Ytpmipllohiiocaa.PTreeBuilds Go.Proofs.YtpmipllohiiocaaW.PrintWords Go.Proofs.YtpmipllohiiocaaW.PrintLast Go.Proofs.YtpmipllohiiocaaW.PrintMore Go.Proofs.Ytpmipllohiiocaa.bs Go.ChangeShapes Go.Proofs.Ytpmipllohiiocaa.lb Go.Proofs.Ytpmipllohiiocaa.ar Go.Maps

/-- the kids' least points, as far as they are laid -/
def lowV (i k : Nat) (x : Int) : Value := .int .i64 (if k < i then x else 0)
def lowsC (la lb H : Int) (i : Nat) : Array Value := #[lowV i 0 (lowA la H 0), lowV i 0 (lowB lb H 0), lowV i 1 (lowA la H 1), lowV i 1 (lowB lb H 1), lowV i 2 (lowA la H 2), lowV i 2 (lowB lb H 2), lowV i 3 (lowA la H 3), lowV i 3 (lowB lb H 3)]
/-- the points, quarter by quarter, in an array of slices -/
structure PartsAt (w : World) (g base : Nat) (vs : List Value) (Ps : Nat → List Pt) : Prop where
  blk : w.heap[g]? = some (.cells vs.toArray 121 (0, 0))
  len : vs.length = 4
  rows : ∀ (k : Nat) (v : Value), vs[k]? = some v → Kd.R k32 32 w base (fun b => base ≤ b) v (Ps k)
  ne : ∀ (k l : Nat) (v u : Value), vs[k]? = some v → vs[l]? = some u → k ≠ l → NeRow v u
  lt : g < base
theorem PartsAt.below {w w1 : World} {g base : Nat} {vs : List Value} {Ps : Nat → List Pt} (h : PartsAt w g base vs Ps) (hb : Below w.heap.size w w1) : PartsAt w1 g base vs Ps :=
  ⟨blk_below h.blk hb, h.len, fun k v hv => Kd.R_below (h.rows k v hv) hb, h.ne, h.lt⟩
theorem PartsAt.append {w w1 : World} {g base i : Nat} {vs : List Value} {Ps : Nat → List Pt} {v v1 : Value} {l : List Pt} (h : PartsAt w g base vs Ps) (hv : vs[i]? = some v) (hr : Kd.R k32 32 w1 base (fun b => base ≤ b) v1 l) (hg : w.grownBy w1 v.ownBlock) (hat : v1.ownBlock = v.ownBlock ∨ ∃ b, v1.ownBlock = some b ∧ w.heap.size ≤ b) :
    PartsAt (w1.setCell ⟨g, i, none⟩ v1) g base (vs.set i v1) (fun k => if k = i then l else Ps k) := by
  have hi : i < vs.length := (List.getElem?_eq_some_iff.1 hv).1
  have hgv : some g ≠ v.ownBlock := fun e => by
    have := Kd.R_base (h.rows i v hv) g e.symm
    have := h.lt
    omega
  have hset : ∀ (k : Nat) (u : Value), (vs.set i v1)[k]? = some u → (k = i ∧ u = v1) ∨ (k ≠ i ∧ vs[k]? = some u) := by
    intro k u hu
    by_cases e : k = i
    · subst e
      rw [List.getElem?_set_self hi] at hu
      exact .inl ⟨rfl, (Option.some.inj hu).symm⟩
    · rw [List.getElem?_set_ne (Ne.symm e)] at hu
      exact .inr ⟨e, hu⟩
  have hne1 : ∀ (k : Nat) (u : Value), k ≠ i → vs[k]? = some u → NeRow v1 u := by
    intro k u e hu
    obtain ⟨inner, ho⟩ := Kd.R_own (h.rows k u hu)
    exact ne_append (h.ne i k v u hv hu (Ne.symm e)) hat ho
  refine ⟨?_, by rw [List.length_set]; exact h.len, fun k u hu => ?_, fun k l' u u' hu hu' e => ?_, h.lt⟩
  · rw [show (vs.set i v1).toArray = vs.toArray.setIfInBounds i v1 by simp]
    exact blk_set ((hg.block g (blk_lt h.blk) hgv).trans h.blk) i v1
  · rcases hset k u hu with ⟨rfl, rfl⟩ | ⟨e, hu⟩
    · rw [if_pos rfl]
      exact Kd.R_far (p := ⟨g, k, none⟩) hr (fun b hb => by have := h.lt; show b ≠ g; omega) u
    · rw [if_neg e]
      have h1 : Kd.R k32 32 w base (fun b => base ≤ b ∧ some b ≠ v.ownBlock) u (Ps k) := Kd.R_flat (fun h => h) (h.rows k u hu) (fun b hb hok => ⟨hok, fun e2 => h.ne k i u v hu hv e b hb e2.symm⟩)
      exact Kd.R_far (p := ⟨g, i, none⟩) (Kd.R_mono (Kd.R_grown h1 hg (fun b hb => hb.2)) (fun b hb => hb.1)) (fun b hb => by have := h.lt; show b ≠ g; omega) v1
  · rcases hset k u hu with ⟨rfl, rfl⟩ | ⟨e1, hu1⟩ <;> rcases hset l' u' hu' with ⟨rfl, rfl⟩ | ⟨e2, hu2⟩
    · exact absurd rfl e
    · exact hne1 l' u' e2 hu2
    · exact ne_symm (hne1 k u e1 hu1)
    · exact h.ne k l' u u' hu1 hu2 e
theorem parts_nil (H la lb : Int) (w : World) (g base : Nat) (hb : w.heap[g]? = some (.cells #[.slice none 0 0, .slice none 0 0, .slice none 0 0, .slice none 0 0] 121 (0, 0))) (hl : g < base) :
    PartsAt w g base [.slice none 0 0, .slice none 0 0, .slice none 0 0, .slice none 0 0] (part H la lb []) := by
  have hall : ∀ (k : Nat) (v : Value), ([.slice none 0 0, .slice none 0 0, .slice none 0 0, .slice none 0 0] : List Value)[k]? = some v → v = .slice none 0 0 := by
    intro k v hv
    have := List.mem_of_getElem? hv
    simpa using this
  refine ⟨hb, rfl, fun k v hv => ?_, fun k l v u hv hu _ => ?_, hl⟩
  · rw [hall k v hv]; exact Kd.R_nil _ _ _ _ _
  · rw [hall k v hv]; exact ne_nil u
theorem PartsAt.congr {w : World} {g base : Nat} {vs : List Value} {Ps Ps' : Nat → List Pt} (h : PartsAt w g base vs Ps) (e : ∀ k, Ps k = Ps' k) : PartsAt w g base vs Ps' := by
  rw [show Ps' = Ps from funext fun k => (e k).symm]; exact h
theorem PartsAt.cell {w : World} {g base i : Nat} {vs : List Value} {Ps : Nat → List Pt} (h : PartsAt w g base vs Ps) (hi : i < 4) : ∃ A c, vs[i]? = some (.slice A (Ps i).length c) ∧ w.cell? ⟨g, i, none⟩ = some (.slice A (Ps i).length c) := by
  have hlt : i < vs.length := by rw [h.len]; exact hi
  have he := List.getElem?_eq_getElem hlt
  obtain ⟨A, c, hv⟩ := Kd.R_slice (h.rows i _ he)
  refine ⟨A, c, by rw [← hv]; exact he, ?_⟩
  rw [blk_cell h.blk i, ← hv]
  simp only [List.getElem?_toArray]
  exact he
theorem lowsC_step (la lb H : Int) (i : Nat) (hi : i < 4) : ((lowsC la lb H i).setIfInBounds (i * 2) (.int .i64 (lowA la H i))).setIfInBounds (i * 2 + 1) (.int .i64 (lowB lb H i)) = lowsC la lb H (i + 1) := by
  have h4 : i = 0 ∨ i = 1 ∨ i = 2 ∨ i = 3 := by omega
  rcases h4 with rfl | rfl | rfl | rfl <;> simp [lowsC, lowV]
theorem lowA_wrap (la H : Int) (i : Nat) (h : -8796093022208 ≤ la ∧ la + 2 * H ≤ 8796093022208) (hH : 1 ≤ H) : wrap64 (la + wrap64 (H * Go.bits .and .i64 (i : Int) 1)) = lowA la H i := by
  rw [bs.and1]
  unfold lowA
  have e : ((i : Int) % 2) = ((i % 2 : Nat) : Int) := by omega
  rw [e]
  have h2 : i % 2 = 0 ∨ i % 2 = 1 := by omega
  rcases h2 with h2 | h2 <;> rw [h2]
  · rw [show H * ((0 : Nat) : Int) = 0 by simp, w64 0 (by omega), w64 _ (by omega)]
  · rw [show H * ((1 : Nat) : Int) = H by simp, w64 H (by omega), w64 _ (by omega)]
theorem lowB_wrap (lb H : Int) (i : Nat) (hi : i < 4) (h : -8796093022208 ≤ lb ∧ lb + 2 * H ≤ 8796093022208) (hH : 1 ≤ H) : wrap64 (lb + wrap64 (H * ((i : Int) / 2))) = lowB lb H i := by
  unfold lowB
  have e : ((i : Int) / 2) = ((i / 2 : Nat) : Int) := by omega
  rw [e]
  have h2 : i / 2 = 0 ∨ i / 2 = 1 := by omega
  rcases h2 with h2 | h2 <;> rw [h2]
  · rw [show H * ((0 : Nat) : Int) = 0 by simp, w64 0 (by omega), w64 _ (by omega)]
  · rw [show H * ((1 : Nat) : Int) = H by simp, w64 H (by omega), w64 _ (by omega)]
theorem PartsAt.other {w w1 : World} {S : Nat → Prop} {g base : Nat} {vs : List Value} {Ps : Nat → List Pt} (h : PartsAt w g base vs Ps) (hk : Keeps S w w1) (hd : ∀ k, g ≤ k → k < w.heap.size → ¬ S k) : PartsAt w1 g base vs Ps :=
  ⟨(hk.block g (blk_lt h.blk) (hd g (Nat.le_refl _) (blk_lt h.blk))).trans h.blk, h.len, fun k v hv => Kd.R_step (h.rows k v hv) (fun b hb hlt => hk.block b hlt (hd b (by have := h.lt; omega) hlt)), h.ne, h.lt⟩
theorem lowsC_get (la lb H : Int) (i : Nat) (hi : i < 4) : (lowsC la lb H 4)[i * 2]? = some (.int .i64 (lowA la H i)) ∧ (lowsC la lb H 4)[i * 2 + 1]? = some (.int .i64 (lowB lb H i)) := by
  have h4 : i = 0 ∨ i = 1 ∨ i = 2 ∨ i = 3 := by omega
  rcases h4 with rfl | rfl | rfl | rfl <;> exact ⟨rfl, rfl⟩
/-- the cells of an array of nodes -/
def nodC (ks : List Nat) : Array Value := (ks.map fun (n : Nat) => Value.int .u32 (n : Int)).toArray
theorem nodC_get (ks : List Nat) (j : Nat) (h : j < ks.length) : (nodC ks)[j]? = some (.int .u32 ((ks.getD j 0 : Nat) : Int)) := by
  simp [nodC, List.getD_eq_getElem?_getD, h]
theorem nodC_set (ks : List Nat) (j x : Nat) : (nodC ks).setIfInBounds j (.int .u32 (x : Int)) = nodC (ks.set j x) := by simp [nodC, List.map_set]
theorem getD_same (ks : List Nat) (j x : Nat) (h : j < ks.length) : (ks.set j x).getD j 0 = x := by simp [List.getD_eq_getElem?_getD, h]
theorem getD_other (ks : List Nat) (j t x : Nat) (h : t ≠ j) : (ks.set j x).getD t 0 = ks.getD t 0 := by
  rw [List.getD_eq_getElem?_getD, List.getD_eq_getElem?_getD, List.getElem?_set_ne (Ne.symm h)]
theorem kids_have {nodes : List Nd} {G : Int → Int → Int} {n : Nat} {la lb : Int} (h : ∃ j, Rep nodes (.node (kidQ G n la lb 0) (kidQ G n la lb 1) (kidQ G n la lb 2) (kidQ G n la lb 3)) j) : ∀ t, t < 4 → ∃ j, Rep nodes (kidQ G n la lb t) j := by
  obtain ⟨j, k0, k1, k2, k3, _, h0, h1, h2, h3, _⟩ := h
  intro t ht
  have h4 : t = 0 ∨ t = 1 ∨ t = 2 ∨ t = 3 := by omega
  rcases h4 with rfl | rfl | rfl | rfl
  · exact ⟨_, h0⟩
  · exact ⟨_, h1⟩
  · exact ⟨_, h2⟩
  · exact ⟨_, h3⟩
def hiddenSl (t : TypeId) (x : Operand) : Op := .load t x
attribute [local go_sem] hiddenSl
theorem infoP : (Try.prog.info? 32).map (fun i => (i.zero, i.size, i.bytes)) = some (some (.agg #[.int .i64 0, .int .i64 0]), 2, 16) := by kernel_rfl
section
variable {w0 w w1 w2 w3 : World} {F F' F2 S : Nat → Prop} {p : Nat} {nodes nodes' nodes2 : List Nd} {empty empty' empty2 : List Int} {most : Int} {M nm : Nat} {D : DataW Unit} {G : Int → Int → Int}
set_option maxRecDepth 100000 in
set_option maxHeartbeats 4000000 in
theorem build_node (hI : BdIn w0 w F p nodes empty most M nm D G) (n : Nat) (hn : n ≤ 41) (pts : List Pt) (A : Option Addr) (c : Nat) (hC : Kd.C k32 w A pts.length pts) (hp : 0 < pts.length) (la lb : Int) (hP : PtsOk G (n + 1) la lb pts)
    (ha : la % 4 = 0) (hb : lb % 4 = 0) (hla : -8796093022208 ≤ la ∧ la + 2 ^ (n + 3) ≤ 8796093022208) (hlb : -8796093022208 ≤ lb ∧ lb + 2 ^ (n + 3) ≤ 8796093022208) (hpl : pts.length ≤ 1000000)
    (hN : nodes.length + pts.length * (n + 2) + 45 < 536870800 + empty.length)
    (ih : ∀ (i : Nat) (F' : Nat → Prop) (nodes' : List Nd) (empty' : List Int) (A' : Option Addr) (c' : Nat) (w' : World), i < 4 → BdIn w0 w' F' p nodes' empty' most M nm D G → Kd.C k32 w' A' (part (2 ^ (n + 2)) la lb pts i).length (part (2 ^ (n + 2)) la lb pts i) →
      nodes'.length + (part (2 ^ (n + 2)) la lb pts i).length * (n + 1) + 45 < 536870800 + empty'.length →
      Calls Try.prog 57 #[.pointer (some ⟨p, 0, none⟩), .int .i64 ((n : Int) + 2), .agg #[.int .i64 (lowA la (2 ^ (n + 2)) i), .int .i64 (lowB lb (2 ^ (n + 2)) i)], .slice A' (part (2 ^ (n + 2)) la lb pts i).length c', .map (some M)] w' fun e w'' => Gets w0 w' F' p nodes' empty' most (kidQ G n la lb i) ((part (2 ^ (n + 2)) la lb pts i).length * (n + 1)) (∃ j, Rep nodes' (kidQ G n la lb i) j) e w'') :
    Calls Try.prog 57 #[.pointer (some ⟨p, 0, none⟩), .int .i64 ((n : Int) + 3), .agg #[.int .i64 la, .int .i64 lb], .slice A pts.length c, .map (some M)] w fun e w' => Gets w0 w F p nodes empty most (canQ (fun a b => (G a b).toNat) (n + 1) la lb) (pts.length * (n + 2)) (∃ i, Rep nodes (canQ (fun a b => (G a b).toNat) (n + 1) la lb) i) e w' := by
  obtain ⟨ad, rfl, _⟩ := at_T32 hC 0 (by omega) (by omega)
  have hne : (((pts.length : Nat) : Int) == 0) = false := by rw [beq_eq_false_iff_ne]; omega
  have hne2 : (((n : Int) + 3) == 2) = false := by rw [beq_eq_false_iff_ne]; omega
  have e3 : (2 : Int) ^ (n + 3) = 2 * 2 ^ (n + 2) := two_succ (n + 2)
  have hH := pw_bd (show n + 2 ≤ 44 by omega)
  unfold pw at hH
  have hsh : shl .i64 1 ((n : Int) + 2) = 2 ^ (n + 2) := by have := shl_one (n + 2) (by omega); unfold pw at this; rw [← this]; congr 1
  have HI := Aside0.mk hI
  have HC := Aside0.mk hC
  have HP := Aside0.mk hP
  have HIH := Aside0.mk ih
  have HN := Aside0.mk hN
  have HMOD := Aside0.mk (And.intro ha hb)
  have hq : ∀ (pt : Pt) (w : World), Calls Try.prog 46 #[.int .i64 ((n : Int) + 3), .agg #[.int .i64 la, .int .i64 lb], .agg #[.int .i64 pt.f0, .int .i64 pt.f1]] w fun e w' => ∃ a b : Int, e = .returned (.tuple #[.int .i64 (qi (2 ^ (n + 2)) la lb pt : Nat), .agg #[.int .i64 a, .int .i64 b]]) ∧ Below w.heap.size w w' := fun pt w => by
    have h := quarter_walk (n + 2) (by omega) la lb pt.f0 pt.f1 (by omega) (by omega) w
    rw [show (((n + 2 : Nat) : Int) + 1) = (n : Int) + 3 by omega] at h
    refine h.mono fun e w' ⟨he, hb⟩ => ⟨(quart (pw (n + 2)) la lb pt.f0 pt.f1).2.1, (quart (pw (n + 2)) la lb pt.f0 pt.f1).2.2, ?_, hb⟩
    rw [he, qi_val]
    rfl
  rw [canQ_kids]
  obtain ⟨H, hHe⟩ : ∃ H : Int, (2 : Int) ^ (n + 2) = H := ⟨_, rfl⟩
  have HH := Aside0.mk hHe
  rw [hHe] at HIH hH hsh e3
  simp only [hHe] at hq
  rw [e3] at hla hlb
  clear hI hC hP ih hN ha hb hHe e3
  go_enter Try.func57, Try.ntmps57
  go_wp2_with (fail)
  have KL := Aside0.mk (blk_below (blk_below (blk_new w (.cells #[.int .i64 la, .int .i64 lb] 32)) (below_alloc (Below.refl _ _) (.cells #[.slice none 0 0, .slice none 0 0, .slice none 0 0, .slice none 0 0] 121))) (below_alloc (Below.refl _ _) (.cells #[.int .i64 0, .int .i64 0, .int .i64 0, .int .i64 0, .int .i64 0, .int .i64 0, .int .i64 0, .int .i64 0] 122)))
  have KG := Aside0.mk (blk_below (blk_new (w.alloc (.cells #[.int .i64 la, .int .i64 lb] 32)) (.cells #[.slice none 0 0, .slice none 0 0, .slice none 0 0, .slice none 0 0] 121)) (below_alloc (Below.refl _ _) (.cells #[.int .i64 0, .int .i64 0, .int .i64 0, .int .i64 0, .int .i64 0, .int .i64 0, .int .i64 0, .int .i64 0] 122)))
  have KW := Aside0.mk (blk_new ((w.alloc (.cells #[.int .i64 la, .int .i64 lb] 32)).alloc (.cells #[.slice none 0 0, .slice none 0 0, .slice none 0 0, .slice none 0 0] 121)) (.cells #[.int .i64 0, .int .i64 0, .int .i64 0, .int .i64 0, .int .i64 0, .int .i64 0, .int .i64 0, .int .i64 0] 122))
  have HB := Aside0.mk (below_alloc (below_alloc (below_alloc (Below.refl w.heap.size w) (.cells #[.int .i64 la, .int .i64 lb] 32)) (.cells #[.slice none 0 0, .slice none 0 0, .slice none 0 0, .slice none 0 0] 121)) (.cells #[.int .i64 0, .int .i64 0, .int .i64 0, .int .i64 0, .int .i64 0, .int .i64 0, .int .i64 0, .int .i64 0] 122))
  rw [World.size_alloc] at KG KW
  rw [World.size_alloc] at KW
  obtain ⟨L0, hL0⟩ : ∃ x, w.heap.size = x := ⟨_, rfl⟩
  obtain ⟨g, hg⟩ : ∃ x, L0 + 1 = x := ⟨_, rfl⟩
  obtain ⟨W, hW⟩ : ∃ x, g + 1 = x := ⟨_, rfl⟩
  have HLT := Aside0.mk (And.intro hL0 (And.intro hg hW))
  have HW4 := Aside0.mk (show (((w.alloc (.cells #[.int .i64 la, .int .i64 lb] 32)).alloc (.cells #[.slice none 0 0, .slice none 0 0, .slice none 0 0, .slice none 0 0] 121)).alloc (.cells #[.int .i64 0, .int .i64 0, .int .i64 0, .int .i64 0, .int .i64 0, .int .i64 0, .int .i64 0, .int .i64 0] 122)).heap.size = W + 1 by simp; omega)
  simp only [hL0, hg, hW] at KL KG KW HB ⊢
  generalize ((w.alloc (.cells #[.int .i64 la, .int .i64 lb] 32)).alloc (.cells #[.slice none 0 0, .slice none 0 0, .slice none 0 0, .slice none 0 0] 121)).alloc (.cells #[.int .i64 0, .int .i64 0, .int .i64 0, .int .i64 0, .int .i64 0, .int .i64 0, .int .i64 0, .int .i64 0] 122) = wA at *
  have HQ := Aside0.mk hq
  clear hL0 hg hW hq
  go_loopg [42] 4 (fun kq c42 w' => ∃ (i : Nat), i + kq = 4 ∧ c42 = .int .i64 i ∧ Aside0 (w'.heap[W]? = some (.cells (lowsC la lb H i) 122 (0, 0))) ∧ Aside0 (w'.heap[L0]? = some (.cells #[.int .i64 la, .int .i64 lb] 32 (0, 0))) ∧ Aside0 (w'.heap[g]? = some (.cells #[.slice none 0 0, .slice none 0 0, .slice none 0 0, .slice none 0 0] 121 (0, 0))) ∧ Aside0 (Below L0 w w') ∧ Aside0 (w'.heap.size = W + 1))
  case atStart => exact ⟨0, by omega, rfl, KW, KL, KG, HB, HW4⟩
  case round =>
    clear KW KL KG HB HW4
    obtain ⟨i, hi, rfl, KW, KL, KG, HB, HW4⟩ := hrel
    by_cases h4 : i < 4
    · obtain ⟨gm, rfl⟩ : ∃ m, gk = m + 1 := ⟨gk - 1, by omega⟩
      have k0 := blk_cell KL.out 0
      have k1 := blk_cell KL.out 1
      simp only [List.getElem?_toArray, List.getElem?_cons_zero, List.getElem?_cons_succ] at k0 k1
      have hWL : W ≠ L0 := by have := HLT.out; omega
      have hWg : W ≠ g := by have := HLT.out; omega
      obtain ⟨v0, hc0⟩ : ∃ v, (lowsC la lb H i)[i * 2]? = some v := ⟨_, Array.getElem?_eq_getElem (by show i * 2 < 8; omega)⟩
      obtain ⟨v1, hc1⟩ : ∃ v, (lowsC la lb H i)[i * 2 + 1]? = some v := ⟨_, Array.getElem?_eq_getElem (by show i * 2 + 1 < 8; omega)⟩
      have c0 := (blk_cell KW.out (i * 2)).trans hc0
      have c1 := (blk_cell KW.out (i * 2 + 1)).trans hc1
      have f0 := blk_frozen KW.out (i * 2)
      have f1 := blk_frozen KW.out (i * 2 + 1)
      have hw2 : wrap64 ((2 : Int) ^ (n + 3 - 1)) = H := by rw [show n + 3 - 1 = n + 2 by omega, HH.out]; exact w64 _ (by omega)
      have hw3 : wrap64 ((2 : Int) ^ (n + 2)) = H := by rw [HH.out]; exact w64 _ (by omega)
      clear hc0 hc1
      have HWA := Aside0.mk (lowA_wrap la H i hla hH.1)
      have HWB := Aside0.mk (lowB_wrap lb H i h4 hlb hH.1)
      have h4' := Aside0.mk h4
      go_wp2_with (fail)
      rw [HWA.out, HWB.out]
      have KW2 := Aside0.mk (blk_put (blk_set KW.out (i * 2) (.int .i64 (lowA la H i))) (i * 2 + 1) (.int .i64 (lowB lb H i)) (lowsC_step la lb H i h4'.out))
      have KL2 := Aside0.mk (blk_far (p := ⟨W, i * 2 + 1, none⟩) (blk_far (p := ⟨W, i * 2, none⟩) KL.out (Ne.symm hWL) (.int .i64 (lowA la H i))) (Ne.symm hWL) (.int .i64 (lowB lb H i)))
      have KG2 := Aside0.mk (blk_far (p := ⟨W, i * 2 + 1, none⟩) (blk_far (p := ⟨W, i * 2, none⟩) KG.out (Ne.symm hWg) (.int .i64 (lowA la H i))) (Ne.symm hWg) (.int .i64 (lowB lb H i)))
      have HB2 := Aside0.mk ((HB.out.setCell (p := ⟨W, i * 2, none⟩) (show L0 ≤ W by have := HLT.out; omega) (.int .i64 (lowA la H i))).setCell (p := ⟨W, i * 2 + 1, none⟩) (show L0 ≤ W by have := HLT.out; omega) (.int .i64 (lowB lb H i)))
      have HW5 : Aside0 (((wr.setCell ⟨W, i * 2, none⟩ (.int .i64 (lowA la H i))).setCell ⟨W, i * 2 + 1, none⟩ (.int .i64 (lowB lb H i))).heap.size = W + 1) := ⟨by rw [World.size_setCell, World.size_setCell]; exact HW4.out⟩
      clear KW KL KG HB HW4 c0 c1 f0 f1 k0 k1
      generalize (wr.setCell ⟨W, i * 2, none⟩ (.int .i64 (lowA la H i))).setCell ⟨W, i * 2 + 1, none⟩ (.int .i64 (lowB lb H i)) = w5 at *
      go_roundg gm
      case measure => omega
      case rel => exact ⟨i + 1, by omega, by go_num, KW2, KL2, KG2, HB2, HW5⟩
    · obtain rfl : i = 4 := by omega
      have HPA := Aside0.mk (parts_nil H la lb wr g (W + 1) KG.out (by have := HLT.out; omega))
      clear KG
      go_upto_region 14 with (fail)
      go_loopg [68] pts.length (fun kq c68 w' => ∃ (j : Nat) (vs : List Value), j + kq = pts.length ∧ c68 = .int .i64 j ∧ Aside0 (PartsAt w' g (W + 1) vs (part H la lb (pts.take j))) ∧ Aside0 (w'.heap[W]? = some (.cells (lowsC la lb H 4) 122 (0, 0))) ∧ Aside0 (w'.heap[L0]? = some (.cells #[.int .i64 la, .int .i64 lb] 32 (0, 0))) ∧ Aside0 (Below L0 w w') ∧ Aside0 (W + 1 ≤ w'.heap.size))
      case atStart => exact ⟨0, _, by omega, rfl, HPA, KW, KL, HB, ⟨Nat.le_of_eq HW4.out.symm⟩⟩
      case round =>
        clear HPA KW KL HB HW4
        obtain ⟨j, vs, hj, rfl, HPA, KW, KL, HB, HWS⟩ := hrel
        by_cases hlt : j < pts.length
        · obtain ⟨gm, rfl⟩ : ∃ m, gk = m + 1 := ⟨gk - 1, by omega⟩
          have hbL : Below w.heap.size w wr := by rw [HLT.out.1]; exact HB.out
          obtain ⟨ad', hae, q0, q1⟩ := at_T32 (Kd.C_below HC.out hbL) (j : Int) (by omega) (by omega)
          obtain rfl := Option.some.inj hae
          obtain ⟨x, hx⟩ : ∃ x, pts[j]? = some x := ⟨_, List.getElem?_eq_getElem hlt⟩
          have hrd : rd_T32 pts (j : Int) = x := by unfold rd_T32; rw [Int.toNat_natCast, List.getD_eq_getElem?_getD, hx]; rfl
          rw [hrd, Int.toNat_natCast] at q0 q1
          have HX := Aside0.mk hx
          have HQX := Aside0.mk (HQ.out x)
          clear hbL hx hrd hae
          go_upto_region 16 with (fail)
          have KP := Aside0.mk (blk_new wr (.cells #[.int .i64 x.f0, .int .i64 x.f1] 32))
          have hba := below_alloc (Below.refl wr.heap.size wr) (.cells #[.int .i64 x.f0, .int .i64 x.f1] 32)
          have HBA := Aside0.mk hba
          have KL2 := Aside0.mk (blk_below KL.out hba)
          have k0 := blk_cell KL2.out 0
          have k1 := blk_cell KL2.out 1
          have p0 := blk_cell KP.out 0
          have p1 := blk_cell KP.out 1
          simp only [List.getElem?_toArray, List.getElem?_cons_zero, List.getElem?_cons_succ] at k0 k1 p0 p1
          clear q0 q1 hba
          obtain ⟨X, hX⟩ : ∃ X, wr.heap.size = X := ⟨_, rfl⟩
          have HX2 := Aside0.mk hX
          have HXG := Aside0.mk (show X ≠ g by have := HWS.out; have := HLT.out; omega)
          rw [hX] at KP HBA p0 p1
          simp only [hX]
          clear hX
          generalize wr.alloc (.cells #[.int .i64 x.f0, .int .i64 x.f1] 32) = w4 at *
          have hqi : qi H la lb x < 4 := qi_lt H la lb x
          obtain ⟨i, hi⟩ : ∃ i, qi H la lb x = i := ⟨_, rfl⟩
          have HQI := Aside0.mk hi
          rw [hi] at hqi HQX
          clear hi
          go_upto_region 17 with (go_at_call 46; refine (HQX.out _).mono ?_; rintro e w5 ⟨qa, qb, rfl, hb5⟩; have HB5 := Aside0.mk hb5; clear hb5)
          have HBW := Aside0.mk (show Below wr.heap.size wr (w5.alloc (.cells #[.int .i64 qa, .int .i64 qb] 32)) from by have h5 := HBA.out.trans (HB5.out.mono (by have := HBA.out.size; rw [HX2.out] at this; exact this)); rw [← HX2.out] at h5; exact below_alloc h5 _)
          have KP6 := Aside0.mk (blk_below (blk_below KP.out HB5.out) (below_alloc (Below.refl _ _) (.cells #[.int .i64 qa, .int .i64 qb] 32)))
          have HPA6 := Aside0.mk (HPA.out.below HBW.out)
          have KW6 := Aside0.mk (blk_below KW.out HBW.out)
          have KL6 := Aside0.mk (blk_below KL.out HBW.out)
          have HB6 := Aside0.mk (chain HB.out HBW.out (by have := HB.out.size; have := HLT.out; omega))
          have HWS6 : Aside0 (W + 1 ≤ (w5.alloc (.cells #[.int .i64 qa, .int .i64 qb] 32)).heap.size) := ⟨Nat.le_trans HWS.out HBW.out.size⟩
          have HROW : Aside0 (∀ v, vs[i]? = some v → some X ≠ v.ownBlock) := ⟨fun v hv e => by
            have := Kd.R_lt (HPA.out.rows i v hv) X e.symm
            have := HX2.out
            omega⟩
          clear HBW KP HPA KW KL HB HWS KL2 k0 k1 p0 p1 HB5 HBA HQX
          generalize w5.alloc (.cells #[.int .i64 qa, .int .i64 qb] 32) = w6 at *
          obtain ⟨A', c', hv, hc⟩ := HPA6.out.cell hqi
          have hple := part_le H la lb (pts.take j) i
          rw [List.length_take] at hple
          have HR := Aside0.mk (HPA6.out.rows i _ hv)
          have HV := Aside0.mk hv
          have p0 := blk_cell KP6.out 0
          have p1 := blk_cell KP6.out 1
          simp only [List.getElem?_toArray, List.getElem?_cons_zero, List.getElem?_cons_succ] at p0 p1
          have f0 := blk_frozen HPA6.out.blk i
          have hXl : X < w6.heap.size := blk_lt KP6.out
          have hgl : g < w6.heap.size := blk_lt HPA6.out.blk
          have cA : ∀ x : Obj, (w6.alloc x).cell? ⟨g, i, none⟩ = some (.slice A' (part H la lb (pts.take j) i).length c') := fun x => cell_new hgl hc
          have hXg : X ≠ g := HXG.out
          have hi0 : (0 : Int) ≤ (i : Int) := by omega
          have hi4 : (i : Int) < 4 := by omega
          have HGN : Aside0 (some g ≠ (Value.slice A' (part H la lb (pts.take j) i).length c').ownBlock) := ⟨fun e => by
            have := Kd.R_base HR.out g e.symm
            have := HLT.out
            omega⟩
          clear hv
          rw [show (Op.load 109 (Operand.tmp 81)) = hiddenSl 109 (Operand.tmp 81) from rfl]
          go_region_held3 (fun w' => w'.cell? ⟨X, 0, none⟩ = some (.int .i64 x.f0) ∧ w'.cell? ⟨X, 1, none⟩ = some (.int .i64 x.f1)) (refine ⟨?_, ?_⟩ <;> (first | (with_reducible assumption) | (with_reducible refine pw_cell_below ?_ p0; (repeat' (first | (with_reducible exact Below.refl _ _) | (with_reducible assumption) | (with_reducible refine Below.alloc ?_ ?_ _) | (with_reducible refine Below.drew ?_) | (with_reducible refine Below.setCell ?_ ?_ _) | (with_reducible refine chain ?_ (by assumption) ?_) | go_size)); done) | (with_reducible refine pw_cell_below ?_ p1; (repeat' (first | (with_reducible exact Below.refl _ _) | (with_reducible assumption) | (with_reducible refine Below.alloc ?_ ?_ _) | (with_reducible refine Below.drew ?_) | (with_reducible refine Below.setCell ?_ ?_ _) | (with_reducible refine chain ?_ (by assumption) ?_) | go_size)); done) | (with_reducible refine Go.Proofs.Ytpmipllohiiocaa.ar.cell_far hXg ?_; with_reducible assumption)))
            ((refine Kd.R_append_step k32 (w0 := w6) (W := w6.drew) (W + 1) rfl (.tmp 82) (.tmp 84) 109 32 (.agg #[.int .i64 0, .int .i64 0]) 16 rfl Try.underlying109 infoP rfl (by decide) (by decide) (.slice A' (part H la lb (pts.take j) i).length c') (part H la lb (pts.take j) i) x [.int .i64 x.f0, .int .i64 x.f1] (fun b => W + 1 ≤ b) (fun _ => False) (by simp [Act.eval]) (by simp [Act.eval]) (k32_mkM _ _ _ _) (fun _ hk => hk.elim) (fun b hb => Nat.le_trans HWS6.out hb) (Kd.R_drew HR.out) ((Below.refl _ _).drew) HWS6.out (by omega) ?_; intro v1 w7 ho7 hb7 hg7 hat7; have p0' := (World.cell?_of_block (a := ⟨X, 0, none⟩) (hg7.block X hXl (HROW.out _ HV.out))).trans p0; have p1' := (World.cell?_of_block (a := ⟨X, 1, none⟩) (hg7.block X hXl (HROW.out _ HV.out))).trans p1; have c0' := (World.cell?_of_block (a := ⟨g, i, none⟩) (hg7.block g hgl HGN.out)).trans hc; have f0' := (World.frozen?_of_block (a := ⟨g, i, none⟩) (hg7.block g hgl HGN.out)).trans f0; have HO7 := Aside0.mk ho7; have HG7 := Aside0.mk hg7; have HAT := Aside0.mk hat7; clear ho7 hb7 hg7 hat7; obtain ⟨A1, c1, rfl⟩ := Kd.R_slice HO7.out))
          all_goals (
            have hgr : w6.grownBy w7 (Value.slice A' (part H la lb (pts.take j) i).length c').ownBlock := ⟨HG7.out.os, HG7.out.tape, HG7.out.output, HG7.out.size, HG7.out.block⟩
            have hpa := HPA6.out.append HV.out HO7.out hgr HAT.out
            rw [List.length_append] at hpa
            have hB7 := ((HB6.out).grown hgr (by have := HLT.out; have := HWS6.out; omega) (fun b hb => by have := Kd.R_base HR.out b hb; have := HLT.out; omega)).setCell (p := ⟨g, i, none⟩) (show L0 ≤ g by have := HLT.out; omega) (.slice A1 ((part H la lb (pts.take j) i).length + [x].length) c1)
            have HB7 := Aside0.mk hB7
            have HW7 := Aside0.mk (blk_far (p := ⟨g, i, none⟩) ((hgr.block W (blk_lt KW6.out) (fun e => by have := Kd.R_base HR.out W e.symm; omega)).trans KW6.out) (show W ≠ g by have := HLT.out; omega) (.slice A1 ((part H la lb (pts.take j) i).length + [x].length) c1))
            have HL7 := Aside0.mk (blk_far (p := ⟨g, i, none⟩) ((hgr.block L0 (blk_lt KL6.out) (fun e => by have := Kd.R_base HR.out L0 e.symm; have := HLT.out; omega)).trans KL6.out) (show L0 ≠ g by have := HLT.out; omega) (.slice A1 ((part H la lb (pts.take j) i).length + [x].length) c1))
            have HWS7 : Aside0 (W + 1 ≤ (w7.setCell ⟨g, i, none⟩ (.slice A1 ((part H la lb (pts.take j) i).length + [x].length) c1)).heap.size) := ⟨by rw [World.size_setCell]; exact Nat.le_trans HWS6.out hgr.size⟩
            have HPA7 : Aside0 (PartsAt (w7.setCell ⟨g, i, none⟩ (.slice A1 ((part H la lb (pts.take j) i).length + [x].length) c1)) g (W + 1) (vs.set i (.slice A1 ((part H la lb (pts.take j) i).length + [x].length) c1)) (part H la lb (pts.take (j + 1)))) := ⟨by
              refine hpa.congr (fun k => ?_)
              obtain ⟨h1, h2⟩ := List.getElem?_eq_some_iff.1 HX.out
              rw [List.take_succ_eq_append_getElem h1, h2]
              by_cases e : k = i
              · rw [if_pos e, e, ← HQI.out, part_snoc_same]
              · rw [if_neg e, part_snoc_other _ _ _ _ _ _ (by rw [HQI.out]; exact e)]⟩
            clear hpa hB7 hgr HG7 HAT HO7 HR HV HPA6 KW6 KL6 HB6 HWS6 hc cA f0 p0 p1 HROW HGN KP6
            simp only [List.length_cons, List.length_nil, Nat.zero_add] at HB7 HW7 HL7 HWS7 HPA7
            generalize w7.setCell ⟨g, i, none⟩ (.slice A1 ((part H la lb (pts.take j) i).length + 1) c1) = w8 at *
            go_wp2_with (fail)
            go_roundg gm
            case measure => omega
            case rel => exact ⟨j + 1, _, by omega, by go_num, HPA7, HW7, HL7, HB7, HWS7⟩)
        · obtain rfl : j = pts.length := by omega
          rw [List.take_length] at HPA
          clear KL
          go_upto_region 21 with (fail)
          have hbL : Below w.heap.size w wr := by rw [HLT.out.1]; exact HB.out
          have hFL : ∀ k, L0 ≤ k → ¬ F k := fun k hk hf => by have := HI.out.tr.hold.hi k hf; have := HLT.out; omega
          have HFL := Aside0.mk hFL
          have HST := Aside0.mk (show Ste w0 wr (wr.alloc (.cells #[.int .u32 0, .int .u32 0, .int .u32 0, .int .u32 0] 89)) F F p nodes nodes empty empty most from (Ste.refl (HI.out.tr.below hbL)).below (below_alloc (Below.refl _ _) _))
          have HOWN := Aside0.mk (HI.out.own.below hbL)
          have HBL := Aside0.mk hbL
          have KK := Aside0.mk (show (wr.alloc (.cells #[.int .u32 0, .int .u32 0, .int .u32 0, .int .u32 0] 89)).heap[wr.heap.size]? = some (.cells (nodC [0, 0, 0, 0]) 89 (0, 0)) from blk_new wr (.cells #[.int .u32 0, .int .u32 0, .int .u32 0, .int .u32 0] 89))
          have hLz : L0 ≤ wr.heap.size := by have := HWS.out; have := HLT.out; omega
          have HLZ := Aside0.mk hLz
          have HFK := Aside0.mk (hFL wr.heap.size hLz)
          clear hbL hFL hLz
          generalize wr.alloc (.cells #[.int .u32 0, .int .u32 0, .int .u32 0, .int .u32 0] 89) = w9 at *
          obtain ⟨wB, hwB⟩ : ∃ x, wr = x := ⟨_, rfl⟩
          simp only [hwB] at HPA KW HB HWS HST HOWN HBL KK HLZ HFK ⊢
          clear hwB
          obtain ⟨KB, hKB⟩ : ∃ x, wB.heap.size = x := ⟨_, rfl⟩
          have HKB := Aside0.mk hKB
          simp only [hKB] at HLZ HFK KK ⊢
          clear hKB
          go_loopg [88] 4 (fun kq c88 w' => ∃ (i : Nat) (F3 : Nat → Prop) (nodes3 : List Nd) (empty3 : List Int) (ks : List Nat), i + kq = 4 ∧ c88 = .int .i64 i ∧ Aside0 (Ste w0 wB w' F F3 p nodes nodes3 empty empty3 most) ∧ Aside0 (¬ F3 KB) ∧ Aside0 (w'.heap[KB]? = some (.cells (nodC ks) 89 (0, 0))) ∧ Aside0 (ks.length = 4 ∧ ∀ t, t < i → Rep nodes3 (kidQ G n la lb t) (ks.getD t 0)) ∧ Aside0 (nodes3.length + empty.length ≤ nodes.length + ahead H la lb pts i * (n + 1) + empty3.length) ∧ Aside0 ((∀ t, t < 4 → ∃ j, Rep nodes (kidQ G n la lb t) j) → nodes3 = nodes))
          case atStart => exact ⟨0, F, nodes, empty, [0, 0, 0, 0], by omega, rfl, HST, HFK, KK, ⟨rfl, fun t h => by omega⟩, ⟨by omega⟩, ⟨fun _ => rfl⟩⟩
          case round =>
            clear HST HFK KK
            obtain ⟨i, F3, nodes3, empty3, ks, hi, rfl, HST, HFK, KK, HKS, HCN, HHD⟩ := hrel
            by_cases h4 : i < 4
            · obtain ⟨gm, rfl⟩ : ∃ m, gk = m + 1 := ⟨gk - 1, by omega⟩
              have hPA := HPA.out.other HST.out.keeps (fun k hk _ => HFL.out k (by have := HLT.out; omega))
              obtain ⟨A', c', hv, hc⟩ := hPA.cell h4
              have hKW : wr.heap[W]? = some (.cells (lowsC la lb H 4) 122 (0, 0)) := (HST.out.keeps.block W (blk_lt KW.out) (HFL.out W (by have := HLT.out; omega))).trans KW.out
              have hlw := lowsC_get la lb H i h4
              have l0 := (blk_cell hKW (i * 2)).trans hlw.1
              have l1 := (blk_cell hKW (i * 2 + 1)).trans hlw.2
              have hCC := (Kd.R_reads' (hPA.rows i _ hv)).2.2
              have hahs := ahead_succ H la lb pts i
              have hah4 : ahead H la lb pts (i + 1) ≤ pts.length := by unfold ahead; exact List.length_filter_le _ _
              have hcn := HCN.out
              have hNN : nodes3.length + (part H la lb pts i).length * (n + 1) + 45 < 536870800 + empty3.length := by
                have h1 := HN.out
                have h2 : ahead H la lb pts (i + 1) * (n + 1) ≤ pts.length * (n + 1) := Nat.mul_le_mul_right _ hah4
                rw [hahs, Nat.add_mul] at h2
                have h3 : pts.length * (n + 2) = pts.length * (n + 1) + pts.length := by rw [Nat.mul_succ]
                omega
              have hrec := fun (w' : World) (hb : Below wr.heap.size wr w') => HIH.out i F3 nodes3 empty3 A' c' w' h4 ((show BdIn w0 wr F3 p nodes3 empty3 most M nm D G from ⟨HST.out.tr, HOWN.out.other HST.out.keeps HI.out.mF, HI.out.map, HST.out.notF HOWN.out.lt HI.out.mF, HI.out.bd⟩).below hb) (Kd.C_below hCC hb) hNN
              have HWR := Aside0.mk (show IntKind.i64.wrap ((n : Int) + 3 - 1) = (n : Int) + 2 by rw [IntKind.wrap_i64]; omega)
              have HFW := Aside0.mk (HST.out.notF (blk_lt KW.out) (HFL.out W (by have := HLT.out; omega)))
              have HFG := Aside0.mk (HST.out.notF (blk_lt HPA.out.blk) (HFL.out g (by have := HLT.out; omega)))
              have HREC := Aside0.mk hrec
              have HAH := Aside0.mk hahs
              have hKg : g ≠ KB := by have := HLT.out; have := HKB.out; have := HWS.out; omega
              have hKW2 : W ≠ KB := by have := HKB.out; have := HWS.out; omega
              have hi0 : (0 : Int) ≤ (i : Int) := by omega
              have hi4 : (i : Int) < 4 := by omega
              have f9 := blk_frozen KK.out i
              have c9 := (blk_cell KK.out i).trans (nodC_get ks i (by rw [HKS.out.1]; exact h4))
              have hblk := hPA.blk
              have HGB := Aside0.mk hPA.blk
              have HWB := Aside0.mk hKW
              have HCE := Aside0.mk hc
              have HL0 := Aside0.mk l0
              have HL1 := Aside0.mk l1
              clear hrec hPA hKW hlw hCC hahs hah4 hcn hNN hblk hv
              have HNEQ := Aside0.mk (And.intro hne (And.intro hne2 (And.intro hsh (And.intro hH (And.intro hla hlb)))))
              clear hne hne2 hsh hH hla hlb
              go_upto_region 24 with (fail)
              go_region_held3 (fun w' => w'.cell? ⟨W, i * 2, none⟩ = some (.int .i64 (lowA la H i)) ∧ w'.cell? ⟨W, i * 2 + 1, none⟩ = some (.int .i64 (lowB lb H i)) ∧ w'.cell? ⟨g, i, none⟩ = some (.slice A' (part H la lb pts i).length c')) (refine ⟨?_, ?_, ?_⟩ <;> (first | (with_reducible assumption) | (with_reducible refine pw_cell_below ?_ l0; (repeat' (first | (with_reducible exact Below.refl _ _) | (with_reducible assumption) | (with_reducible refine Below.alloc ?_ ?_ _) | (with_reducible refine Below.drew ?_) | (with_reducible refine Below.setCell ?_ ?_ _) | (with_reducible refine chain ?_ (by assumption) ?_) | go_size)); done) | (with_reducible refine pw_cell_below ?_ l1; (repeat' (first | (with_reducible exact Below.refl _ _) | (with_reducible assumption) | (with_reducible refine Below.alloc ?_ ?_ _) | (with_reducible refine Below.drew ?_) | (with_reducible refine Below.setCell ?_ ?_ _) | (with_reducible refine chain ?_ (by assumption) ?_) | go_size)); done) | (with_reducible refine pw_cell_below ?_ hc; (repeat' (first | (with_reducible exact Below.refl _ _) | (with_reducible assumption) | (with_reducible refine Below.alloc ?_ ?_ _) | (with_reducible refine Below.drew ?_) | (with_reducible refine Below.setCell ?_ ?_ _) | (with_reducible refine chain ?_ (by assumption) ?_) | go_size)); done) | (with_reducible refine Go.Proofs.Ytpmipllohiiocaa.ar.cell_far hKW2 ?_; with_reducible assumption) | (with_reducible refine Go.Proofs.Ytpmipllohiiocaa.ar.cell_far hKg ?_; with_reducible assumption)))
                (first | (go_at_call 57; rw [HWR.out]; with_reducible refine (HREC.out _ (below_drew (Below.refl _ _))).mono ?_; intro e w5 hp; obtain ⟨F4, nodes4, empty4, r, code, rfl, hs4, hl4, hr4, hh4⟩ := Gets.ex hp; have HS5 := Aside0.mk (hs4.from (below_drew (Below.refl wr.heap.size wr))); have bW := HS5.out.keeps.block W (blk_lt HWB.out) HFW.out; have bG := HS5.out.keeps.block g (blk_lt HGB.out) HFG.out; have bK := HS5.out.keeps.block KB (blk_lt KK.out) HFK.out; have l0' := (World.cell?_of_block (a := ⟨W, i * 2, none⟩) bW).trans l0; have l1' := (World.cell?_of_block (a := ⟨W, i * 2 + 1, none⟩) bW).trans l1; have hc' := (World.cell?_of_block (a := ⟨g, i, none⟩) bG).trans hc; have c9' := (World.cell?_of_block (a := ⟨KB, i, none⟩) bK).trans c9; have f9' := (World.frozen?_of_block (a := ⟨KB, i, none⟩) bK).trans f9; have HL5 := Aside0.mk hl4; have HR5 := Aside0.mk hr4; have HH5 := Aside0.mk hh4; clear hp hs4 hl4 hr4 hh4 bW bG bK))
              have HFK5 := Aside0.mk (HS5.out.notF (blk_lt KK.out) HFK.out)
              have HK5 := Aside0.mk ((HS5.out.keeps.block KB (blk_lt KK.out) HFK.out).trans KK.out)
              have HST5 := Aside0.mk (show Ste w0 wB (w5.setCell ⟨KB, i, none⟩ (.int .u32 r)) F F4 p nodes nodes4 empty empty4 most from (HST.out.trans HS5.out).past (G := fun k => k = KB) ((Keeps.refl (fun k => k = KB) w5).setCell (p := ⟨KB, i, none⟩) (.inl rfl) _) (fun k hk e => HFK5.out (e ▸ hk)) (fun k e => by have := HKB.out; omega))
              have HCN5 : Aside0 (nodes4.length + empty.length ≤ nodes.length + ahead H la lb pts (i + 1) * (n + 1) + empty4.length) := ⟨by
                have h1 := HCN.out
                have h2 := HL5.out
                rw [HAH.out, Nat.add_mul]
                omega⟩
              clear HREC c9 f9 c9' f9' l0 l1 l0' l1' hc hc' HGB HWB HCE HL0 HL1 HFW HFG
              rcases HR5.out with ⟨rfl, jn, rfl, hrep⟩ | ⟨rfl, rfl, hmost⟩
              · have HKK5 := Aside0.mk (blk_put HK5.out i (.int .u32 (jn : Int)) (nodC_set ks i jn))
                have HKS5 : Aside0 ((ks.set i jn).length = 4 ∧ ∀ t, t < i + 1 → Rep nodes4 (kidQ G n la lb t) ((ks.set i jn).getD t 0)) := ⟨by
                  refine ⟨by rw [List.length_set]; exact HKS.out.1, fun t ht => ?_⟩
                  by_cases e : t = i
                  · subst e
                    rw [getD_same ks t jn (by rw [HKS.out.1]; exact h4)]
                    exact hrep
                  · rw [getD_other ks i t jn e]
                    exact HS5.out.rep (HKS.out.2 t (by omega))⟩
                have HHD5 : Aside0 ((∀ t, t < 4 → ∃ j, Rep nodes (kidQ G n la lb t) j) → nodes4 = nodes) := ⟨fun h => by
                  have e1 := HHD.out h
                  have e2 := (HH5.out (by rw [e1]; exact h i h4)).1
                  rw [e2, e1]⟩
                clear HK5 HS5 HST KK HKS HCN HHD HH5 HR5 HL5 HFK hrep
                generalize w5.setCell ⟨KB, i, none⟩ (.int .u32 (jn : Int)) = w10 at *
                rw [show errOf 0 = .nilIface from rfl]
                go_wp2_with (fail)
                go_roundg gm
                case measure => omega
                case rel => exact ⟨i + 1, F4, nodes4, empty4, _, by omega, by go_num, HST5, HFK5, HKK5, HKS5, HCN5, HHD5⟩
              · have HMOST := Aside0.mk hmost
                have HHN : Aside0 (¬ ∃ j, Rep nodes (.node (kidQ G n la lb 0) (kidQ G n la lb 1) (kidQ G n la lb 2) (kidQ G n la lb 3)) j) := ⟨fun hj => by
                  have h := kids_have hj
                  have e1 := HHD.out h
                  have e2 := (HH5.out (by rw [e1]; exact h i h4)).2
                  exact absurd e2 (by decide)⟩
                have hal : ahead H la lb pts (i + 1) ≤ pts.length := by unfold ahead; exact List.length_filter_le _ _
                have HAL := Aside0.mk hal
                clear HK5 HS5 HST KK HKS HCN HHD HH5 HR5 HL5 HFK hmost hal
                generalize w5.setCell ⟨KB, i, none⟩ (.int .u32 0) = w10 at *
                rw [show errOf 8 = .iface 68 (.int .i64 8) from rfl]
                go_wp2_with (fail)
                go_ret2
                exact ⟨F4, nodes4, empty4, 0, 8, rfl, HST5.out.from HBL.out, by
                  have h1 := HCN5.out
                  have h2 := Nat.mul_le_mul_right (n + 1) HAL.out
                  have h3 : pts.length * (n + 2) = pts.length * (n + 1) + pts.length := by rw [Nat.mul_succ]
                  omega, .inr ⟨rfl, rfl, HMOST.out⟩, fun h => absurd h HHN.out⟩
            · obtain rfl : i = 4 := by omega
              obtain ⟨hkl, hkr⟩ := HKS.out
              obtain ⟨k0, k1, k2, k3, rfl⟩ : ∃ k0 k1 k2 k3, ks = [k0, k1, k2, k3] := by
                match ks, hkl with
                | [a, b, c, d], _ => exact ⟨a, b, c, d, rfl⟩
              have r0 : Rep nodes3 _ k0 := hkr 0 (by omega)
              have r1 : Rep nodes3 _ k1 := hkr 1 (by omega)
              have r2 : Rep nodes3 _ k2 := hkr 2 (by omega)
              have r3 : Rep nodes3 _ k3 := hkr 3 (by omega)
              have hcn := HCN.out
              rw [ahead_all] at hcn
              have HCN4 := Aside0.mk hcn
              have hNN : nodes3.length < 536870860 := by
                have h1 := HN.out
                have h2 := HST.out.tr.emq.hi
                have h3 : pts.length * (n + 2) = pts.length * (n + 1) + pts.length := by rw [Nat.mul_succ]
                omega
              have hjn := tr_join HST.out.tr r0 r1 r2 r3 (by rw [kidQ_lv, kidQ_lv]) (by rw [kidQ_lv, kidQ_lv]) (by rw [kidQ_lv, kidQ_lv]) (by rw [kidQ_lv]; omega) hNN
              have HJN := Aside0.mk hjn
              have b0 : wr.cell? ⟨KB, 0, none⟩ = some (.int .u32 (k0 : Int)) := blk_cell KK.out 0
              have b1 : wr.cell? ⟨KB, 1, none⟩ = some (.int .u32 (k1 : Int)) := blk_cell KK.out 1
              have b2 : wr.cell? ⟨KB, 2, none⟩ = some (.int .u32 (k2 : Int)) := blk_cell KK.out 2
              have b3 : wr.cell? ⟨KB, 3, none⟩ = some (.int .u32 (k3 : Int)) := blk_cell KK.out 3
              have HPP := Aside0.mk hp
              clear hkl hkr r0 r1 r2 r3 hcn hNN hjn hne hne2 hsh hH hla hlb
              go_wp2_with (go_at_call 64; refine HJN.out.mono ?_; intro e w6 hp6; obtain ⟨F6, nodes6, empty6, r6, code6, rfl, hs6, hl6, hr6, hh6⟩ := Gets.ex hp6; have HS6 := Aside0.mk hs6; have HL6 := Aside0.mk hl6; have HR6 := Aside0.mk hr6; have HH6 := Aside0.mk hh6; clear hp6 hs6 hl6 hr6 hh6)
              go_ret2
              exact ⟨F6, nodes6, empty6, r6, code6, rfl, (HST.out.trans HS6.out).from HBL.out, by
                have h1 := HCN4.out
                have h2 := HL6.out
                have h3 : pts.length * (n + 2) = pts.length * (n + 1) + pts.length := by rw [Nat.mul_succ]
                have h4 := HPP.out
                omega, HR6.out, fun h => by
                have e1 := HHD.out (kids_have h)
                have e2 := HH6.out (by rw [e1]; exact h)
                exact ⟨by rw [e2.1, e1], e2.2⟩⟩
end
end Go.Proofs.Ytpmipllohiiocaa.tr
namespace Go.Proofs.Ytpmipllohiiocaa.tr
open Go.RowKit Go.Proofs.Ytpmipllohiiocaa.PTreeBuilds Go.Proofs.YtpmipllohiiocaaW.PrintWords Go.Proofs.YtpmipllohiiocaaW.PrintLast Go.Proofs.YtpmipllohiiocaaW.PrintMore Go.Proofs.Ytpmipllohiiocaa.bs Go.ChangeShapes Go.Proofs.Ytpmipllohiiocaa.lb Go.Proofs.Ytpmipllohiiocaa.ar Go.Maps

section
variable {w0 w w1 w2 w3 : World} {F F' F2 S : Nat → Prop} {p : Nat} {nodes nodes' nodes2 : List Nd} {empty empty' empty2 : List Int} {most : Int} {M nm : Nat} {D : DataW Unit} {G : Int → Int → Int}
theorem build_walk (n : Nat) : ∀ (F : Nat → Prop) (nodes : List Nd) (empty : List Int) (w : World) (pts : List Pt) (A : Option Addr) (c : Nat) (la lb : Int), n ≤ 42 → BdIn w0 w F p nodes empty most M nm D G → Kd.C k32 w A pts.length pts → PtsOk G n la lb pts →
    la % 4 = 0 → lb % 4 = 0 → (-8796093022208 ≤ la ∧ la + 2 ^ (n + 2) ≤ 8796093022208) → (-8796093022208 ≤ lb ∧ lb + 2 ^ (n + 2) ≤ 8796093022208) → pts.length ≤ 1000000 → nodes.length + pts.length * (n + 1) + 45 < 536870800 + empty.length →
    Calls Try.prog 57 #[.pointer (some ⟨p, 0, none⟩), .int .i64 ((n : Int) + 2), .agg #[.int .i64 la, .int .i64 lb], .slice A pts.length c, .map (some M)] w fun e w' => Gets w0 w F p nodes empty most (canQ (fun a b => (G a b).toNat) n la lb) (pts.length * (n + 1)) (∃ i, Rep nodes (canQ (fun a b => (G a b).toNat) n la lb) i) e w' := by
  induction n with
  | zero =>
    intro F nodes empty w pts A c la lb hn hI hC hP ha hb hla hlb hpl hN
    have hem := hI.tr.emq.hi
    cases pts with
    | nil =>
      rw [hP.none]
      exact (build_none hI 0 (by omega) (by omega) A c la lb).mono fun e w' h => h.mono (by simp)
    | cons pt l =>
      obtain rfl := hP.leaf ha hb
      obtain ⟨ad, rfl, q0, q1⟩ := at_T32 hC 0 (by omega) (by simp)
      have e4 : (2 : Int) ^ (0 + 2) = 4 := rfl
      rw [e4] at hla hlb
      have hadd : ad.add ((0 : Int).toNat * 2) = ad := by cases ad; rfl
      rw [hadd] at q0 q1
      refine (build_leaf hI (by omega) ad c _ (by simp) la lb q0 q1 ⟨by omega, by omega⟩ ⟨by omega, by omega⟩).mono fun e w' h => ?_
      exact h.mono (by simp)
  | succ n ih =>
    intro F nodes empty w pts A c la lb hn hI hC hP ha hb hla hlb hpl hN
    have hem := hI.tr.emq.hi
    rw [show ((n + 1 : Nat) : Int) + 2 = (n : Int) + 3 by omega]
    cases hpts : pts with
    | nil =>
      subst hpts
      rw [hP.none]
      have := build_none hI (n + 1) hn (by omega) A c la lb
      rw [show ((n + 1 : Nat) : Int) + 2 = (n : Int) + 3 by omega] at this
      exact this.mono fun e w' h => h.mono (by simp)
    | cons p0 l =>
      rw [← hpts]
      have hpos : 0 < pts.length := by rw [hpts]; simp
      refine build_node hI n (by omega) pts A c hC hpos la lb hP ha hb hla hlb hpl (by rw [show n + 2 = n + 1 + 1 from rfl]; exact hN) ?_
      intro i F' nodes' empty' A' c' w' hi hI' hC' hN'
      have hbd := low_bd hla hlb i hi
      have hmod := low_mod (n := n) ha hb i
      exact ih F' nodes' empty' w' _ A' c' _ _ (by omega) hI' hC' (hP.quarter i hi) hmod.1 hmod.2 hbd.1 hbd.2 (Nat.le_trans (part_le _ _ _ _ _) hpl) hN'
end
/-- the least level from n on of a root that has two points; 44 at most -/
def lvlGo (la lb ha hb : Int) : Nat → Nat → Nat
  | 0, n => n
  | d + 1, n => if Ins (pw (n - 1)) la lb ∧ Ins (pw (n - 1)) ha hb then n else lvlGo la lb ha hb d (n + 1)
def lvl (la lb ha hb : Int) : Nat := lvlGo la lb ha hb 41 3
theorem lvlGo_tells (la lb ha hb : Int) : ∀ (d n : Nat), 3 ≤ n → n + d = 44 → (n ≤ lvlGo la lb ha hb d n ∧ lvlGo la lb ha hb d n ≤ 44) ∧ (lvlGo la lb ha hb d n = 44 ∨ (Ins (pw (lvlGo la lb ha hb d n - 1)) la lb ∧ Ins (pw (lvlGo la lb ha hb d n - 1)) ha hb)) ∧ (∀ m, n ≤ m → m < lvlGo la lb ha hb d n → ¬ (Ins (pw (m - 1)) la lb ∧ Ins (pw (m - 1)) ha hb))
  | 0, n, h3, h => by
    have : lvlGo la lb ha hb 0 n = n := rfl
    rw [this]
    exact ⟨by omega, .inl (by omega), fun m h1 h2 => by omega⟩
  | d + 1, n, h3, h => by
    unfold lvlGo
    split
    · rename_i hi
      exact ⟨by omega, .inr hi, fun m h1 h2 => by omega⟩
    · rename_i hi
      obtain ⟨i1, i2, i3⟩ := lvlGo_tells la lb ha hb d (n + 1) (by omega) (by omega)
      refine ⟨by omega, i2, fun m h1 h2 => ?_⟩
      by_cases e : m = n
      · rw [e]; exact hi
      · exact i3 m (by omega) h2
theorem lvl_tells (la lb ha hb : Int) : (3 ≤ lvl la lb ha hb ∧ lvl la lb ha hb ≤ 44) ∧ (lvl la lb ha hb = 44 ∨ (Ins (pw (lvl la lb ha hb - 1)) la lb ∧ Ins (pw (lvl la lb ha hb - 1)) ha hb)) ∧ (∀ m, 3 ≤ m → m < lvl la lb ha hb → ¬ (Ins (pw (m - 1)) la lb ∧ Ins (pw (m - 1)) ha hb)) :=
  lvlGo_tells la lb ha hb 41 3 (by omega) (by omega)
theorem level_l0 (la lb ha hb : Int) : ∀ (d n k : Nat), 3 ≤ n → n + d = 44 → d < k → tree_Level.l0 k n la lb ha hb = some ((lvlGo la lb ha hb d n : Nat) : Int)
  | 0, n, k, h3, h, hk => by
    obtain ⟨k, rfl⟩ : ∃ m, k = m + 1 := ⟨k - 1, by omega⟩
    unfold tree_Level.l0
    rw [if_neg (by omega)]
    rfl
  | d + 1, n, k, h3, h, hk => by
    obtain ⟨k, rfl⟩ : ∃ m, k = m + 1 := ⟨k - 1, by omega⟩
    have ih := level_l0 la lb ha hb d (n + 1) k (by omega) (by omega) (by omega)
    have hw : wrap64 ((n : Int) + 1) = ((n + 1 : Nat) : Int) := by rw [w64 _ (by omega)]; omega
    have hh := hx_nat n (by omega) (by omega)
    unfold tree_Level.l0 lvlGo
    rw [if_pos (by omega), inside_val, inside_val, Option.bind_some, hh, hw]
    by_cases h1 : Ins (pw (n - 1)) la lb
    · rw [decide_eq_true h1, if_pos rfl, Option.bind_some]
      by_cases h2 : Ins (pw (n - 1)) ha hb
      · rw [decide_eq_true h2, if_pos rfl, if_pos ⟨h1, h2⟩]
      · rw [decide_eq_false h2, if_neg (by decide), if_neg (fun hh => h2 hh.2)]
        exact ih
    · rw [decide_eq_false h1, if_neg (by decide), if_neg (fun hh => h1 hh.1)]
      exact ih
theorem level_val (la lb ha hb : Int) (k : Nat) (hk : 41 < k) : tree_Level.f k la lb ha hb = some ((lvl la lb ha hb : Nat) : Int) := level_l0 la lb ha hb 41 3 k (by omega) (by omega) hk
theorem tlevel_walk (la lb ha hb : Int) (w : World) : Calls Try.prog 56 #[.agg #[.int .i64 la, .int .i64 lb, .int .i64 ha, .int .i64 hb]] w fun e w' => e = .returned (.int .i64 (lvl la lb ha hb : Nat)) ∧ Below w.heap.size w w' :=
  tree_Level.calls 50 la lb ha hb _ w (level_val la lb ha hb 50 (by omega))
theorem tinside_walk (lv : Int) (a b : Int) (w : World) : Calls Try.prog 45 #[.int .i64 lv, .agg #[.int .i64 a, .int .i64 b]] w fun e w' => e = .returned (.bool (decide (Ins (pw (hx lv)) a b))) ∧ Below w.heap.size w w' :=
  tree_Inside.calls lv a b _ w (inside_val lv a b)
theorem torigin_walk (lv : Int) (w : World) : Calls Try.prog 40 #[.int .i64 lv] w fun e w' => e = .returned (.agg #[.int .i64 (-pw (hx lv)), .int .i64 (-pw (hx lv))]) ∧ Below w.heap.size w w' :=
  tree_origin.calls lv _ _ w (origin_val lv)
end Go.Proofs.Ytpmipllohiiocaa.tr
namespace Go.Proofs.Ytpmipllohiiocaa.tr
open Go.RowKit Go.Proofs.Ytpmipllohiiocaa.PTreeBuilds Go.Proofs.YtpmipllohiiocaaW.PrintWords Go.Proofs.YtpmipllohiiocaaW.PrintLast Go.Proofs.YtpmipllohiiocaaW.PrintMore Go.Proofs.Ytpmipllohiiocaa.bs Go.ChangeShapes

/-- least A, least B, greatest A, greatest B -/
structure Bx where
  la : Int
  lb : Int
  ha : Int
  hb : Int
def Bx.add (b : Bx) (c : S39) : Bx := ⟨min b.la c.f0.f0, min b.lb c.f0.f1, max b.ha c.f0.f0, max b.hb c.f0.f1⟩
def boxL (b : Bx) (cs : List S39) : Bx := cs.foldl Bx.add b
def Bx.one (c : S39) : Bx := ⟨c.f0.f0, c.f0.f1, c.f0.f0, c.f0.f1⟩
def Bx.cells (b : Bx) : Array Value := #[.int .i64 b.la, .int .i64 b.lb, .int .i64 b.ha, .int .i64 b.hb]
theorem two_al (w : World) (c1 c2 : Array Value) (t1 t2 : TypeId) : (((w.alloc (.cells c1 t1)).alloc (.cells c2 t2)).drew).heap[w.heap.size]? = some (.cells c1 t1 (0, 0)) ∧ (((w.alloc (.cells c1 t1)).alloc (.cells c2 t2)).drew).heap[w.heap.size + 1]? = some (.cells c2 t2 (0, 0)) := by
  have h := blk_below (blk_new (w.alloc (.cells c1 t1)) (.cells c2 t2)) (below_drew (Below.refl _ _))
  have h2 := blk_below (blk_new w (.cells c1 t1)) (below_drew (below_alloc (Below.refl _ _) (.cells c2 t2)))
  rw [show (w.alloc (.cells c1 t1)).heap.size = w.heap.size + 1 by simp] at h
  exact ⟨h2, h⟩
theorem min_i (x y : Int) : Builtin.min2 (.int .i64 x) (.int .i64 y) = pure (.int .i64 (min x y)) := by rw [min2_int]; congr 2; split <;> omega
theorem max_i (x y : Int) : Builtin.max2 (.int .i64 x) (.int .i64 y) = pure (.int .i64 (max x y)) := by rw [max2_int]; congr 2; split <;> omega
def boxV : List S39 → Value
  | [] => .tuple #[.agg #[.int .i64 0, .int .i64 0, .int .i64 0, .int .i64 0], .bool false]
  | c :: cs => .tuple #[.agg #[.int .i64 (boxL (Bx.one c) (c :: cs)).la, .int .i64 (boxL (Bx.one c) (c :: cs)).lb, .int .i64 (boxL (Bx.one c) (c :: cs)).ha, .int .i64 (boxL (Bx.one c) (c :: cs)).hb], .bool true]
attribute [local go_sem] max_two min_two
def hiddenLoad (t : TypeId) (x : Operand) : Op := .load t x
attribute [local go_sem] hiddenLoad
set_option maxRecDepth 100000 in
set_option maxHeartbeats 4000000 in
theorem box_walk (A : Option Addr) (c : Nat) (cs : List S39) (w : World) (h : Kd.C k39 w A cs.length cs) :
    Calls Try.prog 54 #[.slice A cs.length c] w fun e w' => e = .returned (boxV cs) ∧ Below w.heap.size w w' := by
  have HC := Aside0.mk h
  have hmx := Kd.C_max h
  clear h
  cases cs with
  | nil =>
    go_enter Try.func54, Try.ntmps54
    go_wp2_with (fail)
    exact bodyPost_ret (v := boxV []) (by simp [results, Try.results54, go_sem, boxV, *]) rfl ⟨rfl, by (repeat' (first | (with_reducible exact Below.refl _ _) | (with_reducible assumption) | (with_reducible refine Below.alloc ?_ ?_ _) | (with_reducible refine Below.drew ?_) | (with_reducible refine Below.setCell ?_ ?_ _) | (with_reducible refine chain ?_ (by assumption) ?_) | go_size))⟩
  | cons c0 cs =>
    obtain ⟨ad, rfl, q0, q1, q2⟩ := at_T39 HC.out 0 (by omega) (by simp)
    rw [show rd_T39 (c0 :: cs) 0 = c0 from rfl, show ad.add ((0 : Int).toNat * 3) = ad by cases ad; rfl] at q0 q1 q2
    clear q2
    have hpn : 0 < (c0 :: cs).length := by simp
    have hpos : (0 : Int) < (((c0 :: cs).length : Nat) : Int) := by simp
    generalize hcs : c0 :: cs = L at *
    have HL := Aside0.mk hcs
    clear hcs
    go_enter Try.func54, Try.ntmps54
    go_wp2_with (fail)
    go_cut [4] (fun v4 wx => ∃ g, v4 = .pointer (some ⟨g, 0, none⟩) ∧ w.heap.size < g ∧ wx.heap[g]? = some (.cells #[.int .i64 c0.f0.f0, .int .i64 c0.f0.f1, .int .i64 c0.f0.f0, .int .i64 c0.f0.f1] 55 (0, 0)) ∧ Below w.heap.size w wx ∧ wx.heap[w.heap.size]? = some (.cells #[.int .i64 0, .int .i64 0, .int .i64 0, .int .i64 0] 55 (0, 0)))
    case first =>
      go_region_held3 (fun w' => w'.cell? ad = some (.int .i64 c0.f0.f0) ∧ w'.cell? ⟨ad.block, ad.off + 1, none⟩ = some (.int .i64 c0.f0.f1)) (first | exact ⟨pw_cell_below (by (repeat' (first | (with_reducible exact Below.refl _ _) | (with_reducible assumption) | (with_reducible refine Below.alloc ?_ ?_ _) | (with_reducible refine Below.drew ?_) | (with_reducible refine Below.setCell ?_ ?_ _) | (with_reducible refine chain ?_ (by assumption) ?_) | go_size))) q0, pw_cell_below (by (repeat' (first | (with_reducible exact Below.refl _ _) | (with_reducible assumption) | (with_reducible refine Below.alloc ?_ ?_ _) | (with_reducible refine Below.drew ?_) | (with_reducible refine Below.setCell ?_ ?_ _) | (with_reducible refine chain ?_ (by assumption) ?_) | go_size))) q1⟩) (first | fail)
      go_wp2_with (fail)
      go_meet
      have k1 := two_al w #[.int .i64 0, .int .i64 0, .int .i64 0, .int .i64 0] #[.int .i64 c0.f0.f0, .int .i64 c0.f0.f1, .int .i64 c0.f0.f0, .int .i64 c0.f0.f1] 55 55
      exact ⟨w.heap.size + 1, rfl, by omega, k1.2, by (repeat' (first | (with_reducible exact Below.refl _ _) | (with_reducible assumption) | (with_reducible refine Below.alloc ?_ ?_ _) | (with_reducible refine Below.drew ?_) | (with_reducible refine Below.setCell ?_ ?_ _) | (with_reducible refine chain ?_ (by assumption) ?_) | go_size)), k1.1⟩
    case rest =>
      obtain ⟨g, rfl, hg, kg, hb, kz⟩ := hcut
      have KG := Aside0.mk (show wc.heap[g]? = some (.cells (Bx.one c0).cells _ _) from kg)
      have KZ := Aside0.mk kz
      have HB := Aside0.mk hb
      have HG := Aside0.mk hg
      clear kg kz hb q0 q1 hg
      go_wp2_with (fail)
      go_loopg [22] L.length (fun kq c22 w' => ∃ (i : Nat) (b : Bx), i + kq = L.length ∧ c22 = .int .i64 i ∧ Aside0 (boxL (Bx.one c0) (L.take i) = b) ∧ Aside0 (w'.heap[g]? = some (.cells b.cells 55 (0, 0))) ∧ Aside0 (w'.heap[w.heap.size]? = some (.cells #[.int .i64 0, .int .i64 0, .int .i64 0, .int .i64 0] 55 (0, 0))) ∧ Aside0 (Below w.heap.size w w'))
      case atStart => exact ⟨0, _, by omega, rfl, ⟨rfl⟩, KG, KZ, HB⟩
      case round =>
        clear KG KZ HB
        obtain ⟨i, b, hi, rfl, HBX, KG, KZ, HB⟩ := hrel
        by_cases hlt : i < L.length
        · obtain ⟨gm, rfl⟩ : ∃ m, gk = m + 1 := ⟨gk - 1, by omega⟩
          obtain ⟨ad', hae, q0, q1, q2⟩ := at_T39 (Kd.C_below HC.out HB.out) (i : Int) (by omega) (by omega)
          obtain rfl := Option.some.inj hae
          obtain ⟨x, hx⟩ : ∃ x, L[i]? = some x := ⟨_, List.getElem?_eq_getElem hlt⟩
          have hrd : rd_T39 L (i : Int) = x := by unfold rd_T39; rw [Int.toNat_natCast, List.getD_eq_getElem?_getD, hx]; rfl
          rw [hrd, Int.toNat_natCast] at q0 q1 q2
          have HNX := Aside0.mk (show boxL (Bx.one c0) (L.take (i + 1)) = (boxL (Bx.one c0) (L.take i)).add x from by
            obtain ⟨h1, h2⟩ := List.getElem?_eq_some_iff.1 hx
            unfold boxL
            rw [List.take_succ_eq_append_getElem h1, List.foldl_append, h2]; rfl)
          have hii : (i : Int) < (L.length : Int) := by omega
          clear hrd hx hae
          go_upto_region 7 with (fail)
          have KX := Aside0.mk (blk_new wr (.cells #[.int .i64 x.f0.f0, .int .i64 x.f0.f1, .int .i64 x.f1] 39))
          have hba := below_alloc (Below.refl wr.heap.size wr) (.cells #[.int .i64 x.f0.f0, .int .i64 x.f0.f1, .int .i64 x.f1] 39)
          have KG1 := Aside0.mk (blk_below KG.out hba)
          have KZ1 := Aside0.mk (blk_below KZ.out hba)
          have HB1 := Aside0.mk (chain HB.out hba HB.out.size)
          have hgx : wr.heap.size ≠ g := by have := blk_lt KG.out; omega
          have hxg : g ≠ wr.heap.size := Ne.symm hgx
          clear KG KZ HB hba q0 q1 q2
          generalize wr.alloc (.cells #[.int .i64 x.f0.f0, .int .i64 x.f0.f1, .int .i64 x.f1] 39) = w3 at *
          generalize wr.heap.size = X at *
          have g0 := blk_cell KG1.out 0
          have g1 := blk_cell KG1.out 1
          have g2 := blk_cell KG1.out 2
          have g3 := blk_cell KG1.out 3
          rw [show b.cells[0]? = some (.int .i64 b.la) from rfl] at g0
          rw [show b.cells[1]? = some (.int .i64 b.lb) from rfl] at g1
          rw [show b.cells[2]? = some (.int .i64 b.ha) from rfl] at g2
          rw [show b.cells[3]? = some (.int .i64 b.hb) from rfl] at g3
          have f0 := blk_frozen KG1.out 0
          have f1 := blk_frozen KG1.out 1
          have f2 := blk_frozen KG1.out 2
          have f3 := blk_frozen KG1.out 3
          have x0 := blk_cell KX.out 0
          have x1 := blk_cell KX.out 1
          simp only [List.getElem?_toArray, List.getElem?_cons_zero, List.getElem?_cons_succ] at x0 x1
          have m0 := min_i b.la x.f0.f0
          have m1 := min_i b.lb x.f0.f1
          have m2 := max_i b.ha x.f0.f0
          have m3 := max_i b.hb x.f0.f1
          go_cut [] (fun wx => wx = ((w3.setCell ⟨g, 0, none⟩ (.int .i64 (min b.la x.f0.f0))).setCell ⟨g, 2, none⟩ (.int .i64 (max b.ha x.f0.f0))).drew)
          case first =>
            rw [show (Op.load 2 (Operand.tmp 27)) = hiddenLoad 2 (Operand.tmp 27) from rfl, show (Op.load 2 (Operand.tmp 34)) = hiddenLoad 2 (Operand.tmp 34) from rfl]
            go_region_held3 (fun w' => w'.cell? ⟨X, 0, none⟩ = some (.int .i64 x.f0.f0)) (simp (maxDischargeDepth := 6) [go_sem, *]) (first | fail)
            all_goals (go_wp2_with (fail); go_meet; rfl)
          obtain rfl := hcut
          have HG3 := HG.out
          have KG2 := Aside0.mk (show (((w3.setCell ⟨g, 0, none⟩ (.int .i64 (min b.la x.f0.f0))).setCell ⟨g, 2, none⟩ (.int .i64 (max b.ha x.f0.f0))).drew).heap[g]? = some (.cells (Bx.cells ⟨min b.la x.f0.f0, b.lb, max b.ha x.f0.f0, b.hb⟩) _ _) from blk_below (blk_put (blk_set KG1.out 0 (.int .i64 (min b.la x.f0.f0))) 2 (.int .i64 (max b.ha x.f0.f0)) rfl) (below_drew (Below.refl _ _)))
          have KX2 := Aside0.mk (blk_below (blk_far (p := ⟨g, 2, none⟩) (blk_far (p := ⟨g, 0, none⟩) KX.out hgx (.int .i64 (min b.la x.f0.f0))) hgx (.int .i64 (max b.ha x.f0.f0))) (below_drew (Below.refl _ _)))
          have KZ2 := Aside0.mk (blk_below (blk_far (p := ⟨g, 2, none⟩) (blk_far (p := ⟨g, 0, none⟩) KZ1.out (show w.heap.size ≠ g by omega) (.int .i64 (min b.la x.f0.f0))) (show w.heap.size ≠ g by omega) (.int .i64 (max b.ha x.f0.f0))) (below_drew (Below.refl _ _)))
          have HB2 := Aside0.mk (below_drew ((HB1.out.setCell (p := ⟨g, 0, none⟩) (show w.heap.size ≤ g by omega) (.int .i64 (min b.la x.f0.f0))).setCell (p := ⟨g, 2, none⟩) (show w.heap.size ≤ g by omega) (.int .i64 (max b.ha x.f0.f0))))
          clear HG3 KG1 KX KZ1 HB1 g0 g1 g2 g3 f0 f1 f2 f3 x0 x1 m0 m2
          generalize ((w3.setCell ⟨g, 0, none⟩ (.int .i64 (min b.la x.f0.f0))).setCell ⟨g, 2, none⟩ (.int .i64 (max b.ha x.f0.f0))).drew = w5 at *
          generalize hma : min b.la x.f0.f0 = ma at *
          generalize hMa : max b.ha x.f0.f0 = Ma at *
          have HMA := Aside0.mk (And.intro hma hMa)
          clear hma hMa
          go_upto_region 8 with (fail)
          have g0 := blk_cell KG2.out 0
          have g1 := blk_cell KG2.out 1
          have g2 := blk_cell KG2.out 2
          have g3 := blk_cell KG2.out 3
          rw [show (Bx.cells ⟨ma, b.lb, Ma, b.hb⟩)[0]? = some (.int .i64 ma) from rfl] at g0
          rw [show (Bx.cells ⟨ma, b.lb, Ma, b.hb⟩)[1]? = some (.int .i64 b.lb) from rfl] at g1
          rw [show (Bx.cells ⟨ma, b.lb, Ma, b.hb⟩)[2]? = some (.int .i64 Ma) from rfl] at g2
          rw [show (Bx.cells ⟨ma, b.lb, Ma, b.hb⟩)[3]? = some (.int .i64 b.hb) from rfl] at g3
          have f1 := blk_frozen KG2.out 1
          have f3 := blk_frozen KG2.out 3
          have x1 := blk_cell KX2.out 1
          simp only [List.getElem?_toArray, List.getElem?_cons_zero, List.getElem?_cons_succ] at x1
          rw [show (Op.load 2 (Operand.tmp 45)) = hiddenLoad 2 (Operand.tmp 45) from rfl, show (Op.load 2 (Operand.tmp 52)) = hiddenLoad 2 (Operand.tmp 52) from rfl]
          go_region_held3 (fun w' => w'.cell? ⟨X, 1, none⟩ = some (.int .i64 x.f0.f1)) (simp (maxDischargeDepth := 6) [go_sem, *]) (first | fail)
          all_goals (
            have HG3 := HG.out
            have KG3 := Aside0.mk (show (((w5.setCell ⟨g, 1, none⟩ (.int .i64 (min b.lb x.f0.f1))).setCell ⟨g, 3, none⟩ (.int .i64 (max b.hb x.f0.f1))).drew).heap[g]? = some (.cells (Bx.cells ⟨ma, min b.lb x.f0.f1, Ma, max b.hb x.f0.f1⟩) _ _) from blk_below (blk_put (blk_set KG2.out 1 (.int .i64 (min b.lb x.f0.f1))) 3 (.int .i64 (max b.hb x.f0.f1)) rfl) (below_drew (Below.refl _ _)))
            have KZ3 := Aside0.mk (blk_below (blk_far (p := ⟨g, 3, none⟩) (blk_far (p := ⟨g, 1, none⟩) KZ2.out (show w.heap.size ≠ g by omega) (.int .i64 (min b.lb x.f0.f1))) (show w.heap.size ≠ g by omega) (.int .i64 (max b.hb x.f0.f1))) (below_drew (Below.refl _ _)))
            have HB3 := Aside0.mk (below_drew ((HB2.out.setCell (p := ⟨g, 1, none⟩) (show w.heap.size ≤ g by omega) (.int .i64 (min b.lb x.f0.f1))).setCell (p := ⟨g, 3, none⟩) (show w.heap.size ≤ g by omega) (.int .i64 (max b.hb x.f0.f1))))
            clear HG3 KG2 KX2 KZ2 HB2 g0 g1 g2 g3 f1 f3 x1 m1 m3
            generalize ((w5.setCell ⟨g, 1, none⟩ (.int .i64 (min b.lb x.f0.f1))).setCell ⟨g, 3, none⟩ (.int .i64 (max b.hb x.f0.f1))).drew = w6 at *
            have HBN : Aside0 (boxL (Bx.one c0) (L.take (i + 1)) = ⟨ma, min b.lb x.f0.f1, Ma, max b.hb x.f0.f1⟩) := ⟨by rw [HNX.out, HBX.out, ← HMA.out.1, ← HMA.out.2]; rfl⟩
            go_wp2_with (fail)
            go_roundg gm
            case measure => omega
            case rel => exact ⟨i + 1, _, by omega, by go_num, HBN, KG3, KZ3, HB3⟩)
        · obtain rfl : i = L.length := by omega
          have g0 := blk_cell KG.out 0
          have g1 := blk_cell KG.out 1
          have g2 := blk_cell KG.out 2
          have g3 := blk_cell KG.out 3
          rw [show b.cells[0]? = some (.int .i64 b.la) from rfl] at g0
          rw [show b.cells[1]? = some (.int .i64 b.lb) from rfl] at g1
          rw [show b.cells[2]? = some (.int .i64 b.ha) from rfl] at g2
          rw [show b.cells[3]? = some (.int .i64 b.hb) from rfl] at g3
          have z0 := blk_cell KZ.out 0
          have z1 := blk_cell KZ.out 1
          have z2 := blk_cell KZ.out 2
          have z3 := blk_cell KZ.out 3
          have f0 := blk_frozen KZ.out 0
          have f1 := blk_frozen KZ.out 1
          have f2 := blk_frozen KZ.out 2
          have f3 := blk_frozen KZ.out 3
          simp only [List.getElem?_toArray, List.getElem?_cons_zero, List.getElem?_cons_succ] at z0 z1 z2 z3
          have HRES : Aside0 (boxV L = .tuple #[.agg #[.int .i64 b.la, .int .i64 b.lb, .int .i64 b.ha, .int .i64 b.hb], .bool true]) := ⟨by
            have h := HBX.out
            rw [List.take_length] at h
            rw [← HL.out] at h ⊢
            show (Value.tuple #[.agg #[.int .i64 (boxL (Bx.one c0) (c0 :: cs)).la, _, _, _], _]) = _
            rw [h]⟩
          go_wp2_with (fail)
          rw [HRES.out]
          exact bodyPost_ret (v := .tuple #[.agg #[.int .i64 b.la, .int .i64 b.lb, .int .i64 b.ha, .int .i64 b.hb], .bool true]) (by simp [results, Try.results54, go_sem, *]) rfl ⟨rfl, ((((HB.out.setCell (p := ⟨w.heap.size, 0, none⟩) (Nat.le_refl _) _).setCell (p := ⟨w.heap.size, 1, none⟩) (Nat.le_refl _) _).setCell (p := ⟨w.heap.size, 2, none⟩) (Nat.le_refl _) _).setCell (p := ⟨w.heap.size, 3, none⟩) (Nat.le_refl _) _)⟩
end Go.Proofs.Ytpmipllohiiocaa.tr
namespace Go.Proofs.Ytpmipllohiiocaa.tr
open Go.RowKit Go.Proofs.Ytpmipllohiiocaa.PTreeBuilds Go.Proofs.YtpmipllohiiocaaW.PrintWords Go.Proofs.YtpmipllohiiocaaW.PrintLast Go.Proofs.YtpmipllohiiocaaW.PrintMore Go.Proofs.Ytpmipllohiiocaa.bs Go.ChangeShapes Go.Proofs.Ytpmipllohiiocaa.lb Go.Proofs.Ytpmipllohiiocaa.ar Go.Maps

/-- the box of some cells, the first of them c0 -/
def bxOf (c0 : Cl) (cs : List Cl) : Bx := boxL (Bx.one c0) (c0 :: cs)
def bxLv (b : Bx) : Nat := lvl b.la b.lb b.ha b.hb
/-- is the box inside the root of its level? -/
def BxIn (b : Bx) : Prop := Ins (pw (bxLv b - 1)) b.la b.lb ∧ Ins (pw (bxLv b - 1)) b.ha b.hb
theorem boxL_le : ∀ (cs : List Cl) (b : Bx), (boxL b cs).la ≤ b.la ∧ (boxL b cs).lb ≤ b.lb ∧ b.ha ≤ (boxL b cs).ha ∧ b.hb ≤ (boxL b cs).hb ∧ ∀ c ∈ cs, (boxL b cs).la ≤ c.f0.f0 ∧ (boxL b cs).lb ≤ c.f0.f1 ∧ c.f0.f0 ≤ (boxL b cs).ha ∧ c.f0.f1 ≤ (boxL b cs).hb
  | [], b => ⟨Int.le_refl _, Int.le_refl _, Int.le_refl _, Int.le_refl _, fun c h => by simp at h⟩
  | x :: cs, b => by
    obtain ⟨h1, h2, h3, h4, h5⟩ := boxL_le cs (b.add x)
    have e : boxL b (x :: cs) = boxL (b.add x) cs := rfl
    rw [e]
    have a1 : (b.add x).la = min b.la x.f0.f0 := rfl
    have a2 : (b.add x).lb = min b.lb x.f0.f1 := rfl
    have a3 : (b.add x).ha = max b.ha x.f0.f0 := rfl
    have a4 : (b.add x).hb = max b.hb x.f0.f1 := rfl
    refine ⟨by omega, by omega, by omega, by omega, fun c hc => ?_⟩
    rcases List.mem_cons.1 hc with rfl | hc
    · omega
    · exact h5 c hc
/-- what a range over a map of leaves has come to: the points that are no more to come -/
structure PtsFrom (D : DataW Unit) (left : Lit → Bool) (pts : List Pt) : Prop where
  bd : ∀ q ∈ pts, I64 q.f0 ∧ I64 q.f1
  iff : ∀ a b, I64 a → I64 b → ((⟨a, b⟩ : Pt) ∈ pts ↔ (Maps.has D (pk a b) = true ∧ left (pk a b) = false))
theorem ptsFrom_start {D : DataW Unit} : PtsFrom D (Maps.has D) [] := ⟨fun q h => by simp at h, fun a b _ _ => by simp⟩
theorem PtsFrom.step {D : DataW Unit} {left : Lit → Bool} {pts : List Pt} (h : PtsFrom D left pts) {a b : Int} (ha : I64 a) (hb : I64 b) (hl : Maps.has D (pk a b) = true) :
    PtsFrom D (fun z => left z && !z.sameKey (pk a b)) (pts ++ [⟨a, b⟩]) := by
  refine ⟨fun q hq => ?_, fun x y hx hy => ?_⟩
  · rw [List.mem_append, List.mem_singleton] at hq
    rcases hq with hq | rfl
    · exact h.bd q hq
    · exact ⟨ha, hb⟩
  · rw [List.mem_append, List.mem_singleton, h.iff x y hx hy]
    by_cases e : x = a ∧ y = b
    · obtain ⟨rfl, rfl⟩ := e
      rw [WideAt.sameKey_self (pk_key x y)]
      simp [hl]
    · have hne : pk x y ≠ pk a b := fun e2 => e (pk_inj hx hy ha hb e2)
      rw [sameKey_ne hne]
      constructor
      · rintro (h1 | h1)
        · simpa using h1
        · injection h1 with h1 h2; exact absurd ⟨h1, h2⟩ e
      · intro h1
        left
        simpa using h1
theorem PtsFrom.ok {D : DataW Unit} {left : Lit → Bool} {pts : List Pt} (h : PtsFrom D left pts) (hl : ∀ kl, left kl = false) {cs : List Cl} (hcs : ∀ c ∈ cs, ClOk c) (hD : MapIs D (Gl cs)) {b : Bx} (hb : ∀ c ∈ cs, b.la ≤ c.f0.f0 ∧ b.lb ≤ c.f0.f1 ∧ c.f0.f0 ≤ b.ha ∧ c.f0.f1 ≤ b.hb) {n : Nat} (hn : n ≤ 42)
    (hi : Ins (pw (n + 1)) b.la b.lb ∧ Ins (pw (n + 1)) b.ha b.hb) (h1 : 1 ≤ n) : PtsOk (Gl cs) n (-pw (n + 1)) (-pw (n + 1)) pts := by
  obtain ⟨⟨i1, i2, i3, i4⟩, ⟨j1, j2, j3, j4⟩⟩ := hi
  have hp : (2 : Int) ^ (n + 2) = 2 * pw (n + 1) := by have := pw_succ (n + 1); unfold pw at *; omega
  have hm : pw (n + 1) % 4 = 0 := by
    obtain ⟨m, rfl⟩ : ∃ m, n = m + 1 := ⟨n - 1, by omega⟩
    rw [pw_succ, pw_succ]; omega
  have hbd := pw_bd (show n + 1 ≤ 44 by omega)
  constructor
  · intro q hq
    obtain ⟨h3, h4⟩ := h.bd q hq
    have := (h.iff q.f0 q.f1 h3 h4).1 hq
    have hg := (hD.has q.f0 q.f1 h3 h4).1 this.1
    obtain ⟨c, hc, e1, e2⟩ := (Gl_ne cs hcs q.f0 q.f1).1 hg
    obtain ⟨k1, k2, k3, k4⟩ := hb c hc
    rw [hp]
    refine ⟨by omega, by omega, by omega, by omega, by omega, by omega⟩
  · intro x y h3 h4 h5 h6 hg
    rw [hp] at h4 h6
    have hx : I64 x := by constructor <;> omega
    have hy : I64 y := by constructor <;> omega
    exact (h.iff x y hx hy).2 ⟨(hD.has x y hx hy).2 hg, hl _⟩
theorem ranges_has {w : World} {M r n cnt : Nat} {D : DataW Unit} {left : Lit → Bool} (h : w.ranges Try.prog 32 (plainElem (H := Unit) Try.prog 34) M r n D left cnt) {kl : Lit} (hl : left kl = true) : Maps.has D kl = true := by
  obtain ⟨es, clock, since, seen, c0, hb, F, hs, rfl, hr, _, _, _, hl2, _, _⟩ := h
  obtain ⟨x, hx, rfl⟩ := hl2 kl hl
  obtain ⟨y, hy⟩ := F.reads x hx
  exact List.any_eq_true.2 ⟨WideElems.rg Try.prog 32 (plainElem (H := Unit) Try.prog 34) x, mem_sorted.2 (List.mem_map.2 ⟨x, hx, rfl⟩), WideAt.sameKey_self (by rw [WideElems.rg_of hy]; exact lawP.key (WideElems.rd_key hy))⟩
section
variable {w0 w w1 w2 w3 : World} {F F' F2 S : Nat → Prop} {p : Nat} {nodes nodes' nodes2 : List Nd} {empty empty' empty2 : List Int} {most : Int} {M nm : Nat} {D : DataW Unit} {G : Int → Int → Int}
set_option maxRecDepth 100000 in
set_option maxHeartbeats 1000000 in
theorem tbuild_nil (hT : Tr w0 w F p nodes empty most) (A : Option Addr) (c : Nat) (hC : Kd.C k39 w A 0 []) (hN : nodes.length < 536870800) :
    Calls Try.prog 37 #[.pointer (some ⟨p, 0, none⟩), .slice A 0 c] w fun e w' => Gets w0 w F p nodes empty most (emptyQ 1) 0 (∃ i, Rep nodes (emptyQ 1) i) e w' := by
  have hbx := box_walk A c [] w hC
  rw [show boxV [] = .tuple #[.agg #[.int .i64 0, .int .i64 0, .int .i64 0, .int .i64 0], .bool false] from rfl] at hbx
  have HBX := Aside0.mk hbx
  have HT := Aside0.mk hT
  clear hbx hT hC
  go_enter Try.func37, Try.ntmps37
  go_wp2_with (first | (go_at_call 54; refine HBX.out.mono ?_; rintro e w1 ⟨rfl, hb1⟩; have HB1 := Aside0.mk hb1; clear hb1) | (go_at_call 55; have HB2 := Aside0.mk (below_alloc HB1.out (.cells #[.int .i64 0, .int .i64 0, .int .i64 0, .int .i64 0] 55)); refine (tr_empty (HT.out.below HB2.out) 1 (by omega) hN).mono ?_; intro e w2 hp; obtain ⟨r, code, rfl, hg⟩ := Gets.same hp; have HG := Aside0.mk hg; clear hp hg))
  go_ret2
  exact HG.out.from HB2.out
set_option maxRecDepth 100000 in
set_option maxHeartbeats 4000000 in
theorem tbuild_ok (hT : Tr w0 w F p nodes empty most) (A : Option Addr) (c : Nat) (c0 : Cl) (cs0 cs : List Cl) (hcs0 : cs = c0 :: cs0) (hC : Kd.C k39 w A cs.length cs) (hcs : ∀ c ∈ cs, ClOk c) (hl : cs.length ≤ 1000000) (hin : BxIn (bxOf c0 cs0))
    (hN : nodes.length + cs.length * (bxLv (bxOf c0 cs0) - 1) + 45 < 536870800 + empty.length) :
    Calls Try.prog 37 #[.pointer (some ⟨p, 0, none⟩), .slice A cs.length c] w fun e w' => Gets w0 w F p nodes empty most (sqQ cs (bxLv (bxOf c0 cs0) - 2) (-pw (bxLv (bxOf c0 cs0) - 1)) (-pw (bxLv (bxOf c0 cs0) - 1))) (cs.length * (bxLv (bxOf c0 cs0) - 1)) (∃ i, Rep nodes (sqQ cs (bxLv (bxOf c0 cs0) - 2) (-pw (bxLv (bxOf c0 cs0) - 1)) (-pw (bxLv (bxOf c0 cs0) - 1))) i) e w' := by
  have hbx := box_walk A c cs w hC
  rw [show boxV cs = .tuple #[.agg #[.int .i64 (bxOf c0 cs0).la, .int .i64 (bxOf c0 cs0).lb, .int .i64 (bxOf c0 cs0).ha, .int .i64 (bxOf c0 cs0).hb], .bool true] by rw [hcs0]; rfl] at hbx
  have hbin := (boxL_le cs (Bx.one c0)).2.2.2.2
  rw [hcs0, show boxL (Bx.one c0) (c0 :: cs0) = bxOf c0 cs0 from rfl, ← hcs0] at hbin
  obtain ⟨hlv, _, _⟩ := lvl_tells (bxOf c0 cs0).la (bxOf c0 cs0).lb (bxOf c0 cs0).ha (bxOf c0 cs0).hb
  rw [show lvl (bxOf c0 cs0).la (bxOf c0 cs0).lb (bxOf c0 cs0).ha (bxOf c0 cs0).hb = bxLv (bxOf c0 cs0) from rfl] at hlv
  have hlev := fun w => tlevel_walk (bxOf c0 cs0).la (bxOf c0 cs0).lb (bxOf c0 cs0).ha (bxOf c0 cs0).hb w
  simp only [show lvl (bxOf c0 cs0).la (bxOf c0 cs0).lb (bxOf c0 cs0).ha (bxOf c0 cs0).hb = bxLv (bxOf c0 cs0) from rfl] at hlev
  have hin' := hin
  unfold BxIn at hin'
  generalize bxOf c0 cs0 = b at *
  obtain ⟨n, hn⟩ : ∃ n, bxLv b = n + 2 := ⟨bxLv b - 2, by omega⟩
  rw [hn] at hlev hin' hN ⊢
  have hhx := hx_nat (n + 2) (by omega) (by omega)
  have hi1 := fun w => tinside_walk ((n + 2 : Nat) : Int) b.la b.lb w
  have hi2 := fun w => tinside_walk ((n + 2 : Nat) : Int) b.ha b.hb w
  have hor := fun w => torigin_walk ((n + 2 : Nat) : Int) w
  rw [show n + 2 - 1 = n + 1 from rfl] at hhx hin' hN ⊢
  rw [show n + 2 - 2 = n from rfl]
  simp only [hhx, decide_eq_true hin'.1] at hi1
  simp only [hhx, decide_eq_true hin'.2] at hi2
  simp only [hhx] at hor
  simp only [show ((n + 2 : Nat) : Int) = (n : Int) + 2 by omega] at hi1 hi2 hor hlev
  have HBX := Aside0.mk hbx
  have HT := Aside0.mk hT
  have HC := Aside0.mk hC
  have HCS := Aside0.mk hcs
  have HIN := Aside0.mk hin'
  have HLEV := Aside0.mk hlev
  have HI1 := Aside0.mk hi1
  have HI2 := Aside0.mk hi2
  have HOR := Aside0.mk hor
  have HBIN := Aside0.mk hbin
  have HN := Aside0.mk hN
  have hn42 : 1 ≤ n ∧ n ≤ 42 := by omega
  clear hbx hT hC hcs hin' hlev hi1 hi2 hor hbin hN hn hhx hcs0 hin hlv
  go_enter Try.func37, Try.ntmps37
  go_upto_region 4 with (go_at_call 54; refine HBX.out.mono ?_; rintro e w1 ⟨rfl, hb1⟩; have HB1 := Aside0.mk hb1; clear hb1)
  have hB2 := below_alloc HB1.out (.cells #[.int .i64 b.la, .int .i64 b.lb, .int .i64 b.ha, .int .i64 b.hb] 55)
  have HB2 := Aside0.mk hB2
  have hkb := blk_new w1 (.cells #[.int .i64 b.la, .int .i64 b.lb, .int .i64 b.ha, .int .i64 b.hb] 55)
  have b0 := blk_cell hkb 0
  have b1 := blk_cell hkb 1
  have b2 := blk_cell hkb 2
  have b3 := blk_cell hkb 3
  simp only [List.getElem?_toArray, List.getElem?_cons_zero, List.getElem?_cons_succ] at b0 b1 b2 b3
  clear hB2 hkb HB1 HBX
  generalize w1.alloc (.cells #[.int .i64 b.la, .int .i64 b.lb, .int .i64 b.ha, .int .i64 b.hb] 55) = w2 at *
  generalize w1.heap.size = B at *
  go_upto_region 5 with (go_at_call 56; refine (HLEV.out _).mono ?_; rintro e w3 ⟨rfl, hb3⟩; have HB3 := Aside0.mk (HB2.out.trans (hb3.mono HB2.out.size)); replace b0 := pw_cell_below hb3 b0; replace b1 := pw_cell_below hb3 b1; replace b2 := pw_cell_below hb3 b2; replace b3 := pw_cell_below hb3 b3; clear hb3)
  clear HB2 HLEV
  go_upto_region 7 with (first | (go_at_call 45; with_reducible refine (HI1.out _).mono ?_; rintro e w4 ⟨rfl, hb4⟩; have HB4 := Aside0.mk (HB3.out.trans (hb4.mono HB3.out.size)); replace b0 := pw_cell_below hb4 b0; replace b1 := pw_cell_below hb4 b1; replace b2 := pw_cell_below hb4 b2; replace b3 := pw_cell_below hb4 b3; clear hb4) | (go_at_call 45; with_reducible refine (HI2.out _).mono ?_; rintro e w5 ⟨rfl, hb5⟩; have HB5 := Aside0.mk (HB4.out.trans (hb5.mono HB4.out.size)); clear hb5))
  clear HB3 HB4 HI1 HI2 b0 b1 b2 b3
  go_upto_region 8 with (go_at_call 8; refine (leaves_walk A c cs _ (Kd.C_below HC.out HB5.out) HCS.out).mono ?_; rintro e w6 ⟨M, D, rfl, hmap, hown, hMle, hb6⟩; have HMAP := Aside0.mk hmap; have HOWN := Aside0.mk hown; have HB6 := Aside0.mk (HB5.out.trans (hb6.mono HB5.out.size)); have HML := Aside0.mk (Nat.le_trans HB5.out.size hMle); clear hmap hown hMle hb6)
  clear HB5
  go_wp2_with (at_range; refine wpList_range_own _ rfl _ 29 rfl 32 34 lawP Try.underlying29 (plainElem (H := Unit) Try.prog 34) M cs.length D rfl HOWN.out ?_; intro w7 hrg7 hg7 hs7)
  go_frame
  have hsz := World.ownsMap.size_le HOWN.out
  obtain ⟨r, hr⟩ : ∃ r, w6.heap.size = r := ⟨_, rfl⟩
  have HMR := Aside0.mk (show M < r by rw [← hr]; exact HOWN.out.lt)
  have HB7 := Aside0.mk (HB6.out.grown hg7 HB6.out.size (fun j hj => by cases hj))
  have HWR := Aside0.mk (show w.heap.size ≤ r by rw [← hr]; exact HB6.out.size)
  have HR7 := Aside0.mk (show r < w7.heap.size by rw [hs7, hr]; omega)
  rw [hr] at hrg7 ⊢
  have HRG7 := Aside0.mk hrg7
  have HSZ := Aside0.mk hsz
  clear hg7 hs7 hr hrg7 hsz HB6 HOWN
  go_loopw [10] (fun c10 wr => ∃ (left : Lit → Bool) (cnt : Nat) (pts : List Pt), Aside0 (wr.ranges Try.prog 32 (plainElem (H := Unit) Try.prog 34) M r cs.length D left cnt) ∧ Aside0 (PtsFrom D left pts) ∧ Aside0 (Kd.R k32 32 wr (r + 1) (fun k => r < k) c10 pts) ∧ pts.length + cnt ≤ cs.length ∧ Aside0 (Below w.heap.size w wr) ∧ r < wr.heap.size)
      (fun _ wr => wr.rangeLeft M r)
  case atStart => exact ⟨_, _, [], HRG7, ⟨ptsFrom_start⟩, ⟨Kd.R_nil _ _ _ _ _⟩, by simpa using HSZ.out, HB7, HR7.out⟩
  case round =>
    clear HRG7 HB7 HR7 HSZ
    obtain ⟨left, cnt, pts, HRG, HPF, HR, hcnt, HB, hrl⟩ := hrel
    obtain ⟨A1, c1, rfl⟩ := Kd.R_slice HR.out
    go_wp2_with (at_next; refine wpList_next_ranges _ rfl _ rfl 32 lawP (plainElem (H := Unit) Try.prog 34) (fun v : Value => v) (fun x : Int => Value.int .u32 x) (fun key kl _ => ⟨key, rfl⟩) (fun v y hv => by obtain ⟨c, rfl, _⟩ := plainElem_int_inv Try.underlying34 hv; exact ⟨c, rfl⟩) M r cs.length D left cnt rfl HRG.out ?_ ?_)
    · intro h0 hl0
      have hpo := HPF.out.ok hl0 HCS.out HMAP.out HBIN.out (by omega) HIN.out hn42.1
      have hbd := pw_bd (show n + 1 ≤ 44 by omega)
      have h43 := pw_le (show n + 1 ≤ 43 by omega)
      have e43 : pw 43 = 8796093022208 := by decide
      have hp2 : (2 : Int) ^ (n + 2) = 2 * pw (n + 1) := by have := pw_succ (n + 1); unfold pw at *; omega
      have hm : pw (n + 1) % 4 = 0 := by
        obtain ⟨m, hm⟩ : ∃ m, n = m + 1 := ⟨n - 1, by omega⟩
        rw [hm, pw_succ, pw_succ]; omega
      have hpts : pts.length * (n + 1) ≤ cs.length * (n + 1) := Nat.mul_le_mul_right _ (by omega)
      have hbw := fun (wx : World) (hb : Below wr.heap.size wr wx) => build_walk n F nodes empty wx pts A1 c1 (-pw (n + 1)) (-pw (n + 1)) hn42.2 ((show BdIn w0 wr F p nodes empty most M cs.length D (Gl cs) from ⟨HT.out.below HB.out, HRG.out.owns, HMAP.out, fun hf => by have := HT.out.hold.hi M hf; have := HML.out; omega, Gl_bd cs⟩).below hb) (Kd.C_below (Kd.R_reads' HR.out).2.2 hb) hpo (by omega) (by omega) (by rw [hp2]; omega) (by rw [hp2]; omega) (by omega) (by have := HN.out; omega)
      have HBW := Aside0.mk hbw
      have HPL := Aside0.mk hpts
      clear hpo hbd h43 e43 hp2 hm hpts hbw
      go_wp2_with (first | (go_at_call 40; refine (HOR.out _).mono ?_; rintro e w8 ⟨rfl, hb8⟩; have HB8 := Aside0.mk hb8; clear hb8) | (go_at_call 57; refine (HBW.out _ HB8.out).mono ?_; intro e w9 hp; obtain ⟨rr, code, rfl, hg⟩ := Gets.same hp; have HG := Aside0.mk hg; clear hp hg))
      go_ret2
      exact (HG.out.from (HB.out.trans (HB8.out.mono HB.out.size))).mono HPL.out
    · intro x cv kl y yp w8 cnt1 hkx hlk hpe hat hrg8 hlt hg8 hs8 hen
      have hhas := ranges_has HRG.out hlk
      obtain ⟨a, b', hia, hib, rfl⟩ := HMAP.out.key kl hhas
      obtain rfl : x = ptV a b' := lawP.inj hkx (keyPt hia hib)
      unfold ptV at hen ⊢
      have HPF8 := Aside0.mk (HPF.out.step hia hib hhas)
      have HR8 := Aside0.mk (Kd.R_below (Kd.R_grown HR.out hg8 (fun k hk e => by injection e with e; omega)) (below_alloc (Below.refl _ _) (.cells #[.int .i64 a, .int .i64 b'] 32)))
      have HB8 := Aside0.mk (below_alloc (HB.out.grown hg8 HB.out.size (fun j hj => by injection hj with hj; rw [← hj]; exact HWR.out)) (.cells #[.int .i64 a, .int .i64 b'] 32))
      have HRG8 := Aside0.mk (hrg8.kept (World.grownBy_alloc w8 (.cells #[.int .i64 a, .int .i64 b'] 32) none) (by simp) (by simp))
      have hs9 : (w8.alloc (.cells #[.int .i64 a, .int .i64 b'] 32)).heap.size = wr.heap.size + 1 := by rw [World.size_alloc, hs8]
      have HS9 := Aside0.mk hs9
      have HLE := Aside0.mk hrg8.left_eq
      have hpl := Nat.le_trans (by omega : pts.length ≤ cs.length) hl
      clear hs8 hs9 hrg8 hg8 hkx hlk hpe hat hhas hia hib
      go_upto_region 12 with (fail)
      have hkp := blk_new w8 (.cells #[.int .i64 a, .int .i64 b'] 32)
      have p0 := blk_cell hkp 0
      have p1 := blk_cell hkp 1
      simp only [List.getElem?_toArray, List.getElem?_cons_zero, List.getElem?_cons_succ] at p0 p1
      clear hkp hen
      generalize w8.alloc (.cells #[.int .i64 a, .int .i64 b'] 32) = w9 at *
      generalize w8.heap.size = X at *
      go_wp2_with (first | ((with_reducible refine gate_builtin (b := .append) (xs := #[.tmp 46, .tmp 48]) rfl ?_); at_builtin; refine Kd.R_append k32 (w0 := w9) (r + 1) rfl (.tmp 46) (.tmp 48) 109 32 (.agg #[.int .i64 0, .int .i64 0]) 16 rfl Try.underlying109 infoP rfl (by decide) (by decide) (.slice A1 pts.length c1) pts (⟨a, b'⟩ : Pt) [.int .i64 a, .int .i64 b'] (fun k => r < k) (fun _ => False) rfl rfl (k32_mkM _ _ _ _) (fun _ hk => hk.elim) (fun k hk => by have := HS9.out; omega) HR8.out (Below.refl _ _) (by have := HS9.out; omega) (by omega) ?_; intro v1 w10 ho10 hb10 hg10 hat10; have HO10 := Aside0.mk ho10; have HG10 := Aside0.mk hg10; clear ho10 hb10 hg10 hat10))
      have HRG10 := Aside0.mk (HRG8.out.kept HG10.out (fun e => by have := HR8.out.1 M e.symm; have := HMR.out; omega) (fun e => by have := HR8.out.1 r e.symm; omega))
      have HB10 := Aside0.mk (HB8.out.grown HG10.out HB8.out.size (fun j hj => by have := HR8.out.1 j hj; have := HWR.out; omega))
      have HL10 : Aside0 (r < w10.heap.size) := ⟨by have := HG10.out.size; have := HS9.out; omega⟩
      go_roundw
      case rel => exact ⟨_, cnt1, _, HRG10, HPF8, HO10, by rw [List.length_append]; simp; omega, HB10, HL10.out⟩
      case measure => rw [HRG10.out.left_eq, HRG.out.left_eq]; exact hlt
end
end Go.Proofs.Ytpmipllohiiocaa.tr
