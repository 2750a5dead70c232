/- The walk over the law's Grown: an arena of leaves and joins, and the reference's list of it. -/
import Derived.Test.YtbkbkgfpnefilaaMGw
import Derived.Deep.RegionHeldLaw
import Derived.StillTailTactics
namespace Go.Proofs.Ytbkbkgfpnefilaa.ar
open Go.RowKit Go.Proofs.YtbkbkgfpnefilaaW.PrintWords Go.Proofs.YtbkbkgfpnefilaaW.PrintLast Go.Proofs.YtbkbkgfpnefilaaW.PrintMore Go.Proofs.Ytbkbkgfpnefilaa.bs Go.ChangeShapes Go.Proofs.Ytbkbkgfpnefilaa.lb Go.Maps

theorem buildRn1 (w : World) : (Instr.build 84 #[(0, .int .i64 2)]).run Try.prog w = .ok (.agg #[.int .i64 2, .int .u32 0, .int .i64 0, .int .i64 0, .int .i64 0, .int .i64 0, .int .u64 0]) w := by kernel_rfl
attribute [local go_sem high] buildRn1
attribute [local go_sem] max_two
theorem R_lit1 (W : World) (x : Nd) (base : Nat) (hb : base ≤ W.heap.size) : Kd.R kRn 84 (W.alloc (.cells x.rcells.toArray 84)) base (fun _ => True) (.slice (some ⟨W.heap.size, 0, none⟩) 1 1) [x] := by
  refine ⟨fun _ _ => trivial, x.rcells, ?_, ⟨rfl, fun j p hj => ?_⟩⟩
  · have h2 := World.ownsRow_lit (base := base) (e := 84) (size := 7) W x.rcells.toArray 1 hb (by decide) (by simp [Nd.rcells])
    exact (show (W.alloc (.cells x.rcells.toArray 84)).ownsRow base 84 7 (.slice (some ⟨W.heap.size, 0, none⟩) 1 1) 1 x.rcells from by simpa using h2)
  · match j, hj with
    | 0, hj =>
      cases hj
      exact kRn_mkM _ _ _ x
set_option maxHeartbeats 1000000 in
theorem rnew_walk (most : Int) (hm : most ≤ 9223372036854775807) (w : World) : Calls Try.prog 81 #[.int .i64 most] w fun e w' => ∃ A c, e = .returned (.agg #[.slice A 1 c, .int .i64 (max most 64)]) ∧ Kd.R kRn 84 w' w.heap.size (fun _ => True) (.slice A 1 c) [nd0] ∧ Below w.heap.size w w' := by
  obtain ⟨mm, hmm, hmax⟩ : ∃ mm : Int, max most 64 = mm ∧ Builtin.max2 (.int .i64 most) (.int .i64 64) = pure (.int .i64 mm) := ⟨_, rfl, by rw [max2_int]; congr 2; split <;> omega⟩
  have HMM := Aside0.mk hmm
  clear hmm
  go_enter Try.func81, Try.ntmps81
  go_wp2_with (fail)
  have hr := R_lit1 (w.alloc (.cells #[.slice (some ⟨w.heap.size + 1, 0, none⟩) 1 1, .int .i64 mm] 79)) nd0 w.heap.size (by simp)
  have kg := blk_below (blk_new w (.cells #[.slice (some ⟨w.heap.size + 1, 0, none⟩) 1 1, .int .i64 mm] 79)) (below_alloc (Below.refl _ _) (.cells nd0.rcells.toArray 84))
  have hB := below_alloc (below_alloc (Below.refl w.heap.size w) (.cells #[.slice (some ⟨w.heap.size + 1, 0, none⟩) 1 1, .int .i64 mm] 79)) (.cells nd0.rcells.toArray 84)
  rw [show (w.alloc (.cells #[.slice (some ⟨w.heap.size + 1, 0, none⟩) 1 1, .int .i64 mm] 79)).heap.size = w.heap.size + 1 by simp] at hr
  have g0 := blk_cell kg 0
  have g1 := blk_cell kg 1
  simp only [List.getElem?_toArray, List.getElem?_cons_zero, List.getElem?_cons_succ] at g0 g1
  rw [HMM.out]
  exact bodyPost_ret (v := .agg #[.slice (some ⟨w.heap.size + 1, 0, none⟩) 1 1, .int .i64 mm]) (by simp [results, Try.results81, go_sem]) rfl ⟨_, _, rfl, hr, hB⟩
abbrev A4 := Int × Int × Int × Int
def kA4 : Kd A4 := Kd.pair (Kd.int .i64) (Kd.pair (Kd.int .i64) (Kd.pair (Kd.int .i64) (Kd.int .i64)))
theorem kA4_open {w : World} {x : A4} {cs : List Value} (h : kA4.K w x cs) : cs = [.int .i64 x.1, .int .i64 x.2.1, .int .i64 x.2.2.1, .int .i64 x.2.2.2] := by
  obtain ⟨_, _, rfl, rfl, ⟨_, _, rfl, rfl, ⟨_, _, rfl, rfl, rfl⟩⟩⟩ := h
  exact rfl
/-- a cell of a row of numbers that is read -/
theorem at_Z {k : IntKind} {w : World} {A : Option Addr} {n : Nat} {xs : List Int} (h : Kd.C (Kd.int k) w A n xs) (j : Nat) (x : Int) (hx : xs[j]? = some x) : ∃ ad, A = some ad ∧ w.cell? (ad.add j) = some (.int k x) := by
  have hlt := (List.getElem?_eq_some_iff.1 hx).1
  have hn := h.1
  obtain ⟨ad, c, e, _, hK, hc⟩ := Kd.C_get h 0 (j : Int) (by omega) (by omega)
  rw [Int.toNat_natCast, List.getD_eq_getElem?_getD, hx] at hK
  have e2 : c = [.int k x] := hK
  subst e2
  have h0 := hc 0 _ rfl
  rw [Int.toNat_natCast] at h0
  exact ⟨ad, e, by simpa [show (Kd.int k).sz = 1 from rfl] using h0⟩
/-- what is known of the nodes -/
structure Good (nodes : List Nd) : Prop where
  ok : RnOk nodes
  wf : WF nodes
  lv : Lv44 nodes
  zero : nodes[0]? = some nd0
theorem good0 : Good [nd0] := ⟨fun i x hx => by
    have hi := (List.getElem?_eq_some_iff.1 hx).1
    obtain rfl : i = 0 := by simp at hi; omega
    obtain rfl := Option.some.inj hx
    exact ⟨by decide, by decide, by decide, by decide, by decide, fun _ => ⟨rfl, rfl, rfl, rfl⟩, fun h => absurd h (by decide)⟩, wf0, fun i q hq => by
    have hi := hq.lt
    obtain rfl : i = 0 := by simp at hi; omega
    rw [hq.one rep0]; decide, rfl⟩
theorem sGr {w : World} {X : Nat} {v : Value} {m f : Int} {t : TypeId} {ad : Addr} (hX : w.heap[X]? = some (.cells #[v, .int .i64 m] t (0, 0))) (hc : w.cell? ad = some (.int .u32 f)) :
    w.cell? ⟨X, 0, none⟩ = some v ∧ w.cell? ⟨X, 1, none⟩ = some (.int .i64 m) ∧ w.cell? ad = some (.int .u32 f) := ⟨blk_cell hX 0, blk_cell hX 1, hc⟩
/-- a reference's answer laid into a variable of the call -/
def YP (w0 wr : World) (F : Nat → Prop) (r : List Nd × Int × Int) (v6 v7 v8 : Value) (wx : World) : Prop :=
  ∃ y A1 c1, v6 = .pointer (some ⟨y, 0, none⟩) ∧ v7 = .int .i64 r.2.1 ∧ v8 = .int .i64 r.2.2 ∧ wx.heap[y]? = some (.cells #[.slice A1 r.1.length c1, .int .i64 1000] 79 (0, 0)) ∧ ¬ F y ∧ wr.heap.size ≤ y ∧ Kd.R kRn 84 wx 0 (Oth w0 F) (.slice A1 r.1.length c1) r.1 ∧ Below wr.heap.size wr wx
section
variable {w0 wr w1 : World} {F : Nat → Prop} {X R p n : Nat} {nodes : List Nd} {xv av : Value} {r : List Nd × Int × Int} {A1 : Option Addr} {c1 : Nat}
theorem yp_new (D : Gx w0 wr F X R p nodes n xv av) (hb : Below wr.heap.size wr w1) (hR : Kd.R kRn 84 w1 0 (More (Oth w0 F) wr) (.slice A1 r.1.length c1) r.1) :
    YP w0 wr F r (.pointer (some ⟨w1.heap.size, 0, none⟩)) (.int .i64 r.2.1) (.int .i64 r.2.2) (w1.alloc (.cells #[.slice A1 r.1.length c1, .int .i64 1000] 79)) :=
  ⟨_, A1, c1, rfl, rfl, rfl, blk_new w1 _, fun hf => by have := D.hold.hi _ hf; have := hb.size; omega, hb.size, Kd.R_alloc (oth_more D.hold D.below hR) _, below_alloc hb _⟩
theorem yp_old (D : Gx w0 wr F X R p nodes n xv av) (hb : Below wr.heap.size wr w1) (hR : Kd.R kRn 84 w1 0 (More (Oth w0 F) wr) (.slice A1 r.1.length c1) r.1) (ky : w1.heap[wr.heap.size]? = some (.cells #[.slice none 0 0, .int .i64 0] 79 (0, 0))) :
    YP w0 wr F r (.pointer (some ⟨wr.heap.size, 0, none⟩)) (.int .i64 r.2.1) (.int .i64 r.2.2) ((w1.setCell ⟨wr.heap.size, 0, none⟩ (.slice A1 r.1.length c1)).setCell ⟨wr.heap.size, 1, none⟩ (.int .i64 1000)) :=
  ⟨_, A1, c1, rfl, rfl, rfl, blk_put (blk_set ky 0 _) 1 _ rfl, fun hf => by have := D.hold.hi _ hf; omega, Nat.le_refl _, Kd.R_set (Kd.R_set (oth_more D.hold D.below hR) ky tyRnA 0 _) (blk_set ky 0 _) tyRnA 1 _, (hb.setCell (p := ⟨wr.heap.size, 0, none⟩) (Nat.le_refl _) _).setCell (p := ⟨wr.heap.size, 1, none⟩) (Nat.le_refl _) _⟩
end
theorem zero_ext {nodes : List Nd} {r : List Nd × Int × Int} (h : nodes[0]? = some nd0) (hs : Step nodes r) : r.1[0]? = some nd0 := by
  obtain ⟨l, hl, _⟩ := hs.ext
  have := (List.getElem?_eq_some_iff.1 h).1
  rw [hl, List.getElem?_append_left this]; exact h
theorem good_leaf {nodes : List Nd} {f : Nat} {r : List Nd × Int × Int} (h : Good nodes) (hs : Step nodes r) (hm : Makes nodes 1000 (.leaf f) r) : Good r.1 := by
  refine ⟨hs.ok h.ok, hm.wf, fun i q hq => ?_, zero_ext h.zero hs⟩
  by_cases hlt : i < nodes.length
  · obtain ⟨q', hq'⟩ := h.wf i hlt
    obtain ⟨l, hl, _⟩ := hs.ext
    rw [hl] at hq
    rw [hq.one (hq'.ext l)]
    exact h.lv i q' hq'
  · obtain ⟨h1, h2⟩ := hm.new i (by omega) hq.lt
    obtain ⟨j, hj, hr⟩ := hm.good h2
    obtain rfl : j = i := by omega
    rw [hq.one hr]
    show (2 : Int) ≤ 44
    decide
theorem lvAt_rep {nodes : List Nd} (h : Good nodes) {k : Nat} (hk : k < nodes.length) : ∃ q, Rep nodes q k ∧ lvAt nodes k = q.lv := by
  obtain ⟨q, hq⟩ := h.wf k hk
  exact ⟨q, hq, hq.lv⟩
/-- a join keeps what is known of the nodes -/
theorem good_join {nodes : List Nd} (h : Good nodes) (ho : Once nodes) (hN : nodes.length < 2147483648) (f0 f1 f2 f3 : Nat) (b0 : f0 < nodes.length) (b1 : f1 < nodes.length) (b2 : f2 < nodes.length) (b3 : f3 < nodes.length) : Good (rjoinR nodes 1000 f0 f1 f2 f3).1 := by
  have hst := rjoinR_step h.ok 1000 f0 f1 f2 f3
  by_cases hf : fitsR nodes f0 f1 f2 f3
  · by_cases hl : 43 < lvAt nodes f0
    · have : rjoinR nodes 1000 f0 f1 f2 f3 = (nodes, 0, 7) := by unfold rjoinR; rw [if_pos hf, if_pos hl]
      rw [this]; exact h
    · obtain ⟨g0, g1, g2, g3⟩ := hf
      obtain ⟨qa, ra, la⟩ := lvAt_rep h b0
      obtain ⟨qb, rb, lb⟩ := lvAt_rep h b1
      obtain ⟨qc, rc, lc⟩ := lvAt_rep h b2
      obtain ⟨qd, rd, ld⟩ := lvAt_rep h b3
      have e1 : qb.lv = qa.lv := by rw [← lb, ← la]; exact g1.2.2.2.2
      have e2 : qc.lv = qa.lv := by rw [← lc, ← la]; exact g2.2.2.2.2
      have e3 : qd.lv = qa.lv := by rw [← ld, ← la]; exact g3.2.2.2.2
      have how : ∀ f : Nat, f < nodes.length → ownOf nodes (f : Int) = (f : Int) := fun f hf => if_pos ⟨by omega, by omega⟩
      have hs := join_same h.ok hN 1000 f0 f1 f2 f3
      rw [how f0 b0, how f1 b1, how f2 b2, how f3 b3] at hs
      have hm := join_makes h.wf ho 1000 ra rb rc rd e1 e2 e3 (by omega)
      rw [hs] at hm
      refine ⟨hst.ok h.ok, hm.wf, fun i q hq => ?_, zero_ext h.zero hst⟩
      by_cases hlt : i < nodes.length
      · obtain ⟨q', hq'⟩ := h.wf i hlt
        obtain ⟨l, hl, _⟩ := hst.ext
        rw [hl] at hq
        rw [hq.one (hq'.ext l)]
        exact h.lv i q' hq'
      · obtain ⟨h1, h2⟩ := hm.new i (by omega) hq.lt
        obtain ⟨j, hj, hr⟩ := hm.good h2
        obtain rfl : j = i := by omega
        rw [hq.one hr]
        show qa.lv + 1 ≤ 44
        omega
  · have : rjoinR nodes 1000 f0 f1 f2 f3 = (nodes, 0, 4) := by unfold rjoinR; rw [if_neg hf]
    rw [this]; exact h
def iN (os : List Nat) : Array Value := (os.map fun (n : Nat) => Value.int .i64 (n : Int)).toArray
theorem iN_get (os : List Nat) (j : Nat) (h : j < os.length) : (iN os)[j]? = some (.int .i64 ((os.getD j 0 : Nat) : Int)) := by
  simp [iN, List.getD_eq_getElem?_getD, h]
theorem iN_set (os : List Nat) (j x : Nat) : (iN os).setIfInBounds j (.int .i64 (x : Int)) = iN (os.set j x) := by simp [iN, List.map_set]
theorem rn_lv {w : World} {A : Option Addr} {xs : List Nd} (h : Kd.C kRn w A xs.length xs) (k : Nat) (h1 : k < xs.length) : ∃ ad, A = some ad ∧ w.cell? (ad.add (k * 7)) = some (.int .i64 (xs.getD k zNd).key.level) := by
  obtain ⟨ad, e, c0, _⟩ := at_Rn h (k : Int) (by omega) (by omega)
  rw [Int.toNat_natCast] at c0
  exact ⟨ad, e, c0⟩
/-- four places of nodes, the first j of them laid as numbers too -/
structure Four (n j : Nat) (fs os : List Nat) : Prop where
  l1 : fs.length = 4
  l2 : os.length = 4
  bd : ∀ t, fs.getD t 0 < n
  eq : ∀ t, t < j → os.getD t 0 = fs.getD t 0
theorem four0 {n : Nat} (h : 0 < n) : Four n 0 [0, 0, 0, 0] [0, 0, 0, 0] := ⟨rfl, rfl, fun t => by
  match t with
  | 0 => exact h
  | 1 => exact h
  | 2 => exact h
  | 3 => exact h
  | m + 4 => exact h, fun t h => by omega⟩
theorem getD_set_lt {n : Nat} (fs : List Nat) (j v t : Nat) (hv : v < n) (h : fs.getD t 0 < n) : (fs.set j v).getD t 0 < n := by
  by_cases e : t = j
  · subst e
    by_cases hl : t < fs.length
    · rw [getD_set_same fs t v hl]; exact hv
    · rw [List.set_eq_of_length_le (by omega)]; exact h
  · rw [getD_set_ne fs j t v e]; exact h
theorem Four.set {n j v : Nat} {fs os : List Nat} (h : Four n j fs os) (hv : v < n) : Four n j (fs.set j v) os :=
  ⟨by rw [List.length_set]; exact h.l1, h.l2, fun t => getD_set_lt fs j v t hv (h.bd t), fun t ht => by rw [getD_set_ne fs j t v (by omega)]; exact h.eq t ht⟩
theorem Four.next {n j z : Nat} {fs os : List Nat} (h : Four n j fs os) (hj : j < 4) (hz : fs.getD j 0 = z) : Four n (j + 1) fs (os.set j z) :=
  ⟨h.l1, by rw [List.length_set]; exact h.l2, h.bd, fun t ht => by
    by_cases e : t = j
    · subst e; rw [getD_set_same os t z (by rw [h.l2]; exact hj), hz]
    · rw [getD_set_ne os j t z e]; exact h.eq t (by omega)⟩
theorem Four.all {n : Nat} {fs os : List Nat} (h : Four n 4 fs os) : ∃ f0 f1 f2 f3, fs = [f0, f1, f2, f3] ∧ os = [f0, f1, f2, f3] ∧ f0 < n ∧ f1 < n ∧ f2 < n ∧ f3 < n := by
  obtain ⟨l1, l2, bd, eq⟩ := h
  match fs, os, l1, l2 with
  | [a, b, c, d], [a', b', c', d'], _, _ =>
    have q0 := eq 0 (by omega)
    have q1 := eq 1 (by omega)
    have q2 := eq 2 (by omega)
    have q3 := eq 3 (by omega)
    simp at q0 q1 q2 q3
    subst q0 q1 q2 q3
    exact ⟨_, _, _, _, rfl, rfl, by simpa using bd 0, by simpa using bd 1, by simpa using bd 2, by simpa using bd 3⟩
def GrownPost (w : World) (e : Ending) (w' : World) : Prop :=
  ∃ p F nodes xa aa xc ac, e = .returned (.tuple #[.pointer (some ⟨p, 0, none⟩), .agg #[.slice xa nodes.length xc, .int .i64 1000], .slice aa nodes.length ac, .bool true]) ∧ Gz w w' F p nodes (.slice xa nodes.length xc) (.slice aa nodes.length ac) ∧ Good nodes ∧ 0 < nodes.length ∧ nodes.length ≤ 31
set_option maxRecDepth 100000 in
set_option maxHeartbeats 4000000 in
theorem grown_walk (A1 A2 : Option Addr) (n1 c1 n2 c2 : Nat) (bits : List Int) (kids : List A4) (w : World) (hl1 : bits.length = n1) (hl2 : kids.length = n2) (hb : Kd.C (Kd.int .u32) w A1 n1 bits) (hk : Kd.C kA4 w A2 n2 kids) (hbits : ∀ x ∈ bits, 0 ≤ x ∧ x < 4294967296) :
    Calls Try.prog 42 #[.slice A1 n1 c1, .slice A2 n2 c2] w fun e w' => GrownPost w e w' := by
  subst hl1 hl2
  have HBS := Aside0.mk hb
  have HKS := Aside0.mk hk
  have HBB := Aside0.mk hbits
  have hmx1 := Kd.C_max hb
  have hmx2 := Kd.C_max hk
  have KR := Aside0.mk (blk_new w (.cells #[.slice none 0 0, .int .i64 0] 79))
  have HB1 := Aside0.mk (below_alloc (Below.refl w.heap.size w) (.cells #[.slice none 0 0, .int .i64 0] 79))
  clear hb hk hbits
  go_enter Try.func42, Try.ntmps42
  go_upto_region 1 with (fail)
  obtain ⟨R, hR⟩ : ∃ R, w.heap.size = R := ⟨_, rfl⟩
  have HRW := Aside0.mk hR
  simp only [hR] at KR ⊢
  generalize w.alloc (.cells #[.slice none 0 0, .int .i64 0] 79) = w1 at *
  clear hR
  have HN1 := Aside0.mk (hold_new 1000 (by decide) w1)
  have HN2 := Aside0.mk (rnew_walk 1000 (by decide))
  rw [show max (1000 : Int) 64 = 1000 from rfl] at HN1 HN2
  go_upto_region 2 with (first | (go_at_call 40; refine HN1.out.mono ?_; rintro e w2 ⟨p, F, rfl, hH, hB2⟩; have HH2 := Aside0.mk hH; have HB2 := Aside0.mk hB2; clear hH hB2) | (go_at_call 81; refine (HN2.out _).mono ?_; rintro e w3 ⟨A3, c3, rfl, hR3, hB3⟩; have HR3 := Aside0.mk hR3; have HB3 := Aside0.mk hB3; clear hR3 hB3))
  go_upto_region 3 with (fail)
  have HG : Aside0 (Gx w ((w3.alloc (.cells #[.slice A3 1 c3, .int .i64 1000] 79)).alloc (.cells #[.int .u32 0] 38)) F w3.heap.size R p [nd0] 1 (.slice A3 1 c3) (.slice (some ⟨w3.heap.size + 1, 0, none⟩) 1 1)) := ⟨by
    have hb2 : Below w3.heap.size w3 ((w3.alloc (.cells #[.slice A3 1 c3, .int .i64 1000] 79)).alloc (.cells #[.int .u32 0] 38)) := below_alloc (below_alloc (Below.refl _ _) _) _
    have b3 := chain (chain HB1.out HB2.out HB1.out.size) HB3.out (chain HB1.out HB2.out HB1.out.size).size
    have hh := HH2.out.elder (w0 := w) HB1.out.size
    have hrl := blk_lt KR.out
    have s2 := HB2.out.size
    have s3 := HB3.out.size
    have s1 := HRW.out
    refine ⟨(hh.below HB3.out).below hb2, chain b3 hb2 b3.size, blk_below (blk_new w3 _) (below_alloc (Below.refl _ _) _), blk_below (blk_below (blk_below KR.out HB2.out) HB3.out) hb2, Kd.R_below (Kd.R_mono (ok' := Oth w F) (Kd.R_lower (Kd.R_bound HR3.out) (Nat.zero_le _)) (fun k hk => ⟨by have := hk.2.1; omega, fun hf => by have := hh.hi k hf; have := hk.2.1; omega⟩)) hb2, ?_, ⟨by omega, fun hf => by have := hh.hi _ hf; omega⟩, ⟨by omega, fun hf => by have := HH2.out.lo _ hf; omega⟩, by omega⟩
    have := lit_slice (w3.alloc (.cells #[.slice A3 1 c3, .int .i64 1000] 79)) (Oth w F) [0] (by decide) ⟨by simp; omega, fun hf => by have := hh.hi _ hf; simp at this; omega⟩
    rw [show (w3.alloc (.cells #[.slice A3 1 c3, .int .i64 1000] 79)).heap.size = w3.heap.size + 1 by simp] at this
    exact this⟩
  have HXW : Aside0 (R < w3.heap.size) := ⟨by have := blk_lt KR.out; have := HB2.out.size; have := HB3.out.size; omega⟩
  clear HH2 HR3 HB1 HB2 HB3 KR HN1 HN2
  generalize (w3.alloc (.cells #[.slice A3 1 c3, .int .i64 1000] 79)).alloc (.cells #[.int .u32 0] 38) = w4 at *
  generalize w3.heap.size + 1 = a0 at *
  generalize w3.heap.size = X at *
  have HGD := Aside0.mk good0
  go_wp2_with (fail)
  go_loopg [10, 11] bits.length (fun kq c10 c11 w' => ∃ (i : Nat) (F : Nat → Prop) (nodes : List Nd) (xa aa : Option Addr) (xc ac : Nat), i + kq = bits.length ∧ i ≤ 10 ∧ nodes.length ≤ i + 1 ∧ 0 < nodes.length ∧ c11 = .int .i64 i ∧ c10 = .slice aa nodes.length ac ∧ Aside0 (Gx w w' F X R p nodes nodes.length (.slice xa nodes.length xc) (.slice aa nodes.length ac)) ∧ Aside0 (Good nodes))
  case atStart => exact ⟨0, F, [nd0], A3, _, c3, _, by omega, by omega, by simp, by simp, rfl, rfl, HG, HGD⟩
  case round =>
    clear HG HGD
    obtain ⟨i, F, nodes, xa, aa, xc, ac, hi, hi10, hnl, hn0, rfl, rfl, HG, HGD⟩ := hrel
    by_cases hlt : i < bits.length ∧ i < 10
    · as_aux_lemma =>
      obtain ⟨hlt, hlt2⟩ := hlt
      obtain ⟨gm, rfl⟩ : ∃ m, gk = m + 1 := ⟨gk - 1, by omega⟩
      obtain ⟨f, hf⟩ : ∃ f, bits[i]? = some f := ⟨_, List.getElem?_eq_getElem hlt⟩
      have hfb := HBB.out f (List.mem_of_getElem? hf)
      obtain ⟨fn, rfl⟩ := Int.eq_ofNat_of_zero_le hfb.1
      have hfn : fn < 4294967296 := by omega
      obtain ⟨ad, rfl, hc⟩ := at_Z (Kd.C_below HBS.out HG.out.below) i _ hf
      clear hf hfb
      have hst := leaf_step nodes 1000 fn
      have hmk := leaf_makes HGD.out.wf HG.out.hold.ar.once 1000 fn hfn
      have href := fun (W : World) (hb : Below wr.heap.size wr W) => rleaf_walk nodes 1000 fn hfn xa xc (Oth w F) W (Kd.R_below HG.out.hx hb) (by omega)
      have hsame := leaf_same nodes 1000 fn
      rw [hsame] at hmk
      obtain ⟨r, hr⟩ : ∃ r, raddR nodes 1000 ⟨leafKey fn, (popN 32 fn : Nat)⟩ = r := ⟨_, rfl⟩
      rw [hr] at hst hsame hmk
      simp only [hr] at href
      have HST := Aside0.mk hst
      have HREF := Aside0.mk href
      have HSAME := Aside0.mk hsame
      have HMK := Aside0.mk hmk
      clear hst href hsame hr hmk
      have x0 := blk_cell HG.out.kx 0
      have x1 := blk_cell HG.out.kx 1
      simp only [List.getElem?_toArray, List.getElem?_cons_zero, List.getElem?_cons_succ] at x0 x1
      have hii : (i : Int) < (bits.length : Int) := by omega
      go_upto_region 6 with (fail)
      go_cut [12, 13, 14] (fun v12 v13 v14 wx => YP w wr F r v12 v13 v14 wx)
      case first =>
        go_region_held_law (fun w' => w'.cell? ⟨X, 0, none⟩ = some (.slice xa nodes.length xc) ∧ w'.cell? ⟨X, 1, none⟩ = some (.int .i64 1000) ∧ w'.cell? (ad.add i) = some (.int .u32 fn)) (refine sGr (blk_below HG.out.kx ?_) (pw_cell_below ?_ hc) <;> ((repeat' (first | (with_reducible exact Below.refl _ _) | (with_reducible assumption) | (with_reducible refine Below.alloc ?_ ?_ _) | (with_reducible refine Below.drew ?_) | (with_reducible refine Below.setCell ?_ ?_ _) | (with_reducible refine chain ?_ (by assumption) ?_) | go_size)))) (first | ((go_at_call 82; refine (HREF.out (wr.drew) (by (repeat' (first | (with_reducible exact Below.refl _ _) | (with_reducible assumption) | (with_reducible refine Below.alloc ?_ ?_ _) | (with_reducible refine Below.drew ?_) | (with_reducible refine Below.setCell ?_ ?_ _) | (with_reducible refine chain ?_ (by assumption) ?_) | go_size)))).mono ?_; rintro e w1 ⟨A1, c1, rfl, hR1, hB1⟩; have hbw : Below wr.heap.size wr w1 := chain (by (repeat' (first | (with_reducible exact Below.refl _ _) | (with_reducible assumption) | (with_reducible refine Below.alloc ?_ ?_ _) | (with_reducible refine Below.drew ?_) | (with_reducible refine Below.setCell ?_ ?_ _) | (with_reducible refine chain ?_ (by assumption) ?_) | go_size))) hB1 (by simp <;> omega); have hs1 : wr.heap.size ≤ w1.heap.size := hbw.size; have HR1 := Aside0.mk (rn_more2 (w := wr) hR1 (by simp <;> omega)); skip; clear hR1 hB1)) | ((go_at_call 82; refine (HREF.out ((wr.alloc (.cells #[.slice none 0 0, .int .i64 0] 79)).drew) (by (repeat' (first | (with_reducible exact Below.refl _ _) | (with_reducible assumption) | (with_reducible refine Below.alloc ?_ ?_ _) | (with_reducible refine Below.drew ?_) | (with_reducible refine Below.setCell ?_ ?_ _) | (with_reducible refine chain ?_ (by assumption) ?_) | go_size)))).mono ?_; rintro e w1 ⟨A1, c1, rfl, hR1, hB1⟩; have hbw : Below wr.heap.size wr w1 := chain (by (repeat' (first | (with_reducible exact Below.refl _ _) | (with_reducible assumption) | (with_reducible refine Below.alloc ?_ ?_ _) | (with_reducible refine Below.drew ?_) | (with_reducible refine Below.setCell ?_ ?_ _) | (with_reducible refine chain ?_ (by assumption) ?_) | go_size))) hB1 (by simp <;> omega); have hs1 : wr.heap.size ≤ w1.heap.size := hbw.size; have HR1 := Aside0.mk (rn_more2 (w := wr) hR1 (by simp <;> omega)); have KY1 := Aside0.mk (blk_below (blk_below (blk_new wr (.cells #[.slice none 0 0, .int .i64 0] 79)) (below_drew (Below.refl _ _))) hB1); have y0 := blk_cell KY1.out 0; have y1 := blk_cell KY1.out 1; have fy0 := blk_frozen KY1.out 0; have fy1 := blk_frozen KY1.out 1; simp only [List.getElem?_toArray, List.getElem?_cons_zero, List.getElem?_cons_succ] at y0 y1; clear hR1 hB1)))
        all_goals go_wp2_with (fail)
        all_goals go_meet
        · exact yp_new HG.out hbw HR1.out
        · exact yp_old HG.out hbw HR1.out KY1.out
      case rest =>
        obtain ⟨y, A7, c7, rfl, rfl, rfl, ky, hyF, hyN, hR, hb⟩ := hcut
        have KY := Aside0.mk ky
        have HR := Aside0.mk hR
        have HYF := Aside0.mk hyF
        have G1 := Aside0.mk (HG.out.drop hb)
        have hc1 := pw_cell_below hb hc
        have HYN := Aside0.mk (And.intro (show X ≠ y by have := blk_lt HG.out.kx; omega) (show R ≠ y by have := blk_lt HG.out.kr; omega))
        have hle := hold_leaf G1.out.hold G1.out.below.size fn hfn (by omega)
        rw [HSAME.out] at hle
        obtain ⟨r1, r2, r3⟩ := r
        have h30 : r3 = 0 := by
          apply Classical.byContradiction
          intro h
          have := (HMK.out.bad h).2.2.2.1
          omega
        subst h30
        dsimp only at hle HR KY
        rw [show errOf 0 = .nilIface from rfl] at hle
        have HLE := Aside0.mk hle
        have HGD1 := Aside0.mk (show Good r1 from good_leaf HGD.out HST.out HMK.out)
        have hsz := HST.out.good rfl
        obtain ⟨l, hl, hl1⟩ := HST.out.ext
        dsimp only at hsz hl
        have hlen : nodes.length ≤ r1.length ∧ r1.length ≤ nodes.length + 1 := by rw [hl, List.length_append]; omega
        clear hle ky hR hyF hb HG HREF x0 x1 hc hyN HGD HST HMK HSAME hl hl1
        go_upto_region 8 with (go_at_call 80; refine HLE.out.mono ?_; rintro e w3 ⟨rfl, F', ho⟩; have HOT := Aside0.mk ho; clear ho)
        have KY3 := Aside0.mk ((HOT.out.keeps.block y (blk_lt KY.out) HYF.out).trans KY.out)
        have HR3 := R_onto HR.out HOT.out
        have G3 := Aside0.mk (G1.out.step HOT.out HR3)
        have KX3 := Aside0.mk ((HOT.out.keeps.block X (blk_lt G1.out.kx) G1.out.hX.2).trans G1.out.kx)
        have y0 := blk_cell KY3.out 0
        have y1 := blk_cell KY3.out 1
        have fx0 := blk_frozen KX3.out 0
        have fx1 := blk_frozen KX3.out 1
        have ex0 := blk_cell KX3.out 0
        have ex1 := blk_cell KX3.out 1
        simp only [List.getElem?_toArray, List.getElem?_cons_zero, List.getElem?_cons_succ] at y0 y1 ex0 ex1
        clear HR3 HOT HR HLE hc1
        go_upto_region 11 with (fail)
        clear y0 y1 fx0 fx1 ex0 ex1 KY3 KX3 G1 KY HYF HYN
        generalize (w3.setCell ⟨X, 0, none⟩ (.slice A7 r1.length c7)).setCell ⟨X, 1, none⟩ (.int .i64 1000) = w5 at *
        rcases hsz with ⟨h1, h2⟩ | ⟨h1, h2⟩
        · have hne : (r2 == (nodes.length : Int)) = false := by rw [beq_eq_false_iff_ne]; omega
          have G5 := G3.out
          rw [← h1] at G5
          have HH1 := Aside0.mk h1
          have HG5 := Aside0.mk G5
          clear h1 h2 G3 G5
          go_wp2_with (fail)
          go_roundg gm
          case measure => omega
          case rel => exact ⟨i + 1, F', r1, A7, aa, c7, ac, by omega, by omega, by omega, by omega, by go_num, by rw [HH1.out], HG5, HGD1⟩
        · subst h2
          have heq : ((nodes.length : Int) == (nodes.length : Int)) = true := beq_self_eq_true _
          have HH1 := Aside0.mk h1
          have HFR : Aside0 (∀ k, w5.heap.size ≤ k → Oth w F' k) := ⟨fun k hk => ⟨Nat.le_trans G3.out.below.size hk, fun hf => by have := G3.out.hold.hi k hf; omega⟩⟩
          have HNL : Aside0 ((idL nodes.length).length + 1 ≤ 100) := ⟨by rw [idL_len]; omega⟩
          clear h1
          go_wp2_with (first | ((with_reducible refine gate_builtin (b := .append) (xs := #[.tmp 67, .tmp 69]) rfl ?_); at_builtin; refine Kd.R_append (Kd.int .u32) (w0 := w5) 0 rfl (.tmp 67) (.tmp 69) 74 38 (.int .u32 0) 4 rfl Try.underlying74 infoU rfl (by decide) (by decide) (.slice aa nodes.length ac) (idL nodes.length) (nodes.length : Int) [.int .u32 (nodes.length : Int)] (Oth w F') (fun _ => False) rfl rfl rfl (fun _ hk => hk.elim) HFR.out G3.out.ha (Below.refl _ _) (Nat.zero_le _) (by have := HNL.out; omega) ?_; intro v1 w6 ho6 hb6 hg6 hat6; have HO6 := Aside0.mk ho6; have HG6 := Aside0.mk hg6; clear ho6 hb6 hg6 hat6; obtain ⟨a6, c6, rfl⟩ := Kd.R_slice HO6.out))
          have ho6 := HO6.out
          rw [idL_succ] at ho6
          have G6 := G3.out.grow HG6.out ho6
          rw [← HH1.out, idL_len] at G6
          have HG7 := Aside0.mk G6
          clear ho6 G6 HO6 HG6 G3
          go_roundg gm
          case measure => omega
          case rel => exact ⟨i + 1, F', r1, A7, a6, c7, c6, by omega, by omega, by omega, by omega, by go_num, by rw [idL_len, HH1.out], HG7, HGD1⟩
    · have hor : ¬ i < bits.length ∨ (i < bits.length ∧ ¬ i < 10) := by omega
      have HNL : Aside0 (nodes.length ≤ 11) := ⟨by omega⟩
      clear hlt hi hnl hi10
      rcases hor with h1 | ⟨h1, h2⟩
      all_goals
        go_upto_region 14 with (fail)
        go_loopg [10, 17] kids.length (fun kq c10 c17 w' => ∃ (i : Nat) (F : Nat → Prop) (nodes : List Nd) (xa aa : Option Addr) (xc ac : Nat), i + kq = kids.length ∧ i ≤ 20 ∧ nodes.length ≤ i + 11 ∧ 0 < nodes.length ∧ c17 = .int .i64 i ∧ c10 = .slice aa nodes.length ac ∧ Aside0 (Gx w w' F X R p nodes nodes.length (.slice xa nodes.length xc) (.slice aa nodes.length ac)) ∧ Aside0 (Good nodes))
        case atStart => exact ⟨0, F, nodes, xa, aa, xc, ac, by omega, by omega, by have := HNL.out; omega, hn0, rfl, rfl, HG, HGD⟩
        case round =>
          clear HG HGD HNL hn0 h1
          obtain ⟨i, F, nodes, xa, aa, xc, ac, hi, hi10, hnl, hn0, rfl, rfl, HG, HGD⟩ := hrel
          by_cases hlt : i < kids.length ∧ i < 20
          · as_aux_lemma =>
            obtain ⟨hlt, hlt2⟩ := hlt
            obtain ⟨gm0, rfl⟩ : ∃ m, gk = m + 1 := ⟨gk - 1, by omega⟩
            have hB2 : Below wr.heap.size wr ((wr.alloc (.cells #[.int .i64 0, .int .i64 0, .int .i64 0, .int .i64 0] 82)).alloc (.cells #[.int .u32 0, .int .u32 0, .int .u32 0, .int .u32 0] 129)) := below_alloc (below_alloc (Below.refl _ _) _) _
            have HG2 := Aside0.mk (HG.out.drop hB2)
            have KF := Aside0.mk (show _ = some (Obj.cells (iN [0, 0, 0, 0]) _ _) from blk_below (blk_new wr (.cells #[.int .i64 0, .int .i64 0, .int .i64 0, .int .i64 0] 82)) (below_alloc (Below.refl _ _) (.cells #[.int .u32 0, .int .u32 0, .int .u32 0, .int .u32 0] 129)))
            have ko := blk_new (wr.alloc (.cells #[.int .i64 0, .int .i64 0, .int .i64 0, .int .i64 0] 82)) (.cells #[.int .u32 0, .int .u32 0, .int .u32 0, .int .u32 0] 129)
            rw [show (wr.alloc (.cells #[.int .i64 0, .int .i64 0, .int .i64 0, .int .i64 0] 82)).heap.size = wr.heap.size + 1 by simp] at ko
            have KO := Aside0.mk (show _ = some (Obj.cells (uN [0, 0, 0, 0]) _ _) from ko)
            have hii : (i : Int) < (kids.length : Int) := by omega
            have HFO : Aside0 (Oth w F wr.heap.size ∧ Oth w F (wr.heap.size + 1) ∧ X ≠ wr.heap.size ∧ R ≠ wr.heap.size ∧ X ≠ wr.heap.size + 1 ∧ R ≠ wr.heap.size + 1 ∧ wr.heap.size + 1 ≠ wr.heap.size) := ⟨by
              have hx := blk_lt HG.out.kx
              have hr := blk_lt HG.out.kr
              have hb := HG.out.below.size
              exact ⟨⟨hb, fun hf => by have := HG.out.hold.hi _ hf; omega⟩, ⟨by omega, fun hf => by have := HG.out.hold.hi _ hf; omega⟩, by omega, by omega, by omega, by omega, by omega⟩⟩
            clear hB2 ko HG
            go_upto_region 18 with (fail)
            generalize (wr.alloc (.cells #[.int .i64 0, .int .i64 0, .int .i64 0, .int .i64 0] 82)).alloc (.cells #[.int .u32 0, .int .u32 0, .int .u32 0, .int .u32 0] 129) = w5 at *
            generalize wr.heap.size + 1 = O at *
            generalize wr.heap.size = B at *
            obtain ⟨ad, cs, rfl, _, hK, hc0⟩ := Kd.C_get (Kd.C_below HKS.out HG2.out.below) (0, 0, 0, 0) i (by omega) (by omega)
            have hc : ∀ j u, cs[j]? = some u → w5.cell? (ad.add ((i : Int).toNat * 4 + j)) = some u := hc0
            obtain ⟨x, hx⟩ : ∃ x, kids.getD (i : Int).toNat (0, 0, 0, 0) = x := ⟨_, rfl⟩
            rw [hx] at hK
            obtain rfl := kA4_open hK
            rw [Int.toNat_natCast] at hc
            obtain ⟨z0, z1, z2, z3⟩ := x
            have e0 := hc 0 _ rfl
            have e1 := hc 1 _ rfl
            have e2 := hc 2 _ rfl
            have e3 := hc 3 _ rfl
            rw [Nat.add_zero] at e0
            rw [add_field _ _ 1 (by omega)] at e1
            rw [add_field _ _ 2 (by omega)] at e2
            rw [add_field _ _ 3 (by omega)] at e3
            dsimp only at e0 e1 e2 e3
            clear hc hc0 hK hx
            go_upto_region 19 with (fail)
            clear e0 e1 e2 e3
            have hidx := fun (w : World) (j : Nat) (h : j < 4) => index4i w z0 z1 z2 z3 j h
            have HFR : Aside0 (Four nodes.length 0 [0, 0, 0, 0] [0, 0, 0, 0]) := ⟨four0 hn0⟩
            go_loopg [85] 4 (fun kq c85 w' => ∃ (j : Nat) (fs os : List Nat), j + kq = 4 ∧ c85 = .int .i64 j ∧ Aside0 (Four nodes.length j fs os) ∧ Aside0 (Gx w w' F X R p nodes nodes.length (.slice xa nodes.length xc) (.slice aa nodes.length ac)) ∧ Aside0 (w'.heap[B]? = some (.cells (iN fs) 82 (0, 0))) ∧ Aside0 (w'.heap[O]? = some (.cells (uN os) 129 (0, 0))))
            case atStart => exact ⟨0, _, _, by omega, rfl, HFR, HG2, KF, KO⟩
            case round =>
              clear HFR HG2 KF KO
              obtain ⟨j, fs, os, hj, rfl, HFR, HG, KF, KO⟩ := hrel
              by_cases h4 : j < 4
              · as_aux_lemma =>
                obtain ⟨gm, rfl⟩ : ∃ m, gk = m + 1 := ⟨gk - 1, by omega⟩
                have hi1 := fun w => hidx w j h4
                obtain ⟨kv, hkv⟩ : ∃ kv, kidOf z0 z1 z2 z3 j = kv := ⟨_, rfl⟩
                simp only [hkv] at hi1
                have hmask := and65535 kv
                have hk0 : 0 ≤ kv % 65536 := Int.emod_nonneg _ (by decide)
                have hrem : (kv % 65536).tmod (nodes.length : Int) = (kv % 65536) % (nodes.length : Int) := Int.tmod_eq_emod_of_nonneg hk0
                have hv0 : 0 ≤ (kv % 65536) % (nodes.length : Int) := Int.emod_nonneg _ (by omega)
                have hv1 : (kv % 65536) % (nodes.length : Int) < (nodes.length : Int) := Int.emod_lt_of_pos _ (by omega)
                obtain ⟨v, hv⟩ := Int.eq_ofNat_of_zero_le hv0
                have hvn : v < nodes.length := by omega
                rw [hv] at hrem
                have hnz : (nodes.length : Int) ≠ 0 := by omega
                clear hv hv0 hv1 hkv hidx
                have b0 := blk_cell KF.out j
                rw [iN_get fs j (by rw [HFR.out.l1]; exact h4)] at b0
                have f0 := blk_frozen KF.out j
                have HG1 := Aside0.mk (HG.out.other KF.out HFO.out.1 HFO.out.2.2.1 HFO.out.2.2.2.1 (by decide) (by decide) j (.int .i64 (v : Int)))
                have KF1 := Aside0.mk (blk_put KF.out j (.int .i64 (v : Int)) (iN_set fs j v))
                have KO1 := Aside0.mk (blk_far (p := ⟨B, j, none⟩) KO.out HFO.out.2.2.2.2.2.2 (.int .i64 (v : Int)))
                have HFR1 := Aside0.mk (HFR.out.set hvn)
                have hjv := getD_set_same fs j v (by rw [HFR.out.l1]; exact h4)
                clear HG KF KO
                go_upto_region 22 with (fail)
                clear b0 f0 hmask hrem hi1
                generalize wr.setCell ⟨B, j, none⟩ (.int .i64 (v : Int)) = w6 at *
                obtain ⟨u, hu⟩ : ∃ u, (fs.set j v).getD 0 0 = u := ⟨_, rfl⟩
                have hun : u < nodes.length := by rw [← hu]; exact HFR1.out.bd 0
                have HJV := Aside0.mk hjv
                have HU := Aside0.mk hu
                have hjl : j < (fs.set j v).length := by rw [HFR1.out.l1]; exact h4
                have b0 := blk_cell KF1.out j
                rw [iN_get _ j hjl, hjv] at b0
                have b1 := blk_cell KF1.out 0
                rw [iN_get _ 0 (by omega), hu] at b1
                have x0 := blk_cell HG1.out.kx 0
                simp only [List.getElem?_toArray, List.getElem?_cons_zero] at x0
                obtain ⟨ax, rfl, lvv⟩ := rn_lv (Kd.R_reads' HG1.out.hx).2.2 v hvn
                obtain ⟨ax', hax, lvu⟩ := rn_lv (Kd.R_reads' HG1.out.hx).2.2 u hun
                obtain rfl := Option.some.inj hax
                have hvn2 : (v : Int) < (nodes.length : Int) := by omega
                have hun2 : (u : Int) < (nodes.length : Int) := by omega
                clear hax hu hjv
                generalize (nodes.getD v zNd).key.level = Lv at *
                generalize (nodes.getD u zNd).key.level = Lu at *
                by_cases hlv : Lv = Lu
                · subst hlv
                  go_quiet (fail)
                  have HG2 := Aside0.mk (HG1.out.drop (pw_below_drewN (Below.refl _ _) nq))
                  have KF2 := Aside0.mk (blk_drewN KF1.out nq)
                  have KO2 := Aside0.mk (blk_drewN KO1.out nq)
                  have HFR2 := HFR1
                  clear HG1 KF1 KO1 HFR1 b0 b1 x0 lvv lvu HU hun hun2 hjl
                  generalize w6.drewN nq = w7 at *
                  obtain ⟨z, hvz⟩ : ∃ z, v = z := ⟨_, rfl⟩
                  have HZ : Aside0 ((fs.set j v).getD j 0 = z) := ⟨by rw [HJV.out, hvz]⟩
                  have hzn : z < nodes.length := by omega
                  generalize fs.set j v = fs2 at *
                  clear HJV hvz hvn hvn2
                  have hz := HZ.out
                  have q0 := blk_cell KF2.out j
                  rw [iN_get _ j (by rw [HFR2.out.l1]; exact h4), hz] at q0
                  obtain ⟨ba, ca, hav, _⟩ := Kd.R_form HG2.out.ha (by rw [idL_len]; exact hn0)
                  injection hav with hv1 hv2 hv3
                  subst hv1
                  have hat := Kd.R_celln (enc := Value.int .u32) (h1 := fun _ => rfl) 0 HG2.out.ha (z : Int) (by omega) (by omega)
                  rw [Int.toNat_natCast, show rdOf 0 (idL nodes.length) (z : Int) = (z : Int) by simp [rdOf, idL_get _ z hzn]] at hat
                  obtain ⟨hat1, hat2⟩ := hat
                  have hmxA := Kd.C_max (Kd.R_reads' HG2.out.ha).2.2
                  rw [idL_len] at hmxA
                  have o0 := blk_cell KO2.out j
                  rw [uN_get os j (by rw [HFR2.out.l2]; exact h4)] at o0
                  have of0 := blk_frozen KO2.out j
                  have hzn2 : (z : Int) < (nodes.length : Int) := by omega
                  have HG3 := Aside0.mk (HG2.out.other KO2.out HFO.out.2.1 HFO.out.2.2.2.2.1 HFO.out.2.2.2.2.2.1 (by decide) (by decide) j (.int .u32 (z : Int)))
                  have KF3 := Aside0.mk (blk_far (p := ⟨O, j, none⟩) KF2.out (Ne.symm HFO.out.2.2.2.2.2.2) (.int .u32 (z : Int)))
                  have KO3 := Aside0.mk (blk_put KO2.out j (.int .u32 (z : Int)) (uN_set os j z))
                  have HFR3 := Aside0.mk (HFR2.out.next h4 hz)
                  clear HG2 KF2 KO2 HFR2 hz HZ hv2 hv3
                  go_wp2_with (fail)
                  go_roundg gm
                  case measure => omega
                  case rel => exact ⟨j + 1, _, _, by omega, by go_num, HFR3, HG3, KF3, KO3⟩
                · have hne : (Lv == Lu) = false := beq_eq_false_iff_ne.2 hlv
                  clear hlv
                  go_quiet (fail)
                  have HG2 := Aside0.mk (HG1.out.drop (pw_below_drewN (Below.refl _ _) nq))
                  have KF2 := Aside0.mk (blk_drewN KF1.out nq)
                  have KO2 := Aside0.mk (blk_drewN KO1.out nq)
                  clear HG1 KF1 KO1 b0 b1 x0 lvv lvu hvn2 hun2
                  generalize w6.drewN nq = w7 at *
                  have q0 := blk_cell KF2.out 0
                  rw [iN_get _ 0 (by omega), HU.out] at q0
                  have q1 := blk_cell KF2.out j
                  rw [iN_get _ j hjl, HJV.out] at q1
                  have q2 := blk_frozen KF2.out j
                  have HG3 := Aside0.mk (HG2.out.other KF2.out HFO.out.1 HFO.out.2.2.1 HFO.out.2.2.2.1 (by decide) (by decide) j (.int .i64 (u : Int)))
                  have KF3 := Aside0.mk (blk_put KF2.out j (.int .i64 (u : Int)) (iN_set (fs.set j v) j u))
                  have KO3 := Aside0.mk (blk_far (p := ⟨B, j, none⟩) KO2.out HFO.out.2.2.2.2.2.2 (.int .i64 (u : Int)))
                  have HFR2 := Aside0.mk (HFR1.out.set hun)
                  obtain ⟨z, hvz⟩ : ∃ z, u = z := ⟨_, rfl⟩
                  have HZ : Aside0 (((fs.set j v).set j u).getD j 0 = z) := ⟨by rw [getD_set_same _ j u hjl, hvz]⟩
                  have hzn : z < nodes.length := by omega
                  clear HG2 KF2 KO2 HFR1 hjl HJV hvz
                  go_upto_region 24 with (fail)
                  clear q0 q1 q2
                  have HG2 := HG3
                  have KF2 := KF3
                  have KO2 := KO3
                  clear HG3 KF3 KO3 HU
                  generalize w7.setCell ⟨B, j, none⟩ (.int .i64 (u : Int)) = w8 at *
                  generalize (fs.set j v).set j u = fs2 at *
                  have hz := HZ.out
                  have q0 := blk_cell KF2.out j
                  rw [iN_get _ j (by rw [HFR2.out.l1]; exact h4), hz] at q0
                  obtain ⟨ba, ca, hav, _⟩ := Kd.R_form HG2.out.ha (by rw [idL_len]; exact hn0)
                  injection hav with hv1 hv2 hv3
                  subst hv1
                  have hat := Kd.R_celln (enc := Value.int .u32) (h1 := fun _ => rfl) 0 HG2.out.ha (z : Int) (by omega) (by omega)
                  rw [Int.toNat_natCast, show rdOf 0 (idL nodes.length) (z : Int) = (z : Int) by simp [rdOf, idL_get _ z hzn]] at hat
                  obtain ⟨hat1, hat2⟩ := hat
                  have hmxA := Kd.C_max (Kd.R_reads' HG2.out.ha).2.2
                  rw [idL_len] at hmxA
                  have o0 := blk_cell KO2.out j
                  rw [uN_get os j (by rw [HFR2.out.l2]; exact h4)] at o0
                  have of0 := blk_frozen KO2.out j
                  have hzn2 : (z : Int) < (nodes.length : Int) := by omega
                  have HG3 := Aside0.mk (HG2.out.other KO2.out HFO.out.2.1 HFO.out.2.2.2.2.1 HFO.out.2.2.2.2.2.1 (by decide) (by decide) j (.int .u32 (z : Int)))
                  have KF3 := Aside0.mk (blk_far (p := ⟨O, j, none⟩) KF2.out (Ne.symm HFO.out.2.2.2.2.2.2) (.int .u32 (z : Int)))
                  have KO3 := Aside0.mk (blk_put KO2.out j (.int .u32 (z : Int)) (uN_set os j z))
                  have HFR3 := Aside0.mk (HFR2.out.next h4 hz)
                  clear HG2 KF2 KO2 HFR2 hz HZ hv2 hv3
                  go_wp2_with (fail)
                  go_roundg gm
                  case measure => omega
                  case rel => exact ⟨j + 1, _, _, by omega, by go_num, HFR3, HG3, KF3, KO3⟩
              · as_aux_lemma =>
                obtain rfl : j = 4 := by omega
                obtain ⟨f0, f1, f2, f3, rfl, rfl, q0, q1, q2, q3⟩ := HFR.out.all
                have hst := rjoinR_step HGD.out.ok 1000 f0 f1 f2 f3
                have href := fun (W : World) (hb : Below wr.heap.size wr W) => rjoin_walk nodes 1000 f0 f1 f2 f3 (by omega) (by omega) (by omega) (by omega) xa xc (Oth w F) W (Kd.R_below HG.out.hx hb) HGD.out.ok (by omega)
                have hsame := join_same HGD.out.ok (by omega) 1000 f0 f1 f2 f3
                have how : ∀ f : Nat, f < nodes.length → ownOf nodes (f : Int) = (f : Int) := fun f hf => if_pos ⟨by omega, by omega⟩
                rw [how f0 q0, how f1 q1, how f2 q2, how f3 q3] at hsame
                have hgd := good_join HGD.out HG.out.hold.ar.once (by omega) f0 f1 f2 f3 q0 q1 q2 q3
                obtain ⟨r, hr⟩ : ∃ r, rjoinR nodes 1000 f0 f1 f2 f3 = r := ⟨_, rfl⟩
                rw [hr] at hst hsame hgd
                simp only [hr] at href
                have hle := fun (W : World) (hg : Gx w W F X R p nodes nodes.length (.slice xa nodes.length xc) (.slice aa nodes.length ac)) => hold_join hg.hold hg.below.size f0 f1 f2 f3 (by omega) (by omega) (by omega) (by omega) (by omega)
                rw [hsame] at hle
                have HST := Aside0.mk hst
                have HREF := Aside0.mk href
                have HLE := Aside0.mk hle
                have HGD1 := Aside0.mk hgd
                clear hst href hsame hr hgd hle how
                have x0 := blk_cell HG.out.kx 0
                have x1 := blk_cell HG.out.kx 1
                simp only [List.getElem?_toArray, List.getElem?_cons_zero, List.getElem?_cons_succ] at x0 x1
                have b0 := blk_cell KF.out 0
                have b1 := blk_cell KF.out 1
                have b2 := blk_cell KF.out 2
                have b3 := blk_cell KF.out 3
                rw [show (iN [f0, f1, f2, f3])[0]? = some (.int .i64 (f0 : Int)) from rfl] at b0
                rw [show (iN [f0, f1, f2, f3])[1]? = some (.int .i64 (f1 : Int)) from rfl] at b1
                rw [show (iN [f0, f1, f2, f3])[2]? = some (.int .i64 (f2 : Int)) from rfl] at b2
                rw [show (iN [f0, f1, f2, f3])[3]? = some (.int .i64 (f3 : Int)) from rfl] at b3
                clear HFR hidx
                go_upto_region 27 with (go_at_call 83; refine (HREF.out wr (Below.refl _ _)).mono ?_; rintro e w6 ⟨A7, c7, rfl, hR, hb⟩; have HR6 := Aside0.mk hR; have HB6 := Aside0.mk hb; clear hR hb)
                have B6 := below_alloc HB6.out (.cells #[.slice A7 r.1.length c7, .int .i64 1000] 79)
                have HG7 := Aside0.mk (HG.out.drop B6)
                have KY := Aside0.mk (blk_new w6 (.cells #[.slice A7 r.1.length c7, .int .i64 1000] 79))
                have HR7 := Aside0.mk (Kd.R_alloc (oth_more HG.out.hold HG.out.below HR6.out) (.cells #[.slice A7 r.1.length c7, .int .i64 1000] 79))
                have KO7 := Aside0.mk (blk_below KO.out B6)
                have HYF : Aside0 (¬ F w6.heap.size) := ⟨fun hf => by have := HG.out.hold.hi _ hf; have := HB6.out.size; omega⟩
                clear B6 HG KF KO HR6 HB6 x0 x1 b0 b1 b2 b3 HREF
                generalize w6.alloc (.cells #[.slice A7 r.1.length c7, .int .i64 1000] 79) = w7 at *
                generalize w6.heap.size = y at *
                have o0 := blk_cell KO7.out 0
                have o1 := blk_cell KO7.out 1
                have o2 := blk_cell KO7.out 2
                have o3 := blk_cell KO7.out 3
                rw [show (uN [f0, f1, f2, f3])[0]? = some (.int .u32 (f0 : Int)) from rfl] at o0
                rw [show (uN [f0, f1, f2, f3])[1]? = some (.int .u32 (f1 : Int)) from rfl] at o1
                rw [show (uN [f0, f1, f2, f3])[2]? = some (.int .u32 (f2 : Int)) from rfl] at o2
                rw [show (uN [f0, f1, f2, f3])[3]? = some (.int .u32 (f3 : Int)) from rfl] at o3
                have HAR := Aside0.mk (HLE.out w7 HG7.out)
                obtain ⟨r1, r2, r3⟩ := r
                dsimp only at HAR HR7 KY HGD1
                obtain ⟨l, hl, hl1⟩ := HST.out.ext
                dsimp only at hl
                have hlen : nodes.length ≤ r1.length ∧ r1.length ≤ nodes.length + 1 := by rw [hl, List.length_append]; omega
                clear HLE hl hl1
                by_cases h30 : r3 = 0
                · subst h30
                  have hsz := HST.out.good rfl
                  dsimp only at hsz
                  rw [show errOf 0 = .nilIface from rfl] at HAR
                  clear HST HGD
                  go_upto_region 28 with (go_at_call 84; refine HAR.out.mono ?_; rintro e w8 ⟨rfl, F', ho⟩; have HOT := Aside0.mk ho; clear ho)
                  have KY8 := Aside0.mk ((HOT.out.keeps.block y (blk_lt KY.out) HYF.out).trans KY.out)
                  have HR8 := R_onto HR7.out HOT.out
                  have G3 := Aside0.mk (HG7.out.step HOT.out HR8)
                  have KX8 := Aside0.mk ((HOT.out.keeps.block X (blk_lt HG7.out.kx) HG7.out.hX.2).trans HG7.out.kx)
                  have y0 := blk_cell KY8.out 0
                  have y1 := blk_cell KY8.out 1
                  have fx0 := blk_frozen KX8.out 0
                  have fx1 := blk_frozen KX8.out 1
                  have ex0 := blk_cell KX8.out 0
                  have ex1 := blk_cell KX8.out 1
                  simp only [List.getElem?_toArray, List.getElem?_cons_zero, List.getElem?_cons_succ] at y0 y1 ex0 ex1
                  clear HR8 HOT HR7 HAR o0 o1 o2 o3 KO7 q0 q1 q2 q3
                  go_upto_region 32 with (fail)
                  clear y0 y1 fx0 fx1 ex0 ex1 KY8 KX8 HG7 KY HYF
                  generalize (w8.setCell ⟨X, 0, none⟩ (.slice A7 r1.length c7)).setCell ⟨X, 1, none⟩ (.int .i64 1000) = w5 at *
                  rcases hsz with ⟨h1, h2⟩ | ⟨h1, h2⟩
                  · have hne : (r2 == (nodes.length : Int)) = false := by rw [beq_eq_false_iff_ne]; omega
                    have G5 := G3.out
                    rw [← h1] at G5
                    have HH1 := Aside0.mk h1
                    have HG5 := Aside0.mk G5
                    clear h1 h2 G3 G5
                    go_wp2_with (fail)
                    go_roundg gm0
                    case measure => omega
                    case rel => exact ⟨i + 1, F', r1, A7, aa, c7, ac, by omega, by omega, by omega, by omega, by go_num, by rw [HH1.out], HG5, HGD1⟩
                  · subst h2
                    have heq : ((nodes.length : Int) == (nodes.length : Int)) = true := beq_self_eq_true _
                    have HH1 := Aside0.mk h1
                    have HFR : Aside0 (∀ k, w5.heap.size ≤ k → Oth w F' k) := ⟨fun k hk => ⟨Nat.le_trans G3.out.below.size hk, fun hf => by have := G3.out.hold.hi k hf; omega⟩⟩
                    have HNL : Aside0 ((idL nodes.length).length + 1 ≤ 100) := ⟨by rw [idL_len]; omega⟩
                    clear h1
                    go_wp2_with (first | ((with_reducible refine gate_builtin (b := .append) (xs := #[.tmp 151, .tmp 153]) rfl ?_); at_builtin; refine Kd.R_append (Kd.int .u32) (w0 := w5) 0 rfl (.tmp 151) (.tmp 153) 74 38 (.int .u32 0) 4 rfl Try.underlying74 infoU rfl (by decide) (by decide) (.slice aa nodes.length ac) (idL nodes.length) (nodes.length : Int) [.int .u32 (nodes.length : Int)] (Oth w F') (fun _ => False) rfl rfl rfl (fun _ hk => hk.elim) HFR.out G3.out.ha (Below.refl _ _) (Nat.zero_le _) (by have := HNL.out; omega) ?_; intro v1 w9 ho6 hb6 hg6 hat6; have HO6 := Aside0.mk ho6; have HG6 := Aside0.mk hg6; clear ho6 hb6 hg6 hat6; obtain ⟨a6, c6, rfl⟩ := Kd.R_slice HO6.out))
                    have ho6 := HO6.out
                    rw [idL_succ] at ho6
                    have G6 := G3.out.grow HG6.out ho6
                    rw [← HH1.out, idL_len] at G6
                    have HG7 := Aside0.mk G6
                    clear ho6 G6 HO6 HG6 G3
                    go_roundg gm0
                    case measure => omega
                    case rel => exact ⟨i + 1, F', r1, A7, a6, c7, c6, by omega, by omega, by omega, by omega, by go_num, by rw [idL_len, HH1.out], HG7, HGD1⟩
                · have hbad := HST.out.bad h30
                  dsimp only at hbad
                  obtain ⟨rfl, rfl⟩ := hbad
                  obtain ⟨ev, hev⟩ : ∃ v, errOf r3 = v := ⟨_, rfl⟩
                  have hev2 : ev = .iface 59 (.int .i64 r3) := by rw [← hev]; exact if_neg h30
                  rw [hev, hev2] at HAR
                  have hne3 : (r3 != 0) = true := bne_iff_ne.2 h30
                  clear h30 hev hev2 HST HGD
                  go_upto_region 28 with (go_at_call 84; refine HAR.out.mono ?_; rintro e w8 ⟨rfl, F', ho⟩; have HOT := Aside0.mk ho; clear ho)
                  have HG8 := Aside0.mk (HG7.out.same HOT.out)
                  clear HOT HG7 HAR KY HR7 o0 o1 o2 o3 KO7 HYF q0 q1 q2 q3
                  go_wp2_with (fail)
                  go_roundg gm0
                  case measure => omega
                  case rel => exact ⟨i + 1, F', _, xa, aa, xc, ac, by omega, by omega, by omega, by omega, by go_num, rfl, HG8, HGD1⟩
          · have hor : ¬ i < kids.length ∨ (i < kids.length ∧ ¬ i < 20) := by omega
            have HNL : Aside0 (nodes.length ≤ 31) := ⟨by omega⟩
            clear hlt hi hnl hi10
            have x0 := blk_cell HG.out.kx 0
            have x1 := blk_cell HG.out.kx 1
            have r0 := blk_cell HG.out.kr 0
            have r1 := blk_cell HG.out.kr 1
            have f0 := blk_frozen HG.out.kr 0
            have f1 := blk_frozen HG.out.kr 1
            simp only [List.getElem?_toArray, List.getElem?_cons_zero, List.getElem?_cons_succ] at x0 x1 r0 r1
            rcases hor with h1 | ⟨h1, h2⟩
            all_goals
              go_upto_region 34 with (fail)
              go_region
              obtain ⟨hz, hk⟩ := HG.out.done
              have k0 := blk_cell hk 0
              have k1 := blk_cell hk 1
              simp only [List.getElem?_toArray, List.getElem?_cons_zero, List.getElem?_cons_succ] at k0 k1
              have HZ := Aside0.mk hz
              clear hz hk x0 x1 r0 r1 f0 f1
              generalize ((wr.setCell ⟨R, 0, none⟩ (.slice xa nodes.length xc)).setCell ⟨R, 1, none⟩ (.int .i64 1000)).drew = wE at *
              go_wp2_with (fail)
              exact bodyPost_ret (v := .tuple #[.pointer (some ⟨p, 0, none⟩), .agg #[.slice xa nodes.length xc, .int .i64 1000], .slice aa nodes.length ac, .bool true]) (by simp [results, Try.results42, go_sem, *]) rfl ⟨p, F, nodes, xa, aa, xc, ac, rfl, HZ.out, HGD.out, hn0, HNL.out⟩
end Go.Proofs.Ytbkbkgfpnefilaa.ar
