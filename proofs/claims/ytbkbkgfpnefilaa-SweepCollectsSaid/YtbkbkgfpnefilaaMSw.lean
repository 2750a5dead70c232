/- For any arena of thirty nodes and any eight of them the law SweepCollects answers true: how many they reach, and that collected there are just these, and the empty leaf, each what it was. No condition. -/
import Derived.Test.YtbkbkgfpnefilaaMGr
import Derived.Test.YtbkbkgfpnefilaaOpenRows
import Derived.Test.YtbkbkgfpnefilaaRow
namespace Go.Proofs.Ytbkbkgfpnefilaa.ar
open Go.RowKit Go.Proofs.YtbkbkgfpnefilaaW.PrintWords Go.Proofs.YtbkbkgfpnefilaaW.PrintLast Go.Proofs.YtbkbkgfpnefilaaW.PrintMore Go.Proofs.Ytbkbkgfpnefilaa.bs Go.ChangeShapes Go.Proofs.Ytbkbkgfpnefilaa.lb Go.Maps

def nd5 : Nd := ⟨leafKey 5, 2⟩
theorem add5 : addN [nd0] 100 (leafKey (5 : Nat)) (popN 32 5 : Nat) = ([nd0, nd5], 1, 0) := by kernel_rfl
theorem rep5 : Rep [nd0, nd5] (.leaf 5) 1 := ⟨by kernel_rfl, by decide⟩
theorem rep50 : Rep [nd0, nd5] (.leaf 0) 0 := ⟨by kernel_rfl, by decide⟩
theorem wf5 : WF [nd0, nd5] := fun i hi => by
  have : i = 0 ∨ i = 1 := by simp at hi; omega
  rcases this with rfl | rfl
  · exact ⟨.leaf 0, rep50⟩
  · exact ⟨_, rep5⟩
theorem lv5 : Lv44 [nd0, nd5] := fun i q hq => by
  have hi := hq.lt
  have : i = 0 ∨ i = 1 := by simp at hi; omega
  rcases this with rfl | rfl
  · rw [hq.one rep50]; decide
  · rw [hq.one rep5]; decide
theorem mark5 : ([1, 0, 1].foldl (markR [nd0, nd5] 99) []).length = 2 := by decide
/-- a copy of nothing has the empty leaf alone -/
theorem collect_none {w w' : World} {src : List Nd} {m1 : Int} {e : Ending} (h : CollectPost w src m1 [] e w') : Below w.heap.size w w' ∧ ∃ p2 F2 A c, e = .returned (.tuple #[.pointer (some ⟨p2, 0, none⟩), .slice A 0 c, .nilIface]) ∧ Hold w w' F2 p2 [nd0] [0, 0, 0] (max m1 64) := by
  obtain ⟨hb, h⟩ := h
  refine ⟨hb, ?_⟩
  rcases h with ⟨p2, F2, dst, js, K, A, c, rfl, hc, _, _, hl, _⟩ | ⟨_, r, hr, _⟩ | ⟨_, _, _, _, _, _, _, r, hr, _⟩
  · have hK : K = [] := by
      cases K with
      | nil => rfl
      | cons x K => obtain ⟨r, hr, _⟩ := hc.keys x.1 (by simp [keysL]); simp at hr
    subst hK
    obtain ⟨l, rfl⟩ := hc.zero
    have hl0 : l = [] := by
      cases l with
      | nil => rfl
      | cons y l => obtain ⟨a, ha⟩ := hc.cover 1 (by omega) (by simp); simp at ha
    subst hl0
    have hj : js.length = 0 := hl
    rw [hj]
    exact ⟨p2, F2, A, c, rfl, hc.hold⟩
  · simp at hr
  · simp at hr
set_option maxRecDepth 100000 in
set_option maxHeartbeats 1000000 in
theorem sawake_walk (w : World) : Calls Try.prog 41 #[] w fun e w' => e = .returned (.bool true) ∧ Below w.heap.size w w' := by
  go_enter Try.func41, Try.ntmps41
  go_wp2_with (fail)
  refine (hold_new 100 (by omega) w).mono ?_
  rintro e w1 ⟨p, F, rfl, hH, hB⟩
  rw [show max (100 : Int) 64 = 100 by rfl] at hH
  have H1 := Aside0.mk hH
  have B1 := Aside0.mk hB
  clear hH hB
  go_wp2_with (fail)
  refine (hold_leaf H1.out B1.out.size 5 (by omega) (by simp)).mono ?_
  rw [add5]
  rintro e w2 ⟨rfl, F2, ho⟩
  dsimp only at ho ⊢
  rw [show errOf 0 = .nilIface from rfl]
  have H2 := Aside0.mk ho.hold
  have B2 := Aside0.mk (H1.out.belowK B1.out ho.keeps)
  clear ho H1 B1
  go_wp2_with (fail)
  have hrow := lit_slice w2 (fun k => w2.heap.size ≤ k) [1, 0, 1] (by decide) (Nat.le_refl _)
  have hb3 := below_alloc (Below.refl w2.heap.size w2) (.cells #[.int .u32 1, .int .u32 0, .int .u32 1] 38)
  have H3 := Aside0.mk (H2.out.below hb3)
  have B3 := Aside0.mk (chain B2.out hb3 B2.out.size)
  refine (reach_walk F2 p [nd0, nd5] [0, 0, 0] 100 _ _ [1, 0, 1] _ H3.out.ar wf5 H3.out.hi (by simp) (Kd.R_reads' hrow).2.2 (by decide)).mono ?_
  rintro e w4 ⟨hb, hgood, _⟩
  obtain rfl := hgood (by decide)
  rw [mark5]
  have H4 := Aside0.mk (H3.out.below hb)
  have B4 := Aside0.mk (chain B3.out hb B3.out.size)
  clear hrow hb3 hb hgood H3 B3 H2 B2
  go_wp2_with (fail)
  refine (collect_walk F2 p [nd0, nd5] [0, 0, 0] 100 none 0 [] w4 H4.out.ar H4.out.hi wf5 lv5 (by simp) (by omega) (Kd.R_nil _ _ _ _ _) (fun r h => by simp at h) (by simp)).mono ?_
  intro e w5 hp
  obtain ⟨hb, p2, F5, A5, c5, rfl, h5⟩ := collect_none hp
  have HL := Aside0.mk (alen_walk F5 p2 [nd0] [0, 0, 0] _ w5 h5.ar)
  have B5 := Aside0.mk (chain B4.out hb B4.out.size)
  clear hp hb h5 H4 B4
  go_wp2_with (go_at_call 26; refine HL.out.mono ?_; rintro e w6 ⟨rfl, rfl⟩)
  go_ret
  exact ⟨rfl, B5.out⟩
end Go.Proofs.Ytbkbkgfpnefilaa.ar
namespace Go.Proofs.Ytbkbkgfpnefilaa.ar
open Go.ChangeShapes Go.WideShapes Go.ChangeAt Go.RowKit Go.Joins Go.Proofs.Ytbkbkgfpnefilaa.bs Go.Proofs.YtbkbkgfpnefilaaW.PrintWords

abbrev kU : Kd Int := Kd.int .u32
abbrev kI : Kd Int := Kd.int .i64

section
variable {H : Type} {enc : TypeId × Value → H} {w : World} {base : Nat} {sp : Nat → Bool} {held : Bool}
def U32 (x : Int) : Prop := 0 ≤ x ∧ x < 4294967296
theorem u32_open (n : Nat) (cs : List Value) (y : DataW H × List MemPlace) (hf : DataW.trod enc Try.prog w base sp held n 38 cs = some y) : ∃ x, U32 x ∧ (Kd.int .u32).K w x cs := by
  obtain ⟨x, e, _, hw⟩ := DataW.trod_int Try.underlying38 hf
  have hb := bd_u32 hw
  exact ⟨x, by unfold U32; omega, e⟩
theorem i64_open (n : Nat) (cs : List Value) (y : DataW H × List MemPlace) (hf : DataW.trod enc Try.prog w base sp held n 3 cs = some y) : ∃ x, True ∧ (Kd.int .i64).K w x cs := by
  obtain ⟨x, e, _, hw⟩ := DataW.trod_int Try.underlying3 hf
  exact ⟨x, trivial, e⟩
theorem a4_open (fuel : Nat) (cs : List Value) (y : DataW H × List MemPlace) (h : DataW.trod enc Try.prog w base sp held fuel 82 cs = some y) : ∃ x, True ∧ kA4.K w x cs := by
  obtain ⟨xs, m, _, hx, hl, hxl, hf⟩ := DataW.trod_array Try.underlying82 h
  rw [show Try.prog.cellsOf 82 = 4 by kernel_rfl] at hl
  have hU : Try.prog.cellsOf 3 = 1 := by kernel_rfl
  rw [hU] at hf
  have hxl2 : xs.length = 4 := hxl
  match cs, hl with
  | [c0, c1, c2, c3], _ =>
    match xs, hxl2 with
    | [y0, y1, y2, y3], _ =>
      obtain ⟨n0, e0, _, w0⟩ := DataW.trod_int Try.underlying3 (hf 0 (by omega))
      obtain ⟨n1, e1, _, w1⟩ := DataW.trod_int Try.underlying3 (hf 1 (by omega))
      obtain ⟨n2, e2, _, w2⟩ := DataW.trod_int Try.underlying3 (hf 2 (by omega))
      obtain ⟨n3, e3, _, w3⟩ := DataW.trod_int Try.underlying3 (hf 3 (by omega))
      simp at e0 e1 e2 e3
      subst e0 e1 e2 e3
      exact ⟨(n0, n1, n2, n3), trivial, ⟨[.int .i64 n0], _, rfl, rfl, ⟨[.int .i64 n1], _, rfl, rfl, ⟨[.int .i64 n2], _, rfl, rfl, rfl⟩⟩⟩⟩
end
end Go.Proofs.Ytbkbkgfpnefilaa.ar
namespace Go.Proofs.Ytbkbkgfpnefilaa.ar
open Go.RowKit Go.Proofs.YtbkbkgfpnefilaaW.PrintWords Go.Proofs.YtbkbkgfpnefilaaW.PrintLast Go.Proofs.YtbkbkgfpnefilaaW.PrintMore Go.Proofs.Ytbkbkgfpnefilaa.bs Go.ChangeShapes Go.Proofs.Ytbkbkgfpnefilaa.lb Go.Maps

/-- the law's variables between its calls: the arena, the reference's list in a block X, the numbers' row in a block -/
structure Sx (w0 w : World) (F : Nat → Prop) (X ba p : Nat) (nodes : List Nd) (xv : Value) (ac : Nat) : Prop where
  hold : Hold w0 w F p nodes [0, 0, 0] 1000
  below : Below w0.heap.size w0 w
  hx : Kd.R kRn 84 w 0 (Oth w0 F) xv nodes
  ha : Kd.R (Kd.int .u32) 38 w 0 (fun k => k = ba) (.slice (some ⟨ba, 0, none⟩) nodes.length ac) (idL nodes.length)
  kx : w.heap[X]? = some (.cells #[xv, .int .i64 1000] 79 (0, 0))
  hX : Oth w0 F X
  hba : Oth w0 F ba
/-- each root with its image -/
structure Pairs (src dst : List Nd) (ps js : List Nat) : Prop where
  len : js.length = ps.length
  rep : ∀ (t r : Nat), ps[t]? = some r → ∃ q, Rep src q r ∧ Rep dst q (js.getD t 0)
  same : ∀ (t u r v : Nat), ps[t]? = some r → ps[u]? = some v → (r = v ↔ js.getD t 0 = js.getD u 0)
theorem Pairs.get {src dst : List Nd} {ps js : List Nat} (h : Pairs src dst ps js) (t : Nat) (ht : t < ps.length) : ∃ j, js[t]? = some j := ⟨_, List.getElem?_eq_getElem (by rw [h.len]; exact ht)⟩
def OthB (w0 : World) (F : Nat → Prop) (ba k : Nat) : Prop := Oth w0 F k ∧ k ≠ ba
theorem Gz.drop {w0 w w1 : World} {F : Nat → Prop} {p : Nat} {nodes : List Nd} {xv av : Value} (h : Gz w0 w F p nodes xv av) (hb : Below w.heap.size w w1) : Gz w0 w1 F p nodes xv av :=
  ⟨h.hold.below hb, chain h.below hb h.below.size, Kd.R_below h.hx hb, Kd.R_below h.ha hb⟩
theorem Gz.elder {w0 w w1 : World} {F : Nat → Prop} {p : Nat} {nodes : List Nd} {xv av : Value} (h : Gz w1 w F p nodes xv av) (hb : Below w0.heap.size w0 w1) : Gz w0 w F p nodes xv av :=
  ⟨h.hold.elder hb.size, chain hb h.below hb.size, Kd.R_mono h.hx (fun k hk => ⟨Nat.le_trans hb.size hk.1, hk.2⟩), Kd.R_mono h.ha (fun k hk => ⟨Nat.le_trans hb.size hk.1, hk.2⟩)⟩
section
variable {w0 w w1 W W' w4 w5 : World} {F : Nat → Prop} {X ba p ac : Nat} {nodes : List Nd} {xv : Value}
theorem Sx.drop (h : Sx w0 w F X ba p nodes xv ac) (hb : Below w.heap.size w w1) : Sx w0 w1 F X ba p nodes xv ac :=
  ⟨h.hold.below hb, chain h.below hb h.below.size, Kd.R_below h.hx hb, Kd.R_below h.ha hb, blk_below h.kx hb, h.hX, h.hba⟩
/-- another row of the call's own has grown -/
theorem Sx.grow {α : Type} {d : Kd α} {e : Nat} {ok : Nat → Prop} {v : Value} {ys : List α} (h : Sx w0 w F X ba p nodes xv ac) (hv : d.R e w 0 ok v ys) (hok : ∀ k, ok k → OthB w0 F ba k) (t1 : 84 ≠ e) (t2 : e ≠ 79) (hg : w.grownBy w1 v.ownBlock) : Sx w0 w1 F X ba p nodes xv ac := by
  have ho : ∀ k, v.ownBlock = some k → OthB w0 F ba k := fun k hk => hok k (hv.1 k hk)
  have hw : w0.heap.size ≤ w.heap.size := h.below.size
  exact ⟨h.hold.kept (G := fun k => some k = v.ownBlock) ⟨hg.size, fun k hk hn => hg.block k hk hn⟩ (fun k hk e => (ho k e.symm).1.2 hk), h.below.trans ⟨hg.os, hg.tape, hg.output, hg.size, fun k hk => hg.block k (by omega) (fun e => by have := (ho k e.symm).1.1; omega)⟩, Kd.R_over h.hx hv (fun q hq => notE q _ _ _ rfl t1 hq) hg, Kd.R_grown h.ha hg (fun k hk e => (ho k e.symm).2 hk), blk_grown h.kx hg (Kd.R_ne hv h.kx t2), h.hX, h.hba⟩
def LROW (w : World) (F : Nat → Prop) (ba : Nat) (wx : World) (v1 v2 : Value) (xs : List Int) : Prop :=
  Kd.R (Kd.int .i64) 3 wx 0 (OthB w F ba) v1 xs ∧ Kd.R (Kd.int .u32) 38 wx 0 (OthB w F ba) v2 xs
theorem tyIU (q : Nat) (h : q ∈ 3 :: (Kd.int IntKind.i64).E) : q ≠ 38 := notE q _ _ _ rfl (by decide) h
theorem tyUI (q : Nat) (h : q ∈ 38 :: (Kd.int IntKind.u32).E) : q ≠ 3 := notE q _ _ _ rfl (by decide) h
theorem at_num (h : Sx w0 w F X ba p nodes xv ac) (v : Nat) (hv : v < nodes.length) : w.cell? ⟨ba, v, none⟩ = some (.int .u32 (v : Int)) := by
  have hat := Kd.R_celln (enc := Value.int .u32) (h1 := fun _ => rfl) 0 h.ha (v : Int) (by omega) (by omega)
  rw [Int.toNat_natCast, show rdOf 0 (idL nodes.length) (v : Int) = (v : Int) by simp [rdOf, idL_get _ v hv]] at hat
  exact hat.1
/-- the roots' row behind the places' growth -/
theorem row_second {v1 v2 : Value} {xs : List Int} (hr : LROW w0 F ba w v1 v2 xs) (hb : Below w.heap.size w W) (hg4 : W.grownBy w4 v1.ownBlock) (hb4 : Below w4.heap.size w4 W') : Kd.R (Kd.int .u32) 38 W' 0 (OthB w0 F ba) v2 xs :=
  Kd.R_below (Kd.R_over (Kd.R_below hr.2 hb) (Kd.R_below hr.1 hb) tyUI hg4) hb4
theorem two_app {v1 v2 v3 v4 : Value} {xs ys : List Int} (h : Sx w0 w F X ba p nodes xv ac) (hr : LROW w0 F ba w v1 v2 xs) (hb : Below w.heap.size w W) (ho4 : Kd.R (Kd.int .i64) 3 w4 0 (OthB w0 F ba) v3 ys) (hg4 : W.grownBy w4 v1.ownBlock) (hb4 : Below w4.heap.size w4 W')
    (ho5 : Kd.R (Kd.int .u32) 38 w5 0 (OthB w0 F ba) v4 ys) (hg5 : W'.grownBy w5 v2.ownBlock) : Sx w0 w5 F X ba p nodes xv ac ∧ LROW w0 F ba w5 v3 v4 ys := by
  have h4 := ((h.drop hb).grow (Kd.R_below hr.1 hb) (fun _ hk => hk) (by decide) (by decide) hg4).drop hb4
  have hq := row_second hr hb hg4 hb4
  exact ⟨h4.grow hq (fun _ hk => hk) (by decide) (by decide) hg5, Kd.R_over (Kd.R_below ho4 hb4) hq tyIU hg5, ho5⟩
theorem othb_fresh (h : Sx w0 w F X ba p nodes xv ac) (k : Nat) (hk : w.heap.size ≤ k) : OthB w0 F ba k := by
  obtain ⟨cells, hc⟩ := Kd.R_typed h.ha ba rfl
  have := blk_lt hc
  exact ⟨⟨Nat.le_trans h.below.size hk, fun hf => by have := h.hold.hi _ hf; omega⟩, by omega⟩
theorem own_ne {v1 v2 : Value} {xs : List Int} (hr : LROW w0 F ba w v1 v2 xs) : some ba ≠ v1.ownBlock := fun e => (hr.1.1 ba e.symm).2 rfl
theorem kept_num {v1 v2 u : Value} {xs : List Int} {v : Nat} (h : Sx w0 w F X ba p nodes xv ac) (hr : LROW w0 F ba w v1 v2 xs) (hb : Below w.heap.size w W) (hg : W.grownBy w4 v1.ownBlock) (hc : w.cell? ⟨ba, v, none⟩ = some u) : w4.cell? ⟨ba, v, none⟩ = some u :=
  (World.cell?_of_block (a := ⟨ba, v, none⟩) (hg.block ba (Nat.lt_of_lt_of_le (World.block_lt_of_cell? _ _ hc) hb.size) (own_ne hr))).trans (pw_cell_below hb hc)
theorem box_kept {v1 v2 : Value} {xs : List Int} {b : Nat} {o : Obj} (hr : LROW w0 F ba w v1 v2 xs) (hb : Below w.heap.size w W) (hg : W.grownBy w4 v1.ownBlock) (hw : w.heap.size ≤ b) (hk : W.heap[b]? = some o) : w4.heap[b]? = some o :=
  (hg.block b (blk_lt hk) (fun e => by have := Kd.R_lt hr.1 b e.symm; omega)).trans hk
theorem below0 {v1 : Value} (hb : Below w.heap.size w W) (hg : W.grownBy w4 v1.ownBlock) (hb4 : Below w4.heap.size w4 W') : Below 0 w W' :=
  (hb.mono (Nat.zero_le _)).trans (Below.trans ⟨hg.os, hg.tape, hg.output, hg.size, fun k hk => by omega⟩ (hb4.mono (Nat.zero_le _)))
theorem two_alloc (w : World) (c1 c2 : Array Value) (t1 t2 : TypeId) : (((w.alloc (.cells c1 t1)).alloc (.cells c2 t2)).drew).heap[w.heap.size + 1]? = some (.cells c2 t2 (0, 0)) := by
  have h := blk_below (blk_new (w.alloc (.cells c1 t1)) (.cells c2 t2)) (below_drew (Below.refl _ _))
  rwa [show (w.alloc (.cells c1 t1)).heap.size = w.heap.size + 1 by simp] at h
theorem box_I {k : IntKind} {b : Nat} {x : Int} {t : TypeId} (h : w.heap[b]? = some (.cells #[.int k x] t (0, 0))) : Kd.C (Kd.int k) w (some ⟨b, 0, none⟩) 1 [x] := by
  refine ⟨rfl, by decide, fun _ => ⟨_, rfl, fun j q hj => ?_⟩⟩
  match j, hj with
  | 0, hj =>
    obtain rfl := Option.some.inj hj
    refine ⟨[.int k x], rfl, rfl, fun i u hi => ?_⟩
    match i, hi with
    | 0, hi => obtain rfl := Option.some.inj hi; exact blk_cell h 0
theorem int_M {k : IntKind} {base : Nat} {ok : Nat → Prop} (x : Int) (cs : List Value) (h : (Kd.int k).K w x cs) : (Kd.int k).M w1 base ok x cs := h
end
theorem rep100 {nodes : List Nd} (h : Good nodes) {r : Nat} (hr : r < nodes.length) : ∃ q, Rep nodes q r ∧ q.lv ≤ 100 := by
  obtain ⟨q, hq⟩ := h.wf r hr
  exact ⟨q, hq, by have := h.lv r q hq; omega⟩
theorem rep_zero2 {nodes : List Nd} (h : Good nodes) : Rep nodes (.leaf 0) 0 := ⟨h.zero, by decide⟩
theorem zero_of {dst : List Nd} (h : ∃ l, dst = nd0 :: l) : Rep dst (.leaf 0) 0 := by
  obtain ⟨l, rfl⟩ := h
  exact ⟨rfl, by decide⟩
theorem dst_count {w w' : World} {F2 : Nat → Prop} {p2 : Nat} {src dst : List Nd} {m1 : Int} {rs js : List Nat} {K : List (Nat × Nat)} (hg : Good src) (hos : Once src) (h : Collected w w' F2 p2 src dst m1 rs js K) : dst.length = K.length + (if 0 ∈ keysL K then 0 else 1) :=
  copy_count h.inv hos h.hold.ar.once (rep_zero2 hg) (zero_of h.zero) h.cover
/-- there is room, and the roots are nodes -/
theorem collected_ok {w w' : World} {src : List Nd} {rs : List Nat} {e : Ending} (hg : Good src) (hr : ∀ r ∈ rs, r < src.length) (hos : Once src) (hn : src.length < 900) (h : CollectPost w src 1000 rs e w') :
    ∃ p2 F2 dst js K A c, e = .returned (.tuple #[.pointer (some ⟨p2, 0, none⟩), .slice A js.length c, .nilIface]) ∧ Collected w w' F2 p2 src dst 1000 rs js K ∧ Below w.heap.size w w' ∧ js.length = rs.length ∧ Kd.R (Kd.int .u32) 38 w' 0 (fun k => w.heap.size ≤ k ∧ ¬ F2 k) (.slice A js.length c) (uRow js) ∧ ∀ (t r : Nat), rs[t]? = some r → (r, js.getD t 0) ∈ K := by
  obtain ⟨hb, h⟩ := h
  rcases h with ⟨p2, F2, dst, js, K, A, c, rfl, hc, _, hrow, hjl, him⟩ | ⟨_, r, hm, hn2⟩ | ⟨_, F2, p2, dst, K, hc, hm, _⟩
  · exact ⟨p2, F2, dst, js, K, A, c, rfl, hc, hb, hjl, hrow, him⟩
  · exact absurd (hr r hm) hn2
  · exfalso
    have h1 := dst_count hg hos hc
    have h2 := keys_le hc.inv
    have h3 : (max (1000 : Int) 64) = 1000 := rfl
    split at h1 <;> omega
set_option maxRecDepth 100000 in
set_option maxHeartbeats 4000000 in
theorem collects_walk (A1 A2 A3 : Option Addr) (n1 c1 n2 c2 n3 c3 : Nat) (bits : List Int) (kids : List A4) (ws : List Int) (w : World) (hl1 : bits.length = n1) (hl2 : kids.length = n2) (hl3 : ws.length = n3) (hb : Kd.C (Kd.int .u32) w A1 n1 bits) (hk : Kd.C kA4 w A2 n2 kids) (hws : Kd.C (Kd.int .i64) w A3 n3 ws) (hbits : ∀ x ∈ bits, 0 ≤ x ∧ x < 4294967296) :
    Calls Try.prog 8 #[.slice A1 n1 c1, .slice A2 n2 c2, .slice A3 n3 c3] w fun e w' => e = .returned (.bool true) ∧ Below w.heap.size w w' := by
  have HBS := Aside0.mk hb
  have HKS := Aside0.mk hk
  have HBB := Aside0.mk hbits
  subst hl3
  have HWS := Aside0.mk hws
  have hmx3 := Kd.C_max hws
  clear hb hk hbits hws
  go_enter Try.func8, Try.ntmps8
  go_wp2_with (fail)
  refine (sawake_walk w).mono ?_
  rintro e w1 ⟨rfl, hb⟩
  have B1 := Aside0.mk hb
  clear hb
  go_wp2_with (fail)
  refine (grown_walk A1 A2 n1 c1 n2 c2 bits kids w1 hl1 hl2 (Kd.C_below HBS.out B1.out) (Kd.C_below HKS.out B1.out) HBB.out).mono ?_
  rintro e w2 ⟨p, F, nodes, xa, aa, xc, ac, rfl, hz, hg, hn0, hnl⟩
  have HZ := Aside0.mk hz
  have HG := Aside0.mk hg
  clear hz hg hl1 hl2 HBS HKS HBB
  go_upto_region 6 with (fail)
  obtain ⟨ba, ca, hav, hbl0, hblt, _⟩ := Kd.R_form HZ.out.ha (by rw [idL_len]; exact hn0)
  rw [idL_len] at hav
  injection hav with hv1 hv2 hv3
  subst hv1
  clear hv2 hv3
  have HS : Aside0 (Sx w (w2.alloc (.cells #[.slice xa nodes.length xc, .int .i64 1000] 79)) F w2.heap.size ba p nodes (.slice xa nodes.length xc) ac) := ⟨by
    have hbw := below_alloc (Below.refl w2.heap.size w2) (.cells #[.slice xa nodes.length xc, .int .i64 1000] 79)
    have z := HZ.out.elder B1.out
    have z2 := z.drop hbw
    exact ⟨z2.hold, z2.below, z2.hx, Kd.R_reok rfl z2.ha (fun k hk => by obtain rfl := Option.some.inj hk; rfl), blk_new w2 _, ⟨z.below.size, fun hf => by have := z.hold.hi _ hf; omega⟩, z.ha.1 ba rfl⟩⟩
  have HBX : Aside0 (ba < w2.heap.size) := ⟨hblt⟩
  clear HZ B1 hbl0 hblt
  go_upto_region 6 with (fail)
  have hsz3 : w2.heap.size < (w2.alloc (.cells #[.slice xa nodes.length xc, .int .i64 1000] 79)).heap.size := by simp
  generalize w2.alloc (.cells #[.slice xa nodes.length xc, .int .i64 1000] 79) = w3 at *
  generalize w2.heap.size = X at *
  have HP0 : Aside0 (LROW w F ba ((w3.alloc (.cells #[] 3)).alloc (.cells #[] 38)) (.slice (some ⟨w3.heap.size, 0, none⟩) 0 0) (.slice (some ⟨w3.heap.size + 1, 0, none⟩) 0 0) (uRow [])) := ⟨by
    have h := R_fresh0 (Kd.int .u32) (w3.alloc (.cells #[] 3)) 38 (w3.heap.size + 1) (by simp)
    rw [show (w3.alloc (.cells #[] 3)).heap.size = w3.heap.size + 1 by simp] at h
    have h0 := HBX.out
    have ok : ∀ k, w3.heap.size ≤ k → OthB w F ba k := fun k hk => ⟨⟨Nat.le_trans HS.out.below.size hk, fun hf => by have := HS.out.hold.hi _ hf; omega⟩, by omega⟩
    exact ⟨Kd.R_alloc (Kd.R_mono (Kd.R_lower (Kd.R_bound (R_fresh0 (Kd.int .i64) w3 3 w3.heap.size (Nat.le_refl _))) (Nat.zero_le _)) (fun k hk => ok k hk.2.1)) _, Kd.R_mono (Kd.R_lower (Kd.R_bound h) (Nat.zero_le _)) (fun k hk => ok k (by have := hk.2.1; omega))⟩⟩
  have HS4 := Aside0.mk (HS.out.drop (below_alloc (below_alloc (Below.refl _ _) (.cells #[] 3)) (.cells #[] 38)))
  clear HS hsz3
  go_upto_region 7 with (fail)
  generalize (w3.alloc (.cells #[] 3)).alloc (.cells #[] 38) = w4 at *
  generalize w3.heap.size + 1 = q0 at *
  generalize w3.heap.size = p0 at *
  go_wp2_with (fail)
  go_loopg [11, 12, 13] ws.length (fun kq c11 c12 c13 w' => ∃ (i : Nat) (ps : List Nat) (pa ra : Option Addr) (pc rc : Nat), i + kq = ws.length ∧ i ≤ 8 ∧ Aside0 (ps.length = i) ∧ c13 = .int .i64 i ∧ c11 = .slice pa ps.length pc ∧ c12 = .slice ra ps.length rc ∧ Aside0 (∀ x ∈ ps, x < nodes.length) ∧ Aside0 (Sx w w' F X ba p nodes (.slice xa nodes.length xc) ac) ∧ Aside0 (LROW w F ba w' (.slice pa ps.length pc) (.slice ra ps.length rc) (uRow ps)))
  case atStart => exact ⟨0, [], _, _, _, _, by omega, by omega, ⟨rfl⟩, rfl, rfl, rfl, ⟨fun x h => by simp at h⟩, HS4, HP0⟩
  case round =>
    clear HS4 HP0
    obtain ⟨i, ps, pa, ra, pc, rc, hi, hi8, HPL, rfl, rfl, rfl, HPS, HS, HP⟩ := hrel
    by_cases hlt : i < ws.length ∧ i < 8
    · skip
      obtain ⟨hlt, hlt2⟩ := hlt
      obtain ⟨gm, rfl⟩ : ∃ m, gk = m + 1 := ⟨gk - 1, by omega⟩
      obtain ⟨kv, hkv⟩ : ∃ kv, ws[i]? = some kv := ⟨_, List.getElem?_eq_getElem hlt⟩
      obtain ⟨ad, rfl, hc⟩ := at_Z (Kd.C_below HWS.out HS.out.below) i _ hkv
      have hmask := and65535 kv
      have hk0 : 0 ≤ kv % 65536 := Int.emod_nonneg _ (by decide)
      have hrem : (kv % 65536).tmod (nodes.length : Int) = (kv % 65536) % (nodes.length : Int) := Int.tmod_eq_emod_of_nonneg hk0
      have hv0 : 0 ≤ (kv % 65536) % (nodes.length : Int) := Int.emod_nonneg _ (by omega)
      have hv1 : (kv % 65536) % (nodes.length : Int) < (nodes.length : Int) := Int.emod_lt_of_pos _ (by omega)
      obtain ⟨v, hv⟩ := Int.eq_ofNat_of_zero_le hv0
      have hvn : v < nodes.length := by omega
      rw [hv] at hrem
      have hnz : (nodes.length : Int) ≠ 0 := by omega
      have hii : (i : Int) < (ws.length : Int) := by omega
      have x0 := blk_cell HS.out.kx 0
      simp only [List.getElem?_toArray, List.getElem?_cons_zero] at x0
      obtain ⟨ax, rfl, lvv⟩ := rn_lv (Kd.R_reads' HS.out.hx).2.2 v hvn
      have hvn2 : (v : Int) < (nodes.length : Int) := by omega
      have hz2 : (0 : Int) < (nodes.length : Int) := by omega
      clear hv hv0 hv1 hkv
      generalize (nodes.getD v zNd).key.level = Lv at *
      go_upto_region 11 with (fail)
      clear hmask hrem hc hk0
      have hor : Lv > 7 ∧ 0 < nodes.length ∨ ¬ Lv > 7 := by omega
      have HAT := Aside0.mk (at_num HS.out)
      have hmxA := Kd.C_max (Kd.R_reads' HS.out.ha).2.2
      rw [idL_len] at hmxA
      rcases hor with ⟨h7, hvn0⟩ | h7
      · go_upto_region 13 with (fail)
        clear x0 lvv h7 hvn hvn2
        have hat : wr.cell? ⟨ba, 0, none⟩ = some (.int .u32 0) := HAT.out 0 hvn0
        have HFR := Aside0.mk (fun k (hk : wr.heap.size ≤ k) => othb_fresh HS.out k hk)
        have HL8 : Aside0 (((uRow ps).length + 1) * 8 ≤ 140737488355328) := ⟨by have := HPL.out; rw [uRow_len]; omega⟩
        have HL4 : Aside0 (((uRow ps).length + 1) * 4 ≤ 140737488355328) := ⟨by have := HPL.out; rw [uRow_len]; omega⟩
        go_region_held_law (fun w' => w'.cell? ⟨ba, 0, none⟩ = some (.int .u32 0)) (first | exact hat7 | exact hat5 | exact pw_cell_below (below_alloc (Below.refl _ _) _) hat5 | exact pw_cell_below (by (repeat' (first | (with_reducible exact Below.refl _ _) | (with_reducible assumption) | (with_reducible refine Below.alloc ?_ ?_ _) | (with_reducible refine Below.drew ?_) | (with_reducible refine Below.setCell ?_ ?_ _) | (with_reducible refine chain ?_ (by assumption) ?_) | go_size))) hat) (first | (refine Kd.R_append_rows_step (Kd.int .i64) (Rr := (Kd.int .i64).K ((wr.alloc (.cells #[.int .i64 0] 3)).drew)) (w0 := wr) (W := ((wr.alloc (.cells #[.int .i64 0] 3)).drew)) 0 rfl (.tmp 64) (.tmp 66) 76 3 (.int .i64 0) 8 rfl Try.underlying76 infoI rfl (by decide) (by decide) (.slice pa ps.length pc) (uRow ps) [0] (some ⟨wr.heap.size, 0, none⟩) 1 1 (OthB w F ba) (fun _ => False) rfl rfl (Kd.R_below HP.out.1 (below_drew (below_alloc (Below.refl _ _) (.cells #[.int .i64 0] 3)))) (box_I (blk_below (blk_new wr (.cells #[.int .i64 0] 3)) (below_drew (Below.refl _ _)))) int_M (fun _ hk => hk.elim) (fun k hk => HFR.out k (Nat.le_trans ((below_drew (below_alloc (Below.refl _ _) (.cells #[.int .i64 0] 3)))).size hk)) (((below_drew (below_alloc (Below.refl _ _) (.cells #[.int .i64 0] 3)))).mono (Nat.zero_le _)) (Nat.zero_le _) HL8.out ?_; intro v1 w4 ho4 hb4 hg4 hat4; have HBW := Aside0.mk (show Below wr.heap.size wr ((wr.alloc (.cells #[.int .i64 0] 3)).drew) from (below_drew (below_alloc (Below.refl _ _) (.cells #[.int .i64 0] 3)))); have HO4 := Aside0.mk ho4; have HG4 := Aside0.mk hg4; have KA := Aside0.mk hat; have hat5 := kept_num HS.out HP.out HBW.out HG4.out hat; skip; clear ho4 hb4 hg4 hat4) | (refine Kd.R_append_rows_step (Kd.int .i64) (Rr := (Kd.int .i64).K (((wr.alloc (.cells #[.int .i64 0] 3)).alloc (.cells #[.int .u32 0] 38)).drew)) (w0 := wr) (W := (((wr.alloc (.cells #[.int .i64 0] 3)).alloc (.cells #[.int .u32 0] 38)).drew)) 0 rfl (.tmp 64) (.tmp 66) 76 3 (.int .i64 0) 8 rfl Try.underlying76 infoI rfl (by decide) (by decide) (.slice pa ps.length pc) (uRow ps) [0] (some ⟨wr.heap.size, 0, none⟩) 1 1 (OthB w F ba) (fun _ => False) rfl rfl (Kd.R_below HP.out.1 (below_drew (below_alloc (below_alloc (Below.refl _ _) (.cells #[.int .i64 0] 3)) (.cells #[.int .u32 0] 38)))) (box_I (blk_below (blk_new wr (.cells #[.int .i64 0] 3)) (below_drew (below_alloc (Below.refl _ _) (.cells #[.int .u32 0] 38))))) int_M (fun _ hk => hk.elim) (fun k hk => HFR.out k (Nat.le_trans ((below_drew (below_alloc (below_alloc (Below.refl _ _) (.cells #[.int .i64 0] 3)) (.cells #[.int .u32 0] 38)))).size hk)) (((below_drew (below_alloc (below_alloc (Below.refl _ _) (.cells #[.int .i64 0] 3)) (.cells #[.int .u32 0] 38)))).mono (Nat.zero_le _)) (Nat.zero_le _) HL8.out ?_; intro v1 w4 ho4 hb4 hg4 hat4; have HBW := Aside0.mk (show Below wr.heap.size wr (((wr.alloc (.cells #[.int .i64 0] 3)).alloc (.cells #[.int .u32 0] 38)).drew) from (below_drew (below_alloc (below_alloc (Below.refl _ _) (.cells #[.int .i64 0] 3)) (.cells #[.int .u32 0] 38)))); have HO4 := Aside0.mk ho4; have HG4 := Aside0.mk hg4; have KB := Aside0.mk (box_kept HP.out HBW.out HG4.out (b := wr.heap.size + 1) (Nat.le_succ _) (two_alloc wr _ _ _ _)); have hat5 := kept_num HS.out HP.out HBW.out HG4.out hat; skip; clear ho4 hb4 hg4 hat4) | (refine Kd.R_append_rows_step (Kd.int .i64) (Rr := (Kd.int .i64).K (((wr.alloc (.cells #[.int .u32 0] 38)).alloc (.cells #[.int .i64 0] 3)).drew)) (w0 := wr) (W := (((wr.alloc (.cells #[.int .u32 0] 38)).alloc (.cells #[.int .i64 0] 3)).drew)) 0 rfl (.tmp 64) (.tmp 66) 76 3 (.int .i64 0) 8 rfl Try.underlying76 infoI rfl (by decide) (by decide) (.slice pa ps.length pc) (uRow ps) [0] (some ⟨wr.heap.size + 1, 0, none⟩) 1 1 (OthB w F ba) (fun _ => False) rfl rfl (Kd.R_below HP.out.1 (below_drew (below_alloc (below_alloc (Below.refl _ _) (.cells #[.int .u32 0] 38)) (.cells #[.int .i64 0] 3)))) (box_I (two_alloc wr _ _ _ _)) int_M (fun _ hk => hk.elim) (fun k hk => HFR.out k (Nat.le_trans ((below_drew (below_alloc (below_alloc (Below.refl _ _) (.cells #[.int .u32 0] 38)) (.cells #[.int .i64 0] 3)))).size hk)) (((below_drew (below_alloc (below_alloc (Below.refl _ _) (.cells #[.int .u32 0] 38)) (.cells #[.int .i64 0] 3)))).mono (Nat.zero_le _)) (Nat.zero_le _) HL8.out ?_; intro v1 w4 ho4 hb4 hg4 hat4; have HBW := Aside0.mk (show Below wr.heap.size wr (((wr.alloc (.cells #[.int .u32 0] 38)).alloc (.cells #[.int .i64 0] 3)).drew) from (below_drew (below_alloc (below_alloc (Below.refl _ _) (.cells #[.int .u32 0] 38)) (.cells #[.int .i64 0] 3)))); have HO4 := Aside0.mk ho4; have HG4 := Aside0.mk hg4; have KC := Aside0.mk (box_kept HP.out HBW.out HG4.out (b := wr.heap.size) (Nat.le_refl _) (blk_below (blk_new wr (.cells #[.int .u32 0] 38)) (below_drew (below_alloc (Below.refl _ _) (.cells #[.int .i64 0] 3))))); have hat5 := kept_num HS.out HP.out HBW.out HG4.out hat; skip; clear ho4 hb4 hg4 hat4) | (have hpre := KA.out; refine Kd.R_append_rows_step (Kd.int .u32) (Rr := (Kd.int .u32).K (w4.alloc (.cells #[.int .u32 0] 38))) (w0 := wr) (W := (w4.alloc (.cells #[.int .u32 0] 38))) 0 rfl (.tmp 68) (.tmp 73) 74 38 (.int .u32 0) 4 rfl Try.underlying74 infoU rfl (by decide) (by decide) (.slice ra ps.length rc) (uRow ps) [0] (some ⟨w4.heap.size, 0, none⟩) 1 1 (OthB w F ba) (fun _ => False) rfl rfl (row_second HP.out HBW.out HG4.out (below_alloc (Below.refl _ _) (.cells #[.int .u32 0] 38))) (box_I (blk_new w4 _)) int_M (fun _ hk => hk.elim) (fun k hk => HFR.out k (Nat.le_trans (Nat.le_trans HBW.out.size HG4.out.size) (Nat.le_trans ((below_alloc (Below.refl _ _) (.cells #[.int .u32 0] 38))).size hk))) (below0 HBW.out HG4.out (below_alloc (Below.refl _ _) (.cells #[.int .u32 0] 38))) (Nat.zero_le _) HL4.out ?_; intro v2 w5 ho5 hb5 hg5 hat6; have HFIN := Aside0.mk (two_app HS.out HP.out HBW.out HO4.out HG4.out (below_alloc (Below.refl _ _) (.cells #[.int .u32 0] 38)) ho5 hg5); have hat7 := at_num HFIN.out.1 0 (by omega); skip; clear ho5 hb5 hg5 hat6) | (have hpre := KB.out; refine Kd.R_append_rows_step (Kd.int .u32) (Rr := (Kd.int .u32).K w4) (w0 := wr) (W := w4) 0 rfl (.tmp 68) (.tmp 73) 74 38 (.int .u32 0) 4 rfl Try.underlying74 infoU rfl (by decide) (by decide) (.slice ra ps.length rc) (uRow ps) [0] (some ⟨wr.heap.size + 1, 0, none⟩) 1 1 (OthB w F ba) (fun _ => False) (by simp [Act.eval, Act.put]) (by simp [Act.eval, Act.put]) (row_second HP.out HBW.out HG4.out (Below.refl _ _)) (box_I KB.out) int_M (fun _ hk => hk.elim) (fun k hk => HFR.out k (Nat.le_trans (Nat.le_trans HBW.out.size HG4.out.size) hk)) (below0 HBW.out HG4.out (Below.refl _ _)) (Nat.zero_le _) HL4.out ?_; intro v2 w5 ho5 hb5 hg5 hat6; have HFIN := Aside0.mk (two_app HS.out HP.out HBW.out HO4.out HG4.out (Below.refl _ _) ho5 hg5); have hat7 := at_num HFIN.out.1 0 (by omega); skip; clear ho5 hb5 hg5 hat6) | (have hpre := KC.out; refine Kd.R_append_rows_step (Kd.int .u32) (Rr := (Kd.int .u32).K w4) (w0 := wr) (W := w4) 0 rfl (.tmp 68) (.tmp 73) 74 38 (.int .u32 0) 4 rfl Try.underlying74 infoU rfl (by decide) (by decide) (.slice ra ps.length rc) (uRow ps) [0] (some ⟨wr.heap.size, 0, none⟩) 1 1 (OthB w F ba) (fun _ => False) (by simp [Act.eval, Act.put]) (by simp [Act.eval, Act.put]) (row_second HP.out HBW.out HG4.out (Below.refl _ _)) (box_I KC.out) int_M (fun _ hk => hk.elim) (fun k hk => HFR.out k (Nat.le_trans (Nat.le_trans HBW.out.size HG4.out.size) hk)) (below0 HBW.out HG4.out (Below.refl _ _)) (Nat.zero_le _) HL4.out ?_; intro v2 w5 ho5 hb5 hg5 hat6; have HFIN := Aside0.mk (two_app HS.out HP.out HBW.out HO4.out HG4.out (Below.refl _ _) ho5 hg5); have hat7 := at_num HFIN.out.1 0 (by omega); skip; clear ho5 hb5 hg5 hat6))
        all_goals
          obtain ⟨A6, c6, rfl⟩ := Kd.R_slice HFIN.out.2.1
          obtain ⟨A7, c7, rfl⟩ := Kd.R_slice HFIN.out.2.2
          have HF2 := HFIN.out
          rw [show uRow ps ++ [0] = uRow (ps ++ [0]) from uRow_snoc ps 0, uRow_len] at HF2
          have HS7 := Aside0.mk HF2.1
          have HP7 := Aside0.mk HF2.2
          have HPL7 : Aside0 ((ps ++ [0]).length = i + 1) := ⟨by have := HPL.out; simp; omega⟩
          have HPS7 : Aside0 (∀ x ∈ ps ++ [0], x < nodes.length) := ⟨fun x hx => (List.mem_append.1 hx).elim (HPS.out x) (fun h => by rw [List.mem_singleton.1 h]; omega)⟩
          clear HF2 HFIN HS HP HPL HPS hat7 hat5 hat HAT
          go_wp2_with (fail)
          go_roundg gm
          case measure => omega
          case rel => exact ⟨i + 1, ps ++ [0], A6, A7, c6, c7, by omega, by omega, HPL7, by go_num, by simp [uRow_len], by simp [uRow_len], HPS7, HS7, HP7⟩
      · go_upto_region 13 with (fail)
        clear x0 lvv h7
        have hat := HAT.out v hvn
        have HFR := Aside0.mk (fun k (hk : wr.heap.size ≤ k) => othb_fresh HS.out k hk)
        have HL8 : Aside0 (((uRow ps).length + 1) * 8 ≤ 140737488355328) := ⟨by have := HPL.out; rw [uRow_len]; omega⟩
        have HL4 : Aside0 (((uRow ps).length + 1) * 4 ≤ 140737488355328) := ⟨by have := HPL.out; rw [uRow_len]; omega⟩
        go_region_held_law (fun w' => w'.cell? ⟨ba, v, none⟩ = some (.int .u32 (v : Int))) (first | exact hat7 | exact hat5 | exact pw_cell_below (below_alloc (Below.refl _ _) _) hat5 | exact pw_cell_below (by (repeat' (first | (with_reducible exact Below.refl _ _) | (with_reducible assumption) | (with_reducible refine Below.alloc ?_ ?_ _) | (with_reducible refine Below.drew ?_) | (with_reducible refine Below.setCell ?_ ?_ _) | (with_reducible refine chain ?_ (by assumption) ?_) | go_size))) hat) (first | (refine Kd.R_append_rows_step (Kd.int .i64) (Rr := (Kd.int .i64).K ((wr.alloc (.cells #[.int .i64 (v : Int)] 3)).drew)) (w0 := wr) (W := ((wr.alloc (.cells #[.int .i64 (v : Int)] 3)).drew)) 0 rfl (.tmp 64) (.tmp 66) 76 3 (.int .i64 0) 8 rfl Try.underlying76 infoI rfl (by decide) (by decide) (.slice pa ps.length pc) (uRow ps) [(v : Int)] (some ⟨wr.heap.size, 0, none⟩) 1 1 (OthB w F ba) (fun _ => False) rfl rfl (Kd.R_below HP.out.1 (below_drew (below_alloc (Below.refl _ _) (.cells #[.int .i64 (v : Int)] 3)))) (box_I (blk_below (blk_new wr (.cells #[.int .i64 (v : Int)] 3)) (below_drew (Below.refl _ _)))) int_M (fun _ hk => hk.elim) (fun k hk => HFR.out k (Nat.le_trans ((below_drew (below_alloc (Below.refl _ _) (.cells #[.int .i64 (v : Int)] 3)))).size hk)) (((below_drew (below_alloc (Below.refl _ _) (.cells #[.int .i64 (v : Int)] 3)))).mono (Nat.zero_le _)) (Nat.zero_le _) HL8.out ?_; intro v1 w4 ho4 hb4 hg4 hat4; have HBW := Aside0.mk (show Below wr.heap.size wr ((wr.alloc (.cells #[.int .i64 (v : Int)] 3)).drew) from (below_drew (below_alloc (Below.refl _ _) (.cells #[.int .i64 (v : Int)] 3)))); have HO4 := Aside0.mk ho4; have HG4 := Aside0.mk hg4; have KA := Aside0.mk hat; have hat5 := kept_num HS.out HP.out HBW.out HG4.out hat; skip; clear ho4 hb4 hg4 hat4) | (refine Kd.R_append_rows_step (Kd.int .i64) (Rr := (Kd.int .i64).K (((wr.alloc (.cells #[.int .i64 (v : Int)] 3)).alloc (.cells #[.int .u32 (v : Int)] 38)).drew)) (w0 := wr) (W := (((wr.alloc (.cells #[.int .i64 (v : Int)] 3)).alloc (.cells #[.int .u32 (v : Int)] 38)).drew)) 0 rfl (.tmp 64) (.tmp 66) 76 3 (.int .i64 0) 8 rfl Try.underlying76 infoI rfl (by decide) (by decide) (.slice pa ps.length pc) (uRow ps) [(v : Int)] (some ⟨wr.heap.size, 0, none⟩) 1 1 (OthB w F ba) (fun _ => False) rfl rfl (Kd.R_below HP.out.1 (below_drew (below_alloc (below_alloc (Below.refl _ _) (.cells #[.int .i64 (v : Int)] 3)) (.cells #[.int .u32 (v : Int)] 38)))) (box_I (blk_below (blk_new wr (.cells #[.int .i64 (v : Int)] 3)) (below_drew (below_alloc (Below.refl _ _) (.cells #[.int .u32 (v : Int)] 38))))) int_M (fun _ hk => hk.elim) (fun k hk => HFR.out k (Nat.le_trans ((below_drew (below_alloc (below_alloc (Below.refl _ _) (.cells #[.int .i64 (v : Int)] 3)) (.cells #[.int .u32 (v : Int)] 38)))).size hk)) (((below_drew (below_alloc (below_alloc (Below.refl _ _) (.cells #[.int .i64 (v : Int)] 3)) (.cells #[.int .u32 (v : Int)] 38)))).mono (Nat.zero_le _)) (Nat.zero_le _) HL8.out ?_; intro v1 w4 ho4 hb4 hg4 hat4; have HBW := Aside0.mk (show Below wr.heap.size wr (((wr.alloc (.cells #[.int .i64 (v : Int)] 3)).alloc (.cells #[.int .u32 (v : Int)] 38)).drew) from (below_drew (below_alloc (below_alloc (Below.refl _ _) (.cells #[.int .i64 (v : Int)] 3)) (.cells #[.int .u32 (v : Int)] 38)))); have HO4 := Aside0.mk ho4; have HG4 := Aside0.mk hg4; have KB := Aside0.mk (box_kept HP.out HBW.out HG4.out (b := wr.heap.size + 1) (Nat.le_succ _) (two_alloc wr _ _ _ _)); have hat5 := kept_num HS.out HP.out HBW.out HG4.out hat; skip; clear ho4 hb4 hg4 hat4) | (refine Kd.R_append_rows_step (Kd.int .i64) (Rr := (Kd.int .i64).K (((wr.alloc (.cells #[.int .u32 (v : Int)] 38)).alloc (.cells #[.int .i64 (v : Int)] 3)).drew)) (w0 := wr) (W := (((wr.alloc (.cells #[.int .u32 (v : Int)] 38)).alloc (.cells #[.int .i64 (v : Int)] 3)).drew)) 0 rfl (.tmp 64) (.tmp 66) 76 3 (.int .i64 0) 8 rfl Try.underlying76 infoI rfl (by decide) (by decide) (.slice pa ps.length pc) (uRow ps) [(v : Int)] (some ⟨wr.heap.size + 1, 0, none⟩) 1 1 (OthB w F ba) (fun _ => False) rfl rfl (Kd.R_below HP.out.1 (below_drew (below_alloc (below_alloc (Below.refl _ _) (.cells #[.int .u32 (v : Int)] 38)) (.cells #[.int .i64 (v : Int)] 3)))) (box_I (two_alloc wr _ _ _ _)) int_M (fun _ hk => hk.elim) (fun k hk => HFR.out k (Nat.le_trans ((below_drew (below_alloc (below_alloc (Below.refl _ _) (.cells #[.int .u32 (v : Int)] 38)) (.cells #[.int .i64 (v : Int)] 3)))).size hk)) (((below_drew (below_alloc (below_alloc (Below.refl _ _) (.cells #[.int .u32 (v : Int)] 38)) (.cells #[.int .i64 (v : Int)] 3)))).mono (Nat.zero_le _)) (Nat.zero_le _) HL8.out ?_; intro v1 w4 ho4 hb4 hg4 hat4; have HBW := Aside0.mk (show Below wr.heap.size wr (((wr.alloc (.cells #[.int .u32 (v : Int)] 38)).alloc (.cells #[.int .i64 (v : Int)] 3)).drew) from (below_drew (below_alloc (below_alloc (Below.refl _ _) (.cells #[.int .u32 (v : Int)] 38)) (.cells #[.int .i64 (v : Int)] 3)))); have HO4 := Aside0.mk ho4; have HG4 := Aside0.mk hg4; have KC := Aside0.mk (box_kept HP.out HBW.out HG4.out (b := wr.heap.size) (Nat.le_refl _) (blk_below (blk_new wr (.cells #[.int .u32 (v : Int)] 38)) (below_drew (below_alloc (Below.refl _ _) (.cells #[.int .i64 (v : Int)] 3))))); have hat5 := kept_num HS.out HP.out HBW.out HG4.out hat; skip; clear ho4 hb4 hg4 hat4) | (have hpre := KA.out; refine Kd.R_append_rows_step (Kd.int .u32) (Rr := (Kd.int .u32).K (w4.alloc (.cells #[.int .u32 (v : Int)] 38))) (w0 := wr) (W := (w4.alloc (.cells #[.int .u32 (v : Int)] 38))) 0 rfl (.tmp 68) (.tmp 73) 74 38 (.int .u32 0) 4 rfl Try.underlying74 infoU rfl (by decide) (by decide) (.slice ra ps.length rc) (uRow ps) [(v : Int)] (some ⟨w4.heap.size, 0, none⟩) 1 1 (OthB w F ba) (fun _ => False) rfl rfl (row_second HP.out HBW.out HG4.out (below_alloc (Below.refl _ _) (.cells #[.int .u32 (v : Int)] 38))) (box_I (blk_new w4 _)) int_M (fun _ hk => hk.elim) (fun k hk => HFR.out k (Nat.le_trans (Nat.le_trans HBW.out.size HG4.out.size) (Nat.le_trans ((below_alloc (Below.refl _ _) (.cells #[.int .u32 (v : Int)] 38))).size hk))) (below0 HBW.out HG4.out (below_alloc (Below.refl _ _) (.cells #[.int .u32 (v : Int)] 38))) (Nat.zero_le _) HL4.out ?_; intro v2 w5 ho5 hb5 hg5 hat6; have HFIN := Aside0.mk (two_app HS.out HP.out HBW.out HO4.out HG4.out (below_alloc (Below.refl _ _) (.cells #[.int .u32 (v : Int)] 38)) ho5 hg5); have hat7 := at_num HFIN.out.1 v (by omega); skip; clear ho5 hb5 hg5 hat6) | (have hpre := KB.out; refine Kd.R_append_rows_step (Kd.int .u32) (Rr := (Kd.int .u32).K w4) (w0 := wr) (W := w4) 0 rfl (.tmp 68) (.tmp 73) 74 38 (.int .u32 0) 4 rfl Try.underlying74 infoU rfl (by decide) (by decide) (.slice ra ps.length rc) (uRow ps) [(v : Int)] (some ⟨wr.heap.size + 1, 0, none⟩) 1 1 (OthB w F ba) (fun _ => False) (by simp [Act.eval, Act.put]) (by simp [Act.eval, Act.put]) (row_second HP.out HBW.out HG4.out (Below.refl _ _)) (box_I KB.out) int_M (fun _ hk => hk.elim) (fun k hk => HFR.out k (Nat.le_trans (Nat.le_trans HBW.out.size HG4.out.size) hk)) (below0 HBW.out HG4.out (Below.refl _ _)) (Nat.zero_le _) HL4.out ?_; intro v2 w5 ho5 hb5 hg5 hat6; have HFIN := Aside0.mk (two_app HS.out HP.out HBW.out HO4.out HG4.out (Below.refl _ _) ho5 hg5); have hat7 := at_num HFIN.out.1 v (by omega); skip; clear ho5 hb5 hg5 hat6) | (have hpre := KC.out; refine Kd.R_append_rows_step (Kd.int .u32) (Rr := (Kd.int .u32).K w4) (w0 := wr) (W := w4) 0 rfl (.tmp 68) (.tmp 73) 74 38 (.int .u32 0) 4 rfl Try.underlying74 infoU rfl (by decide) (by decide) (.slice ra ps.length rc) (uRow ps) [(v : Int)] (some ⟨wr.heap.size, 0, none⟩) 1 1 (OthB w F ba) (fun _ => False) (by simp [Act.eval, Act.put]) (by simp [Act.eval, Act.put]) (row_second HP.out HBW.out HG4.out (Below.refl _ _)) (box_I KC.out) int_M (fun _ hk => hk.elim) (fun k hk => HFR.out k (Nat.le_trans (Nat.le_trans HBW.out.size HG4.out.size) hk)) (below0 HBW.out HG4.out (Below.refl _ _)) (Nat.zero_le _) HL4.out ?_; intro v2 w5 ho5 hb5 hg5 hat6; have HFIN := Aside0.mk (two_app HS.out HP.out HBW.out HO4.out HG4.out (Below.refl _ _) ho5 hg5); have hat7 := at_num HFIN.out.1 v (by omega); skip; clear ho5 hb5 hg5 hat6))
        all_goals
          obtain ⟨A6, c6, rfl⟩ := Kd.R_slice HFIN.out.2.1
          obtain ⟨A7, c7, rfl⟩ := Kd.R_slice HFIN.out.2.2
          have HF2 := HFIN.out
          rw [show uRow ps ++ [(v : Int)] = uRow (ps ++ [v]) from uRow_snoc ps v, uRow_len] at HF2
          have HS7 := Aside0.mk HF2.1
          have HP7 := Aside0.mk HF2.2
          have HPL7 : Aside0 ((ps ++ [v]).length = i + 1) := ⟨by have := HPL.out; simp; omega⟩
          have HPS7 : Aside0 (∀ x ∈ ps ++ [v], x < nodes.length) := ⟨fun x hx => (List.mem_append.1 hx).elim (HPS.out x) (fun h => by rw [List.mem_singleton.1 h]; omega)⟩
          clear HF2 HFIN HS HP HPL HPS hat7 hat5 hat HAT
          go_wp2_with (fail)
          go_roundg gm
          case measure => omega
          case rel => exact ⟨i + 1, ps ++ [v], A6, A7, c6, c7, by omega, by omega, HPL7, by go_num, by simp [uRow_len], by simp [uRow_len], HPS7, HS7, HP7⟩
    · have hor : ¬ i < ws.length ∨ (i < ws.length ∧ ¬ i < 8) := by omega
      have HPN : Aside0 (ps.length ≤ 8) := ⟨by have := HPL.out; omega⟩
      clear hlt hi hi8 HPL
      have x0 := blk_cell HS.out.kx 0
      have x1 := blk_cell HS.out.kx 1
      simp only [List.getElem?_toArray, List.getElem?_cons_zero, List.getElem?_cons_succ] at x0 x1
      have HRF := Aside0.mk (rreach_walk nodes 1000 xa pa xc pc ps wr (Kd.R_reads' HS.out.hx).2.2 (by have := (Kd.R_reads' HP.out.1).2.2; rwa [uRow_len] at this) HG.out.wf HPS.out (by omega) hn0 (by have := HPN.out; omega))
      rcases hor with h1 | ⟨h1, h2⟩
      all_goals
        go_wp2_with (fail)
        refine HRF.out.mono ?_
        rintro e w5 ⟨hb, S, hS, rfl⟩
        have HS5 := Aside0.mk (HS.out.drop hb)
        have HP5 := Aside0.mk (And.intro (Kd.R_below HP.out.1 hb) (Kd.R_below HP.out.2 hb))
        have HRL := Aside0.mk hS
        clear hb hS HRF HS HP x0 x1
        have hmk := marked_all (fun r hr => rep100 HG.out (HPS.out r hr))
        have hrw := reach_walk F p nodes [0, 0, 0] 1000 ra rc ps w5 HS5.out.hold.ar HG.out.wf HS5.out.hold.hi (by omega) (Kd.R_reads' HP5.out.2).2.2 (fun r hr => by have := HPS.out r hr; omega)
        have HRW : Aside0 (Calls Try.prog 44 #[.pointer (some ⟨p, 0, none⟩), .slice ra ps.length rc] w5 fun e w' => e = .returned (.tuple #[.int .i64 (S.length : Nat), .nilIface]) ∧ Below w5.heap.size w5 w') := ⟨hrw.mono fun e w' ⟨hb, hg, _⟩ => ⟨by rw [hg HPS.out, hmk.len HRL.out], hb⟩⟩
        clear hrw hmk
        go_wp2_with (fail)
        refine HRW.out.mono ?_
        rintro e w6 ⟨rfl, hb⟩
        have HS6 := Aside0.mk (HS5.out.drop hb)
        have HP6 := Aside0.mk (And.intro (Kd.R_below HP5.out.1 hb) (Kd.R_below HP5.out.2 hb))
        have HCW := Aside0.mk (collect_walk F p nodes [0, 0, 0] 1000 ra rc ps w6 HS6.out.hold.ar HS6.out.hold.hi HG.out.wf HG.out.lv (by omega) (by omega) (Kd.R_mono HP6.out.2 (fun _ _ => trivial)) (fun r hr => by have := HPS.out r hr; omega) (by have := HPN.out; omega))
        clear hb HRW HS5 HP5
        go_wp2_with (fail)
        refine HCW.out.mono ?_
        intro e w7 hp
        obtain ⟨p2, F2, dst, js, K, la, lc, rfl, hc, hb, hjl, hrow, him⟩ := collected_ok HG.out HPS.out HS6.out.hold.ar.once (by omega) hp
        have HS7 := Aside0.mk (HS6.out.drop hb)
        have HP7 := Aside0.mk (Kd.R_below HP6.out.2 hb)
        have HC7 := Aside0.mk hc
        have HJ7 := Aside0.mk hrow
        have HIM := Aside0.mk him
        have HJL := Aside0.mk hjl
        rw [hjl]
        clear hc hb hjl hrow him hp HS6 HP6 HCW
        have hla : ∀ n : Nat, Calls Try.prog 26 #[.pointer (some ⟨p, 0, none⟩)] (w7.drewN n) fun e w' => e = .returned (.int .i64 nodes.length) ∧ ∃ m, w' = w7.drewN m := fun n => (alen_walk F p nodes _ 1000 _ (HS7.out.hold.drewN n).ar).mono fun _ _ ⟨he, hm⟩ => ⟨he, n, hm.symm⟩
        have hma : ∀ n : Nat, Calls Try.prog 46 #[.pointer (some ⟨p, 0, none⟩)] (w7.drewN n) fun e w' => e = .returned (.int .i64 1000) ∧ ∃ m, w' = w7.drewN m := fun n => (amost_walk F p nodes _ 1000 _ (HS7.out.hold.drewN n).ar).mono fun _ _ ⟨he, hm⟩ => ⟨he, n, hm.symm⟩
        have hmb : ∀ n : Nat, Calls Try.prog 46 #[.pointer (some ⟨p2, 0, none⟩)] (w7.drewN n) fun e w' => e = .returned (.int .i64 1000) ∧ ∃ m, w' = w7.drewN m := fun n => (amost_walk F2 p2 dst _ 1000 _ (HC7.out.hold.drewN n).ar).mono fun _ _ ⟨he, hm⟩ => ⟨he, n, hm.symm⟩
        have x0 := blk_cell HS7.out.kx 0
        simp only [List.getElem?_toArray, List.getElem?_cons_zero] at x0
        go_upto_region 17 with (fail)
        go_quiet (first | (go_at_call 26; exact hla _) | (go_at_call 46; with_reducible exact hma _) | (go_at_call 46; with_reducible exact hmb _))
        have hb8 : Below w7.heap.size w7 (w7.drewN nq) := pw_below_drewN (Below.refl _ _) nq
        have FA := Aside0.mk (HS7.out.hold.ar.below hb8)
        have FB := Aside0.mk (HC7.out.hold.ar.below hb8)
        have CP := Aside0.mk (Kd.C_below (Kd.R_reads' HP7.out).2.2 hb8)
        have CJ := Aside0.mk (Kd.C_below (Kd.R_reads' HJ7.out).2.2 hb8)
        have HBW := Aside0.mk (chain HS7.out.below hb8 HS7.out.below.size)
        have hcnt := dst_count HG.out HS7.out.hold.ar.once HC7.out
        have hal := copied_all HC7.out.inv (fun r hr => by
          obtain ⟨t, ht⟩ := List.getElem?_of_mem hr
          exact mem_keys (HIM.out t r ht)) HC7.out.keys
        have hkl := hal.len HRL.out
        have hk0 := (hal.mem 0).trans (HRL.out.mem 0).symm
        have HDL := Aside0.mk HC7.out.len
        have PAIR := Aside0.mk (show Pairs nodes dst ps js from ⟨HJL.out, fun t r ht => HC7.out.inv.rep r _ (HIM.out t r ht), fun t u r v ht hu => ⟨fun e => by subst e; exact key_one HC7.out.inv HC7.out.hold.ar.once (HIM.out t r ht) (HIM.out u r hu), fun e => image_one HC7.out.inv HS7.out.hold.ar.once (HIM.out t r ht) (e ▸ HIM.out u v hu)⟩⟩)
        clear hla hma hmb x0 HS7 HC7 HP7 HJ7 HIM HJL hb8 hal
        generalize w7.drewN nq = w8 at *
        rw [show K.length = S.length by rw [← hkl]; simp [keysL]] at hcnt
        clear hkl
        by_cases hz : 0 ∈ S
        · have hdz : decide (0 ∈ S) = true := by simpa using hz
          rw [if_pos (hk0.2 hz)] at hcnt
          rw [hdz]
          clear hz hk0 hdz
          have hfin : ((dst.length : Int) == (S.length : Int)) = true := by rw [beq_iff_eq]; omega
          clear hcnt
          have hpl8 := HPN.out
          go_upto_region 22 with (fail)
          go_loopg [137] ps.length (fun kq c137 w' => ∃ (i : Nat), i + kq = ps.length ∧ c137 = .int .i64 i ∧ Aside0 (Below w8.heap.size w8 w'))
          case atStart => exact ⟨0, by omega, rfl, ⟨Below.refl _ _⟩⟩
          case round =>
            obtain ⟨i, hi, rfl, HB⟩ := hrel
            by_cases hlt : i < ps.length
            · obtain ⟨gm0, rfl⟩ : ∃ m, gk = m + 1 := ⟨gk - 1, by omega⟩
              obtain ⟨r, hr⟩ : ∃ r, ps[i]? = some r := ⟨_, List.getElem?_eq_getElem hlt⟩
              obtain ⟨ar, rfl, hc1⟩ := at_U (Kd.C_below CP.out HB.out) i r hr
              obtain ⟨jv, hji⟩ := PAIR.out.get i hlt
              obtain ⟨al, rfl, hc2⟩ := at_U (Kd.C_below CJ.out HB.out) i jv hji
              obtain ⟨q, hq1, hq2⟩ := PAIR.out.rep i r hr
              rw [List.getD_eq_getElem?_getD, hji] at hq2
              have HAL : Aside0 (Calls Try.prog 47 #[.pointer (some ⟨p, 0, none⟩), .int .u32 r, .pointer (some ⟨p2, 0, none⟩), .int .u32 jv] wr fun e w' => e = .returned (.bool true) ∧ Below wr.heap.size wr w') := ⟨alike_walk F F2 p p2 nodes dst _ _ _ _ (by omega) (by have := HDL.out; omega) q r jv wr (FA.out.below HB.out) (FB.out.below HB.out) hq1 hq2⟩
              have hii : (i : Int) < (ps.length : Int) := by omega
              have HRI := Aside0.mk hr
              have HJI := Aside0.mk hji
              clear hr hji hq1 hq2
              go_wp2_with (go_at_call 47; refine HAL.out.mono ?_; rintro e w9 ⟨rfl, hb⟩; have HB9 := Aside0.mk (chain HB.out hb HB.out.size); clear hb)
              clear HAL hc1 hc2 HB
              go_loopg [152] i (fun kq c152 w' => ∃ (t : Nat), t + kq = i ∧ c152 = .int .i64 t ∧ Aside0 (Below w8.heap.size w8 w'))
              case atStart => exact ⟨0, by omega, rfl, HB9⟩
              case round =>
                clear HB9
                obtain ⟨t, ht, rfl, HB⟩ := hrel
                by_cases hti : t < i
                · obtain ⟨gm, rfl⟩ : ∃ m, gk = m + 1 := ⟨gk - 1, by omega⟩
                  obtain ⟨v, hv⟩ : ∃ v, ps[t]? = some v := ⟨_, List.getElem?_eq_getElem (by omega)⟩
                  obtain ⟨jt, hjt⟩ := PAIR.out.get t (by omega)
                  obtain ⟨a1, ha1, hc1⟩ := at_U (Kd.C_below CP.out HB.out) t v hv
                  obtain rfl := Option.some.inj ha1
                  obtain ⟨a2, ha2, hc2⟩ := at_U (Kd.C_below CJ.out HB.out) t jt hjt
                  obtain rfl := Option.some.inj ha2
                  obtain ⟨a3, ha3, hc3⟩ := at_U (Kd.C_below CJ.out HB.out) i jv HJI.out
                  obtain rfl := Option.some.inj ha3
                  have hsm := PAIR.out.same t i v r hv HRI.out
                  rw [List.getD_eq_getElem?_getD, hjt, List.getD_eq_getElem?_getD, HJI.out] at hsm
                  have htt : (t : Int) < (ps.length : Int) := by omega
                  clear ha1 ha2 ha3 hv hjt
                  by_cases he : v = r
                  · have e1 : ((v : Int) == (r : Int)) = true := by rw [beq_iff_eq]; omega
                    have e2 : ((jt : Int) == (jv : Int)) = true := by
                      have : jt = jv := hsm.1 he
                      rw [beq_iff_eq]; omega
                    clear he hsm
                    go_upto_region 29 with (fail)
                    go_quiet (fail)
                    have HB2 := Aside0.mk (chain HB.out (pw_below_drewN (Below.refl _ _) nq) HB.out.size)
                    clear HB hc1 hc2 hc3
                    go_wp2_with (fail)
                    go_roundg gm
                    case measure => omega
                    case rel => exact ⟨t + 1, by omega, by go_num, HB2⟩
                  · have e1 : ((v : Int) == (r : Int)) = false := by rw [beq_eq_false_iff_ne]; omega
                    have e2 : ((jt : Int) == (jv : Int)) = false := by
                      have : ¬ jt = jv := fun h => he (hsm.2 h)
                      rw [beq_eq_false_iff_ne]; omega
                    clear he hsm
                    go_upto_region 29 with (fail)
                    go_quiet (fail)
                    have HB2 := Aside0.mk (chain HB.out (pw_below_drewN (Below.refl _ _) nq) HB.out.size)
                    clear HB hc1 hc2 hc3
                    go_wp2_with (fail)
                    go_roundg gm
                    case measure => omega
                    case rel => exact ⟨t + 1, by omega, by go_num, HB2⟩
                · obtain rfl : t = i := by omega
                  go_wp2_with (fail)
                  go_roundg gm0
                  case measure => omega
                  case rel => exact ⟨t + 1, by omega, by go_num, HB⟩
            · obtain rfl : i = ps.length := by omega
              have HLB := Aside0.mk (alen_walk F2 p2 dst _ _ wr (FB.out.below HB.out))
              go_wp2_with (go_at_call 26; refine HLB.out.mono ?_; rintro e w9 ⟨rfl, rfl⟩)
              go_ret
              exact ⟨ret_bool (by first | rfl | assumption), chain HBW.out HB.out HBW.out.size⟩
        · have hdz : decide (0 ∈ S) = false := by simpa using hz
          rw [if_neg (fun h => hz (hk0.1 h))] at hcnt
          rw [hdz]
          clear hz hk0 hdz
          have hfin : ((dst.length : Int) == (S.length : Int) + 1) = true := by rw [beq_iff_eq]; omega
          have hsb : (S.length : Int) + 1 ≤ 1000000000 := by have := HDL.out; omega
          clear hcnt
          have hpl8 := HPN.out
          go_upto_region 22 with (fail)
          go_loopg [137] ps.length (fun kq c137 w' => ∃ (i : Nat), i + kq = ps.length ∧ c137 = .int .i64 i ∧ Aside0 (Below w8.heap.size w8 w'))
          case atStart => exact ⟨0, by omega, rfl, ⟨Below.refl _ _⟩⟩
          case round =>
            obtain ⟨i, hi, rfl, HB⟩ := hrel
            by_cases hlt : i < ps.length
            · obtain ⟨gm0, rfl⟩ : ∃ m, gk = m + 1 := ⟨gk - 1, by omega⟩
              obtain ⟨r, hr⟩ : ∃ r, ps[i]? = some r := ⟨_, List.getElem?_eq_getElem hlt⟩
              obtain ⟨ar, rfl, hc1⟩ := at_U (Kd.C_below CP.out HB.out) i r hr
              obtain ⟨jv, hji⟩ := PAIR.out.get i hlt
              obtain ⟨al, rfl, hc2⟩ := at_U (Kd.C_below CJ.out HB.out) i jv hji
              obtain ⟨q, hq1, hq2⟩ := PAIR.out.rep i r hr
              rw [List.getD_eq_getElem?_getD, hji] at hq2
              have HAL : Aside0 (Calls Try.prog 47 #[.pointer (some ⟨p, 0, none⟩), .int .u32 r, .pointer (some ⟨p2, 0, none⟩), .int .u32 jv] wr fun e w' => e = .returned (.bool true) ∧ Below wr.heap.size wr w') := ⟨alike_walk F F2 p p2 nodes dst _ _ _ _ (by omega) (by have := HDL.out; omega) q r jv wr (FA.out.below HB.out) (FB.out.below HB.out) hq1 hq2⟩
              have hii : (i : Int) < (ps.length : Int) := by omega
              have HRI := Aside0.mk hr
              have HJI := Aside0.mk hji
              clear hr hji hq1 hq2
              go_wp2_with (go_at_call 47; refine HAL.out.mono ?_; rintro e w9 ⟨rfl, hb⟩; have HB9 := Aside0.mk (chain HB.out hb HB.out.size); clear hb)
              clear HAL hc1 hc2 HB
              go_loopg [152] i (fun kq c152 w' => ∃ (t : Nat), t + kq = i ∧ c152 = .int .i64 t ∧ Aside0 (Below w8.heap.size w8 w'))
              case atStart => exact ⟨0, by omega, rfl, HB9⟩
              case round =>
                clear HB9
                obtain ⟨t, ht, rfl, HB⟩ := hrel
                by_cases hti : t < i
                · obtain ⟨gm, rfl⟩ : ∃ m, gk = m + 1 := ⟨gk - 1, by omega⟩
                  obtain ⟨v, hv⟩ : ∃ v, ps[t]? = some v := ⟨_, List.getElem?_eq_getElem (by omega)⟩
                  obtain ⟨jt, hjt⟩ := PAIR.out.get t (by omega)
                  obtain ⟨a1, ha1, hc1⟩ := at_U (Kd.C_below CP.out HB.out) t v hv
                  obtain rfl := Option.some.inj ha1
                  obtain ⟨a2, ha2, hc2⟩ := at_U (Kd.C_below CJ.out HB.out) t jt hjt
                  obtain rfl := Option.some.inj ha2
                  obtain ⟨a3, ha3, hc3⟩ := at_U (Kd.C_below CJ.out HB.out) i jv HJI.out
                  obtain rfl := Option.some.inj ha3
                  have hsm := PAIR.out.same t i v r hv HRI.out
                  rw [List.getD_eq_getElem?_getD, hjt, List.getD_eq_getElem?_getD, HJI.out] at hsm
                  have htt : (t : Int) < (ps.length : Int) := by omega
                  clear ha1 ha2 ha3 hv hjt
                  by_cases he : v = r
                  · have e1 : ((v : Int) == (r : Int)) = true := by rw [beq_iff_eq]; omega
                    have e2 : ((jt : Int) == (jv : Int)) = true := by
                      have : jt = jv := hsm.1 he
                      rw [beq_iff_eq]; omega
                    clear he hsm
                    go_upto_region 29 with (fail)
                    go_quiet (fail)
                    have HB2 := Aside0.mk (chain HB.out (pw_below_drewN (Below.refl _ _) nq) HB.out.size)
                    clear HB hc1 hc2 hc3
                    go_wp2_with (fail)
                    go_roundg gm
                    case measure => omega
                    case rel => exact ⟨t + 1, by omega, by go_num, HB2⟩
                  · have e1 : ((v : Int) == (r : Int)) = false := by rw [beq_eq_false_iff_ne]; omega
                    have e2 : ((jt : Int) == (jv : Int)) = false := by
                      have : ¬ jt = jv := fun h => he (hsm.2 h)
                      rw [beq_eq_false_iff_ne]; omega
                    clear he hsm
                    go_upto_region 29 with (fail)
                    go_quiet (fail)
                    have HB2 := Aside0.mk (chain HB.out (pw_below_drewN (Below.refl _ _) nq) HB.out.size)
                    clear HB hc1 hc2 hc3
                    go_wp2_with (fail)
                    go_roundg gm
                    case measure => omega
                    case rel => exact ⟨t + 1, by omega, by go_num, HB2⟩
                · obtain rfl : t = i := by omega
                  go_wp2_with (fail)
                  go_roundg gm0
                  case measure => omega
                  case rel => exact ⟨t + 1, by omega, by go_num, HB⟩
            · obtain rfl : i = ps.length := by omega
              have HLB := Aside0.mk (alen_walk F2 p2 dst _ _ wr (FB.out.below HB.out))
              go_wp2_with (go_at_call 26; refine HLB.out.mono ?_; rintro e w9 ⟨rfl, rfl⟩)
              go_ret
              exact ⟨ret_bool (by first | rfl | assumption), chain HBW.out HB.out HBW.out.size⟩
end Go.Proofs.Ytbkbkgfpnefilaa.ar
namespace Go.Proofs.Ytbkbkgfpnefilaa.lawSweepCollects
open Go.ChangeShapes Go.WideShapes Go.ChangeAt Go.RowKit Go.Joins

theorem params_read : ∀ t ∈ Try.f8.params.toList, Try.prog.readableRec t = true ∧ t < Try.prog.types.size := by
  have h : (Try.f8.params.toList.all fun t => Try.prog.readableRec t && decide (t < Try.prog.types.size)) = true := by kernel_rfl
  intro t ht
  have := List.all_eq_true.1 h t ht
  simpa using this
set_option maxRecDepth 100000 in
theorem contract (H : Type) (enc : TypeId × Value → H) (W : World) (base : Nat) (args : Array Value) (ds gs : List (DataW H)) (before : List MemPlace)
    (hval : ∀ (j : Nat) t v, Try.f8.params[j]? = some t → args[j]? = some v → Value.okWide Try.prog W .any base t v)
    (hW : DataW.Whole enc Try.prog Try.f8.params.toList Rows.sweepCollectsSpec.vars false W args.toList ds gs before) :
    Calls Try.prog 8 args W fun e W' => ∃ v, e = .returned v ∧ Rows.sweepCollectsSpec.post enc Try.prog Try.f8 false true false false W args v W' := by
  have hW' := hW
  obtain ⟨p, q, hA0, hV, rfl, hfz, hnd⟩ := hW
  have hA : DataW.TrodAll enc Try.prog W 0 (fun _ => true) true Try.f8.params.toList args.toList ds p := hA0
  rw [Try.params8] at hA hval
  obtain ⟨v0, vs0, d0, ds0, p0, q0, hargs, rfl, rfl, h0, r0⟩ := trodAll_cons hA
  obtain ⟨v1, vs1, d1, ds1, p1, q1, rfl, rfl, rfl, h1, r1⟩ := trodAll_cons r0
  obtain ⟨v2, vs2, d2, ds2, p2, q2, rfl, rfl, rfl, h2, r2⟩ := trodAll_cons r1
  obtain ⟨rfl, rfl, rfl⟩ := trodAll_nil r2
  obtain rfl : args = #[v0, v1, v2] := by cases args; simp_all
  obtain ⟨rfl, rfl⟩ := trodVars_none hV
  obtain ⟨bitsA, bitsn, bitsc, bits, rfl, bitsl, bitsC, bitsg⟩ := bs.open_rowsG ar.kU ar.U32 Try.underlying74 (by kernel_rfl) (fun m cs y h => ar.u32_open m cs y h) (hval 0 74 v0 rfl rfl) h0
  obtain ⟨kidsA, kidsn, kidsc, kids, rfl, kidsl, kidsC, kidsg⟩ := bs.open_rowsG ar.kA4 (fun _ => True) Try.underlying75 (by kernel_rfl) (fun m cs y h => ar.a4_open m cs y h) (hval 1 75 v1 rfl rfl) h1
  obtain ⟨whichA, whichn, whichc, which, rfl, whichl, whichC, whichg⟩ := bs.open_rowsG ar.kI (fun _ => True) Try.underlying76 (by kernel_rfl) (fun m cs y h => ar.i64_open m cs y h) (hval 2 76 v2 rfl rfl) h2
  clear hA0
  refine (ar.collects_walk bitsA kidsA whichA bitsn bitsc kidsn kidsc whichn whichc bits kids which W bitsl kidsl whichl bitsC kidsC whichC bitsg).mono fun e W' ⟨he, hg⟩ => ?_
  subst he
  exact ⟨_, rfl, bs.post_law (tb := 4) hW' hg (by kernel_rfl) params_read rfl rfl Try.underlying4 rfl (fun _ => okWide_bool_mk Try.underlying4 _)⟩

theorem own : ownKnob Try.prog.godebug = none := by kernel_rfl
set_option maxRecDepth 100000 in
theorem lifted (os : Os) (started : os.Started) (H : Type) (enc : TypeId × Value → H) :
    ReturnsInHanded {} Try.checked os 8 .any (Rows.sweepCollectsSpec.pre6 enc Try.prog Try.f8 Rows.sweepCollectsRow.domain false) (Rows.sweepCollectsSpec.post enc Try.prog Try.f8 false true false false) := by
  refine returnsInHanded_of_change_sized (C := Try.checked) own started (by kernel_rfl) Try.func8
    (ChangeSpec.witness6 (enc := enc) (C := Try.checked) false ⟨#[], #[Value.slice none 0 0, .slice none 0 0, .slice none 0 0], []⟩ 8 (by kernel_rfl) (by kernel_rfl) (by kernel_rfl) (by kernel_rfl)) ?_
  intro W base args ds gs before hval hW _ _ _
  exact contract H enc W base args ds gs before hval hW

theorem said : Rows.SweepCollectsSaid :=
  OpenClaim.holds_of_wide 8 Try.f8 rfl rfl rfl rfl rfl rfl rfl ⟨rfl, rfl, rfl, rfl, rfl⟩ rfl rfl rfl rfl rfl (by kernel_rfl) Try.func8 (by kernel_rfl)
    (of_decide_eq_true (by kernel_rfl)) (by unfold Func.isWrapper; first | (rw [if_pos (by decide +kernel)]; kernel_rfl) | (rw [if_neg (by decide +kernel)]; exact ⟨rfl, rfl⟩))
    (fun os started H enc _ => lifted os started H enc)
end Go.Proofs.Ytbkbkgfpnefilaa.lawSweepCollects
