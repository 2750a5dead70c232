/- The walk over set.Of where no cell comes twice. -/
import Derived.Test.YtpmipllohiiocaaMGt
import Derived.Deep.RegionHeld3
import Derived.Test.YtpmipllohiiocaaMTr
import Derived.Test.YtpmipllohiiocaaMAr
import Derived.Sort.Grow
import Derived.Deep.Draws
import Derived.Shelf.SlSortCmp.NoneTotal
import Derived.Shelf.Lay
import Derived.Ground.SlsfProg
import Derived.BigQuiet
import Derived.Lib.SliceRun
namespace Go.Proofs.Ytpmipllohiiocaa.tr
open Go.RowKit Go.Proofs.Ytpmipllohiiocaa.PTreeBuilds Go.Proofs.YtpmipllohiiocaaW.PrintWords Go.Proofs.YtpmipllohiiocaaW.PrintLast Go.Proofs.YtpmipllohiiocaaW.PrintMore Go.Proofs.Ytpmipllohiiocaa.bs Go.ChangeShapes Go.Proofs.Ytpmipllohiiocaa.lb Go.Proofs.Ytpmipllohiiocaa.ar Go.Maps

/-- a square's cells, leaf by leaf, from a least point on -/
def qcells : Q → Int → Int → List Cl
  | .leaf f, la, lb => cells f la lb
  | .node a b c d, la, lb => qcells a la lb ++ qcells b (la + 2 ^ a.ex) lb ++ qcells c la (lb + 2 ^ a.ex) ++ qcells d (la + 2 ^ a.ex) (lb + 2 ^ a.ex)
theorem cap62_add (x y : Int) (hx : 0 ≤ x) (hy : 0 ≤ y) : cap62 (cap62 x + cap62 y) = cap62 (x + y) := by unfold cap62; omega
theorem qcells_cnt : ∀ (q : Q) (la lb : Int), q.cnt = cap62 (qcells q la lb).length
  | .leaf f, la, lb => by
    have h := cells_len (f : Int) la lb (by omega)
    have hp := Go.Proofs.Ytpmipllohiiocaa.ar.popN_le 32 f
    show ((popN 32 f : Nat) : Int) = cap62 ((cells f la lb).length : Int)
    rw [h, Int.toNat_natCast]
    unfold cap62
    omega
  | .node a b c d, la, lb => by
    have ha := qcells_cnt a la lb
    have hb := qcells_cnt b (la + 2 ^ a.ex) lb
    have hc := qcells_cnt c la (lb + 2 ^ a.ex)
    have hd := qcells_cnt d (la + 2 ^ a.ex) (lb + 2 ^ a.ex)
    show cap62 (cap62 (cap62 (cap62 (0 + a.cnt) + b.cnt) + c.cnt) + d.cnt) = cap62 ((qcells a la lb ++ qcells b (la + 2 ^ a.ex) lb ++ qcells c la (lb + 2 ^ a.ex) ++ qcells d (la + 2 ^ a.ex) (lb + 2 ^ a.ex)).length : Int)
    rw [ha, hb, hc, hd]
    simp only [List.length_append]
    unfold cap62
    omega
theorem qcells_nil {q : Q} (h : q.cnt = 0) (la lb : Int) : qcells q la lb = [] := by
  have := qcells_cnt q la lb
  rw [h] at this
  unfold cap62 at this
  exact List.length_eq_zero_iff.1 (by omega)
/-- what a call leaves that lays cells behind those that are there -/
structure Laid (w : World) (O : Nat) (v : Value) (out : List Cl) (w' : World) : Prop where
  ex : ∃ v', w'.heap[O]? = some (.cells #[v'] 24 (0, 0)) ∧ Kd.R k39 39 w' (O + 1) (fun k => O < k) v' out ∧ (v'.ownBlock = v.ownBlock ∨ ∃ b, v'.ownBlock = some b ∧ w.heap.size ≤ b)
  keeps : Keeps (fun k => k = O ∨ v.ownBlock = some k) w w'
theorem Laid.from {w w1 w2 : World} {O : Nat} {v : Value} {out : List Cl} (h : Laid w1 O v out w2) (hb : Below w.heap.size w w1) : Laid w O v out w2 := by
  obtain ⟨⟨v', h1, h2, h3⟩, hk⟩ := h
  exact ⟨⟨v', h1, h2, h3.imp id (fun ⟨b, e, hb2⟩ => ⟨b, e, Nat.le_trans hb.size hb2⟩)⟩, (Keeps.of_below (F := fun k => k = O ∨ v.ownBlock = some k) hb).trans hk (fun k hk => .inl hk)⟩
def hiddenO (t : TypeId) (x : Operand) : Op := .load t x
attribute [local go_sem] hiddenO
theorem infoCl : (Try.prog.info? 39).map (fun i => (i.zero, i.size, i.bytes)) = some (some (.agg #[.int .i64 0, .int .i64 0, .int .i64 0]), 3, 24) := by kernel_rfl
set_option maxRecDepth 100000 in
set_option maxHeartbeats 4000000 in
theorem see_walk (f la lb : Int) (hf : 0 ≤ f ∧ f < 4294967296) (hla : -4611686018427387908 ≤ la ∧ la ≤ 4611686018427387908) (hlb : -4611686018427387908 ≤ lb ∧ lb ≤ 4611686018427387908) (O : Nat) (v : Value) (out : List Cl) (w : World) (hO : w.heap[O]? = some (.cells #[v] 24 (0, 0))) (hR : Kd.R k39 39 w (O + 1) (fun k => O < k) v out) (hl : out.length ≤ 1000000000) :
    Calls Try.prog 41 #[.int .u32 f, .agg #[.int .i64 la, .int .i64 lb], .pointer (some ⟨O, 0, none⟩)] w fun e w' => e = .returned (.tuple #[]) ∧ Laid w O v (out ++ cells f la lb) w' := by
  obtain ⟨A, c, rfl⟩ := Kd.R_slice hR
  have hcl : (cells f la lb).length ≤ 32 := by have h1 := cells_len f la lb hf.1; have h2 := Go.Proofs.Ytpmipllohiiocaa.ar.popN_le 32 f.toNat; omega
  have hb := below_alloc (Below.refl w.heap.size w) (.cells #[.int .i64 la, .int .i64 lb] 32)
  have hkl := blk_new w (.cells #[.int .i64 la, .int .i64 lb] 32)
  have l0 := blk_cell hkl 0
  have l1 := blk_cell hkl 1
  have hO1 := blk_below hO hb
  have hR1 := Kd.R_below hR hb
  have c0 := blk_cell hO1 0
  simp only [List.getElem?_toArray, List.getElem?_cons_zero, List.getElem?_cons_succ] at l0 l1 c0
  have hcw := fun (w : World) => site_Leaf_Cells.calls 200 f la lb _ w (cells_tells f la lb hf hla hlb 200 (by omega))
  have HCW := Aside0.mk hcw
  have HO := Aside0.mk hO
  have HO1 := Aside0.mk hO1
  have HR1 := Aside0.mk hR1
  have HKL := Aside0.mk hkl
  have HB := Aside0.mk hb
  have hXO : w.heap.size ≠ O := by have := blk_lt hO; omega
  have hOX : O < w.heap.size := blk_lt hO
  have HROW := Aside0.mk (And.intro hR.1 (Kd.R_lt hR))
  clear hcw hO hO1 hR hR1 hkl hb
  go_enter Try.func41, Try.ntmps41
  go_upto_region 1 with (fail)
  generalize w.alloc (.cells #[.int .i64 la, .int .i64 lb] 32) = w1 at *
  obtain ⟨X, hX⟩ : ∃ X, w.heap.size = X := ⟨_, rfl⟩
  have HX := Aside0.mk hX
  rw [hX] at hXO hOX HKL l0 l1
  simp only [hX]
  clear hX
  have hrow : ∀ k, (Value.slice A out.length c).ownBlock = some k → O < k ∧ k < X := fun k hk => ⟨HROW.out.1 k hk, by rw [← HX.out]; exact HROW.out.2 k hk⟩
  have HRW := Aside0.mk hrow
  have f0 := blk_frozen HO1.out 0
  clear hrow
  rw [show (Op.load 24 (Operand.tmp 2)) = hiddenO 24 (Operand.tmp 2) from rfl]
  go_region_held3 (fun w' => w'.cell? ⟨X, 0, none⟩ = some (.int .i64 la) ∧ w'.cell? ⟨X, 1, none⟩ = some (.int .i64 lb)) (refine ⟨?_, ?_⟩ <;> (first | (with_reducible assumption) | (with_reducible refine pw_cell_below ?_ l0; (repeat' (first | (with_reducible exact Below.refl _ _) | (with_reducible assumption) | (with_reducible refine Below.alloc ?_ ?_ _) | (with_reducible refine Below.drew ?_) | (with_reducible refine Below.setCell ?_ ?_ _) | (with_reducible refine chain ?_ (by assumption) ?_) | go_size)); done) | (with_reducible refine pw_cell_below ?_ l1; (repeat' (first | (with_reducible exact Below.refl _ _) | (with_reducible assumption) | (with_reducible refine Below.alloc ?_ ?_ _) | (with_reducible refine Below.drew ?_) | (with_reducible refine Below.setCell ?_ ?_ _) | (with_reducible refine chain ?_ (by assumption) ?_) | go_size)); done) | (with_reducible refine Go.Proofs.Ytpmipllohiiocaa.ar.cell_far hXO ?_; with_reducible assumption)))
    (first | (go_at_call 11; with_reducible refine Calls.mono (HCW.out _) ?_; rintro e w5 ⟨v5, rfl, hr5, hb5⟩; obtain ⟨A5, c5, rfl⟩ := Kd.R_slice hr5; have HB5 := Aside0.mk (show Below w1.heap.size w1 w5 by (repeat' (first | (with_reducible exact Below.refl _ _) | (with_reducible assumption) | (with_reducible refine Below.alloc ?_ ?_ _) | (with_reducible refine Below.drew ?_) | (with_reducible refine Below.setCell ?_ ?_ _) | (with_reducible refine chain ?_ (by assumption) ?_) | go_size))); have HC5 := Aside0.mk (Kd.R_reads' hr5).2.2; have HR5 := Aside0.mk (Kd.R_below HR1.out HB5.out); have l0 := pw_cell_below HB5.out l0; have l1 := pw_cell_below HB5.out l1; have c0 := pw_cell_below HB5.out c0; have HO5 := Aside0.mk (blk_below HO1.out HB5.out); have f0 := blk_frozen HO5.out 0; clear hr5 hb5) | (refine Kd.R_append_rows_step k39 (Rr := k39.K w5) (w0 := w5) (W := w5) (O + 1) rfl (.tmp 5) (.tmp 8) 24 39 (.agg #[.int .i64 0, .int .i64 0, .int .i64 0]) 24 rfl Try.underlying24 infoCl rfl (by decide) (by decide) (.slice A out.length c) out (cells f la lb) A5 (cells f la lb).length c5 (fun k => O < k) (fun _ => False) (by simp [Act.eval]) (by simp [Act.eval]) HR5.out HC5.out (fun x cs h => by rw [k39_open h]; exact k39_mkM _ _ _ _) (fun _ hk => hk.elim) (fun k hk => by have := HB5.out.size; have := blk_lt HO1.out; omega) (Below.refl _ _) (by have := HB5.out.size; have := blk_lt HO1.out; omega) (by omega) ?_; intro v1 w6 ho6 hb6 hg6 hat6; have hgX : some X ≠ (Value.slice A out.length c).ownBlock := fun e => (by have := HRW.out X e.symm; omega); have hgO : some O ≠ (Value.slice A out.length c).ownBlock := fun e => (by have := HRW.out O e.symm; omega); have l0 := (World.cell?_of_block (a := ⟨X, 0, none⟩) (hg6.block X (World.block_lt_of_cell? _ _ l0) hgX)).trans l0; have l1 := (World.cell?_of_block (a := ⟨X, 1, none⟩) (hg6.block X (World.block_lt_of_cell? _ _ l1) hgX)).trans l1; have c0 := (World.cell?_of_block (a := ⟨O, 0, none⟩) (hg6.block O (blk_lt HO5.out) hgO)).trans c0; have f0 := (World.frozen?_of_block (a := ⟨O, 0, none⟩) (hg6.block O (blk_lt HO5.out) hgO)).trans f0; have HO6 := Aside0.mk ((hg6.block O (blk_lt HO5.out) hgO).trans HO5.out); have HR6 := Aside0.mk ho6; have HG6 := Aside0.mk hg6; have HA6 := Aside0.mk hat6; clear ho6 hb6 hg6 hat6 hgX hgO; obtain ⟨A6, c6, rfl⟩ := Kd.R_slice HR6.out))
  all_goals (
    have hb1 := HB.out
    have hk := (((Keeps.refl (fun k => k = O ∨ (Value.slice A out.length c).ownBlock = some k) w).below_ hb1).below_ HB5.out).grown HG6.out (fun k hk => .inl (.inr hk))
    have HK := Aside0.mk (hk.setCell (p := ⟨O, 0, none⟩) (.inl (.inl rfl)) (.slice A6 (out ++ cells f la lb).length c6))
    have HLD : Aside0 (Laid w O (.slice A out.length c) (out ++ cells f la lb) (w6.setCell ⟨O, 0, none⟩ (.slice A6 (out ++ cells f la lb).length c6))) := ⟨⟨_, blk_put HO6.out 0 _ rfl, Kd.R_far (p := ⟨O, 0, none⟩) HR6.out (fun k hk => Nat.ne_of_gt hk) _, HA6.out.imp id (fun ⟨b, e, hb2⟩ => ⟨b, e, by have h1 := HB5.out.size; have h2 := HB.out.size; have h3 := HX.out; omega⟩)⟩, HK.out⟩
    rw [List.length_append] at HLD
    clear hk HK
    go_wp2_with (fail)
    go_end0
    exact ⟨rfl, HLD.out⟩)
section
variable {w0 w : World} {F : Nat → Prop} {p : Nat} {nodes : List Nd} {empty : List Int} {most : Int} {O : Nat}
/-- a call lays behind what another one has laid -/
theorem Laid.trans {w w1 w2 : World} {O : Nat} {v : Value} {out out2 : List Cl} (h : Laid w O v out w1) (h2 : ∀ v1, w1.heap[O]? = some (.cells #[v1] 24 (0, 0)) → Kd.R k39 39 w1 (O + 1) (fun k => O < k) v1 out → Laid w1 O v1 out2 w2) : Laid w O v out2 w2 := by
  obtain ⟨⟨v1, e1, r1, a1⟩, k1⟩ := h
  obtain ⟨⟨v2, e2, r2, a2⟩, k2⟩ := h2 v1 e1 r1
  refine ⟨⟨v2, e2, r2, ?_⟩, k1.trans k2 (fun k hk => ?_)⟩
  · rcases a2 with a2 | ⟨b, e, hb⟩
    · rcases a1 with a1 | ⟨b, e, hb⟩
      · exact .inl (a2.trans a1)
      · exact .inr ⟨b, a2.trans e, hb⟩
    · exact .inr ⟨b, e, Nat.le_trans k1.size hb⟩
  · rcases hk with rfl | hk
    · exact .inl (.inl rfl)
    · rcases a1 with a1 | ⟨b, e, hb⟩
      · exact .inl (.inr (by rw [← a1]; exact hk))
      · rw [e] at hk; injection hk with hk; exact .inr (hk ▸ hb)
theorem Laid.ar {w w1 : World} {O : Nat} {v : Value} {out : List Cl} (h : Laid w O v out w1) (hA : Ar w F p nodes empty most) (hF : ∀ k, F k → k < O) (hv : ∀ k, v.ownBlock = some k → O < k) : Ar w1 F p nodes empty most :=
  hA.kept h.keeps.kept (fun k hk hh => hh.elim (fun e => by have := hF k hk; omega) (fun e => by have := hF k hk; have := hv k e; omega))
theorem Laid.refl {w : World} {O : Nat} {v : Value} {out : List Cl} (hO : w.heap[O]? = some (.cells #[v] 24 (0, 0))) (hR : Kd.R k39 39 w (O + 1) (fun k => O < k) v out) : Laid w O v out w :=
  ⟨⟨v, hO, hR, .inl rfl⟩, Keeps.refl _ _⟩
theorem Laid.past {w w1 w2 : World} {O : Nat} {v : Value} {out : List Cl} (h : Laid w O v out w1) (hb : Below w1.heap.size w1 w2) : Laid w O v out w2 := by
  obtain ⟨⟨v', h1, h2, h3⟩, hk⟩ := h
  exact ⟨⟨v', blk_below h1 hb, Kd.R_below h2 hb, h3⟩, hk.below_ hb⟩
def kcells (a b c d : Q) (la lb H : Int) : Nat → List Cl
  | 0 => []
  | j + 1 => kcells a b c d la lb H j ++ qcells (Q.kid (.node a b c d) j) (lowA la H j) (lowB lb H j)
theorem kcells_all (a b c d : Q) (la lb : Int) : kcells a b c d la lb (2 ^ a.ex) 4 = qcells (.node a b c d) la lb := by
  simp [kcells, qcells, Q.kid, lowA, lowB]
theorem kcells_le (a b c d : Q) (la lb H : Int) (j : Nat) (h : j ≤ 4) : (kcells a b c d la lb H j).length ≤ (kcells a b c d la lb H 4).length := by
  have h5 : j = 0 ∨ j = 1 ∨ j = 2 ∨ j = 3 ∨ j = 4 := by omega
  rcases h5 with rfl | rfl | rfl | rfl | rfl <;> simp only [kcells, List.length_append, List.length_nil] <;> omega
def seeV (O : Nat) : Value := .func (.func 41) #[] #[.pointer (some ⟨O, 0, none⟩)]
set_option maxRecDepth 100000 in
set_option maxHeartbeats 1000000 in
theorem visit_zero (q : Q) (i : Nat) (lv la lb : Int) (fv : Value) (w : World) (hA : Ar w F p nodes empty most) (hR : Rep nodes q i) (hz : q.cnt = 0) :
    Calls Try.prog 39 #[.pointer (some ⟨p, 0, none⟩), .int .u32 i, .int .i64 lv, .agg #[.int .i64 la, .int .i64 lb], fv] w fun e w' => e = .returned (.tuple #[]) ∧ Below w.heap.size w w' := by
  have hb := below_alloc (Below.refl w.heap.size w) (.cells #[.int .i64 la, .int .i64 lb] 32)
  have hc := ncount_walk F p nodes empty most _ (hA.below hb) i (by omega) (by have := hR.lt; have := hA.size; omega)
  rw [hR.cnt, hz] at hc
  have HC := Aside0.mk hc
  have HB := Aside0.mk hb
  clear hc hb hA hR hz
  go_enter Try.func39, Try.ntmps39
  go_wp2_with (go_at_call 24; refine HC.out.mono ?_; rintro e w1 ⟨rfl, rfl⟩)
  exact bodyPost_ret (v := .tuple #[]) (by simp [results, Try.results39, go_sem]) rfl ⟨rfl, HB.out⟩
set_option maxRecDepth 100000 in
set_option maxHeartbeats 4000000 in
theorem visit_leaf (f i : Nat) (la lb : Int) (v : Value) (out : List Cl) (w : World) (hA : Ar w F p nodes empty most) (hR : Rep nodes (.leaf f) i) (hz : (Q.leaf f).cnt ≠ 0) (hla : -8796093022208 ≤ la ∧ la + 4 ≤ 8796093022208) (hlb : -8796093022208 ≤ lb ∧ lb + 4 ≤ 8796093022208) (hO : w.heap[O]? = some (.cells #[v] 24 (0, 0))) (hRR : Kd.R k39 39 w (O + 1) (fun k => O < k) v out) (hlen : out.length ≤ 1000000000) :
    Calls Try.prog 39 #[.pointer (some ⟨p, 0, none⟩), .int .u32 i, .int .i64 2, .agg #[.int .i64 la, .int .i64 lb], seeV O] w fun e w' => e = .returned (.tuple #[]) ∧ Laid w O v (out ++ cells f la lb) w' := by
  have hb := below_alloc (Below.refl w.heap.size w) (.cells #[.int .i64 la, .int .i64 lb] 32)
  have hsz := hA.size
  have hil := hR.lt
  have hc := ncount_walk F p nodes empty most _ (hA.below hb) i (by omega) (by omega)
  rw [hR.cnt] at hc
  have hne : ((Q.leaf f).cnt == 0) = false := by rw [beq_eq_false_iff_ne]; exact hz
  have hf : f < 4294967296 := hR.2
  have hbits := fun (W : World) (hbW : Below (w.alloc (.cells #[.int .i64 la, .int .i64 lb] 32)).heap.size (w.alloc (.cells #[.int .i64 la, .int .i64 lb] 32)) W) => bits_walk F p nodes empty most W ((hA.below hb).below hbW) i (by omega) (by omega)
  rw [bitsAt_some (x := ⟨leafKey f, (popN 32 f : Nat)⟩) (by rw [Int.toNat_natCast]; exact hR.1), show (leafKey (f : Int)).bits = (f : Int) from rfl] at hbits
  have hkl := blk_new w (.cells #[.int .i64 la, .int .i64 lb] 32)
  have l0 := blk_cell hkl 0
  have l1 := blk_cell hkl 1
  simp only [List.getElem?_toArray, List.getElem?_cons_zero, List.getElem?_cons_succ] at l0 l1
  have hsee := fun (W : World) (hbW : Below w.heap.size w W) => see_walk (f : Int) la lb ⟨by omega, by omega⟩ (by omega) (by omega) O v out W (blk_below hO hbW) (Kd.R_below hRR hbW) hlen
  generalize (Q.leaf f).cnt = cn at *
  have HC := Aside0.mk hc
  have HB := Aside0.mk hb
  have HBITS := Aside0.mk hbits
  have HSEE := Aside0.mk hsee
  have hXO : w.heap.size ≠ O := by have := blk_lt hO; omega
  have HXR := Aside0.mk (show v.ownBlock ≠ some w.heap.size from fun e => by have := Kd.R_lt hRR _ e; omega)
  clear hc hb hbits hsee hkl hA hR hO hRR
  unfold seeV
  go_enter Try.func39, Try.ntmps39
  go_upto_region 3 with (go_at_call 24; refine HC.out.mono ?_; rintro e w1 ⟨rfl, rfl⟩)
  generalize w.alloc (.cells #[.int .i64 la, .int .i64 lb] 32) = w1 at *
  obtain ⟨X, hX⟩ : ∃ X, w.heap.size = X := ⟨_, rfl⟩
  have HX := Aside0.mk hX
  rw [hX] at hXO l0 l1
  simp only [hX]
  clear hX
  have HXR2 := Aside0.mk (show ¬ (X = O ∨ v.ownBlock = some X) from fun e => e.elim hXO (fun e => HXR.out (by rw [HX.out]; exact e)))
  have HL0 := Aside0.mk (show w1.drew.cell? ⟨X, 0, none⟩ = some (.int .i64 la) from l0)
  have HL1 := Aside0.mk (show w1.drew.cell? ⟨X, 1, none⟩ = some (.int .i64 lb) from l1)
  have HLX := Aside0.mk (show X < w1.drew.heap.size from World.block_lt_of_cell? _ _ l0)
  go_region_held3 (fun w' => w'.cell? ⟨X, 0, none⟩ = some (.int .i64 la) ∧ w'.cell? ⟨X, 1, none⟩ = some (.int .i64 lb)) (refine ⟨?_, ?_⟩ <;> (first | (with_reducible assumption) | (with_reducible refine pw_cell_below ?_ l0; (repeat' (first | (with_reducible exact Below.refl _ _) | (with_reducible assumption) | (with_reducible refine Below.alloc ?_ ?_ _) | (with_reducible refine Below.drew ?_) | (with_reducible refine Below.setCell ?_ ?_ _) | (with_reducible refine chain ?_ (by assumption) ?_) | go_size)); done) | (with_reducible refine pw_cell_below ?_ l1; (repeat' (first | (with_reducible exact Below.refl _ _) | (with_reducible assumption) | (with_reducible refine Below.alloc ?_ ?_ _) | (with_reducible refine Below.drew ?_) | (with_reducible refine Below.setCell ?_ ?_ _) | (with_reducible refine chain ?_ (by assumption) ?_) | go_size)); done)))
    (first | (go_at_call 48; with_reducible refine (HBITS.out _ (by (repeat' (first | (with_reducible exact Below.refl _ _) | (with_reducible assumption) | (with_reducible refine Below.alloc ?_ ?_ _) | (with_reducible refine Below.drew ?_) | (with_reducible refine Below.setCell ?_ ?_ _) | (with_reducible refine chain ?_ (by assumption) ?_) | go_size)))).mono ?_; rintro e w5 ⟨rfl, rfl⟩) | (go_at_call 41; with_reducible refine Calls.mono (HSEE.out _ (below_drew HB.out)) ?_; rintro e w6 ⟨rfl, hl6⟩; have bX := hl6.keeps.block X HLX.out HXR2.out; have l0 := (World.cell?_of_block (a := ⟨X, 0, none⟩) bX).trans HL0.out; have l1 := (World.cell?_of_block (a := ⟨X, 1, none⟩) bX).trans HL1.out; have HL6 := Aside0.mk hl6; clear hl6 bX))
  all_goals (
    go_wp2_with (fail)
    exact bodyPost_ret (v := .tuple #[]) (by simp [results, Try.results39, go_sem]) rfl ⟨rfl, HL6.out.from (below_drew HB.out)⟩)
/-- what visit does with a kid -/
def VisOk (O : Nat) (p : Nat) (F : Nat → Prop) (nodes : List Nd) (empty : List Int) (most : Int) (q : Q) : Prop :=
  ∀ (i : Nat) (la lb : Int) (v : Value) (out : List Cl) (w : World), Ar w F p nodes empty most → Rep nodes q i → q.ex ≤ 44 → (-8796093022208 ≤ la ∧ la + 2 ^ q.ex ≤ 8796093022208) → (-8796093022208 ≤ lb ∧ lb + 2 ^ q.ex ≤ 8796093022208) → w.heap[O]? = some (.cells #[v] 24 (0, 0)) → Kd.R k39 39 w (O + 1) (fun k => O < k) v out → out.length + (qcells q la lb).length ≤ 1000000000 →
    Calls Try.prog 39 #[.pointer (some ⟨p, 0, none⟩), .int .u32 i, .int .i64 q.lv, .agg #[.int .i64 la, .int .i64 lb], seeV O] w fun e w' => e = .returned (.tuple #[]) ∧ Laid w O v (out ++ qcells q la lb) w'
set_option maxRecDepth 100000 in
set_option maxHeartbeats 4000000 in
theorem visit_node (hF : ∀ k, F k → k < O) (hsz : nodes.length ≤ 536870912) (a b c d : Q) (ih : ∀ j, j < 4 → VisOk O p F nodes empty most (Q.kid (.node a b c d) j)) (i : Nat) (la lb : Int) (v : Value) (out : List Cl) (w : World) (hA : Ar w F p nodes empty most) (hR : Rep nodes (.node a b c d) i) (hz : (Q.node a b c d).cnt ≠ 0) (hex : (Q.node a b c d).ex ≤ 44) (hla : -8796093022208 ≤ la ∧ la + 2 ^ (Q.node a b c d).ex ≤ 8796093022208) (hlb : -8796093022208 ≤ lb ∧ lb + 2 ^ (Q.node a b c d).ex ≤ 8796093022208) (hO : w.heap[O]? = some (.cells #[v] 24 (0, 0))) (hRR : Kd.R k39 39 w (O + 1) (fun k => O < k) v out) (hlen : out.length + (qcells (.node a b c d) la lb).length ≤ 1000000000) :
    Calls Try.prog 39 #[.pointer (some ⟨p, 0, none⟩), .int .u32 i, .int .i64 (Q.node a b c d).lv, .agg #[.int .i64 la, .int .i64 lb], seeV O] w fun e w' => e = .returned (.tuple #[]) ∧ Laid w O v (out ++ qcells (.node a b c d) la lb) w' := by
  have hb := below_alloc (Below.refl w.heap.size w) (.cells #[.int .i64 la, .int .i64 lb] 32)
  have hil := hR.lt
  have hc := ncount_walk F p nodes empty most _ (hA.below hb) i (by omega) (by omega)
  rw [hR.cnt] at hc
  have hne : ((Q.node a b c d).cnt == 0) = false := by rw [beq_eq_false_iff_ne]; exact hz
  obtain ⟨k0, k1, k2, k3, hkey, hkid⟩ := rep_kid hR
  have hkd := kids_walk F p nodes empty most _ (hA.below hb) i (by omega) (by omega)
  rw [hkey] at hkd
  unfold kidsVal at hkd
  dsimp only at hkd
  have hidx := fun (w : World) (j : Nat) (hj : j < 4) => index4v w k0 k1 k2 k3 j hj
  have hKL := blk_new w (.cells #[.int .i64 la, .int .i64 lb] 32)
  have ha2 := a.lv_ge
  have hal := a.lv_ex
  have hlv : (Q.node a b c d).lv = (a.ex : Int) + 1 := by show a.lv + 1 = _; rw [hal]
  have he1 : (Q.node a b c d).ex = a.ex + 1 := rfl
  have e2 : (2 : Int) ^ (a.ex + 1) = 2 * 2 ^ a.ex := two_succ a.ex
  rw [he1, e2] at hla hlb
  rw [he1] at hex
  rw [hlv]
  have hne2 : (((a.ex : Int) + 1) == 2) = false := by rw [beq_eq_false_iff_ne]; omega
  rw [← kcells_all] at hlen ⊢
  obtain ⟨H, hH⟩ : ∃ H : Int, (2 : Int) ^ a.ex = H := ⟨_, rfl⟩
  have hHp : 1 ≤ H := by rw [← hH]; exact two_pos _
  have hsh : shl .i64 1 (a.ex : Int) = H := by rw [shl_one _ (by omega)]; exact hH
  rw [hH] at hla hlb hlen ⊢
  have HLA := Aside0.mk hla
  have HLB := Aside0.mk hlb
  have hXO : w.heap.size ≠ O := by have := blk_lt hO; omega
  have HXR := Aside0.mk (show ¬ (w.heap.size = O ∨ v.ownBlock = some w.heap.size) from fun e => e.elim hXO (fun e => by have := Kd.R_lt hRR _ e; omega))
  have HLD := Aside0.mk (Laid.refl (blk_below hO hb) (Kd.R_below hRR hb))
  have HBW := Aside0.mk hb
  have HAR := Aside0.mk (hA.below hb)
  have HRV := Aside0.mk hRR.1
  have HKID := Aside0.mk hkid
  have HIH := Aside0.mk ih
  have HHH := Aside0.mk hH
  have HC := Aside0.mk hc
  have HKD := Aside0.mk hkd
  have HKL := Aside0.mk hKL
  have HLEN := Aside0.mk hlen
  have HFF := Aside0.mk hF
  have HIDX := Aside0.mk hidx
  have hex2 : (1 : Int) ≤ (a.ex : Int) := by omega
  have hex3 : (a.ex : Int) ≤ 43 := by omega
  have hw2 : wrap64 ((2 : Int) ^ a.ex) = H := by rw [hH]; exact w64 _ (by omega)
  have HEX := Aside0.mk (show a.ex + 1 ≤ 44 from hex)
  generalize (Q.node a b c d).cnt = cn at *
  clear hb hc hkd hKL hkid ih hA hR hO hRR hla hlb hlen hH hF hidx hkey hal hlv he1 e2 ha2 hil hz hex hXO
  have hwH : wrap64 H = H := w64 _ (by have := HLA.out; omega)
  unfold seeV
  go_enter Try.func39, Try.ntmps39
  go_upto_region 6 with (first | (go_at_call 24; refine HC.out.mono ?_; rintro e w1 ⟨rfl, rfl⟩) | (go_at_call 47; refine HKD.out.mono ?_; rintro e w2 ⟨rfl, hb2⟩; have HB2 := Aside0.mk hb2; clear hb2))
  have HS1 := Aside0.mk (show w.heap.size < (w.alloc (.cells #[.int .i64 la, .int .i64 lb] 32)).heap.size from blk_lt HKL.out)
  have HL2 := Aside0.mk (HLD.out.past HB2.out)
  have HK2 := Aside0.mk (blk_below HKL.out HB2.out)
  clear HLD HKL HC HKD HB2
  generalize w.alloc (.cells #[.int .i64 la, .int .i64 lb] 32) = w1 at *
  obtain ⟨X, hX⟩ : ∃ X, w.heap.size = X := ⟨_, rfl⟩
  rw [hX] at HXR HK2 HS1
  have HX := Aside0.mk hX
  simp only [hX]
  clear hX hw2 hsh
  go_loopg [31] 4 (fun kq c31 w' => ∃ (j : Nat), j + kq = 4 ∧ c31 = .int .i64 j ∧ Aside0 (Laid w1 O v (out ++ kcells a b c d la lb H j) w') ∧ Aside0 (w'.heap[X]? = some (.cells #[.int .i64 la, .int .i64 lb] 32 (0, 0))))
  case atStart => exact ⟨0, by omega, rfl, ⟨by rw [show kcells a b c d la lb H 0 = [] from rfl, List.append_nil]; exact HL2.out⟩, HK2⟩
  case round =>
    clear HL2 HK2
    obtain ⟨j, hj, rfl, HLD, HK⟩ := hrel
    by_cases h4 : j < 4
    · obtain ⟨gm, rfl⟩ : ∃ m, gk = m + 1 := ⟨gk - 1, by omega⟩
      obtain ⟨v', hv', hrv, hown⟩ := HLD.out.ex
      have hkd := HKID.out j h4
      have hkx : (Q.kid (.node a b c d) j).ex = a.ex := by have h1 := (Q.kid (.node a b c d) j).lv_ex; have h2 := a.lv_ex; rw [hkd.2] at h1; omega
      have hkl : (Q.kid (.node a b c d) j).lv = (a.ex : Int) := by rw [hkd.2, a.lv_ex]
      have hkc : (kcells a b c d la lb H (j + 1)).length = (kcells a b c d la lb H j).length + (qcells (Q.kid (.node a b c d) j) (lowA la H j) (lowB lb H j)).length := by show (kcells a b c d la lb H j ++ qcells (Q.kid (.node a b c d) j) (lowA la H j) (lowB lb H j)).length = _; rw [List.length_append]
      have hkle := kcells_le a b c d la lb H (j + 1) h4
      have hlo : (-8796093022208 ≤ lowA la H j ∧ lowA la H j + H ≤ 8796093022208) ∧ (-8796093022208 ≤ lowB lb H j ∧ lowB lb H j + H ≤ 8796093022208) := by
        have h1 := HLA.out
        have h2 := HLB.out
        have h5 : j = 0 ∨ j = 1 ∨ j = 2 ∨ j = 3 := by omega
        rcases h5 with rfl | rfl | rfl | rfl <;> simp [lowA, lowB] <;> omega
      have hrec := fun (w' : World) (hb : Below wr.heap.size wr w') => HIH.out j h4 ([k0, k1, k2, k3].getD j 0) (lowA la H j) (lowB lb H j) v' (out ++ kcells a b c d la lb H j) w' ((HLD.out.ar HAR.out HFF.out HRV.out).below hb) hkd.1 (by rw [hkx]; have := HEX.out; omega) (by rw [hkx, HHH.out]; exact hlo.1) (by rw [hkx, HHH.out]; exact hlo.2) (blk_below hv' hb) (Kd.R_below hrv hb) (by have := HLEN.out; rw [List.length_append]; omega)
      rw [hkl] at hrec
      have hix := fun (w : World) => HIDX.out w j h4
      have l0 := blk_cell HK.out 0
      have l1 := blk_cell HK.out 1
      simp only [List.getElem?_toArray, List.getElem?_cons_zero, List.getElem?_cons_succ] at l0 l1
      have HWA := Aside0.mk (lowA_wrap la H j HLA.out hHp)
      have HWB := Aside0.mk (lowB_wrap lb H j h4 HLB.out hHp)
      have HWR := Aside0.mk (show IntKind.i64.wrap ((a.ex : Int) + 1 - 1) = (a.ex : Int) by rw [IntKind.wrap_i64]; omega)
      unfold seeV at hrec
      have HREC := Aside0.mk hrec
      have HNX : Aside0 (¬ (X = O ∨ v'.ownBlock = some X)) := ⟨fun e => e.elim (fun e => HXR.out (.inl e)) (fun e => hown.elim (fun h => HXR.out (.inr (by rw [← h]; exact e))) (fun ⟨b, hb, hl⟩ => by rw [hb] at e; injection e with e; have := HS1.out; omega))⟩
      have HV' := Aside0.mk hv'
      have HKD : Aside0 (wr.heap[X]? = some (.cells #[.int .i64 la, .int .i64 lb] 32 (0, 0))) := ⟨HK.out⟩
      have HJ := Aside0.mk h4
      clear hv' hrv hown hkd hkx hkl hkc hkle hlo hrec
      generalize [k0, k1, k2, k3].getD j 0 = kj at *
      go_upto_region 8 with (fail)
      go_wp2_with (go_at_call 39; rw [HWA.out, HWB.out]; with_reducible refine Calls.mono (HREC.out _ (Below.refl _ _)) ?_; rintro e w6 ⟨rfl, hl6⟩; have bX := hl6.keeps.block X (blk_lt HKD.out) HNX.out; have HL6 := Aside0.mk hl6; have HK6 := Aside0.mk (bX.trans HKD.out); clear hl6 bX)
      all_goals (
        have HLD6 := Aside0.mk (HLD.out.trans (fun v1 hv1 hr1 => by
          have e1 := HV'.out.symm.trans hv1
          injection e1 with e1
          injection e1 with e1
          have e2 : v' = v1 := by simpa using e1
          rw [← e2]
          exact HL6.out))
        clear HREC HL6 l0 l1 HV' HNX HWA HWB HWR HKD HK HLD
        go_roundg gm
        case measure => omega
        case rel => exact ⟨j + 1, by omega, by go_num, ⟨by show Laid w1 O v (out ++ (kcells a b c d la lb H j ++ _)) w6; rw [← List.append_assoc]; exact HLD6.out⟩, HK6⟩)
    · obtain rfl : j = 4 := by omega
      go_wp2_with (fail)
      go_end0
      exact ⟨rfl, HLD.out.from HBW.out⟩
set_option maxRecDepth 100000 in
set_option maxHeartbeats 4000000 in
theorem visit_walk (hF : ∀ k, F k → k < O) (hsz : nodes.length ≤ 536870912) : ∀ (q : Q) (i : Nat) (la lb : Int) (v : Value) (out : List Cl) (w : World), Ar w F p nodes empty most → Rep nodes q i → q.ex ≤ 44 → (-8796093022208 ≤ la ∧ la + 2 ^ q.ex ≤ 8796093022208) → (-8796093022208 ≤ lb ∧ lb + 2 ^ q.ex ≤ 8796093022208) → w.heap[O]? = some (.cells #[v] 24 (0, 0)) → Kd.R k39 39 w (O + 1) (fun k => O < k) v out → out.length + (qcells q la lb).length ≤ 1000000000 →
    Calls Try.prog 39 #[.pointer (some ⟨p, 0, none⟩), .int .u32 i, .int .i64 q.lv, .agg #[.int .i64 la, .int .i64 lb], seeV O] w fun e w' => e = .returned (.tuple #[]) ∧ Laid w O v (out ++ qcells q la lb) w' := by
  intro q
  induction q with
  | leaf f =>
    intro i la lb v out w hA hR hex hla hlb hO hRR hlen
    have e4 : (2 : Int) ^ (Q.leaf f).ex = 4 := rfl
    rw [e4] at hla hlb
    by_cases hz : (Q.leaf f).cnt = 0
    · rw [qcells_nil hz, List.append_nil]
      exact (visit_zero (Q.leaf f) i _ la lb _ w hA hR hz).mono fun e w' ⟨he, hb⟩ => ⟨he, (Laid.refl hO hRR).past hb⟩
    · exact visit_leaf f i la lb v out w hA hR hz hla hlb hO hRR (by omega)
  | node a b c d iha ihb ihc ihd =>
    intro i la lb v out w hA hR hex hla hlb hO hRR hlen
    by_cases hz : (Q.node a b c d).cnt = 0
    · rw [qcells_nil hz, List.append_nil]
      exact (visit_zero (Q.node a b c d) i _ la lb _ w hA hR hz).mono fun e w' ⟨he, hb⟩ => ⟨he, (Laid.refl hO hRR).past hb⟩
    · exact visit_node hF hsz a b c d (fun j hj => by
        have h4 : j = 0 ∨ j = 1 ∨ j = 2 ∨ j = 3 := by omega
        rcases h4 with rfl | rfl | rfl | rfl
        · exact iha
        · exact ihb
        · exact ihc
        · exact ihd) i la lb v out w hA hR hz hex hla hlb hO hRR hlen
end
end Go.Proofs.Ytpmipllohiiocaa.tr
namespace Go.Proofs.Ytpmipllohiiocaa.tr
open Go.RowKit Go.Proofs.Ytpmipllohiiocaa.PTreeBuilds Go.Proofs.YtpmipllohiiocaaW.PrintWords Go.Proofs.YtpmipllohiiocaaW.PrintLast Go.Proofs.YtpmipllohiiocaaW.PrintMore Go.Proofs.Ytpmipllohiiocaa.bs Go.ChangeShapes Go.Proofs.Ytpmipllohiiocaa.lb Go.Proofs.Ytpmipllohiiocaa.ar Go.Maps Go.Sort

theorem eqI64 (d : Nat) (w : World) (a b : Int) : (Op.equalIn (d + 1) 2 (.int .i64 a) (.int .i64 b)).run Try.prog w = .ok (a == b) w := by
  simp [Op.equalIn, run_underlying Try.underlying2]
theorem eqInt (d : Nat) (w : World) (a b : Int) : (Op.equalIn (d + 1) 3 (.int .i64 a) (.int .i64 b)).run Try.prog w = .ok (a == b) w := by
  simp [Op.equalIn, run_underlying Try.underlying3]
theorem eqPt (d : Nat) (w : World) (a b c e : Int) : (Op.equalIn (d + 2) 32 (.agg #[.int .i64 a, .int .i64 b]) (.agg #[.int .i64 c, .int .i64 e])).run Try.prog w = .ok (a == c && b == e) w := by
  refine eqA_of Try.underlying32 (by kernel_rfl) ?_
  refine eqf_cons (by rfl) (by go_simp) (by go_simp) (eqI64 d w a c) ?_
  exact eqf_last (by rfl) (by go_simp) (by go_simp) (eqI64 d w b e)
theorem eqCl (d : Nat) (w : World) (a b h c e g : Int) : (Op.equalIn (d + 3) 39 (.agg #[.int .i64 a, .int .i64 b, .int .i64 h]) (.agg #[.int .i64 c, .int .i64 e, .int .i64 g])).run Try.prog w = .ok ((a == c && b == e) && h == g) w := by
  refine eqA_of Try.underlying39 (by kernel_rfl) ?_
  refine eqf_cons (by rfl) (by kernel_rfl) (by kernel_rfl) (eqPt d w a b c e) ?_
  exact eqf_last (by rfl) (by kernel_rfl) (by kernel_rfl) (eqInt (d + 1) w h g)
theorem eqlPt (w : World) (a b c e : Int) : (binOp .eql 32 (.agg #[.int .i64 a, .int .i64 b]) (.agg #[.int .i64 c, .int .i64 e])).run Try.prog w = .ok (.bool (a == c && b == e)) w := by
  rw [run_eql_struct, show 10000 = 9998 + 2 from rfl, eqPt]; rfl
theorem eqlCl (w : World) (a b h c e g : Int) : (binOp .eql 39 (.agg #[.int .i64 a, .int .i64 b, .int .i64 h]) (.agg #[.int .i64 c, .int .i64 e, .int .i64 g])).run Try.prog w = .ok (.bool ((a == c && b == e) && h == g)) w := by
  rw [run_eql_struct, show 10000 = 9997 + 3 from rfl, eqCl]; rfl
theorem guardPt (w : World) (op : BinOp) (x y : Operand) (xs ys : Array Value) : (eqGuard op 32 x y (.agg xs) (.agg ys)).run Try.prog w = .ok () w := run_eqGuard_agg w op _ x y xs ys (by kernel_rfl)
theorem guardCl (w : World) (op : BinOp) (x y : Operand) (xs ys : Array Value) : (eqGuard op 39 x y (.agg xs) (.agg ys)).run Try.prog w = .ok () w := run_eqGuard_agg w op _ x y xs ys (by kernel_rfl)
/-- row by row -/
def lessB (a b c d : Int) : Bool := decide (b < d) || (b == d && decide (a < c))
def cmpC (x y : Cl) : Int := if (lessB x.f0.f0 x.f0.f1 y.f0.f0 y.f0.f1 || ((x.f0.f0 == y.f0.f0 && x.f0.f1 == y.f0.f1) && decide (x.f1 < y.f1))) = true then -1 else if ((x.f0.f0 == y.f0.f0 && x.f0.f1 == y.f0.f1) && x.f1 == y.f1) = true then 0 else 1
set_option maxRecDepth 100000 in
set_option maxHeartbeats 4000000 in
theorem less_walk (a b c d : Int) (w : World) : Calls Try.prog 62 #[.agg #[.int .i64 a, .int .i64 b], .agg #[.int .i64 c, .int .i64 d]] w fun e w' => e = .returned (.bool (lessB a b c d)) ∧ ∃ q os, w' = grow (w.drewN q) os := by
  have hr : ∃ r, lessB a b c d = r := ⟨_, rfl⟩
  obtain ⟨r, hr⟩ := hr
  rw [hr]
  unfold lessB at hr
  have HR := Aside0.mk hr
  clear hr
  go_enter Try.func62, Try.ntmps62
  go_upto_region 1 with (fail)
  have ha := blk_below (blk_new w (.cells #[.int .i64 a, .int .i64 b] 32)) (below_alloc (Below.refl _ _) (.cells #[.int .i64 c, .int .i64 d] 32))
  have hb := blk_new (w.alloc (.cells #[.int .i64 a, .int .i64 b] 32)) (.cells #[.int .i64 c, .int .i64 d] 32)
  have a0 := blk_cell ha 0
  have a1 := blk_cell ha 1
  have b0 := blk_cell hb 0
  have b1 := blk_cell hb 1
  have HG : Aside0 (∃ os, (w.alloc (.cells #[.int .i64 a, .int .i64 b] 32)).alloc (.cells #[.int .i64 c, .int .i64 d] 32) = grow w os) := ⟨_, by rw [alloc_eq_grow, alloc_eq_grow, grow_grow]⟩
  simp only [List.getElem?_toArray, List.getElem?_cons_zero, List.getElem?_cons_succ] at a0 a1 b0 b1
  rw [World.size_alloc] at b0 b1
  generalize w.heap.size = A at *
  generalize (w.alloc (.cells #[.int .i64 a, .int .i64 b] 32)).alloc (.cells #[.int .i64 c, .int .i64 d] 32) = w1 at *
  clear ha hb
  by_cases h1 : b < d
  · have e1 : r = true := by rw [← HR.out]; simp [h1]
    subst e1
    clear HR
    go_wp2
    refine bodyPost_ret (v := .bool true) (by simp [results, Try.results62, go_sem]) rfl ?_
    obtain ⟨os, hos⟩ := HG.out
    exact ⟨rfl, 0, os, by rw [hos]; rfl⟩
  · by_cases h2 : b = d
    · subst h2
      have e1 : r = decide (a < c) := by rw [← HR.out]; simp
      subst e1
      clear HR
      go_wp2
      refine bodyPost_ret (v := .bool (decide (a < c))) (by simp [results, Try.results62, go_sem]) rfl ?_
      obtain ⟨os, hos⟩ := HG.out
      exact ⟨rfl, 0, os, by rw [hos]; rfl⟩
    · have h3 : (b == d) = false := by rw [beq_eq_false_iff_ne]; exact h2
      have e1 : r = false := by rw [← HR.out]; simp [h1, h2]
      subst e1
      clear HR h2
      go_wp2
      refine bodyPost_ret (v := .bool false) (by simp [results, Try.results62, go_sem]) rfl ?_
      obtain ⟨os, hos⟩ := HG.out
      exact ⟨rfl, 0, os, by rw [hos]; rfl⟩
theorem grow_two {w w1 w2 : World} (h1 : ∃ q os, w1 = grow (w.drewN q) os) (h2 : ∃ q os, w2 = grow (w1.drewN q) os) : ∃ q os, w2 = grow (w.drewN q) os := by
  obtain ⟨q1, o1, rfl⟩ := h1
  obtain ⟨q2, o2, rfl⟩ := h2
  exact ⟨q1 + q2, o1 ++ o2, by simp [grow, World.drewN, Array.append_assoc, Nat.add_assoc]⟩
theorem grow_blk {w w1 : World} (h : ∃ q os, w1 = grow (w.drewN q) os) {k : Nat} {o : Obj} (hk : w.heap[k]? = some o) : w1.heap[k]? = some o := by
  obtain ⟨q, os, rfl⟩ := h
  have := blk_lt hk
  show (w.heap ++ os)[k]? = _
  rw [Array.getElem?_append_left this, hk]
set_option maxRecDepth 100000 in
set_option maxHeartbeats 4000000 in
theorem cmp_walk (a b h c d g : Int) (w : World) : Calls Try.prog 51 #[.agg #[.int .i64 a, .int .i64 b, .int .i64 h], .agg #[.int .i64 c, .int .i64 d, .int .i64 g]] w fun e w' => e = .returned (.int .i64 (cmpC ⟨⟨a, b⟩, h⟩ ⟨⟨c, d⟩, g⟩)) ∧ ∃ q os, w' = grow (w.drewN q) os := by
  have hr : ∃ r, cmpC ⟨⟨a, b⟩, h⟩ ⟨⟨c, d⟩, g⟩ = r := ⟨_, rfl⟩
  obtain ⟨r, hr⟩ := hr
  rw [hr]
  unfold cmpC at hr
  dsimp only at hr
  have HR := Aside0.mk hr
  clear hr
  have HLS := Aside0.mk (fun w => less_walk a b c d w)
  have hq1 := fun w => eqlPt w a b c d
  have hq2 := fun w => eqlCl w a b h c d g
  have hg1 := fun w op x y xs ys => guardPt w op x y xs ys
  have hg2 := fun w op x y xs ys => guardCl w op x y xs ys
  go_enter Try.func51, Try.ntmps51
  go_upto_region 1 with (fail)
  have ha := blk_below (blk_new w (.cells #[.int .i64 a, .int .i64 b, .int .i64 h] 39)) (below_alloc (Below.refl _ _) (.cells #[.int .i64 c, .int .i64 d, .int .i64 g] 39))
  have hb := blk_new (w.alloc (.cells #[.int .i64 a, .int .i64 b, .int .i64 h] 39)) (.cells #[.int .i64 c, .int .i64 d, .int .i64 g] 39)
  have HG : Aside0 (∃ q os, (w.alloc (.cells #[.int .i64 a, .int .i64 b, .int .i64 h] 39)).alloc (.cells #[.int .i64 c, .int .i64 d, .int .i64 g] 39) = grow (w.drewN q) os) := ⟨0, _, by rw [alloc_eq_grow, alloc_eq_grow, grow_grow]; rfl⟩
  rw [World.size_alloc] at hb
  generalize w.heap.size = A at *
  generalize (w.alloc (.cells #[.int .i64 a, .int .i64 b, .int .i64 h] 39)).alloc (.cells #[.int .i64 c, .int .i64 d, .int .i64 g] 39) = w1 at *
  have HA := Aside0.mk ha
  have HB := Aside0.mk hb
  have HA1 := Aside0.mk (blk_lt ha)
  have HB1 := Aside0.mk (blk_lt hb)
  have a0 := blk_cell ha 0
  have a1 := blk_cell ha 1
  have a2 := blk_cell ha 2
  have b0 := blk_cell hb 0
  have b1 := blk_cell hb 1
  have b2 := blk_cell hb 2
  simp only [List.getElem?_toArray, List.getElem?_cons_zero, List.getElem?_cons_succ] at a0 a1 a2 b0 b1 b2
  clear ha hb
  have hcs : ∀ (t1 t2 : Bool), lessB a b c d = t1 → (a == c && b == d) = t2 → True := fun _ _ _ _ => trivial
  clear hcs
  obtain ⟨t1, ht1⟩ : ∃ t, lessB a b c d = t := ⟨_, rfl⟩
  obtain ⟨t2, ht2⟩ : ∃ t, (a == c && b == d) = t := ⟨_, rfl⟩
  obtain ⟨t3, ht3⟩ : ∃ t, decide (h < g) = t := ⟨_, rfl⟩
  rw [ht1] at HLS
  rw [ht1, ht2, ht3] at HR
  simp only [ht2] at hq1 hq2
  cases t1
  · cases t2
    · simp at HR
      obtain rfl := HR.out
      go_wp2_with (go_at_call 62; refine (HLS.out _).mono ?_; rintro e w5 ⟨rfl, h5⟩; have hA5 := grow_blk h5 HA.out; have hB5 := grow_blk h5 HB.out; have HG5 := Aside0.mk (grow_two HG.out h5); have a0 := blk_cell hA5 0; have a1 := blk_cell hA5 1; have a2 := blk_cell hA5 2; have b0 := blk_cell hB5 0; have b1 := blk_cell hB5 1; have b2 := blk_cell hB5 2; simp only [List.getElem?_toArray, List.getElem?_cons_zero, List.getElem?_cons_succ] at a0 a1 a2 b0 b1 b2; clear h5 hA5 hB5)
      refine bodyPost_ret (v := .int .i64 1) (by simp [results, Try.results51, go_sem]) rfl ?_
      exact ⟨rfl, HG5.out⟩
    · cases t3
      · have ht3' : ¬ h < g := by simpa using ht3
        obtain ⟨t4, ht4⟩ : ∃ t, (h == g) = t := ⟨_, rfl⟩
        simp only [ht4] at hq2
        rw [ht4] at HR
        cases t4
        · simp at HR
          obtain rfl := HR.out
          go_wp2_with (go_at_call 62; refine (HLS.out _).mono ?_; rintro e w5 ⟨rfl, h5⟩; have hA5 := grow_blk h5 HA.out; have hB5 := grow_blk h5 HB.out; have HG5 := Aside0.mk (grow_two HG.out h5); have a0 := blk_cell hA5 0; have a1 := blk_cell hA5 1; have a2 := blk_cell hA5 2; have b0 := blk_cell hB5 0; have b1 := blk_cell hB5 1; have b2 := blk_cell hB5 2; simp only [List.getElem?_toArray, List.getElem?_cons_zero, List.getElem?_cons_succ] at a0 a1 a2 b0 b1 b2; clear h5 hA5 hB5)
          refine bodyPost_ret (v := .int .i64 1) (by simp [results, Try.results51, go_sem]) rfl ?_
          exact ⟨rfl, HG5.out⟩
        · simp at HR
          obtain rfl := HR.out
          go_wp2_with (go_at_call 62; refine (HLS.out _).mono ?_; rintro e w5 ⟨rfl, h5⟩; have hA5 := grow_blk h5 HA.out; have hB5 := grow_blk h5 HB.out; have HG5 := Aside0.mk (grow_two HG.out h5); have a0 := blk_cell hA5 0; have a1 := blk_cell hA5 1; have a2 := blk_cell hA5 2; have b0 := blk_cell hB5 0; have b1 := blk_cell hB5 1; have b2 := blk_cell hB5 2; simp only [List.getElem?_toArray, List.getElem?_cons_zero, List.getElem?_cons_succ] at a0 a1 a2 b0 b1 b2; clear h5 hA5 hB5)
          refine bodyPost_ret (v := .int .i64 0) (by simp [results, Try.results51, go_sem]) rfl ?_
          exact ⟨rfl, HG5.out⟩
      · have ht3' : h < g := by simpa using ht3
        simp at HR
        obtain rfl := HR.out
        go_wp2_with (go_at_call 62; refine (HLS.out _).mono ?_; rintro e w5 ⟨rfl, h5⟩; have hA5 := grow_blk h5 HA.out; have hB5 := grow_blk h5 HB.out; have HG5 := Aside0.mk (grow_two HG.out h5); have a0 := blk_cell hA5 0; have a1 := blk_cell hA5 1; have a2 := blk_cell hA5 2; have b0 := blk_cell hB5 0; have b1 := blk_cell hB5 1; have b2 := blk_cell hB5 2; simp only [List.getElem?_toArray, List.getElem?_cons_zero, List.getElem?_cons_succ] at a0 a1 a2 b0 b1 b2; clear h5 hA5 hB5)
        refine bodyPost_ret (v := .int .i64 (-1)) (by simp [results, Try.results51, go_sem]) rfl ?_
        exact ⟨rfl, HG5.out⟩
  · simp at HR
    obtain rfl := HR.out
    go_wp2_with (go_at_call 62; refine (HLS.out _).mono ?_; rintro e w5 ⟨rfl, h5⟩; have hA5 := grow_blk h5 HA.out; have hB5 := grow_blk h5 HB.out; have HG5 := Aside0.mk (grow_two HG.out h5); have a0 := blk_cell hA5 0; have a1 := blk_cell hA5 1; have a2 := blk_cell hA5 2; have b0 := blk_cell hB5 0; have b1 := blk_cell hB5 1; have b2 := blk_cell hB5 2; simp only [List.getElem?_toArray, List.getElem?_cons_zero, List.getElem?_cons_succ] at a0 a1 a2 b0 b1 b2; clear h5 hA5 hB5)
    refine bodyPost_ret (v := .int .i64 (-1)) (by simp [results, Try.results51, go_sem]) rfl ?_
    exact ⟨rfl, HG5.out⟩
end Go.Proofs.Ytpmipllohiiocaa.tr
namespace Go.Proofs.Ytpmipllohiiocaa.tr
open Go.RowKit Go.Proofs.Ytpmipllohiiocaa.PTreeBuilds Go.Proofs.YtpmipllohiiocaaW.PrintWords Go.Proofs.YtpmipllohiiocaaW.PrintLast Go.Proofs.YtpmipllohiiocaaW.PrintMore Go.Proofs.Ytpmipllohiiocaa.bs Go.ChangeShapes Go.Proofs.Ytpmipllohiiocaa.lb Go.Proofs.Ytpmipllohiiocaa.ar Go.Maps Go.Sort

def clE (x : Cl) : List Value := [.int .i64 x.f0.f0, .int .i64 x.f0.f1, .int .i64 x.f1]
instance : Inhabited Cl := ⟨⟨⟨0, 0⟩, 0⟩⟩
def ltC (x y : Cl) : Bool := decide (x.f0.f1 < y.f0.f1 ∨ x.f0.f1 = y.f0.f1 ∧ (x.f0.f0 < y.f0.f0 ∨ x.f0.f0 = y.f0.f0 ∧ x.f1 < y.f1))
theorem ltOf_cmp (x y : Cl) : ltOf cmpC x y = ltC x y := by
  obtain ⟨⟨a, b⟩, h⟩ := x
  obtain ⟨⟨c, d⟩, g⟩ := y
  unfold ltOf ltC cmpC lessB
  dsimp only
  by_cases h1 : b < d
  · simp [h1]
  · by_cases h2 : b = d
    · subst h2
      by_cases h3 : a < c
      · simp [h3]
      · by_cases h4 : a = c
        · subst h4
          by_cases h5 : h < g
          · simp [h5]
          · by_cases h6 : h = g <;> simp [h5, h6]
        · simp [h3, h4]
    · simp [h1, h2]
theorem ltC_swo : SWO ltC where
  irrefl x := by simp [ltC]
  trans x y z h1 h2 := by simp [ltC] at *; omega
  ntrans x y z h1 h2 := by simp [ltC] at *; omega
theorem ltC_tot (x y : Cl) (h1 : ltC x y = false) (h2 : ltC y x = false) : x = y := by
  obtain ⟨⟨a, b⟩, h⟩ := x
  obtain ⟨⟨c, d⟩, g⟩ := y
  simp [ltC] at h1 h2
  have e1 : a = c := by omega
  have e2 : b = d := by omega
  have e3 : h = g := by omega
  rw [e1, e2, e3]
def RowC (w : World) (g cap : Nat) (l : List Cl) : Prop :=
  ∃ cur, w.heap[g]? = some (.cells cur 39 (0, 0)) ∧ l.length ≤ cap ∧ cap ≤ maxLen ∧ cur.size = cap * 3 ∧ ∀ (j : Nat) (x : Cl), l[j]? = some x → cur[j * 3]? = some (.int .i64 x.f0.f0) ∧ cur[j * 3 + 1]? = some (.int .i64 x.f0.f1) ∧ cur[j * 3 + 2]? = some (.int .i64 x.f1)
theorem get3 {l : List Value} {j n : Nat} {a b c : Value} (h : ((l.take n).drop (j * 3)).take 3 = [a, b, c]) : l[j * 3]? = some a ∧ l[j * 3 + 1]? = some b ∧ l[j * 3 + 2]? = some c := by
  have hk : ∀ i, i < 3 → ∀ v, [a, b, c][i]? = some v → l[j * 3 + i]? = some v := by
    intro i hi v hv
    rw [← h, List.getElem?_take_of_lt hi, List.getElem?_drop] at hv
    rw [List.getElem?_take] at hv
    split at hv
    · exact hv
    · cases hv
  exact ⟨hk 0 (by omega) _ rfl, hk 1 (by omega) _ rfl, hk 2 (by omega) _ rfl⟩
theorem three_of {l : List Value} {j n : Nat} {a b c : Value} (hn : j * 3 + 3 ≤ n) (ha : l[j * 3]? = some a) (hb : l[j * 3 + 1]? = some b) (hc : l[j * 3 + 2]? = some c) : ((l.take n).drop (j * 3)).take 3 = [a, b, c] := by
  apply List.ext_getElem?
  intro i
  by_cases hi : i < 3
  · rw [List.getElem?_take_of_lt hi, List.getElem?_drop, List.getElem?_take_of_lt (by omega)]
    have h3 : i = 0 ∨ i = 1 ∨ i = 2 := by omega
    rcases h3 with rfl | rfl | rfl
    · exact ha
    · exact hb
    · exact hc
  · rw [List.getElem?_eq_none (by simp; omega), List.getElem?_eq_none (by simp; omega)]
theorem R_rowc {w : World} {base : Nat} {ok : Nat → Prop} {v : Value} {l : List Cl} (h : Kd.R k39 39 w base ok v l) (hl : 0 < l.length) : ∃ g cap, v = .slice (some ⟨g, 0, none⟩) l.length cap ∧ base ≤ g ∧ ok g ∧ RowC w g cap l := by
  obtain ⟨h0, inner, ho, hr⟩ := h
  rcases ho.2 with ⟨_, hn⟩ | ⟨g, cap, cur, hv, hb, hc, h1, h2, h3, h4⟩
  · omega
  · refine ⟨g, cap, hv, hb, h0 g (by rw [hv]; rfl), cur, hc, h1, h2, h3, fun j x hx => ?_⟩
    have hm := k39_openM (hr.2 j x hx)
    rw [← h4] at hm
    have := get3 hm
    simpa using this
theorem rowc_R {w : World} {base : Nat} {ok : Nat → Prop} {g cap : Nat} {l : List Cl} (h : RowC w g cap l) (hb : base ≤ g) (hok : ok g) : Kd.R k39 39 w base ok (.slice (some ⟨g, 0, none⟩) l.length cap) l := by
  obtain ⟨cur, hc, h1, h2, h3, h4⟩ := h
  have h5 : l.length * 3 ≤ cap * 3 := Nat.mul_le_mul_right 3 h1
  refine ⟨fun k hk => by
    have : g = k := by simpa [Value.ownBlock] using hk
    exact this ▸ hok, cur.toList.take (l.length * 3), ⟨by show (cur.toList.take (l.length * 3)).length = l.length * 3; simp; omega, .inr ⟨g, cap, cur, rfl, hb, hc, h1, h2, h3, rfl⟩⟩, by show (cur.toList.take (l.length * 3)).length = l.length * 3; simp; omega, fun j x hx => ?_⟩
  have hj : j < l.length := (List.getElem?_eq_some_iff.1 hx).1
  obtain ⟨e1, e2, e3⟩ := h4 j x hx
  have hs : ((cur.toList.take (l.length * 3)).drop (j * 3)).take 3 = [.int .i64 x.f0.f0, .int .i64 x.f0.f1, .int .i64 x.f1] := three_of (by omega) (by simpa using e1) (by simpa using e2) (by simpa using e3)
  show k39.M _ _ _ x (((cur.toList.take (l.length * 3)).drop (j * 3)).take 3)
  rw [hs]
  exact k39_mkM _ _ _ _
theorem RowC.lt {w : World} {g cap : Nat} {l : List Cl} (h : RowC w g cap l) : g < w.heap.size := by
  obtain ⟨cur, hc, _⟩ := h
  exact blk_lt hc
theorem RowC.take {w : World} {g cap : Nat} {l : List Cl} (h : RowC w g cap l) (n : Nat) : RowC w g cap (l.take n) := by
  obtain ⟨cur, hc, h1, h2, h3, h4⟩ := h
  refine ⟨cur, hc, by simp; omega, h2, h3, fun j x hx => h4 j x ?_⟩
  rw [List.getElem?_take] at hx
  split at hx
  · exact hx
  · cases hx
theorem RowC.cell {w : World} {g cap : Nat} {l : List Cl} (h : RowC w g cap l) {j : Nat} {x : Cl} (hx : l[j]? = some x) :
    w.cell? ⟨g, j * 3, none⟩ = some (.int .i64 x.f0.f0) ∧ w.cell? ⟨g, j * 3 + 1, none⟩ = some (.int .i64 x.f0.f1) ∧ w.cell? ⟨g, j * 3 + 2, none⟩ = some (.int .i64 x.f1) := by
  obtain ⟨cur, hc, h1, h2, h3, h4⟩ := h
  obtain ⟨e1, e2, e3⟩ := h4 j x hx
  exact ⟨(blk_cell hc _).trans e1, (blk_cell hc _).trans e2, (blk_cell hc _).trans e3⟩
theorem RowC.frozen {w : World} {g cap : Nat} {l : List Cl} (h : RowC w g cap l) (j : Nat) : w.frozen? ⟨g, j, none⟩ = false := by
  obtain ⟨cur, hc, _⟩ := h
  exact blk_frozen hc j
theorem RowC.block {w w1 : World} {g cap : Nat} {l : List Cl} (h : RowC w g cap l) (e : w1.heap[g]? = w.heap[g]?) : RowC w1 g cap l := by
  obtain ⟨cur, hc, h1⟩ := h
  exact ⟨cur, e.trans hc, h1⟩
theorem clE_get (x : Cl) : (clE x)[0]! = .int .i64 x.f0.f0 ∧ (clE x)[1]! = .int .i64 x.f0.f1 ∧ (clE x)[2]! = .int .i64 x.f1 := ⟨rfl, rfl, rfl⟩
theorem flat_at (d : Array Cl) (j i : Nat) (hj : j < d.size) (hi : i < 3) : (flatK clE 3 d)[j * 3 + i]! = (clE d[j]!)[i]! := by
  rw [get_flatK _ _ _ _ (by omega), show (j * 3 + i) / 3 = j by omega, show (j * 3 + i) % 3 = i by omega]
theorem RowC.holds {w : World} {g cap : Nat} {l : List Cl} (h : RowC w g cap l) : HoldsK clE 3 w g 0 l.toArray := by
  intro t ht
  rw [size_flatK] at ht
  have ht' : t < l.length * 3 := by simpa using ht
  obtain ⟨j, i, hi, rfl⟩ : ∃ j i, i < 3 ∧ t = j * 3 + i := ⟨t / 3, t % 3, by omega, by omega⟩
  have hj : j < l.length := by omega
  rw [flat_at _ _ _ (by simpa using hj) hi, Nat.zero_add]
  have hx := List.getElem?_eq_getElem hj
  have he : l.toArray[j]! = l[j] := by simp [hj]
  have hc := h.cell hx
  rw [he]
  refine ⟨?_, h.frozen _⟩
  have h3 : i = 0 ∨ i = 1 ∨ i = 2 := by omega
  rcases h3 with rfl | rfl | rfl
  · exact hc.1
  · exact hc.2.1
  · exact hc.2.2
theorem RowC.sorted {w : World} {g cap n : Nat} {l l' : List Cl} {os : Array Obj} (h : RowC w g cap l) (hl : l'.length = l.length) : RowC (sortWorldK clE 3 w g 0 n l'.toArray os) g cap l' ∧ w.grownBy (sortWorldK clE 3 w g 0 n l'.toArray os) (some g) := by
  obtain ⟨cur, hc, h1, h2, h3, h4⟩ := h
  have hlt := blk_lt hc
  have hsz : (putRowK clE 3 (Sort.ahead w n) g 0 l'.toArray).heap.size = w.heap.size := by
    rw [size_putRowK]; rfl
  have hblk : (sortWorldK clE 3 w g 0 n l'.toArray os).heap[g]? = some (.cells (putCells id 0 (flatK clE 3 l'.toArray) cur) 39 (0, 0)) := by
    show ((putRowK clE 3 (Sort.ahead w n) g 0 l'.toArray).heap ++ os)[g]? = _
    rw [Array.getElem?_append_left (by rw [hsz]; exact hlt)]
    show (w.heap.modify g _)[g]? = _
    rw [Array.getElem?_modify, if_pos rfl, hc]
    rfl
  refine ⟨⟨_, hblk, by omega, h2, by unfold putCells; simpa using h3, fun j x hx => ?_⟩, rfl, rfl, rfl, ?_, fun k hk hne => ?_⟩
  · have hj : j < l'.length := (List.getElem?_eq_some_iff.1 hx).1
    have he : l'.toArray[j]! = x := by
      obtain ⟨_, e⟩ := List.getElem?_eq_some_iff.1 hx
      simp [hj, e]
    have hput : ∀ i, i < 3 → (putCells id 0 (flatK clE 3 l'.toArray) cur)[j * 3 + i]? = some (clE x)[i]! := by
      intro i hi
      unfold putCells
      rw [Array.getElem?_mapIdx, Array.getElem?_eq_getElem (by omega)]
      rw [Option.map_some, if_pos (by rw [size_flatK]; simp; omega), Nat.sub_zero, flat_at _ _ _ (by simpa using hj) hi, he]
      rfl
    exact ⟨hput 0 (by omega), hput 1 (by omega), hput 2 (by omega)⟩
  · show w.heap.size ≤ ((putRowK clE 3 (Sort.ahead w n) g 0 l'.toArray).heap ++ os).size
    rw [Array.size_append, hsz]; omega
  · show ((putRowK clE 3 (Sort.ahead w n) g 0 l'.toArray).heap ++ os)[k]? = _
    rw [Array.getElem?_append_left (by rw [hsz]; exact hk)]
    show (w.heap.modify g _)[k]? = _
    have : g ≠ k := fun e => hne (by rw [e])
    rw [Array.getElem?_modify, if_neg this]
end Go.Proofs.Ytpmipllohiiocaa.tr
namespace Go.Proofs
open Go.Shelf
shelf_lay_g SlLaysF0.n6 Slsf 6 at Try 50 as Ytpmipllohiiocaa.tr.sortL
end Go.Proofs
namespace Go.Proofs.Ytpmipllohiiocaa.tr
open Go.RowKit Go.Proofs.Ytpmipllohiiocaa.PTreeBuilds Go.Proofs.YtpmipllohiiocaaW.PrintWords Go.Proofs.YtpmipllohiiocaaW.PrintLast Go.Proofs.YtpmipllohiiocaaW.PrintMore Go.Proofs.Ytpmipllohiiocaa.bs Go.ChangeShapes Go.Proofs.Ytpmipllohiiocaa.lb Go.Proofs.Ytpmipllohiiocaa.ar Go.Maps Go.Sort Go.Shelf

def sortCl (l : List Cl) : List Cl := l.mergeSort fun x y => !ltC y x
theorem cmp_lays (blk off size : Nat) (w : World) : CmpLays Try.prog 51 #[] clE 3 cmpC blk off size w :=
  fun _ _ _ _ x y => cmp_walk x.f0.f0 x.f0.f1 x.f1 y.f0.f0 y.f0.f1 y.f1 _
theorem ltOf_fun : ltOf cmpC = ltC := funext fun x => funext fun y => ltOf_cmp x y
theorem sort_walk (l : List Cl) (g cap : Nat) (w : World) (h : RowC w g cap l) (hl : l.length ≤ 1000000000) :
    Calls Try.prog 50 #[.slice (some ⟨g, 0, none⟩) l.length cap, .func (.func 51) #[] #[]] w fun e w' => e = .returned (.tuple #[]) ∧ RowC w' g cap (sortCl l) ∧ w.grownBy w' (some g) := by
  have eg : ∀ args w, (callFunc 51 args).run Try.prog w = .ok (.enter 51 args) w := enters_of Try.func51 (by kernel_rfl) rfl
  have hs := AnyQ.slices_SortFunc_total sortL 3 (fun w => by kernel_rfl) (fun w => by kernel_rfl) clE (fun _ => rfl) (fun x v hv => by simp [clE] at hv; rcases hv with rfl | rfl | rfl <;> rfl) cmpC (by rw [ltOf_fun]; exact ltC_swo) 51 #[] g 0 cap l.toArray w eg (cmp_lays g 0 l.toArray.size w) h.holds h.lt (by simp; omega) (by rw [ltOf_fun]; exact ltC_tot)
  rw [ltOf_fun] at hs
  refine hs.mono fun e w' ⟨he, n, os, hw⟩ => ⟨he, ?_⟩
  rw [hw]
  exact h.sorted (by simp [List.length_mergeSort])
theorem sort_nil (p : Option Addr) (cap : Nat) (fv : Value) (w : World) :
    Calls Try.prog 50 #[.slice p 0 cap, fv] w fun e w' => e = .returned (.tuple #[]) ∧ w' = w :=
  AnyF.slices_SortFunc_none sortL p cap fv w
/-- sorted, each once, the same cells -/
theorem sortCl_perm (l : List Cl) : (sortCl l).Perm l := List.mergeSort_perm _ _
theorem sortCl_sorted (l : List Cl) : (sortCl l).Pairwise (fun x y => ltC y x = false) := by
  have h := List.pairwise_mergeSort (le := fun x y : Cl => !ltC y x) (fun a b c h1 h2 => by
    simp at h1 h2 ⊢
    exact ltC_swo.ntrans _ _ _ h2 h1) (fun a b => by
    simp only [Bool.or_eq_true, Bool.not_eq_true']
    by_cases h : ltC b a = true
    · right
      by_cases h2 : ltC a b = true
      · have := ltC_swo.trans _ _ _ h h2
        rw [ltC_swo.irrefl] at this
        cases this
      · simpa using h2
    · left; simpa using h) l
  exact h.imp (fun h => by simpa using h)
theorem sortCl_strict {l : List Cl} (h : l.Nodup) : (sortCl l).Pairwise (fun x y => ltC x y = true) := by
  have h1 := sortCl_sorted l
  have h2 : (sortCl l).Pairwise (· ≠ ·) := (sortCl_perm l).nodup_iff.2 h
  refine (h1.and h2).imp (fun {x y} ⟨a, b⟩ => ?_)
  by_cases e : ltC x y = true
  · exact e
  · exact absurd (ltC_tot x y (by simpa using e) a) b
end Go.Proofs.Ytpmipllohiiocaa.tr
namespace Go.Proofs.Ytpmipllohiiocaa.tr
open Go.RowKit Go.Proofs.Ytpmipllohiiocaa.PTreeBuilds Go.Proofs.YtpmipllohiiocaaW.PrintWords Go.Proofs.YtpmipllohiiocaaW.PrintLast Go.Proofs.YtpmipllohiiocaaW.PrintMore Go.Proofs.Ytpmipllohiiocaa.bs Go.ChangeShapes Go.Proofs.Ytpmipllohiiocaa.lb Go.Proofs.Ytpmipllohiiocaa.ar Go.Maps

set_option maxRecDepth 100000 in
set_option maxHeartbeats 4000000 in
theorem compact_same (l : List Cl) (A : Option Addr) (c : Nat) (w : World) (hC : Kd.C k39 w A l.length l) (hl : l.length ≤ 1000000000) (hd : ∀ (i : Nat) (x y : Cl), l[i]? = some x → l[i + 1]? = some y → x ≠ y) :
    Calls Try.prog 52 #[.slice A l.length c] w fun e w' => e = .returned (.slice A l.length c) ∧ Below w.heap.size w w' := by
  have HC := Aside0.mk hC
  have HD := Aside0.mk hd
  have hq2 := fun w a b h c d g => eqlCl w a b h c d g
  clear hC hd
  by_cases h2 : l.length < 2
  · have h2' : ((l.length : Nat) : Int) < 2 := by omega
    go_enter Try.func52, Try.ntmps52
    go_wp2_with (fail)
    refine bodyPost_ret (v := .slice A l.length c) (by simp [results, Try.results52, go_sem]) rfl ?_
    exact ⟨rfl, Below.refl _ _⟩
  · have h2' : ¬ ((l.length : Nat) : Int) < 2 := by omega
    obtain ⟨ad, rfl, _⟩ := at_T39 HC.out 0 (by omega) (by omega)
    go_enter Try.func52, Try.ntmps52
    go_wp2_with (fail)
    go_loopg [3] l.length (fun kq c3 w' => ∃ (i : Nat), 1 ≤ i ∧ i + kq = l.length + 1 ∧ i ≤ l.length ∧ c3 = .int .i64 i ∧ Aside0 (Below w.heap.size w w'))
    case atStart => exact ⟨1, by omega, by omega, by omega, rfl, ⟨Below.refl _ _⟩⟩
    case round =>
      obtain ⟨i, hi1, hi, hile, rfl, HB⟩ := hrel
      by_cases hlt : i < l.length
      · obtain ⟨gm, rfl⟩ : ∃ m, gk = m + 1 := ⟨gk - 1, by omega⟩
        obtain ⟨i', rfl⟩ : ∃ m, i = m + 1 := ⟨i - 1, by omega⟩
        obtain ⟨ad1, hae1, q0, q1, q2⟩ := at_T39 (Kd.C_below HC.out HB.out) ((i' + 1 : Nat) : Int) (by omega) (by omega)
        obtain rfl := Option.some.inj hae1
        obtain ⟨ad2, hae2, p0, p1, p2⟩ := at_T39 (Kd.C_below HC.out HB.out) ((i' : Nat) : Int) (by omega) (by omega)
        obtain rfl := Option.some.inj hae2
        obtain ⟨x, hx⟩ : ∃ x, l[i']? = some x := ⟨_, List.getElem?_eq_getElem (by omega)⟩
        obtain ⟨y, hy⟩ : ∃ x, l[i' + 1]? = some x := ⟨_, List.getElem?_eq_getElem hlt⟩
        have hr1 : rd_T39 l ((i' : Nat) : Int) = x := by unfold rd_T39; rw [Int.toNat_natCast, List.getD_eq_getElem?_getD, hx]; rfl
        have hr2 : rd_T39 l ((i' + 1 : Nat) : Int) = y := by unfold rd_T39; rw [Int.toNat_natCast, List.getD_eq_getElem?_getD, hy]; rfl
        rw [hr1, Int.toNat_natCast] at p0 p1 p2
        rw [hr2, Int.toNat_natCast] at q0 q1 q2
        have hne : ((y.f0.f0 == x.f0.f0 && y.f0.f1 == x.f0.f1) && y.f1 == x.f1) = false := by
          have := HD.out i' x y hx hy
          rw [Bool.eq_false_iff]
          intro h
          simp at h
          apply this
          obtain ⟨⟨a, b⟩, g⟩ := x
          obtain ⟨⟨a', b'⟩, g'⟩ := y
          simp at h
          rw [h.1.1, h.1.2, h.2]
        have HNE := Aside0.mk (show ∀ w, (binOp .eql 39 (.agg #[.int .i64 y.f0.f0, .int .i64 y.f0.f1, .int .i64 y.f1]) (.agg #[.int .i64 x.f0.f0, .int .i64 x.f0.f1, .int .i64 x.f1])).run Try.prog w = .ok (.bool false) w from fun w => by rw [eqlCl, hne])
        clear hx hy hr1 hr2 hae1 hae2
        go_upto_region 6 with (fail)
        go_quiet (fail)
        go_wp2_with (fail)
        go_roundg gm
        case measure => omega
        case rel => exact ⟨i' + 1 + 1, by omega, by omega, by omega, by go_num, ⟨by have h := HB.out; exact pw_below_drewN h _⟩⟩
      · obtain rfl : i = l.length := by omega
        go_wp2_with (fail)
        refine bodyPost_ret (v := .slice (some ad) l.length c) (by simp [results, Try.results52, go_sem]) rfl ?_
        exact ⟨rfl, HB.out⟩
end Go.Proofs.Ytpmipllohiiocaa.tr
namespace Go.Proofs.Ytpmipllohiiocaa.tr
open Go.RowKit Go.Proofs.Ytpmipllohiiocaa.PTreeBuilds Go.Proofs.YtpmipllohiiocaaW.PrintWords Go.Proofs.YtpmipllohiiocaaW.PrintLast Go.Proofs.YtpmipllohiiocaaW.PrintMore Go.Proofs.Ytpmipllohiiocaa.bs Go.ChangeShapes Go.Proofs.Ytpmipllohiiocaa.lb Go.Proofs.Ytpmipllohiiocaa.ar Go.Maps

theorem eqlNil (w : World) (A : Option Addr) (n c : Nat) : (binOp .eql 24 (.slice A n c) (.slice none 0 0)).run Try.prog w = .ok (.bool A.isNone) w := Go.Lib.run_eql_slice_nil w 24 39 A n c 0 0 Try.underlying24
set_option maxRecDepth 100000 in
set_option maxHeartbeats 4000000 in
theorem clone_walk (l : List Cl) (A : Option Addr) (c : Nat) (w : World) (hC : Kd.C k39 w A l.length l) (hl : l.length ≤ 1000000000) :
    Calls Try.prog 49 #[.slice A l.length c] w fun e w' => ∃ v, e = .returned v ∧ Kd.R k39 39 w' w.heap.size (fun k => w.heap.size ≤ k) v l ∧ Below w.heap.size w w' := by
  cases A with
  | none =>
    have h0 : l = [] := by
      by_cases h : 0 < l.length
      · obtain ⟨ad, he, _⟩ := hC.2.2 h
        cases he
      · exact List.length_eq_zero_iff.1 (by omega)
    subst h0
    have hE := fun w => eqlNil w none 0 c
    simp only [Option.isNone_none] at hE
    clear hC hl
    go_enter Try.func49, Try.ntmps49
    go_wp2_with (fail)
    refine bodyPost_ret (v := .slice none 0 0) (by simp [results, Try.results49, go_sem]) rfl ?_
    exact ⟨_, rfl, Kd.R_nil _ _ _ _ _, Below.refl _ _⟩
  | some ad =>
    have HC := Aside0.mk hC
    have hE := fun w => eqlNil w (some ad) l.length c
    simp only [Option.isNone_some] at hE
    clear hC
    go_enter Try.func49, Try.ntmps49
    go_upto_region 3 with (fail)
    have hb := below_alloc (Below.refl w.heap.size w) (.cells #[] 39)
    have HB := Aside0.mk hb
    have HC1 := Aside0.mk (Kd.C_below HC.out hb)
    have HO : Aside0 (Kd.R k39 39 (w.alloc (.cells #[] 39)) w.heap.size (fun k => w.heap.size ≤ k) (.slice (some ⟨w.heap.size, 0, none⟩) 0 0) []) := ⟨fun k hk => by
      have : w.heap.size = k := by simpa [Value.ownBlock] using hk
      show w.heap.size ≤ k
      omega, OwnRow.lit w w.heap.size (ps := []) (inner := []) (Reps.none _ _) (Nat.le_refl _) (by simp)⟩
    clear hb
    go_wp2_with (refine Kd.R_append_rows k39 (Rr := k39.K (w.alloc (.cells #[] 39))) (w0 := w) (W := w.alloc (.cells #[] 39)) w.heap.size rfl (.tmp 5) (.tmp 6) 24 39 (.agg #[.int .i64 0, .int .i64 0, .int .i64 0]) 24 rfl Try.underlying24 infoCl rfl (by decide) (by decide) (.slice (some ⟨w.heap.size, 0, none⟩) 0 0) [] l (some ad) l.length c (fun k => w.heap.size ≤ k) (fun _ => False) (by simp [Act.eval]) (by simp [Act.eval]) HO.out HC1.out (fun x cs h => by rw [k39_open h]; exact k39_mkM _ _ _ _) (fun _ hk => hk.elim) (fun k hk => by rw [World.size_alloc] at hk; omega) HB.out (by rw [World.size_alloc]; omega) (by simp; omega) ?_; intro v1 w6 ho6 hb6 hg6 hat6; have HO6 := Aside0.mk ho6; have HB6 := Aside0.mk hb6; clear ho6 hb6 hg6 hat6)
    refine bodyPost_ret (v := v1) (by simp [results, Try.results49, go_sem]) rfl ?_
    exact ⟨_, rfl, HO6.out, HB6.out⟩
end Go.Proofs.Ytpmipllohiiocaa.tr
namespace Go.Proofs.Ytpmipllohiiocaa.tr
open Go.RowKit Go.Proofs.Ytpmipllohiiocaa.PTreeBuilds Go.Proofs.YtpmipllohiiocaaW.PrintWords Go.Proofs.YtpmipllohiiocaaW.PrintLast Go.Proofs.YtpmipllohiiocaaW.PrintMore Go.Proofs.Ytpmipllohiiocaa.bs Go.ChangeShapes Go.Proofs.Ytpmipllohiiocaa.lb Go.Proofs.Ytpmipllohiiocaa.ar Go.Maps

theorem sortCl_len (l : List Cl) : (sortCl l).length = l.length := List.length_mergeSort _
theorem sort_any {base : Nat} {ok : Nat → Prop} {v : Value} {l : List Cl} {w : World} (h : Kd.R k39 39 w base ok v l) (hl : l.length ≤ 1000000000) :
    Calls Try.prog 50 #[v, .func (.func 51) #[] #[]] w fun e w' => e = .returned (.tuple #[]) ∧ Kd.R k39 39 w' base ok v (sortCl l) ∧ w.grownBy w' v.ownBlock := by
  by_cases h0 : 0 < l.length
  · obtain ⟨g, cap, rfl, hb, hok, hr⟩ := R_rowc h h0
    refine (sort_walk l g cap w hr hl).mono fun e w' ⟨he, h1, h2⟩ => ⟨he, ?_, h2⟩
    have := rowc_R h1 hb hok
    rw [sortCl_len] at this
    exact this
  · have : l = [] := List.length_eq_zero_iff.1 (by omega)
    subst this
    obtain ⟨A, c, rfl⟩ := Kd.R_slice h
    refine (sort_nil A c _ w).mono fun e w' ⟨he, hw⟩ => ⟨he, ?_, ?_⟩
    · rw [hw, show sortCl [] = [] from List.length_eq_zero_iff.1 (sortCl_len [])]; exact h
    · rw [hw]; exact ⟨rfl, rfl, rfl, Nat.le_refl _, fun _ _ _ => rfl⟩
theorem sortCl_next {l : List Cl} (h : l.Nodup) (i : Nat) (x y : Cl) (hx : (sortCl l)[i]? = some x) (hy : (sortCl l)[i + 1]? = some y) : x ≠ y := by
  have hp := sortCl_strict h
  obtain ⟨h1, rfl⟩ := List.getElem?_eq_some_iff.1 hx
  obtain ⟨h2, rfl⟩ := List.getElem?_eq_some_iff.1 hy
  have := (List.pairwise_iff_getElem.1 hp) i (i + 1) h1 h2 (by omega)
  intro e
  rw [e, ltC_swo.irrefl] at this
  cases this
set_option maxRecDepth 100000 in
set_option maxHeartbeats 4000000 in
theorem setof_walk (l : List Cl) (A : Option Addr) (c : Nat) (w : World) (hC : Kd.C k39 w A l.length l) (hl : l.length ≤ 1000000000) (hnd : l.Nodup) :
    Calls Try.prog 31 #[.slice A l.length c] w fun e w' => ∃ v, e = .returned v ∧ Kd.R k39 39 w' w.heap.size (fun k => w.heap.size ≤ k) v (sortCl l) ∧ Below w.heap.size w w' := by
  have hcl := Aside0.mk (clone_walk l A c w hC hl)
  have HL := Aside0.mk hl
  have HND := Aside0.mk hnd
  clear hC hl hnd
  go_enter Try.func31, Try.ntmps31
  go_wp2_with (first
    | (go_at_call 49; refine hcl.out.mono ?_; rintro e w1 ⟨v1, rfl, hr1, hb1⟩; have HR1 := Aside0.mk hr1; have HB1 := Aside0.mk hb1; clear hr1 hb1)
    | (go_at_call 50; refine (sort_any HR1.out HL.out).mono ?_; rintro e w2 ⟨rfl, hr2, hg2⟩; have HR2 := Aside0.mk hr2; have HB2 := Aside0.mk (HB1.out.grown hg2 HB1.out.size (fun b hb => HR1.out.1 b hb)); obtain ⟨A2, c2, hv2⟩ := Kd.R_slice HR2.out; have HV2 := Aside0.mk hv2; clear hr2 hg2 hv2)
    | (go_at_call 52; rw [HV2.out]; refine (compact_same (sortCl l) A2 c2 w2 (by have h := HR2.out; rw [HV2.out] at h; exact (Kd.R_reads' h).2.2) (by rw [sortCl_len]; exact HL.out) (sortCl_next HND.out)).mono ?_; rintro e w3 ⟨rfl, hb3⟩; have HB3 := Aside0.mk hb3; clear hb3))
  refine bodyPost_ret (v := .slice A2 (sortCl l).length c2) (by simp [results, Try.results31, go_sem]) rfl ?_
  refine ⟨_, rfl, ?_, chain HB2.out HB3.out HB2.out.size⟩
  rw [← HV2.out]
  exact Kd.R_below HR2.out HB3.out
end Go.Proofs.Ytpmipllohiiocaa.tr
