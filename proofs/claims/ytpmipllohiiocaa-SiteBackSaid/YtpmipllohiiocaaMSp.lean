/- For any number and any cells the law SiteBack answers true: the leaves of a set of at most 40 cells have just its cells; none is empty. No condition. -/
import Derived.Test.YtpmipllohiiocaaMSb
import Derived.Test.YtpmipllohiiocaaMSh
import Derived.Test.YtpmipllohiiocaaQTreeBuildsxLattice
import Derived.Test.YtpmipllohiiocaaQTreeBuildsxAwake
import Derived.Deep.RegionHeld3
import Derived.Test.YtpmipllohiiocaaRow
namespace Go.Proofs.Ytpmipllohiiocaa.tr
open Go.RowKit Go.Proofs.Ytpmipllohiiocaa.PTreeBuilds Go.Proofs.YtpmipllohiiocaaW.PrintWords Go.Proofs.YtpmipllohiiocaaW.PrintLast Go.Proofs.YtpmipllohiiocaaW.PrintMore Go.Proofs.Ytpmipllohiiocaa.bs Go.ChangeShapes Go.Proofs.Ytpmipllohiiocaa.lb Go.Proofs.Ytpmipllohiiocaa.ar Go.Maps

theorem awake9 : honeycomblaw09_awake.f 40 = some true := by decide +kernel
theorem neqPt (w : World) (a b c e : Int) : (binOp .neq 32 (.agg #[.int .i64 a, .int .i64 b]) (.agg #[.int .i64 c, .int .i64 e])).run Try.prog w = .ok (.bool (!(a == c && b == e))) w := by
  rw [run_neq_struct, show 10000 = 9998 + 2 from rfl, eqPt]; rfl
theorem told_val (a b h : Int) : honeycomblaw03_Told.f a b h = some (a, b, h) := rfl
theorem place {w : World} {v : Value} {l : List Rc} {B r b0 : Nat} (h : Kd.R k42 42 w B (fun _ => True) v l) (hr : r < B) (hb : b0 ≤ B) : Kd.R k42 42 w b0 (fun k => k ≠ r) v l :=
  Kd.R_lower (Kd.R_mono (Kd.R_bound h) (fun k hk => by have := hk.2.1; omega)) hb
theorem put2_walk (s : List Rc) (hs : s.length ≤ 2000) (hu : Rising s) (c : Rc) (A : Option Addr) (cc : Nat) (w : World) (hC : Kd.C k42 w A s.length s) (hc : s.length ≤ cc) :
    Calls Try.prog 12 #[.slice A s.length cc, .agg #[.int .i64 c.f0, .int .i64 c.f1, .int .i64 c.f2]] w fun e w' => ∃ v, e = .returned v ∧ Kd.R k42 42 w' w.heap.size (fun _ => True) v (insR s c) ∧ Below w.heap.size w w' :=
  honeycombref04_Put.calls 5000 A cc s c.f0 c.f1 c.f2 (insR s c) w hC hc (put_val c s (by omega) hu 5000 (by omega))
theorem key_small {cs : List Cl} (hcs : ∀ c ∈ cs, ClOk c) (hbd : ∀ c ∈ cs, (-100 < c.f0.f0 ∧ c.f0.f0 < 100) ∧ (-100 < c.f0.f1 ∧ c.f0.f1 < 100) ∧ 0 ≤ c.f1 ∧ c.f1 < 2) {D : DataW Unit} (hD : MapIs D (Gl cs)) {a b : Int} (ha : I64 a) (hb : I64 b) (hh : Maps.has D (pk a b) = true) :
    Gl cs a b ≠ 0 ∧ lowOf a = a ∧ lowOf b = b ∧ (-104 ≤ a ∧ a ≤ 100) ∧ (-104 ≤ b ∧ b ≤ 100) := by
  have h := (hD.has a b ha hb).1 hh
  obtain ⟨c, hc, e1, e2⟩ := (Gl_ne cs hcs a b).1 h
  obtain ⟨h1, h2, _⟩ := hbd c hc
  exact ⟨h, by rw [lowOf_eq a (by omega)]; omega, by rw [lowOf_eq b (by omega)]; omega, by omega, by omega⟩
theorem fold_take (all : List Rc) {CL : List Cl} {j : Nat} {c : Cl} (h : CL[j]? = some c) : ((CL.take (j + 1)).map toldC).foldl insR all = insR (((CL.take j).map toldC).foldl insR all) (toldC c) := by
  rw [take_snoc h, List.map_append, List.foldl_append]
  rfl
theorem below_next {w6 wr w8 : World} {r : Nat} (h : Below w6.heap.size w6 wr) (hr : w6.heap.size ≤ r) (hg : wr.grownBy w8 (some r)) : Below w6.heap.size w6 w8 :=
  h.grown hg h.size (fun j hj => by injection hj with hj; rw [← hj]; exact hr)
theorem row_next {wr w8 : World} {r b0 : Nat} {v : Value} {l : List Rc} (h : Kd.R k42 42 wr b0 (fun k => k ≠ r) v l) (hg : wr.grownBy w8 (some r)) : Kd.R k42 42 w8 b0 (fun k => k ≠ r) v l :=
  Kd.R_grown h hg (fun k hk e => hk (by injection e))
theorem rg_below {w w' : World} {M r n cnt : Nat} {D : DataW Unit} {left : Lit → Bool} (h : w.ranges Try.prog 32 (plainElem (H := Unit) Try.prog 34) M r n D left cnt) (hb : Below w.heap.size w w') : w'.ranges Try.prog 32 (plainElem (H := Unit) Try.prog 34) M r n D left cnt :=
  h.kept (row := none) ⟨hb.os, hb.tape, hb.output, hb.size, fun k hk _ => hb.block k hk⟩ (by simp) (by simp)
def hiddenP (t : TypeId) (x : Operand) : Op := .load t x
attribute [local go_sem] hiddenP
set_option maxRecDepth 100000 in
set_option maxHeartbeats 4000000 in
theorem back_walk (n : Int) (raw : List Rc) (rA : Option Addr) (rc : Nat) (w : World) (hR : Kd.C k42 w rA raw.length raw) :
    Calls Try.prog 3 #[.int .i64 n, .slice rA raw.length rc] w fun e w' => e = .returned (.bool true) ∧ Below w.heap.size w w' := by
  have HAW := Aside0.mk (fun w => honeycomblaw09_awake.calls 40 true w awake9)
  obtain ⟨L, hL⟩ : ∃ L, wrap64 (1 + Int.tmod (Go.bits .and .i64 n 255) 3) = L := ⟨_, rfl⟩
  have hla := fun w => honeycomblaw03_Lattice.calls n _ w rfl
  rw [hL] at hla
  have HLA := Aside0.mk hla
  have HSM := Aside0.mk (fun (w1 : World) (hb : Below w.heap.size w w1) => some_walk L raw rA rc w1 (Kd.C_below hR hb))
  have hok := someS_ok L raw
  have HBD := Aside0.mk (someS_bd L raw)
  have hlen := someS_len L raw
  have hup := someS_up L raw
  generalize someS L raw = cs at *
  have HLV := Aside0.mk (fun (A : Option Addr) (c : Nat) (w1 : World) (h : Kd.C k39 w1 A cs.length cs) => leaves_walk A c cs w1 h hok)
  have HOK := Aside0.mk hok
  have HUP := Aside0.mk hup
  clear hla hL hR hok hup
  go_enter Try.func3, Try.ntmps3
  go_upto_region 4 with (first
    | (go_at_call 5; refine (HAW.out _).mono ?_; rintro e w1 ⟨rfl, hb1⟩; have HB1 := Aside0.mk hb1; clear hb1)
    | (go_at_call 7; refine (HLA.out _).mono ?_; rintro e w2 ⟨rfl, hb2⟩; have HB2 := Aside0.mk (chain HB1.out hb2.below HB1.out.size); clear hb2)
    | (go_at_call 6; refine (HSM.out _ HB2.out).mono ?_; rintro e w3 ⟨v3, rfl, hr3, hb3⟩; have HR3 := Aside0.mk hr3; have HB3 := Aside0.mk (chain HB2.out hb3 HB2.out.size); clear hr3 hb3))
  obtain ⟨A3, c3, hv3⟩ := Kd.R_slice HR3.out
  subst hv3
  have HC3 := Aside0.mk (Kd.R_reads' HR3.out).2
  clear HB1 HB2 HR3 HSM HLA HAW
  go_upto_region 6 with (fail)
  have hb4 := below_alloc (Below.refl w3.heap.size w3) (.cells #[] 42)
  have HO4 : Aside0 (Kd.R k42 42 (w3.alloc (.cells #[] 42)) w3.heap.size (fun _ => True) (.slice (some ⟨w3.heap.size, 0, none⟩) 0 0) []) := ⟨fun k hk => trivial, OwnRow.lit w3 w3.heap.size (ps := []) (inner := []) (Reps.none _ _) (Nat.le_refl _) (by simp)⟩
  have HB4 := Aside0.mk (chain HB3.out hb4 HB3.out.size)
  have HC4 := Aside0.mk (Kd.C_below HC3.out.2 hb4)
  have HCL := Aside0.mk HC3.out.1
  have hw3 : w.heap.size ≤ w3.heap.size := HB3.out.size
  clear HB3 HC3 hb4
  generalize w3.alloc (.cells #[] 42) = w4 at *
  generalize w3.heap.size = X4 at *
  go_wp2_with (first
    | (go_at_call 8; refine (HLV.out A3 c3 _ HC4.out).mono ?_; rintro e w6 ⟨M, D, rfl, hmap, hown, hMle, hb6⟩; have HMAP := Aside0.mk hmap; have HOWN := Aside0.mk hown; have HB6 := Aside0.mk (chain HB4.out hb6 HB4.out.size); have HC6 := Aside0.mk (Kd.C_below HC4.out hb6); have HO6 := Aside0.mk (Kd.R_below HO4.out hb6); clear hmap hown hMle hb6)
    | (at_range; refine wpList_range_own _ rfl _ 29 rfl 32 34 lawP Try.underlying29 (plainElem (H := Unit) Try.prog 34) M cs.length D rfl HOWN.out ?_; intro w7 hrg7 hg7 hs7))
  go_frame
  have hsz := World.ownsMap.size_le HOWN.out
  obtain ⟨r, hr⟩ : ∃ r, w6.heap.size = r := ⟨_, rfl⟩
  have HBr := Aside0.mk (show Below w6.heap.size w6 w7 from ⟨hg7.os, hg7.tape, hg7.output, hg7.size, fun j hj => hg7.block j hj (fun e => by cases e)⟩)
  have hrl : r < w7.heap.size := by rw [hs7, hr]; omega
  have hwr : w.heap.size ≤ r := by rw [← hr]; exact HB6.out.size
  have HO7 := Aside0.mk (Kd.R_below (Kd.R_mono (Kd.R_bound HO6.out) (ok' := fun k => k ≠ r) (fun k hk => by have h1 := hk.2.2.1; omega)) HBr.out)
  have HRC := Aside0.mk hr
  have HW6 := Aside0.mk (Nat.le_of_eq hr)
  rw [hr] at hrg7 ⊢
  have HRG7 := Aside0.mk hrg7
  have HSZ := Aside0.mk hsz
  have HBS := Aside0.mk (back_start HOK.out HMAP.out)
  have hX4 : X4 ≤ r := by have h1 := Kd.R_base HO6.out X4 rfl; have h2 := Kd.R_lt HO6.out X4 rfl; omega
  clear hg7 hs7 hr hrg7 hsz HOWN HO6 HO4 HB4 HC4 HLV
  go_loopw [6, 7] (fun c6 c7 wr => ∃ (left : Lit → Bool) (cnt : Nat) (all : List Rc), Aside0 (wr.ranges Try.prog 32 (plainElem (H := Unit) Try.prog 34) M r cs.length D left cnt) ∧ Aside0 (Back cs left all) ∧ Aside0 (Kd.R k42 42 wr X4 (fun k => k ≠ r) c6 all) ∧ c7 = .int .i64 all.length ∧ all.length + 32 * cnt ≤ 1280 ∧ Aside0 (Below w6.heap.size w6 wr) ∧ r < wr.heap.size)
      (fun _ _ wr => wr.rangeLeft M r)
  case atStart => exact ⟨_, _, [], HRG7, HBS, HO7, rfl, by have := HSZ.out; simp; omega, HBr, hrl⟩
  case round =>
    clear HRG7 HBS HO7 HBr hrl HSZ
    obtain ⟨left, cnt, all, HRG, HBK, HR, rfl, hcnt, HBr, hrl⟩ := hrel
    obtain ⟨A6, c6, rfl⟩ := Kd.R_slice HR.out
    go_wp2_with (at_next; refine wpList_next_ranges _ rfl _ rfl 32 lawP (plainElem (H := Unit) Try.prog 34) (fun v : Value => v) (fun x : Int => Value.int .u32 x) (fun key kl _ => ⟨key, rfl⟩) (fun v y hv => by obtain ⟨c, rfl, _⟩ := plainElem_int_inv Try.underlying34 hv; exact ⟨c, rfl⟩) M r cs.length D left cnt rfl HRG.out ?_ ?_)
    · intro h0 hl0
      have hdone := HBK.out.done hl0 HUP.out
      have hll : all.length = cs.length := by rw [← hdone, List.length_map]
      have HAR := Aside0.mk (fun (w1 : World) (hc1 : Kd.C k39 w1 A3 cs.length cs) (hc2 : Kd.C k42 w1 A6 all.length all) => honeycomblaw04_Are.calls 2000 A3 c3 cs A6 c6 all 0 w1 hc1 HCL.out hc2 (Kd.R_reads' HR.out).2.1 (by rw [are_val cs all (by omega) 2000 (by omega), if_pos hdone.symm]))
      have HCc := Aside0.mk (Kd.C_below HC6.out HBr.out)
      have HCa := Aside0.mk (Kd.R_reads' HR.out).2.2
      have HLV0 := Aside0.mk (fun (A : Option Addr) (w1 : World) => leaves_walk A 0 [] w1 ⟨rfl, by simp, fun h => absurd h (by simp)⟩ (by simp))
      have HBx := Aside0.mk (chain HB6.out HBr.out HB6.out.size)
      rw [hll] at HAR HCa ⊢
      clear h0 hl0 hdone hll
      go_wp2_with (first
        | (go_at_call 14; (refine (HAR.out _ HCc.out HCa.out).mono ?_; rintro e w20 ⟨rfl, hb20⟩; have HB20 := Aside0.mk (chain HBx.out hb20 HBx.out.size); clear hb20))
        | (go_at_call 8; refine (HLV0.out _ _).mono ?_; rintro e w21 ⟨M0, D0, rfl, _, hown0, _, hb21⟩; have HOWN0 := Aside0.mk hown0; have HB21 := Aside0.mk (chain (below_alloc HB20.out (.cells #[] 39)) hb21 (below_alloc HB20.out (.cells #[] 39)).size); have hs0 := World.ownsMap.len hown0 Try.underlying29 3; rw [show Maps.size D0 = 0 from Nat.le_zero.1 (World.ownsMap.size_le hown0)] at hs0; clear hown0 hb21))
      go_ret
      exact ⟨ret_bool (by first | rfl | (simp; done)), HB21.out⟩
    · intro x cv kl y yp w8 cnt1 hkx hlk hpe hat hrg8 hlt hg8 hs8 hen
      have hhas := ranges_has HRG.out hlk
      obtain ⟨a, b, hia, hib, rfl⟩ := HMAP.out.key kl hhas
      obtain rfl : x = ptV a b := lawP.inj hkx (keyPt hia hib)
      unfold ptV at hen ⊢
      have hcv : Gl cs a b = cv := by
        have h1 := hat (.lit (.int .u32 0))
        rw [HMAP.out.at_ a b hia hib] at h1
        obtain ⟨c', e1, e2, _⟩ := plainElem_int_inv Try.underlying34 hpe
        injection e1 with _ e1
        injection e2 with e2
        rw [e2] at h1
        injection h1 with h1
        injection h1 with _ h1
        rw [h1, e1]
      subst hcv
      obtain ⟨hne0, hla, hlb, hba, hbb⟩ := key_small HOK.out HBD.out HMAP.out hia hib hhas
      have hst := HBK.out.step HOK.out HMAP.out hia hib hhas hlk
      have HLW := Aside0.mk (fun w => low_walk a b w)
      rw [hla, hlb] at HLW
      obtain ⟨f, hf⟩ : ∃ f : Nat, Gl cs a b = (f : Int) := ⟨(Gl cs a b).toNat, by have := (Gl_bd cs a b).1; omega⟩
      have hf32 : f < 4294967296 := by have := (Gl_bd cs a b).2; omega
      rw [hf] at hst hne0 hen ⊢
      have hfb : ((f : Int) == 0) = false := beq_eq_false_iff_ne.mpr hne0
      have hcl := cells_len (f : Int) a b (by omega)
      rw [Int.toNat_natCast] at hcl
      have hpn : (cells (f : Int) a b).length ≤ 32 := by have := popN_le 32 f; omega
      have HCW := Aside0.mk (fun w => site_Leaf_Cells.calls 200 f a b _ w (cells_tells f a b (by omega) (by omega) (by omega) 200 (by omega)))
      have HNW := Aside0.mk (fun w => count_walk f hf32 w)
      have hnq : ∀ w, (binOp .neq 32 (.agg #[.int .i64 a, .int .i64 b]) (.agg #[.int .i64 a, .int .i64 b])).run Try.prog w = .ok (.bool false) w := by intro w; rw [neqPt]; simp
      have HST := Aside0.mk hst
      have HRG8 := Aside0.mk hrg8
      have HG8 := Aside0.mk hg8
      have HLT := Aside0.mk hlt
      have HBr8 := Aside0.mk (below_next HBr.out HW6.out hg8)
      have HR8 := Aside0.mk (row_next HR.out hg8)
      have HLE := Aside0.mk hrg8.left_eq
      rw [← hcl] at HNW
      generalize cells (f : Int) a b = CL at *
      have HS8 := Aside0.mk hs8
      clear hs8 hst hrg8 hg8 hlt hkx hlk hpe hat hhas hia hib hf hla hlb hcl
      go_upto_region 9 with (fail)
      have hkp := blk_new w8 (.cells #[.int .i64 a, .int .i64 b] 32)
      have hb9 := below_alloc (Below.refl w8.heap.size w8) (.cells #[.int .i64 a, .int .i64 b] 32)
      have p0 := blk_cell hkp 0
      have p1 := blk_cell hkp 1
      simp only [List.getElem?_toArray, List.getElem?_cons_zero, List.getElem?_cons_succ] at p0 p1
      have HR9 := Aside0.mk (Kd.R_below HR8.out hb9)
      have HBr9 := Aside0.mk (chain HBr8.out hb9 HBr8.out.size)
      have HRG9 := Aside0.mk (HRG8.out.kept (World.grownBy_alloc w8 (.cells #[.int .i64 a, .int .i64 b] 32) none) (by simp) (by simp))
      have hrl9 : r < (w8.alloc (.cells #[.int .i64 a, .int .i64 b] 32)).heap.size := by rw [World.size_alloc, HS8.out]; omega
      have HKP := Aside0.mk hkp
      clear hkp hen hb9 HS8 HR8 HRG8 HBr8 HG8
      generalize w8.alloc (.cells #[.int .i64 a, .int .i64 b] 32) = w9 at *
      generalize w8.heap.size = X at *
      go_region_held3 (fun w' => w'.cell? ⟨X, 0, none⟩ = some (.int .i64 a) ∧ w'.cell? ⟨X, 1, none⟩ = some (.int .i64 b)) (refine ⟨?_, ?_⟩ <;> (first | (with_reducible assumption) | (with_reducible refine pw_cell_below ?_ p0; (repeat' (first | (with_reducible exact Below.refl _ _) | (with_reducible assumption) | (with_reducible refine Below.alloc ?_ ?_ _) | (with_reducible refine Below.drew ?_) | (with_reducible refine Below.setCell ?_ ?_ _) | (with_reducible refine chain ?_ (by assumption) ?_) | go_size)); done) | (with_reducible refine pw_cell_below ?_ p1; (repeat' (first | (with_reducible exact Below.refl _ _) | (with_reducible assumption) | (with_reducible refine Below.alloc ?_ ?_ _) | (with_reducible refine Below.drew ?_) | (with_reducible refine Below.setCell ?_ ?_ _) | (with_reducible refine chain ?_ (by assumption) ?_) | go_size)); done)))
        (first | (go_at_call 9; with_reducible refine Calls.mono (HLW.out _) ?_; rintro e w10 ⟨rfl, hb10⟩; have HB10 := Aside0.mk (show Below w9.heap.size w9 w10 by (repeat' (first | (with_reducible exact Below.refl _ _) | (with_reducible assumption) | (with_reducible refine Below.alloc ?_ ?_ _) | (with_reducible refine Below.drew ?_) | (with_reducible refine Below.setCell ?_ ?_ _) | (with_reducible refine chain ?_ (by assumption) ?_) | go_size))); have p0 := pw_cell_below HB10.out p0; have p1 := pw_cell_below HB10.out p1; clear hb10))
      have HR10 := Aside0.mk (Kd.R_below HR9.out HB10.out)
      have HBr10 := Aside0.mk (chain HBr9.out HB10.out HBr9.out.size)
      have HRG10 := Aside0.mk (rg_below HRG9.out HB10.out)
      have hrl10 : r < w10.heap.size := Nat.lt_of_lt_of_le hrl9 HB10.out.size
      clear HR9 HBr9 HRG9 hrl9 HB10 HKP
      go_upto_region 13 with (first
        | (go_at_call 10; refine (HNW.out _).mono ?_; rintro e w11 ⟨rfl, rfl⟩)
        | (go_at_call 11; refine (HCW.out _).mono ?_; rintro e w12 ⟨v12, rfl, hr12, hb12⟩; obtain ⟨A12, c12, rfl⟩ := Kd.R_slice hr12; have HC12 := Aside0.mk (Kd.R_reads' hr12).2.2; have HR12 := Aside0.mk (Kd.R_below HR10.out hb12); have HBr12 := Aside0.mk (chain HBr10.out hb12 HBr10.out.size); have HRG12 := Aside0.mk (rg_below HRG10.out hb12); have HL12 := Aside0.mk (Nat.lt_of_lt_of_le hrl10 hb12.size); clear hr12 hb12))
      clear HR10 HBr10 HRG10 hrl10 p0 p1
      go_loopg [6, 43] CL.length (fun kq c6 c43 w' => ∃ (j : Nat) (acc : List Rc), j + kq = CL.length ∧ c43 = .int .i64 j ∧ Aside0 (acc = ((CL.take j).map toldC).foldl insR all) ∧ Aside0 (Kd.R k42 42 w' X4 (fun k => k ≠ r) c6 acc) ∧ Aside0 (Below w12.heap.size w12 w'))
      case atStart => exact ⟨0, all, by omega, rfl, ⟨rfl⟩, HR12, ⟨Below.refl _ _⟩⟩
      case round =>
        clear HR12
        obtain ⟨j, acc, hj, rfl, HACC, HRa, HBa⟩ := hrel
        obtain ⟨Aa, ca, rfl⟩ := Kd.R_slice HRa.out
        by_cases hjl : j < CL.length
        · obtain ⟨gm, rfl⟩ : ∃ m, gk = m + 1 := ⟨gk - 1, by omega⟩
          obtain ⟨x, hx⟩ : ∃ x, CL[j]? = some x := ⟨_, List.getElem?_eq_getElem hjl⟩
          obtain ⟨ad, hae, q0, q1, q2⟩ := at_T39 (Kd.C_below HC12.out HBa.out) (j : Int) (by omega) (by omega)
          have hrd : rd_T39 CL ((j : Nat) : Int) = x := by unfold rd_T39; rw [Int.toNat_natCast, List.getD_eq_getElem?_getD, hx]; rfl
          rw [hrd, Int.toNat_natCast] at q0 q1 q2
          have HFT := Aside0.mk (fold_take all hx)
          rw [← HACC.out] at HFT
          have hris : Rising acc := by rw [HACC.out]; exact (foldl_insR _ all HBK.out.up).1
          have hal : acc.length ≤ all.length + j := by
            have h1 := (foldl_insR ((CL.take j).map toldC) all HBK.out.up).2.1
            rw [← HACC.out, List.length_map, List.length_take] at h1
            omega
          have HPW := Aside0.mk (fun (w1 : World) (hC : Kd.C k42 w1 Aa acc.length acc) (hcc : acc.length ≤ ca) => put2_walk acc (by omega) hris (toldC x) Aa ca w1 hC hcc)
          have HTW := Aside0.mk (fun w => honeycomblaw03_Told.calls x.f0.f0 x.f0.f1 x.f1 _ _ _ w (told_val _ _ _))
          have hccap := (Kd.R_reads' HRa.out).2.1
          have HRl := Aside0.mk (Nat.lt_of_lt_of_le HL12.out HBa.out.size)
          subst hae
          clear hrd hx hris hal
          go_upto_region 15 with (fail)
          have hkq := blk_new wr (.cells #[.int .i64 x.f0.f0, .int .i64 x.f0.f1, .int .i64 x.f1] 39)
          have hb13 := below_alloc (Below.refl wr.heap.size wr) (.cells #[.int .i64 x.f0.f0, .int .i64 x.f0.f1, .int .i64 x.f1] 39)
          clear q0 q1 q2
          have q0 := blk_cell hkq 0
          have q1 := blk_cell hkq 1
          have q2 := blk_cell hkq 2
          simp only [List.getElem?_toArray, List.getElem?_cons_zero, List.getElem?_cons_succ] at q0 q1 q2
          have HR13 := Aside0.mk (Kd.R_below HRa.out hb13)
          have HB13 := Aside0.mk (chain HBa.out hb13 HBa.out.size)
          have HRl13 := Aside0.mk (Nat.lt_of_lt_of_le HRl.out hb13.size)
          clear hkq hb13
          generalize wr.alloc (.cells #[.int .i64 x.f0.f0, .int .i64 x.f0.f1, .int .i64 x.f1] 39) = w13 at *
          generalize wr.heap.size = X2 at *
          go_wp2_with (first
            | (go_at_call 13; refine (HTW.out _).mono ?_; rintro e w14 ⟨rfl, hb14⟩; have HR14 := Aside0.mk (Kd.R_below HR13.out hb14); have HB14 := Aside0.mk (chain HB13.out hb14 HB13.out.size); have HRl14 := Aside0.mk (Nat.lt_of_lt_of_le HRl13.out hb14.size); clear hb14)
            | (go_at_call 12; refine (HPW.out _ (Kd.R_reads' HR14.out).2.2 hccap).mono ?_; rintro e w15 ⟨v15, rfl, hr15, hb15⟩; have HR15 := Aside0.mk (place (r := r) (b0 := X4) hr15 HRl14.out (Nat.le_of_lt (Nat.lt_of_le_of_lt hX4 HRl14.out))); have HB15 := Aside0.mk (chain HB14.out hb15 HB14.out.size); clear hr15 hb15))
          go_roundg gm
          case measure => omega
          case rel => exact ⟨j + 1, _, by omega, by go_num, ⟨HFT.out.symm⟩, HR15, HB15⟩
        · obtain rfl : j = CL.length := by omega
          have hacc := HACC.out
          rw [List.take_length] at hacc
          have hBK := HST.out.1
          have hlen2 := HST.out.2
          rw [← hacc] at hBK hlen2
          have HBK2 := Aside0.mk hBK
          have HRGz := Aside0.mk (rg_below HRG12.out HBa.out)
          have HBrz := Aside0.mk (chain HBr12.out HBa.out HBr12.out.size)
          have HRlz := Aside0.mk (Nat.lt_of_lt_of_le HL12.out HBa.out.size)
          have HLN : Aside0 ((all.length : Int) + (CL.length : Int) = (acc.length : Int)) := ⟨by omega⟩
          have HCN : Aside0 (acc.length + 32 * cnt1 ≤ 1280) := ⟨by have := HLT.out; omega⟩
          clear hacc hBK hlen2
          go_wp2_with (fail)
          go_roundw
          case rel => exact ⟨_, cnt1, acc, HRGz, HBK2, HRa, by rw [← HLN.out], HCN.out, HBrz, HRlz.out⟩
          case measure => rw [HRGz.out.left_eq, HRG.out.left_eq]; exact HLT.out
theorem back_law (n : Int) (rA : Option Addr) (rn rc : Nat) (raw : List Rc) (w : World) (hrl : raw.length = rn) (hR : Kd.C k42 w rA rn raw) (_hrc : rn ≤ rc) :
    Calls Try.prog 3 #[.int .i64 n, .slice rA rn rc] w fun e w' => e = .returned (.bool true) ∧ Below w.heap.size w w' := by
  subst hrl
  exact back_walk n raw rA rc w hR
end Go.Proofs.Ytpmipllohiiocaa.tr
namespace Go.Proofs.Ytpmipllohiiocaa.lawSiteBack
open Go.ChangeShapes Go.WideShapes Go.ChangeAt Go.RowKit Go.Joins

theorem params_read : ∀ t ∈ Try.f3.params.toList, Try.prog.readableRec t = true ∧ t < Try.prog.types.size := by
  have h : (Try.f3.params.toList.all fun t => Try.prog.readableRec t && decide (t < Try.prog.types.size)) = true := by kernel_rfl
  intro t ht
  have := List.all_eq_true.1 h t ht
  simpa using this
set_option maxRecDepth 100000 in
theorem contract (H : Type) (enc : TypeId × Value → H) (W : World) (base : Nat) (args : Array Value) (ds gs : List (DataW H)) (before : List MemPlace)
    (hval : ∀ (j : Nat) t v, Try.f3.params[j]? = some t → args[j]? = some v → Value.okWide Try.prog W .any base t v)
    (hW : DataW.Whole enc Try.prog Try.f3.params.toList Rows.siteBackSpec.vars false W args.toList ds gs before) :
    Calls Try.prog 3 args W fun e W' => ∃ v, e = .returned v ∧ Rows.siteBackSpec.post enc Try.prog Try.f3 false true false false W args v W' := by
  have hW' := hW
  obtain ⟨p, q, hA0, hV, rfl, hfz, hnd⟩ := hW
  have hA : DataW.TrodAll enc Try.prog W 0 (fun _ => true) true Try.f3.params.toList args.toList ds p := hA0
  rw [Try.params3] at hA hval
  obtain ⟨v0, vs0, d0, ds0, p0, q0, hargs, rfl, rfl, h0, r0⟩ := trodAll_cons hA
  obtain ⟨v1, vs1, d1, ds1, p1, q1, rfl, rfl, rfl, h1, r1⟩ := trodAll_cons r0
  obtain ⟨rfl, rfl, rfl⟩ := trodAll_nil r1
  obtain rfl : args = #[v0, v1] := by cases args; simp_all
  obtain ⟨rfl, rfl⟩ := trodVars_none hV
  obtain ⟨n, rfl, rfl, rfl, wn⟩ := open_int Try.underlying3 (hval 0 3 v0 rfl rfl) h0
  obtain ⟨rawA, rawn, rawc, raw, rfl, rawl, rawC, rawg, rawm⟩ := tr.open_rowsC PTreeBuilds.k42 tr.RcOk Try.underlying22 (by kernel_rfl) (fun m cs y h => tr.rcell_open m cs y h) (hval 1 22 v1 rfl rfl) h1
  clear hA0
  have bn := bs.bd_i64 wn
  refine (tr.back_law n rawA rawn rawc raw W rawl rawC rawm).mono fun e W' ⟨he, hg⟩ => ?_
  subst he
  exact ⟨_, rfl, bs.post_law (tb := 4) hW' hg (by kernel_rfl) params_read rfl rfl Try.underlying4 rfl (fun _ => okWide_bool_mk Try.underlying4 _)⟩

theorem own : ownKnob Try.prog.godebug = none := by kernel_rfl
set_option maxRecDepth 100000 in
theorem lifted (os : Os) (started : os.Started) (H : Type) (enc : TypeId × Value → H) :
    ReturnsInHanded {} Try.checked os 3 .any (Rows.siteBackSpec.pre6 enc Try.prog Try.f3 Rows.siteBackRow.domain false) (Rows.siteBackSpec.post enc Try.prog Try.f3 false true false false) := by
  refine returnsInHanded_of_change_sized (C := Try.checked) own started (by kernel_rfl) Try.func3
    (ChangeSpec.witness6 (enc := enc) (C := Try.checked) false ⟨#[], #[Value.int .i64 0, .slice none 0 0], []⟩ 8 (by kernel_rfl) (by kernel_rfl) (by kernel_rfl) (by kernel_rfl)) ?_
  intro W base args ds gs before hval hW _ _ _
  exact contract H enc W base args ds gs before hval hW

theorem said : Rows.SiteBackSaid :=
  OpenClaim.holds_of_wide 3 Try.f3 rfl rfl rfl rfl rfl rfl rfl ⟨rfl, rfl, rfl, rfl, rfl⟩ rfl rfl rfl rfl rfl (by kernel_rfl) Try.func3 (by kernel_rfl)
    (of_decide_eq_true (by kernel_rfl)) (by unfold Func.isWrapper; first | (rw [if_pos (by decide +kernel)]; kernel_rfl) | (rw [if_neg (by decide +kernel)]; exact ⟨rfl, rfl⟩))
    (fun os started H enc _ => lifted os started H enc)
end Go.Proofs.Ytpmipllohiiocaa.lawSiteBack
