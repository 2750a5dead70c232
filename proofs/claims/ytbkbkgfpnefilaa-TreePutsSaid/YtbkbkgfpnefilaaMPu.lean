/- The walk over tree.Put: what is refused; a cell put in, or out. -/
import Derived.Test.YtbkbkgfpnefilaaMSh
import Derived.Deep.RegionHeld3
import Derived.Test.YtbkbkgfpnefilaaMBd
namespace Go.Proofs.Ytbkbkgfpnefilaa.tr
open Go.RowKit Go.Proofs.Ytbkbkgfpnefilaa.PTreeBuilds Go.Proofs.Ytbkbkgfpnefilaa.lb Go.Proofs.Ytbkbkgfpnefilaa.ar Go.Proofs.Ytbkbkgfpnefilaa.bs

def putQ : Q → Int → Int → Cl → Bool → Q
  | .leaf f, _, _, x, live => .leaf (withV f x.f0.f0 x.f0.f1 x.f1 live).toNat
  | .node a b c d, la, lb, x, live =>
    if x.f0.f0 - la < 2 ^ a.ex then (if x.f0.f1 - lb < 2 ^ a.ex then .node (putQ a la lb x live) b c d else .node a b (putQ c la (lb + 2 ^ a.ex) x live) d)
    else (if x.f0.f1 - lb < 2 ^ a.ex then .node a (putQ b (la + 2 ^ a.ex) lb x live) c d else .node a b c (putQ d (la + 2 ^ a.ex) (lb + 2 ^ a.ex) x live))
theorem putQ_lv : ∀ (q : Q) (_ : q.ok) (la lb : Int) (x : Cl) (live : Bool), (putQ q la lb x live).lv = q.lv
  | .leaf _, _, _, _, _, _ => rfl
  | .node a b c d, hok, la, lb, x, live => by
    obtain ⟨ha, _⟩ := hok
    unfold putQ
    split <;> split
    · show (putQ a la lb x live).lv + 1 = a.lv + 1
      rw [putQ_lv a ha]
    · rfl
    · rfl
    · rfl
theorem putQ_ok : ∀ (q : Q) (_ : q.ok) (la lb : Int) (x : Cl) (live : Bool), (putQ q la lb x live).ok
  | .leaf f, hf, _, _, x, live => by
    have := withV_bd f x.f0.f0 x.f0.f1 x.f1 live ⟨by omega, by have : f < 4294967296 := hf; omega⟩
    show (withV f x.f0.f0 x.f0.f1 x.f1 live).toNat < 4294967296
    omega
  | .node a b c d, hok, la, lb, x, live => by
    obtain ⟨ha, hb, hc, hd, eb, ec, ed⟩ := hok
    unfold putQ
    split <;> split
    · exact ⟨putQ_ok a ha _ _ _ _, hb, hc, hd, by rw [putQ_lv a ha]; exact eb, by rw [putQ_lv a ha]; exact ec, by rw [putQ_lv a ha]; exact ed⟩
    · exact ⟨ha, hb, putQ_ok c hc _ _ _ _, hd, eb, by rw [putQ_lv c hc]; exact ec, ed⟩
    · exact ⟨ha, putQ_ok b hb _ _ _ _, hc, hd, by rw [putQ_lv b hb]; exact eb, ec, ed⟩
    · exact ⟨ha, hb, hc, putQ_ok d hd _ _ _ _, eb, ec, by rw [putQ_lv d hd]; exact ed⟩
theorem pow_mod4 (n : Nat) (h : 2 ≤ n) : (2 : Int) ^ n % 4 = 0 := by
  obtain ⟨m, rfl⟩ : ∃ m, n = m + 1 + 1 := ⟨n - 2, by omega⟩
  rw [two_succ, two_succ]
  omega
theorem ex_ge2 : ∀ q : Q, 2 ≤ q.ex
  | .leaf _ => Nat.le_refl 2
  | .node a _ _ _ => by have := ex_ge2 a; show 2 ≤ a.ex + 1; omega
theorem putQ_has : ∀ (q : Q) (_ : q.ok) (la lb : Int) (x : Cl) (live : Bool), ClOk x → la % 4 = 0 → lb % 4 = 0 → InQ q.ex (x.f0.f0 - la) (x.f0.f1 - lb) x.f1 → ∀ u v t, InQ q.ex u v t →
    (putQ q la lb x live).has u v t = if u = x.f0.f0 - la ∧ v = x.f0.f1 - lb ∧ t = x.f1 then live else q.has u v t
  | .leaf f, hf, la, lb, x, live, hx, ha, hb, hi, u, v, t, hu => by
    have hf' : f < 4294967296 := hf
    have hbd := withV_bd f x.f0.f0 x.f0.f1 x.f1 live ⟨by omega, by omega⟩
    obtain ⟨x0, x1, y0, y1, h0, h1⟩ := hi
    obtain ⟨u0, u1, v0, v1, t0, t1⟩ := hu
    have e4 : (2 : Int) ^ (Q.leaf f).ex = 4 := rfl
    rw [e4] at x1 y1 u1 v1
    have hw := with_bits f x.f0.f0 x.f0.f1 x.f1 ⟨by omega, by omega⟩ hx.a hx.b hx.h live (8 * v + 2 * u + t).toNat (by omega)
    show decide (bitv (((withV f x.f0.f0 x.f0.f1 x.f1 live).toNat : Nat) : Int) (8 * v + 2 * u + t).toNat = 1) = _
    rw [Int.toNat_of_nonneg hbd.1, hw]
    have hiff : (8 * v + 2 * u + t).toNat = bitNo x.f0.f0 x.f0.f1 x.f1 ↔ u = x.f0.f0 - la ∧ v = x.f0.f1 - lb ∧ t = x.f1 := by
      unfold bitNo
      omega
    by_cases he : u = x.f0.f0 - la ∧ v = x.f0.f1 - lb ∧ t = x.f1
    · rw [if_pos (hiff.2 he), if_pos he]
      cases live <;> rfl
    · rw [if_neg (fun h => he (hiff.1 h)), if_neg he]
      rfl
  | .node a b c d, hok, la, lb, x, live, hx, hla, hlb, hi, u, v, t, hu => by
    obtain ⟨ha, hb, hc, hd, eb, ec, ed⟩ := hok
    have hm := pow_mod4 a.ex (ex_ge2 a)
    have hbx := ex_same eb
    have hcx := ex_same ec
    have hdx := ex_same ed
    have hpx := ex_same (putQ_lv a ha la lb x live)
    have hhas : ∀ (a b c d : Q) u v t, (Q.node a b c d).has u v t = if u < 2 ^ a.ex then (if v < 2 ^ a.ex then a.has u v t else c.has u (v - 2 ^ a.ex) t) else (if v < 2 ^ a.ex then b.has (u - 2 ^ a.ex) v t else d.has (u - 2 ^ a.ex) (v - 2 ^ a.ex) t) := fun _ _ _ _ _ _ _ => rfl
    have hex : (Q.node a b c d).ex = a.ex + 1 := rfl
    rw [hex] at hi hu
    have Ha := putQ_has a ha la lb x live hx hla hlb
    have Hb := putQ_has b hb (la + 2 ^ a.ex) lb x live hx (by omega) hlb
    have Hc := putQ_has c hc la (lb + 2 ^ a.ex) x live hx hla (by omega)
    have Hd := putQ_has d hd (la + 2 ^ a.ex) (lb + 2 ^ a.ex) x live hx (by omega) (by omega)
    rw [hbx] at Hb
    rw [hcx] at Hc
    rw [hdx] at Hd
    have iq : ∀ n u v t, InQ n u v t ↔ 0 ≤ u ∧ u < 2 ^ n ∧ 0 ≤ v ∧ v < 2 ^ n ∧ 0 ≤ t ∧ t < 2 := fun n u v t => ⟨fun ⟨a, b, c, d, e, f⟩ => ⟨a, b, c, d, e, f⟩, fun ⟨a, b, c, d, e, f⟩ => ⟨a, b, c, d, e, f⟩⟩
    rw [iq, two_succ] at hi hu
    simp only [iq] at Ha Hb Hc Hd
    unfold putQ
    obtain ⟨H, hH⟩ : ∃ H, (2 : Int) ^ a.ex = H := ⟨_, rfl⟩
    rw [hH] at hi hu Ha Hb Hc Hd hm ⊢
    by_cases h1 : x.f0.f0 - la < H
    · by_cases h2 : x.f0.f1 - lb < H
      · rw [if_pos h1, if_pos h2, hhas, hhas, hpx, hH]
        by_cases g1 : u < H
        · by_cases g2 : v < H
          · rw [if_pos g1, if_pos g2, if_pos g1, if_pos g2]
            exact Ha (by omega) u v t (by omega)
          · rw [if_pos g1, if_neg g2, if_pos g1, if_neg g2, if_neg (by omega)]
        · rw [if_neg (show ¬ (u = x.f0.f0 - la ∧ v = x.f0.f1 - lb ∧ t = x.f1) by omega), if_neg g1, if_neg g1]
      · rw [if_pos h1, if_neg h2, hhas, hhas, hH]
        by_cases g1 : u < H
        · by_cases g2 : v < H
          · rw [if_pos g1, if_pos g2, if_pos g1, if_pos g2, if_neg (by omega)]
          · rw [if_pos g1, if_neg g2, if_pos g1, if_neg g2, Hc (by omega) u (v - H) t (by omega)]
            by_cases e : u = x.f0.f0 - la ∧ v = x.f0.f1 - lb ∧ t = x.f1
            · rw [if_pos e, if_pos (by omega)]
            · rw [if_neg e, if_neg (by omega)]
        · rw [if_neg (show ¬ (u = x.f0.f0 - la ∧ v = x.f0.f1 - lb ∧ t = x.f1) by omega), if_neg g1, if_neg g1]
    · by_cases h2 : x.f0.f1 - lb < H
      · rw [if_neg h1, if_pos h2, hhas, hhas, hH]
        by_cases g1 : u < H
        · rw [if_neg (show ¬ (u = x.f0.f0 - la ∧ v = x.f0.f1 - lb ∧ t = x.f1) by omega), if_pos g1, if_pos g1]
        · by_cases g2 : v < H
          · rw [if_neg g1, if_pos g2, if_neg g1, if_pos g2, Hb (by omega) (u - H) v t (by omega)]
            by_cases e : u = x.f0.f0 - la ∧ v = x.f0.f1 - lb ∧ t = x.f1
            · rw [if_pos e, if_pos (by omega)]
            · rw [if_neg e, if_neg (by omega)]
          · rw [if_neg g1, if_neg g2, if_neg g1, if_neg g2, if_neg (by omega)]
      · rw [if_neg h1, if_neg h2, hhas, hhas, hH]
        by_cases g1 : u < H
        · rw [if_neg (show ¬ (u = x.f0.f0 - la ∧ v = x.f0.f1 - lb ∧ t = x.f1) by omega), if_pos g1, if_pos g1]
        · by_cases g2 : v < H
          · rw [if_neg g1, if_pos g2, if_neg g1, if_pos g2, if_neg (by omega)]
          · rw [if_neg g1, if_neg g2, if_neg g1, if_neg g2, Hd (by omega) (u - H) (v - H) t (by omega)]
            by_cases e : u = x.f0.f0 - la ∧ v = x.f0.f1 - lb ∧ t = x.f1
            · rw [if_pos e, if_pos (by omega)]
            · rw [if_neg e, if_neg (by omega)]
end Go.Proofs.Ytbkbkgfpnefilaa.tr
namespace Go.Proofs.Ytbkbkgfpnefilaa.tr
open Go.RowKit Go.Proofs.Ytbkbkgfpnefilaa.PTreeBuilds Go.Proofs.YtbkbkgfpnefilaaW.PrintWords Go.Proofs.YtbkbkgfpnefilaaW.PrintLast Go.Proofs.YtbkbkgfpnefilaaW.PrintMore Go.Proofs.Ytbkbkgfpnefilaa.bs Go.ChangeShapes Go.Proofs.Ytbkbkgfpnefilaa.lb Go.Proofs.Ytbkbkgfpnefilaa.ar Go.Maps

section
variable {w0 w : World} {F : Nat → Prop} {p : Nat} {nodes : List Nd} {empty : List Int} {most : Int}
set_option maxRecDepth 100000 in
set_option maxHeartbeats 4000000 in
theorem put_leaf (hT : Tr w0 w F p nodes empty most) (hN : nodes.length < 536870800) (f i : Nat) (hR : Rep nodes (.leaf f) i) (la lb A B h : Int) (live : Bool) (hh : 0 ≤ h ∧ h < 2) :
    Calls Try.prog 73 #[.pointer (some ⟨p, 0, none⟩), .int .u32 i, .int .i64 2, .agg #[.int .i64 la, .int .i64 lb], .agg #[.int .i64 A, .int .i64 B, .int .i64 h], .bool live] w fun e w' => Gets w0 w F p nodes empty most (.leaf (withV f A B h live).toNat) 1 (∃ i, Rep nodes (.leaf (withV f A B h live).toNat) i) e w' := by
  have hb := below_alloc (below_alloc (Below.refl w.heap.size w) (.cells #[.int .i64 la, .int .i64 lb] 23)) (.cells #[.int .i64 A, .int .i64 B, .int .i64 h] 57)
  have hkc := blk_new (w.alloc (.cells #[.int .i64 la, .int .i64 lb] 23)) (.cells #[.int .i64 A, .int .i64 B, .int .i64 h] 57)
  have l0 := blk_cell hkc 0
  have l1 := blk_cell hkc 1
  have l2 := blk_cell hkc 2
  simp only [List.getElem?_toArray, List.getElem?_cons_zero, List.getElem?_cons_succ, World.size_alloc] at l0 l1 l2
  have hsz := hT.hold.ar.size
  have hil := hR.lt
  have hf : f < 4294967296 := hR.2
  have hbits := fun (W : World) (hbW : Below w.heap.size w W) => bits_walk F p nodes empty most W (hT.hold.ar.below hbW) i (by omega) (by omega)
  rw [bitsAt_some (x := ⟨leafKey f, (popN 32 f : Nat)⟩) (by rw [Int.toNat_natCast]; exact hR.1), show (leafKey (f : Int)).bits = (f : Int) from rfl] at hbits
  have hwith := fun (W : World) => with_walk (f : Int) A B h live W ⟨by omega, by omega⟩ hh
  have hbd := withV_bd (f : Int) A B h live ⟨by omega, by omega⟩
  have hleaf := fun (W : World) (hbW : Below w.heap.size w W) => tr_leaf (hT.below hbW) (withV f A B h live).toNat (by omega) (by omega)
  have hnf : ∀ k, F k → k < w.heap.size := hT.hold.hi
  rw [Int.toNat_of_nonneg hbd.1] at hleaf
  generalize hg : withV (f : Int) A B h live = gv at *
  have HBITS := Aside0.mk hbits
  have HWITH := Aside0.mk hwith
  have HLEAF := Aside0.mk hleaf
  have HB := Aside0.mk hb
  have HNF := Aside0.mk hnf
  clear hb hkc hbits hwith hbd hleaf hnf hg hsz hil hf hR hT hN hh
  go_enter Try.func73, Try.ntmps73
  go_upto_region 2 with (fail)
  generalize (w.alloc (.cells #[.int .i64 la, .int .i64 lb] 23)).alloc (.cells #[.int .i64 A, .int .i64 B, .int .i64 h] 57) = w1 at *
  obtain ⟨C, hC⟩ : ∃ C, w.heap.size + 1 = C := ⟨_, rfl⟩
  have HC := Aside0.mk hC
  rw [hC] at l0 l1 l2
  simp only [hC]
  clear hC
  have HCF := Aside0.mk (show ¬ F C from fun hf => by have := HNF.out C hf; have := HC.out; omega)
  have HL0 := Aside0.mk (show w1.drew.cell? ⟨C, 0, none⟩ = some (.int .i64 A) from l0)
  have HL1 := Aside0.mk (show w1.drew.cell? ⟨C, 1, none⟩ = some (.int .i64 B) from l1)
  have HL2 := Aside0.mk (show w1.drew.cell? ⟨C, 2, none⟩ = some (.int .i64 h) from l2)
  have HBD := Aside0.mk (show Below w.heap.size w w1.drew from below_drew HB.out)
  go_region_held3 (fun w' => w'.cell? ⟨C, 0, none⟩ = some (.int .i64 A) ∧ w'.cell? ⟨C, 1, none⟩ = some (.int .i64 B) ∧ w'.cell? ⟨C, 2, none⟩ = some (.int .i64 h)) (refine ⟨?_, ?_, ?_⟩ <;> (first | (with_reducible assumption) | (with_reducible refine pw_cell_below ?_ l0; (repeat' (first | (with_reducible exact Below.refl _ _) | (with_reducible assumption) | (with_reducible refine Below.alloc ?_ ?_ _) | (with_reducible refine Below.drew ?_) | (with_reducible refine Below.setCell ?_ ?_ _) | (with_reducible refine chain ?_ (by assumption) ?_) | go_size)); done) | (with_reducible refine pw_cell_below ?_ l1; (repeat' (first | (with_reducible exact Below.refl _ _) | (with_reducible assumption) | (with_reducible refine Below.alloc ?_ ?_ _) | (with_reducible refine Below.drew ?_) | (with_reducible refine Below.setCell ?_ ?_ _) | (with_reducible refine chain ?_ (by assumption) ?_) | go_size)); done) | (with_reducible refine pw_cell_below ?_ l2; (repeat' (first | (with_reducible exact Below.refl _ _) | (with_reducible assumption) | (with_reducible refine Below.alloc ?_ ?_ _) | (with_reducible refine Below.drew ?_) | (with_reducible refine Below.setCell ?_ ?_ _) | (with_reducible refine chain ?_ (by assumption) ?_) | go_size)); done)))
    (first | (go_at_call 78; with_reducible refine (HBITS.out _ HBD.out).mono ?_; rintro e w5 ⟨rfl, rfl⟩) | (go_at_call 100; with_reducible refine (HWITH.out _).mono ?_; rintro e w6 ⟨rfl, hb6⟩; have HB6 := Aside0.mk (chain HBD.out hb6 HBD.out.size); have l0 := pw_cell_below hb6 HL0.out; have l1 := pw_cell_below hb6 HL1.out; have l2 := pw_cell_below hb6 HL2.out; clear hb6) | (go_at_call 80; with_reducible refine (HLEAF.out _ HB6.out).mono ?_; intro e w7 hg; obtain ⟨r, code, rfl, hg2⟩ := Gets.same hg; obtain ⟨F', nodes', empty', r', code', _, hs7, _⟩ := Gets.ex hg2; have bC := hs7.keeps.block C (World.block_lt_of_cell? _ _ l0) HCF.out; have l0' := (World.cell?_of_block (a := ⟨C, 0, none⟩) bC).trans l0; have l1' := (World.cell?_of_block (a := ⟨C, 1, none⟩) bC).trans l1; have l2' := (World.cell?_of_block (a := ⟨C, 2, none⟩) bC).trans l2; have HG := Aside0.mk hg2; clear hg hg2 hs7 bC))
  all_goals (
    go_wp2_with (fail)
    refine bodyPost_ret (v := .tuple #[.int .u32 r, errOf code]) (by simp [results, Try.results73, go_sem]) rfl ?_
    exact HG.out.from HB6.out)
end
end Go.Proofs.Ytbkbkgfpnefilaa.tr
namespace Go.Proofs.Ytbkbkgfpnefilaa.tr
open Go.RowKit Go.Proofs.Ytbkbkgfpnefilaa.PTreeBuilds Go.Proofs.YtbkbkgfpnefilaaW.PrintWords Go.Proofs.YtbkbkgfpnefilaaW.PrintLast Go.Proofs.YtbkbkgfpnefilaaW.PrintMore Go.Proofs.Ytbkbkgfpnefilaa.bs Go.ChangeShapes Go.Proofs.Ytbkbkgfpnefilaa.lb Go.Proofs.Ytbkbkgfpnefilaa.ar Go.Maps

/-- the kid's place, its least point; the square, kid by kid -/
theorem quart_at (H la lb A B : Int) : ∃ j : Nat, j < 4 ∧ quart H la lb A B = ((j : Int), lowA la H j, lowB lb H j) ∧ (j = 0 ↔ A - la < H ∧ B - lb < H) ∧ (j = 1 ↔ ¬ A - la < H ∧ B - lb < H) ∧ (j = 2 ↔ A - la < H ∧ ¬ B - lb < H) := by
  unfold quart
  by_cases h1 : la + H ≤ A <;> by_cases h2 : lb + H ≤ B
  · exact ⟨3, by omega, by rw [if_pos h1, if_pos h2]; simp [lowA, lowB], by omega, by omega, by omega⟩
  · exact ⟨1, by omega, by rw [if_pos h1, if_neg h2]; simp [lowA, lowB], by omega, by omega, by omega⟩
  · exact ⟨2, by omega, by rw [if_neg h1, if_pos h2]; simp [lowA, lowB], by omega, by omega, by omega⟩
  · exact ⟨0, by omega, by rw [if_neg h1, if_neg h2]; simp [lowA, lowB], by omega, by omega, by omega⟩
def kidPut (q : Q) (la lb : Int) (x : Cl) (live : Bool) (j t : Nat) : Q := if t = j then putQ (Q.kid q j) (lowA la (2 ^ (Q.kid q 0).ex) j) (lowB lb (2 ^ (Q.kid q 0).ex) j) x live else Q.kid q t
theorem putQ_kids (a b c d : Q) (la lb : Int) (x : Cl) (live : Bool) (j : Nat) (hj : j < 4) (h0 : j = 0 ↔ x.f0.f0 - la < 2 ^ a.ex ∧ x.f0.f1 - lb < 2 ^ a.ex) (h1 : j = 1 ↔ ¬ x.f0.f0 - la < 2 ^ a.ex ∧ x.f0.f1 - lb < 2 ^ a.ex) (h2 : j = 2 ↔ x.f0.f0 - la < 2 ^ a.ex ∧ ¬ x.f0.f1 - lb < 2 ^ a.ex) :
    putQ (.node a b c d) la lb x live = .node (kidPut (.node a b c d) la lb x live j 0) (kidPut (.node a b c d) la lb x live j 1) (kidPut (.node a b c d) la lb x live j 2) (kidPut (.node a b c d) la lb x live j 3) := by
  have h4 : j = 0 ∨ j = 1 ∨ j = 2 ∨ j = 3 := by omega
  have hk0 : Q.kid (Q.node a b c d) 0 = a := rfl
  unfold putQ
  rcases h4 with rfl | rfl | rfl | rfl
  · have := h0.1 rfl
    rw [if_pos this.1, if_pos this.2]
    simp [kidPut, lowA, lowB, Q.kid]
  · have := h1.1 rfl
    rw [if_neg this.1, if_pos this.2]
    simp [kidPut, lowA, lowB, Q.kid]
  · have := h2.1 rfl
    rw [if_pos this.1, if_neg this.2]
    simp [kidPut, lowA, lowB, Q.kid]
  · have e1 : ¬ x.f0.f0 - la < 2 ^ a.ex := fun h => by
      by_cases h' : x.f0.f1 - lb < 2 ^ a.ex
      · exact absurd (h0.2 ⟨h, h'⟩) (by omega)
      · exact absurd (h2.2 ⟨h, h'⟩) (by omega)
    have e2 : ¬ x.f0.f1 - lb < 2 ^ a.ex := fun h => absurd (h1.2 ⟨e1, h⟩) (by omega)
    rw [if_neg e1, if_neg e2]
    simp [kidPut, lowA, lowB, Q.kid]
def hiddenU (t : TypeId) (x : Operand) : Op := .load t x
attribute [local go_sem] hiddenU
/-- what put does with a kid -/
def PutOk (w0 : World) (p : Nat) (most : Int) (x : Cl) (live : Bool) (q : Q) : Prop :=
  ∀ (F : Nat → Prop) (nodes : List Nd) (empty : List Int) (i : Nat) (la lb : Int) (w : World), Tr w0 w F p nodes empty most → nodes.length + q.ex < 536870800 → Rep nodes q i → q.ex ≤ 44 → (-8796093022208 ≤ la ∧ la + 2 ^ q.ex ≤ 8796093022208) → (-8796093022208 ≤ lb ∧ lb + 2 ^ q.ex ≤ 8796093022208) →
    Calls Try.prog 73 #[.pointer (some ⟨p, 0, none⟩), .int .u32 i, .int .i64 q.lv, .agg #[.int .i64 la, .int .i64 lb], .agg #[.int .i64 x.f0.f0, .int .i64 x.f0.f1, .int .i64 x.f1], .bool live] w fun e w' => Gets w0 w F p nodes empty most (putQ q la lb x live) (q.ex - 1) False e w'
section
variable {w0 w : World} {F : Nat → Prop} {p : Nat} {nodes : List Nd} {empty : List Int} {most : Int}
set_option maxRecDepth 100000 in
set_option maxHeartbeats 4000000 in
theorem put_node (hT : Tr w0 w F p nodes empty most) (x : Cl) (live : Bool) (a b c d : Q) (ih : ∀ j, j < 4 → PutOk w0 p most x live (Q.kid (.node a b c d) j)) (i : Nat) (la lb : Int) (hN : nodes.length + (Q.node a b c d).ex < 536870800) (hR : Rep nodes (.node a b c d) i) (hex : (Q.node a b c d).ex ≤ 44) (hla : -8796093022208 ≤ la ∧ la + 2 ^ (Q.node a b c d).ex ≤ 8796093022208) (hlb : -8796093022208 ≤ lb ∧ lb + 2 ^ (Q.node a b c d).ex ≤ 8796093022208) :
    Calls Try.prog 73 #[.pointer (some ⟨p, 0, none⟩), .int .u32 i, .int .i64 (Q.node a b c d).lv, .agg #[.int .i64 la, .int .i64 lb], .agg #[.int .i64 x.f0.f0, .int .i64 x.f0.f1, .int .i64 x.f1], .bool live] w fun e w' => Gets w0 w F p nodes empty most (putQ (.node a b c d) la lb x live) ((Q.node a b c d).ex - 1) False e w' := by
  obtain ⟨⟨A, B⟩, h⟩ := x
  have hb := below_alloc (below_alloc (Below.refl w.heap.size w) (.cells #[.int .i64 la, .int .i64 lb] 23)) (.cells #[.int .i64 A, .int .i64 B, .int .i64 h] 57)
  have hkl := blk_below (blk_new w (.cells #[.int .i64 la, .int .i64 lb] 23)) (below_alloc (Below.refl _ _) (.cells #[.int .i64 A, .int .i64 B, .int .i64 h] 57))
  have hkc := blk_new (w.alloc (.cells #[.int .i64 la, .int .i64 lb] 23)) (.cells #[.int .i64 A, .int .i64 B, .int .i64 h] 57)
  rw [World.size_alloc] at hkc
  have ha2 := a.lv_ge
  have hal := a.lv_ex
  have hlv : (Q.node a b c d).lv = (a.ex : Int) + 1 := by show a.lv + 1 = _; rw [hal]
  have he1 : (Q.node a b c d).ex = a.ex + 1 := rfl
  have e2 : (2 : Int) ^ (a.ex + 1) = 2 * 2 ^ a.ex := two_succ a.ex
  rw [he1, e2] at hla hlb
  rw [he1] at hex hN ⊢
  rw [hlv]
  have hil := hR.lt
  have hsz := hT.hold.ar.size
  obtain ⟨k0, k1, k2, k3, hkey, hkid⟩ := rep_kid hR
  have hkd := fun (W : World) (hbW : Below w.heap.size w W) => kids_walk F p nodes empty most W (hT.hold.ar.below hbW) i (by omega) (by omega)
  rw [hkey] at hkd
  unfold kidsVal at hkd
  dsimp only at hkd
  have hpw := pw_bd (show a.ex ≤ 44 by omega)
  have hqw := fun (W : World) => quarter_walk a.ex (by omega) la lb A B (by unfold pw at hpw; omega) (by unfold pw at hpw; omega) W
  obtain ⟨j, hj, hqt, g0, g1, g2⟩ := quart_at (pw a.ex) la lb A B
  rw [hqt] at hqw
  unfold pw at hpw
  have hpe : pw a.ex = 2 ^ a.ex := rfl
  rw [hpe] at hqw g0 g1 g2
  rw [putQ_kids a b c d la lb ⟨⟨A, B⟩, h⟩ live j hj g0 g1 g2]
  have hkj : (Q.kid (.node a b c d) j).ex = a.ex := by have h1 := (Q.kid (.node a b c d) j).lv_ex; have h2 := a.lv_ex; rw [(hkid j hj).2] at h1; omega
  have hklv : (Q.kid (.node a b c d) j).lv = (a.ex : Int) := by rw [(hkid j hj).2, a.lv_ex]
  have hlo : (-8796093022208 ≤ lowA la (2 ^ a.ex) j ∧ lowA la (2 ^ a.ex) j + 2 ^ a.ex ≤ 8796093022208) ∧ (-8796093022208 ≤ lowB lb (2 ^ a.ex) j ∧ lowB lb (2 ^ a.ex) j + 2 ^ a.ex ≤ 8796093022208) := by
    generalize (2 : Int) ^ a.ex = H at *
    have h5 : j = 0 ∨ j = 1 ∨ j = 2 ∨ j = 3 := by omega
    rcases h5 with rfl | rfl | rfl | rfl <;> simp [lowA, lowB] <;> omega
  have hrec := fun (w' : World) (hb : Below w.heap.size w w') => ih j hj F nodes empty ([k0, k1, k2, k3].getD j 0) (lowA la (2 ^ a.ex) j) (lowB lb (2 ^ a.ex) j) w' (hT.below hb) (by rw [hkj]; omega) (hkid j hj).1 (by rw [hkj]; omega) (by rw [hkj]; exact hlo.1) (by rw [hkj]; exact hlo.2)
  rw [hklv, hkj] at hrec
  have hne2 : (((a.ex : Int) + 1) == 2) = false := by rw [beq_eq_false_iff_ne]; omega
  have hnf : ∀ k, F k → k < w.heap.size := hT.hold.hi
  have HREC := Aside0.mk hrec
  have HKD := Aside0.mk hkd
  have HQW := Aside0.mk hqw
  have HB := Aside0.mk hb
  have HKL := Aside0.mk hkl
  have HKC := Aside0.mk hkc
  have HNF := Aside0.mk hnf
  have HKID := Aside0.mk hkid
  have HT := Aside0.mk hT
  have HNN := Aside0.mk hN
  have HJ := Aside0.mk hj
  have HX := Aside0.mk hex
  dsimp only
  clear hrec hkd hqw hb hkc hnf hkid hlo hkj g0 g1 g2 hqt hpe hT hR hN hkey ih hla hlb hex hpw
  go_enter Try.func73, Try.ntmps73
  go_upto_region 3 with (fail)
  generalize (w.alloc (.cells #[.int .i64 la, .int .i64 lb] 23)).alloc (.cells #[.int .i64 A, .int .i64 B, .int .i64 h] 57) = w1 at *
  obtain ⟨L0, hL⟩ : ∃ L0, w.heap.size = L0 := ⟨_, rfl⟩
  obtain ⟨C, hC⟩ : ∃ C, L0 + 1 = C := ⟨_, rfl⟩
  have HLC := Aside0.mk (And.intro hL hC)
  rw [hL] at HKL HKC
  rw [hC] at HKC
  simp only [hL, hC]
  clear hL hC hkl hklv
  have l0 := blk_cell HKL.out 0
  have l1 := blk_cell HKL.out 1
  have c0 := blk_cell HKC.out 0
  have c1 := blk_cell HKC.out 1
  have c2 := blk_cell HKC.out 2
  simp only [List.getElem?_toArray, List.getElem?_cons_zero, List.getElem?_cons_succ] at l0 l1 c0 c1 c2
  obtain ⟨nA, hnA⟩ : ∃ x, lowA la (2 ^ a.ex) j = x := ⟨_, rfl⟩
  obtain ⟨nB, hnB⟩ : ∃ x, lowB lb (2 ^ a.ex) j = x := ⟨_, rfl⟩
  simp only [hnA, hnB] at HQW HREC
  have HNL := Aside0.mk (And.intro hnA hnB)
  clear hnA hnB
  go_upto_region 4 with (go_at_call 76; refine (HQW.out _).mono ?_; rintro e w2 ⟨rfl, hb2⟩; have HB2 := Aside0.mk hb2; clear hb2)
  have hb3 := below_alloc (chain HB.out HB2.out HB.out.size) (.cells #[.int .i64 nA, .int .i64 nB] 23)
  have HKN := Aside0.mk (blk_new w2 (.cells #[.int .i64 nA, .int .i64 nB] 23))
  have HKC3 := Aside0.mk (blk_below (blk_below HKC.out HB2.out) (below_alloc (Below.refl _ _) (.cells #[.int .i64 nA, .int .i64 nB] 23)))
  have HB3 := Aside0.mk hb3
  have HCN := Aside0.mk (show C < w2.heap.size from blk_lt (blk_below HKC.out HB2.out))
  clear hb3 l0 l1 c0 c1 c2 HKL HKC HB2 HQW
  generalize w2.alloc (.cells #[.int .i64 nA, .int .i64 nB] 23) = w3 at *
  obtain ⟨NX, hNX⟩ : ∃ x, w2.heap.size = x := ⟨_, rfl⟩
  rw [hNX] at HKN HCN
  simp only [hNX]
  clear hNX
  go_upto_region 6 with (go_at_call 77; refine (HKD.out _ HB3.out).mono ?_; rintro e w4 ⟨rfl, hb4⟩; have HB4 := Aside0.mk hb4; clear hb4)
  have hb5 := below_alloc (chain HB3.out HB4.out HB3.out.size) (.cells (nodC [k0, k1, k2, k3]) 129)
  have HKK := Aside0.mk (show (w4.alloc (.cells (nodC [k0, k1, k2, k3]) 129)).heap[w4.heap.size]? = some (.cells (nodC [k0, k1, k2, k3]) 129 (0, 0)) from blk_new w4 _)
  have HKN5 := Aside0.mk (blk_below (blk_below HKN.out HB4.out) (below_alloc (Below.refl _ _) (.cells (nodC [k0, k1, k2, k3]) 129)))
  have HKC5 := Aside0.mk (blk_below (blk_below HKC3.out HB4.out) (below_alloc (Below.refl _ _) (.cells (nodC [k0, k1, k2, k3]) 129)))
  have HB5 := Aside0.mk hb5
  have HNK := Aside0.mk (show NX < w4.heap.size from blk_lt (blk_below HKN.out HB4.out))
  have HWK := Aside0.mk (show w.heap.size ≤ w4.heap.size from (chain HB3.out HB4.out HB3.out.size).size)
  clear hb5 HKN HKC3 HB3 HB4 HKD
  have hnd : #[Value.int .u32 (k0 : Int), .int .u32 (k1 : Int), .int .u32 (k2 : Int), .int .u32 (k3 : Int)] = nodC [k0, k1, k2, k3] := rfl
  rw [hnd]
  generalize w4.alloc (.cells (nodC [k0, k1, k2, k3]) 129) = w5 at *
  obtain ⟨KB, hKB⟩ : ∃ x, w4.heap.size = x := ⟨_, rfl⟩
  rw [hKB] at HKK HNK HWK
  simp only [hKB]
  clear hKB hnd
  have hrw := HREC.out w5.drew (below_drew HB5.out)
  have c9 := (blk_cell HKK.out j).trans (nodC_get [k0, k1, k2, k3] j HJ.out)
  have f9 := blk_frozen HKK.out j
  generalize [k0, k1, k2, k3].getD j 0 = kj at *
  have HRW := Aside0.mk hrw
  have n0 := blk_cell HKN5.out 0
  have n1 := blk_cell HKN5.out 1
  have c0 := blk_cell HKC5.out 0
  have c1 := blk_cell HKC5.out 1
  have c2 := blk_cell HKC5.out 2
  simp only [List.getElem?_toArray, List.getElem?_cons_zero, List.getElem?_cons_succ] at n0 n1 c0 c1 c2
  have hnK : NX ≠ KB := by have := HNK.out; omega
  have hcK : C ≠ KB := by have := HNK.out; have := HCN.out; omega
  have hj0 : (0 : Int) ≤ (j : Int) := by omega
  have hj4 : (j : Int) < 4 := by have := HJ.out; omega
  have HWR := Aside0.mk (show IntKind.i64.wrap (a.ex : Int) = (a.ex : Int) by rw [IntKind.wrap_i64]; have := HX.out; omega)
  have HBDR := Aside0.mk (show Below w5.heap.size w5 w5.drew from below_drew (Below.refl _ _))
  have HF5 : Aside0 (∀ k, w.heap.size ≤ k → k < w5.drew.heap.size → ¬ F k) := ⟨fun k h1 _ hf => by have := HNF.out k hf; omega⟩
  have HFK := Aside0.mk (show ¬ F KB from fun hf => by have := HNF.out KB hf; have := HWK.out; omega)
  have HFC := Aside0.mk (show ¬ F C from fun hf => by have := HNF.out C hf; have := HLC.out; omega)
  have HFN := Aside0.mk (show ¬ F NX from fun hf => by have := HNF.out NX hf; have := HCN.out; have := HLC.out; omega)
  have HKK5 := Aside0.mk (show w5.drew.heap[KB]? = _ from HKK.out)
  have HKN6 := Aside0.mk (show w5.drew.heap[NX]? = _ from HKN5.out)
  have HKC6 := Aside0.mk (show w5.drew.heap[C]? = _ from HKC5.out)
  have HCE := Aside0.mk (And.intro n0 (And.intro n1 (And.intro c0 (And.intro c1 (And.intro c2 (And.intro c9 f9))))))
  clear hrw HREC
  rw [show (Op.load 38 (Operand.tmp 45)) = hiddenU 38 (Operand.tmp 45) from rfl]
  go_region_held3 (fun w' => w'.cell? ⟨NX, 0, none⟩ = some (.int .i64 nA) ∧ w'.cell? ⟨NX, 1, none⟩ = some (.int .i64 nB) ∧ w'.cell? ⟨C, 0, none⟩ = some (.int .i64 A) ∧ w'.cell? ⟨C, 1, none⟩ = some (.int .i64 B) ∧ w'.cell? ⟨C, 2, none⟩ = some (.int .i64 h)) (refine ⟨?_, ?_, ?_, ?_, ?_⟩ <;> (first | (with_reducible assumption) | (with_reducible refine pw_cell_below ?_ n0; (repeat' (first | (with_reducible exact Below.refl _ _) | (with_reducible assumption) | (with_reducible refine Below.alloc ?_ ?_ _) | (with_reducible refine Below.drew ?_) | (with_reducible refine Below.setCell ?_ ?_ _) | (with_reducible refine chain ?_ (by assumption) ?_) | go_size)); done) | (with_reducible refine pw_cell_below ?_ n1; (repeat' (first | (with_reducible exact Below.refl _ _) | (with_reducible assumption) | (with_reducible refine Below.alloc ?_ ?_ _) | (with_reducible refine Below.drew ?_) | (with_reducible refine Below.setCell ?_ ?_ _) | (with_reducible refine chain ?_ (by assumption) ?_) | go_size)); done) | (with_reducible refine pw_cell_below ?_ c0; (repeat' (first | (with_reducible exact Below.refl _ _) | (with_reducible assumption) | (with_reducible refine Below.alloc ?_ ?_ _) | (with_reducible refine Below.drew ?_) | (with_reducible refine Below.setCell ?_ ?_ _) | (with_reducible refine chain ?_ (by assumption) ?_) | go_size)); done) | (with_reducible refine pw_cell_below ?_ c1; (repeat' (first | (with_reducible exact Below.refl _ _) | (with_reducible assumption) | (with_reducible refine Below.alloc ?_ ?_ _) | (with_reducible refine Below.drew ?_) | (with_reducible refine Below.setCell ?_ ?_ _) | (with_reducible refine chain ?_ (by assumption) ?_) | go_size)); done) | (with_reducible refine pw_cell_below ?_ c2; (repeat' (first | (with_reducible exact Below.refl _ _) | (with_reducible assumption) | (with_reducible refine Below.alloc ?_ ?_ _) | (with_reducible refine Below.drew ?_) | (with_reducible refine Below.setCell ?_ ?_ _) | (with_reducible refine chain ?_ (by assumption) ?_) | go_size)); done) | (with_reducible refine Go.Proofs.Ytbkbkgfpnefilaa.ar.cell_far hnK ?_; with_reducible assumption) | (with_reducible refine Go.Proofs.Ytbkbkgfpnefilaa.ar.cell_far hcK ?_; with_reducible assumption)))
    (first | (go_at_call 73; rw [HWR.out]; with_reducible refine HRW.out.mono ?_; intro e w6 hp; obtain ⟨F6, nodes6, empty6, r, code, rfl, hs6, hl6, hr6, _⟩ := Gets.ex hp; have HS6 := Aside0.mk (hs6.from HBDR.out); have bK := HS6.out.keeps.block KB (blk_lt HKK.out) HFK.out; have bN := HS6.out.keeps.block NX (blk_lt HKN5.out) HFN.out; have bC := HS6.out.keeps.block C (blk_lt HKC5.out) HFC.out; have n0' := (World.cell?_of_block (a := ⟨NX, 0, none⟩) bN).trans n0; have n1' := (World.cell?_of_block (a := ⟨NX, 1, none⟩) bN).trans n1; have c0' := (World.cell?_of_block (a := ⟨C, 0, none⟩) bC).trans c0; have c1' := (World.cell?_of_block (a := ⟨C, 1, none⟩) bC).trans c1; have c2' := (World.cell?_of_block (a := ⟨C, 2, none⟩) bC).trans c2; have c9' := (World.cell?_of_block (a := ⟨KB, j, none⟩) bK).trans c9; have f9' := (World.frozen?_of_block (a := ⟨KB, j, none⟩) bK).trans f9; have HL6 := Aside0.mk hl6; have HR6 := Aside0.mk hr6; have HK6 := Aside0.mk (bK.trans HKK.out); clear hp hs6 hl6 hr6 bK bN bC))
  all_goals (
    have HFK6 := Aside0.mk (HS6.out.notF (blk_lt HKK.out) HFK.out)
    have HST := Aside0.mk (show Ste w0 w (w6.setCell ⟨KB, j, none⟩ (.int .u32 r)) F F6 p nodes nodes6 empty empty6 most from ((HS6.out.from HB5.out)).past (G := fun k => k = KB) ((Keeps.refl (fun k => k = KB) w6).setCell (p := ⟨KB, j, none⟩) (.inl rfl) _) (fun k hk e => HFK6.out (e ▸ hk)) (fun k e => by have := HWK.out; omega))
    rcases HR6.out with ⟨rfl, jn, rfl, hrep⟩ | ⟨rfl, rfl, hmost⟩
    · have hkq : ∀ t, t < 4 → Rep nodes6 (kidPut (.node a b c d) la lb ⟨⟨A, B⟩, h⟩ live j t) (([k0, k1, k2, k3].set j jn).getD t 0) ∧ (kidPut (.node a b c d) la lb ⟨⟨A, B⟩, h⟩ live j t).lv = a.lv := by
        intro t ht
        have hk := HKID.out t ht
        unfold kidPut
        by_cases e : t = j
        · subst e
          rw [if_pos rfl, getD_same _ _ _ HJ.out]
          refine ⟨?_, by rw [putQ_lv _ hk.1.ok]; exact hk.2⟩
          have h1 := HNL.out
          show Rep nodes6 (putQ (Q.kid (.node a b c d) t) (lowA la (2 ^ a.ex) t) (lowB lb (2 ^ a.ex) t) ⟨⟨A, B⟩, h⟩ live) jn
          rw [h1.1, h1.2]
          exact hrep
        · rw [if_neg e, getD_other _ _ _ _ e]
          exact ⟨HS6.out.rep hk.1, hk.2⟩
      have HKK2 := blk_put HK6.out j (.int .u32 (jn : Int)) (nodC_set [k0, k1, k2, k3] j jn)
      obtain ⟨m0, m1, m2, m3, hms⟩ : ∃ m0 m1 m2 m3, [k0, k1, k2, k3].set j jn = [m0, m1, m2, m3] := by
        have hl : ([k0, k1, k2, k3].set j jn).length = 4 := by simp
        match hm : [k0, k1, k2, k3].set j jn, hl with
        | [a, b, c, d], _ => exact ⟨a, b, c, d, rfl⟩
      rw [hms] at hkq HKK2
      have hjn := tr_join HST.out.tr (hkq 0 (by omega)).1 (hkq 1 (by omega)).1 (hkq 2 (by omega)).1 (hkq 3 (by omega)).1 (by rw [(hkq 1 (by omega)).2, (hkq 0 (by omega)).2]) (by rw [(hkq 2 (by omega)).2, (hkq 0 (by omega)).2]) (by rw [(hkq 3 (by omega)).2, (hkq 0 (by omega)).2]) (by rw [(hkq 0 (by omega)).2, a.lv_ex]; have := HX.out; omega) (by have h1 := HNN.out; have h2 := HL6.out; have h3 := HST.out.tr.emq.hi; omega)
      have HJN := Aside0.mk hjn
      have HJ2 := Aside0.mk HL6.out
      clear hjn hkq hms hrep HR6 HS6 HK6 n0' n1' c0' c1' c2' c9' f9' n0 n1 c0 c1 c2 c9 f9
      generalize w6.setCell ⟨KB, j, none⟩ (.int .u32 (jn : Int)) = w10 at *
      rw [show errOf 0 = .nilIface from rfl]
      have b0 : w10.cell? ⟨KB, 0, none⟩ = some (.int .u32 (m0 : Int)) := blk_cell HKK2 0
      have b1 : w10.cell? ⟨KB, 1, none⟩ = some (.int .u32 (m1 : Int)) := blk_cell HKK2 1
      have b2 : w10.cell? ⟨KB, 2, none⟩ = some (.int .u32 (m2 : Int)) := blk_cell HKK2 2
      have b3 : w10.cell? ⟨KB, 3, none⟩ = some (.int .u32 (m3 : Int)) := blk_cell HKK2 3
      clear HKK2
      go_wp2_with (go_at_call 84; refine HJN.out.mono ?_; intro e w11 hp6; obtain ⟨F7, nodes7, empty7, r7, code7, rfl, hs7, hl7, hr7, _⟩ := Gets.ex hp6; have HS7 := Aside0.mk hs7; have HL7 := Aside0.mk hl7; have HR7 := Aside0.mk hr7; clear hp6 hs7 hl7 hr7)
      go_ret2
      exact ⟨F7, nodes7, empty7, r7, code7, rfl, HST.out.trans HS7.out, by have h1 := HJ2.out; have h2 := HL7.out; have h3 := a.lv_ge; have h4 := a.lv_ex; omega, HR7.out, fun h => h.elim⟩
    · have HMOST := Aside0.mk hmost
      have HJ2 := Aside0.mk HL6.out
      clear hmost HR6 HS6 HK6 n0' n1' c0' c1' c2' c9' f9' n0 n1 c0 c1 c2 c9 f9
      generalize w6.setCell ⟨KB, j, none⟩ (.int .u32 0) = w10 at *
      rw [show errOf 8 = .iface 59 (.int .i64 8) from rfl]
      go_wp2_with (fail)
      go_ret2
      exact ⟨F6, nodes6, empty6, 0, 8, rfl, HST.out, by have := HJ2.out; omega, .inr ⟨rfl, rfl, HMOST.out⟩, fun h => h.elim⟩)
set_option maxRecDepth 100000 in
theorem tputq_walk (x : Cl) (live : Bool) (hh : 0 ≤ x.f1 ∧ x.f1 < 2) : ∀ q : Q, PutOk w0 p most x live q := by
  intro q
  induction q with
  | leaf f =>
    intro F nodes empty i la lb w hT hN hR hex hla hlb
    obtain ⟨⟨A, B⟩, h⟩ := x
    have e2 : (Q.leaf f).ex = 2 := rfl
    rw [e2] at hN
    refine (put_leaf hT (by omega) f i hR la lb A B h live hh).mono fun e w' hg => ?_
    obtain ⟨F', nodes', empty', r, code, he, hs, hl, hr, _⟩ := Gets.ex hg
    exact ⟨F', nodes', empty', r, code, he, hs, hl, hr, fun h => h.elim⟩
  | node a b c d iha ihb ihc ihd =>
    intro F nodes empty i la lb w hT hN hR hex hla hlb
    exact put_node hT x live a b c d (fun j hj => by
        have h4 : j = 0 ∨ j = 1 ∨ j = 2 ∨ j = 3 := by omega
        rcases h4 with rfl | rfl | rfl | rfl
        · exact iha
        · exact ihb
        · exact ihc
        · exact ihd) i la lb hN hR hex hla hlb
end
end Go.Proofs.Ytbkbkgfpnefilaa.tr
namespace Go.Proofs.Ytbkbkgfpnefilaa.tr
open Go.RowKit Go.Proofs.Ytbkbkgfpnefilaa.PTreeBuilds Go.Proofs.YtbkbkgfpnefilaaW.PrintWords Go.Proofs.Ytbkbkgfpnefilaa.lb Go.Proofs.Ytbkbkgfpnefilaa.ar Go.Proofs.Ytbkbkgfpnefilaa.bs

/-- without a cell -/
def lessR (l : List Rc) (c : Rc) : List Rc := l.filter (fun x => decide (x ≠ c))
theorem mem_lessR (c y : Rc) (l : List Rc) : y ∈ lessR l c ↔ y ∈ l ∧ y ≠ c := by unfold lessR; rw [List.mem_filter, decide_eq_true_iff]
theorem lessR_rising (c : Rc) {l : List Rc} (h : Rising l) : Rising (lessR l c) := List.Pairwise.filter _ h
theorem lessR_len (c : Rc) (l : List Rc) : (lessR l c).length ≤ l.length := List.length_filter_le _ _
def doR (s : List Rc) (c : Rc) (live : Bool) : List Rc := if live = true then insR s c else lessR s c
theorem doR_rising (c : Rc) (live : Bool) {s : List Rc} (h : Rising s) : Rising (doR s c live) := by
  unfold doR; split
  · exact insR_rising c s h
  · exact lessR_rising c h
theorem doR_len (c : Rc) (live : Bool) (s : List Rc) : (doR s c live).length ≤ s.length + 1 := by
  unfold doR; split
  · exact insR_len c s
  · have := lessR_len c s; omega
theorem mem_doR (c y : Rc) (live : Bool) (s : List Rc) : y ∈ doR s c live ↔ (if y = c then live = true else y ∈ s) := by
  unfold doR
  cases live
  · rw [if_neg (by decide), mem_lessR]
    by_cases h : y = c
    · rw [if_pos h]; simp [h]
    · rw [if_neg h]; simp [h]
  · rw [if_pos rfl, mem_insR]
    by_cases h : y = c
    · rw [if_pos h]; simp [h]
    · rw [if_neg h]; simp [h]
/-- a square of a root's level that has just the cells of a set -/
structure IsSet (q : Q) (n : Nat) (s : List Rc) : Prop where
  lv : q.lv = (n : Int)
  lo : 3 ≤ n
  hi : n ≤ 44
  ok : q.ok
  up : Rising s
  get : ∀ c : Rc, getQ q c.f0 c.f1 c.f2 = decide (c ∈ s)
theorem mem_own (s : List Rc) (c : Cl) : c ∈ s.map ownC ↔ (⟨c.f0.f0, c.f0.f1, c.f1⟩ : Rc) ∈ s := by
  rw [List.mem_map]
  constructor
  · rintro ⟨x, hx, rfl⟩; exact hx
  · intro h; exact ⟨_, h, rfl⟩
theorem IsSet.ex {q : Q} {n : Nat} {s : List Rc} (h : IsSet q n s) : q.ex = n := by have h1 := q.lv_ex; have h2 := h.lv; omega
theorem IsSet.hx {q : Q} {n : Nat} {s : List Rc} (h : IsSet q n s) : hx q.lv = n - 1 := by rw [h.lv]; exact hx_nat n (by have := h.lo; omega) h.hi
theorem IsSet.pow {q : Q} {n : Nat} {s : List Rc} (h : IsSet q n s) : (2 : Int) ^ n = 2 * pw (n - 1) := by
  obtain ⟨m, rfl⟩ : ∃ m, n = m + 1 := ⟨n - 1, by have := h.lo; omega⟩
  exact pw_succ m
theorem IsSet.in_ {q : Q} {n : Nat} {s : List Rc} (h : IsSet q n s) {c : Rc} (hc : c ∈ s) : Ins (pw (n - 1)) c.f0 c.f1 ∧ 0 ≤ c.f2 ∧ c.f2 < 2 := by
  have h1 := h.get c
  rw [decide_eq_true hc] at h1
  unfold getQ at h1
  rw [h.hx] at h1
  split at h1
  · rename_i h2; exact ⟨h2.2.1, h2.2.2.1, by have := h2.2.2.2; omega⟩
  · cases h1
theorem pw_top {n : Nat} (h : n ≤ 44) : pw (n - 1) ≤ 8796093022208 := by
  have := pw_le (show n - 1 ≤ 43 by omega)
  have e : pw 43 = 8796093022208 := by decide
  omega
theorem IsSet.bd {q : Q} {n : Nat} {s : List Rc} (h : IsSet q n s) : ∀ x ∈ s, (-8796093022208 ≤ x.f0 ∧ x.f0 < 8796093022208) ∧ (-8796093022208 ≤ x.f1 ∧ x.f1 < 8796093022208) ∧ 0 ≤ x.f2 ∧ x.f2 < 2 := by
  intro x hx
  obtain ⟨h1, h2⟩ := h.in_ hx
  have := pw_top h.hi
  unfold Ins at h1
  omega
theorem IsSet.near {q : Q} {n : Nat} {s : List Rc} (h : IsSet q n s) : (∀ c ∈ s.map ownC, ClOk c) ∧ rootIn (s.map ownC) := near_ok h.bd
theorem IsSet.cells {q : Q} {n : Nat} {s : List Rc} (h : IsSet q n s) : sortCl (rootCells q) = s.map ownC := by
  have hmem : ∀ c, c ∈ rootCells q ↔ c ∈ s.map ownC := fun c => by
    rw [rootCells_mem _ h.ok (by rw [h.lv]; have := h.lo; omega) (by rw [h.lv]; have := h.hi; omega), mem_own]
    have := h.get ⟨c.f0.f0, c.f0.f1, c.f1⟩
    rw [this, decide_eq_true_iff]
  exact up_one _ _ (sortCl_strict (qcells_nodup _ h.ok _ _)) (UpC.of h.up) (fun c => ((sortCl_perm _).mem_iff).trans (hmem c))
theorem IsSet.count {q : Q} {n : Nat} {s : List Rc} (h : IsSet q n s) (hl : s.length ≤ 1000000) : q.cnt = s.length ∧ (rootCells q).length = s.length := by
  have h2 : (rootCells q).length = s.length := by rw [← sortCl_len, h.cells, List.length_map]
  have h3 := qcells_cnt q (-pw (Go.Proofs.Ytbkbkgfpnefilaa.tr.hx q.lv)) (-pw (Go.Proofs.Ytbkbkgfpnefilaa.tr.hx q.lv))
  refine ⟨?_, h2⟩
  rw [h3]
  unfold rootCells at h2
  rw [h2]
  unfold cap62
  omega
theorem root_set {s : List Rc} (hu : Rising s) (hb : ∀ x ∈ s, (-8796093022208 ≤ x.f0 ∧ x.f0 < 8796093022208) ∧ (-8796093022208 ≤ x.f1 ∧ x.f1 < 8796093022208) ∧ 0 ≤ x.f2 ∧ x.f2 < 2) : IsSet (rootQ (s.map ownC)) (rlv (s.map ownC)) s := by
  have h1 := rlv_bd (s.map ownC)
  have h2 := near_ok hb
  exact ⟨rootQ_lv _, h1.1, h1.2, sqQ_ok _ _ _ _, hu, fun c => by
    rw [getQ_root _ h2.1 h2.2, decide_eq_decide, mem_own]⟩
/-- the square of a set is one at each level -/
theorem IsSet.one {q q' : Q} {n : Nat} {s : List Rc} (h : IsSet q n s) (h' : IsSet q' n s) : q = q' := by
  refine Q.ext_has h.ok h'.ok (by rw [h.ex, h'.ex]) (fun x y t hi => ?_)
  have hp := h.pow
  obtain ⟨x0, x1, y0, y1, t0, t1⟩ := hi
  rw [h.ex, hp] at x1 y1
  have g := h.get ⟨x - pw (n - 1), y - pw (n - 1), t⟩
  have g' := h'.get ⟨x - pw (n - 1), y - pw (n - 1), t⟩
  rw [← g'] at g
  unfold getQ at g
  dsimp only at g
  have hc : (3 : Int) ≤ (n : Int) ∧ Ins (pw (n - 1)) (x - pw (n - 1)) (y - pw (n - 1)) ∧ 0 ≤ t ∧ t ≤ 1 := by
    have := h.lo
    unfold Ins
    omega
  rw [h.hx, h'.hx, h.lv, h'.lv, if_pos hc, if_pos hc, Int.sub_add_cancel, Int.sub_add_cancel] at g
  exact g
/-- a cell put in, or out -/
theorem IsSet.put {q : Q} {n : Nat} {s : List Rc} (h : IsSet q n s) (c : Rc) (live : Bool) (hc : Ins (pw (n - 1)) c.f0 c.f1) (hh : 0 ≤ c.f2 ∧ c.f2 < 2) : IsSet (putQ q (-pw (n - 1)) (-pw (n - 1)) (ownC c) live) n (doR s c live) := by
  have hlo := h.lo
  have hp := h.pow
  have hpt := pw_top h.hi
  have hm : pw (n - 1) % 4 = 0 := pow_mod4 (n - 1) (by omega)
  have hlv := putQ_lv q h.ok (-pw (n - 1)) (-pw (n - 1)) (ownC c) live
  refine ⟨by rw [hlv]; exact h.lv, h.lo, h.hi, putQ_ok q h.ok _ _ _ _, doR_rising c live h.up, fun y => ?_⟩
  unfold getQ
  rw [hlv, h.hx, h.lv]
  have hg := h.get y
  unfold getQ at hg
  rw [h.hx, h.lv] at hg
  unfold Ins at hc
  by_cases hy : (3 : Int) ≤ (n : Int) ∧ Ins (pw (n - 1)) y.f0 y.f1 ∧ 0 ≤ y.f2 ∧ y.f2 ≤ 1
  · rw [if_pos hy] at hg ⊢
    obtain ⟨_, ⟨y1, y2, y3, y4⟩, y5, y6⟩ := hy
    have hx0 : (ownC c).f0.f0 = c.f0 := rfl
    have hx1 : (ownC c).f0.f1 = c.f1 := rfl
    have hx2 : (ownC c).f1 = c.f2 := rfl
    rw [putQ_has q h.ok _ _ (ownC c) live ⟨by rw [hx0]; omega, by rw [hx1]; omega, hh⟩ (by omega) (by omega) ⟨by rw [hx0]; omega, by rw [h.ex, hx0, hp]; omega, by rw [hx1]; omega, by rw [h.ex, hx1, hp]; omega, hh.1, hh.2⟩ _ _ _ ⟨by omega, by rw [h.ex, hp]; omega, by omega, by rw [h.ex, hp]; omega, y5, by omega⟩]
    rw [hx0, hx1, hx2, hg]
    by_cases e : y = c
    · subst e
      rw [if_pos ⟨by omega, by omega, rfl⟩]
      cases live
      · symm; rw [decide_eq_false_iff_not, mem_doR, if_pos rfl]; decide
      · symm; rw [decide_eq_true_iff, mem_doR, if_pos rfl]
    · rw [if_neg (fun hh => e (by
        obtain ⟨a, b, t⟩ := y
        obtain ⟨a', b', t'⟩ := c
        dsimp only at hh
        obtain ⟨e1, e2, e3⟩ := hh
        rw [show a = a' by omega, show b = b' by omega, e3]))]
      rw [decide_eq_decide, mem_doR, if_neg e]
  · rw [if_neg hy] at hg ⊢
    symm at hg ⊢
    rw [decide_eq_false_iff_not] at hg ⊢
    rw [mem_doR]
    by_cases e : y = c
    · subst e
      exact absurd ⟨by omega, by unfold Ins; omega, by omega, by omega⟩ hy
    · rw [if_neg e]; exact hg
end Go.Proofs.Ytbkbkgfpnefilaa.tr
namespace Go.Proofs.Ytbkbkgfpnefilaa.tr
open Go.RowKit Go.Proofs.Ytbkbkgfpnefilaa.PTreeBuilds Go.Proofs.YtbkbkgfpnefilaaW.PrintWords Go.Proofs.YtbkbkgfpnefilaaW.PrintLast Go.Proofs.YtbkbkgfpnefilaaW.PrintMore Go.Proofs.Ytbkbkgfpnefilaa.bs Go.ChangeShapes Go.Proofs.Ytbkbkgfpnefilaa.lb Go.Proofs.Ytbkbkgfpnefilaa.ar Go.Maps

section
variable {w0 w : World} {F : Nat → Prop} {p : Nat} {nodes : List Nd} {empty : List Int} {most : Int}
set_option maxRecDepth 100000 in
set_option maxHeartbeats 1000000 in
theorem put_half (hA : Ar w F p nodes empty most) (k A B h : Int) (live : Bool) (hk : 0 ≤ k ∧ k < 4294967296) (h3 : 3 ≤ lvAt nodes k) (hh : h < 0 ∨ 1 < h) :
    Calls Try.prog 30 #[.pointer (some ⟨p, 0, none⟩), .int .u32 k, .agg #[.int .i64 A, .int .i64 B, .int .i64 h], .bool live] w fun e w' => e = .returned (.tuple #[.int .u32 0, errOf 4]) ∧ Below w.heap.size w w' := by
  have hb := below_alloc (Below.refl w.heap.size w) (.cells #[.int .i64 A, .int .i64 B, .int .i64 h] 57)
  have hlev := level_walk F p nodes empty most _ (hA.below hb) k hk.1 hk.2
  have hkb := blk_new w (.cells #[.int .i64 A, .int .i64 B, .int .i64 h] 57)
  have c0 := blk_cell hkb 0
  have c1 := blk_cell hkb 1
  have c2 := blk_cell hkb 2
  simp only [List.getElem?_toArray, List.getElem?_cons_zero, List.getElem?_cons_succ] at c0 c1 c2
  have hn3 : ¬ lvAt nodes k < 3 := by omega
  generalize lvAt nodes k = lv at *
  have HLEV := Aside0.mk hlev
  have HB := Aside0.mk hb
  clear hlev hA hb hk hkb h3
  rw [show errOf 4 = .iface 59 (.int .i64 4) from rfl]
  rcases hh with hh | hh
  · go_enter Try.func30, Try.ntmps30
    go_wp2_with (go_at_call 29; refine HLEV.out.mono ?_; rintro e w1 ⟨rfl, rfl⟩)
    refine bodyPost_ret (v := .tuple #[.int .u32 0, .iface 59 (.int .i64 4)]) (by simp [results, Try.results30, go_sem]) rfl ?_
    exact ⟨rfl, HB.out⟩
  · have hh0 : ¬ h < 0 := by omega
    go_enter Try.func30, Try.ntmps30
    go_wp2_with (go_at_call 29; refine HLEV.out.mono ?_; rintro e w1 ⟨rfl, rfl⟩)
    refine bodyPost_ret (v := .tuple #[.int .u32 0, .iface 59 (.int .i64 4)]) (by simp [results, Try.results30, go_sem]) rfl ?_
    exact ⟨rfl, HB.out⟩
set_option maxRecDepth 100000 in
set_option maxHeartbeats 1000000 in
theorem put_out (hA : Ar w F p nodes empty most) (k A B h : Int) (live : Bool) (hk : 0 ≤ k ∧ k < 4294967296) (h3 : 3 ≤ lvAt nodes k) (hh : 0 ≤ h ∧ h < 2) (hno : ¬ Ins (pw (hx (lvAt nodes k))) A B) :
    Calls Try.prog 30 #[.pointer (some ⟨p, 0, none⟩), .int .u32 k, .agg #[.int .i64 A, .int .i64 B, .int .i64 h], .bool live] w fun e w' => e = .returned (.tuple #[.int .u32 0, errOf 6]) ∧ Below w.heap.size w w' := by
  have hb := below_alloc (Below.refl w.heap.size w) (.cells #[.int .i64 A, .int .i64 B, .int .i64 h] 57)
  have hlev := level_walk F p nodes empty most _ (hA.below hb) k hk.1 hk.2
  have hkb := blk_new w (.cells #[.int .i64 A, .int .i64 B, .int .i64 h] 57)
  have c0 := blk_cell hkb 0
  have c1 := blk_cell hkb 1
  have c2 := blk_cell hkb 2
  simp only [List.getElem?_toArray, List.getElem?_cons_zero, List.getElem?_cons_succ] at c0 c1 c2
  have hins := fun w => tinside_walk (lvAt nodes k) A B w
  simp only [decide_eq_false hno] at hins
  have hn3 : ¬ lvAt nodes k < 3 := by omega
  have hh0 : ¬ h < 0 := by omega
  have hh1 : ¬ 1 < h := by omega
  clear hno
  generalize lvAt nodes k = lv at *
  have HLEV := Aside0.mk hlev
  have HINS := Aside0.mk hins
  have HB := Aside0.mk hb
  clear hlev hins hA hb hk hkb h3 hh
  rw [show errOf 6 = .iface 59 (.int .i64 6) from rfl]
  go_enter Try.func30, Try.ntmps30
  go_wp2_with (first | (go_at_call 29; refine HLEV.out.mono ?_; rintro e w1 ⟨rfl, rfl⟩) | (go_at_call 20; refine (HINS.out _).mono ?_; rintro e w3 ⟨rfl, hb3⟩; replace c0 := pw_cell_below hb3 c0; replace c1 := pw_cell_below hb3 c1; replace c2 := pw_cell_below hb3 c2; have HB3 := Aside0.mk (HB.out.trans (hb3.mono HB.out.size)); clear hb3))
  refine bodyPost_ret (v := .tuple #[.int .u32 0, .iface 59 (.int .i64 6)]) (by simp [results, Try.results30, go_sem]) rfl ?_
  exact ⟨rfl, HB3.out⟩
set_option maxRecDepth 100000 in
set_option maxHeartbeats 4000000 in
theorem put_in (hT : Tr w0 w F p nodes empty most) (q : Q) (i n : Nat) (hR : Rep nodes q i) (hlv : q.lv = (n : Int)) (h3 : 3 ≤ n) (h44 : n ≤ 44) (A B h : Int) (live : Bool) (hin : Ins (pw (n - 1)) A B) (hh : 0 ≤ h ∧ h < 2) (hN : nodes.length + 44 < 536870800) :
    Calls Try.prog 30 #[.pointer (some ⟨p, 0, none⟩), .int .u32 i, .agg #[.int .i64 A, .int .i64 B, .int .i64 h], .bool live] w fun e w' => Gets w0 w F p nodes empty most (putQ q (-pw (n - 1)) (-pw (n - 1)) ⟨⟨A, B⟩, h⟩ live) 43 False e w' := by
  have hb := below_alloc (Below.refl w.heap.size w) (.cells #[.int .i64 A, .int .i64 B, .int .i64 h] 57)
  have hsz := hT.hold.ar.size
  have hil := hR.lt
  have hlev := level_walk F p nodes empty most _ (hT.hold.ar.below hb) i (by omega) (by omega)
  rw [hR.lv, hlv] at hlev
  have hex : q.ex = n := by have := q.lv_ex; omega
  have hkb := blk_new w (.cells #[.int .i64 A, .int .i64 B, .int .i64 h] 57)
  have c0 := blk_cell hkb 0
  have c1 := blk_cell hkb 1
  have c2 := blk_cell hkb 2
  simp only [List.getElem?_toArray, List.getElem?_cons_zero, List.getElem?_cons_succ] at c0 c1 c2
  have hins := fun w => tinside_walk (n : Int) A B w
  have hor := fun w => torigin_walk (n : Int) w
  rw [hx_nat n (by omega) h44] at hins hor
  simp only [decide_eq_true hin] at hins
  have hp2 : (2 : Int) ^ n = 2 * pw (n - 1) := by
    obtain ⟨m, hm⟩ : ∃ m, n = m + 1 := ⟨n - 1, by omega⟩
    rw [hm]; exact pw_succ m
  have hpt := pw_top h44
  have hput := fun (W : World) (hbW : Below w.heap.size w W) => tputq_walk (w0 := w0) (p := p) (most := most) ⟨⟨A, B⟩, h⟩ live hh q F nodes empty i (-pw (n - 1)) (-pw (n - 1)) W (hT.below hbW) (by rw [hex]; omega) hR (by rw [hex]; omega) (by rw [hex, hp2]; omega) (by rw [hex, hp2]; omega)
  rw [hlv, hex] at hput
  have hn3 : ¬ (n : Int) < 3 := by omega
  have hh0 : ¬ h < 0 := by omega
  have hh1 : ¬ 1 < h := by omega
  have hnf : ∀ k, F k → k < w.heap.size := hT.hold.hi
  have hnn : n - 1 ≤ 43 := by omega
  generalize putQ q (-pw (n - 1)) (-pw (n - 1)) ⟨⟨A, B⟩, h⟩ live = q2 at *
  generalize -pw (n - 1) = L at *
  have HLEV := Aside0.mk hlev
  have HINS := Aside0.mk hins
  have HOR := Aside0.mk hor
  have HPUT := Aside0.mk hput
  have HB := Aside0.mk hb
  have HNF := Aside0.mk hnf
  have HNN := Aside0.mk hnn
  clear hlev hins hor hput hnf hnn hb hkb h3 hh h44 hin hT hR hN hsz hil hlv hex hp2 hpt
  dsimp only at HPUT
  go_enter Try.func30, Try.ntmps30
  go_upto_region 6 with (first | (go_at_call 29; refine HLEV.out.mono ?_; rintro e w1 ⟨rfl, rfl⟩) | (go_at_call 20; refine (HINS.out _).mono ?_; rintro e w3 ⟨rfl, hb3⟩; replace c0 := pw_cell_below hb3 c0; replace c1 := pw_cell_below hb3 c1; replace c2 := pw_cell_below hb3 c2; have HB3 := Aside0.mk (HB.out.trans (hb3.mono HB.out.size)); clear hb3))
  obtain ⟨C, hC⟩ : ∃ C, w.heap.size = C := ⟨_, rfl⟩
  have HC := Aside0.mk hC
  rw [hC] at c0 c1 c2
  simp only [hC]
  clear hC
  have HCF := Aside0.mk (show ¬ F C from fun hf => by have := HNF.out C hf; have := HC.out; omega)
  have HL0 := Aside0.mk (show w3.drew.cell? ⟨C, 0, none⟩ = some (.int .i64 A) from c0)
  have HL1 := Aside0.mk (show w3.drew.cell? ⟨C, 1, none⟩ = some (.int .i64 B) from c1)
  have HL2 := Aside0.mk (show w3.drew.cell? ⟨C, 2, none⟩ = some (.int .i64 h) from c2)
  have HBD := Aside0.mk (show Below w.heap.size w w3.drew from below_drew HB3.out)
  go_region_held3 (fun w' => w'.cell? ⟨C, 0, none⟩ = some (.int .i64 A) ∧ w'.cell? ⟨C, 1, none⟩ = some (.int .i64 B) ∧ w'.cell? ⟨C, 2, none⟩ = some (.int .i64 h)) (refine ⟨?_, ?_, ?_⟩ <;> (first | (with_reducible assumption) | (with_reducible refine pw_cell_below ?_ c0; (repeat' (first | (with_reducible exact Below.refl _ _) | (with_reducible assumption) | (with_reducible refine Below.alloc ?_ ?_ _) | (with_reducible refine Below.drew ?_) | (with_reducible refine Below.setCell ?_ ?_ _) | (with_reducible refine chain ?_ (by assumption) ?_) | go_size)); done) | (with_reducible refine pw_cell_below ?_ c1; (repeat' (first | (with_reducible exact Below.refl _ _) | (with_reducible assumption) | (with_reducible refine Below.alloc ?_ ?_ _) | (with_reducible refine Below.drew ?_) | (with_reducible refine Below.setCell ?_ ?_ _) | (with_reducible refine chain ?_ (by assumption) ?_) | go_size)); done) | (with_reducible refine pw_cell_below ?_ c2; (repeat' (first | (with_reducible exact Below.refl _ _) | (with_reducible assumption) | (with_reducible refine Below.alloc ?_ ?_ _) | (with_reducible refine Below.drew ?_) | (with_reducible refine Below.setCell ?_ ?_ _) | (with_reducible refine chain ?_ (by assumption) ?_) | go_size)); done)))
    (first | (go_at_call 66; with_reducible refine (HOR.out _).mono ?_; rintro e w6 ⟨rfl, hb6⟩; have HB6 := Aside0.mk (chain HBD.out hb6 HBD.out.size); have c0 := pw_cell_below hb6 HL0.out; have c1 := pw_cell_below hb6 HL1.out; have c2 := pw_cell_below hb6 HL2.out; clear hb6) | (go_at_call 73; with_reducible refine (HPUT.out _ HB6.out).mono ?_; intro e w7 hg; obtain ⟨r, code, rfl, hg2⟩ := Gets.same hg; obtain ⟨F', nodes', empty', r', code', _, hs7, _⟩ := Gets.ex hg2; have bC := hs7.keeps.block C (World.block_lt_of_cell? _ _ c0) HCF.out; have c0' := (World.cell?_of_block (a := ⟨C, 0, none⟩) bC).trans c0; have c1' := (World.cell?_of_block (a := ⟨C, 1, none⟩) bC).trans c1; have c2' := (World.cell?_of_block (a := ⟨C, 2, none⟩) bC).trans c2; have HG := Aside0.mk hg2; clear hg hg2 hs7 bC))
  all_goals (
    go_wp2_with (fail)
    refine bodyPost_ret (v := .tuple #[.int .u32 r, errOf code]) (by simp [results, Try.results30, go_sem]) rfl ?_
    exact (HG.out.from HB6.out).mono HNN.out)
end
end Go.Proofs.Ytbkbkgfpnefilaa.tr
