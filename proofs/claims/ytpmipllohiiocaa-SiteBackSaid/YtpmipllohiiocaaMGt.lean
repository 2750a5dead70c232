/- The walk over the law's awake: answers that the document fixes. -/
import Derived.Test.YtpmipllohiiocaaMBd
import Derived.Deep.QuietTactic
import Derived.Test.YtpmipllohiiocaaQTreeBuildsx7
import Derived.Test.YtpmipllohiiocaaQTreeBuildsx8
namespace Go.Proofs.Ytpmipllohiiocaa.tr
open Go.RowKit Go.Proofs.Ytpmipllohiiocaa.PTreeBuilds Go.Proofs.YtpmipllohiiocaaW.PrintWords Go.Proofs.YtpmipllohiiocaaW.PrintLast Go.Proofs.YtpmipllohiiocaaW.PrintMore Go.Proofs.Ytpmipllohiiocaa.bs Go.ChangeShapes Go.Proofs.Ytpmipllohiiocaa.lb Go.Proofs.Ytpmipllohiiocaa.ar Go.Maps

/-- what Get answers of a square -/
def getQ (q : Q) (A B h : Int) : Bool := if 3 ≤ q.lv ∧ Ins (pw (hx q.lv)) A B ∧ 0 ≤ h ∧ h ≤ 1 then q.has (A + pw (hx q.lv)) (B + pw (hx q.lv)) h else false
/-- the kid that has a place -/
def Q.kid : Q → Nat → Q
  | .leaf f, _ => .leaf f
  | .node a b c d, i => match i with
    | 0 => a
    | 1 => b
    | 2 => c
    | _ => d
theorem rep_kid {nodes : List Nd} {a b c d : Q} {i : Nat} (h : Rep nodes (.node a b c d) i) : ∃ k0 k1 k2 k3 : Nat, keyAt nodes i = ⟨a.lv + 1, 0, k0, k1, k2, k3⟩ ∧ (∀ j, j < 4 → Rep nodes (Q.kid (.node a b c d) j) ([k0, k1, k2, k3].getD j 0) ∧ (Q.kid (.node a b c d) j).lv = a.lv) := by
  obtain ⟨k0, k1, k2, k3, hx, h0, h1, h2, h3, hb, hc, hd⟩ := h
  refine ⟨k0, k1, k2, k3, keyAt_some (by rw [Int.toNat_natCast]; exact hx), fun j hj => ?_⟩
  have h4 : j = 0 ∨ j = 1 ∨ j = 2 ∨ j = 3 := by omega
  rcases h4 with rfl | rfl | rfl | rfl
  · exact ⟨h0, rfl⟩
  · exact ⟨h1, hb⟩
  · exact ⟨h2, hc⟩
  · exact ⟨h3, hd⟩
/-- one step down: the quarter's kid, seen from its least point -/
theorem has_down {a b c d : Q} (la lb A B h : Int) (hi : InQ (a.ex + 1) (A - la) (B - lb) h) :
    (Q.node a b c d).has (A - la) (B - lb) h = (Q.kid (.node a b c d) (qi (pw a.ex) la lb ⟨A, B⟩)).has (A - (quart (pw a.ex) la lb A B).2.1) (B - (quart (pw a.ex) la lb A B).2.2) h ∧
    InQ a.ex (A - (quart (pw a.ex) la lb A B).2.1) (B - (quart (pw a.ex) la lb A B).2.2) h := by
  obtain ⟨x0, x1, y0, y1, h0, h1⟩ := hi
  have e : (2 : Int) ^ (a.ex + 1) = 2 * pw a.ex := by have := pw_succ a.ex; unfold pw at *; omega
  rw [e] at x1 y1
  have hd : ∀ x y t, (Q.node a b c d).has x y t = if x < pw a.ex then (if y < pw a.ex then a.has x y t else c.has x (y - pw a.ex) t) else (if y < pw a.ex then b.has (x - pw a.ex) y t else d.has (x - pw a.ex) (y - pw a.ex) t) := fun _ _ _ => rfl
  rw [hd]
  have hq : (2 : Int) ^ a.ex = pw a.ex := rfl
  unfold qi
  generalize pw a.ex = H at *
  unfold quart
  dsimp only
  by_cases ca : la + H ≤ A
  · by_cases cb : lb + H ≤ B
    · rw [if_pos ca, if_pos cb, if_neg (by omega), if_neg (by omega), show A - la - H = A - (la + H) by omega, show B - lb - H = B - (lb + H) by omega]
      exact ⟨rfl, ⟨by dsimp only; omega, by rw [hq]; dsimp only; omega, by dsimp only; omega, by rw [hq]; dsimp only; omega, h0, h1⟩⟩
    · rw [if_pos ca, if_neg cb, if_neg (by omega), if_pos (by omega), show A - la - H = A - (la + H) by omega]
      exact ⟨rfl, ⟨by dsimp only; omega, by rw [hq]; dsimp only; omega, by dsimp only; omega, by rw [hq]; dsimp only; omega, h0, h1⟩⟩
  · by_cases cb : lb + H ≤ B
    · rw [if_neg ca, if_pos cb, if_pos (by omega), if_neg (by omega), show B - lb - H = B - (lb + H) by omega]
      exact ⟨rfl, ⟨by dsimp only; omega, by rw [hq]; dsimp only; omega, by dsimp only; omega, by rw [hq]; dsimp only; omega, h0, h1⟩⟩
    · rw [if_neg ca, if_neg cb, if_pos (by omega), if_pos (by omega)]
      exact ⟨rfl, ⟨by dsimp only; omega, by rw [hq]; dsimp only; omega, by dsimp only; omega, by rw [hq]; dsimp only; omega, h0, h1⟩⟩
theorem quart_bd (H la lb A B : Int) (hH : 1 ≤ H) (m : Int) (h1 : -m ≤ la ∧ la + 2 * H ≤ m) (h2 : -m ≤ lb ∧ lb + 2 * H ≤ m) :
    (-m ≤ (quart H la lb A B).2.1 ∧ (quart H la lb A B).2.1 + H ≤ m) ∧ (-m ≤ (quart H la lb A B).2.2 ∧ (quart H la lb A B).2.2 + H ≤ m) := by
  unfold quart
  split <;> split <;> dsimp only <;> omega
theorem index4v (w : World) (k0 k1 k2 k3 : Nat) : ∀ j : Nat, j < 4 → (Instr.index 89 (.agg #[.int .u32 k0, .int .u32 k1, .int .u32 k2, .int .u32 k3]) (.int .i64 j)).run Try.prog w = .ok (.int .u32 (([k0, k1, k2, k3].getD j 0 : Nat) : Int)) w
  | 0, _ => by kernel_rfl
  | 1, _ => by kernel_rfl
  | 2, _ => by kernel_rfl
  | 3, _ => by kernel_rfl
  | n + 4, h => by omega
section
variable {w0 w w1 w2 w3 : World} {F F' F2 S : Nat → Prop} {p : Nat} {nodes nodes' nodes2 : List Nd} {empty empty' empty2 : List Int} {most : Int}
set_option maxRecDepth 100000 in
set_option maxHeartbeats 1000000 in
/-- what is no root, what is outside, and what is no half -/
theorem get_no (hA : Ar w F p nodes empty most) (k : Int) (k0 : 0 ≤ k) (k1 : k < 4294967296) (A B h : Int) (hno : ¬ (3 ≤ lvAt nodes k ∧ Ins (pw (hx (lvAt nodes k))) A B ∧ 0 ≤ h ∧ h ≤ 1)) :
    Calls Try.prog 25 #[.pointer (some ⟨p, 0, none⟩), .int .u32 k, .agg #[.int .i64 A, .int .i64 B, .int .i64 h]] w fun e w' => e = .returned (.bool false) ∧ Below w.heap.size w w' := by
  have hb := below_alloc (Below.refl w.heap.size w) (.cells #[.int .i64 A, .int .i64 B, .int .i64 h] 39)
  have hlev := level_walk F p nodes empty most _ (hA.below hb) k k0 k1
  have hkb := blk_new w (.cells #[.int .i64 A, .int .i64 B, .int .i64 h] 39)
  have c0 := blk_cell hkb 0
  have c1 := blk_cell hkb 1
  have c2 := blk_cell hkb 2
  simp only [List.getElem?_toArray, List.getElem?_cons_zero, List.getElem?_cons_succ] at c0 c1 c2
  have hins := fun w => tinside_walk (lvAt nodes k) A B w
  generalize lvAt nodes k = lv at *
  have HLEV := Aside0.mk hlev
  have HINS := Aside0.mk hins
  have HB := Aside0.mk hb
  clear hlev hins hb hkb hA
  by_cases h3 : lv < 3
  · have h3' : ¬ 3 ≤ lv := by omega
    go_enter Try.func25, Try.ntmps25
    go_wp2_with (first | (go_at_call 22; refine HLEV.out.mono ?_; rintro e w2 ⟨rfl, rfl⟩))
    go_ret
    exact ⟨rfl, HB.out⟩
  · by_cases hi : Ins (pw (hx lv)) A B
    · simp only [decide_eq_true hi] at HINS
      have HINS2 := HINS
      have hh : h < 0 ∨ 1 < h := by
        by_cases h1 : h < 0
        · exact .inl h1
        · exact .inr (by
            by_cases h2 : 1 < h
            · exact h2
            · exact absurd ⟨by omega, hi, by omega, by omega⟩ hno)
      clear HINS hno hi
      rcases hh with hh | hh
      · go_enter Try.func25, Try.ntmps25
        go_wp2_with (first | (go_at_call 22; refine HLEV.out.mono ?_; rintro e w2 ⟨rfl, rfl⟩) | (go_at_call 45; refine (HINS2.out _).mono ?_; rintro e w3 ⟨rfl, hb3⟩; replace c0 := pw_cell_below hb3 c0; replace c1 := pw_cell_below hb3 c1; replace c2 := pw_cell_below hb3 c2; have HB3 := Aside0.mk (HB.out.trans (hb3.mono HB.out.size)); clear hb3))
        go_ret
        exact ⟨rfl, HB3.out⟩
      · have hh0 : ¬ h < 0 := by omega
        go_enter Try.func25, Try.ntmps25
        go_wp2_with (first | (go_at_call 22; refine HLEV.out.mono ?_; rintro e w2 ⟨rfl, rfl⟩) | (go_at_call 45; refine (HINS2.out _).mono ?_; rintro e w3 ⟨rfl, hb3⟩; replace c0 := pw_cell_below hb3 c0; replace c1 := pw_cell_below hb3 c1; replace c2 := pw_cell_below hb3 c2; have HB3 := Aside0.mk (HB.out.trans (hb3.mono HB.out.size)); clear hb3))
        go_ret
        exact ⟨rfl, HB3.out⟩
    · simp only [decide_eq_false hi] at HINS
      have HINS2 := HINS
      clear HINS hno hi
      go_enter Try.func25, Try.ntmps25
      go_wp2_with (first | (go_at_call 22; refine HLEV.out.mono ?_; rintro e w2 ⟨rfl, rfl⟩) | (go_at_call 45; refine (HINS2.out _).mono ?_; rintro e w3 ⟨rfl, hb3⟩; replace c0 := pw_cell_below hb3 c0; replace c1 := pw_cell_below hb3 c1; replace c2 := pw_cell_below hb3 c2; have HB3 := Aside0.mk (HB.out.trans (hb3.mono HB.out.size)); clear hb3))
      go_ret
      exact ⟨rfl, HB3.out⟩
set_option maxRecDepth 100000 in
set_option maxHeartbeats 4000000 in
theorem get_yes (hA : Ar w F p nodes empty most) (q : Q) (k : Nat) (hR : Rep nodes q k) (A B h : Int) (h3 : 3 ≤ q.lv) (h44 : q.lv ≤ 44) (hi : Ins (pw (hx q.lv)) A B) (hh : 0 ≤ h ∧ h ≤ 1) :
    Calls Try.prog 25 #[.pointer (some ⟨p, 0, none⟩), .int .u32 k, .agg #[.int .i64 A, .int .i64 B, .int .i64 h]] w fun e w' => e = .returned (.bool (q.has (A + pw (hx q.lv)) (B + pw (hx q.lv)) h)) ∧ Below w.heap.size w w' := by
  have hk32 : k < 4294967296 := by have := hR.lt; have := hA.size; omega
  have hb := below_alloc (Below.refl w.heap.size w) (.cells #[.int .i64 A, .int .i64 B, .int .i64 h] 39)
  have hlev := level_walk F p nodes empty most _ (hA.below hb) k (by omega) (by omega)
  rw [hR.lv] at hlev
  have hkb := blk_new w (.cells #[.int .i64 A, .int .i64 B, .int .i64 h] 39)
  have c0 := blk_cell hkb 0
  have c1 := blk_cell hkb 1
  have c2 := blk_cell hkb 2
  simp only [List.getElem?_toArray, List.getElem?_cons_zero, List.getElem?_cons_succ] at c0 c1 c2
  have hins := fun w => tinside_walk q.lv A B w
  simp only [decide_eq_true hi] at hins
  have hor := fun w => torigin_walk q.lv w
  have hex := q.lv_ex
  have hhx : hx q.lv = q.ex - 1 := by rw [hex]; exact hx_nat q.ex (by omega) (by omega)
  have hm : ∃ n, q.ex = n + 3 := ⟨q.ex - 3, by omega⟩
  obtain ⟨n, hn⟩ := hm
  rw [hhx, hn] at hor hi ⊢
  rw [show n + 3 - 1 = n + 2 from rfl] at hor hi ⊢
  obtain ⟨i1, i2, i3, i4⟩ := hi
  have hpw := pw_bd (show n + 2 ≤ 44 by omega)
  have h43 := pw_le (show n + 2 ≤ 43 by omega)
  have e43 : pw 43 = 8796093022208 := by decide
  have hpq : (2 : Int) ^ q.ex = 2 * pw (n + 2) := by rw [hn]; have := pw_succ (n + 2); unfold pw at *; omega
  have hin0 : InQ q.ex (A - -pw (n + 2)) (B - -pw (n + 2)) h := ⟨by omega, by rw [hpq]; omega, by omega, by rw [hpq]; omega, by omega, by omega⟩
  rw [show A + pw (n + 2) = A - -pw (n + 2) by omega, show B + pw (n + 2) = B - -pw (n + 2) by omega]
  have hbd0 : -8796093022208 ≤ -pw (n + 2) ∧ -pw (n + 2) + 2 ^ q.ex ≤ 8796093022208 := by rw [hpq]; omega
  have hgt : ¬ q.lv < 3 := by omega
  have hh0 : ¬ h < 0 := by omega
  have hh1 : ¬ 1 < h := by omega
  have hwm : wrap64 (-pw (n + 2)) = -pw (n + 2) := w64 _ (by omega)
  obtain ⟨L, hL⟩ : ∃ L, -pw (n + 2) = L := ⟨_, rfl⟩
  simp only [hL] at hor hin0 hbd0 ⊢
  have HIN0 := Aside0.mk hin0
  have HBD0 := Aside0.mk hbd0
  have HLEV := Aside0.mk hlev
  have HINS2 := Aside0.mk hins
  have HOR := Aside0.mk hor
  have HB := Aside0.mk hb
  have HA := Aside0.mk hA
  have HR := Aside0.mk hR
  have HEX := Aside0.mk hex
  have hlv : 3 ≤ q.lv ∧ q.lv ≤ 44 := ⟨h3, h44⟩
  clear hlev hins hor hb hkb hA hR i1 i2 i3 i4 hpw h43 e43 hpq hin0 hbd0 hL hwm hhx hn h3 h44 hex hk32
  generalize hlq : q.lv = lq at *
  have HLQ := Aside0.mk hlq
  clear hlq
  go_enter Try.func25, Try.ntmps25
  go_upto_region 5 with (first | (go_at_call 22; refine HLEV.out.mono ?_; rintro e w2 ⟨rfl, rfl⟩) | (go_at_call 45; refine (HINS2.out _).mono ?_; rintro e w3 ⟨rfl, hb3⟩; replace c0 := pw_cell_below hb3 c0; replace c1 := pw_cell_below hb3 c1; replace c2 := pw_cell_below hb3 c2; have HB3 := Aside0.mk (HB.out.trans (hb3.mono HB.out.size)); clear hb3) | (go_at_call 40; refine (HOR.out _).mono ?_; rintro e w4 ⟨rfl, hb4⟩; replace c0 := pw_cell_below hb4 c0; replace c1 := pw_cell_below hb4 c1; replace c2 := pw_cell_below hb4 c2; have HB4 := Aside0.mk (HB3.out.trans (hb4.mono HB3.out.size)); clear hb4))
  have hb5 := below_alloc (Below.refl w4.heap.size w4) (.cells #[.int .i64 L, .int .i64 L] 32)
  have HB5 := Aside0.mk (below_alloc HB4.out (.cells #[.int .i64 L, .int .i64 L] 32))
  have HCC := Aside0.mk (show ∃ C, w.heap.size = C ∧ (w4.alloc (.cells #[.int .i64 L, .int .i64 L] 32)).cell? ⟨C, 0, none⟩ = some (.int .i64 A) ∧ (w4.alloc (.cells #[.int .i64 L, .int .i64 L] 32)).cell? ⟨C, 1, none⟩ = some (.int .i64 B) ∧ (w4.alloc (.cells #[.int .i64 L, .int .i64 L] 32)).cell? ⟨C, 2, none⟩ = some (.int .i64 h) from ⟨_, rfl, pw_cell_below hb5 c0, pw_cell_below hb5 c1, pw_cell_below hb5 c2⟩)
  have HKL := Aside0.mk (blk_new w4 (.cells #[.int .i64 L, .int .i64 L] 32))
  have hCl := World.block_lt_of_cell? _ _ c0
  have HCX := Aside0.mk (show w.heap.size < w4.heap.size from hCl)
  clear c0 c1 c2 hb5 hCl HB3 HB4 HINS2 HOR HLEV
  obtain ⟨C, hC, c0, c1, c2⟩ := HCC.out
  rw [hC] at HCX
  have HCW := Aside0.mk hC
  simp only [hC]
  clear hC HCC
  generalize w4.alloc (.cells #[.int .i64 L, .int .i64 L] 32) = w5 at *
  generalize w4.heap.size = XL at *
  obtain ⟨lv0, hlv0⟩ : ∃ m : Nat, lq = m := ⟨lq.toNat, by omega⟩
  subst hlv0
  have HC0 := Aside0.mk (And.intro c0 (And.intro c1 c2))
  clear c0 c1 c2
  go_loopg [1, 7] (lv0 - 2) (fun kq c1 c7 w' => ∃ (q' : Q) (i' lv' : Nat) (la lb : Int), lv' = kq + 2 ∧ lv' ≤ 44 ∧ Aside0 (q'.lv = (lv' : Int)) ∧ c1 = .int .u32 i' ∧ c7 = .int .i64 lv' ∧ Aside0 (Rep nodes q' i') ∧ Aside0 (q'.has (A - la) (B - lb) h = q.has (A - L) (B - L) h) ∧ Aside0 (InQ q'.ex (A - la) (B - lb) h) ∧ Aside0 ((-8796093022208 ≤ la ∧ la + 2 ^ q'.ex ≤ 8796093022208) ∧ (-8796093022208 ≤ lb ∧ lb + 2 ^ q'.ex ≤ 8796093022208)) ∧ Aside0 (w'.cell? ⟨C, 0, none⟩ = some (.int .i64 A) ∧ w'.cell? ⟨C, 1, none⟩ = some (.int .i64 B) ∧ w'.cell? ⟨C, 2, none⟩ = some (.int .i64 h)) ∧ Aside0 (w'.heap[XL]? = some (.cells #[.int .i64 la, .int .i64 lb] 32 (0, 0))) ∧ Aside0 (Below w.heap.size w w'))
  case atStart => exact ⟨q, k, lv0, L, L, by omega, by omega, HLQ, rfl, rfl, HR, ⟨rfl⟩, HIN0, ⟨⟨HBD0.out, HBD0.out⟩⟩, HC0, HKL, HB5⟩
  case round =>
    clear HLQ HR HIN0 HBD0 HC0 HKL HB5
    obtain ⟨q', i', lv', la, lb', hlv', h44, HLQ, rfl, rfl, HR, HV, HIN, HBD, HC0, HKL, HB⟩ := hrel
    obtain ⟨c0, c1, c2⟩ := HC0.out
    have l0 := blk_cell HKL.out 0
    have l1 := blk_cell HKL.out 1
    have f0 := blk_frozen HKL.out 0
    have f1 := blk_frozen HKL.out 1
    simp only [List.getElem?_toArray, List.getElem?_cons_zero, List.getElem?_cons_succ] at l0 l1
    cases gk with
    | zero =>
      obtain rfl : lv' = 2 := by omega
      cases q' with
      | node qa qb qc qd => exact absurd HLQ.out (by have := qa.lv_ge; show ¬ qa.lv + 1 = _; omega)
      | leaf f =>
        have hf : f < 4294967296 := HR.out.2
        have hil := HR.out.lt
        have hns := HA.out.size
        have hin := HIN.out
        rw [show (Q.leaf f).ex = 2 from rfl] at hin
        obtain ⟨x0, x1, y0, y1, _, _⟩ := hin
        have e4 : (2 : Int) ^ 2 = 4 := rfl
        rw [e4] at x1 y1
        have hbd := HBD.out
        rw [show (Q.leaf f).ex = 2 from rfl, e4] at hbd
        obtain ⟨x, hx⟩ : ∃ x, A - la = x := ⟨_, rfl⟩
        obtain ⟨y, hy⟩ : ∃ y, B - lb' = y := ⟨_, rfl⟩
        have hv := HV.out
        rw [show ∀ x y h, (Q.leaf f).has x y h = decide (bitv f (8 * y + 2 * x + h).toNat = 1) from fun _ _ _ => rfl, hx, hy] at hv
        rw [hx] at x0 x1
        rw [hy] at y0 y1
        have hhb := half_bit (f : Int) y x h (by omega)
        have hwx : wrap64 x = x := w64 _ (by omega)
        have hwy : wrap64 y = y := w64 _ (by omega)
        rw [show 2 * (4 * y + x).toNat + h.toNat = (8 * y + 2 * x + h).toNat by omega] at hhb
        have hst := fun (n : Nat) => state_walk (f : Int) x y wr n ⟨by omega, by omega⟩
        have hsv : stateV (f : Int) x y = dig f (4 * y + x).toNat := by unfold stateV; rw [if_pos ⟨x0, x1, y0, y1⟩]
        rw [hsv] at hst
        have hbits := fun (n : Nat) => quiet_left (bits_walk F p nodes empty most (wr.drewN n) (HA.out.below (HB.out.trans ((pw_below_drewN (Below.refl _ _) n).mono HB.out.size))) i' (by omega) (by omega))
        rw [bitsAt_some (x := ⟨leafKey f, (popN 32 f : Nat)⟩) (by rw [Int.toNat_natCast]; exact HR.out.1), show (leafKey (f : Int)).bits = (f : Int) from rfl] at hbits
        have hres : (Go.bits .and .i64 (shr .i64 (dig f (4 * y + x).toNat) h) 1 == 1) = q.has (A - L) (B - L) h := by
          rw [← hv]
          by_cases hb : Go.bits .and .i64 (shr .i64 (dig f (4 * y + x).toNat) h) 1 = 1
          · rw [decide_eq_true (hhb.1 hb)]; simpa using hb
          · rw [decide_eq_false (fun e => hb (hhb.2 e))]; simpa using hb
        have HRES := Aside0.mk hres
        have HST := Aside0.mk hst
        have HBITS := Aside0.mk hbits
        generalize dig f (4 * y + x).toNat = dg at *
        clear hres hst hbits hv hhb hsv hil hns hbd HV HIN HBD HR HLQ hlv' h44 e4 x0 x1 y0 y1
        go_upto_region 10 with (fail)
        go_quiet (first | (go_at_call 48; exact HBITS.out _) | (go_at_call 29; exact HST.out _))
        go_wp2_with (fail)
        have hshr : shr .i64 dg h = dg / 2 ^ h.toNat := by
          have : h = 0 ∨ h = 1 := by omega
          rcases this with rfl | rfl <;> rfl
        go_ret
        refine ⟨?_, below_drewN HB.out _⟩
        rw [← hshr, HRES.out]
        rfl
    | succ m =>
      cases q' with
      | leaf f => exact absurd HLQ.out (by show ¬ (2 : Int) = _; omega)
      | node qa qb qc qd =>
        obtain ⟨k0, k1, k2, k3, hkey, hkid⟩ := rep_kid HR.out
        have hil := HR.out.lt
        have hns := HA.out.size
        have hex : qa.ex + 1 = lv' := by have h1 := HLQ.out; rw [Q.lv_ex] at h1; have : (Q.node qa qb qc qd).ex = qa.ex + 1 := rfl; omega
        have hbd := HBD.out
        rw [show (Q.node qa qb qc qd).ex = qa.ex + 1 from rfl] at hbd
        have h2e : (2 : Int) ^ (qa.ex + 1) = 2 * pw qa.ex := by have := pw_succ qa.ex; unfold pw at *; omega
        rw [h2e] at hbd
        have hqw := fun w => quarter_walk qa.ex (by omega) la lb' A B (by have := pw_pos qa.ex; omega) (by have := pw_pos qa.ex; omega) w
        obtain ⟨jq, hjq⟩ : ∃ jq, qi (pw qa.ex) la lb' ⟨A, B⟩ = jq := ⟨_, rfl⟩
        have hj4 : jq < 4 := by rw [← hjq]; exact qi_lt _ _ _ _
        have hjv := qi_val (pw qa.ex) la lb' ⟨A, B⟩
        dsimp only at hjv
        have hdn := has_down (a := qa) (b := qb) (c := qc) (d := qd) la lb' A B h HIN.out
        have hqb := quart_bd (pw qa.ex) la lb' A B (pw_pos _) 8796093022208 hbd.1 hbd.2
        rw [hjq] at hjv hdn
        rw [← hjv, show ((qa.ex : Int) + 1) = (lv' : Int) by omega] at hqw
        obtain ⟨hkr, hkl⟩ := hkid jq hj4
        obtain ⟨la2, hla2⟩ : ∃ x, (quart (pw qa.ex) la lb' A B).2.1 = x := ⟨_, rfl⟩
        obtain ⟨lb2, hlb2⟩ : ∃ x, (quart (pw qa.ex) la lb' A B).2.2 = x := ⟨_, rfl⟩
        rw [hla2, hlb2] at hdn hqb
        simp only [hla2, hlb2] at hqw
        obtain ⟨qk, hqk⟩ : ∃ x, Q.kid (.node qa qb qc qd) jq = x := ⟨_, rfl⟩
        rw [hqk] at hdn hkr hkl
        have hkex := Q.ex_of_lv hkl
        rw [← hkex] at hdn hqb
        have hkd := fun (W : World) (hb : Below w.heap.size w W) => kids_walk F p nodes empty most W (HA.out.below hb) i' (by omega) (by omega)
        rw [hkey] at hkd
        unfold kidsVal at hkd
        dsimp only at hkd
        have hidx := fun (w : World) => index4v w k0 k1 k2 k3 jq hj4
        generalize [k0, k1, k2, k3].getD jq 0 = kk at *
        have HQW := Aside0.mk hqw
        have HKD := Aside0.mk hkd
        have HN1 : Aside0 (qk.lv = ((lv' - 1 : Nat) : Int)) := ⟨by rw [Q.lv_ex, hkex]; omega⟩
        have HN2 := Aside0.mk hkr
        have HN3 : Aside0 (qk.has (A - la2) (B - lb2) h = q.has (A - L) (B - L) h) := ⟨by rw [← hdn.1]; exact HV.out⟩
        have HN4 := Aside0.mk hdn.2
        have HN5 := Aside0.mk hqb
        have hXC : C ≠ XL := by have := HCX.out; omega
        have hgt2 : (2 : Int) < (lv' : Int) := by omega
        have HLVE := Aside0.mk hlv'
        have hlv2 : 3 ≤ lv' := by omega
        clear hlv' hqw hkd hkr hkl hkex hdn hqb hla2 hlb2 hqk hkid hkey hil hns hex hbd h2e hjv hjq HIN HBD HR HV HLQ
        go_wp2_with (first | (go_at_call 46; with_reducible refine (HQW.out _).mono ?_; rintro e w6 ⟨rfl, hb6⟩; replace c0 := pw_cell_below hb6 c0; replace c1 := pw_cell_below hb6 c1; replace c2 := pw_cell_below hb6 c2; replace l0 := pw_cell_below hb6 l0; replace l1 := pw_cell_below hb6 l1; have HK6 := Aside0.mk (blk_below HKL.out hb6); replace f0 := blk_frozen HK6.out 0; replace f1 := blk_frozen HK6.out 1; have HB6 := Aside0.mk hb6; clear hb6))
        have hwX : w.heap.size ≤ XL := by have h1 := HCX.out; have h2 := HCW.out; omega
        have HB7 := Aside0.mk (((HB.out.trans (HB6.out.mono HB.out.size)).setCell (p := ⟨XL, 0, none⟩) hwX (.int .i64 la2)).setCell (p := ⟨XL, 1, none⟩) hwX (.int .i64 lb2))
        have HK7 := Aside0.mk (show ((w6.setCell ⟨XL, 0, none⟩ (.int .i64 la2)).setCell ⟨XL, 1, none⟩ (.int .i64 lb2)).heap[XL]? = some (.cells #[.int .i64 la2, .int .i64 lb2] 32 (0, 0)) from blk_put (blk_set HK6.out 0 (.int .i64 la2)) 1 (.int .i64 lb2) rfl)
        replace c0 := Go.Proofs.Ytpmipllohiiocaa.ar.cell_far (b := XL) (i := 1) (u := .int .i64 lb2) hXC (Go.Proofs.Ytpmipllohiiocaa.ar.cell_far (b := XL) (i := 0) (u := .int .i64 la2) hXC c0)
        replace c1 := Go.Proofs.Ytpmipllohiiocaa.ar.cell_far (b := XL) (i := 1) (u := .int .i64 lb2) hXC (Go.Proofs.Ytpmipllohiiocaa.ar.cell_far (b := XL) (i := 0) (u := .int .i64 la2) hXC c1)
        replace c2 := Go.Proofs.Ytpmipllohiiocaa.ar.cell_far (b := XL) (i := 1) (u := .int .i64 lb2) hXC (Go.Proofs.Ytpmipllohiiocaa.ar.cell_far (b := XL) (i := 0) (u := .int .i64 la2) hXC c2)
        clear l0 l1 f0 f1 HK6 HB6 HB HC0 HKL hwX
        generalize (w6.setCell ⟨XL, 0, none⟩ (.int .i64 la2)).setCell ⟨XL, 1, none⟩ (.int .i64 lb2) = w7 at *
        have HKD7 := Aside0.mk (HKD.out w7 HB7.out)
        with_reducible refine HKD7.out.mono ?_
        rintro e w8 ⟨rfl, hb8⟩
        have HC8 : Aside0 (w8.cell? ⟨C, 0, none⟩ = some (.int .i64 A) ∧ w8.cell? ⟨C, 1, none⟩ = some (.int .i64 B) ∧ w8.cell? ⟨C, 2, none⟩ = some (.int .i64 h)) := ⟨pw_cell_below hb8 c0, pw_cell_below hb8 c1, pw_cell_below hb8 c2⟩
        have HK8 := Aside0.mk (blk_below HK7.out hb8)
        have HB8 := Aside0.mk (HB7.out.trans (hb8.mono HB7.out.size))
        clear hb8 HK7 HB7 HKD HKD7 c0 c1 c2 HQW
        go_wp2_with (fail)
        go_roundg m
        case measure => omega
        case rel => exact ⟨qk, kk, lv' - 1, la2, lb2, by have := HLVE.out; omega, by omega, HN1, rfl, by go_num, HN2, HN3, HN4, HN5, HC8, HK8, HB8⟩
theorem get_walk (hA : Ar w F p nodes empty most) (q : Q) (k : Nat) (hR : Rep nodes q k) (h44 : q.lv ≤ 44) (A B h : Int) :
    Calls Try.prog 25 #[.pointer (some ⟨p, 0, none⟩), .int .u32 k, .agg #[.int .i64 A, .int .i64 B, .int .i64 h]] w fun e w' => e = .returned (.bool (getQ q A B h)) ∧ Below w.heap.size w w' := by
  unfold getQ
  by_cases hc : 3 ≤ q.lv ∧ Ins (pw (hx q.lv)) A B ∧ 0 ≤ h ∧ h ≤ 1
  · rw [if_pos hc]
    exact get_yes hA q k hR A B h hc.1 h44 hc.2.1 hc.2.2
  · rw [if_neg hc]
    have hl := hR.lt
    have hs := hA.size
    exact get_no hA k (by omega) (by omega) A B h (by rw [hR.lv]; exact hc)
end
end Go.Proofs.Ytpmipllohiiocaa.tr
namespace Go.Proofs.Ytpmipllohiiocaa.tr
open Go.RowKit Go.Proofs.Ytpmipllohiiocaa.PTreeBuilds Go.Proofs.YtpmipllohiiocaaW.PrintWords Go.Proofs.YtpmipllohiiocaaW.PrintLast Go.Proofs.YtpmipllohiiocaaW.PrintMore Go.Proofs.Ytpmipllohiiocaa.bs Go.ChangeShapes Go.Proofs.Ytpmipllohiiocaa.lb Go.Proofs.Ytpmipllohiiocaa.ar Go.Maps

abbrev Rc := S42
instance : DecidableEq Cl := fun a b => decidable_of_iff (a.f0.f0 = b.f0.f0 ∧ a.f0.f1 = b.f0.f1 ∧ a.f1 = b.f1) ⟨fun ⟨h1, h2, h3⟩ => by
  obtain ⟨⟨x, y⟩, z⟩ := a
  obtain ⟨⟨x', y'⟩, z'⟩ := b
  dsimp only at h1 h2 h3
  rw [h1, h2, h3], fun h => by rw [h]; exact ⟨rfl, rfl, rfl⟩⟩
/-- the level of a set's root -/
def rlv : List Cl → Nat
  | [] => 3
  | c0 :: cs => bxLv (bxOf c0 cs)
/-- is each cell inside the root? -/
def rootIn : List Cl → Prop
  | [] => True
  | c0 :: cs => BxIn (bxOf c0 cs)
/-- the root of a set -/
def rootQ (cs : List Cl) : Q := sqQ cs (rlv cs - 2) (-pw (rlv cs - 1)) (-pw (rlv cs - 1))
theorem rlv_bd (cs : List Cl) : 3 ≤ rlv cs ∧ rlv cs ≤ 44 := by
  cases cs with
  | nil => exact ⟨Nat.le_refl _, by decide⟩
  | cons c0 cs => exact (lvl_tells _ _ _ _).1
theorem rootQ_lv (cs : List Cl) : (rootQ cs).lv = (rlv cs : Int) := by
  have := rlv_bd cs
  unfold rootQ
  rw [sqQ_lv]
  omega
theorem rootQ_ex (cs : List Cl) : (rootQ cs).ex = rlv cs := by
  have h := rootQ_lv cs
  rw [Q.lv_ex] at h
  omega
theorem rootQ_nil : rootQ [] = emptyQ 1 := by
  show canQ (fun a b => (Gl [] a b).toNat) 1 _ _ = _
  rw [show (fun a b => (Gl [] a b).toNat) = (fun (_ _ : Int) => 0) from rfl, canQ_zero]
/-- cells of at most that far are inside the root -/
theorem rootIn_of {cs : List Cl} (h : ∀ c ∈ cs, (-8796093022208 ≤ c.f0.f0 ∧ c.f0.f0 < 8796093022208) ∧ (-8796093022208 ≤ c.f0.f1 ∧ c.f0.f1 < 8796093022208)) : rootIn cs := by
  cases cs with
  | nil => exact trivial
  | cons c0 cs =>
    show BxIn _
    obtain ⟨h1, h2, _⟩ := lvl_tells (bxOf c0 cs).la (bxOf c0 cs).lb (bxOf c0 cs).ha (bxOf c0 cs).hb
    rcases h2 with h2 | h2
    · have key : ∀ (l : List Cl) (b : Bx), (-8796093022208 ≤ b.la ∧ b.ha < 8796093022208 ∧ -8796093022208 ≤ b.lb ∧ b.hb < 8796093022208 ∧ b.la ≤ b.ha ∧ b.lb ≤ b.hb) → (∀ c ∈ l, (-8796093022208 ≤ c.f0.f0 ∧ c.f0.f0 < 8796093022208) ∧ (-8796093022208 ≤ c.f0.f1 ∧ c.f0.f1 < 8796093022208)) →
          (-8796093022208 ≤ (boxL b l).la ∧ (boxL b l).ha < 8796093022208 ∧ -8796093022208 ≤ (boxL b l).lb ∧ (boxL b l).hb < 8796093022208 ∧ (boxL b l).la ≤ (boxL b l).ha ∧ (boxL b l).lb ≤ (boxL b l).hb) := by
        intro l
        induction l with
        | nil => intro b hb _; exact hb
        | cons x l ih =>
          intro b hb hl
          have hx := hl x (by simp)
          refine ih (b.add x) ?_ (fun c hc => hl c (by simp [hc]))
          have a1 : (b.add x).la = min b.la x.f0.f0 := rfl
          have a2 : (b.add x).lb = min b.lb x.f0.f1 := rfl
          have a3 : (b.add x).ha = max b.ha x.f0.f0 := rfl
          have a4 : (b.add x).hb = max b.hb x.f0.f1 := rfl
          omega
      have h0 := h c0 (by simp)
      have hk := key (c0 :: cs) (Bx.one c0) (by unfold Bx.one; dsimp only; omega) h
      rw [show boxL (Bx.one c0) (c0 :: cs) = bxOf c0 cs from rfl] at hk
      have e43 : pw 43 = 8796093022208 := by decide
      unfold BxIn bxLv Ins
      rw [h2, show 44 - 1 = 43 from rfl, e43]
      omega
    · exact h2
theorem rootQ_has (cs : List Cl) (hcs : ∀ c ∈ cs, ClOk c) (x y h : Int) (hi : InQ (rlv cs) x y h) : (rootQ cs).has x y h = true ↔ (⟨⟨x - pw (rlv cs - 1), y - pw (rlv cs - 1)⟩, h⟩ : Cl) ∈ cs := by
  have hb := rlv_bd cs
  have hm : pw (rlv cs - 1) % 4 = 0 := by
    obtain ⟨m, hm⟩ : ∃ m, rlv cs - 1 = m + 1 + 1 := ⟨rlv cs - 3, by omega⟩
    rw [hm, pw_succ, pw_succ]; omega
  unfold rootQ
  rw [sqQ_has cs hcs _ _ _ _ _ _ (by omega) (by omega) (by rw [show rlv cs - 2 + 2 = rlv cs by omega]; exact hi)]
  rw [show -pw (rlv cs - 1) + x = x - pw (rlv cs - 1) by omega, show -pw (rlv cs - 1) + y = y - pw (rlv cs - 1) by omega]
/-- what Get says of a set's root -/
theorem getQ_root (cs : List Cl) (hcs : ∀ c ∈ cs, ClOk c) (hin : rootIn cs) (A B h : Int) : getQ (rootQ cs) A B h = decide ((⟨⟨A, B⟩, h⟩ : Cl) ∈ cs) := by
  have hb := rlv_bd cs
  unfold getQ
  rw [rootQ_lv, hx_nat _ (by omega) (by omega)]
  by_cases hc : (3 : Int) ≤ (rlv cs : Int) ∧ Ins (pw (rlv cs - 1)) A B ∧ 0 ≤ h ∧ h ≤ 1
  · rw [if_pos hc]
    obtain ⟨_, ⟨i1, i2, i3, i4⟩, h0, h1⟩ := hc
    have hp : (2 : Int) ^ (rlv cs) = 2 * pw (rlv cs - 1) := by
      have := pw_succ (rlv cs - 1)
      rw [show rlv cs - 1 + 1 = rlv cs by omega] at this
      unfold pw at *; omega
    have hh := rootQ_has cs hcs (A + pw (rlv cs - 1)) (B + pw (rlv cs - 1)) h ⟨by omega, by rw [hp]; omega, by omega, by rw [hp]; omega, h0, by omega⟩
    rw [Int.add_sub_cancel, Int.add_sub_cancel] at hh
    by_cases hm : (⟨⟨A, B⟩, h⟩ : Cl) ∈ cs
    · rw [decide_eq_true hm]; exact hh.2 hm
    · rw [decide_eq_false hm]
      cases hq : (rootQ cs).has (A + pw (rlv cs - 1)) (B + pw (rlv cs - 1)) h
      · rfl
      · exact absurd (hh.1 hq) hm
  · rw [if_neg hc]
    symm
    rw [decide_eq_false_iff_not]
    intro hm
    apply hc
    have hok := hcs _ hm
    have hhh := hok.h
    refine ⟨by omega, ?_, hhh.1, by have := hhh.2; dsimp only at this; omega⟩
    cases cs with
    | nil => simp at hm
    | cons c0 cs0 =>
      have hle := (boxL_le (c0 :: cs0) (Bx.one c0)).2.2.2.2 _ hm
      rw [show boxL (Bx.one c0) (c0 :: cs0) = bxOf c0 cs0 from rfl] at hle
      obtain ⟨⟨j1, j2, j3, j4⟩, ⟨j5, j6, j7, j8⟩⟩ := (show BxIn (bxOf c0 cs0) from hin)
      show Ins (pw (bxLv (bxOf c0 cs0) - 1)) A B
      dsimp only at hle
      exact ⟨by omega, by omega, by omega, by omega⟩
section
variable {w0 w w1 w2 w3 : World} {F F' F2 S : Nat → Prop} {p : Nat} {nodes nodes' nodes2 : List Nd} {empty empty' empty2 : List Int} {most : Int}
theorem tbuild_walk (hT : Tr w0 w F p nodes empty most) (A : Option Addr) (c : Nat) (cs : List Cl) (hC : Kd.C k39 w A cs.length cs) (hcs : ∀ c ∈ cs, ClOk c) (hl : cs.length ≤ 1000000) (hin : rootIn cs)
    (hN : nodes.length + cs.length * 43 + 45 < 536870800 + empty.length) :
    Calls Try.prog 37 #[.pointer (some ⟨p, 0, none⟩), .slice A cs.length c] w fun e w' => Gets w0 w F p nodes empty most (rootQ cs) (cs.length * 43) (∃ i, Rep nodes (rootQ cs) i) e w' := by
  have hem := hT.emq.hi
  cases hcs0 : cs with
  | nil =>
    subst hcs0
    rw [rootQ_nil]
    exact (tbuild_nil hT A c hC (by omega)).mono fun e w' h => h.mono (by simp)
  | cons c0 cs0 =>
    rw [← hcs0]
    have hb := rlv_bd cs
    rw [hcs0] at hin
    have hr : rlv cs = bxLv (bxOf c0 cs0) := by rw [hcs0]; rfl
    have hm : cs.length * (bxLv (bxOf c0 cs0) - 1) ≤ cs.length * 43 := Nat.mul_le_mul_left _ (by omega)
    have := tbuild_ok hT A c c0 cs0 cs hcs0 hC hcs hl hin (by omega)
    unfold rootQ
    rw [hr]
    exact this.mono fun e w' h => h.mono hm
end
/-- the program's cell of the document's -/
def ownC (c : Rc) : Cl := ⟨⟨c.f0, c.f1⟩, c.f2⟩
theorem own_l0 (l : List Rc) (d : Nat) : ∀ (k i : Nat), i + d = min l.length 40 → d < k → honeycomblaw04_Own.l0 k l ((l.take i).map ownC) (i : Int) = some ((l.take 40).map ownC) := by
  induction d with
  | zero =>
    intro k i hi hk
    obtain ⟨k, rfl⟩ : ∃ m, k = m + 1 := ⟨k - 1, by omega⟩
    have e : l.take i = l.take 40 := by
      by_cases h : l.length ≤ 40
      · rw [List.take_of_length_le (by omega), List.take_of_length_le h]
      · rw [show i = 40 by omega]
    unfold honeycomblaw04_Own.l0
    by_cases h1 : (i : Int) < (l.length : Int)
    · rw [if_pos h1, if_neg (by omega), e]
    · rw [if_neg h1, e]
  | succ d ih =>
    intro k i hi hk
    obtain ⟨k, rfl⟩ : ∃ m, k = m + 1 := ⟨k - 1, by omega⟩
    have hlt : i < l.length := by omega
    have hrd : rd_T42 l (i : Int) = l[i] := by unfold rd_T42; simp [hlt]
    have IH := ih k (i + 1) (by omega) (by omega)
    have hw : wrap64 ((i : Int) + 1) = ((i + 1 : Nat) : Int) := by rw [w64 _ (by omega)]; omega
    unfold honeycomblaw04_Own.l0
    rw [if_pos (by omega), if_pos (by omega), if_pos (by omega)]
    show (if _ < _ then _ else _) = _
    rw [if_pos (by rw [List.length_map, List.length_take]; omega), hw, ← IH, List.take_succ_eq_append_getElem hlt, List.map_append, hrd]
    rfl
theorem own_val (l : List Rc) (k : Nat) (hk : 40 < k) : honeycomblaw04_Own.f k l = some ((l.take 40).map ownC) := by
  exact own_l0 l (min l.length 40) k 0 (by omega) (by omega)
theorem own4_walk (l : List Rc) (A : Option Addr) (c : Nat) (w : World) (hC : Kd.C k42 w A l.length l) (hc : l.length ≤ c) :
    Calls Try.prog 38 #[.slice A l.length c] w fun e w' => ∃ A' c', e = .returned (.slice A' ((l.take 40).map ownC).length c') ∧ ((l.take 40).map ownC).length ≤ c' ∧ Kd.C k39 w' A' ((l.take 40).map ownC).length ((l.take 40).map ownC) ∧ Below w.heap.size w w' := by
  refine (honeycomblaw04_Own.calls 41 A c l _ w hC hc (own_val l 41 (by omega))).mono fun e w' ⟨v, he, hr, hb⟩ => ?_
  obtain ⟨A', c', rfl, hcc, hC'⟩ := Kd.R_reads hr
  exact ⟨A', c', he, hcc, hC', hb⟩
/-- what Make leaves -/
def MakePost (cs : List Cl) (w : World) (e : Ending) (w' : World) : Prop :=
  ∃ p F nodes empty, ∃ i : Nat, e = .returned (.tuple #[.pointer (some ⟨p, 0, none⟩), .int .u32 i, .bool true]) ∧ Tr w w' F p nodes empty 1048576 ∧ Rep nodes (rootQ cs) i ∧ nodes.length + 3 ≤ 1 + cs.length * 43 + empty.length ∧ Below w.heap.size w w'
set_option maxRecDepth 100000 in
set_option maxHeartbeats 2000000 in
theorem make_walk (l : List Rc) (A : Option Addr) (c : Nat) (w : World) (hC : Kd.C k42 w A l.length l) (hc : l.length ≤ c) (hcs : ∀ c ∈ (l.take 40).map ownC, ClOk c) (hin : rootIn ((l.take 40).map ownC)) :
    Calls Try.prog 17 #[.slice A l.length c] w fun e w' => MakePost ((l.take 40).map ownC) w e w' := by
  have hlen : ((l.take 40).map ownC).length ≤ 40 := by rw [List.length_map, List.length_take]; omega
  have hown := fun (w' : World) (hb : Below w.heap.size w w') => own4_walk l A c w' (Kd.C_below hC hb) hc
  have HOWN := Aside0.mk hown
  have HCS := Aside0.mk hcs
  have HIN := Aside0.mk hin
  generalize (l.take 40).map ownC = cs at *
  clear hC hown hcs hin hc
  generalize l.length = n at *
  go_enter Try.func17, Try.ntmps17
  go_wp2_with (first | (go_at_call 36; refine (tr_new 1048576 (by decide) _).mono ?_; rintro e w1 ⟨p, F, rfl, ht, hb1⟩; have HT := Aside0.mk ht; have HB1 := Aside0.mk hb1; clear ht hb1) | (go_at_call 38; refine (HOWN.out _ HB1.out).mono ?_; rintro e w2 ⟨A2, c2, rfl, hc2, hC2, hb2⟩; have HC2 := Aside0.mk hC2; have HB2 := Aside0.mk hb2; clear hc2 hC2 hb2) | (go_at_call 37; refine (tbuild_walk (HT.out.below HB2.out) A2 c2 cs HC2.out HCS.out (by omega) HIN.out (by simp; omega)).mono ?_; intro e w3 hp; obtain ⟨F3, nodes3, empty3, i3, rfl, hs3, hl3, hr3, _⟩ := Gets.sure hp (by simp; omega); have HS3 := Aside0.mk hs3; have HL3 := Aside0.mk hl3; have HR3 := Aside0.mk hr3; clear hp hs3 hl3 hr3))
  go_quiet (fail)
  go_wp2_with (fail)
  refine bodyPost_ret (v := .tuple #[.pointer (some ⟨p, 0, none⟩), .int .u32 (i3 : Int), .bool true]) (by simp [results, Try.results17, go_sem, *]) rfl ?_
  have hb2 := HB1.out.trans (HB2.out.mono HB1.out.size)
  have hb3 := HS3.out.belowAll (HT.out.below HB2.out) hb2
  exact ⟨p, F3, nodes3, empty3, i3, rfl, (HS3.out.tr).below (below_drewN (Below.refl _ _) _), HR3.out, by have h1 := HL3.out; simp at h1; omega, below_drewN hb3 _⟩
end Go.Proofs.Ytpmipllohiiocaa.tr
namespace Go.Proofs.Ytpmipllohiiocaa.tr
open Go.RowKit Go.Proofs.Ytpmipllohiiocaa.PTreeBuilds Go.Proofs.YtpmipllohiiocaaW.PrintWords Go.Proofs.YtpmipllohiiocaaW.PrintLast Go.Proofs.YtpmipllohiiocaaW.PrintMore Go.Proofs.Ytpmipllohiiocaa.bs Go.ChangeShapes Go.Proofs.Ytpmipllohiiocaa.lb Go.Proofs.Ytpmipllohiiocaa.ar Go.Maps

/-- the document's cells, written out in a block -/
def rcC (l : List Rc) : List Value := l.flatMap fun x => [.int .i64 x.f0, .int .i64 x.f1, .int .i64 x.f2]
theorem rcC_get : ∀ (l : List Rc) (j i : Nat) (x : Rc) (u : Value), l[j]? = some x → [Value.int .i64 x.f0, .int .i64 x.f1, .int .i64 x.f2][i]? = some u → (rcC l)[j * 3 + i]? = some u
  | [], j, i, x, u, h, _ => by simp at h
  | y :: l, 0, i, x, u, h, hu => by
    obtain rfl : y = x := by simpa using h
    have hi : i < 3 := (List.getElem?_eq_some_iff.1 hu).1
    show ([Value.int .i64 y.f0, .int .i64 y.f1, .int .i64 y.f2] ++ rcC l)[0 * 3 + i]? = _
    rw [List.getElem?_append_left (by simp; omega)]
    simpa using hu
  | y :: l, j + 1, i, x, u, h, hu => by
    have ih := rcC_get l j i x u (by simpa using h) hu
    show ([Value.int .i64 y.f0, .int .i64 y.f1, .int .i64 y.f2] ++ rcC l)[(j + 1) * 3 + i]? = _
    rw [List.getElem?_append_right (by simp; omega)]
    rw [show (j + 1) * 3 + i - [Value.int .i64 y.f0, .int .i64 y.f1, .int .i64 y.f2].length = j * 3 + i by simp; omega]
    exact ih
theorem rc_read {w : World} {g : Nat} {t : TypeId} {l : List Rc} (hb : w.heap[g]? = some (.cells (rcC l).toArray t (0, 0))) (hl : l.length ≤ 1000000) : Kd.C k42 w (some ⟨g, 0, none⟩) l.length l := by
  refine ⟨rfl, by omega, fun _ => ⟨_, rfl, fun j p hp => ⟨[.int .i64 p.f0, .int .i64 p.f1, .int .i64 p.f2], rfl, k42_mk _ _, fun i u hu => ?_⟩⟩⟩
  rw [add_plain, blk_cell hb, show k42.sz = 3 from rfl, List.getElem?_toArray]
  exact rcC_get l j i p u hp hu
/-- Make of cells that are near -/
theorem make_near {l : List Rc} {A : Option Addr} {c : Nat} {w : World} (hC : Kd.C k42 w A l.length l) (hc : l.length ≤ c) (hl : l.length ≤ 40) (hr : ∀ x ∈ l, (-8796093022208 ≤ x.f0 ∧ x.f0 < 8796093022208) ∧ (-8796093022208 ≤ x.f1 ∧ x.f1 < 8796093022208) ∧ 0 ≤ x.f2 ∧ x.f2 < 2) :
    Calls Try.prog 17 #[.slice A l.length c] w fun e w' => MakePost (l.map ownC) w e w' := by
  have e : l.take 40 = l := List.take_of_length_le hl
  have := make_walk l A c w hC hc (by
    rw [e]
    intro c hc
    obtain ⟨x, hx, rfl⟩ := List.mem_map.1 hc
    have := hr x hx
    exact ⟨by show _ ≤ x.f0 ∧ x.f0 ≤ _; omega, by show _ ≤ x.f1 ∧ x.f1 ≤ _; omega, by show _ ≤ x.f2 ∧ x.f2 < _; omega⟩) (by
    rw [e]
    refine rootIn_of fun c hc => ?_
    obtain ⟨x, hx, rfl⟩ := List.mem_map.1 hc
    have := hr x hx
    exact ⟨by show _ ≤ x.f0 ∧ x.f0 < _; omega, by show _ ≤ x.f1 ∧ x.f1 < _; omega⟩)
  rw [e] at this
  exact this
theorem near_ok {l : List Rc} (hr : ∀ x ∈ l, (-8796093022208 ≤ x.f0 ∧ x.f0 < 8796093022208) ∧ (-8796093022208 ≤ x.f1 ∧ x.f1 < 8796093022208) ∧ 0 ≤ x.f2 ∧ x.f2 < 2) : (∀ c ∈ l.map ownC, ClOk c) ∧ rootIn (l.map ownC) := by
  constructor
  · intro c hc
    obtain ⟨x, hx, rfl⟩ := List.mem_map.1 hc
    have := hr x hx
    exact ⟨by show _ ≤ x.f0 ∧ x.f0 ≤ _; omega, by show _ ≤ x.f1 ∧ x.f1 ≤ _; omega, by show _ ≤ x.f2 ∧ x.f2 < _; omega⟩
  · refine rootIn_of fun c hc => ?_
    obtain ⟨x, hx, rfl⟩ := List.mem_map.1 hc
    have := hr x hx
    exact ⟨by show _ ≤ x.f0 ∧ x.f0 < _; omega, by show _ ≤ x.f1 ∧ x.f1 < _; omega⟩
def aw1 : List Rc := [⟨3, 0, 0⟩, ⟨-4, 3, 0⟩]
def aw2 : List Rc := [⟨4, 0, 0⟩]
theorem aw1_lv : rlv (aw1.map ownC) = 3 := by decide
theorem aw2_lv : rlv (aw2.map ownC) = 4 := by decide
set_option maxRecDepth 100000 in
set_option maxHeartbeats 2000000 in
theorem awake_walk (w : World) : Calls Try.prog 15 #[] w fun e w' => e = .returned (.bool true) ∧ Below w.heap.size w w' := by
  have h1 : ∀ x ∈ aw1, (-8796093022208 ≤ x.f0 ∧ x.f0 < 8796093022208) ∧ (-8796093022208 ≤ x.f1 ∧ x.f1 < 8796093022208) ∧ 0 ≤ x.f2 ∧ x.f2 < 2 := by decide
  have h2 : ∀ x ∈ aw2, (-8796093022208 ≤ x.f0 ∧ x.f0 < 8796093022208) ∧ (-8796093022208 ≤ x.f1 ∧ x.f1 < 8796093022208) ∧ 0 ≤ x.f2 ∧ x.f2 < 2 := by decide
  have hm1 := make_near (l := aw1) (c := 2) (w := w.alloc (.cells (rcC aw1).toArray 42)) (rc_read (blk_new w (.cells (rcC aw1).toArray 42)) (by decide)) (by decide) (by decide) h1
  have hm2 := fun (w : World) => make_near (l := aw2) (c := 1) (w := w.alloc (.cells (rcC aw2).toArray 42)) (rc_read (blk_new w (.cells (rcC aw2).toArray 42)) (by decide)) (by decide) (by decide) h2
  have HM1 := Aside0.mk hm1
  have HM2 := Aside0.mk hm2
  have HO1 := Aside0.mk (near_ok h1)
  have hown := fun (w : World) => honeycomblaw03_Own.calls 3 0 0 3 0 0 w rfl
  have hhalf := fun (w : World) => tree_Half.calls 44 _ w (half_val 44)
  rw [show pw (hx 44) = 8796093022208 by decide] at hhalf
  have HOWN := Aside0.mk hown
  have HHALF := Aside0.mk hhalf
  clear h1 h2 hm1 hm2 hown hhalf
  go_enter Try.func15, Try.ntmps15
  go_upto_region 2 with (go_at_call 17; refine Calls.mono HM1.out ?_; rintro e w1 ⟨p1, F1, nodes1, empty1, i1, rfl, ht1, hr1, _, hb1⟩; have HT1 := Aside0.mk ht1; have HR1 := Aside0.mk hr1; have HB1 := Aside0.mk hb1; clear ht1 hr1 hb1)
  go_upto_region 3 with (go_at_call 17; refine Calls.mono (HM2.out _) ?_; rintro e w2 ⟨p2, F2, nodes2, empty2, i2, rfl, ht2, hr2, _, hb2⟩; have HT2 := Aside0.mk ht2; have HR2 := Aside0.mk hr2; have HB2 := Aside0.mk hb2; clear ht2 hr2 hb2)
  have hbw := below_alloc (Below.refl w1.heap.size w1) (.cells (rcC aw2).toArray 42)
  have hb2 := hbw.trans (HB2.out.mono hbw.size)
  have hT1 := HT1.out.below hb2
  have hn1 := HT1.out.hold.ar.size
  have hn2 := HT2.out.hold.ar.size
  have hl1 := level_walk F1 p1 nodes1 empty1 1048576 w2 hT1.hold.ar i1 (by omega) (by have := HR1.out.lt; omega)
  rw [HR1.out.lv, rootQ_lv, aw1_lv] at hl1
  have hl2 := level_walk F2 p2 nodes2 empty2 1048576 w2 HT2.out.hold.ar i2 (by omega) (by have := HR2.out.lt; omega)
  rw [HR2.out.lv, rootQ_lv, aw2_lv] at hl2
  have hget := fun (W : World) (hb : Below w2.heap.size w2 W) => get_walk (hT1.below hb).hold.ar (rootQ (aw1.map ownC)) i1 HR1.out (by rw [rootQ_lv, aw1_lv]; decide) 3 0 0
  rw [getQ_root _ HO1.out.1 HO1.out.2, decide_eq_true (by decide)] at hget
  have HL1 := Aside0.mk hl1
  have HL2 := Aside0.mk hl2
  have HGET := Aside0.mk hget
  have HBA := Aside0.mk ((below_alloc (Below.refl w.heap.size w) (.cells (rcC aw1).toArray 42)).trans (HB1.out.mono (below_alloc (Below.refl w.heap.size w) (.cells (rcC aw1).toArray 42)).size))
  have HBB := Aside0.mk (HBA.out.trans (hb2.mono HBA.out.size))
  clear hbw hb2 hT1 hn1 hn2 hl1 hl2 hget
  go_wp2_with (first | (go_at_call 22; with_reducible refine HL1.out.mono ?_; rintro e w3 ⟨rfl, rfl⟩) | (go_at_call 22; with_reducible refine HL2.out.mono ?_; rintro e w3 ⟨rfl, rfl⟩) | (go_at_call 26; refine (HOWN.out _).mono ?_; rintro e w4 ⟨rfl, hb4⟩; have HB4 := Aside0.mk hb4; clear hb4) | (go_at_call 25; refine (HGET.out _ HB4.out).mono ?_; rintro e w5 ⟨rfl, hb5⟩; have HB5 := Aside0.mk hb5; clear hb5) | (go_at_call 34; refine (HHALF.out _).mono ?_; rintro e w6 ⟨rfl, hb6⟩; have HB6 := Aside0.mk hb6; clear hb6))
  go_ret
  exact ⟨rfl, HBB.out.trans ((HB4.out.trans ((HB5.out.trans (HB6.out.mono HB5.out.size)).mono HB4.out.size)).mono HBB.out.size)⟩
end Go.Proofs.Ytpmipllohiiocaa.tr
