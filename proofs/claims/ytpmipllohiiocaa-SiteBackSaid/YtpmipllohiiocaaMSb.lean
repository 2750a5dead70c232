/- The walk over law04's Some: at most 40 cells of small coordinates, as a set. -/
import Derived.Test.YtpmipllohiiocaaMVs
import Derived.Lib.SliceRun
import Derived.Test.YtpmipllohiiocaaMSh
import Derived.Test.YtpmipllohiiocaaMBd
import Derived.Test.YtpmipllohiiocaaQTreeBuildsx7
namespace Go.Proofs.Ytpmipllohiiocaa.tr
open Go.RowKit Go.Proofs.Ytpmipllohiiocaa.PTreeBuilds Go.Proofs.YtpmipllohiiocaaW.PrintWords Go.Proofs.YtpmipllohiiocaaW.PrintLast Go.Proofs.YtpmipllohiiocaaW.PrintMore Go.Proofs.Ytpmipllohiiocaa.bs Go.ChangeShapes Go.Proofs.Ytpmipllohiiocaa.lb Go.Proofs.Ytpmipllohiiocaa.ar Go.Maps

instance decCl : DecidableEq Cl := fun a b => decidable_of_iff (a.f0.f0 = b.f0.f0 ∧ a.f0.f1 = b.f0.f1 ∧ a.f1 = b.f1) ⟨fun ⟨h1, h2, h3⟩ => by
  obtain ⟨⟨x, y⟩, z⟩ := a
  obtain ⟨⟨x', y'⟩, z'⟩ := b
  dsimp only at h1 h2 h3
  rw [h1, h2, h3], fun h => by rw [h]; exact ⟨rfl, rfl, rfl⟩⟩
def stepD (acc : List Cl) (x : Cl) : List Cl := if acc.getLast? = some x then acc else acc ++ [x]
/-- a list without neighbours that are the same -/
def dd (l : List Cl) : List Cl := l.foldl stepD []
theorem dd_snoc (l : List Cl) (x : Cl) : dd (l ++ [x]) = stepD (dd l) x := by unfold dd; rw [List.foldl_append]; rfl
theorem snoc_ind {P : List Cl → Prop} (h0 : P []) (h1 : ∀ l x, P l → P (l ++ [x])) (l : List Cl) : P l := by
  have key : ∀ (n : Nat) (l : List Cl), l.length = n → P l := by
    intro n
    induction n with
    | zero => intro l hl; rw [List.length_eq_zero_iff.1 hl]; exact h0
    | succ n ih =>
      intro l hl
      have hne : l ≠ [] := by intro e; rw [e] at hl; simp at hl
      rw [← List.dropLast_concat_getLast hne]
      exact h1 _ _ (ih _ (by simp; omega))
  exact key _ l rfl
theorem dd_last (l : List Cl) : (dd l).getLast? = l.getLast? := by
  refine snoc_ind (P := fun l => (dd l).getLast? = l.getLast?) rfl (fun l x ih => ?_) l
  rw [dd_snoc, List.getLast?_concat]
  unfold stepD
  split
  · assumption
  · exact List.getLast?_concat
theorem mem_dd (l : List Cl) (c : Cl) : c ∈ dd l ↔ c ∈ l := by
  refine snoc_ind (P := fun l => c ∈ dd l ↔ c ∈ l) (by simp [dd]) (fun l x ih => ?_) l
  rw [dd_snoc, List.mem_append, List.mem_singleton]
  unfold stepD
  split
  · rename_i h
    rw [ih]
    constructor
    · exact .inl
    · rintro (h2 | rfl)
      · exact h2
      · exact ih.1 (List.mem_of_getLast? h)
  · rw [List.mem_append, List.mem_singleton, ih]
theorem dd_len (l : List Cl) : (dd l).length ≤ l.length := by
  refine snoc_ind (P := fun l => (dd l).length ≤ l.length) (Nat.le_refl _) (fun l x ih => ?_) l
  rw [dd_snoc]
  unfold stepD
  split
  · simp; omega
  · simp; omega
theorem dd_strict {l : List Cl} (h : l.Pairwise (fun x y => ltC y x = false)) : (dd l).Pairwise (fun x y => ltC x y = true) := by
  revert h
  refine snoc_ind (P := fun l => l.Pairwise (fun x y => ltC y x = false) → (dd l).Pairwise (fun x y => ltC x y = true)) (fun _ => List.Pairwise.nil) (fun l x ih h => ?_) l
  obtain ⟨h1, _, h3⟩ := List.pairwise_append.1 h
  have ih2 := ih h1
  rw [dd_snoc]
  unfold stepD
  split
  · exact ih2
  · rename_i hl
    refine List.pairwise_append.2 ⟨ih2, List.pairwise_singleton _ _, fun c hc y hy => ?_⟩
    obtain rfl := List.mem_singleton.1 hy
    have hcl := (mem_dd l c).1 hc
    have h4 := h3 c hcl y List.mem_cons_self
    by_cases e : ltC c y = true
    · exact e
    · exfalso
      have hcy : c = y := ltC_tot c y (by simpa using e) h4
      subst hcy
      obtain ⟨z, hz⟩ : ∃ z, (dd l).getLast? = some z := by
        cases hg : (dd l).getLast? with
        | none => rw [List.getLast?_eq_none_iff] at hg; rw [hg] at hc; simp at hc
        | some z => exact ⟨z, rfl⟩
      have hzc : z ≠ c := fun e2 => hl (by rw [hz, e2])
      have hne : dd l ≠ [] := fun e2 => by rw [e2] at hc; simp at hc
      have hd := List.dropLast_concat_getLast hne
      have hzl : (dd l).getLast hne = z := by
        rw [List.getLast?_eq_some_getLast hne] at hz
        exact Option.some.inj hz
      rw [hzl] at hd
      rw [← hd] at ih2 hc
      obtain ⟨_, _, h5⟩ := List.pairwise_append.1 ih2
      rcases List.mem_append.1 hc with hc | hc
      · have h6 := h5 c hc z List.mem_cons_self
        have h7 := h3 z ((mem_dd l z).1 (by rw [← hd]; simp)) c List.mem_cons_self
        rw [h6] at h7
        cases h7
      · exact hzc (List.mem_singleton.1 hc).symm
theorem take_snoc {l : List Cl} {m : Nat} {x : Cl} (h : l[m]? = some x) : l.take (m + 1) = l.take m ++ [x] := by
  obtain ⟨hlt, e⟩ := List.getElem?_eq_some_iff.1 h
  rw [List.take_succ_eq_append_getElem hlt, e]
theorem dd_same {l : List Cl} {m : Nat} {x : Cl} (h0 : l[m]? = some x) (h1 : l[m + 1]? = some x) : dd (l.take (m + 1 + 1)) = dd (l.take (m + 1)) := by
  rw [take_snoc h1, dd_snoc]
  unfold stepD
  rw [if_pos (by rw [dd_last, take_snoc h0]; exact List.getLast?_concat)]
theorem dd_other {l : List Cl} {m : Nat} {x y : Cl} (h0 : l[m]? = some x) (h1 : l[m + 1]? = some y) (hne : x ≠ y) : dd (l.take (m + 1 + 1)) = dd (l.take (m + 1)) ++ [y] := by
  rw [take_snoc h1, dd_snoc]
  unfold stepD
  rw [if_neg (by rw [dd_last, take_snoc h0, List.getLast?_concat]; exact fun e => hne (Option.some.inj e))]
/-- without same neighbours a list is as it was -/
theorem dd_all {l : List Cl} : ∀ (m : Nat), m ≤ l.length → (∀ (i : Nat) (x y : Cl), i + 1 < m → l[i]? = some x → l[i + 1]? = some y → x ≠ y) → dd (l.take m) = l.take m
  | 0, _, _ => by simp [dd]
  | 1, h, _ => by
    obtain ⟨x, hx⟩ : ∃ x, l[0]? = some x := ⟨_, List.getElem?_eq_getElem (by omega)⟩
    rw [take_snoc hx]
    simp [dd, stepD]
  | m + 2, h, hd => by
    obtain ⟨x, hx⟩ : ∃ x, l[m]? = some x := ⟨_, List.getElem?_eq_getElem (by omega)⟩
    obtain ⟨y, hy⟩ : ∃ x, l[m + 1]? = some x := ⟨_, List.getElem?_eq_getElem (by omega)⟩
    rw [dd_other hx hy (hd m x y (by omega) hx hy), dd_all (m + 1) (by omega) (fun i x y hi => hd i x y (by omega)), take_snoc hy]
/-- a row with one cell written -/
theorem RowC.put {w : World} {g cap : Nat} {l : List Cl} (h : RowC w g cap l) {j : Nat} (hj : j < l.length) (x : Cl) :
    RowC (((w.setCell ⟨g, j * 3, none⟩ (.int .i64 x.f0.f0)).setCell ⟨g, j * 3 + 1, none⟩ (.int .i64 x.f0.f1)).setCell ⟨g, j * 3 + 2, none⟩ (.int .i64 x.f1)) g cap (l.set j x) := by
  obtain ⟨cur, hc, h1, h2, h3, h4⟩ := h
  have hb := blk_put (blk_put (blk_put hc (j * 3) (.int .i64 x.f0.f0) rfl) (j * 3 + 1) (.int .i64 x.f0.f1) rfl) (j * 3 + 2) (.int .i64 x.f1) rfl
  refine ⟨_, hb, by rw [List.length_set]; exact h1, h2, by simpa using h3, fun i y hy => ?_⟩
  by_cases e : i = j
  · subst e
    rw [List.getElem?_set_self hj] at hy
    obtain rfl := Option.some.inj hy
    simp only [Array.getElem?_setIfInBounds, Array.size_setIfInBounds]
    refine ⟨?_, ?_, ?_⟩
    · rw [if_neg (by omega), if_neg (by omega), if_pos trivial, if_pos (by omega)]
    · rw [if_neg (by omega), if_pos trivial, if_pos (by omega)]
    · rw [if_pos trivial, if_pos (by omega)]
  · rw [List.getElem?_set_ne (fun h => e h.symm)] at hy
    obtain ⟨e1, e2, e3⟩ := h4 i y hy
    simp only [Array.getElem?_setIfInBounds, Array.size_setIfInBounds]
    refine ⟨?_, ?_, ?_⟩
    · rw [if_neg (by omega), if_neg (by omega), if_neg (by omega)]; exact e1
    · rw [if_neg (by omega), if_neg (by omega), if_neg (by omega)]; exact e2
    · rw [if_neg (by omega), if_neg (by omega), if_neg (by omega)]; exact e3
end Go.Proofs.Ytpmipllohiiocaa.tr
namespace Go.Proofs.Ytpmipllohiiocaa.tr
open Go.RowKit Go.Proofs.Ytpmipllohiiocaa.PTreeBuilds Go.Proofs.YtpmipllohiiocaaW.PrintWords Go.Proofs.YtpmipllohiiocaaW.PrintLast Go.Proofs.YtpmipllohiiocaaW.PrintMore Go.Proofs.Ytpmipllohiiocaa.bs Go.ChangeShapes Go.Proofs.Ytpmipllohiiocaa.lb Go.Proofs.Ytpmipllohiiocaa.ar Go.Maps

theorem grown_put {w w' : World} {g : Nat} (h : w.grownBy w' (some g)) (a : Nat) (v : Value) : w.grownBy (w'.setCell ⟨g, a, none⟩ v) (some g) :=
  ⟨h.os, h.tape, h.output, by simpa using h.size, fun k hk hne => by rw [Below.heap_setCell _ _ _ k (fun e => hne (by rw [e]))]; exact h.block k hk hne⟩
theorem grown_puts {g : Nat} : ∀ (vs : List Value) (o : Nat) {w w' : World}, w.grownBy w' (some g) → w.grownBy (w'.setCells g o vs) (some g)
  | [], _, _, _, h => h
  | v :: r, o, _, _, h => grown_puts r (o + 1) (grown_put h o v)
theorem zeroCl (w : World) : (zeroValue 39).run Try.prog w = .ok (.agg #[.int .i64 0, .int .i64 0, .int .i64 0]) w := by kernel_rfl
def zrow (n : Nat) : List Value := (Builtin.zeroCells (Value.agg #[.int .i64 0, .int .i64 0, .int .i64 0]).cells n).toList
theorem zrow_len (n : Nat) : (zrow n).length = n * 3 := by unfold zrow Builtin.zeroCells; simp [Value.cells]
theorem zrow_mem {n : Nat} {v : Value} (h : v ∈ zrow n) : v = .int .i64 0 := by
  unfold zrow Builtin.zeroCells at h
  simp [Value.cells] at h
  obtain ⟨a, _, rfl⟩ := h
  have h3 : a % 3 = 0 ∨ a % 3 = 1 ∨ a % 3 = 2 := by omega
  rcases h3 with e | e | e <;> rw [e] <;> rfl
theorem row_keep {w : World} {g cap : Nat} {l : List Cl} (h : RowC w g cap l) {a : Nat} (ha : l.length * 3 ≤ a) (v : Value) : RowC (w.setCell ⟨g, a, none⟩ v) g cap l := by
  obtain ⟨cur, hc, h1, h2, h3, h4⟩ := h
  refine ⟨_, blk_put hc a v rfl, h1, h2, by simpa using h3, fun i y hy => ?_⟩
  have hi : i < l.length := (List.getElem?_eq_some_iff.1 hy).1
  obtain ⟨e1, e2, e3⟩ := h4 i y hy
  simp only [Array.getElem?_setIfInBounds]
  refine ⟨?_, ?_, ?_⟩
  · rw [if_neg (by omega)]; exact e1
  · rw [if_neg (by omega)]; exact e2
  · rw [if_neg (by omega)]; exact e3
theorem row_keeps {g cap : Nat} {l : List Cl} : ∀ (vs : List Value) (o : Nat) {w : World}, RowC w g cap l → l.length * 3 ≤ o → RowC (w.setCells g o vs) g cap l
  | [], _, _, h, _ => h
  | v :: r, o, _, h, ho => row_keeps r (o + 1) (row_keep h ho v) (by omega)
theorem row_take {w : World} {g cap : Nat} {l : List Cl} (h : RowC w g cap l) (k : Nat) : RowC w g cap (l.take k) := by
  obtain ⟨cur, hc, h1, h2, h3, h4⟩ := h
  refine ⟨cur, hc, by simp; omega, h2, h3, fun i y hy => h4 i y ?_⟩
  rw [List.getElem?_take] at hy
  split at hy
  · exact hy
  · cases hy
theorem clear_row {w : World} {g cap : Nat} {l : List Cl} (h : RowC w g cap l) {k : Nat} (hk : k < l.length) (c : Nat) (ty : TypeId) :
    (Builtin.clear_ #[24] ty #[.slice (some ⟨g, k * 3, none⟩) (l.length - k) c]).run Try.prog w = .ok (.tuple #[]) (w.setCells g (k * 3) (zrow (l.length - k))) := by
  obtain ⟨cur, hc, h1, h2, h3, h4⟩ := h
  have hst := run_storeCells_cells (P := Try.prog) g (k * 3) (zrow (l.length - k)) 0 w
    (fun j hj => by rw [zrow_len] at hj; rw [cell_of_row w g _ cur _ (0, 0) hc]; simp; omega)
    (fun j _ => blk_frozen hc _) (fun v hv => by rw [zrow_mem hv]; rfl)
  simp only [Nat.add_zero] at hst
  obtain ⟨m, hm⟩ : ∃ m, l.length - k = m + 1 := ⟨l.length - k - 1, by omega⟩
  rw [hm] at hst ⊢
  have hz : (Builtin.zeroCells (Value.agg #[.int .i64 0, .int .i64 0, .int .i64 0]).cells (m + 1)).toList = zrow (m + 1) := rfl
  simp [Builtin.clear_, run_underlying Try.underlying24, zeroCl, hst, hz]
end Go.Proofs.Ytpmipllohiiocaa.tr
namespace Go.Proofs.Ytpmipllohiiocaa.tr
open Go.RowKit Go.Proofs.Ytpmipllohiiocaa.PTreeBuilds Go.Proofs.YtpmipllohiiocaaW.PrintWords Go.Proofs.YtpmipllohiiocaaW.PrintLast Go.Proofs.YtpmipllohiiocaaW.PrintMore Go.Proofs.Ytpmipllohiiocaa.bs Go.ChangeShapes Go.Proofs.Ytpmipllohiiocaa.lb Go.Proofs.Ytpmipllohiiocaa.ar Go.Maps

theorem take_set_snoc {L : List Cl} {k : Nat} (h : k < L.length) (y : Cl) : (L.set k y).take (k + 1) = L.take k ++ [y] := by
  rw [take_snoc (x := y) (List.getElem?_set_self h), List.take_set, List.set_eq_of_length_le (by simp; omega)]
theorem add_off (g o j : Nat) : (⟨g, o, none⟩ : Addr).add j = ⟨g, o + j, none⟩ := by unfold Addr.add; split <;> simp_all
theorem neqCl (w : World) (a b h c e g : Int) : (binOp .neq 39 (.agg #[.int .i64 a, .int .i64 b, .int .i64 h]) (.agg #[.int .i64 c, .int .i64 e, .int .i64 g])).run Try.prog w = .ok (.bool (!((a == c && b == e) && h == g))) w := by
  rw [run_neq_struct, show 10000 = 9997 + 3 from rfl, eqCl]; rfl
theorem eql_cl (w : World) (x y : Cl) : (binOp .eql 39 (.agg #[.int .i64 y.f0.f0, .int .i64 y.f0.f1, .int .i64 y.f1]) (.agg #[.int .i64 x.f0.f0, .int .i64 x.f0.f1, .int .i64 x.f1])).run Try.prog w = .ok (.bool (decide (x = y))) w := by
  rw [eqlCl]
  congr 2
  rw [Bool.eq_iff_iff, decide_eq_true_iff]
  obtain ⟨⟨a, b⟩, h⟩ := x
  obtain ⟨⟨a', b'⟩, h'⟩ := y
  simp
  constructor
  · rintro ⟨⟨rfl, rfl⟩, rfl⟩; exact ⟨⟨rfl, rfl⟩, rfl⟩
  · rintro ⟨⟨rfl, rfl⟩, rfl⟩; exact ⟨⟨rfl, rfl⟩, rfl⟩
set_option maxRecDepth 100000 in
set_option maxHeartbeats 4000000 in
theorem compact_walk (l : List Cl) (g cap : Nat) (w : World) (hR : RowC w g cap l) (hl : l.length ≤ 1000000000) :
    Calls Try.prog 52 #[.slice (some ⟨g, 0, none⟩) l.length cap] w fun e w' => e = .returned (.slice (some ⟨g, 0, none⟩) (dd l).length cap) ∧ RowC w' g cap (dd l) ∧ w.grownBy w' (some g) := by
  have HC := Aside0.mk hR
  have hq2 := fun w a b h c d g => eqlCl w a b h c d g
  have hq3 := fun w a b h c d g => neqCl w a b h c d g
  have hcap : l.length ≤ cap ∧ cap ≤ maxLen := by obtain ⟨_, _, h1, h2, _⟩ := hR; exact ⟨h1, h2⟩
  clear hR
  by_cases h2 : l.length < 2
  · have h2' : ((l.length : Nat) : Int) < 2 := by omega
    have hdd : dd l = l := by
      have := dd_all (l := l) l.length (Nat.le_refl _) (fun i x y hi => by omega)
      rw [List.take_length] at this
      exact this
    rw [hdd]
    go_enter Try.func52, Try.ntmps52
    go_wp2_with (fail)
    refine bodyPost_ret (v := .slice (some ⟨g, 0, none⟩) l.length cap) (by simp [results, Try.results52, go_sem]) rfl ?_
    exact ⟨rfl, HC.out, ⟨rfl, rfl, rfl, Nat.le_refl _, fun _ _ _ => rfl⟩⟩
  · have h2' : ¬ ((l.length : Nat) : Int) < 2 := by omega
    have HCC := Aside0.mk (Kd.R_reads' (rowc_R HC.out (base := 0) (ok := fun _ => True) (Nat.zero_le _) trivial)).2.2
    obtain ⟨ad, had⟩ : ∃ ad : Addr, (⟨g, 0, none⟩ : Addr) = ad := ⟨_, rfl⟩
    rw [had] at HCC ⊢
    have HAD := Aside0.mk had
    clear had
    go_enter Try.func52, Try.ntmps52
    go_wp2_with (fail)
    go_loopg [3] l.length (fun kq c3 w' => ∃ (i : Nat), 1 ≤ i ∧ i + kq = l.length + 1 ∧ i ≤ l.length ∧ c3 = .int .i64 i ∧ Aside0 (Below w.heap.size w w') ∧ Aside0 (∀ (a : Nat) (x y : Cl), a + 1 < i → l[a]? = some x → l[a + 1]? = some y → x ≠ y))
    case atStart => exact ⟨1, by omega, by omega, by omega, rfl, ⟨Below.refl _ _⟩, ⟨fun a x y h => by omega⟩⟩
    case round =>
      obtain ⟨i, hi1, hi, hile, rfl, HB, HN⟩ := hrel
      by_cases hlt : i < l.length
      · obtain ⟨gm, rfl⟩ : ∃ m, gk = m + 1 := ⟨gk - 1, by omega⟩
        obtain ⟨i', rfl⟩ : ∃ m, i = m + 1 := ⟨i - 1, by omega⟩
        obtain ⟨x, hx⟩ : ∃ x, l[i']? = some x := ⟨_, List.getElem?_eq_getElem (by omega)⟩
        obtain ⟨y, hy⟩ : ∃ x, l[i' + 1]? = some x := ⟨_, List.getElem?_eq_getElem hlt⟩
        obtain ⟨ad1, hae1, q0, q1, q2⟩ := at_T39 (Kd.C_below HCC.out HB.out) ((i' + 1 : Nat) : Int) (by omega) (by omega)
        obtain rfl := Option.some.inj hae1
        obtain ⟨ad2, hae2, p0, p1, p2⟩ := at_T39 (Kd.C_below HCC.out HB.out) ((i' : Nat) : Int) (by omega) (by omega)
        obtain rfl := Option.some.inj hae2
        have hr1 : rd_T39 l ((i' : Nat) : Int) = x := by unfold rd_T39; rw [Int.toNat_natCast, List.getD_eq_getElem?_getD, hx]; rfl
        have hr2 : rd_T39 l ((i' + 1 : Nat) : Int) = y := by unfold rd_T39; rw [Int.toNat_natCast, List.getD_eq_getElem?_getD, hy]; rfl
        rw [hr1, Int.toNat_natCast] at p0 p1 p2
        rw [hr2, Int.toNat_natCast] at q0 q1 q2
        clear hr1 hr2 hae1 hae2
        have HEQ := Aside0.mk (fun w => eql_cl w x y)
        have HX := Aside0.mk hx
        have HY := Aside0.mk hy
        clear hx hy
        by_cases hxy : x = y
        · subst hxy
          have heqt : ((x.f0.f0 == x.f0.f0 && x.f0.f1 == x.f0.f1) && x.f1 == x.f1) = true := by simp
          clear HEQ
          go_upto_region 6 with (fail)
          go_quiet (fail)
          go_upto_region 9 with (fail)
          have HBN := Aside0.mk (show Below w.heap.size w (wr.drewN nq) from pw_below_drewN HB.out nq)
          have hn := HN.out
          have HD0 : Aside0 (dd (l.take (i' + 1 + 1)) = l.take (i' + 1)) := ⟨by
            rw [dd_same HX.out HY.out]
            exact dd_all (i' + 1) (by omega) (fun a x y ha => hn a x y ha)⟩
          generalize wr.drewN nq = w5 at *
          obtain ⟨I, hII⟩ : ∃ I, i' + 1 = I := ⟨_, rfl⟩
          rw [hII] at HD0 hlt ⊢
          have HI1 := Aside0.mk (show 1 ≤ I by omega)
          clear hn HN HX HY heqt p0 p1 p2 q0 q1 q2 hII HB hi hi1 hile
          obtain ⟨n2, hn2⟩ : ∃ n2, l.length - I = n2 := ⟨_, rfl⟩
          have HN2 := Aside0.mk hn2
          have hn2b : n2 ≤ 1000000000 := by omega
          have HR0 := Aside0.mk (HC.out.block (HBN.out.block g HC.out.lt))
          have HG0 : Aside0 (w.grownBy w5 (some g)) := ⟨⟨HBN.out.os, HBN.out.tape, HBN.out.output, HBN.out.size, fun k hk _ => HBN.out.block k hk⟩⟩
          obtain rfl := HAD.out
          simp only [hn2, add_plain]
          generalize decide ((i' : Int) + 1 < (l.length : Int)) = dc
          clear HBN hn2 HCC HAD
          go_loopg [3, 5] n2 (fun kq c3 c5 w' => ∃ (m k : Nat) (L : List Cl), m + 1 ≤ n2 ∧ m + 1 + kq = n2 + 1 ∧ c3 = .int .i64 k ∧ c5 = .int .i64 ((m + 1 : Nat) : Int) ∧ Aside0 (dd (l.take (I + (m + 1))) = L.take k) ∧ Aside0 (k + 1 ≤ I + (m + 1)) ∧ Aside0 (L.length = l.length) ∧ Aside0 (∀ t, I + m ≤ t → L[t]? = l[t]?) ∧ Aside0 (RowC w' g cap L) ∧ Aside0 (w.grownBy w' (some g)))
          case atStart => exact ⟨0, I, l, by have := HN2.out; omega, by omega, rfl, rfl, HD0, ⟨by omega⟩, ⟨rfl⟩, ⟨fun _ _ => rfl⟩, HR0, HG0⟩
          case round =>
            clear HD0 HR0 HG0
            obtain ⟨m, k, L, hmle, hm, rfl, rfl, HD, HK, HLL, HLT, HR, HGR⟩ := hrel
            by_cases hmn : m + 1 < n2
            · obtain ⟨gm, rfl⟩ : ∃ m, gk = m + 1 := ⟨gk - 1, by omega⟩
              obtain ⟨x', hx'⟩ : ∃ x, l[I + m]? = some x := ⟨_, List.getElem?_eq_getElem (by have := HN2.out; omega)⟩
              obtain ⟨y', hy'⟩ : ∃ x, l[I + m + 1]? = some x := ⟨_, List.getElem?_eq_getElem (by have := HN2.out; omega)⟩
              obtain ⟨p0, p1, p2⟩ := HR.out.cell ((HLT.out (I + m) (Nat.le_refl _)).trans hx')
              obtain ⟨q0, q1, q2⟩ := HR.out.cell ((HLT.out (I + m + 1) (by omega)).trans hy')
              rw [show (I + m) * 3 = I * 3 + m * 3 by omega] at p0 p1 p2
              rw [show (I + m + 1) * 3 = I * 3 + (m + 1) * 3 by omega] at q0 q1 q2
              have hm0 : m < n2 := by omega
              have b1 : (0 : Int) ≤ (m : Int) := by omega
              have b2 : (m : Int) < (n2 : Int) := by omega
              have b3 : (0 : Int) ≤ ((m + 1 : Nat) : Int) := by omega
              have b4 : ((m + 1 : Nat) : Int) < (n2 : Int) := by omega
              have b5 : (0 : Int) ≤ (m : Int) + 1 := by omega
              have b6 : (m : Int) + 1 < (n2 : Int) := by omega
              have HX := Aside0.mk hx'
              have HY := Aside0.mk hy'
              clear hx' hy'
              by_cases hxy : x' = y'
              · subst hxy
                go_upto_region 11 with (fail)
                go_quiet (fail)
                go_wp2_with (fail)
                go_roundg gm
                case measure => omega
                case rel => exact ⟨m + 1, k, L, by omega, by omega, rfl, by go_num, ⟨(dd_same HX.out HY.out).trans HD.out⟩, ⟨by have := HK.out; omega⟩, HLL, ⟨fun t ht => HLT.out t (by omega)⟩, ⟨HR.out.block rfl⟩, ⟨⟨HGR.out.os, HGR.out.tape, HGR.out.output, HGR.out.size, HGR.out.block⟩⟩⟩
              · go_upto_region 11 with (fail)
                go_quiet (fail)
                have hne : ((y'.f0.f0 == x'.f0.f0 && y'.f0.f1 == x'.f0.f1) && y'.f1 == x'.f1) = false := by
                  rw [Bool.eq_false_iff]
                  intro h
                  simp at h
                  apply hxy
                  obtain ⟨⟨a, b⟩, g⟩ := x'
                  obtain ⟨⟨a', b'⟩, g'⟩ := y'
                  simp at h
                  rw [h.1.1, h.1.2, h.2]
                have HXY := Aside0.mk hxy
                have hkl : k < l.length := by have h1 := HK.out; have h2 := HN2.out; omega
                obtain ⟨z, hz⟩ : ∃ z, L[k]? = some z := ⟨_, List.getElem?_eq_getElem (by rw [HLL.out]; exact hkl)⟩
                obtain ⟨z0, z1, z2⟩ := HR.out.cell hz
                have f0 := HR.out.frozen (k * 3)
                have f1 := HR.out.frozen (k * 3 + 1)
                have f2 := HR.out.frozen (k * 3 + 2)
                clear hxy hz
                go_wp2_with (fail)
                have HR2 := Aside0.mk ((HR.out.block (w1 := wr.drewN nq) rfl).put (j := k) (by rw [HLL.out]; exact hkl) y')
                have HG2 := Aside0.mk (grown_put (grown_put (grown_put (w' := wr.drewN nq) ⟨HGR.out.os, HGR.out.tape, HGR.out.output, HGR.out.size, HGR.out.block⟩ (k * 3) (.int .i64 y'.f0.f0)) (k * 3 + 1) (.int .i64 y'.f0.f1)) (k * 3 + 2) (.int .i64 y'.f1))
                go_roundg gm
                case measure => omega
                case rel => exact ⟨m + 1, k + 1, L.set k y', by omega, by omega, by go_num, by go_num, ⟨by rw [take_set_snoc (by rw [HLL.out]; exact hkl), ← HD.out]; exact dd_other HX.out HY.out HXY.out⟩, ⟨by have := HK.out; omega⟩, ⟨by rw [List.length_set]; exact HLL.out⟩, ⟨fun t ht => by rw [List.getElem?_set_ne (by have := HK.out; omega)]; exact HLT.out t (by omega)⟩, HR2, HG2⟩
                rename_i hsame
                exfalso
                apply HXY.out
                obtain ⟨⟨a, b⟩, g⟩ := x'
                obtain ⟨⟨a', b'⟩, g'⟩ := y'
                simp at hsame
                rw [hsame.1.1, hsame.1.2, hsame.2]
            · have hkl : k < l.length := by have h1 := HK.out; have h2 := HN2.out; omega
              have HALL : Aside0 (dd l = L.take k) := ⟨by
                have h1 := HD.out
                rw [show I + (m + 1) = l.length by have := HN2.out; omega, List.take_length] at h1
                exact h1⟩
              have hcl := fun ty => clear_row HR.out (k := k) (by rw [HLL.out]; exact hkl) (cap - k) ty
              rw [HLL.out] at hcl
              have hkc : k ≤ cap := by have := hcap.1; omega
              go_upto_region 14 with (fail)
              go_wp2_with (fail)
              have hRw := row_keeps (zrow (l.length - k)) (k * 3) ((row_take HR.out k).block (w1 := wr) rfl) (by simp; omega)
              have hGw := grown_puts (zrow (l.length - k)) (k * 3) HGR.out
              refine bodyPost_ret (v := .slice (some ⟨g, 0, none⟩) k cap) (by simp [results, Try.results52, go_sem]) rfl ?_
              rw [HALL.out]
              exact ⟨by rw [List.length_take, HLL.out, Nat.min_eq_left (by omega)], hRw, hGw⟩
        · have hne : ((y.f0.f0 == x.f0.f0 && y.f0.f1 == x.f0.f1) && y.f1 == x.f1) = false := by
            rw [Bool.eq_false_iff]
            intro h
            simp at h
            apply hxy
            obtain ⟨⟨a, b⟩, g⟩ := x
            obtain ⟨⟨a', b'⟩, g'⟩ := y
            simp at h
            rw [h.1.1, h.1.2, h.2]
          have HXY := Aside0.mk hxy
          clear hxy HEQ
          go_upto_region 6 with (fail)
          go_quiet (fail)
          go_wp2_with (fail)
          go_roundg gm
          case measure => omega
          case rel => exact ⟨i' + 1 + 1, by omega, by omega, by omega, by go_num, ⟨by have h := HB.out; exact pw_below_drewN h _⟩, ⟨fun a x' y' ha hx' hy' => by
            by_cases e : a = i'
            · subst e
              have hx2 := HX.out
              have hy2 := HY.out
              rw [hx2] at hx'
              rw [hy2] at hy'
              obtain rfl := Option.some.inj hx'
              obtain rfl := Option.some.inj hy'
              exact HXY.out
            · exact HN.out a x' y' (by omega) hx' hy'⟩⟩
      · obtain rfl : i = l.length := by omega
        have hdd : dd l = l := by
          have := dd_all (l := l) l.length (Nat.le_refl _) (fun a x y ha => HN.out a x y ha)
          rw [List.take_length] at this
          exact this
        go_wp2_with (fail)
        refine bodyPost_ret (v := .slice (some ad) l.length cap) (by simp [results, Try.results52, go_sem]) rfl ?_
        rw [hdd, ← HAD.out]
        exact ⟨rfl, HC.out.block (HB.out.block g HC.out.lt), ⟨HB.out.os, HB.out.tape, HB.out.output, HB.out.size, fun k hk _ => HB.out.block k hk⟩⟩
end Go.Proofs.Ytpmipllohiiocaa.tr
namespace Go.Proofs.Ytpmipllohiiocaa.tr
open Go.RowKit Go.Proofs.Ytpmipllohiiocaa.PTreeBuilds Go.Proofs.YtpmipllohiiocaaW.PrintWords Go.Proofs.YtpmipllohiiocaaW.PrintLast Go.Proofs.YtpmipllohiiocaaW.PrintMore Go.Proofs.Ytpmipllohiiocaa.bs Go.ChangeShapes Go.Proofs.Ytpmipllohiiocaa.lb Go.Proofs.Ytpmipllohiiocaa.ar Go.Maps

/-- the set of a list: sorted, each once -/
def ofCl (l : List Cl) : List Cl := dd (sortCl l)
theorem mem_ofCl (l : List Cl) (c : Cl) : c ∈ ofCl l ↔ c ∈ l := by unfold ofCl; rw [mem_dd]; exact (sortCl_perm l).mem_iff
theorem ofCl_strict (l : List Cl) : (ofCl l).Pairwise (fun x y => ltC x y = true) := dd_strict (sortCl_sorted l)
theorem ofCl_len (l : List Cl) : (ofCl l).length ≤ l.length := by
  have := dd_len (sortCl l)
  rw [sortCl_len] at this
  exact this
theorem compact_any {base : Nat} {ok : Nat → Prop} {A : Option Addr} {c : Nat} {l : List Cl} {w : World} (h : Kd.R k39 39 w base ok (.slice A l.length c) l) (hl : l.length ≤ 1000000000) :
    Calls Try.prog 52 #[.slice A l.length c] w fun e w' => ∃ v, e = .returned v ∧ Kd.R k39 39 w' base ok v (dd l) ∧ w.grownBy w' (Value.slice A l.length c).ownBlock := by
  by_cases h0 : 0 < l.length
  · obtain ⟨g, cap, he, hb, hok, hr⟩ := R_rowc h h0
    cases he
    refine (compact_walk l g _ w hr hl).mono fun e w' ⟨he, h1, h2⟩ => ⟨_, he, rowc_R h1 hb hok, h2⟩
  · have : l = [] := List.length_eq_zero_iff.1 (by omega)
    subst this
    refine (compact_same [] A c w (by have := (Kd.R_reads' h).2.2; exact this) (by simp) (by simp)).mono fun e w' ⟨he, hw⟩ => ⟨_, he, Kd.R_below h hw, ⟨hw.os, hw.tape, hw.output, hw.size, fun k hk _ => hw.block k hk⟩⟩
set_option maxRecDepth 100000 in
set_option maxHeartbeats 4000000 in
theorem setofd_walk (l : List Cl) (A : Option Addr) (c : Nat) (w : World) (hC : Kd.C k39 w A l.length l) (hl : l.length ≤ 1000000000) :
    Calls Try.prog 31 #[.slice A l.length c] w fun e w' => ∃ v, e = .returned v ∧ Kd.R k39 39 w' w.heap.size (fun k => w.heap.size ≤ k) v (ofCl l) ∧ Below w.heap.size w w' := by
  have hcl := Aside0.mk (clone_walk l A c w hC hl)
  have HL := Aside0.mk hl
  clear hC hl
  go_enter Try.func31, Try.ntmps31
  go_wp2_with (first
    | (go_at_call 49; refine hcl.out.mono ?_; rintro e w1 ⟨v1, rfl, hr1, hb1⟩; have HR1 := Aside0.mk hr1; have HB1 := Aside0.mk hb1; clear hr1 hb1)
    | (go_at_call 50; refine (sort_any HR1.out HL.out).mono ?_; rintro e w2 ⟨rfl, hr2, hg2⟩; have HR2 := Aside0.mk hr2; have HB2 := Aside0.mk (HB1.out.grown hg2 HB1.out.size (fun b hb => HR1.out.1 b hb)); obtain ⟨A2, c2, hv2⟩ := Kd.R_slice HR2.out; have HV2 := Aside0.mk hv2; clear hr2 hg2 hv2)
    | (go_at_call 52; rw [HV2.out]; refine (compact_any (by have h := HR2.out; rw [HV2.out] at h; exact h) (by rw [sortCl_len]; exact HL.out)).mono ?_; rintro e w3 ⟨v3, rfl, hr3, hg3⟩; have HR3 := Aside0.mk hr3; have HB3 := Aside0.mk (HB2.out.grown hg3 HB2.out.size (fun b hb => by rw [← HV2.out] at hb; exact HR2.out.1 b hb)); clear hr3 hg3))
  refine bodyPost_ret (v := v3) (by simp [results, Try.results31, go_sem]) rfl ?_
  exact ⟨_, rfl, HR3.out, HB3.out⟩
end Go.Proofs.Ytpmipllohiiocaa.tr
namespace Go.Proofs.Ytpmipllohiiocaa.tr
open Go.RowKit Go.Proofs.Ytpmipllohiiocaa.PTreeBuilds Go.Proofs.YtpmipllohiiocaaW.PrintWords Go.Proofs.YtpmipllohiiocaaW.PrintLast Go.Proofs.YtpmipllohiiocaaW.PrintMore Go.Proofs.Ytpmipllohiiocaa.bs Go.ChangeShapes Go.Proofs.Ytpmipllohiiocaa.lb Go.Proofs.Ytpmipllohiiocaa.ar Go.Maps

def toldC (c : Cl) : Rc := ⟨c.f0.f0, c.f0.f1, c.f1⟩
theorem own_told (c : Cl) : ownC (toldC c) = c := rfl
theorem told_inj {c d : Cl} (h : toldC c = toldC d) : c = d := by rw [← own_told c, h, own_told]
theorem insR_len1 (c : Rc) : ∀ l : List Rc, c ∉ l → (insR l c).length = l.length + 1
  | [], _ => rfl
  | x :: xs, h => by
    rw [List.mem_cons, not_or] at h
    unfold insR
    split
    · rw [List.length_cons, insR_len1 c xs h.2]; rfl
    · rw [if_neg (fun e => h.1 e.symm)]; rfl
theorem fold_len (xs : List Rc) : ∀ acc : List Rc, xs.Nodup → (∀ x ∈ xs, x ∉ acc) → (xs.foldl insR acc).length = acc.length + xs.length := by
  induction xs with
  | nil => intro acc _ _; rfl
  | cons x xs ih =>
    intro acc hn hd
    obtain ⟨h1, h2⟩ := List.nodup_cons.1 hn
    rw [List.foldl_cons, ih _ h2 (fun y hy hm => ?_), insR_len1 x acc (hd x List.mem_cons_self), List.length_cons]
    · omega
    · rcases (mem_insR x y acc).1 hm with rfl | hm
      · exact h1 hy
      · exact hd y (List.mem_cons_of_mem _ hy) hm
def lowA4 (c : Cl) : Int := c.f0.f0 - c.f0.f0 % 4
def lowB4 (c : Cl) : Int := c.f0.f1 - c.f0.f1 % 4
theorem low_i64 {c : Cl} (h : ClOk c) : I64 (lowA4 c) ∧ I64 (lowB4 c) := by
  have h1 := h.a
  have h2 := h.b
  unfold lowA4 lowB4 I64
  omega
theorem cells_G (cs : List Cl) (hcs : ∀ c ∈ cs, ClOk c) (a b : Int) (ha : a % 4 = 0) (hb : b % 4 = 0) (c : Cl) : c ∈ cells (Gl cs a b) a b ↔ c ∈ cs ∧ lowA4 c = a ∧ lowB4 c = b := by
  have hg := (Gl_bd cs a b).1
  have h1 := leaf_mem (Gl cs a b).toNat a b c
  rw [Int.toNat_of_nonneg hg] at h1
  have hq : sqQ cs 0 a b = Q.leaf (Gl cs a b).toNat := rfl
  rw [h1, ← hq]
  have hc : (⟨⟨a + (c.f0.f0 - a), b + (c.f0.f1 - b)⟩, c.f1⟩ : Cl) = c := by
    obtain ⟨⟨x, y⟩, h⟩ := c
    dsimp only
    rw [show a + (x - a) = x by omega, show b + (y - b) = y by omega]
  unfold lowA4 lowB4
  constructor
  · rintro ⟨hi, hh⟩
    have h2 := (sqQ_has cs hcs 0 a b _ _ _ ha hb hi).1 hh
    rw [hc] at h2
    obtain ⟨i1, i2, i3, i4, i5, i6⟩ := hi
    simp at i2 i4
    exact ⟨h2, by omega, by omega⟩
  · rintro ⟨hm, e1, e2⟩
    have hk := (hcs c hm).h
    have hi : InQ (0 + 2) (c.f0.f0 - a) (c.f0.f1 - b) c.f1 := by
      refine ⟨by omega, by simp; omega, by omega, by simp; omega, hk.1, hk.2⟩
    exact ⟨hi, (sqQ_has cs hcs 0 a b _ _ _ ha hb hi).2 (by rw [hc]; exact hm)⟩
/-- what a range over a set's leaves has come to -/
structure Back (cs : List Cl) (left : Lit → Bool) (all : List Rc) : Prop where
  up : Rising all
  mem : ∀ c : Cl, toldC c ∈ all ↔ c ∈ cs ∧ left (pk (lowA4 c) (lowB4 c)) = false
theorem back_start {cs : List Cl} (hcs : ∀ c ∈ cs, ClOk c) {D : DataW Unit} (hD : MapIs D (Gl cs)) : Back cs (Maps.has D) [] := by
  refine ⟨List.Pairwise.nil, fun c => ⟨fun h => by simp at h, fun ⟨hc, hl⟩ => ?_⟩⟩
  have hi := low_i64 (hcs c hc)
  have := (hD.has _ _ hi.1 hi.2).2 ((Gl_ne cs hcs _ _).2 ⟨c, hc, rfl, rfl⟩)
  rw [hl] at this
  cases this
theorem key_low {cs : List Cl} (hcs : ∀ c ∈ cs, ClOk c) {D : DataW Unit} (hD : MapIs D (Gl cs)) {a b : Int} (ha : I64 a) (hb : I64 b) (hh : Maps.has D (pk a b) = true) :
    Gl cs a b ≠ 0 ∧ a % 4 = 0 ∧ b % 4 = 0 ∧ (-4611686018427387908 ≤ a ∧ a ≤ 4611686018427387904) ∧ (-4611686018427387908 ≤ b ∧ b ≤ 4611686018427387904) := by
  have h := (hD.has a b ha hb).1 hh
  obtain ⟨c, hc, e1, e2⟩ := (Gl_ne cs hcs a b).1 h
  have h1 := (hcs c hc).a
  have h2 := (hcs c hc).b
  exact ⟨h, by omega, by omega, by omega, by omega⟩
theorem Back.step {cs : List Cl} {left : Lit → Bool} {all : List Rc} (h : Back cs left all) (hcs : ∀ c ∈ cs, ClOk c) {D : DataW Unit} (hD : MapIs D (Gl cs)) {a b : Int} (ha : I64 a) (hb : I64 b) (hh : Maps.has D (pk a b) = true) (hl : left (pk a b) = true) :
    Back cs (fun z => left z && !z.sameKey (pk a b)) (((cells (Gl cs a b) a b).map toldC).foldl insR all) ∧ (((cells (Gl cs a b) a b).map toldC).foldl insR all).length = all.length + (cells (Gl cs a b) a b).length := by
  obtain ⟨_, a4, b4, _, _⟩ := key_low hcs hD ha hb hh
  have hG := cells_G cs hcs a b a4 b4
  have hm : ∀ c, toldC c ∈ (cells (Gl cs a b) a b).map toldC ↔ c ∈ cells (Gl cs a b) a b := fun c => by
    rw [List.mem_map]
    exact ⟨fun ⟨x, hx, e⟩ => told_inj e ▸ hx, fun hx => ⟨c, hx, rfl⟩⟩
  obtain ⟨f1, _, f3⟩ := foldl_insR ((cells (Gl cs a b) a b).map toldC) all h.up
  refine ⟨⟨f1, fun c => ?_⟩, ?_⟩
  · rw [f3, hm, hG, h.mem]
    by_cases hc : c ∈ cs
    · have hi := low_i64 (hcs c hc)
      by_cases e : lowA4 c = a ∧ lowB4 c = b
      · rw [e.1, e.2, WideAt.sameKey_self (pk_key a b)]
        simp [hc]
      · rw [sameKey_ne (fun e2 => e (pk_inj hi.1 hi.2 ha hb e2))]
        constructor
        · rintro (h1 | h1)
          · exact ⟨h1.1, by rw [h1.2]; rfl⟩
          · exact absurd h1.2 e
        · rintro ⟨_, h2⟩
          exact .inl ⟨hc, by simpa using h2⟩
    · exact ⟨fun h1 => h1.elim (fun h1 => absurd h1.1 hc) (fun h1 => absurd h1.1 hc), fun h1 => absurd h1.1 hc⟩
  · rw [fold_len _ _ ?_ ?_, List.length_map]
    · exact (cells_nodup _ a b).map toldC (fun x y hne e => hne (told_inj e))
    · intro x hx hxa
      obtain ⟨c, hc, rfl⟩ := List.mem_map.1 hx
      obtain ⟨hcs2, e1, e2⟩ := (hG c).1 hc
      have := ((h.mem c).1 hxa).2
      rw [e1, e2, hl] at this
      cases this
theorem Back.done {cs : List Cl} {left : Lit → Bool} {all : List Rc} (h : Back cs left all) (hl : ∀ kl, left kl = false) (hup : UpC cs) : all.map ownC = cs := by
  refine up_one _ _ (UpC.of h.up) hup (fun c => ?_)
  rw [List.mem_map]
  constructor
  · rintro ⟨x, hx, rfl⟩
    exact ((h.mem (ownC x)).1 hx).1
  · intro hc
    exact ⟨toldC c, (h.mem c).2 ⟨hc, hl _⟩, rfl⟩
end Go.Proofs.Ytpmipllohiiocaa.tr
namespace Go.Proofs.Ytpmipllohiiocaa.tr
open Go.RowKit Go.Proofs.Ytpmipllohiiocaa.PTreeBuilds Go.Proofs.YtpmipllohiiocaaW.PrintWords Go.Proofs.YtpmipllohiiocaaW.PrintLast Go.Proofs.YtpmipllohiiocaaW.PrintMore Go.Proofs.Ytpmipllohiiocaa.bs Go.ChangeShapes Go.Proofs.Ytpmipllohiiocaa.lb Go.Proofs.Ytpmipllohiiocaa.ar Go.Maps

/-- law03's Some -/
def smallC (n : Int) (c : Rc) : Cl := ⟨⟨Int.tmod c.f0 100, Int.tmod c.f1 100⟩, if n = 1 then 0 else Go.bits .and .i64 c.f2 1⟩
theorem ownval (a b h : Int) : honeycomblaw03_Own.f a b h = some (a, b, h) := rfl
set_option maxRecDepth 100000 in
set_option maxHeartbeats 4000000 in
theorem small_walk (n : Int) (c : Rc) (w : World) : Calls Try.prog 30 #[.int .i64 n, .agg #[.int .i64 c.f0, .int .i64 c.f1, .int .i64 c.f2]] w fun e w' => e = .returned (.agg #[.int .i64 (smallC n c).f0.f0, .int .i64 (smallC n c).f0.f1, .int .i64 (smallC n c).f1]) ∧ Below w.heap.size w w' := by
  obtain ⟨a, b, h⟩ := c
  dsimp only
  have hb := below_alloc (below_alloc (Below.refl w.heap.size w) (.cells #[.int .i64 a, .int .i64 b, .int .i64 h] 42)) (.cells #[.int .i64 0, .int .i64 0, .int .i64 0] 39)
  have hkx := blk_alloc (blk_new w (.cells #[.int .i64 a, .int .i64 b, .int .i64 h] 42)) (.cells #[.int .i64 0, .int .i64 0, .int .i64 0] 39)
  have hky := blk_new (w.alloc (.cells #[.int .i64 a, .int .i64 b, .int .i64 h] 42)) (.cells #[.int .i64 0, .int .i64 0, .int .i64 0] 39)
  obtain ⟨X, hX⟩ : ∃ X, w.heap.size = X := ⟨_, rfl⟩
  have hYX : (w.alloc (.cells #[.int .i64 a, .int .i64 b, .int .i64 h] 42)).heap.size = X + 1 := by rw [World.size_alloc, hX]
  rw [hYX] at hky
  rw [hX] at hkx
  have p0 := blk_cell hkx 0
  have p1 := blk_cell hkx 1
  have p2 := blk_cell hkx 2
  simp only [List.getElem?_toArray, List.getElem?_cons_zero, List.getElem?_cons_succ] at p0 p1 p2
  have f0 := blk_frozen hkx 0
  have f1 := blk_frozen hkx 1
  have f2 := blk_frozen hkx 2
  have HX := Aside0.mk hX
  have HY := Aside0.mk hYX
  have HKX := Aside0.mk hkx
  have HKY := Aside0.mk hky
  have HB := Aside0.mk hb
  have hne : X ≠ X + 1 := by omega
  have hne2 : X + 1 ≠ X := by omega
  clear hkx hky hb hX hYX
  by_cases hn : n = 1
  · subst hn
    have hs : smallC 1 ⟨a, b, h⟩ = ⟨⟨Int.tmod a 100, Int.tmod b 100⟩, 0⟩ := rfl
    rw [hs]
    dsimp only
    clear hs
    go_enter Try.func30, Try.ntmps30
    go_upto_region 1 with (fail)
    generalize (w.alloc (.cells #[.int .i64 a, .int .i64 b, .int .i64 h] 42)).alloc (.cells #[.int .i64 0, .int .i64 0, .int .i64 0] 39) = w1 at *
    simp only [HX.out]
    go_upto_region 4 with (fail)
    have HKX2 : Aside0 (((((w1.setCell ⟨X, 0, none⟩ (.int .i64 (Int.tmod a 100))).setCell ⟨X, 1, none⟩ (.int .i64 (Int.tmod b 100))).setCell ⟨X, 2, none⟩ (.int .i64 (Go.bits .and .i64 h 1))).setCell ⟨X, 2, none⟩ (.int .i64 0)).heap[X]? = some (.cells #[.int .i64 (Int.tmod a 100), .int .i64 (Int.tmod b 100), .int .i64 0] 42 (0, 0))) := ⟨(blk_put (blk_put (blk_put (blk_put HKX.out 0 (.int .i64 (Int.tmod a 100)) rfl) 1 (.int .i64 (Int.tmod b 100)) rfl) 2 (.int .i64 (Go.bits .and .i64 h 1)) rfl) 2 (.int .i64 0) rfl)⟩
    have HKY2 : Aside0 (((((w1.setCell ⟨X, 0, none⟩ (.int .i64 (Int.tmod a 100))).setCell ⟨X, 1, none⟩ (.int .i64 (Int.tmod b 100))).setCell ⟨X, 2, none⟩ (.int .i64 (Go.bits .and .i64 h 1))).setCell ⟨X, 2, none⟩ (.int .i64 0)).heap[X + 1]? = some (.cells #[.int .i64 0, .int .i64 0, .int .i64 0] 39 (0, 0))) := ⟨(blk_far (p := ⟨X, 2, none⟩) (blk_far (p := ⟨X, 2, none⟩) (blk_far (p := ⟨X, 1, none⟩) (blk_far (p := ⟨X, 0, none⟩) HKY.out hne2 (.int .i64 (Int.tmod a 100))) hne2 (.int .i64 (Int.tmod b 100))) hne2 (.int .i64 (Go.bits .and .i64 h 1))) hne2 (.int .i64 0))⟩
    have HB2 : Aside0 (Below w.heap.size w ((((w1.setCell ⟨X, 0, none⟩ (.int .i64 (Int.tmod a 100))).setCell ⟨X, 1, none⟩ (.int .i64 (Int.tmod b 100))).setCell ⟨X, 2, none⟩ (.int .i64 (Go.bits .and .i64 h 1))).setCell ⟨X, 2, none⟩ (.int .i64 0))) := ⟨(below_set (below_set (below_set (below_set HB.out (Nat.le_of_eq HX.out)) (Nat.le_of_eq HX.out)) (Nat.le_of_eq HX.out)) (Nat.le_of_eq HX.out))⟩
    generalize ((((w1.setCell ⟨X, 0, none⟩ (.int .i64 (Int.tmod a 100))).setCell ⟨X, 1, none⟩ (.int .i64 (Int.tmod b 100))).setCell ⟨X, 2, none⟩ (.int .i64 (Go.bits .and .i64 h 1))).setCell ⟨X, 2, none⟩ (.int .i64 0)) = w2 at *
    clear p0 p1 p2 f0 f1 f2 HKX HKY
    have p0 := blk_cell HKX2.out 0
    have p1 := blk_cell HKX2.out 1
    have p2 := blk_cell HKX2.out 2
    simp only [List.getElem?_toArray, List.getElem?_cons_zero, List.getElem?_cons_succ] at p0 p1 p2
    go_wp2_with (first | (go_at_call 26; refine (honeycomblaw03_Own.calls _ _ _ _ _ _ _ (ownval _ _ _)).mono ?_; rintro e w3 ⟨rfl, hb3⟩; have HB3 := Aside0.mk (chain HB2.out hb3 HB2.out.size); have HKY3 := Aside0.mk (blk_below HKY2.out hb3); have g0 := blk_cell HKY3.out 0; have g1 := blk_cell HKY3.out 1; have g2 := blk_cell HKY3.out 2; simp only [List.getElem?_toArray, List.getElem?_cons_zero, List.getElem?_cons_succ] at g0 g1 g2; have y0 := blk_frozen HKY3.out 0; have y1 := blk_frozen HKY3.out 1; have y2 := blk_frozen HKY3.out 2; clear hb3))
    refine bodyPost_ret (results_cell_row rfl _ _ (X + 1) 39 #[.int .i64 (Int.tmod a 100), .int .i64 (Int.tmod b 100), .int .i64 0] (0, 0) _ rfl (blk_put (blk_put (blk_put HKY3.out 0 _ rfl) 1 _ rfl) 2 _ rfl) Try.underlying39 rfl (by kernel_rfl)) rfl ?_
    exact ⟨rfl, below_set (below_set (below_set HB3.out (by rw [HX.out]; exact Nat.le_succ X)) (by rw [HX.out]; exact Nat.le_succ X)) (by rw [HX.out]; exact Nat.le_succ X)⟩
  · have hs : smallC n ⟨a, b, h⟩ = ⟨⟨Int.tmod a 100, Int.tmod b 100⟩, Go.bits .and .i64 h 1⟩ := by unfold smallC; rw [if_neg hn]
    rw [hs]
    dsimp only
    clear hs
    go_enter Try.func30, Try.ntmps30
    go_upto_region 1 with (fail)
    generalize (w.alloc (.cells #[.int .i64 a, .int .i64 b, .int .i64 h] 42)).alloc (.cells #[.int .i64 0, .int .i64 0, .int .i64 0] 39) = w1 at *
    simp only [HX.out]
    go_upto_region 4 with (fail)
    have HKX2 : Aside0 ((((w1.setCell ⟨X, 0, none⟩ (.int .i64 (Int.tmod a 100))).setCell ⟨X, 1, none⟩ (.int .i64 (Int.tmod b 100))).setCell ⟨X, 2, none⟩ (.int .i64 (Go.bits .and .i64 h 1))).heap[X]? = some (.cells #[.int .i64 (Int.tmod a 100), .int .i64 (Int.tmod b 100), .int .i64 (Go.bits .and .i64 h 1)] 42 (0, 0))) := ⟨(blk_put (blk_put (blk_put HKX.out 0 (.int .i64 (Int.tmod a 100)) rfl) 1 (.int .i64 (Int.tmod b 100)) rfl) 2 (.int .i64 (Go.bits .and .i64 h 1)) rfl)⟩
    have HKY2 : Aside0 ((((w1.setCell ⟨X, 0, none⟩ (.int .i64 (Int.tmod a 100))).setCell ⟨X, 1, none⟩ (.int .i64 (Int.tmod b 100))).setCell ⟨X, 2, none⟩ (.int .i64 (Go.bits .and .i64 h 1))).heap[X + 1]? = some (.cells #[.int .i64 0, .int .i64 0, .int .i64 0] 39 (0, 0))) := ⟨(blk_far (p := ⟨X, 2, none⟩) (blk_far (p := ⟨X, 1, none⟩) (blk_far (p := ⟨X, 0, none⟩) HKY.out hne2 (.int .i64 (Int.tmod a 100))) hne2 (.int .i64 (Int.tmod b 100))) hne2 (.int .i64 (Go.bits .and .i64 h 1)))⟩
    have HB2 : Aside0 (Below w.heap.size w (((w1.setCell ⟨X, 0, none⟩ (.int .i64 (Int.tmod a 100))).setCell ⟨X, 1, none⟩ (.int .i64 (Int.tmod b 100))).setCell ⟨X, 2, none⟩ (.int .i64 (Go.bits .and .i64 h 1)))) := ⟨(below_set (below_set (below_set HB.out (Nat.le_of_eq HX.out)) (Nat.le_of_eq HX.out)) (Nat.le_of_eq HX.out))⟩
    generalize (((w1.setCell ⟨X, 0, none⟩ (.int .i64 (Int.tmod a 100))).setCell ⟨X, 1, none⟩ (.int .i64 (Int.tmod b 100))).setCell ⟨X, 2, none⟩ (.int .i64 (Go.bits .and .i64 h 1))) = w2 at *
    clear p0 p1 p2 f0 f1 f2 HKX HKY
    have p0 := blk_cell HKX2.out 0
    have p1 := blk_cell HKX2.out 1
    have p2 := blk_cell HKX2.out 2
    simp only [List.getElem?_toArray, List.getElem?_cons_zero, List.getElem?_cons_succ] at p0 p1 p2
    go_wp2_with (first | (go_at_call 26; refine (honeycomblaw03_Own.calls _ _ _ _ _ _ _ (ownval _ _ _)).mono ?_; rintro e w3 ⟨rfl, hb3⟩; have HB3 := Aside0.mk (chain HB2.out hb3 HB2.out.size); have HKY3 := Aside0.mk (blk_below HKY2.out hb3); have g0 := blk_cell HKY3.out 0; have g1 := blk_cell HKY3.out 1; have g2 := blk_cell HKY3.out 2; simp only [List.getElem?_toArray, List.getElem?_cons_zero, List.getElem?_cons_succ] at g0 g1 g2; have y0 := blk_frozen HKY3.out 0; have y1 := blk_frozen HKY3.out 1; have y2 := blk_frozen HKY3.out 2; clear hb3))
    refine bodyPost_ret (results_cell_row rfl _ _ (X + 1) 39 #[.int .i64 (Int.tmod a 100), .int .i64 (Int.tmod b 100), .int .i64 (Go.bits .and .i64 h 1)] (0, 0) _ rfl (blk_put (blk_put (blk_put HKY3.out 0 _ rfl) 1 _ rfl) 2 _ rfl) Try.underlying39 rfl (by kernel_rfl)) rfl ?_
    exact ⟨rfl, below_set (below_set (below_set HB3.out (by rw [HX.out]; exact Nat.le_succ X)) (by rw [HX.out]; exact Nat.le_succ X)) (by rw [HX.out]; exact Nat.le_succ X)⟩
def someL (n : Int) (raw : List Rc) : List Cl := (raw.take 40).map (smallC n)
theorem someL_len (n : Int) (raw : List Rc) : (someL n raw).length ≤ 40 := by unfold someL; simp; omega
theorem tmod100 (x : Int) : -100 < Int.tmod x 100 ∧ Int.tmod x 100 < 100 := by
  have h1 := Int.tmod_lt_of_pos x (show (0 : Int) < 100 by decide)
  have h2 := Int.lt_tmod_of_pos x (show (0 : Int) < 100 by decide)
  omega
theorem smallC_bd (n : Int) (c : Rc) : (-100 < (smallC n c).f0.f0 ∧ (smallC n c).f0.f0 < 100) ∧ (-100 < (smallC n c).f0.f1 ∧ (smallC n c).f0.f1 < 100) ∧ 0 ≤ (smallC n c).f1 ∧ (smallC n c).f1 < 2 := by
  refine ⟨tmod100 _, tmod100 _, ?_⟩
  show 0 ≤ (if n = 1 then 0 else Go.bits .and .i64 c.f2 1) ∧ (if n = 1 then 0 else Go.bits .and .i64 c.f2 1) < 2
  split
  · omega
  · rw [bs.and1]
    omega
/-- the set of a law's cells -/
def someS (n : Int) (raw : List Rc) : List Cl := ofCl (someL n raw)
theorem someS_bd (n : Int) (raw : List Rc) : ∀ c ∈ someS n raw, (-100 < c.f0.f0 ∧ c.f0.f0 < 100) ∧ (-100 < c.f0.f1 ∧ c.f0.f1 < 100) ∧ 0 ≤ c.f1 ∧ c.f1 < 2 := by
  intro c hc
  obtain ⟨x, _, rfl⟩ := List.mem_map.1 ((mem_ofCl _ _).1 hc)
  exact smallC_bd n x
theorem someS_ok (n : Int) (raw : List Rc) : ∀ c ∈ someS n raw, ClOk c := by
  intro c hc
  obtain ⟨h1, h2, h3⟩ := someS_bd n raw c hc
  exact ⟨by omega, by omega, h3⟩
theorem someS_len (n : Int) (raw : List Rc) : (someS n raw).length ≤ 40 := Nat.le_trans (ofCl_len _) (someL_len n raw)
theorem someS_up (n : Int) (raw : List Rc) : UpC (someS n raw) := ofCl_strict _
theorem someL_step (n : Int) {raw : List Rc} {i : Nat} {x : Rc} (h : raw[i]? = some x) : (raw.take (i + 1)).map (smallC n) = (raw.take i).map (smallC n) ++ [smallC n x] := by
  obtain ⟨hlt, e⟩ := List.getElem?_eq_some_iff.1 h
  rw [List.take_succ_eq_append_getElem hlt, List.map_append, e]
  rfl
set_option maxRecDepth 100000 in
set_option maxHeartbeats 4000000 in
theorem some_walk (n : Int) (raw : List Rc) (A : Option Addr) (c : Nat) (w : World) (hC : Kd.C k42 w A raw.length raw) :
    Calls Try.prog 6 #[.int .i64 n, .slice A raw.length c] w fun e w' => ∃ v, e = .returned v ∧ Kd.R k39 39 w' w.heap.size (fun k => w.heap.size ≤ k) v (someS n raw) ∧ Below w.heap.size w w' := by
  have HC := Aside0.mk hC
  clear hC
  go_enter Try.func6, Try.ntmps6
  go_upto_region 2 with (fail)
  have hb := below_alloc (Below.refl w.heap.size w) (.cells #[] 39)
  have HB0 := Aside0.mk hb
  have HO : Aside0 (Kd.R k39 39 (w.alloc (.cells #[] 39)) w.heap.size (fun k => w.heap.size ≤ k) (.slice (some ⟨w.heap.size, 0, none⟩) 0 0) []) := ⟨fun k hk => by
    have : w.heap.size = k := by simpa [Value.ownBlock] using hk
    show w.heap.size ≤ k
    omega, OwnRow.lit w w.heap.size (ps := []) (inner := []) (Reps.none _ _) (Nat.le_refl _) (by simp)⟩
  clear hb
  go_wp2_with (fail)
  go_loopg [5, 6] (min raw.length 40) (fun kq c5 c6 w' => ∃ (i : Nat), i + kq = min raw.length 40 ∧ c6 = .int .i64 i ∧ Aside0 (Kd.R k39 39 w' w.heap.size (fun k => w.heap.size ≤ k) c5 ((raw.take i).map (smallC n))) ∧ Aside0 (Below w.heap.size w w'))
  case atStart => exact ⟨0, by omega, rfl, HO, HB0⟩
  case round =>
    clear HO HB0
    obtain ⟨i, hi, rfl, HR, HB⟩ := hrel
    obtain ⟨A5, c5, rfl⟩ := Kd.R_slice HR.out
    by_cases hlt : i < min raw.length 40
    · obtain ⟨gm, rfl⟩ : ∃ m, gk = m + 1 := ⟨gk - 1, by omega⟩
      have h1 : i < raw.length := by omega
      have h2 : i < 40 := by omega
      obtain ⟨x, hx⟩ : ∃ x, raw[i]? = some x := ⟨_, List.getElem?_eq_getElem h1⟩
      obtain ⟨ad, hae, p0, p1, p2⟩ := at_T42 (Kd.C_below HC.out HB.out) (i : Int) (by omega) (by omega)
      rw [rdR raw i x hx, Int.toNat_natCast] at p0 p1 p2
      have hsv := fun w => small_walk n x w
      have hst := someL_step n hx
      obtain ⟨y, hy⟩ : ∃ y, smallC n x = y := ⟨_, rfl⟩
      simp only [hy] at hsv
      rw [hy] at hst
      have HSV := Aside0.mk hsv
      have HST := Aside0.mk hst
      have hle : ((raw.take i).map (smallC n)).length ≤ 40 := by simp; omega
      have HLE := Aside0.mk hle
      generalize (raw.take i).map (smallC n) = out at *
      subst hae
      clear hsv hst hy hx hle
      go_wp2_with (first
        | (go_at_call 30; refine (HSV.out _).mono ?_; rintro e w1 ⟨rfl, hb1⟩; have HR1 := Aside0.mk (Kd.R_below HR.out hb1); have HB1 := Aside0.mk (chain HB.out hb1 HB.out.size); clear hb1)
        | ((with_reducible refine gate_builtin (b := .append) (xs := #[.tmp 18, .tmp 25]) rfl ?_); at_builtin; refine Kd.R_append k39 (w0 := w1) w.heap.size rfl (.tmp 18) (.tmp 25) 24 39 (.agg #[.int .i64 0, .int .i64 0, .int .i64 0]) 24 rfl Try.underlying24 infoCl rfl (by decide) (by decide) (.slice A5 out.length c5) out y [.int .i64 y.f0.f0, .int .i64 y.f0.f1, .int .i64 y.f1] (fun k => w.heap.size ≤ k) (fun _ => False) rfl rfl (k39_mkM _ _ _ _) (fun _ hk => hk.elim) (fun k hk => Nat.le_trans HB1.out.size hk) HR1.out (Below.refl _ _) HB1.out.size (by have := HLE.out; omega) ?_; intro v2 w2 ho2 hb2 hg2 hat2; have HO2 := Aside0.mk ho2; have HB2 := Aside0.mk (HB1.out.grown hg2 HB1.out.size (fun b hb => HR1.out.1 b hb)); clear ho2 hb2 hg2 hat2))
      go_roundg gm
      case measure => omega
      case rel => exact ⟨i + 1, by omega, by go_num, ⟨by rw [HST.out]; exact HO2.out⟩, HB2⟩
    · have he : (raw.take i).map (smallC n) = someL n raw := by
        unfold someL
        rw [show raw.take i = raw.take 40 from (List.take_eq_take_iff).2 (by omega)]
      have hg : ¬ ((i < raw.length) ∧ i < 40) := by omega
      have hll := someL_len n raw
      rw [he] at HR
      have hcd : ((raw.take i).map (smallC n)).length = (someL n raw).length := by rw [he]
      have HLL := Aside0.mk hll
      simp only [hcd]
      clear hcd he
      have HRC := Aside0.mk (by have h := HR.out; exact (Kd.R_reads' h).2.2)
      go_wp2_with (first
        | (go_at_call 31; refine (setofd_walk (someL n raw) A5 c5 wr HRC.out (by have := HLL.out; omega)).mono ?_; rintro e w3 ⟨v3, rfl, hr3, hb3⟩; have HR3 := Aside0.mk hr3; have HB3 := Aside0.mk hb3; clear hr3 hb3))
      all_goals (
       refine bodyPost_ret (v := v3) (by simp [results, Try.results6, go_sem]) rfl ?_
       exact ⟨_, rfl, Kd.R_lower (Kd.R_mono HR3.out (fun k hk => Nat.le_trans HB.out.size hk)) HB.out.size, chain HB.out HB3.out HB.out.size⟩)
end Go.Proofs.Ytpmipllohiiocaa.tr
