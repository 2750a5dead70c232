/- With more cells, more generations, further out, no bound of the package bound is less: the law BoundRises answers true for any numbers. -/
import Derived.Test.YtohcigellhnlnaaPBoundRisesx2
import Derived.Test.YtohcigellhnlnaaBlPBoundRises
namespace Go.Proofs.Ytohcigellhnlnaa.Pure
open Go.RowKit Go.Proofs.Ytohcigellhnlnaa.PBoundRises Go.Proofs.YtohcigellhnlnaaW.PrintWords Go.Proofs.YtohcigellhnlnaaW.PrintLast Go.Proofs.Ytohcigellhnlnaa.blPBoundRises

theorem tm_mono {a b c d : Int} (ha : 0 ≤ a) (hc : 0 ≤ c) (h : a ≤ b) (h2 : c ≤ d) : tm a c ≤ tm b d := by
  have h3 : a * c ≤ b * d := Int.mul_le_mul h h2 hc (by omega)
  unfold tm; split <;> split <;> omega
theorem cap_mono {a b : Int} (h : a ≤ b) : cap a ≤ cap b := by unfold cap; split <;> split <;> omega
theorem gen_mono {a b : Int} (h : a ≤ b) : gen a ≤ gen b := by unfold gen; split <;> (try split) <;> (try split) <;> (try split) <;> omega
theorem cells_mono {p q n m : Int} (hp : 0 ≤ p) (h : p ≤ q) (h2 : n ≤ m) : cellsV p n ≤ cellsV q m := by
  have g := gen_mono h2
  have g1 := gen_bd n
  have c1 := cap_bd hp
  have t0 : tm 1 2 = 2 := by decide
  unfold cellsV
  rw [t0]
  refine tm_mono (tm_bd (tm_bd (by omega) c1.1).1 (by omega)).1 (by omega) (tm_mono (tm_bd (by omega) c1.1).1 (by omega) (tm_mono (by omega) c1.1 (by omega) (cap_mono h)) (by omega)) (by omega)
theorem least_mono {a b : Int} (h : a ≤ b) (d : Nat) : ∀ l, least (fun l => a < half l) d l ≤ least (fun l => b < half l) d l := by
  induction d with
  | zero => intro l; simp [least]
  | succ d ih =>
    intro l
    have := ih (l + 1)
    have := least_bd (fun l => b < half l) d (l + 1)
    unfold least
    split
    · split <;> omega
    · split <;> omega
theorem level_mono {a b n m : Int} (h : a ≤ b) (h2 : n ≤ m) : levelV a n ≤ levelV b m := by
  have g := gen_mono h2
  have hf : farV a n ≤ farV b m := by unfold farV; split <;> (try split) <;> (try split) <;> (try split) <;> omega
  have := least_mono hf 41 3
  unfold levelV lvl
  split <;> split <;> omega
theorem nodes_mono {p q n m a b : Int} (hp : 0 ≤ p) (h : p ≤ q) (h2 : n ≤ m) (h3 : a ≤ b) : nodesV p n a ≤ nodesV q m b := by
  have hc := cells_mono hp h h2
  have hl := level_mono h3 h2
  have hl0 := level_bd a n
  have g := gen_mono h2
  have g1 := gen_bd n
  have c0 := cells_bd p n hp
  have c1 := cap_bd hp
  have t0 : tm 1 4 = 4 := by decide
  have m1 : tm 4 (cellsV p n) ≤ tm 4 (cellsV q m) := tm_mono (by omega) c0.1 (by omega) hc
  have b1 := tm_bd (a := 4) (by omega) c0.1
  have m2 := tm_mono b1.1 (by omega : (0:Int) ≤ levelV a n) m1 hl
  have b2 := tm_bd b1.1 (by omega : (0:Int) ≤ levelV a n)
  have m3 := tm_mono b2.1 (by omega : (0:Int) ≤ gen n + 21) m2 (by omega : gen n + 21 ≤ gen m + 21)
  have b3 := tm_bd (a := 1) (by omega) c1.1
  have m4 := tm_mono (a := 1) (by omega) c1.1 (Int.le_refl 1) (cap_mono h)
  have m5 := tm_mono b3.1 (by omega : (0:Int) ≤ levelV a n) m4 hl
  unfold nodesV
  rw [t0]
  refine cap_mono ?_
  have := cap_mono (Int.add_le_add m3 m5)
  omega

theorem awake_some : honeycomblaw19_awake.f 100 = some true := by decide +kernel

theorem BoundRises : honeycomblaw19_BoundRises.Pure := by
  intro p n e a b c hp hn he ha hb hc
  have hp := bs.bd_u64 hp
  have ha := bs.bd_u64 ha
  refine ⟨100, ?_⟩
  unfold honeycomblaw19_BoundRises.f
  rw [awake_some]
  simp only [Option.bind_some, if_true]
  obtain ⟨P, hP⟩ : ∃ P, P = mx (IntKind.u64.wrap ((IntKind.u64.wrap (Int.tdiv p 2)) + (IntKind.u64.wrap (Int.tdiv a 2)))) p := ⟨_, rfl⟩
  obtain ⟨K, hK⟩ : ∃ K, K = mx (wrap64 ((wrap64 (Int.tdiv n 2)) + (wrap64 (Int.tdiv b 2)))) n := ⟨_, rfl⟩
  obtain ⟨X, hX⟩ : ∃ X, X = mx (wrap64 ((wrap64 (Int.tdiv e 2)) + (wrap64 (Int.tdiv c 2)))) e := ⟨_, rfl⟩
  rw [← hP, ← hK, ← hX]
  have h1 : p ≤ P := by rw [hP]; unfold mx; split <;> omega
  have h2 : n ≤ K := by rw [hK]; unfold mx; split <;> omega
  have h3 : e ≤ X := by rw [hX]; unfold mx; split <;> omega
  clear hP hK hX
  rw [cells_tells P K (by omega) 100 (by omega), cells_tells p n (by omega) 100 (by omega), level_tells X K 100 (by omega), level_tells e n 100 (by omega), nodes_tells P K X (by omega) 100 (by omega), nodes_tells p n e (by omega) 100 (by omega)]
  simp only [Option.bind_some]
  rw [if_pos (cells_mono (by omega) h1 h2), if_pos (level_mono h3 h2)]
  exact congrArg some (decide_eq_true (nodes_mono (by omega) h1 h2 h3))
end Go.Proofs.Ytohcigellhnlnaa.Pure
