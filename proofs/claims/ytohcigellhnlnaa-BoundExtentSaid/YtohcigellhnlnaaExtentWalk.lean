/- What the law BoundExtent answers: by the printed functions. -/
import Derived.Test.YtohcigellhnlnaaPBoundExtentx2
import Derived.Test.YtohcigellhnlnaaBlPBoundExtent
namespace Go.Proofs.Ytohcigellhnlnaa.lawBoundExtent
open Go.RowKit Go.Proofs.Ytohcigellhnlnaa.PBoundExtent Go.Proofs.YtohcigellhnlnaaW.PrintWords Go.Proofs.YtohcigellhnlnaaW.PrintLast Go.Proofs.Ytohcigellhnlnaa.blPBoundExtent

def ext1 (o x : Int) : Int := mx (mx o (mn x 4611686018427387904)) (wrap64 (-(mx x (-4611686018427387904))))
def abs1 (o x : Int) : Int := if o < (if x < 0 then -x else x) then (if x < 0 then -x else x) else o
theorem awake_some : honeycomblaw19_awake.f 100 = some true := by decide +kernel
theorem ext1_cap (o x : Int) (h0 : 0 ≤ o) (hx : -9223372036854775808 ≤ x ∧ x ≤ 9223372036854775807) : ext1 (cap o) x = cap (abs1 o x) := by
  have e : wrap64 (-(mx x (-4611686018427387904))) = -(mx x (-4611686018427387904)) := by unfold wrap64 mx; split <;> omega
  unfold ext1
  rw [e]
  unfold mx mn cap abs1
  split <;> (try split) <;> (try split) <;> (try split) <;> (try split) <;> (try split) <;> (try split) <;> (try split) <;> omega
theorem bound_list (a b c d : Int) (k : Nat) (hk : 50 < k) : bound_Extent.f k a b c d = some (ext1 (ext1 (ext1 (ext1 0 a) b) c) d) := by
  obtain ⟨k, rfl⟩ : ∃ m, k = m + 5 := ⟨k - 5, by omega⟩
  unfold bound_Extent.f
  simp only [Option.bind_some, bound_Extent.l0]
  have w1 : wrap64 1 = 1 := by unfold wrap64; omega
  have w2 : wrap64 2 = 2 := by unfold wrap64; omega
  have w3 : wrap64 3 = 3 := by unfold wrap64; omega
  have w4 : wrap64 4 = 4 := by unfold wrap64; omega
  simp [w1, w2, w3, w4, rd, ext1]
theorem law_step (k : Nat) (o a b c d : Int) (xs : List Int) (i : Nat) (hi : i < xs.length) (hl : xs.length < 50) (hx : -9223372036854775808 ≤ xs[i] ∧ xs[i] ≤ 9223372036854775807) :
    honeycomblaw19_BoundExtent.l0 (k + 1) o xs (xs.length : Int) (i : Int) a b c d = honeycomblaw19_BoundExtent.l0 k (abs1 o xs[i]) xs (xs.length : Int) ((i + 1 : Nat) : Int) a b c d := by
  have hr : rd xs (i : Int) = xs[i] := by unfold rd; simp [hi]
  have ew : wrap64 ((i : Int) + 1) = ((i + 1 : Nat) : Int) := by unfold wrap64; omega
  simp only [honeycomblaw19_BoundExtent.l0]
  rw [if_pos (by omega), if_pos (by omega), if_pos (by omega), hr, ew]
  generalize xs[i] = x at *
  simp only [IntKind.wrap_u64]
  by_cases h : x < 0
  · rw [if_pos h]
    congr 1
    unfold mx abs1
    rw [if_pos h]
    split <;> split <;> omega
  · rw [if_neg h]
    congr 1
    unfold mx abs1
    rw [if_neg h]
    split <;> split <;> omega

theorem abs1_bd (o x : Int) (h : 0 ≤ o) : 0 ≤ abs1 o x := by unfold abs1; split <;> (try split) <;> omega
theorem law_tells (a b c d : Int) (ha : -9223372036854775808 ≤ a ∧ a ≤ 9223372036854775807) (hb : -9223372036854775808 ≤ b ∧ b ≤ 9223372036854775807) (hc : -9223372036854775808 ≤ c ∧ c ≤ 9223372036854775807) (hd : -9223372036854775808 ≤ d ∧ d ≤ 9223372036854775807) :
    honeycomblaw19_BoundExtent.f 100 a b c d = some true := by
  unfold honeycomblaw19_BoundExtent.f
  rw [awake_some]
  simp only [Option.bind_some, if_true]
  have s0 := law_step 99 0 a b c d [a, b, c, d] 0 (by simp) (by simp) (by simpa using ha)
  have s1 := law_step 98 (abs1 0 a) a b c d [a, b, c, d] 1 (by simp) (by simp) (by simpa using hb)
  have s2 := law_step 97 (abs1 (abs1 0 a) b) a b c d [a, b, c, d] 2 (by simp) (by simp) (by simpa using hc)
  have s3 := law_step 96 (abs1 (abs1 (abs1 0 a) b) c) a b c d [a, b, c, d] 3 (by simp) (by simp) (by simpa using hd)
  have h1 := abs1_bd 0 a (by omega)
  have h2 := abs1_bd _ b h1
  have h3 := abs1_bd _ c h2
  have h4 := abs1_bd _ d h3
  have e0 : (0 : Int) = cap 0 := by decide
  have hext : bound_Extent.f 95 a b c d = some (cap (abs1 (abs1 (abs1 (abs1 0 a) b) c) d)) := by
    rw [bound_list a b c d 95 (by omega)]
    conv => lhs; rw [e0]
    rw [ext1_cap 0 a (by omega) ha, ext1_cap _ b h1 hb, ext1_cap _ c h2 hc, ext1_cap _ d h3 hd]
  have hc := cap_bd h4
  refine s0.trans (s1.trans (s2.trans (s3.trans ?_)))
  rw [honeycomblaw19_BoundExtent.l0, if_neg (by simp), hext]
  simp only [Option.bind_some]
  rw [show IntKind.u64.wrap (cap (abs1 (abs1 (abs1 (abs1 0 a) b) c) d)) = cap (abs1 (abs1 (abs1 (abs1 0 a) b) c) d) by rw [IntKind.wrap_u64]; omega, cap_eq]
  simp
theorem extent_walk (a b c d : Int) (w : World) (ha : -9223372036854775808 ≤ a ∧ a ≤ 9223372036854775807) (hb : -9223372036854775808 ≤ b ∧ b ≤ 9223372036854775807) (hc : -9223372036854775808 ≤ c ∧ c ≤ 9223372036854775807) (hd : -9223372036854775808 ≤ d ∧ d ≤ 9223372036854775807) :
    Calls Try.prog 4 #[.agg #[.int .i64 a, .int .i64 b, .int .i64 c, .int .i64 d]] w fun e w' => e = .returned (.bool true) ∧ Below w.heap.size w w' :=
  honeycomblaw19_BoundExtent.calls 100 a b c d true w (law_tells a b c d ha hb hc hd)
end Go.Proofs.Ytohcigellhnlnaa.lawBoundExtent
