/- The walks over what tells of an arena's node: has, Level, Bits, Count, Kids. -/
import Derived.Test.YtbkbkgfpnefilaaArKeep
import Derived.Outline
namespace Go.Proofs.Ytbkbkgfpnefilaa.ar
open Go.RowKit Go.Proofs.YtbkbkgfpnefilaaW.PrintWords Go.Proofs.YtbkbkgfpnefilaaW.PrintLast Go.Proofs.YtbkbkgfpnefilaaW.PrintMore Go.Proofs.Ytbkbkgfpnefilaa.bs Go.ChangeShapes

section
variable (F : Nat → Prop) (p : Nat) (nodes : List Nd) (slots : List Nat) (empty : List Int) (most : Int) (nv sv ev : Value) (w : World) (A : ArAt w F p nodes slots empty most nv sv ev)
include A
theorem has_yes (i : Nat) (h : i < nodes.length) : Calls Try.prog 72 #[.pointer (some ⟨p, 0, none⟩), .int .u32 i] w fun e w' => e = .returned (.bool true) ∧ w = w' := by
  obtain ⟨a, c, rfl⟩ := Kd.R_slice A.hn
  have c0 := blk_cell A.blk 0
  simp only [List.getElem?_toArray, List.getElem?_cons_zero] at c0
  have hm := Kd.C_max (Kd.R_reads' A.hn).2.2
  have hb : decide ((i : Int) < (nodes.length : Int)) = true := by simp; omega
  clear A
  go_enter Try.func72, Try.ntmps72
  go_wp2
  go_ret
  exact ⟨ret_bool (by first | (simp; done) | (simp; omega)), rfl⟩
theorem has_no (i : Int) (h0 : 0 ≤ i) (h1 : i < 4294967296) (h : nodes.length ≤ i) : Calls Try.prog 72 #[.pointer (some ⟨p, 0, none⟩), .int .u32 i] w fun e w' => e = .returned (.bool false) ∧ w = w' := by
  obtain ⟨a, c, rfl⟩ := Kd.R_slice A.hn
  have c0 := blk_cell A.blk 0
  simp only [List.getElem?_toArray, List.getElem?_cons_zero] at c0
  have hb : decide (i < (nodes.length : Int)) = false := by simp; omega
  clear A
  go_enter Try.func72, Try.ntmps72
  go_wp2
  go_ret
  exact ⟨ret_bool (by first | (simp; done) | (simp; omega)), rfl⟩
theorem level_yes (i : Nat) (x : Nd) (hx : nodes[i]? = some x) : Calls Try.prog 29 #[.pointer (some ⟨p, 0, none⟩), .int .u32 i] w fun e w' => e = .returned (.int .i64 x.key.level) ∧ w = w' := by
  have hi := (List.getElem?_eq_some_iff.1 hx).1
  have hh := has_yes F p nodes slots empty most nv sv ev w A i hi
  obtain ⟨a, c, rfl⟩ := Kd.R_slice A.hn
  have c0 := blk_cell A.blk 0
  simp only [List.getElem?_toArray, List.getElem?_cons_zero] at c0
  obtain ⟨ad, rfl, ⟨n0, n1, n2, n3, n4, n5, n6⟩⟩ := A.node_cells hx
  clear A
  go_enter Try.func29, Try.ntmps29
  go_wp2_with (fail)
  refine hh.mono ?_; rintro e w1 ⟨rfl, rfl⟩
  go_wp2_with (fail)
  go_ret
  exact ⟨rfl, rfl⟩
theorem level_no (i : Int) (h0 : 0 ≤ i) (h1 : i < 4294967296) (h : nodes.length ≤ i) : Calls Try.prog 29 #[.pointer (some ⟨p, 0, none⟩), .int .u32 i] w fun e w' => e = .returned (.int .i64 (-1)) ∧ w = w' := by
  have hh := has_no F p nodes slots empty most nv sv ev w A i h0 h1 h
  clear A
  go_enter Try.func29, Try.ntmps29
  go_wp2_with (fail)
  refine hh.mono ?_; rintro e w1 ⟨rfl, rfl⟩
  go_wp2_with (fail)
  go_ret
  exact ⟨rfl, rfl⟩
theorem bits_yes (i : Nat) (x : Nd) (hx : nodes[i]? = some x) : Calls Try.prog 78 #[.pointer (some ⟨p, 0, none⟩), .int .u32 i] w fun e w' => e = .returned (.int .u32 x.key.bits) ∧ w = w' := by
  have hi := (List.getElem?_eq_some_iff.1 hx).1
  have hh := has_yes F p nodes slots empty most nv sv ev w A i hi
  obtain ⟨a, c, rfl⟩ := Kd.R_slice A.hn
  have c0 := blk_cell A.blk 0
  simp only [List.getElem?_toArray, List.getElem?_cons_zero] at c0
  obtain ⟨ad, rfl, ⟨n0, n1, n2, n3, n4, n5, n6⟩⟩ := A.node_cells hx
  clear A
  go_enter Try.func78, Try.ntmps78
  go_wp2_with (fail)
  refine hh.mono ?_; rintro e w1 ⟨rfl, rfl⟩
  go_wp2_with (fail)
  go_ret
  exact ⟨rfl, rfl⟩
theorem bits_no (i : Int) (h0 : 0 ≤ i) (h1 : i < 4294967296) (h : nodes.length ≤ i) : Calls Try.prog 78 #[.pointer (some ⟨p, 0, none⟩), .int .u32 i] w fun e w' => e = .returned (.int .u32 0) ∧ w = w' := by
  have hh := has_no F p nodes slots empty most nv sv ev w A i h0 h1 h
  clear A
  go_enter Try.func78, Try.ntmps78
  go_wp2_with (fail)
  refine hh.mono ?_; rintro e w1 ⟨rfl, rfl⟩
  go_wp2_with (fail)
  go_ret
  exact ⟨rfl, rfl⟩
theorem count_yes (i : Nat) (x : Nd) (hx : nodes[i]? = some x) : Calls Try.prog 37 #[.pointer (some ⟨p, 0, none⟩), .int .u32 i] w fun e w' => e = .returned (.int .u64 x.count) ∧ w = w' := by
  have hi := (List.getElem?_eq_some_iff.1 hx).1
  have hh := has_yes F p nodes slots empty most nv sv ev w A i hi
  obtain ⟨a, c, rfl⟩ := Kd.R_slice A.hn
  have c0 := blk_cell A.blk 0
  simp only [List.getElem?_toArray, List.getElem?_cons_zero] at c0
  obtain ⟨ad, rfl, ⟨n0, n1, n2, n3, n4, n5, n6⟩⟩ := A.node_cells hx
  clear A
  go_enter Try.func37, Try.ntmps37
  go_wp2_with (fail)
  refine hh.mono ?_; rintro e w1 ⟨rfl, rfl⟩
  go_wp2_with (fail)
  go_ret
  exact ⟨rfl, rfl⟩
theorem count_no (i : Int) (h0 : 0 ≤ i) (h1 : i < 4294967296) (h : nodes.length ≤ i) : Calls Try.prog 37 #[.pointer (some ⟨p, 0, none⟩), .int .u32 i] w fun e w' => e = .returned (.int .u64 0) ∧ w = w' := by
  have hh := has_no F p nodes slots empty most nv sv ev w A i h0 h1 h
  clear A
  go_enter Try.func37, Try.ntmps37
  go_wp2_with (fail)
  refine hh.mono ?_; rintro e w1 ⟨rfl, rfl⟩
  go_wp2_with (fail)
  go_ret
  exact ⟨rfl, rfl⟩
end
end Go.Proofs.Ytbkbkgfpnefilaa.ar
