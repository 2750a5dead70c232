/- The walks over arena.New and (*Arena).SetMost. -/
import Derived.Test.YtbkbkgfpnefilaaArSee
namespace Go.Proofs.Ytbkbkgfpnefilaa.ar
open Go.RowKit Go.Proofs.YtbkbkgfpnefilaaW.PrintWords Go.Proofs.YtbkbkgfpnefilaaW.PrintLast Go.Proofs.YtbkbkgfpnefilaaW.PrintMore Go.Proofs.Ytbkbkgfpnefilaa.bs Go.ChangeShapes Go.Proofs.Ytbkbkgfpnefilaa.lb

/-- new empty ones -/
theorem ArAt.new_empty {w w1 : World} {F F' : Nat → Prop} {p : Nat} {nodes : List Nd} {slots : List Nat} {empty empty' : List Int} {most : Int} {nv sv ev ev' : Value}
    (h : ArAt w F p nodes slots empty most nv sv ev) (hg : w.grownBy w1 ev.ownBlock) (hF : ∀ k, F k → F' k) (ho : Kd.R (Kd.int .u32) 38 w1 0 F' ev' empty')
    (hat : ev'.ownBlock = ev.ownBlock ∨ ∃ b, ev'.ownBlock = some b ∧ w.heap.size ≤ b) :
    ArAt (w1.setCell ⟨p, 2, none⟩ ev') F' p nodes slots empty' most nv sv ev' := by
  have hpn : some p ≠ ev.ownBlock := Kd.R_ne h.he h.blk (by decide)
  have hb := blk_grown h.blk hg hpn
  have hu : ∀ q, q ∈ 131 :: kNd.E → q ≠ 38 := by
    intro q hq
    simp only [List.mem_cons] at hq
    rcases hq with rfl | hq
    · decide
    · exact absurd hq (by simp [kNd, Kd.iso, Kd.pair, Kd.int, Kd.scalar])
  refine ⟨blk_put hb 2 _ rfl, ?_, ?_, Kd.R_set ho hb types_ne2 2 _, hF _ h.hF, ?_⟩
  · exact Kd.R_mono (Kd.R_set (Kd.R_over h.hn h.he hu hg) hb types_ne 2 _) hF
  · exact Kd.R_mono (Kd.R_set (Kd.R_grown2 h.hs rfl hg (fun k hk hk2 => h.apart k hk2.symm hk)) hb types_ne2 2 _) hF
  · intro k hk hk2
    rcases hat with e | ⟨b, e, hlt⟩
    · exact h.apart k hk (e ▸ hk2)
    · have h1 : b = k := by rw [e] at hk2; exact Option.some.inj hk2
      have h2 := Kd.R_lt h.hs k hk
      omega
theorem grown_alloc (w : World) (o : Obj) (row : Option Nat) : w.grownBy (w.alloc o) row := ⟨rfl, rfl, rfl, by simp, fun k hk _ => Below.heap_alloc w o k hk⟩
/-- a slice of numbers written out -/
theorem lit_slice (w : World) (ok : Nat → Prop) (xs : List Int) (hmax : xs.length ≤ maxLen) (hok : ok w.heap.size) :
    Kd.R (Kd.int .u32) 38 (w.alloc (.cells (xs.map (Value.int .u32)).toArray 38)) 0 ok (.slice (some ⟨w.heap.size, 0, none⟩) xs.length xs.length) xs := by
  refine Kd.R_of_own ⟨by simp [encs], .inr ⟨w.heap.size, xs.length, _, rfl, Nat.zero_le _, blk_new w _, Nat.le_refl _, hmax, by simp, ?_⟩⟩ (fun k hk => ?_)
  · rw [List.take_of_length_le (by simp)]; rfl
  · obtain rfl := Option.some.inj hk
    exact hok
def nd0 : Nd := ⟨leafKey 0, 0⟩
theorem add_first (mm : Int) (h : 64 ≤ mm) : addN [] mm (leafKey (0 : Nat)) (popN 32 0 : Nat) = ([nd0], 0, 0) := by
  unfold addN
  rw [show idx [] (leafKey (0 : Nat)) = none from rfl]
  simp only [List.length_nil]
  rw [if_neg (by omega), popN_zero]
  rfl
attribute [local go_sem] max_two min_two
set_option maxHeartbeats 1000000 in
theorem new_walk (most : Int) (hm : most ≤ 9223372036854775807) (w : World) :
    Calls Try.prog 40 #[.int .i64 most] w fun e w' => ∃ p, e = .returned (.pointer (some ⟨p, 0, none⟩)) ∧ Ar w' (fun k => w.heap.size ≤ k) p [nd0] [0, 0, 0] (max most 64) ∧ Below w.heap.size w w' := by
  obtain ⟨mm, hmm, hmax⟩ : ∃ mm : Int, max most 64 = mm ∧ Builtin.max2 (.int .i64 most) (.int .i64 64) = pure (.int .i64 mm) := ⟨_, rfl, by rw [max2_int]; congr 2; split <;> omega⟩
  have hm64 : 64 ≤ mm := by omega
  have HMM := Aside0.mk hmm
  clear hmm
  go_enter Try.func40, Try.ntmps40
  go_upto_region 2 with (first | ((with_reducible refine gate_dst (N := 6) rfl ?_); refine Kd.R_make (Kd.int .u32) (w0 := w) 0 38 rfl rfl 74 (.const (.int .i64 128)) (.const (.int .i64 128)) rfl 128 rfl rfl Try.underlying74 (.int .u32 0) 4 infoU rfl (by decide) (by decide) 0 (ok := fun k => w.heap.size ≤ k) (okp := fun _ => False) rfl (fun _ hk => hk.elim) (Nat.le_refl _) (by omega) (by omega) (Below.refl _ _) (Nat.zero_le _) ?_; intro v1 w1 ho1 hb1 hg1 hat1; rw [show (128 : Int).toNat = 128 by rfl, show List.replicate 128 (0 : Int) = ints (List.replicate 128 0) by simp [ints]] at ho1; obtain ⟨bs, cb, rfl, _, hbz, _⟩ := Kd.R_form ho1 (by rw [ints_len, List.length_replicate]; omega); simp only [ints_len, List.length_replicate] at ho1 ⊢; have HO := Aside0.mk ho1; have HG := Aside0.mk hg1; clear ho1 hb1 hg1 hat1))
  have hs1 := HG.out.size
  have AA : ArAt (w1.alloc (.cells #[.slice none 0 0, .slice (some ⟨bs, 0, none⟩) 128 cb, .slice none 0 0, .int .i64 mm] 121)) (fun k => w.heap.size ≤ k) w1.heap.size [] (List.replicate 128 0) [] mm (.slice none 0 0) (.slice (some ⟨bs, 0, none⟩) 128 cb) (.slice none 0 0) :=
    ⟨blk_new w1 _, Kd.R_nil _ _ _ _ _, Kd.R_below HO.out (below_alloc (Below.refl _ _) _), Kd.R_nil _ _ _ _ _, hs1, ne_nil' _⟩
  have A1 : Ar (w1.alloc (.cells #[.slice none 0 0, .slice (some ⟨bs, 0, none⟩) 128 cb, .slice none 0 0, .int .i64 mm] 121)) (fun k => w.heap.size ≤ k) w1.heap.size [] [] mm :=
    ⟨⟨_, _, _, _, AA, slotted_zeros (by omega) (fun i j x y hx => by simp at hx), by simp, by simp, by simp⟩, fun i x hx => by simp at hx, by simp⟩
  have K1 := Aside0.mk (((Keeps.refl (fun k => w.heap.size ≤ k) w).grown HG.out (fun _ hk => by cases hk)).alloc (.cells #[.slice none 0 0, .slice (some ⟨bs, 0, none⟩) 128 cb, .slice none 0 0, .int .i64 mm] 121))
  have hs2 : w.heap.size ≤ (w1.alloc (.cells #[.slice none 0 0, .slice (some ⟨bs, 0, none⟩) 128 cb, .slice none 0 0, .int .i64 mm] 121)).heap.size := by simp; omega
  have HLEAF := Aside0.mk (leaf_walk (fun k => w.heap.size ≤ k) w1.heap.size [] [] mm _ 0 (by omega) (by simp) A1)
  clear AA A1 HO HG
  obtain ⟨p, hp⟩ : ∃ p, w1.heap.size = p := ⟨_, rfl⟩
  simp only [hp] at HLEAF ⊢
  rw [hp] at hs1
  have HP := Aside0.mk hp
  clear hp
  change Code.wp _ _ _ _ (w1.alloc (.cells #[.slice none 0 0, .slice (some ⟨bs, 0, none⟩) 128 cb, .slice none 0 0, .int .i64 mm] 121))
  generalize w1.alloc (.cells #[.slice none 0 0, .slice (some ⟨bs, 0, none⟩) 128 cb, .slice none 0 0, .int .i64 mm] 121) = w2 at *
  go_wp2_with (fail)
  refine HLEAF.out.mono ?_
  rw [add_first mm hm64]
  rintro e w3 ⟨rfl, hA3, hk3⟩
  dsimp only at hA3 ⊢
  rw [show errOf 0 = .nilIface from rfl]
  obtain ⟨⟨slots, nv, sv, ev, AR, S, h1, h2, h3⟩, hok, hsz⟩ := hA3
  have A3 := Aside0.mk AR
  have HS := Aside0.mk S
  have K3 := Aside0.mk (K1.out.trans hk3 (fun k hk => .inl hk))
  clear AR S hk3 HLEAF K1
  have A4 := Aside0.mk (A3.out.below (below_alloc (Below.refl _ _) (.cells #[.int .u32 0, .int .u32 0, .int .u32 0] 38)))
  have A5 := Aside0.mk (ArAt.new_empty (F' := fun k => w.heap.size ≤ k) A3.out (grown_alloc w3 (.cells #[.int .u32 0, .int .u32 0, .int .u32 0] 38) _) (fun k hk => hk.elim id (fun h => Nat.le_trans hs2 h)) (lit_slice w3 _ [0, 0, 0] (by decide) K3.out.size) (.inr ⟨_, rfl, Nat.le_refl _⟩))
  have K5 := Aside0.mk (((K3.out.alloc (.cells #[.int .u32 0, .int .u32 0, .int .u32 0] 38))).setCell (p := ⟨p, 2, none⟩) (.inl hs1) (.slice (some ⟨w3.heap.size, 0, none⟩) 3 3))
  have c2 := blk_cell A4.out.blk 2
  have f2 := blk_frozen A4.out.blk 2
  simp only [List.getElem?_toArray, List.getElem?_cons_zero, List.getElem?_cons_succ] at c2
  clear A3 K3 A4
  go_wp2_with (fail)
  go_ret
  rw [HMM.out]
  exact ⟨p, rfl, ⟨⟨slots, _, _, _, A5.out, HS.out, h1, h2, h3⟩, hok, hsz⟩, K5.out.below (fun k hk => hk) (Nat.le_refl _)⟩
end Go.Proofs.Ytbkbkgfpnefilaa.ar
