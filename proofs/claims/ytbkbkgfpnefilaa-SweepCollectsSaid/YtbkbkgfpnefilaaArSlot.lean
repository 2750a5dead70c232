/- The walk over (*Arena).slot: where a key is, or would be. -/
import Derived.Test.YtbkbkgfpnefilaaArRep
import Derived.Test.YtbkbkgfpnefilaaArEq
import Derived.Deep.DeepCutAuto
import Derived.Deep.LoopGhost
import Derived.Deep.RegionHeld3
import Derived.RegionTactic
import Derived.BigRegion
namespace Go.Proofs.Ytbkbkgfpnefilaa.ar
open Go.RowKit Go.Proofs.YtbkbkgfpnefilaaW.PrintWords Go.Proofs.YtbkbkgfpnefilaaW.PrintLast Go.Proofs.YtbkbkgfpnefilaaW.PrintMore Go.Proofs.Ytbkbkgfpnefilaa.bs Go.ChangeShapes

attribute [local go_sem high] eqlKey guardKey buildKey
def SlotRes (nodes : List Nd) (slots : List Nat) (k : Key) (i : Nat) : Prop :=
  ∃ d, i = (st k slots.length + d) % slots.length ∧ Probing st nodes slots k d ∧ (slots[i]? = some 0 ∨ ∃ j nd, slots[i]? = some (j + 1) ∧ nodes[j]? = some nd ∧ nd.key = k)
theorem index4 (w : World) (a b c d : Int) : ∀ j : Nat, j < 4 → (Instr.index 129 (.agg #[.int .u32 a, .int .u32 b, .int .u32 c, .int .u32 d]) (.int .i64 j)).run Try.prog w = .ok (.int .u32 ([a, b, c, d].getD j 0)) w
  | 0, _ => by kernel_rfl
  | 1, _ => by kernel_rfl
  | 2, _ => by kernel_rfl
  | 3, _ => by kernel_rfl
  | n + 4, h => by omega
theorem hash_step (k : Key) (j : Nat) (h : j < 4) : hashTo k (j + 1) = mixV (hashTo k j) ([k.k0, k.k1, k.k2, k.k3].getD j 0) := by
  have : j = 0 ∨ j = 1 ∨ j = 2 ∨ j = 3 := by omega
  rcases this with rfl | rfl | rfl | rfl <;> rfl
theorem kid_bd {k : Key} (h : KeyOk k) (j : Nat) : 0 ≤ [k.k0, k.k1, k.k2, k.k3].getD j 0 ∧ [k.k0, k.k1, k.k2, k.k3].getD j 0 < 4294967296 := by
  have h0 := h.p0; have h1 := h.p1; have h2 := h.p2; have h3 := h.p3
  match j with
  | 0 => exact h0
  | 1 => exact h1
  | 2 => exact h2
  | 3 => exact h3
  | n + 4 => exact ⟨by simp, by simp⟩

theorem ArAt.slot_cell {w : World} {F : Nat → Prop} {p : Nat} {nodes : List Nd} {slots : List Nat} {empty : List Int} {most : Int} {nv ev : Value} {bs n cs : Nat}
    (h : ArAt w F p nodes slots empty most nv (.slice (some ⟨bs, 0, none⟩) n cs) ev) {i x : Nat} (hx : slots[i]? = some x) : w.cell? ⟨bs, i, none⟩ = some (.int .u32 x) ∧ w.frozen? ⟨bs, i, none⟩ = false := by
  have hl := (Kd.R_reads' h.hs).1
  have hil : i < slots.length := (List.getElem?_eq_some_iff.1 hx).1
  have hs := h.hs
  rw [hl] at hs
  have := Kd.R_cell (enc := Value.int .u32) (h1 := fun _ => rfl) 0 hs (i : Int) (by omega) (by rw [ints_len]; omega)
  rw [Int.toNat_natCast] at this
  refine ⟨?_, this.2⟩
  rw [this.1]
  simp [rdOf, ints, List.getD_eq_getElem?_getD, hx]
theorem ArAt.node_cell {w : World} {F : Nat → Prop} {p : Nat} {nodes : List Nd} {slots : List Nat} {empty : List Int} {most : Int} {sv ev : Value} {a : Option Addr} {n cn : Nat}
    (h : ArAt w F p nodes slots empty most (.slice a n cn) sv ev) {j : Nat} {x : Nd} (hx : nodes[j]? = some x) :
    ∃ ad, a = some ad ∧ ∀ (t : Nat) (u : Value), x.cells[t]? = some u → w.cell? (ad.add (j * 7 + t)) = some u := by
  have hjl : j < nodes.length := (List.getElem?_eq_some_iff.1 hx).1
  obtain ⟨ad, c, e, _, hK, hc0⟩ := Kd.C_get (Kd.R_reads' h.hn).2.2 zNd (j : Int) (by omega) (by omega)
  refine ⟨ad, e, fun t u hu => ?_⟩
  have hxx : nodes.getD (j : Int).toNat zNd = x := by simp [List.getD_eq_getElem?_getD, hx]
  rw [hxx] at hK
  obtain rfl := kNd_open hK
  have := hc0 t u hu
  rw [Int.toNat_natCast] at this
  exact this
/-- a node's seven cells, in the walk's own spelling -/
structure NodeCells (w : World) (b : Addr) (x : Nd) : Prop where
  c0 : w.cell? b = some (.int .i64 x.key.level)
  c1 : w.cell? ⟨b.block, b.off + 1, none⟩ = some (.int .u32 x.key.bits)
  c2 : w.cell? ⟨b.block, b.off + 2, none⟩ = some (.int .u32 x.key.k0)
  c3 : w.cell? ⟨b.block, b.off + 3, none⟩ = some (.int .u32 x.key.k1)
  c4 : w.cell? ⟨b.block, b.off + 4, none⟩ = some (.int .u32 x.key.k2)
  c5 : w.cell? ⟨b.block, b.off + 5, none⟩ = some (.int .u32 x.key.k3)
  c6 : w.cell? ⟨b.block, b.off + 6, none⟩ = some (.int .u64 x.count)
theorem ArAt.node_cells {w : World} {F : Nat → Prop} {p : Nat} {nodes : List Nd} {slots : List Nat} {empty : List Int} {most : Int} {sv ev : Value} {a : Option Addr} {n cn : Nat}
    (h : ArAt w F p nodes slots empty most (.slice a n cn) sv ev) {j : Nat} {x : Nd} (hx : nodes[j]? = some x) :
    ∃ ad, a = some ad ∧ NodeCells w (ad.add (j * 7)) x := by
  obtain ⟨ad, e, hc⟩ := h.node_cell hx
  exact ⟨ad, e, hc 0 _ rfl, by rw [← add_field _ _ 1 (by omega)]; exact hc 1 _ rfl, by rw [← add_field _ _ 2 (by omega)]; exact hc 2 _ rfl, by rw [← add_field _ _ 3 (by omega)]; exact hc 3 _ rfl, by rw [← add_field _ _ 4 (by omega)]; exact hc 4 _ rfl, by rw [← add_field _ _ 5 (by omega)]; exact hc 5 _ rfl, by rw [← add_field _ _ 6 (by omega)]; exact hc 6 _ rfl⟩
set_option maxHeartbeats 4000000 in
set_option maxRecDepth 100000 in
theorem slot_walk (F : Nat → Prop) (p m : Nat) (nodes : List Nd) (slots : List Nat) (empty : List Int) (most : Int) (nv sv ev : Value) (w : World) (k : Key) (hk : KeyOk k)
    (A : ArAt w F p nodes slots empty most nv sv ev) (S : Slotted st nodes m slots) (hN : nodes.length ≤ 1073741824) :
    Calls Try.prog 123 #[.pointer (some ⟨p, 0, none⟩), .agg k.vals] w fun e w' => ∃ i : Nat, e = .returned (.int .i64 i) ∧ SlotRes nodes slots k i ∧ Below w.heap.size w w' := by
  have hle := S.le
  have hroom := S.room
  obtain ⟨l0, l1, b0, b1, ⟨p00, p01⟩, ⟨p10, p11⟩, ⟨p20, p21⟩, ⟨p30, p31⟩⟩ := hk
  unfold Key.vals
  have hidx := index4
  go_enter Try.func123, Try.ntmps123
  go_wp2_with (fail)
  refine (mix_walk _ _ _).mono ?_; rintro e w1 ⟨rfl, rfl⟩
  go_wp2_with (fail)
  have BK := Aside0.mk (blk_new w (.cells k.vals 177))
  have HB := Aside0.mk (below_alloc (Below.refl w.heap.size w) (.cells k.vals 177))
  change Code.wp _ _ _ _ (w.alloc (.cells k.vals 177))
  obtain ⟨g, hg⟩ : ∃ g, w.heap.size = g := ⟨_, rfl⟩
  simp only [hg] at BK HB ⊢
  have Hg := Aside0.mk hg
  clear hg
  have A0 := Aside0.mk A
  clear A
  generalize w.alloc (.cells k.vals 177) = W0 at *
  go_loopg [5, 19] 4 (fun kq c5 c19 w' => ∃ j : Nat, j + kq = 4 ∧ c19 = .int .i64 j ∧ c5 = .int .u64 (hashTo k j) ∧ w' = W0)
  case atStart => exact ⟨0, by omega, rfl, rfl, rfl⟩
  case round =>
    obtain ⟨j, hj, rfl, rfl, rfl⟩ := hrel
    by_cases h4 : j < 4
    · obtain ⟨gk, rfl⟩ : ∃ m, gk = m + 1 := ⟨gk - 1, by omega⟩
      have hi := fun w => index4 w k.k0 k.k1 k.k2 k.k3 j h4
      have hst := Aside0.mk (hash_step k j h4)
      have hkb := kid_bd (k := k) ⟨l0, l1, b0, b1, ⟨p00, p01⟩, ⟨p10, p11⟩, ⟨p20, p21⟩, ⟨p30, p31⟩⟩ j
      generalize [k.k0, k.k1, k.k2, k.k3].getD j 0 = kv at *
      obtain ⟨kb0, kb1⟩ := hkb
      clear hidx
      go_wp2_with (fail)
      refine (mix_walk _ _ _).mono ?_; rintro e w1 ⟨rfl, rfl⟩
      go_wp2_with (fail)
      go_roundg gk
      case measure => omega
      case rel => exact ⟨j + 1, by omega, by go_num, by rw [hst.out], rfl⟩
    · as_aux_lemma =>
      obtain rfl : j = 4 := by omega
      clear hidx
      have hH := hashTo_bd k 4
      have hpos : 0 < slots.length := by omega
      have hst := Aside0.mk (st_int k slots.length hpos)
      have hsl := st_lt k slots.length hpos
      generalize hashTo k 4 = H at *
      obtain ⟨H0, H1⟩ := hH
      have AR := Aside0.mk (ArAt.below A0.out (by rw [Hg.out]; exact HB.out))
      clear A0
      obtain ⟨bs, cs, rfl, hsb, hsz, _⟩ := Kd.R_form AR.out.hs (by rw [ints_len]; exact hpos)
      have hmax := Kd.C_max (Kd.R_reads' AR.out.hs).2.2
      rw [ints_len] at AR hmax
      have c1 := blk_cell AR.out.blk 1
      simp only [List.getElem?_toArray, List.getElem?_cons_zero, List.getElem?_cons_succ] at c1
      generalize hn : slots.length = n at *
      go_wp2_with (fail)
      rw [hst.out]
      go_loopg [8] n (fun kq c8 w' => ∃ d : Nat, d + kq = n ∧ c8 = .int .i64 (((st k n + d) % n : Nat) : Int) ∧ Aside0 (Probing st nodes slots k d) ∧ Aside0 (ArAt w' F p nodes slots empty most nv (.slice (some ⟨bs, 0, none⟩) n cs) ev) ∧ Aside0 (w'.heap[g]? = some (.cells k.vals 177 (0, 0))) ∧ Aside0 (Below g w w'))
      case atStart => exact ⟨0, by omega, congrArg (Value.int .i64) (by rw [Nat.add_zero, Nat.mod_eq_of_lt hsl]; unfold wrap64; omega), ⟨probing_zero _ _ _⟩, AR, BK, HB⟩
      case round =>
        as_aux_lemma =>
        clear AR BK HB c1 hsb hsz
        obtain ⟨d, hd, rfl, HP, AR, BK, HB⟩ := hrel
        have hdn := probing_lt S (by rw [hn]; exact hsl) HP.out
        rw [hn] at hdn
        obtain ⟨gk, rfl⟩ : ∃ m, gk = m + 1 := ⟨gk - 1, by omega⟩
        have hnext := Aside0.mk (next_place (st k n) d n)
        have hlt : (st k n + d) % n < n := Nat.mod_lt _ hpos
        have hpl : (st k slots.length + d) % slots.length = (st k n + d) % n := by rw [hn]
        have HPL := Aside0.mk hpl
        clear hpl
        generalize (st k n + d) % n = i at *
        have c1 := blk_cell AR.out.blk 1
        have c0 := blk_cell AR.out.blk 0
        simp only [List.getElem?_toArray, List.getElem?_cons_zero, List.getElem?_cons_succ] at c0 c1
        obtain ⟨x, hx⟩ : ∃ x, slots[i]? = some x := ⟨_, List.getElem?_eq_getElem (by omega)⟩
        have hxm : x ≤ m := S.val x (List.mem_of_getElem? hx)
        have HN := Aside0.mk hn
        clear hn
        obtain ⟨s0, _⟩ := AR.out.slot_cell hx
        by_cases h0 : x = 0
        · as_aux_lemma =>
          subst h0
          go_wp2_with (fail)
          go_ret
          exact ⟨i, rfl, ⟨d, HPL.out.symm, HP.out, .inl hx⟩, by rw [Hg.out]; exact HB.out⟩
        · as_aux_lemma =>
          obtain ⟨j, rfl⟩ : ∃ j, x = j + 1 := ⟨x - 1, by omega⟩
          obtain ⟨a, cn, rfl⟩ := Kd.R_slice AR.out.hn
          obtain ⟨nd, hnd⟩ : ∃ nd, nodes[j]? = some nd := ⟨_, List.getElem?_eq_getElem (by omega)⟩
          obtain ⟨ad, rfl, ⟨n0, n1, n2, n3, n4, n5, n6⟩⟩ := AR.out.node_cells hnd
          have hjn : j < nodes.length := by omega
          have hjl : j ≤ 1073741824 := by omega
          rw [Int.natCast_add, Int.cast_ofNat_Int] at s0
          have hwj : IntKind.u32.wrap (j : Int) = (j : Int) := by rw [IntKind.wrap_u32]; omega
          have e0 : wr.heap.size ≠ p := World.new_ne wr _ c0
          have e2 : wr.heap.size ≠ bs := World.new_ne wr _ s0
          have e3 := World.new_ne wr _ n0
          go_upto_region 9 with (fail)
          go_cut [9] (fun s9 wx => s9 = .pointer (some ⟨wr.heap.size, 0, none⟩) ∧ wx.heap[wr.heap.size]? = some (.cells nd.cells.toArray 131 (0, 0)) ∧ Below wr.heap.size wr wx)
          case first =>
            as_aux_lemma =>
            go_region_held3 (fun w' => w'.cell? ⟨p, 0, none⟩ = some (.slice (some ad) nodes.length cn) ∧ w'.cell? ⟨p, 1, none⟩ = some (.slice (some ⟨bs, 0, none⟩) n cs) ∧ w'.cell? ⟨bs, i, none⟩ = some (.int .u32 ((j : Int) + 1)) ∧ w'.cell? (ad.add (j * 7)) = some (.int .i64 nd.key.level) ∧ w'.cell? ⟨(ad.add (j * 7)).block, (ad.add (j * 7)).off + 1, none⟩ = some (.int .u32 nd.key.bits) ∧ w'.cell? ⟨(ad.add (j * 7)).block, (ad.add (j * 7)).off + 2, none⟩ = some (.int .u32 nd.key.k0) ∧ w'.cell? ⟨(ad.add (j * 7)).block, (ad.add (j * 7)).off + 3, none⟩ = some (.int .u32 nd.key.k1) ∧ w'.cell? ⟨(ad.add (j * 7)).block, (ad.add (j * 7)).off + 4, none⟩ = some (.int .u32 nd.key.k2) ∧ w'.cell? ⟨(ad.add (j * 7)).block, (ad.add (j * 7)).off + 5, none⟩ = some (.int .u32 nd.key.k3) ∧ w'.cell? ⟨(ad.add (j * 7)).block, (ad.add (j * 7)).off + 6, none⟩ = some (.int .u64 nd.count)) (go_keep) (fail)
            all_goals go_wp2_with (fail)
            all_goals go_meet
            all_goals refine ⟨rfl, blk_new wr _, (below_alloc (Below.refl wr.heap.size wr) _).drew⟩
          case rest =>
            as_aux_lemma =>
            obtain ⟨rfl, hk2, hb2⟩ := hcut
            obtain ⟨g2, hg2⟩ : ∃ g2, wr.heap.size = g2 := ⟨_, rfl⟩
            have AR2 := Aside0.mk (AR.out.below hb2)
            have BK2 := Aside0.mk (blk_below BK.out hb2)
            have HB2 := Aside0.mk (HB.out.trans (hb2.mono (Nat.le_trans (Nat.le_of_eq Hg.out.symm) HB.out.size)))
            simp only [hg2] at hk2 ⊢
            clear hb2 hg2 e0 e2 e3 hwj n0 n1 n2 n3 n4 n5 n6 s0 c0 c1 AR BK HB
            have a0 := blk_cell hk2 0
            have a1 := blk_cell hk2 1
            have a2 := blk_cell hk2 2
            have a3 := blk_cell hk2 3
            have a4 := blk_cell hk2 4
            have a5 := blk_cell hk2 5
            have k0 := blk_cell BK2.out 0
            have k1 := blk_cell BK2.out 1
            have k2 := blk_cell BK2.out 2
            have k3 := blk_cell BK2.out 3
            have k4 := blk_cell BK2.out 4
            have k5 := blk_cell BK2.out 5
            clear hk2
            simp only [Nd.cells, Key.vals, List.getElem?_toArray, List.getElem?_cons_zero, List.getElem?_cons_succ] at a0 a1 a2 a3 a4 a5 k0 k1 k2 k3 k4 k5
            have c1 := blk_cell AR2.out.blk 1
            simp only [List.getElem?_toArray, List.getElem?_cons_zero, List.getElem?_cons_succ] at c1
            have hkb : eqKeyB ⟨nd.key.level, nd.key.bits, nd.key.k0, nd.key.k1, nd.key.k2, nd.key.k3⟩ ⟨k.level, k.bits, k.k0, k.k1, k.k2, k.k3⟩ = decide (nd.key = k) := eqKeyB_iff nd.key k
            by_cases hkk : nd.key = k
            · as_aux_lemma =>
              rw [decide_eq_true hkk] at hkb
              have HKK := Aside0.mk hkk
              clear hkk
              go_upto_region 10 with (fail)
              go_step
              iterate 18 go_step
              ((with_reducible refine gate_dst (N := 64) rfl ?_); refine wpList_build rfl 177 _ rfl (.agg #[.int .i64 nd.key.level, .int .u32 nd.key.bits, .int .u32 nd.key.k0, .int .u32 nd.key.k1, .int .u32 nd.key.k2, .int .u32 nd.key.k3]) (by simp only [List.map_toArray, List.map_cons, List.map_nil]; exact buildKey _ _ _ _ _ _ _) ?_)
              iterate 8 go_step
              clear hkb a0 a1 a2 a3 a4 a5 k0 k1 k2 k3 k4 k5
              go_wp2_with (fail)
              go_ret
              exact ⟨i, rfl, ⟨d, HPL.out.symm, HP.out, .inr ⟨j, nd, hx, hnd, HKK.out⟩⟩, by rw [Hg.out]; exact HB2.out⟩
            · as_aux_lemma =>
              rw [decide_eq_false hkk] at hkb
              have HKK := Aside0.mk hkk
              clear hkk
              go_upto_region 10 with (fail)
              go_step
              iterate 18 go_step
              ((with_reducible refine gate_dst (N := 64) rfl ?_); refine wpList_build rfl 177 _ rfl (.agg #[.int .i64 nd.key.level, .int .u32 nd.key.bits, .int .u32 nd.key.k0, .int .u32 nd.key.k1, .int .u32 nd.key.k2, .int .u32 nd.key.k3]) (by simp only [List.map_toArray, List.map_cons, List.map_nil]; exact buildKey _ _ _ _ _ _ _) ?_)
              iterate 8 go_step
              clear hkb a0 a1 a2 a3 a4 a5 k0 k1 k2 k3 k4 k5
              go_wp2_with (fail)
              go_roundg gk
              case measure => omega
              case rel =>
                refine ⟨d + 1, by omega, congrArg (Value.int .i64) (by rw [← hnext.out]; simp), ⟨probing_step HP.out (by rw [HPL.out]; exact hx) (by omega) (fun x hx' => ?_)⟩, AR2, BK2, HB2⟩
                rw [Nat.add_sub_cancel, hnd] at hx'
                rw [← Option.some.inj hx']
                exact HKK.out
end Go.Proofs.Ytbkbkgfpnefilaa.ar
