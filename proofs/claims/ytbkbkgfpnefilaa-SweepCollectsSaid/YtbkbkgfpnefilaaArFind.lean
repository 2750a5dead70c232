/- The walk over (*Arena).find: a node, made if it isn't there. -/
import Derived.Test.YtbkbkgfpnefilaaArGrow
import Derived.Test.YtbkbkgfpnefilaaArGet
import Derived.Deep.RegionLaw
import Derived.Deep.RegionHeldLaw
import Derived.Deep.QuietTactic
import Derived.BigQuiet
import Derived.Outline
namespace Go.Proofs.Ytbkbkgfpnefilaa.ar
open Go.RowKit Go.Proofs.YtbkbkgfpnefilaaW.PrintWords Go.Proofs.YtbkbkgfpnefilaaW.PrintLast Go.Proofs.YtbkbkgfpnefilaaW.PrintMore Go.Proofs.Ytbkbkgfpnefilaa.bs Go.ChangeShapes

structure NdOk (x : Nd) : Prop where
  key : KeyOk x.key
  lv : 2 ≤ x.key.level
  c0 : 0 ≤ x.count
  c1 : x.count ≤ 4611686018427387904
/-- an arena that is sound: its slots find each of its nodes -/
structure Ar (w : World) (F : Nat → Prop) (p : Nat) (nodes : List Nd) (empty : List Int) (most : Int) : Prop where
  ex : ∃ slots nv sv ev, ArAt w F p nodes slots empty most nv sv ev ∧ Slotted st nodes nodes.length slots ∧ 2 * nodes.length ≤ slots.length ∧ slots.length ≤ 128 + 4 * nodes.length ∧ 128 ≤ slots.length
  ok : ∀ (i : Nat) (x : Nd), nodes[i]? = some x → NdOk x
  size : nodes.length ≤ 536870912
def errOf (c : Int) : Value := if c = 0 then .nilIface else .iface 59 (.int .i64 c)
def FindPost (F : Nat → Prop) (w : World) (p : Nat) (empty : List Int) (most : Int) (r : List Nd × Int × Int) (e : Ending) (w' : World) : Prop :=
  e = .returned (.tuple #[.int .u32 r.2.1, errOf r.2.2]) ∧ Ar w' (More F w) p r.1 empty most ∧ Keeps F w w'

theorem cell_new {w : World} {g o : Nat} {x : Obj} {v : Option Value} (hlt : g < w.heap.size) (h : w.cell? ⟨g, o, none⟩ = v) : (w.alloc x).cell? ⟨g, o, none⟩ = v := by
  rw [← h]
  exact World.cell?_of_block (Below.heap_alloc w x g hlt)
attribute [local go_sem high] buildKey buildNode
def hiddenLoad (t : TypeId) (x : Operand) : Op := .load t x
attribute [local go_sem] hiddenLoad
attribute [local go_sem] max_two min_two
set_option maxHeartbeats 4000000 in
set_option maxRecDepth 100000 in
theorem find_walk (F : Nat → Prop) (p : Nat) (nodes : List Nd) (empty : List Int) (most : Int) (w : World) (k : Key) (c : Int) (hk : KeyOk k) (hlv : 2 ≤ k.level) (hc0 : 0 ≤ c) (hc1 : c < 18446744073709551616)
    (hN : nodes.length < 536870912) (A : Ar w F p nodes empty most) :
    Calls Try.prog 106 #[.pointer (some ⟨p, 0, none⟩), .agg k.vals, .int .u64 c] w fun e w' => FindPost F w p empty most (addN nodes most k c) e w' := by
  obtain ⟨⟨slots, nv, sv, ev, AR, S, hs1, hs2, hs128⟩, hok, hsz⟩ := A
  have hkey := hk
  obtain ⟨l0, l1, b0, b1, ⟨p00, p01⟩, ⟨p10, p11⟩, ⟨p20, p21⟩, ⟨p30, p31⟩⟩ := hk
  have hpos : 0 < slots.length := by have := S.room; omega
  obtain ⟨bs, cs, rfl, _, _, _⟩ := Kd.R_form AR.hs (by rw [ints_len]; exact hpos)
  rw [ints_len] at AR
  unfold Key.vals
  have A0 := Aside0.mk AR
  clear AR
  go_enter Try.func106, Try.ntmps106
  go_wp2_with (fail)
  have hslot := slot_walk F p nodes.length nodes slots empty most _ _ ev (w.alloc (.cells k.vals 177)) k hkey (A0.out.below (below_alloc (Below.refl _ _) _)) S (by omega)
  unfold Key.vals at hslot
  refine hslot.mono ?_; rintro e w2 ⟨ix, rfl, hres, hb⟩
  clear hslot
  change Below (w.alloc (.cells k.vals 177)).heap.size (w.alloc (.cells k.vals 177)) w2 at hb
  have A2 := Aside0.mk ((A0.out.below (below_alloc (Below.refl _ _) (.cells k.vals 177))).below hb)
  have BK := Aside0.mk (blk_below (blk_new w (.cells k.vals 177)) hb)
  have HK := Aside0.mk (((Keeps.refl F w).alloc (.cells k.vals 177)).below_ hb)
  obtain ⟨g, hg⟩ : ∃ g, w.heap.size = g := ⟨_, rfl⟩
  simp only [hg] at BK ⊢
  have Hg := Aside0.mk hg
  clear hg hb A0
  have hlt := slotres_lt hres hpos
  have HR := Aside0.mk hres
  clear hres
  obtain ⟨x, hx⟩ : ∃ x, slots[ix]? = some x := ⟨_, List.getElem?_eq_getElem hlt⟩
  obtain ⟨s0, s1⟩ := A2.out.slot_cell hx
  have c1 := blk_cell A2.out.blk 1
  simp only [List.getElem?_toArray, List.getElem?_cons_zero, List.getElem?_cons_succ] at c1
  have hxm : x ≤ nodes.length := S.val x (List.mem_of_getElem? hx)
  have hixI : (ix : Int) < (slots.length : Int) := by omega
  have hcapI : (slots.length : Int) ≤ 4294967296 := by omega
  by_cases h0 : x = 0
  · subst h0
    have hnone : idx nodes k = none := by
      obtain ⟨d, e, hP, h2⟩ := HR.out
      refine idx_none_mk (fun i y hy => probing_none S hP (by rw [← e]; exact hx) i y (List.getElem?_eq_some_iff.1 hy).1 hy)
    have hadd : addN nodes most k c = if most ≤ (nodes.length : Int) then (nodes, 0, 8) else (nodes ++ [⟨k, min c 4611686018427387904⟩], (nodes.length : Int), 0) := by
      unfold addN; rw [hnone]
    have HADD := Aside0.mk hadd
    clear hadd
    go_upto_region 4 with (fail)
    have hlen : ∀ n : Nat, Calls Try.prog 26 #[.pointer (some ⟨p, 0, none⟩)] (w2.drewN n) fun e w' => e = .returned (.int .i64 nodes.length) ∧ ∃ m, w' = w2.drewN m := fun n => (len_walk F p nodes slots empty most _ _ ev _ (A2.out.drewN n)).mono fun _ _ ⟨he, hm⟩ => ⟨he, n, hm.symm⟩
    have c3 := blk_cell A2.out.blk 3
    simp only [List.getElem?_toArray, List.getElem?_cons_zero, List.getElem?_cons_succ] at c3
    by_cases hge : most ≤ (nodes.length : Int)
    · as_aux_lemma =>
      go_quiet ((go_at_call 26; exact hlen _))
      go_wp2_with (fail)
      go_ret2
      rw [HADD.out, if_pos hge]
      exact ⟨rfl, ⟨⟨slots, nv, _, ev, (A2.out.drewN _).mono (fun _ h => .inl h), S, hs1, hs2, hs128⟩, hok, hsz⟩, HK.out.drewN _⟩
    · go_quiet ((go_at_call 26; exact hlen _))
      go_upto_region 6 with (fail)
      clear hlen s0 s1 c1 c3
      have A3 := Aside0.mk (A2.out.drewN nq)
      have BK3 := Aside0.mk (blk_drewN BK.out nq)
      have HK3 := Aside0.mk (HK.out.drewN nq)
      clear A2 BK HK
      generalize w2.drewN nq = w3 at *
      have c0 := blk_cell A3.out.blk 0
      have f0 := blk_frozen A3.out.blk 0
      have k0 := blk_cell BK3.out 0
      have k1 := blk_cell BK3.out 1
      have k2 := blk_cell BK3.out 2
      have k3 := blk_cell BK3.out 3
      have k4 := blk_cell BK3.out 4
      have k5 := blk_cell BK3.out 5
      simp only [Key.vals, List.getElem?_toArray, List.getElem?_cons_zero, List.getElem?_cons_succ] at c0 k0 k1 k2 k3 k4 k5
      obtain ⟨na, cn, rfl⟩ := Kd.R_slice A3.out.hn
      obtain ⟨cc, hcc, hmin⟩ : ∃ cc : Int, min c 4611686018427387904 = cc ∧ Builtin.min2 (.int .u64 c) (.int .u64 4611686018427387904) = pure (.int .u64 cc) := ⟨_, rfl, by rw [min2_int]; congr 2; split <;> omega⟩
      have hcc0 : 0 ≤ cc ∧ cc ≤ 4611686018427387904 := by omega
      rw [hcc, if_neg hge] at HADD
      clear hcc
      have HN := Aside0.mk (Kd.R_mono (ok' := More F w3) A3.out.hn (fun _ h => .inl h))
      have hgp : g ≠ p := by
        intro e
        have h1 := BK3.out
        rw [e, A3.out.blk] at h1
        injection h1 with h1
        injection h1 with _ ht _
        exact absurd ht (by decide)
      have hgn : some g ≠ (Value.slice na nodes.length cn).ownBlock := Kd.R_ne A3.out.hn BK3.out (by decide)
      have hpn : some p ≠ (Value.slice na nodes.length cn).ownBlock := Kd.R_ne A3.out.hn A3.out.blk (by decide)
      have hgl : g < w3.heap.size := blk_lt BK3.out
      have cA : ∀ x : Obj, (w3.alloc x).cell? ⟨p, 0, none⟩ = some (.slice na nodes.length cn) := fun x => cell_new A3.out.lt c0
      have HGN := Aside0.mk hgn
      have HPN := Aside0.mk hpn
      clear hgn hpn
      go_cut [] (fun wx => ∃ na' cn', ArAt wx (More F w3) p (nodes ++ [(⟨k, cc⟩ : Nd)]) slots empty most (.slice na' (nodes.length + 1) cn') (.slice (some ⟨bs, 0, none⟩) slots.length cs) ev ∧ Keeps F w wx)
      case first =>
        rw [show (Op.load 119 (Operand.tmp 40)) = hiddenLoad 119 (Operand.tmp 40) from rfl]
        go_region_held_law (fun w' => w'.cell? ⟨g, 0, none⟩ = some (.int .i64 k.level) ∧ w'.cell? ⟨g, 1, none⟩ = some (.int .u32 k.bits) ∧ w'.cell? ⟨g, 2, none⟩ = some (.int .u32 k.k0) ∧ w'.cell? ⟨g, 3, none⟩ = some (.int .u32 k.k1) ∧ w'.cell? ⟨g, 4, none⟩ = some (.int .u32 k.k2) ∧ w'.cell? ⟨g, 5, none⟩ = some (.int .u32 k.k3)) (refine ⟨?_, ?_, ?_, ?_, ?_, ?_⟩ <;> (first | exact k0 | exact k1 | exact k2 | exact k3 | exact k4 | exact k5 | exact cell_new hgl k0 | exact cell_new hgl k1 | exact cell_new hgl k2 | exact cell_new hgl k3 | exact cell_new hgl k4 | exact cell_new hgl k5 | assumption | exact cell_far hgp (by assumption)))
          ((refine Kd.R_append_step kNd (w0 := w3) (W := w3.drew) 0 rfl (.tmp 41) (.tmp 51) 119 131 (.agg #[.int .i64 0, .int .u32 0, .int .u32 0, .int .u32 0, .int .u32 0, .int .u32 0, .int .u64 0]) 40 rfl Try.underlying119 infoN rfl (by decide) (by decide) (.slice na nodes.length cn) nodes (⟨k, cc⟩ : Nd) (Nd.cells ⟨k, cc⟩) (More F w3) (fun _ => False) (by simp [Act.eval]) (by simp [Act.eval]) (kNd_mkM _ _ _ _) (fun _ hk => hk.elim) (fun _ h => .inr h) (Kd.R_drew HN.out) ((Below.refl _ _).drew) (Nat.zero_le _) (by omega) ?_; intro v1 w4 ho4 hb4 hg4 hat4; have k0' := (World.cell?_of_block (a := ⟨g, 0, none⟩) (hg4.block g (blk_lt BK3.out) HGN.out)).trans k0; have k1' := (World.cell?_of_block (a := ⟨g, 1, none⟩) (hg4.block g (blk_lt BK3.out) HGN.out)).trans k1; have k2' := (World.cell?_of_block (a := ⟨g, 2, none⟩) (hg4.block g (blk_lt BK3.out) HGN.out)).trans k2; have k3' := (World.cell?_of_block (a := ⟨g, 3, none⟩) (hg4.block g (blk_lt BK3.out) HGN.out)).trans k3; have k4' := (World.cell?_of_block (a := ⟨g, 4, none⟩) (hg4.block g (blk_lt BK3.out) HGN.out)).trans k4; have k5' := (World.cell?_of_block (a := ⟨g, 5, none⟩) (hg4.block g (blk_lt BK3.out) HGN.out)).trans k5; have c0' := (World.cell?_of_block (a := ⟨p, 0, none⟩) (hg4.block p A3.out.lt HPN.out)).trans c0; have f0' := (World.frozen?_of_block (a := ⟨p, 0, none⟩) (hg4.block p A3.out.lt HPN.out)).trans f0; have HO4 := Aside0.mk ho4; have HG4 := Aside0.mk hg4; have HAT := Aside0.mk hat4; clear ho4 hb4 hg4 hat4; obtain ⟨na', cn', rfl⟩ := Kd.R_slice HO4.out))
        all_goals go_wp2_with (fail)
        all_goals
          have A4 := Aside0.mk (ArAt.new_nodes A3.out (by first | exact HG4.out | exact ⟨HG4.out.os, HG4.out.tape, HG4.out.output, HG4.out.size, HG4.out.block⟩) (fun _ h => .inl h) HO4.out)
          have HK4 := Aside0.mk ((HK3.out.trans (F' := F) (Keeps.grown (Keeps.refl F w3) (c := w4) (row := (Value.slice na nodes.length cn).ownBlock) (by first | exact HG4.out | exact ⟨HG4.out.os, HG4.out.tape, HG4.out.output, HG4.out.size, HG4.out.block⟩) (fun k hk => .inl (A3.out.hn.1 k hk))) (fun _ h => .inl h)).setCell (p := ⟨p, 0, none⟩) (.inl A3.out.hF) (.slice na' (nodes ++ [(⟨k, cc⟩ : Nd)]).length cn'))
          simp only [List.length_append, List.length_cons, List.length_nil, Nat.zero_add] at A4 HK4
          go_meet
        all_goals exact ⟨na', cn', A4.out, HK4.out⟩
      case rest =>
        obtain ⟨na', cn', a4, hk4⟩ := hcut
        have A4 := Aside0.mk a4
        have HK4 := Aside0.mk hk4
        clear a4 hk4
        have hs3 := HK3.out.size
        have hfresh := idx_none hnone
        have hS5 := slotted_more (nd := ⟨k, cc⟩) S HR.out hx hfresh (by omega)
        have HS5 := Aside0.mk hS5
        clear hS5 hfresh hnone k0 k1 k2 k3 k4 k5 c0 f0 cA hmin hgp hgl HGN HPN HN
        clear A3 BK3 HK3 HR
        go_upto_region 7 with (fail)
        obtain ⟨nodes', hn'⟩ : ∃ nodes', nodes ++ [(⟨k, cc⟩ : Nd)] = nodes' := ⟨_, rfl⟩
        have hl' : nodes'.length = nodes.length + 1 := by rw [← hn']; simp
        rw [hn'] at A4 HS5 HADD
        have HN' := Aside0.mk hn'
        clear hn'
        have hpb : p ≠ bs := by
          intro e
          obtain ⟨bcells, hbk⟩ := Kd.R_typed A4.out.hs bs rfl
          have h1 := A4.out.blk
          rw [e, hbk] at h1
          injection h1 with h1
          injection h1 with _ ht _
          exact absurd ht (by decide)
        have c1 := blk_cell A4.out.blk 1
        simp only [List.getElem?_toArray, List.getElem?_cons_zero, List.getElem?_cons_succ] at c1
        obtain ⟨s0, s1⟩ := A4.out.slot_cell hx
        have hlI : (nodes'.length : Int) = nodes.length + 1 := by omega
        have hw1 : IntKind.u32.wrap (nodes'.length : Int) = (nodes'.length : Int) := by rw [IntKind.wrap_u32]; omega
        have HL := Aside0.mk hlI
        have HL2 := Aside0.mk hl'
        have hb1 : nodes'.length ≤ 536870912 := by omega
        rw [← HL2.out] at A4
        clear hlI hl'
        go_region_held3 (fun w' => w'.cell? ⟨p, 1, none⟩ = some (.slice (some ⟨bs, 0, none⟩) slots.length cs)) (first | exact c1 | assumption | exact cell_far hpb (by assumption)) (first | (go_at_call 26; refine (len_walk (More F w3) p nodes' slots empty most _ _ ev _ (by first | with_reducible exact A4.out | exact A4.out.below ((Below.refl _ _).drew) | exact A4.out.drewN _)).mono ?_; rintro e w6 ⟨rfl, rfl⟩))
        have A5 := Aside0.mk ((A4.out.put_slot ix nodes'.length).below ((Below.refl _ _).drew))
        have hbF : F bs ∨ w.heap.size ≤ bs := by
          have h1 : More F w3 bs := A4.out.hs.1 bs rfl
          rcases h1 with h1 | h1
          · exact .inl h1
          · exact .inr (by omega)
        have HK5 := Aside0.mk ((HK4.out.setCell (p := ⟨bs, ix, none⟩) hbF (.int .u32 (nodes'.length : Int))).drew)
        have HS6 := HS5.out
        rw [← HL2.out] at HS6
        have HS7 := Aside0.mk HS6
        have hls : (slots.set ix nodes'.length).length = slots.length := List.length_set
        clear HS6 HS5 A4 HK4 c1 s0 s1 hw1 hbF hpb
        generalize (wc.setCell ⟨bs, ix, none⟩ (.int .u32 (nodes'.length : Int))).drew = w6 at *
        generalize slots.set ix nodes'.length = sl2 at *
        go_upto_region 9 with (first | (go_at_call 26; refine (len_walk (More F w3) p nodes' sl2 empty most _ _ ev _ A5.out).mono ?_; rintro e w7 ⟨rfl, rfl⟩))
        have hlen9 : ∀ n : Nat, Calls Try.prog 26 #[.pointer (some ⟨p, 0, none⟩)] (w6.drewN n) fun e w' => e = .returned (.int .i64 nodes'.length) ∧ ∃ m, w' = w6.drewN m := fun n => (len_walk (More F w3) p nodes' sl2 empty most _ _ ev _ (A5.out.drewN n)).mono fun _ _ ⟨he, hm⟩ => ⟨he, n, hm.symm⟩
        have c1 := blk_cell A5.out.blk 1
        simp only [List.getElem?_toArray, List.getElem?_cons_zero, List.getElem?_cons_succ] at c1
        have hmore : ∀ k, More F w3 k → More F w k := fun k hk => hk.elim .inl (fun h => .inr (by omega))
        have HM := Aside0.mk hmore
        clear hmore
        have hok' : ∀ (i : Nat) (x : Nd), nodes'[i]? = some x → NdOk x := by
          intro i x hxx
          rw [← HN'.out, List.getElem?_append] at hxx
          split at hxx
          · exact hok i x hxx
          · rw [List.getElem?_singleton] at hxx
            split at hxx
            · obtain rfl := Option.some.inj hxx
              exact ⟨hkey, hlv, hcc0.1, hcc0.2⟩
            · cases hxx
        have HOK := Aside0.mk hok'
        clear hok'
        by_cases hgr : (slots.length : Int) < 2 * (nodes'.length : Int)
        · as_aux_lemma =>
          go_quiet ((go_at_call 26; exact hlen9 _))
          go_wp2_with (fail)
          refine (grow_walk (More F w3) p nodes' sl2 empty most _ _ ev _ (A5.out.drewN nq) HS7.out.once (fun i x hxx => (HOK.out i x hxx).key) (by omega) (by have := HL2.out; omega) (by omega)).mono ?_
          rintro e w8 ⟨rfl, sl3, sv3, a8, s8, l8, k8⟩
          have A8 := Aside0.mk a8
          have S8 := Aside0.mk s8
          have L8 := Aside0.mk l8
          have K8 := Aside0.mk k8
          clear a8 s8 l8 k8
          have hv : ((nodes'.length : Int) - 1) % 4294967296 = (nodes.length : Int) := by have := HL.out; omega
          rw [hv]
          go_wp2_with (fail)
          go_ret2
          rw [HADD.out]
          have hk6 := HK5.out.size
          have hls3 := L8.out
          have hl2 := HL2.out
          refine ⟨rfl, ⟨⟨sl3, _, sv3, ev, A8.out.mono (fun k hk => ?_), S8.out, (by dsimp only; omega), (by dsimp only; omega), (by omega)⟩, HOK.out, (by dsimp only; omega)⟩, (HK5.out.drewN nq).trans K8.out (fun k hk => ?_)⟩
          · rcases hk with hk | hk
            · exact HM.out k hk
            · rw [World.heap_drewN] at hk
              exact .inr (by omega)
          · exact HM.out k hk
        · as_aux_lemma =>
          go_quiet ((go_at_call 26; exact hlen9 _))
          go_upto_region 11 with (fail)
          have hv : ((nodes'.length : Int) - 1) % 4294967296 = (nodes.length : Int) := by have := HL.out; omega
          rw [hv]
          go_wp2_with (fail)
          go_ret2
          rw [HADD.out]
          have hl2 := HL2.out
          exact ⟨rfl, ⟨⟨sl2, _, _, ev, (A5.out.drewN nq).mono HM.out, HS7.out, (by dsimp only; omega), (by dsimp only; omega), (by omega)⟩, HOK.out, (by dsimp only; omega)⟩, HK5.out.drewN nq⟩
  · as_aux_lemma =>
    obtain ⟨j, rfl⟩ : ∃ j, x = j + 1 := ⟨x - 1, by omega⟩
    rw [Int.natCast_add, Int.cast_ofNat_Int] at s0
    have hsome : idx nodes k = some j := by
      obtain ⟨d, e, hP, h2⟩ := HR.out
      rcases h2 with h2 | ⟨j', nd, h2, hnd, hk2⟩
      · rw [hx] at h2; cases h2
      · rw [hx] at h2
        obtain rfl : j = j' := by have := Option.some.inj h2; omega
        exact idx_mk S.once hnd hk2
    have hadd : addN nodes most k c = (nodes, (j : Int), 0) := by unfold addN; rw [hsome]
    have HADD := Aside0.mk hadd
    clear hadd hsome
    go_wp2_with (fail)
    go_ret2
    rw [HADD.out]
    exact ⟨rfl, ⟨⟨slots, nv, _, ev, A2.out.mono (fun _ h => .inl h), S, hs1, hs2, hs128⟩, hok, hsz⟩, HK.out⟩
end Go.Proofs.Ytbkbkgfpnefilaa.ar
