/- The law ArenaMany: slots that grow. -/
import Derived.Test.YtbeijhjafmalgaaArAwake
import Derived.Test.YtbeijhjafmalgaaArManyPure
import Derived.Maps.OwnSet
import Derived.Maps.RangeWalk
namespace Go.Proofs.Ytbeijhjafmalgaa.ar
open Go.RowKit Go.Proofs.YtbeijhjafmalgaaW.PrintWords Go.Proofs.YtbeijhjafmalgaaW.PrintLast Go.Proofs.YtbeijhjafmalgaaW.PrintMore Go.Proofs.Ytbeijhjafmalgaa.bs Go.ChangeShapes Go.Proofs.Ytbeijhjafmalgaa.lb Go.Maps

theorem lawM : Keyed Try.prog 26 := int_keyed Try.underlying26
theorem zeroU (w : World) : (zeroValue 22).run Try.prog w = .ok (.int .u32 0) w := by kernel_rfl
theorem wf_u32 {x : Int} (h0 : 0 ≤ x) (h1 : x < 4294967296) : (Lit.int .u32 x).wf = true := by
  simp [Lit.wf, IntKind.min, IntKind.max, IntKind.signed, IntKind.bits]
  omega
theorem keyM (f : Nat) (h : f < 4294967296) : keyOf Try.prog 26 (.int .u32 f) = some (lk f) := keyOf_int_mk Try.underlying26 (wf_u32 (by omega) (by omega))
/-- a map literal's entry: as a store -/
theorem wpList_insert_own {H : Type} {P : Program} (w : World) {ops : Array Oper} {rest : List Oper} {o : Oper} {a : Act} {Q : Exit → Act → World → Prop}
    (hg : o.guard = none) (m x v : Operand) (t : TypeId) (hop : o.op = Op.insert t m x v)
    (k e : TypeId) (K : Keyed P k) (ht : P.underlying t = some (.map k e)) (R : Value → Option (DataW H × List MemPlace)) (b n : Nat) (D : DataW H)
    (hm : a.eval m = .map (some b)) (hown : w.ownsMap P k R b n D) (hn : n < maxLen) (key val : Value) (kl : Lit) (hx : a.eval x = key) (hv : a.eval v = val) (hkey : keyOf P k key = some kl)
    (d : DataW H) (ps : List MemPlace) (hval : R val = some (d, ps))
    (hK : ∀ w', w'.ownsMap P k R b (n + 1) (D.put kl d) → w.grownBy w' (some b) → wpList P ops Q rest (a.put o.dst undef) w') :
    wpList P ops Q (o :: rest) a w := by
  refine wpList_plain hg fun K' hK' => ?_
  obtain ⟨w', hrun, r1, r2⟩ := hown.update K ht hn hkey hval
  unfold Oper.wp
  simp [execOp, hop, hm, hx, hv, hrun, Result.andThen]
  exact hK' _ _ (hK w' r1 r2)
set_option maxHeartbeats 4000000 in
set_option maxRecDepth 100000 in
theorem many_walk (seed n : Int) (s0 : 0 ≤ seed) (s1 : seed < 4294967296) (n0 : -9223372036854775808 ≤ n) (n1 : n ≤ 9223372036854775807) (w : World) : Calls Try.prog 3 #[.int .u32 seed, .int .i64 n] w fun e w' => e = .returned (.bool true) ∧ Below w.heap.size w w' := by
  have h65 := bs.and65535 n
  have hmm := @run_makeMap Try.prog
  go_enter Try.func3, Try.ntmps3
  go_wp2_with (fail)
  refine (awake_walk w).mono ?_
  rintro e w1 ⟨rfl, hb⟩
  have B1 := Aside0.mk hb
  clear hb
  go_wp2_with (fail)
  refine (hold_new 1000 (by omega) w1).mono ?_
  rintro e w2 ⟨p, F, rfl, hA, hb⟩
  rw [show max (1000 : Int) 64 = 1000 by rfl] at hA
  have A2 := Aside0.mk (hA.elder B1.out.size)
  have B2 := Aside0.mk (chain B1.out hb B1.out.size)
  clear hA hb
  have hown : (w2.alloc (.map #[] 0)).ownsMap Try.prog 26 (plainElem (H := Unit) Try.prog 22) w2.heap.size 0 (.map []) := World.ownsMap_made _ _ _ _
  go_upto_region 5 with (first | (refine wpList_insert_own _ rfl _ _ _ 27 rfl 26 22 lawM Try.underlying27 _ w2.heap.size 0 _ rfl hown (by unfold maxLen; omega) _ _ _ rfl rfl (keyM 0 (by omega)) _ [] (plainElem_int Try.underlying22 (wf_u32 (x := 0) (by omega) (by omega))) ?_; intro w3 hown1 hgrow1; go_frame))
  have hB : w2.heap.size < w3.heap.size := hown1.lt
  obtain ⟨B, hBe⟩ : ∃ B, w2.heap.size = B := ⟨_, rfl⟩
  have hg3 := (World.grownBy_alloc w2 (.map #[] 0) none)
  have A3 := Aside0.mk ((A2.out.below (Below.alloc (Below.refl _ _) (Nat.le_refl _) (.map #[] 0))).kept (G := fun k => k = w2.heap.size) ⟨hgrow1.size, fun k hk hn => hgrow1.block k hk (fun e => hn (by injection e))⟩ (fun k hk e => by have := A2.out.hi k hk; omega))
  have hFB : ¬ F B := fun h => by have := A2.out.hi B h; omega
  have B3 := Aside0.mk ((B2.out.alloc (B2.out.size) (.map #[] 0)).trans (show Below w.heap.size (w2.alloc (.map #[] 0)) w3 from ⟨hgrow1.os, hgrow1.tape, hgrow1.output, hgrow1.size, fun k hk => hgrow1.block k (by have := B2.out.size; simp; omega) (fun e => by have := B2.out.size; injection e with e; omega)⟩))
  have hBw : w.heap.size ≤ B := by rw [← hBe]; exact B2.out.size
  rw [hBe] at hown1 hB
  have HO := Aside0.mk hown1
  simp only [hBe]
  have HB := Aside0.mk hBe
  clear hBe hgrow1 hown hown1 hg3 A2 B2 B1
  obtain ⟨N, hN⟩ : ∃ N : Nat, (n % 65536).tmod 300 = N ∧ N < 300 := ⟨((n % 65536).tmod 300).toNat, by rw [Int.tmod_eq_emod_of_nonneg (by omega)]; omega⟩
  go_wp2_with (fail)
  go_loopg [25] N (fun kq c25 w' => ∃ (k : Nat) (nodes : List Nd) (D : DataW Unit) (F : Nat → Prop), k + kq = N ∧ c25 = .int .i64 k ∧ nodes.length ≤ k + 1 ∧ Aside0 (Seen nodes D) ∧ Aside0 (Hold w w' F p nodes [0, 0, 0] 1000) ∧ Aside0 (w'.ownsMap Try.prog 26 (plainElem (H := Unit) Try.prog 22) B (k + 1) D) ∧ Aside0 (¬ F B) ∧ Aside0 (Below w.heap.size w w'))
  case atStart => exact ⟨0, [nd0], _, F, by omega, rfl, by simp, ⟨seen_zero⟩, A3, HO, ⟨hFB⟩, B3⟩
  case round =>
    clear A3 HO hFB B3 hB hmm
    obtain ⟨k, nodes, D, F', hk, rfl, hlen, SE, A3, HO, hFB, B3⟩ := hrel
    by_cases hlt : k < N
    · obtain ⟨gk, rfl⟩ : ∃ m, gk = m + 1 := ⟨gk - 1, by omega⟩
      have h15 := bs.and15 (k : Int)
      go_upto_region 9 with (fail)
      clear h15
      obtain ⟨f, hf, hfe⟩ : ∃ f : Nat, f < 4294967296 ∧ seed * (k : Int) % 4294967296 / 2 ^ (k % 16) = f := by
        have h1 : 0 ≤ seed * (k : Int) % 4294967296 := Int.emod_nonneg _ (by decide)
        have h2 : seed * (k : Int) % 4294967296 < 4294967296 := Int.emod_lt_of_pos _ (by decide)
        have h3 : (0 : Int) ≤ 2 ^ (k % 16) := Int.le_of_lt (Int.pow_pos (by decide))
        have h4 := Int.ediv_nonneg h1 h3
        have h5 := Int.ediv_le_self (2 ^ (k % 16) : Int) h1
        exact ⟨(seed * (k : Int) % 4294967296 / 2 ^ (k % 16)).toNat, by omega, by omega⟩
      rw [hfe]
      clear hfe
      have hws := B3.out.size
      have ST := Aside0.mk (seen_step SE.out f hf (by omega))
      have hr := ST.out.ix0
      have hr2 := ST.out.ix1
      have hcode := ST.out.code
      have hag := ST.out.again
      have hlen2 := ST.out.len
      have hl1 := Aside0.mk (hold_leaf A3.out hws f hf (by omega))
      obtain ⟨r, hre⟩ : ∃ r, addN nodes 1000 (leafKey f) (popN 32 f : Nat) = r := ⟨_, rfl⟩
      rw [hre] at ST hr hr2 hcode hag hlen2 hl1
      obtain ⟨nodes', x, c⟩ := r
      dsimp only at ST hr hr2 hcode hag hlen2 hl1
      subst hcode
      have HAG := Aside0.mk hag
      clear hre hag
      go_wp2_with (fail)
      refine hl1.out.mono ?_
      rintro e wa ⟨rfl, Fa, hoA⟩
      rw [show errOf 0 = .nilIface from rfl]
      have HOa := Aside0.mk (show wa.ownsMap Try.prog 26 (plainElem (H := Unit) Try.prog 22) B (k + 1) D from by
        obtain ⟨es, cl, hb, rest⟩ := HO.out
        exact ⟨es, cl, (hoA.keeps.block B (HO.out.lt) hFB.out).trans hb, rest⟩)
      have hFa := Aside0.mk (show ¬ Fa B from fun h => hFB.out ((hoA.old B HO.out.lt).1 h))
      have hBa := Aside0.mk (A3.out.belowK B3.out hoA.keeps)
      have HA := Aside0.mk hoA.hold
      clear hoA hl1 A3 HO hFB B3
      have hws2 := hBa.out.size
      have hl2 := hold_leaf HA.out hws2 f hf (by omega)
      rw [HAG.out] at hl2
      dsimp only at hl2
      have HL2 := Aside0.mk hl2
      clear hl2
      go_wp2_with (fail)
      refine HL2.out.mono ?_
      rintro e wb ⟨rfl, Fb, hoA⟩
      rw [show errOf 0 = .nilIface from rfl]
      have HOb := Aside0.mk (show wb.ownsMap Try.prog 26 (plainElem (H := Unit) Try.prog 22) B (k + 1) D from by
        obtain ⟨es, cl, hb, rest⟩ := HOa.out
        exact ⟨es, cl, (hoA.keeps.block B (HOa.out.lt) hFa.out).trans hb, rest⟩)
      have hFb := Aside0.mk (show ¬ Fb B from fun h => hFa.out ((hoA.old B HOa.out.lt).1 h))
      have hBb := Aside0.mk (HA.out.belowK hBa.out hoA.keeps)
      have HA2 := Aside0.mk hoA.hold
      clear hoA HL2 HA HOa hFa hBa
      have hbits := bits_walk Fb p nodes' [0, 0, 0] 1000 wb HA2.out.ar x hr (by omega)
      rw [ST.out.bits] at hbits
      have HBT := Aside0.mk hbits
      clear hbits
      by_cases hhas : Maps.has D (lk f) = true
      · go_upto_region 12 with (first | (at_lookup; refine wpList_lookup_own_ok_int _ rfl _ _ 27 rfl 26 22 .u32 lawM Try.underlying27 Try.underlying22 (zeroU _) B (k + 1) D rfl HOb.out _ _ rfl (keyM f hf) ?_; intro c hat hwc))
        have hcx : c = x := by
          have h1 := ST.out.was (.lit (.int .u32 0)) hhas
          rw [hat] at h1
          unfold lv at h1
          injection h1 with h1
          injection h1 with h1 h2
        subst hcx
        clear hat hwc
        clear hhas
        go_wp2_with (first | (go_at_call 7; refine HBT.out.mono ?_; rintro e w4 ⟨rfl, rfl⟩) | (at_mapUpdate; refine wpList_mapUpdate_own _ rfl _ _ _ 27 rfl 26 22 lawM Try.underlying27 _ B (k + 1) D rfl HOb.out (by unfold maxLen; omega) _ _ _ rfl rfl (keyM f hf) _ [] (plainElem_int Try.underlying22 (wf_u32 (x := c) hr (by omega))) ?_; intro w5 ho5 hg5x; have HO5 := Aside0.mk ho5; have hg5 := Aside0.mk hg5x; clear ho5 hg5x; go_frame))
        clear HBT
        have HB5 := Aside0.mk (show Below w.heap.size w w5 from hBb.out.trans ⟨hg5.out.os, hg5.out.tape, hg5.out.output, hg5.out.size, fun j hj => hg5.out.block j (by have := hBb.out.size; omega) (fun e => by injection e with e; omega)⟩)
        have HA5 := Aside0.mk (HA2.out.kept (G := fun j => j = B) ⟨hg5.out.size, fun j hj hn => hg5.out.block j hj (fun e => hn (by injection e))⟩ (fun j hj e => hFb.out (e ▸ hj)))
        go_roundg gk
        case measure => omega
        case rel => exact ⟨k + 1, nodes', _, Fb, by omega, by go_num, by omega, ⟨ST.out.next⟩, HA5, HO5, hFb, HB5⟩
      · have hh2 : Maps.has D (lk f) = false := by rw [Bool.not_eq_true] at hhas; exact hhas
        clear hhas
        go_upto_region 12 with (first | (at_lookup; refine wpList_lookup_own_ok_int _ rfl _ _ 27 rfl 26 22 .u32 lawM Try.underlying27 Try.underlying22 (zeroU _) B (k + 1) D rfl HOb.out _ _ rfl (keyM f hf) ?_; intro c hat hwc))
        clear hat hwc
        clear hh2
        go_wp2_with (first | (go_at_call 7; refine HBT.out.mono ?_; rintro e w4 ⟨rfl, rfl⟩) | (at_mapUpdate; refine wpList_mapUpdate_own _ rfl _ _ _ 27 rfl 26 22 lawM Try.underlying27 _ B (k + 1) D rfl HOb.out (by unfold maxLen; omega) _ _ _ rfl rfl (keyM f hf) _ [] (plainElem_int Try.underlying22 (wf_u32 (x := x) hr (by omega))) ?_; intro w5 ho5 hg5x; have HO5 := Aside0.mk ho5; have hg5 := Aside0.mk hg5x; clear ho5 hg5x; go_frame))
        clear HBT
        have HB5 := Aside0.mk (show Below w.heap.size w w5 from hBb.out.trans ⟨hg5.out.os, hg5.out.tape, hg5.out.output, hg5.out.size, fun j hj => hg5.out.block j (by have := hBb.out.size; omega) (fun e => by injection e with e; omega)⟩)
        have HA5 := Aside0.mk (HA2.out.kept (G := fun j => j = B) ⟨hg5.out.size, fun j hj hn => hg5.out.block j hj (fun e => hn (by injection e))⟩ (fun j hj e => hFb.out (e ▸ hj)))
        go_roundg gk
        case measure => omega
        case rel => exact ⟨k + 1, nodes', _, Fb, by omega, by go_num, by omega, ⟨ST.out.next⟩, HA5, HO5, hFb, HB5⟩
    · obtain rfl : k = N := by omega
      have hrN : B < wr.heap.size := HO.out.lt
      go_wp2_with (first | (at_range; refine wpList_range_own _ rfl _ 27 rfl 26 22 lawM Try.underlying27 _ B (k + 1) _ rfl HO.out ?_; intro w5 hrg0 hg0 hs0))
      go_frame
      obtain ⟨rr, hrr⟩ : ∃ rr, wr.heap.size = rr := ⟨_, rfl⟩
      rw [hrr] at hrg0
      simp only [hrr]
      have hFr := Aside0.mk (show ¬ F' rr from fun h => by have := A3.out.hi rr h; omega)
      have HR0 := Aside0.mk hrg0
      have HA0 := Aside0.mk (A3.out.kept (G := fun _ => False) ⟨hg0.size, fun j hj _ => hg0.block j hj (by simp)⟩ (fun _ _ h => h))
      have hrw : w.heap.size ≤ rr := by rw [← hrr]; exact B3.out.size
      have HB0 := Aside0.mk (show Below w.heap.size w w5 from B3.out.trans ⟨hg0.os, hg0.tape, hg0.output, hg0.size, fun j hj => hg0.block j (by omega) (by simp)⟩)
      have hk3 : k < 300 := hN.2
      clear hrg0 hg0 hs0 hrr A3 B3 HO hrN hk hlt hN
      go_loopg [15] (Maps.size D) (fun kq c15 w' => ∃ left : Lit → Bool, Aside0 (w'.ranges Try.prog 26 (plainElem (H := Unit) Try.prog 22) B rr (k + 1) D left kq) ∧ Aside0 (Hold w w' F' p nodes [0, 0, 0] 1000) ∧ Aside0 (Below w.heap.size w w'))
      case atStart => exact ⟨_, HR0, HA0, HB0⟩
      case round =>
        clear HR0 HA0 HB0
        obtain ⟨left, HR, HA, HB0⟩ := hrel
        go_wp2_with (first | (at_next; refine wpList_next_ranges_ii _ rfl _ rfl 26 22 .u32 .u32 lawM Try.underlying26 Try.underlying22 B rr (k + 1) _ _ _ rfl HR.out ?_ ?_))
        · intro hc0 hl0
          clear hc0 hl0
          have hL := alen_walk F' p nodes [0, 0, 0] 1000 wr HA.out.ar
          have hsz := SE.out.size
          go_wp2_with (first | (go_at_call 11; refine hL.mono ?_; rintro e w2 ⟨rfl, rfl⟩) | (at_len; refine wpList_len_own _ rfl _ 27 rfl 26 22 Try.underlying27 _ B (k + 1) D rfl HR.out.owns ?_))
          go_ret
          exact ⟨ret_bool (by first | rfl | (simp [hsz]; done)), HB0.out⟩
        · intro x c w1 cnt1 hwx hwc hlx hat hrg1 hlt hg1 hs1 hen
          obtain ⟨i, f, hxf, hif⟩ := SE.out.back _ (has_true_of_atKey hat)
          obtain rfl : x = f := by unfold lk at hxf; injection hxf
          obtain rfl : c = i := by
            have h1 := (SE.out.here i f hif).2 (.lit (.int .u32 0))
            have h2 := hat (.lit (.int .u32 0))
            have h3 : DataW.lit (Lit.int .u32 c) = lv i := h2.symm.trans h1
            unfold lv at h3
            injection h3 with h3
            injection h3 with h3 h4
          have hi := (List.getElem?_eq_some_iff.1 hif).1
          have hf : f < 4294967296 := by
            obtain ⟨g, hg, e⟩ := SE.out.leaf i _ hif
            have := leafKey_inj (congrArg Nd.key e)
            omega
          have hple := popN_le 32 f
          have HG := Aside0.mk hg1
          have HR1 := Aside0.mk hrg1
          have HA1 := Aside0.mk (HA.out.kept (G := fun j => j = rr) ⟨hg1.size, fun j hj hn => hg1.block j hj (fun e => hn (by injection e))⟩ (fun j hj e => hFr.out (e ▸ hj)))
          have HB1 := Aside0.mk (show Below w.heap.size w w1 from HB0.out.trans ⟨hg1.os, hg1.tape, hg1.output, hg1.size, fun j hj => hg1.block j (by have := HB0.out.size; omega) (fun e => by injection e with e; omega)⟩)
          have hb := bits_walk F' p nodes [0, 0, 0] 1000 w1 HA1.out.ar i (by omega) (by omega)
          have hl := level_walk F' p nodes [0, 0, 0] 1000 w1 HA1.out.ar i (by omega) (by omega)
          have hc := ncount_walk F' p nodes [0, 0, 0] 1000 w1 HA1.out.ar i (by omega) (by omega)
          have hp := count_walk f hf w1
          rw [(bitsAt_some (x := lnd f) (show nodes[(i : Int).toNat]? = some (lnd f) from hif)), show (lnd f).key.bits = f from rfl] at hb
          rw [(lvAt_some (x := lnd f) (show nodes[(i : Int).toNat]? = some (lnd f) from hif)), show (lnd f).key.level = 2 from rfl] at hl
          rw [(cntAt_some (x := lnd f) (show nodes[(i : Int).toNat]? = some (lnd f) from hif)), show (lnd f).count = (popN 32 f : Nat) from rfl] at hc
          generalize popN 32 f = pc at *
          clear hat hrg1 hg1 hs1 hwx hwc hlx hxf hif HR HA HB0
          go_wp2_with (first | (go_at_call 7; refine hb.mono ?_; rintro e w2 ⟨rfl, rfl⟩) | (go_at_call 8; refine hl.mono ?_; rintro e w2 ⟨rfl, rfl⟩) | (go_at_call 9; refine hc.mono ?_; rintro e w2 ⟨rfl, rfl⟩) | (go_at_call 10; refine hp.mono ?_; rintro e w2 ⟨rfl, rfl⟩))
          go_roundg cnt1
          case measure => exact hlt
          case rel => exact ⟨_, HR1, HA1, HB1⟩
end Go.Proofs.Ytbeijhjafmalgaa.ar
