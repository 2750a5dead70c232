/- Copies of squares: roots, room, how many nodes; arenas behind Collect and Copy. -/
import Derived.Test.YtbkbkgfpnefilaaMMv
import Derived.Test.YtbkbkgfpnefilaaMAl
import Derived.Test.YtbkbkgfpnefilaaMSh
namespace Go.Proofs.Ytbkbkgfpnefilaa.ar
open Go.RowKit Go.Proofs.YtbkbkgfpnefilaaW.PrintWords Go.Proofs.YtbkbkgfpnefilaaW.PrintLast Go.Proofs.YtbkbkgfpnefilaaW.PrintMore Go.Proofs.Ytbkbkgfpnefilaa.bs Go.ChangeShapes Go.Proofs.Ytbkbkgfpnefilaa.lb Go.Maps

set_option maxRecDepth 100000 in
set_option maxHeartbeats 4000000 in
theorem move_walk (w0 : World) (F1 : Nat → Prop) (p1 p2 M : Nat) (src : List Nd) (em1 em2 : List Int) (m1 m2 : Int) (hN : src.length < 536870900) (hm2 : m2 < 536870900) : ∀ (n : Nat) (q : Q) (i : Nat) (F2 : Nat → Prop) (dst : List Nd) (K : List (Nat × Nat)) (w : World), Rep src q i → q.lv ≤ (n : Int) + 1 → q.lv ≤ 44 → dst.length < 536870900 → Mv w0 w F1 F2 p1 p2 M src dst em1 em2 m1 m2 K →
    Calls Try.prog 86 #[.pointer (some ⟨p1, 0, none⟩), .pointer (some ⟨p2, 0, none⟩), .int .u32 i, .map (some M)] w fun e w' => MvPost w0 w F1 F2 p1 p2 M src dst em1 em2 m1 m2 K i e w' := by
  intro n
  induction n with
  | zero => intro q i F2 dst K w hR hl; have := q.lv_ge; omega
  | succ n ih =>
    intro q i F2 dst K w hR hl h44 hd hV
    have hil := hR.lt
    have hi32 : i < 4294967296 := by omega
    have hKl := keys_le hV.inv
    by_cases hin : i ∈ keysL K
    · exact move_had w0 w F1 F2 p1 p2 M src dst em1 em2 m1 m2 K i hi32 hd hV hin
    · cases q with
      | leaf f => exact move_leaf w0 w F1 F2 p1 p2 M src dst em1 em2 m1 m2 K f i hR hN hm2 hd hKl hV hin
      | node a b c d =>
        obtain ⟨D, hD, hO⟩ := hV.own
        have hhas : Maps.has D (sk i) = false := by rw [hD.has]; simpa using hin
        obtain ⟨k0, k1, k2, k3, hx, hkl, r0, r1, r2, r3, hb, hc, hdl⟩ := kids_node hR
        have hlq : (Q.node a b c d).lv = a.lv + 1 := rfl
        have ha2 := a.lv_ge
        have hlev := level_walk F1 p1 src em1 m1 w hV.a1 i (by omega) (by omega)
        rw [hR.lv] at hlev
        have hkey : keyAt src i = ⟨a.lv + 1, 0, k0, k1, k2, k3⟩ := keyAt_some (by rw [Int.toNat_natCast]; exact hx)
        have hkd := kids_walk F1 p1 src em1 m1 w hV.a1 i (by omega) (by omega)
        rw [hkey] at hkd
        unfold kidsVal at hkd
        dsimp only at hkd
        have HKD := Aside0.mk hkd
        have hne : ((Q.node a b c d).lv == 2) = false := by rw [beq_eq_false_iff_ne]; omega
        have HLEV := Aside0.mk hlev
        have HV := Aside0.mk hV
        have HD := Aside0.mk hD
        have HO := Aside0.mk hO
        have HR := Aside0.mk hR
        have HIN := Aside0.mk hin
        have HIH := Aside0.mk ih
        have HX := Aside0.mk hx
        have HLA : Aside0 (a.lv ≤ (n : Int) + 1 ∧ a.lv ≤ 43) := ⟨by omega⟩
        have HKL : Aside0 (∀ j, j < 4 → ∃ qk, Rep src qk ([k0, k1, k2, k3].getD j 0) ∧ qk.lv = a.lv) := ⟨fun j hj => by
          have : j = 0 ∨ j = 1 ∨ j = 2 ∨ j = 3 := by omega
          rcases this with rfl | rfl | rfl | rfl
          · exact ⟨a, r0, rfl⟩
          · exact ⟨b, r1, hb⟩
          · exact ⟨c, r2, hc⟩
          · exact ⟨d, r3, hdl⟩⟩
        have HRK := Aside0.mk (And.intro r0 (And.intro r1 (And.intro r2 (And.intro r3 (And.intro hb (And.intro hc hdl))))))
        have HKIDS := Aside0.mk hkl
        clear hV hD hO hR hin ih hx r0 r1 r2 r3 hb hc hdl hkey hkd hlev hkl hl h44 hlq
        generalize (Q.node a b c d).lv = lq at *
        go_enter Try.func86, Try.ntmps86
        go_wp2_with (first | (at_lookup; refine wpList_lookup_own_ok_int _ rfl _ _ 151 rfl 38 38 .u32 lawU Try.underlying151 Try.underlying38 (zeroU32 _) M K.length D rfl HO.out _ _ rfl (keyU i hi32) ?_; intro cc hat hwc; clear hat hwc) | (go_at_call 29; refine HLEV.out.mono ?_; rintro e w1 ⟨rfl, rfl⟩) | (go_at_call 77; refine HKD.out.mono ?_; rintro e w1 ⟨rfl, hb1⟩; have HB1 := Aside0.mk hb1; clear hb1))
        have HV2 := Aside0.mk ((HV.out.drop HB1.out).drop (below_alloc (Below.refl _ _) (.cells #[.int .u32 (k0 : Int), .int .u32 (k1 : Int), .int .u32 (k2 : Int), .int .u32 (k3 : Int)] 129)))
        have HS2 := Aside0.mk (((MvStep.refl (w := w) (F := F2) (M := M) (src := src) (i := i) (K := K) hd).drop HB1.out).drop (below_alloc (Below.refl _ _) (.cells #[.int .u32 (k0 : Int), .int .u32 (k1 : Int), .int .u32 (k2 : Int), .int .u32 (k3 : Int)] 129)))
        have KB2 : Aside0 ((w1.alloc (.cells #[.int .u32 (k0 : Int), .int .u32 (k1 : Int), .int .u32 (k2 : Int), .int .u32 (k3 : Int)] 129)).heap[w1.heap.size]? = some (.cells (uN [k0, k1, k2, k3]) 129 (0, 0))) := ⟨blk_new w1 (.cells #[.int .u32 (k0 : Int), .int .u32 (k1 : Int), .int .u32 (k2 : Int), .int .u32 (k3 : Int)] 129)⟩
        have hBw : Aside0 (w.heap.size ≤ w1.heap.size) := ⟨HB1.out.size⟩
        have hBF1 : Aside0 (¬ F1 w1.heap.size) := ⟨fun hf => by have := HV.out.f1 _ hf; have := HB1.out.size; omega⟩
        have hBF2 : Aside0 (¬ F2 w1.heap.size) := ⟨fun hf => by have := HV.out.a2.hi _ hf; have := HB1.out.size; omega⟩
        have hBM : Aside0 (M ≠ w1.heap.size) := ⟨by have := HO.out.lt; have := HB1.out.size; omega⟩
        have hBw0 : Aside0 (w0.heap.size ≤ w1.heap.size) := ⟨by have := HV.out.below.size; have := HB1.out.size; omega⟩
        clear HKD HLEV HB1
        generalize w1.alloc (.cells #[.int .u32 (k0 : Int), .int .u32 (k1 : Int), .int .u32 (k2 : Int), .int .u32 (k3 : Int)] 129) = w2 at *
        generalize w1.heap.size = B at *
        obtain ⟨L, hL⟩ : ∃ L, [k0, k1, k2, k3] = L := ⟨_, rfl⟩
        rw [hL] at HKL HKIDS KB2
        have HL := Aside0.mk hL
        have HLl : Aside0 (L.length = 4) := ⟨by rw [← hL]; rfl⟩
        clear hL
        go_loopg [39] 4 (fun kq c39 w' => ∃ (j : Nat) (F3 : Nat → Prop) (dst3 : List Nd) (K3 : List (Nat × Nat)) (os : List Nat), j + kq = 4 ∧ c39 = .int .i64 j ∧ Aside0 (Mv w0 w' F1 F3 p1 p2 M src dst3 em1 em2 m1 m2 K3) ∧ Aside0 (MvStep w F2 M src dst K i w' F3 dst3 K3) ∧ Aside0 (w'.heap[B]? = some (.cells (uN os) 129 (0, 0))) ∧ Aside0 (¬ F3 B) ∧ Aside0 (i ∉ keysL K3) ∧ Aside0 (os.length = 4 ∧ (∀ t, t < j → (L.getD t 0, os.getD t 0) ∈ K3) ∧ ∀ t, j ≤ t → os.getD t 0 = L.getD t 0))
        case atStart => exact ⟨0, F2, dst, K, L, by omega, rfl, HV2, HS2, KB2, hBF2, HIN, ⟨HLl.out, fun t h => by omega, fun t _ => rfl⟩⟩
        case round =>
          clear HV2 HS2 KB2 hBF2
          obtain ⟨j, F3, dst3, K3, os, hj, rfl, HV3, HS3, KB3, hBF3, HIN3, HOS⟩ := hrel
          by_cases h4 : j < 4
          · obtain ⟨gm, rfl⟩ : ∃ m, gk = m + 1 := ⟨gk - 1, by omega⟩
            obtain ⟨qk, hqr, hql⟩ := HKL.out j h4
            have ho := HOS.out.2.2 j (Nat.le_refl _)
            have b0 := blk_cell KB3.out j
            rw [uN_get os j (by rw [HOS.out.1]; exact h4), ho] at b0
            have hmem : Aside0 (L.getD j 0 ∈ kidsL src i) := ⟨by
              rw [HKIDS.out, List.getD_eq_getElem?_getD, List.getElem?_eq_getElem (by rw [HLl.out]; exact h4)]
              exact List.getElem_mem _⟩
            have HREC := Aside0.mk (HIH.out qk (L.getD j 0) F3 dst3 K3 wr hqr (by rw [hql]; exact HLA.out.1) (by rw [hql]; have := HLA.out.2; omega) HS3.out.len HV3.out)
            have HKV := Aside0.mk (show ∃ kv, L.getD j 0 = kv from ⟨_, rfl⟩)
            have HQR := Aside0.mk hqr
            clear ho hqr
            obtain ⟨kv, hkv⟩ : ∃ kv, L.getD j 0 = kv := ⟨_, rfl⟩
            rw [hkv] at hmem HREC b0 HQR
            have HKV2 := Aside0.mk hkv
            clear hkv HKV
            go_upto_region 12 with (fail)
            clear b0
            have b0 := blk_cell KB3.out j
            rw [uN_get os j (by rw [HOS.out.1]; exact h4), HOS.out.2.2 j (Nat.le_refl _), HKV2.out] at b0
            have hBl : B < wr.heap.size := blk_lt KB3.out
            go_wp2_with (fail)
            refine HREC.out.mono ?_
            intro e w5 hp
            obtain ⟨F4, dst4, K4, hv4, hs4, he⟩ := of_post hp
            have kb4 := (hs4.keep B hBl hBF3.out (Ne.symm hBM.out)).trans KB3.out
            have hBF4 : Aside0 (¬ F4 B) := ⟨fun hf => hBF3.out ((hs4.old B hBl).1 hf)⟩
            have HSK := Aside0.mk (HS3.out.trans hs4 (fun a ha => Under.step hmem.out ha))
            have HIN4 : Aside0 (i ∉ keysL K4) := ⟨fun hi => by
              rcases hs4.keys i hi with h | h
              · exact HIN3.out h
              · obtain ⟨q', hq', hl'⟩ := under_lv h HQR.out
                have e1 := (hq'.one HR.out)
                have e2 : (Q.node a b c d).lv = a.lv + 1 := rfl
                rw [e1, e2] at hl'
                omega⟩
            have KB4 := Aside0.mk kb4
            have HV4 := Aside0.mk hv4
            have HS4 := Aside0.mk hs4
            clear hp hv4 hs4 kb4 HREC
            rcases he with ⟨jn, rfl, hjn⟩ | ⟨rfl, hmost, hex⟩
            · have HJN := Aside0.mk hjn
              clear hjn
              have c0 := blk_cell KB4.out j
              rw [uN_get os j (by rw [HOS.out.1]; exact h4)] at c0
              have f0 := blk_frozen KB4.out j
              have KB5 := Aside0.mk (blk_put KB4.out j (.int .u32 (jn : Int)) (uN_set os j jn))
              have HV5 := Aside0.mk (HV4.out.put KB4.out hBF1.out hBF4.out hBw0.out j (.int .u32 (jn : Int)))
              have HS5 := Aside0.mk (HSK.out.put hBw.out j (.int .u32 (jn : Int)))
              have HOS5 : Aside0 ((os.set j jn).length = 4 ∧ (∀ t, t < j + 1 → (L.getD t 0, (os.set j jn).getD t 0) ∈ K4) ∧ ∀ t, j + 1 ≤ t → (os.set j jn).getD t 0 = L.getD t 0) := ⟨by
                refine ⟨by rw [List.length_set]; exact HOS.out.1, fun t ht => ?_, fun t ht => ?_⟩
                · by_cases e : t = j
                  · subst e
                    rw [getD_set_same os t jn (by rw [HOS.out.1]; exact h4), HKV2.out]
                    exact HJN.out
                  · rw [getD_set_ne os j t jn e]
                    obtain ⟨l, hl⟩ := HS4.out.kext
                    rw [hl]
                    exact List.mem_append_right _ (HOS.out.2.1 t (by omega))
                · rw [getD_set_ne os j t jn (by omega)]
                  exact HOS.out.2.2 t (by omega)⟩
              clear HV4 HSK KB4 KB3 HV3 HS3 HOS hmem HS4
              go_wp2_with (fail)
              go_roundg gm
              case measure => omega
              case rel => exact ⟨j + 1, F4, dst4, K4, _, by omega, by go_num, HV5, HS5, KB5, hBF4, HIN4, HOS5⟩
            · have HEX : Aside0 (∃ a, Under src i a ∧ a ∉ keysL K4) := ⟨by
                obtain ⟨a', h1, h2⟩ := hex
                exact ⟨a', Under.step hmem.out h1, h2⟩⟩
              clear hex
              have c0 := blk_cell KB4.out j
              rw [uN_get os j (by rw [HOS.out.1]; exact h4)] at c0
              have f0 := blk_frozen KB4.out j
              have HV5 := Aside0.mk (HV4.out.put KB4.out hBF1.out hBF4.out hBw0.out j (.int .u32 0))
              have HS5 := Aside0.mk (HSK.out.put hBw.out j (.int .u32 0))
              go_wp2_with (fail)
              go_ret2
              exact mv_post HV5.out HS5.out (.inr ⟨rfl, hmost, HEX.out⟩)
          · obtain rfl : j = 4 := by omega
            obtain ⟨D3, hD3, hO3⟩ := HV3.out.own
            have HD3 := Aside0.mk hD3
            have HO3 := Aside0.mk hO3
            obtain ⟨hol, hot, _⟩ := HOS.out
            obtain ⟨j0, j1, j2, j3, rfl⟩ : ∃ j0 j1 j2 j3, os = [j0, j1, j2, j3] := by
              match os, hol with
              | [a, b, c, d], _ => exact ⟨a, b, c, d, rfl⟩
            have hLe := HL.out
            have m0 := hot 0 (by omega)
            have m1' := hot 1 (by omega)
            have m2' := hot 2 (by omega)
            have m3' := hot 3 (by omega)
            rw [← hLe] at m0 m1' m2' m3'
            simp only [List.getD_cons_zero, List.getD_cons_succ] at m0 m1' m2' m3'
            obtain ⟨r0, r1, r2, r3, hqb, hqc, hqd⟩ := HRK.out
            obtain ⟨_, s0, g0⟩ := HV3.out.inv.rep _ _ m0
            obtain ⟨_, s1, g1⟩ := HV3.out.inv.rep _ _ m1'
            obtain ⟨_, s2, g2⟩ := HV3.out.inv.rep _ _ m2'
            obtain ⟨_, s3, g3⟩ := HV3.out.inv.rep _ _ m3'
            obtain rfl := s0.one r0
            obtain rfl := s1.one r1
            obtain rfl := s2.one r2
            obtain rfl := s3.one r3
            have hdl3 := HS3.out.len
            have hmk := join_makes HV3.out.wf HV3.out.a2.ar.once m2 g0 g1 g2 g3 hqb hqc hqd HLA.out.2
            have hlm := joinN_lim dst3 m2 j0 j1 j2 j3 HV3.out.lim
            have hlen := join_len dst3 m2 j0 j1 j2 j3 536870900 hdl3 hm2
            have hjn := hold_join HV3.out.a2 HV3.out.below.size j0 j1 j2 j3 (by have := g0.lt; omega) (by have := g1.lt; omega) (by have := g2.lt; omega) (by have := g3.lt; omega) (by omega)
            have hcl : ∀ k ∈ kidsL src i, k ∈ keysL K3 := by
              rw [HKIDS.out, ← hLe]
              intro k hk
              simp only [List.mem_cons, List.not_mem_nil, or_false] at hk
              rcases hk with rfl | rfl | rfl | rfl
              · exact mem_keys m0
              · exact mem_keys m1'
              · exact mem_keys m2'
              · exact mem_keys m3'
            have HCL := Aside0.mk hcl
            generalize joinN dst3 m2 j0 j1 j2 j3 = r at *
            obtain ⟨rr1, rr2, rr3⟩ := r
            dsimp only at hmk hlen hjn hlm
            have HLM := Aside0.mk hlm
            have HMK := Aside0.mk hmk
            have HJN := Aside0.mk hjn
            have HLEN := Aside0.mk hlen
            have hK3l := keys_le HV3.out.inv
            have hM3 := Aside0.mk hO3.lt
            have b0 : wr.cell? ⟨B, 0, none⟩ = some (.int .u32 (j0 : Int)) := blk_cell KB3.out 0
            have b1 : wr.cell? ⟨B, 1, none⟩ = some (.int .u32 (j1 : Int)) := blk_cell KB3.out 1
            have b2 : wr.cell? ⟨B, 2, none⟩ = some (.int .u32 (j2 : Int)) := blk_cell KB3.out 2
            have b3 : wr.cell? ⟨B, 3, none⟩ = some (.int .u32 (j3 : Int)) := blk_cell KB3.out 3
            clear hmk hjn hlen hlm hcl hLe m0 m1' m2' m3' r0 r1 r2 r3 hqb hqc hqd s0 s1 s2 s3 g0 g1 g2 g3 hol hot hD3 hO3
            by_cases h0 : rr3 = 0
            · subst h0
              obtain ⟨jj, hjj, hrep⟩ := HMK.out.good rfl
              dsimp only at hjj hrep
              subst hjj
              have hj32 : jj < 4294967296 := by have := hrep.lt; have := HLEN.out; omega
              have HREP := Aside0.mk hrep
              clear hrep
              go_wp2_with (first | (go_at_call 84; refine HJN.out.mono ?_; rintro e w6 ⟨rfl, F6, ho⟩; have HOT := Aside0.mk ho; have HO6 := Aside0.mk (owns_onto HO3.out ho HV3.out.mF2); clear ho; rw [show errOf 0 = .nilIface from rfl]) | (at_mapUpdate; refine wpList_mapUpdate_own _ rfl _ _ _ 151 rfl 38 38 lawU Try.underlying151 _ M K3.length D3 rfl HO6.out (by unfold maxLen; omega) _ _ _ rfl rfl (keyU i hi32) _ [] (plainElem_int Try.underlying38 (sk_wf hj32)) ?_; intro w7 ho7 hg7; have HO7 := Aside0.mk ho7; have HG7 := Aside0.mk hg7; clear ho7 hg7; go_frame))
              go_ret2
              have hst : MvStep wr F3 M src dst3 K3 i w7 F6 rr1 ((i, jj) :: K3) := by
                refine ⟨HMK.out.ext.imp fun l h => h.1, ⟨[(i, jj)], rfl⟩, HLEN.out, fun j' h1 h2 => ⟨i, ?_⟩, fun a' ha => ?_, fun k h1 h2 h3 => ?_, HOT.out.old, Nat.le_trans HOT.out.keeps.size HG7.out.size⟩
                · obtain ⟨h3, _⟩ := HMK.out.new j' h1 h2
                  obtain rfl : jj = j' := by have : (jj : Int) = j' := h3; omega
                  simp
                · rcases List.mem_cons.1 (show a' ∈ i :: keysL K3 from ha) with rfl | h
                  · exact .inr (.refl _)
                  · exact .inl h
                · exact (HG7.out.block k (Nat.lt_of_lt_of_le h1 HOT.out.keeps.size) (fun e => h3 (by injection e))).trans (HOT.out.keeps.block k h1 h2)
              exact mv_post ((HV3.out.onto HOT.out HMK.out.wf (HMK.out.ext.imp fun l h => h.1) HLM.out).mapped HG7.out (HD3.out.put HIN3.out jj) HO7.out ((HV3.out.inv.grown (HMK.out.ext.imp fun l h => h.1)).cons HIN3.out HR.out HREP.out HCL.out)) (HS3.out.trans hst (fun _ h => h)) (.inl ⟨jj, rfl, by simp⟩)
            · have hbad := HMK.out.bad h0
              dsimp only at hbad
              obtain ⟨rfl, rfl, rfl, hmost, hno⟩ := hbad
              have HNO := Aside0.mk hno
              clear hno
              go_wp2_with (first | (go_at_call 84; refine HJN.out.mono ?_; rintro e w6 ⟨rfl, F6, ho⟩; have HOT := Aside0.mk ho; clear ho; rw [show errOf 8 = .iface 59 (.int .i64 8) from rfl]))
              go_ret2
              have hst : MvStep wr F3 M src rr1 K3 i w6 F6 rr1 K3 :=
                ⟨⟨[], by simp⟩, ⟨[], rfl⟩, HLEN.out, fun j h1 h2 => by omega, fun a' ha => .inl ha, fun k h1 h2 _ => HOT.out.keeps.block k h1 h2, HOT.out.old, HOT.out.keeps.size⟩
              exact mv_post (HV3.out.onto HOT.out HMK.out.wf ⟨[], by simp⟩ HLM.out) (HS3.out.trans hst (fun _ h => h)) (.inr ⟨rfl, hmost, i, .refl _, HIN3.out⟩)
end Go.Proofs.Ytbkbkgfpnefilaa.ar
namespace Go.Proofs.Ytbkbkgfpnefilaa.ar
open Go.RowKit Go.Proofs.YtbkbkgfpnefilaaW.PrintWords Go.Proofs.YtbkbkgfpnefilaaW.PrintLast Go.Proofs.YtbkbkgfpnefilaaW.PrintMore Go.Proofs.Ytbkbkgfpnefilaa.bs Go.ChangeShapes Go.Proofs.Ytbkbkgfpnefilaa.lb Go.Maps

/-- blocks of the call's own that are none of the two arenas', and not the map -/
def OutB (w : World) (F1 F2 : Nat → Prop) (M : Nat) (k : Nat) : Prop := w.heap.size ≤ k ∧ ¬ F1 k ∧ ¬ F2 k ∧ k ≠ M
theorem Mv.grown {w0 w w1 : World} {F1 F2 : Nat → Prop} {p1 p2 M : Nat} {src dst : List Nd} {em1 em2 : List Int} {m1 m2 : Int} {K : List (Nat × Nat)} {row : Option Nat} (h : Mv w0 w F1 F2 p1 p2 M src dst em1 em2 m1 m2 K) (hg : w.grownBy w1 row) (hr : ∀ b, row = some b → OutB w0 F1 F2 M b) : Mv w0 w1 F1 F2 p1 p2 M src dst em1 em2 m1 m2 K := by
  have hk : Kept w w1 (fun k => row = some k) := ⟨hg.size, fun k hk hn => hg.block k hk (fun e => hn e.symm)⟩
  obtain ⟨D, hD, es, cl, hm, rest⟩ := h.own
  have hs := h.below.size
  refine ⟨h.a1.kept hk (fun k hf e => (hr k e).2.1 hf), h.a2.kept hk (fun k hf e => (hr k e).2.2.1 hf), fun k hk => Nat.lt_of_lt_of_le (h.f1 k hk) hg.size, h.dis, h.mF1, h.mF2, h.mw, ?_, ⟨D, hD, es, cl, (hg.block M (blk_lt hm) (fun e => (hr M e.symm).2.2.2 rfl)).trans hm, rest⟩, h.wf, h.inv, h.lim⟩
  exact h.below.trans ⟨hg.os, hg.tape, hg.output, hg.size, fun k hk => hg.block k (by omega) (fun e => by have := (hr k e.symm).1; omega)⟩
/-- what Copy has done with some roots -/
structure CpSt (w0 w w' : World) (F1 F2 F2' : Nat → Prop) (p1 p2 M : Nat) (src dst dst' : List Nd) (em1 em2 : List Int) (m1 m2 : Int) (rs : List Nat) (K : List (Nat × Nat)) : Prop where
  mv : Mv w0 w' F1 F2' p1 p2 M src dst' em1 em2 m1 m2 K
  dext : ∃ l, dst' = dst ++ l
  len : dst'.length < 536870900
  cover : ∀ j, dst.length ≤ j → j < dst'.length → ∃ a, (a, j) ∈ K
  keys : ∀ a ∈ keysL K, ∃ r ∈ rs, Under src r a
  keep : ∀ k, k < w.heap.size → ¬ F2 k → w'.heap[k]? = w.heap[k]?
  old : ∀ k, k < w.heap.size → (F2' k ↔ F2 k)
  size : w.heap.size ≤ w'.heap.size
  mNew : w.heap.size ≤ M
section
variable {w0 w w1 w2 : World} {F1 F2 F3 F4 : Nat → Prop} {p1 p2 M r : Nat} {src dst dst3 dst4 : List Nd} {em1 em2 : List Int} {m1 m2 : Int} {rs rs' : List Nat} {K K4 : List (Nat × Nat)}
theorem CpSt.step (h : CpSt w0 w w1 F1 F2 F3 p1 p2 M src dst dst3 em1 em2 m1 m2 rs K) (hv : Mv w0 w2 F1 F4 p1 p2 M src dst4 em1 em2 m1 m2 K4) (hs : MvStep w1 F3 M src dst3 K r w2 F4 dst4 K4) (hr : r ∈ rs') (hsub : ∀ x ∈ rs, x ∈ rs') : CpSt w0 w w2 F1 F2 F4 p1 p2 M src dst dst4 em1 em2 m1 m2 rs' K4 := by
  obtain ⟨l1, e1⟩ := h.dext
  obtain ⟨l2, e2⟩ := hs.dext
  obtain ⟨k2, f2⟩ := hs.kext
  refine ⟨hv, ⟨l1 ++ l2, by rw [e2, e1, List.append_assoc]⟩, hs.len, fun j h1 h2 => ?_, fun a ha => ?_, fun k hk hf => ?_, fun k hk => (hs.old k (Nat.lt_of_lt_of_le hk h.size)).trans (h.old k hk), Nat.le_trans h.size hs.size, h.mNew⟩
  · by_cases hlt : j < dst3.length
    · obtain ⟨a, ha⟩ := h.cover j h1 hlt
      exact ⟨a, by rw [f2]; exact List.mem_append_right _ ha⟩
    · exact hs.cover j (by omega) h2
  · rcases hs.keys a ha with h3 | h3
    · obtain ⟨x, hx, hu⟩ := h.keys a h3
      exact ⟨x, hsub x hx, hu⟩
    · exact ⟨r, hr, h3⟩
  · have := h.mNew
    exact (hs.keep k (Nat.lt_of_lt_of_le hk h.size) (fun h2 => hf ((h.old k hk).1 h2)) (by omega)).trans (h.keep k hk hf)
theorem CpSt.grown {row : Option Nat} (h : CpSt w0 w w1 F1 F2 F3 p1 p2 M src dst dst3 em1 em2 m1 m2 rs K) (hw : w0.heap.size ≤ w.heap.size) (hg : w1.grownBy w2 row) (hr : ∀ b, row = some b → OutB w F1 F3 M b) : CpSt w0 w w2 F1 F2 F3 p1 p2 M src dst dst3 em1 em2 m1 m2 rs K :=
  ⟨h.mv.grown hg (fun b hb => ⟨Nat.le_trans hw (hr b hb).1, (hr b hb).2⟩), h.dext, h.len, h.cover, h.keys, fun k hk hf => (hg.block k (Nat.lt_of_lt_of_le hk h.size) (fun e => by have := (hr k e.symm).1; omega)).trans (h.keep k hk hf), h.old, Nat.le_trans h.size hg.size, h.mNew⟩
theorem CpSt.wide (h : CpSt w0 w w1 F1 F2 F3 p1 p2 M src dst dst3 em1 em2 m1 m2 rs K) (hsub : ∀ x ∈ rs, x ∈ rs') : CpSt w0 w w1 F1 F2 F3 p1 p2 M src dst dst3 em1 em2 m1 m2 rs' K :=
  ⟨h.mv, h.dext, h.len, h.cover, fun a ha => by obtain ⟨x, hx, hu⟩ := h.keys a ha; exact ⟨x, hsub x hx, hu⟩, h.keep, h.old, h.size, h.mNew⟩
/-- the row that came in -/
theorem CpSt.row {v : Value} {xs : List Int} (h : CpSt w0 w w1 F1 F2 F3 p1 p2 M src dst dst3 em1 em2 m1 m2 rs K) (hr : Kd.R (Kd.int .u32) 38 w 0 (fun k => ¬ F2 k) v xs) : Kd.R (Kd.int .u32) 38 w1 0 (fun k => ¬ F2 k) v xs :=
  Kd.R_step hr (fun k hf hk => h.keep k hk hf)
/-- the row of images over a move -/
theorem out_step {v : Value} {xs : List Int} (hr : Kd.R (Kd.int .u32) 38 w1 0 (OutB w F1 F3 M) v xs) (hs : MvStep w1 F3 M src dst3 K r w2 F4 dst4 K4) : Kd.R (Kd.int .u32) 38 w2 0 (OutB w F1 F4 M) v xs :=
  Kd.R_mono (Kd.R_step (Kd.R_bound hr) (fun k hk hlt => hs.keep k hlt hk.1.2.2.1 hk.1.2.2.2)) (fun k hk => ⟨hk.1.1, hk.1.2.1, fun hf => hk.1.2.2.1 ((hs.old k hk.2.2.1).1 hf), hk.1.2.2.2⟩)
theorem out_fresh (h : Mv w0 w1 F1 F3 p1 p2 M src dst3 em1 em2 m1 m2 K) (hw : w.heap.size ≤ w1.heap.size) : ∀ k, w1.heap.size ≤ k → OutB w F1 F3 M k := fun k hk => by
  obtain ⟨D, hD, hO⟩ := h.own
  have hM := hO.lt
  exact ⟨by omega, fun hf => by have := h.f1 k hf; omega, fun hf => by have := h.a2.hi k hf; omega, by omega⟩
end
/-- what Copy leaves: the row of images; or the first root that is none; or no more room -/
def CopyPost (w0 w : World) (F1 F2 : Nat → Prop) (p1 p2 : Nat) (src dst : List Nd) (em1 em2 : List Int) (m1 m2 : Int) (rs : List Nat) (e : Ending) (w' : World) : Prop :=
  ∃ M F2' dst' K, CpSt w0 w w' F1 F2 F2' p1 p2 M src dst dst' em1 em2 m1 m2 rs K ∧
    ((∃ A c js, e = .returned (.tuple #[.slice A js.length c, .nilIface]) ∧ (∀ r ∈ rs, r < src.length) ∧ Kd.R (Kd.int .u32) 38 w' 0 (OutB w F1 F2' M) (.slice A js.length c) (uRow js) ∧ js.length = rs.length ∧ ∀ (t r : Nat), rs[t]? = some r → (r, js.getD t 0) ∈ K) ∨
     (e = .returned (.tuple #[.slice none 0 0, .iface 59 (.int .i64 4)]) ∧ ∃ r ∈ rs, ¬ r < src.length) ∨
     (e = .returned (.tuple #[.slice none 0 0, .iface 59 (.int .i64 8)]) ∧ m2 ≤ dst'.length ∧ ∃ r ∈ rs, ∃ a, Under src r a ∧ a ∉ keysL K))
theorem uRow_snoc (js : List Nat) (j : Nat) : uRow js ++ [(j : Int)] = uRow (js ++ [j]) := by simp [uRow]
def Imgs (rs js : List Nat) (K : List (Nat × Nat)) (j : Nat) : Prop := js.length = j ∧ ∀ (t r : Nat), t < j → rs[t]? = some r → (r, js.getD t 0) ∈ K
theorem Imgs.next {rs js : List Nat} {K K4 : List (Nat × Nat)} {j r jn : Nat} (h : Imgs rs js K j) (hr : rs[j]? = some r) (hk : ∃ l, K4 = l ++ K) (hj : (r, jn) ∈ K4) : Imgs rs (js ++ [jn]) K4 (j + 1) := by
  obtain ⟨l, rfl⟩ := hk
  refine ⟨by rw [List.length_append, h.1]; rfl, fun t x ht hx => ?_⟩
  by_cases e : t = j
  · subst e
    rw [hr] at hx
    obtain rfl := Option.some.inj hx
    rw [List.getD_eq_getElem?_getD, List.getElem?_append_right (by rw [h.1]; exact Nat.le_refl _), h.1, Nat.sub_self]
    exact hj
  · rw [List.getD_eq_getElem?_getD, List.getElem?_append_left (by rw [h.1]; omega), ← List.getD_eq_getElem?_getD]
    exact List.mem_append_right _ (h.2 t x (by omega) hx)
theorem take_mem {rs : List Nat} {j r : Nat} (h : rs[j]? = some r) : r ∈ rs.take (j + 1) ∧ ∀ x ∈ rs.take j, x ∈ rs.take (j + 1) := by
  obtain ⟨hlt, he⟩ := List.getElem?_eq_some_iff.1 h
  rw [List.take_succ_eq_append_getElem hlt]
  exact ⟨by simp [he], fun x hx => List.mem_append_left _ hx⟩
theorem take_all {rs : List Nat} {j r : Nat} {P : Nat → Prop} (h : rs[j]? = some r) (hp : ∀ x ∈ rs.take j, P x) (hr : P r) : ∀ x ∈ rs.take (j + 1), P x := fun x hx => by
  obtain ⟨hlt, he⟩ := List.getElem?_eq_some_iff.1 h
  rw [List.take_succ_eq_append_getElem hlt, List.mem_append, List.mem_singleton] at hx
  rcases hx with hx | rfl
  · exact hp x hx
  · rw [he]; exact hr
/-- no node is above level 44 -/
def Lv44 (nodes : List Nd) : Prop := ∀ (i : Nat) (q : Q), Rep nodes q i → q.lv ≤ 44
set_option maxRecDepth 100000 in
set_option maxHeartbeats 4000000 in
theorem copy_walk (w0 : World) (F1 F2 : Nat → Prop) (p1 p2 : Nat) (src dst : List Nd) (em1 em2 : List Int) (m1 m2 : Int) (A : Option Addr) (c : Nat) (rs : List Nat) (w : World) (hA : Ar w F1 p1 src em1 m1) (hH : Hold w0 w F2 p2 dst em2 m2) (hB : Below w0.heap.size w0 w) (hF1 : ∀ k, F1 k → k < w.heap.size) (hdis : ∀ k, F1 k → ¬ F2 k) (hw : WF src) (hwd : WF dst) (h44 : Lv44 src) (hN : src.length < 536870900) (hm2 : m2 < 536870900) (hd : dst.length < 536870900) (hlim : (dst.length : Int) ≤ m2)
    (hr : Kd.R (Kd.int .u32) 38 w 0 (fun k => ¬ F2 k) (.slice A rs.length c) (uRow rs)) (h32 : ∀ r ∈ rs, r < 4294967296) (hrl : rs.length ≤ 1000000) :
    Calls Try.prog 48 #[.pointer (some ⟨p1, 0, none⟩), .pointer (some ⟨p2, 0, none⟩), .slice A rs.length c] w fun e w' => CopyPost w0 w F1 F2 p1 p2 src dst em1 em2 m1 m2 rs e w' := by
  have HA := Aside0.mk hA
  have HR := Aside0.mk hr
  have H32 := Aside0.mk h32
  have H44 := Aside0.mk h44
  have HWF := Aside0.mk hw
  have HW0 := Aside0.mk hB.size
  have hmm := @run_makeMap Try.prog
  have HST : Aside0 (CpSt w0 w (w.alloc (.map #[] 0)) F1 F2 F2 p1 p2 w.heap.size src dst dst em1 em2 m1 m2 (rs.take 0) []) := ⟨by
    have hb := below_alloc (Below.refl w.heap.size w) (.map #[] 0)
    refine ⟨⟨hA.below hb, hH.below hb, fun k hk => Nat.lt_of_lt_of_le (hF1 k hk) hb.size, hdis, fun hf => by have := hF1 _ hf; omega, fun hf => by have := hH.hi _ hf; omega, hB.size, chain hB hb hB.size, ⟨.map [], movedD_nil, World.ownsMap_made _ _ _ _⟩, hwd, ⟨List.nodup_nil, fun i j h => by simp at h, fun i h => by simp [keysL] at h⟩, hlim⟩, ⟨[], by simp⟩, hd, fun j h1 h2 => by omega, fun a h => by simp [keysL] at h, fun k hk _ => hb.block k hk, fun _ _ => Iff.rfl, hb.size, Nat.le_refl _⟩⟩
  clear hA hr h32 hF1 hH hB hdis hwd hw h44
  go_enter Try.func48, Try.ntmps48
  go_wp2_with (fail)
  generalize w.alloc (.map #[] 0) = w1 at *
  obtain ⟨M, hM⟩ : ∃ M, w.heap.size = M := ⟨_, rfl⟩
  simp only [hM] at HST ⊢
  clear hM hmm
  have HRO : Aside0 (Kd.R (Kd.int .u32) 38 w1 0 (OutB w F1 F2 M) (.slice none 0 0) (uRow [])) := ⟨Kd.R_nil _ _ _ _ _⟩
  go_loopg [9, 17] rs.length (fun kq c9 c17 w' => ∃ (j : Nat) (F3 : Nat → Prop) (dst3 : List Nd) (K3 : List (Nat × Nat)) (js : List Nat) (A3 : Option Addr) (c3 : Nat), j + kq = rs.length ∧ c17 = .int .i64 j ∧ c9 = .slice A3 js.length c3 ∧ Aside0 (CpSt w0 w w' F1 F2 F3 p1 p2 M src dst dst3 em1 em2 m1 m2 (rs.take j) K3) ∧ Aside0 (Kd.R (Kd.int .u32) 38 w' 0 (OutB w F1 F3 M) (.slice A3 js.length c3) (uRow js)) ∧ Aside0 (Imgs rs js K3 j) ∧ Aside0 (∀ r ∈ rs.take j, r < src.length))
  case atStart => exact ⟨0, F2, dst, [], [], none, 0, by omega, rfl, rfl, HST, HRO, ⟨rfl, fun t r h => by omega⟩, ⟨fun r h => by simp at h⟩⟩
  case round =>
    clear HST HRO HA
    obtain ⟨j, F3, dst3, K3, js, A3, c3, hj, rfl, rfl, HST, HRO, HIM, HV⟩ := hrel
    by_cases hlt : j < rs.length
    · obtain ⟨gm, rfl⟩ : ∃ m, gk = m + 1 := ⟨gk - 1, by omega⟩
      obtain ⟨r, hr⟩ : ∃ r, rs[j]? = some r := ⟨_, List.getElem?_eq_getElem hlt⟩
      have hread := (Kd.R_reads' (HST.out.row HR.out)).2.2
      obtain ⟨ad, rfl, hc⟩ := at_U hread j r hr
      have hm := List.mem_of_getElem? hr
      have h32 := H32.out r hm
      have hlev := level_walk F1 p1 src em1 m1 wr HST.out.mv.a1 r (by omega) (by omega)
      have HM2 := Aside0.mk hm
      have HGR := Aside0.mk hr
      clear hr hm hread
      by_cases hin : r < src.length
      · obtain ⟨q, hq, _⟩ := isn_of HST.out.mv.a1 HWF.out hin
        have hq44 := H44.out r q hq
        rw [hq.lv] at hlev
        have HLEV := Aside0.mk hlev
        have HREC := Aside0.mk (move_walk w0 F1 p1 p2 M src em1 em2 m1 m2 hN hm2 99 q r F3 dst3 K3 wr hq (by omega) hq44 HST.out.len HST.out.mv)
        have hq2 := q.lv_ge
        have hnl : ¬ q.lv < 0 := by omega
        clear hq hlev hq44
        generalize q.lv = lq at *
        go_wp2_with (first | (go_at_call 29; refine HLEV.out.mono ?_; rintro e w2 ⟨rfl, rfl⟩))
        refine HREC.out.mono ?_
        intro e w5 hp
        obtain ⟨F4, dst4, K4, hv4, hs4, he⟩ := of_post hp
        obtain ⟨hm1, hm2'⟩ := take_mem HGR.out
        have HST4 := Aside0.mk (HST.out.step hv4 hs4 hm1 hm2')
        have HRO4 := Aside0.mk (out_step HRO.out hs4)
        have HKX := Aside0.mk hs4.kext
        clear hp hv4 hs4 hm1 hm2' HREC
        rcases he with ⟨jn, rfl, hjn⟩ | ⟨rfl, hmost, hex⟩
        · have HIM4 := Aside0.mk (HIM.out.next HGR.out HKX.out hjn)
          have HV4 := Aside0.mk (take_all HGR.out HV.out hin)
          have HJL := Aside0.mk HIM.out.1
          have HFR := Aside0.mk (out_fresh HST4.out.mv HST4.out.size)
          clear hjn HST HRO HIM HV
          go_wp2_with (first | ((with_reducible refine gate_builtin (b := .append) (xs := #[.tmp 37, .tmp 39]) rfl ?_); at_builtin; refine Kd.R_append (Kd.int .u32) (w0 := w5) 0 rfl (.tmp 37) (.tmp 39) 74 38 (.int .u32 0) 4 rfl Try.underlying74 infoU rfl (by decide) (by decide) (.slice A3 js.length c3) (uRow js) (jn : Int) [.int .u32 (jn : Int)] (OutB w F1 F4 M) (fun _ => False) rfl rfl rfl (fun _ hk => hk.elim) HFR.out HRO4.out (Below.refl _ _) (Nat.zero_le _) (by have := HJL.out; rw [uRow_len]; omega) ?_; intro v1 w6 ho6 hb6 hg6 hat6; have HO6 := Aside0.mk ho6; have HG6 := Aside0.mk hg6; clear ho6 hb6 hg6 hat6; obtain ⟨a6, c6, rfl⟩ := Kd.R_slice HO6.out))
          have HST6 := Aside0.mk (HST4.out.grown HW0.out HG6.out (fun b hb => HRO4.out.1 b hb))
          have ho6 := HO6.out
          rw [uRow_snoc, uRow_len] at ho6
          have HO7 := Aside0.mk ho6
          have hln : (uRow js).length + 1 = (js ++ [jn]).length := by rw [uRow_len]; simp
          clear ho6 HO6 HG6 HST4 HRO4
          rw [hln]
          clear hln
          go_roundg gm
          case measure => omega
          case rel => exact ⟨j + 1, F4, dst4, K4, js ++ [jn], a6, c6, by omega, by go_num, rfl, HST6, HO7, HIM4, HV4⟩
        · have HEX := Aside0.mk hex
          clear hex
          go_wp2_with (fail)
          go_ret2
          exact ⟨M, F4, dst4, K4, HST4.out.wide (fun x hx => List.mem_of_mem_take hx), .inr (.inr ⟨rfl, hmost, r, HM2.out, HEX.out⟩)⟩
      · rw [lvAt_neg hin] at hlev
        have HLEV := Aside0.mk hlev
        have HNO := Aside0.mk hin
        clear hlev hin
        go_wp2_with (first | (go_at_call 29; refine HLEV.out.mono ?_; rintro e w2 ⟨rfl, rfl⟩))
        go_ret2
        exact ⟨M, F3, dst3, K3, HST.out.wide (fun x hx => List.mem_of_mem_take hx), .inr (.inl ⟨rfl, r, HM2.out, HNO.out⟩)⟩
    · obtain rfl : j = rs.length := by omega
      have hv := HV.out
      have hst := HST.out
      rw [List.take_length] at hv hst
      have HV3 := Aside0.mk hv
      have HST3 := Aside0.mk hst
      clear hv hst HST HV
      go_wp2_with (fail)
      go_ret2
      exact ⟨M, F3, dst3, K3, HST3.out, .inl ⟨A3, c3, js, rfl, HV3.out, HRO.out, HIM.out.1, fun t r ht => HIM.out.2 t r (List.getElem?_eq_some_iff.1 ht).1 ht⟩⟩
end Go.Proofs.Ytbkbkgfpnefilaa.ar
namespace Go.Proofs.Ytbkbkgfpnefilaa.ar
open Go.RowKit Go.Proofs.Ytbkbkgfpnefilaa.lb

/-- one that some reach -/
def Reached (nodes : List Nd) (rs : List Nat) (x : Nat) : Prop := ∃ r ∈ rs, Under nodes r x
structure ReachL (nodes : List Nd) (rs S : List Nat) : Prop where
  nodup : S.Nodup
  mem : ∀ x, x ∈ S ↔ Reached nodes rs x
theorem same_len {S T : List Nat} (h1 : S.Nodup) (h2 : T.Nodup) (h : ∀ x, x ∈ S ↔ x ∈ T) : S.length = T.length :=
  ((List.perm_ext_iff_of_nodup h1 h2).2 h).length_eq
theorem ReachL.len {nodes : List Nd} {rs S S' : List Nat} (h : ReachL nodes rs S) (h' : ReachL nodes rs S') : S.length = S'.length :=
  same_len h.nodup h'.nodup (fun x => (h.mem x).trans (h'.mem x).symm)
theorem under_in {nodes : List Nd} {S : List Nat} (hc : ∀ x ∈ S, ∀ k ∈ kidsL nodes x, k ∈ S) {r x : Nat} (h : Under nodes r x) : r ∈ S → x ∈ S := by
  induction h with
  | refl i => exact id
  | step hk _ ih => exact fun hs => ih (hc _ hs _ hk)
theorem Under.snoc {nodes : List Nd} {r x k : Nat} (h : Under nodes r x) (hk : k ∈ kidsL nodes x) : Under nodes r k := by
  induction h with
  | refl i => exact .step hk (.refl _)
  | step hj _ ih => exact .step hj (ih hk)
theorem reachL_of {nodes : List Nd} {rs S : List Nat} (hn : S.Nodup) (hr : ∀ r ∈ rs, r ∈ S) (hc : ∀ x ∈ S, ∀ k ∈ kidsL nodes x, k ∈ S) (hu : ∀ x ∈ S, Reached nodes rs x) : ReachL nodes rs S :=
  ⟨hn, fun x => ⟨hu x, fun ⟨r, hm, hx⟩ => under_in hc hx (hr r hm)⟩⟩
structure MarkOk (nodes : List Nd) (S : List Nat) (U : Nat → Prop) (S' : List Nat) : Prop where
  sub : ∀ x ∈ S, x ∈ S'
  nodup : S.Nodup → S'.Nodup
  under : ∀ x ∈ S', x ∈ S ∨ U x
  kids : ∀ x ∈ S', x ∉ S → ∀ k ∈ kidsL nodes x, k ∈ S'
theorem MarkOk.refl (nodes : List Nd) (S : List Nat) (U : Nat → Prop) : MarkOk nodes S U S := ⟨fun _ h => h, id, fun _ h => .inl h, fun _ h h2 => absurd h h2⟩
theorem MarkOk.trans {nodes : List Nd} {S S' S'' : List Nat} {U U' V : Nat → Prop} (h : MarkOk nodes S U S') (h2 : MarkOk nodes S' U' S'') (hu : ∀ x, U x → V x) (hu' : ∀ x, U' x → V x) : MarkOk nodes S V S'' := by
  refine ⟨fun x hx => h2.sub x (h.sub x hx), fun hn => h2.nodup (h.nodup hn), fun x hx => ?_, fun x hx hn k hk => ?_⟩
  · rcases h2.under x hx with h3 | h3
    · exact (h.under x h3).imp id (hu x)
    · exact .inr (hu' x h3)
  · by_cases hm : x ∈ S'
    · exact h2.sub k (h.kids x hm hn k hk)
    · exact h2.kids x hx hm k hk
theorem fold_ok {nodes : List Nd} {n : Nat} (ih : ∀ (q : Q) (i : Nat) (S : List Nat), Rep nodes q i → q.lv ≤ (n : Int) + 1 → MarkOk nodes S (Under nodes i) (markR nodes n S i) ∧ i ∈ markR nodes n S i) :
    ∀ (L S : List Nat), (∀ k ∈ L, ∃ q, Rep nodes q k ∧ q.lv ≤ (n : Int) + 1) → MarkOk nodes S (Reached nodes L) (L.foldl (markR nodes n) S) ∧ ∀ k ∈ L, k ∈ L.foldl (markR nodes n) S
  | [], S, _ => ⟨.refl _ _ _, fun k h => by simp at h⟩
  | k :: L, S, h => by
    obtain ⟨q, hq, hl⟩ := h k (by simp)
    obtain ⟨h1, h2⟩ := ih q k S hq hl
    obtain ⟨h3, h4⟩ := fold_ok ih L (markR nodes n S k) (fun x hx => h x (List.mem_cons_of_mem _ hx))
    refine ⟨h1.trans h3 (fun x hx => ⟨k, by simp, hx⟩) (fun x ⟨r, hr, hx⟩ => ⟨r, List.mem_cons_of_mem _ hr, hx⟩), fun x hx => ?_⟩
    rcases List.mem_cons.1 hx with rfl | hx
    · exact h3.sub x h2
    · exact h4 x hx
theorem kid_rep {nodes : List Nd} {q : Q} {i k : Nat} (h : Rep nodes q i) (hk : k ∈ kidsL nodes i) : ∃ q', Rep nodes q' k ∧ q'.lv + 1 = q.lv := by
  cases q with
  | leaf f => rw [kids_leaf h] at hk; simp at hk
  | node a b c d =>
    obtain ⟨k0, k1, k2, k3, hx, hkl, r0, r1, r2, r3, hb, hc, hd⟩ := kids_node h
    have hlv : (Q.node a b c d).lv = a.lv + 1 := rfl
    rw [hkl] at hk
    simp only [List.mem_cons, List.not_mem_nil, or_false] at hk
    rcases hk with rfl | rfl | rfl | rfl
    · exact ⟨a, r0, by omega⟩
    · exact ⟨b, r1, by omega⟩
    · exact ⟨c, r2, by omega⟩
    · exact ⟨d, r3, by omega⟩
theorem mark_ok (nodes : List Nd) : ∀ (n : Nat) (q : Q) (i : Nat) (S : List Nat), Rep nodes q i → q.lv ≤ (n : Int) + 1 → MarkOk nodes S (Under nodes i) (markR nodes n S i) ∧ i ∈ markR nodes n S i
  | 0, q, i, S, h, hl => by have := q.lv_ge; omega
  | n + 1, q, i, S, h, hl => by
    by_cases hin : i ∈ S
    · rw [show markR nodes (n + 1) S i = S from if_pos hin]
      exact ⟨.refl _ _ _, hin⟩
    · rw [show markR nodes (n + 1) S i = (kidsL nodes i).foldl (markR nodes n) (i :: S) from if_neg hin]
      obtain ⟨h1, h2⟩ := fold_ok (mark_ok nodes n) (kidsL nodes i) (i :: S) (fun k hk => by
        obtain ⟨q', hq, hlv⟩ := kid_rep h hk
        exact ⟨q', hq, by omega⟩)
      refine ⟨⟨fun x hx => h1.sub x (List.mem_cons_of_mem _ hx), fun hn => h1.nodup (List.nodup_cons.2 ⟨hin, hn⟩), fun x hx => ?_, fun x hx hn k hk => ?_⟩, h1.sub i (by simp)⟩
      · rcases h1.under x hx with h3 | ⟨k, hk, h3⟩
        · rcases List.mem_cons.1 h3 with rfl | h3
          · exact .inr (.refl _)
          · exact .inl h3
        · exact .inr (.step hk h3)
      · by_cases e : x = i
        · subst e; exact h2 k hk
        · exact h1.kids x hx (fun hm => (List.mem_cons.1 hm).elim e hn) k hk
/-- those that are marked -/
theorem marked_all {nodes : List Nd} {rs : List Nat} (h : ∀ r ∈ rs, ∃ q, Rep nodes q r ∧ q.lv ≤ 100) : ReachL nodes rs (rs.foldl (markR nodes 99) []) := by
  obtain ⟨h1, h2⟩ := fold_ok (mark_ok nodes 99) rs [] (fun k hk => by obtain ⟨q, hq, hl⟩ := h k hk; exact ⟨q, hq, by omega⟩)
  exact reachL_of (h1.nodup List.nodup_nil) h2 (fun x hx k hk => h1.kids x hx (by simp) k hk) (fun x hx => (h1.under x hx).elim (fun h => by simp at h) id)
/-- a queue: those that were seen, those to do -/
structure QInv (nodes : List Nd) (rs S T : List Nat) : Prop where
  nodup : S.Nodup
  roots : ∀ r ∈ rs, r ∈ S ∨ r ∈ T
  kids : ∀ x ∈ S, ∀ k ∈ kidsL nodes x, k ∈ S ∨ k ∈ T
  seen : ∀ x ∈ S, Reached nodes rs x
  todo : ∀ x ∈ T, Reached nodes rs x
theorem qinv_start (nodes : List Nd) (rs : List Nat) : QInv nodes rs [] rs := ⟨List.nodup_nil, fun r h => .inr h, fun x h => by simp at h, fun x h => by simp at h, fun x h => ⟨x, h, .refl _⟩⟩
theorem QInv.skip {nodes : List Nd} {rs S T : List Nat} {i : Nat} (h : QInv nodes rs S (i :: T)) (hi : i ∈ S) : QInv nodes rs S T := by
  have hm : ∀ x, x ∈ S ∨ x ∈ i :: T → x ∈ S ∨ x ∈ T := fun x hx => hx.elim .inl (fun hx => (List.mem_cons.1 hx).elim (fun e => .inl (e ▸ hi)) .inr)
  exact ⟨h.nodup, fun r hr => hm r (h.roots r hr), fun x hx k hk => hm k (h.kids x hx k hk), h.seen, fun x hx => h.todo x (List.mem_cons_of_mem _ hx)⟩
theorem QInv.see {nodes : List Nd} {rs S T : List Nat} {i : Nat} (h : QInv nodes rs S (i :: T)) (hi : i ∉ S) : QInv nodes rs (i :: S) (T ++ kidsL nodes i) := by
  have hm : ∀ x, x ∈ S ∨ x ∈ i :: T → x ∈ i :: S ∨ x ∈ T ++ kidsL nodes i := fun x hx => hx.elim (fun h => .inl (List.mem_cons_of_mem _ h)) (fun hx => (List.mem_cons.1 hx).elim (fun e => .inl (by rw [e]; simp)) (fun h => .inr (List.mem_append_left _ h)))
  have hr := h.todo i (by simp)
  refine ⟨List.nodup_cons.2 ⟨hi, h.nodup⟩, fun r hr => hm r (h.roots r hr), fun x hx k hk => ?_, fun x hx => ?_, fun x hx => ?_⟩
  · rcases List.mem_cons.1 hx with rfl | hx
    · exact .inr (List.mem_append_right _ hk)
    · exact hm k (h.kids x hx k hk)
  · rcases List.mem_cons.1 hx with rfl | hx
    · exact hr
    · exact h.seen x hx
  · rcases List.mem_append.1 hx with hx | hx
    · exact h.todo x (List.mem_cons_of_mem _ hx)
    · obtain ⟨r, h1, h2⟩ := hr
      exact ⟨r, h1, h2.snoc hx⟩
theorem QInv.all {nodes : List Nd} {rs S : List Nat} (h : QInv nodes rs S []) : ReachL nodes rs S :=
  reachL_of h.nodup (fun r hr => (h.roots r hr).elim id (fun h => by simp at h)) (fun x hx k hk => (h.kids x hx k hk).elim id (fun h => by simp at h)) h.seen
/-- a copy's keys are those that the roots reach -/
theorem copied_all {src dst : List Nd} {K : List (Nat × Nat)} {rs : List Nat} (h : MvInv src dst K) (hr : ∀ r ∈ rs, r ∈ keysL K) (hu : ∀ a ∈ keysL K, ∃ r ∈ rs, Under src r a) : ReachL src rs (keysL K) :=
  reachL_of h.nodup hr h.closed hu
theorem image_one {src dst : List Nd} {K : List (Nat × Nat)} (h : MvInv src dst K) (ho : Once src) {a b j : Nat} (ha : (a, j) ∈ K) (hb : (b, j) ∈ K) : a = b := by
  obtain ⟨q, h1, h2⟩ := h.rep a j ha
  obtain ⟨q', h3, h4⟩ := h.rep b j hb
  rw [h4.one h2] at h3
  exact h1.same ho h3
theorem key_one {src dst : List Nd} {K : List (Nat × Nat)} (h : MvInv src dst K) (ho : Once dst) {a i j : Nat} (hi : (a, i) ∈ K) (hj : (a, j) ∈ K) : i = j := by
  obtain ⟨q, h1, h2⟩ := h.rep a i hi
  obtain ⟨q', h3, h4⟩ := h.rep a j hj
  rw [h3.one h1] at h4
  exact h2.same ho h4
theorem images_nodup : ∀ (K : List (Nat × Nat)), (keysL K).Nodup → (∀ a b j, (a, j) ∈ K → (b, j) ∈ K → a = b) → (K.map Prod.snd).Nodup
  | [], _, _ => List.nodup_nil
  | (i, j) :: K, hn, h => by
    have hn2 := List.nodup_cons.1 (show (i :: keysL K).Nodup from hn)
    show (j :: K.map Prod.snd).Nodup
    refine List.nodup_cons.2 ⟨fun hm => ?_, images_nodup K hn2.2 (fun a b j ha hb => h a b j (List.mem_cons_of_mem _ ha) (List.mem_cons_of_mem _ hb))⟩
    obtain ⟨⟨a, j'⟩, hx, e⟩ := List.mem_map.1 hm
    dsimp only at e
    subst e
    obtain rfl := h i a j' (by simp) (List.mem_cons_of_mem _ hx)
    exact hn2.1 (mem_keys hx)
theorem rep_zero {nodes : List Nd} {x : Nd} (h : nodes[0]? = some x) (hx : x = ⟨leafKey 0, 0⟩) : Rep nodes (.leaf 0) 0 := by
  subst hx
  exact ⟨h, by decide⟩
/-- how many a copy's nodes are -/
theorem copy_count {src dst : List Nd} {K : List (Nat × Nat)} (h : MvInv src dst K) (hos : Once src) (hod : Once dst) (h0 : Rep src (.leaf 0) 0) (h1 : Rep dst (.leaf 0) 0) (hc : ∀ j, 1 ≤ j → j < dst.length → ∃ a, (a, j) ∈ K) :
    dst.length = K.length + (if 0 ∈ keysL K then 0 else 1) := by
  have hnd := images_nodup K h.nodup (fun a b j ha hb => image_one h hos ha hb)
  have hz : ∀ a, (a, 0) ∈ K ↔ (a = 0 ∧ 0 ∈ keysL K) := fun a => by
    constructor
    · intro ha
      obtain ⟨q, g1, g2⟩ := h.rep a 0 ha
      rw [g2.one h1] at g1
      obtain rfl := g1.same hos h0
      exact ⟨rfl, mem_keys ha⟩
    · rintro ⟨rfl, hk⟩
      obtain ⟨j, hj⟩ := of_keys hk
      obtain ⟨q, g1, g2⟩ := h.rep 0 j hj
      rw [g1.one h0] at g2
      obtain rfl := g2.same hod h1
      exact hj
  have hlt : ∀ a j, (a, j) ∈ K → j < dst.length := fun a j hj => by
    obtain ⟨q, _, g2⟩ := h.rep a j hj
    exact g2.lt
  have hd := h1.lt
  split
  · rename_i hk
    have := same_len hnd (List.nodup_range (n := dst.length)) (fun j => by
      rw [List.mem_range, List.mem_map]
      constructor
      · rintro ⟨⟨a, j'⟩, hx, rfl⟩
        exact hlt a j' hx
      · intro hj
        by_cases e : j = 0
        · subst e; exact ⟨(0, 0), (hz 0).2 ⟨rfl, hk⟩, rfl⟩
        · obtain ⟨a, ha⟩ := hc j (by omega) hj
          exact ⟨(a, j), ha, rfl⟩)
    simp at this
    omega
  · rename_i hk
    have hn0 : (0 :: K.map Prod.snd).Nodup := List.nodup_cons.2 ⟨fun hm => by
      obtain ⟨⟨a, j'⟩, hx, e⟩ := List.mem_map.1 hm
      dsimp only at e
      subst e
      exact hk ((hz a).1 hx).2, hnd⟩
    have := same_len hn0 (List.nodup_range (n := dst.length)) (fun j => by
      rw [List.mem_range, List.mem_cons, List.mem_map]
      constructor
      · rintro (rfl | ⟨⟨a, j'⟩, hx, rfl⟩)
        · exact hd
        · exact hlt a j' hx
      · intro hj
        by_cases e : j = 0
        · exact .inl e
        · obtain ⟨a, ha⟩ := hc j (by omega) hj
          exact .inr ⟨(a, j), ha, rfl⟩)
    simp at this
    omega
end Go.Proofs.Ytbkbkgfpnefilaa.ar
namespace Go.Proofs.Ytbkbkgfpnefilaa.ar
open Go.RowKit Go.Proofs.YtbkbkgfpnefilaaW.PrintWords Go.Proofs.YtbkbkgfpnefilaaW.PrintLast Go.Proofs.YtbkbkgfpnefilaaW.PrintMore Go.Proofs.Ytbkbkgfpnefilaa.bs Go.ChangeShapes Go.Proofs.Ytbkbkgfpnefilaa.lb Go.Maps

theorem rep0 : Rep [nd0] (.leaf 0) 0 := ⟨rfl, by decide⟩
theorem wf0 : WF [nd0] := fun i hi => by
  obtain rfl : i = 0 := by simp at hi; omega
  exact ⟨_, rep0⟩
/-- what Collect leaves that found all roots, and room -/
structure Collected (w w' : World) (F2 : Nat → Prop) (p2 : Nat) (src dst : List Nd) (m1 : Int) (rs js : List Nat) (K : List (Nat × Nat)) : Prop where
  hold : Hold w w' F2 p2 dst [0, 0, 0] (max m1 64)
  wf : WF dst
  inv : MvInv src dst K
  zero : ∃ l, dst = nd0 :: l
  len : dst.length < 536870900
  cover : ∀ j, 1 ≤ j → j < dst.length → ∃ a, (a, j) ∈ K
  keys : ∀ a ∈ keysL K, ∃ r ∈ rs, Under src r a
  lim : (dst.length : Int) ≤ max m1 64
def CollectPost (w : World) (src : List Nd) (m1 : Int) (rs : List Nat) (e : Ending) (w' : World) : Prop :=
  Below w.heap.size w w' ∧
    ((∃ p2 F2 dst js K A c, e = .returned (.tuple #[.pointer (some ⟨p2, 0, none⟩), .slice A js.length c, .nilIface]) ∧ Collected w w' F2 p2 src dst m1 rs js K ∧ (∀ r ∈ rs, r < src.length) ∧ Kd.R (Kd.int .u32) 38 w' 0 (fun k => w.heap.size ≤ k ∧ ¬ F2 k) (.slice A js.length c) (uRow js) ∧ js.length = rs.length ∧ ∀ (t r : Nat), rs[t]? = some r → (r, js.getD t 0) ∈ K) ∨
     (e = .returned (.tuple #[.pointer none, .slice none 0 0, .iface 59 (.int .i64 4)]) ∧ ∃ r ∈ rs, ¬ r < src.length) ∨
     (e = .returned (.tuple #[.pointer none, .slice none 0 0, .iface 59 (.int .i64 8)]) ∧ ∃ F2 p2 dst K, Collected w w' F2 p2 src dst m1 rs [] K ∧ max m1 64 ≤ dst.length ∧ ∃ r ∈ rs, ∃ a, Under src r a ∧ a ∉ keysL K))
theorem collected {w w2 w' : World} {F1 F2 F3 : Nat → Prop} {p1 p2 M : Nat} {src dst : List Nd} {em1 : List Int} {m1 : Int} {rs js : List Nat} {K : List (Nat × Nat)} (h : CpSt w w2 w' F1 F2 F3 p1 p2 M src [nd0] dst em1 [0, 0, 0] m1 (max m1 64) rs K) : Collected w w' F3 p2 src dst m1 rs js K :=
  ⟨h.mv.a2, h.mv.wf, h.mv.inv, h.dext, h.len, fun j h1 h2 => h.cover j h1 h2, h.keys, h.mv.lim⟩
set_option maxRecDepth 100000 in
set_option maxHeartbeats 2000000 in
theorem collect_walk (F1 : Nat → Prop) (p1 : Nat) (src : List Nd) (em1 : List Int) (m1 : Int) (A : Option Addr) (c : Nat) (rs : List Nat) (w : World) (hA : Ar w F1 p1 src em1 m1) (hF1 : ∀ k, F1 k → k < w.heap.size) (hw : WF src) (h44 : Lv44 src) (hN : src.length < 536870900) (hm1 : m1 < 536870900)
    (hr : Kd.R (Kd.int .u32) 38 w 0 (fun _ => True) (.slice A rs.length c) (uRow rs)) (h32 : ∀ r ∈ rs, r < 4294967296) (hrl : rs.length ≤ 1000000) :
    Calls Try.prog 45 #[.pointer (some ⟨p1, 0, none⟩), .slice A rs.length c] w fun e w' => CollectPost w src m1 rs e w' := by
  have HCP := Aside0.mk (fun (F2 : Nat → Prop) (p2 : Nat) (w2 : World) (hH : Hold w w2 F2 p2 [nd0] [0, 0, 0] (max m1 64)) (hB : Below w.heap.size w w2) => copy_walk w F1 F2 p1 p2 src [nd0] em1 [0, 0, 0] m1 (max m1 64) A c rs w2 (hA.below hB) hH hB (fun k hk => Nat.lt_of_lt_of_le (hF1 k hk) hB.size) (fun k hk hf => by have := hF1 k hk; have := hH.lo k hf; omega) hw wf0 h44 hN (by omega) (by simp) (by simp; omega)
    (Kd.R_mono (Kd.R_below (Kd.R_bound hr) hB) (fun k hk hf => by have := hH.lo k hf; have := hk.2.2.1; omega)) h32 hrl)
  have hmost := amost_walk F1 p1 src em1 m1 w hA
  have HMO := Aside0.mk hmost
  have HNEW := Aside0.mk (hold_new m1 (by omega) w)
  clear hA hF1 hw h44 hr h32 hmost
  go_enter Try.func45, Try.ntmps45
  go_wp2_with (first | (go_at_call 46; refine HMO.out.mono ?_; rintro e w1 ⟨rfl, rfl⟩))
  refine HNEW.out.mono ?_
  rintro e w2 ⟨p2, F2, rfl, hH, hB⟩
  have HC2 := Aside0.mk (HCP.out F2 p2 w2 hH hB)
  have HB2 := Aside0.mk hB
  clear hH hB HNEW HMO HCP
  go_wp2_with (fail)
  refine HC2.out.mono ?_
  rintro e w3 ⟨M, F3, dst, K, hst, he⟩
  have HST := Aside0.mk hst
  clear hst HC2
  rcases he with ⟨A3, c3, js, rfl, hv, hro, hjl, him⟩ | ⟨rfl, hno⟩ | ⟨rfl, hm8, hno⟩
  · have HRO := Aside0.mk hro
    have HV := Aside0.mk hv
    have HIM := Aside0.mk (And.intro hjl him)
    clear hro hv him hjl
    go_wp2_with (fail)
    go_ret3
    exact ⟨HST.out.mv.below, .inl ⟨p2, F3, dst, js, K, A3, c3, rfl, collected HST.out, HV.out, Kd.R_mono HRO.out (fun k hk => ⟨Nat.le_trans HB2.out.size hk.1, hk.2.2.1⟩), HIM.out.1, HIM.out.2⟩⟩
  · have HNO := Aside0.mk hno
    clear hno
    go_wp2_with (fail)
    go_ret3
    exact ⟨HST.out.mv.below, .inr (.inl ⟨rfl, HNO.out⟩)⟩
  · have HNO := Aside0.mk hno
    have HM8 := Aside0.mk hm8
    clear hno hm8
    go_wp2_with (fail)
    go_ret3
    exact ⟨HST.out.mv.below, .inr (.inr ⟨rfl, F3, p2, dst, K, collected HST.out, HM8.out, HNO.out⟩)⟩
end Go.Proofs.Ytbkbkgfpnefilaa.ar
namespace Go.Proofs.Ytbkbkgfpnefilaa.ar
open Go.RowKit Go.Proofs.YtbkbkgfpnefilaaW.PrintWords Go.Proofs.YtbkbkgfpnefilaaW.PrintLast Go.Proofs.YtbkbkgfpnefilaaW.PrintMore Go.Proofs.Ytbkbkgfpnefilaa.bs Go.ChangeShapes Go.Proofs.Ytbkbkgfpnefilaa.lb Go.Maps

def nd5 : Nd := ⟨leafKey 5, 2⟩
theorem add5 : addN [nd0] 100 (leafKey (5 : Nat)) (popN 32 5 : Nat) = ([nd0, nd5], 1, 0) := by kernel_rfl
theorem rep5 : Rep [nd0, nd5] (.leaf 5) 1 := ⟨by kernel_rfl, by decide⟩
theorem rep50 : Rep [nd0, nd5] (.leaf 0) 0 := ⟨by kernel_rfl, by decide⟩
theorem wf5 : WF [nd0, nd5] := fun i hi => by
  have : i = 0 ∨ i = 1 := by simp at hi; omega
  rcases this with rfl | rfl
  · exact ⟨.leaf 0, rep50⟩
  · exact ⟨_, rep5⟩
theorem lv5 : Lv44 [nd0, nd5] := fun i q hq => by
  have hi := hq.lt
  have : i = 0 ∨ i = 1 := by simp at hi; omega
  rcases this with rfl | rfl
  · rw [hq.one rep50]; decide
  · rw [hq.one rep5]; decide
theorem mark5 : ([1, 0, 1].foldl (markR [nd0, nd5] 99) []).length = 2 := by decide
/-- a copy of nothing has the empty leaf alone -/
theorem collect_none {w w' : World} {src : List Nd} {m1 : Int} {e : Ending} (h : CollectPost w src m1 [] e w') : Below w.heap.size w w' ∧ ∃ p2 F2 A c, e = .returned (.tuple #[.pointer (some ⟨p2, 0, none⟩), .slice A 0 c, .nilIface]) ∧ Hold w w' F2 p2 [nd0] [0, 0, 0] (max m1 64) := by
  obtain ⟨hb, h⟩ := h
  refine ⟨hb, ?_⟩
  rcases h with ⟨p2, F2, dst, js, K, A, c, rfl, hc, _, _, hl, _⟩ | ⟨_, r, hr, _⟩ | ⟨_, _, _, _, _, _, _, r, hr, _⟩
  · have hK : K = [] := by
      cases K with
      | nil => rfl
      | cons x K => obtain ⟨r, hr, _⟩ := hc.keys x.1 (by simp [keysL]); simp at hr
    subst hK
    obtain ⟨l, rfl⟩ := hc.zero
    have hl0 : l = [] := by
      cases l with
      | nil => rfl
      | cons y l => obtain ⟨a, ha⟩ := hc.cover 1 (by omega) (by simp); simp at ha
    subst hl0
    have hj : js.length = 0 := hl
    rw [hj]
    exact ⟨p2, F2, A, c, rfl, hc.hold⟩
  · simp at hr
  · simp at hr
set_option maxRecDepth 100000 in
set_option maxHeartbeats 1000000 in
theorem sawake_walk (w : World) : Calls Try.prog 41 #[] w fun e w' => e = .returned (.bool true) ∧ Below w.heap.size w w' := by
  go_enter Try.func41, Try.ntmps41
  go_wp2_with (fail)
  refine (hold_new 100 (by omega) w).mono ?_
  rintro e w1 ⟨p, F, rfl, hH, hB⟩
  rw [show max (100 : Int) 64 = 100 by rfl] at hH
  have H1 := Aside0.mk hH
  have B1 := Aside0.mk hB
  clear hH hB
  go_wp2_with (fail)
  refine (hold_leaf H1.out B1.out.size 5 (by omega) (by simp)).mono ?_
  rw [add5]
  rintro e w2 ⟨rfl, F2, ho⟩
  dsimp only at ho ⊢
  rw [show errOf 0 = .nilIface from rfl]
  have H2 := Aside0.mk ho.hold
  have B2 := Aside0.mk (H1.out.belowK B1.out ho.keeps)
  clear ho H1 B1
  go_wp2_with (fail)
  have hrow := lit_slice w2 (fun k => w2.heap.size ≤ k) [1, 0, 1] (by decide) (Nat.le_refl _)
  have hb3 := below_alloc (Below.refl w2.heap.size w2) (.cells #[.int .u32 1, .int .u32 0, .int .u32 1] 38)
  have H3 := Aside0.mk (H2.out.below hb3)
  have B3 := Aside0.mk (chain B2.out hb3 B2.out.size)
  refine (reach_walk F2 p [nd0, nd5] [0, 0, 0] 100 _ _ [1, 0, 1] _ H3.out.ar wf5 H3.out.hi (by simp) (Kd.R_reads' hrow).2.2 (by decide)).mono ?_
  rintro e w4 ⟨hb, hgood, _⟩
  obtain rfl := hgood (by decide)
  rw [mark5]
  have H4 := Aside0.mk (H3.out.below hb)
  have B4 := Aside0.mk (chain B3.out hb B3.out.size)
  clear hrow hb3 hb hgood H3 B3 H2 B2
  go_wp2_with (fail)
  refine (collect_walk F2 p [nd0, nd5] [0, 0, 0] 100 none 0 [] w4 H4.out.ar H4.out.hi wf5 lv5 (by simp) (by omega) (Kd.R_nil _ _ _ _ _) (fun r h => by simp at h) (by simp)).mono ?_
  intro e w5 hp
  obtain ⟨hb, p2, F5, A5, c5, rfl, h5⟩ := collect_none hp
  have HL := Aside0.mk (alen_walk F5 p2 [nd0] [0, 0, 0] _ w5 h5.ar)
  have B5 := Aside0.mk (chain B4.out hb B4.out.size)
  clear hp hb h5 H4 B4
  go_wp2_with (go_at_call 26; refine HL.out.mono ?_; rintro e w6 ⟨rfl, rfl⟩)
  go_ret
  exact ⟨rfl, B5.out⟩
end Go.Proofs.Ytbkbkgfpnefilaa.ar
namespace Go.Proofs.Ytbkbkgfpnefilaa.tr
open Go.RowKit Go.Proofs.Ytbkbkgfpnefilaa.PTreeBuilds Go.Proofs.YtbkbkgfpnefilaaW.PrintWords Go.Proofs.YtbkbkgfpnefilaaW.PrintLast Go.Proofs.YtbkbkgfpnefilaaW.PrintMore Go.Proofs.Ytbkbkgfpnefilaa.bs Go.ChangeShapes Go.Proofs.Ytbkbkgfpnefilaa.lb Go.Proofs.Ytbkbkgfpnefilaa.ar Go.Maps

theorem sub_len : ∀ (S T : List Nat), S.Nodup → (∀ x ∈ S, x ∈ T) → S.length ≤ T.length
  | [], _, _, _ => Nat.zero_le _
  | x :: S, T, hn, h => by
    have hx := h x List.mem_cons_self
    have hn2 := List.nodup_cons.1 hn
    have h1 := sub_len S (T.erase x) hn2.2 (fun y hy => (List.mem_erase_of_ne (fun (e : y = x) => hn2.1 (by rw [← e]; exact hy))).2 (h y (List.mem_cons_of_mem _ hy)))
    rw [List.length_erase_of_mem hx] at h1
    have := List.length_pos_of_mem hx
    simp only [List.length_cons]
    omega
/-- a copy has no more new nodes than it has found ones -/
theorem copy_len {dst : List Nd} {K : List (Nat × Nat)} (n0 : Nat) (hc : ∀ j, n0 ≤ j → j < dst.length → ∃ a, (a, j) ∈ K) : dst.length ≤ n0 + K.length := by
  by_cases hlt : dst.length ≤ n0
  · omega
  · have := sub_len (List.range' n0 (dst.length - n0)) (K.map Prod.snd) List.nodup_range' (fun j hj => by
      rw [List.mem_range'_1] at hj
      obtain ⟨a, ha⟩ := hc j hj.1 (by omega)
      exact List.mem_map.2 ⟨(a, j), ha, rfl⟩)
    rw [List.length_range', List.length_map] at this
    omega
theorem kids_both {src dst : List Nd} {q : Q} {r i k : Nat} (hr : Rep src q r) (hi : Rep dst q i) (hk : k ∈ kidsL src r) : ∃ q' k', Rep src q' k ∧ Rep dst q' k' ∧ k' ∈ kidsL dst i := by
  cases q with
  | leaf f => rw [kids_leaf hr] at hk; simp at hk
  | node a b c d =>
    obtain ⟨k0, k1, k2, k3, _, hkl, r0, r1, r2, r3, _⟩ := kids_node hr
    obtain ⟨j0, j1, j2, j3, _, hjl, s0, s1, s2, s3, _⟩ := kids_node hi
    rw [hkl] at hk
    rw [hjl]
    simp only [List.mem_cons, List.not_mem_nil, or_false] at hk
    rcases hk with rfl | rfl | rfl | rfl
    · exact ⟨a, j0, r0, s0, by simp⟩
    · exact ⟨b, j1, r1, s1, by simp⟩
    · exact ⟨c, j2, r2, s2, by simp⟩
    · exact ⟨d, j3, r3, s3, by simp⟩
/-- what lies below a node has its image below the node's -/
theorem under_image {src dst : List Nd} (ho : Once dst) {r a : Nat} (hu : Under src r a) : ∀ {q q' : Q} {i j : Nat}, Rep src q r → Rep dst q i → Rep src q' a → Rep dst q' j → Under dst i j := by
  induction hu with
  | refl r =>
    intro q q' i j h1 h2 h3 h4
    rw [h3.one h1] at h4
    rw [h4.same ho h2]
    exact .refl _
  | step hk _ ih =>
    intro q q' i j h1 h2 h3 h4
    obtain ⟨qk, k', g1, g2, g3⟩ := kids_both h1 h2 hk
    exact .step g3 (ih g1 g2 h3 h4)
section
variable {w0 w1 w w' : World} {F F1 F2 : Nat → Prop} {p p1 p2 N N1 N2 : Nat} {nodes src dst : List Nd} {empty em1 em2 : List Int} {most : Int}
theorem lv44_of (hA : Ar w F p nodes empty most) : Lv44 nodes := fun i q hq => by
  obtain ⟨x, hx, hl, _⟩ := hq.get
  obtain ⟨_, hok, _⟩ := hA
  rw [← hl]
  exact (hok i x hx).key.l1
/-- an arena with some nodes alone, and all below them -/
structure Coll (w w' : World) (F : Nat → Prop) (p : Nat) (src dst : List Nd) (rs js : List Nat) (N : Nat) : Prop where
  room : Roomy w w' F p dst [0, 0, 0] N
  len : js.length = rs.length
  rep : ∀ (t r : Nat) (q : Q), rs[t]? = some r → Rep src q r → Rep dst q (js.getD t 0)
  zero : Rep dst (.leaf 0) 0
  small : Rep src (.leaf 0) 0 → dst.length ≤ src.length
  all : ∀ j, 1 ≤ j → j < dst.length → ∃ t, t < rs.length ∧ Under dst (js.getD t 0) j
  below : Below w.heap.size w w'
theorem zero_rep {dst : List Nd} (h : ∃ l, dst = nd0 :: l) : Rep dst (.leaf 0) 0 := by
  obtain ⟨l, rfl⟩ := h
  exact ⟨rfl, by decide⟩
theorem img_rep {src dst : List Nd} {K : List (Nat × Nat)} (h : MvInv src dst K) {r j : Nat} {q : Q} (hk : (r, j) ∈ K) (hq : Rep src q r) : Rep dst q j := by
  obtain ⟨q', g1, g2⟩ := h.rep r j hk
  rw [hq.one g1]; exact g2
theorem coll_of {rs js : List Nat} {K : List (Nat × Nat)} (hos : Once src) (h : Collected w w' F p src dst 1048576 rs js K) (hl : js.length = rs.length) (him : ∀ (t r : Nat), rs[t]? = some r → (r, js.getD t 0) ∈ K) (hN : src.length ≤ N) (hb : Below w.heap.size w w') : Coll w w' F p src dst rs js (N + 1) := by
  obtain ⟨hh, hwf, hinv, hz, hlen, hcov, hkeys, hlim⟩ := h
  rw [show max (1048576 : Int) 64 = 1048576 from rfl] at hh hlim
  have hod := hh.ar.once
  have hc1 := copy_len 1 hcov
  have hkl := keys_le hinv
  refine ⟨⟨⟨hh, hwf, ?_, (emOk0 [nd0]).bd, hlim, hb.size⟩, by omega⟩, hl, fun t r q ht hq => img_rep hinv (him t r ht) hq, zero_rep hz, fun h0 => ?_, fun j h1 h2 => ?_, hb⟩
  · obtain ⟨l, rfl⟩ := hz
    exact emq0.ext l
  · have hcc := copy_count hinv hos hod h0 (zero_rep hz) hcov
    split at hcc
    · omega
    · rename_i hno
      have := nodup_le src.length (0 :: keysL K) (List.nodup_cons.2 ⟨hno, hinv.nodup⟩) (fun x hx => by
        rcases List.mem_cons.1 hx with rfl | hx
        · exact h0.lt
        · obtain ⟨j, hj⟩ := of_keys hx
          obtain ⟨q, g1, _⟩ := hinv.rep x j hj
          exact g1.lt)
      have e : (0 :: keysL K).length = K.length + 1 := by simp [keysL]
      omega
  · obtain ⟨a, ha⟩ := hcov j h1 h2
    obtain ⟨r, hr, hu⟩ := hkeys a (mem_keys ha)
    obtain ⟨t, ht⟩ := List.mem_iff_getElem?.1 hr
    obtain ⟨q, g1, g2⟩ := hinv.rep r _ (him t r ht)
    obtain ⟨q', g3, g4⟩ := hinv.rep a j ha
    exact ⟨t, (List.getElem?_eq_some_iff.1 ht).1, under_image hod hu g1 g2 g3 g4⟩
/-- nodes collected where there is room -/
theorem collect_roomy (h : Roomy w0 w F p nodes empty N) (hN : N ≤ 200000) (A : Option Addr) (c : Nat) (rs : List Nat) (hr : Kd.R (Kd.int .u32) 38 w 0 (fun _ => True) (.slice A rs.length c) (uRow rs)) (hrs : ∀ r ∈ rs, r < nodes.length) (hrl : rs.length ≤ 1000) :
    Calls Try.prog 45 #[.pointer (some ⟨p, 0, none⟩), .slice A rs.length c] w fun e w' => ∃ p2 F2 dst js A2 c2, e = .returned (.tuple #[.pointer (some ⟨p2, 0, none⟩), .slice A2 js.length c2, .nilIface]) ∧ Coll w w' F2 p2 nodes dst rs js (N + 1) ∧ Kd.R (Kd.int .u32) 38 w' 0 (fun k => w.heap.size ≤ k ∧ ¬ F2 k) (.slice A2 js.length c2) (uRow js) := by
  have hnn := h.len
  refine (collect_walk F p nodes empty 1048576 A c rs w h.tr.hold.ar h.tr.hold.hi h.tr.wf (lv44_of h.tr.hold.ar) (by omega) (by omega) hr (fun r hm => by have := hrs r hm; omega) (by omega)).mono fun e w' hp => ?_
  obtain ⟨hb, h1 | ⟨_, r, hm, hno⟩ | ⟨_, F2, p2, dst, K, hc, hmx, _⟩⟩ := hp
  · obtain ⟨p2, F2, dst, js, K, A2, c2, he, hc, _, hrow, hjl, him⟩ := h1
    exact ⟨p2, F2, dst, js, A2, c2, he, coll_of h.tr.once hc hjl him hnn hb, hrow⟩
  · exact absurd (hrs r hm) hno
  · exfalso
    have h1 := copy_len 1 hc.cover
    have h2 := keys_le hc.inv
    rw [show max (1048576 : Int) 64 = 1048576 from rfl] at hmx
    omega
theorem collect_arg (h : Roomy w0 w F p nodes empty N) (hN : N ≤ 200000) (A : Option Addr) (c : Nat) (rs : List Nat) (hr : Kd.R (Kd.int .u32) 38 w 0 (fun _ => True) (.slice A rs.length c) (uRow rs)) (h32 : ∀ r ∈ rs, r < 4294967296) (hrs : ∃ r ∈ rs, ¬ r < nodes.length) (hrl : rs.length ≤ 1000) :
    Calls Try.prog 45 #[.pointer (some ⟨p, 0, none⟩), .slice A rs.length c] w fun e w' => e = .returned (.tuple #[.pointer none, .slice none 0 0, .iface 59 (.int .i64 4)]) ∧ Below w.heap.size w w' := by
  have hnn := h.len
  refine (collect_walk F p nodes empty 1048576 A c rs w h.tr.hold.ar h.tr.hold.hi h.tr.wf (lv44_of h.tr.hold.ar) (by omega) (by omega) hr h32 (by omega)).mono fun e w' hp => ?_
  obtain ⟨hb, h1 | ⟨he, _⟩ | ⟨_, F2, p2, dst, K, hc, hmx, _⟩⟩ := hp
  · obtain ⟨p2, F2, dst, js, K, A2, c2, he, hc, hall, _⟩ := h1
    obtain ⟨r, hm, hno⟩ := hrs
    exact absurd (hall r hm) hno
  · exact ⟨he, hb⟩
  · exfalso
    have h1 := copy_len 1 hc.cover
    have h2 := keys_le hc.inv
    rw [show max (1048576 : Int) 64 = 1048576 from rfl] at hmx
    omega
/-- how many nodes some reach -/
theorem reach_roomy (h : Roomy w0 w F p nodes empty N) (hN : N ≤ 200000) (A : Option Addr) (c : Nat) (rs : List Nat) (hr : Kd.C (Kd.int .u32) w A (uRow rs).length (uRow rs)) (hrs : ∀ r ∈ rs, r < nodes.length) :
    Calls Try.prog 44 #[.pointer (some ⟨p, 0, none⟩), .slice A rs.length c] w fun e w' => ∃ S, ReachL nodes rs S ∧ e = .returned (.tuple #[.int .i64 S.length, .nilIface]) ∧ Below w.heap.size w w' := by
  have hnn := h.len
  refine (reach_walk F p nodes empty 1048576 A c rs w h.tr.hold.ar h.tr.wf h.tr.hold.hi (by omega) hr (fun r hm => by have := hrs r hm; omega)).mono fun e w' hp => ?_
  exact ⟨_, marked_all (fun r hm => isn_of h.tr.hold.ar h.tr.wf (hrs r hm)), hp.2.1 hrs, hp.1⟩
theorem reach_arg (h : Roomy w0 w F p nodes empty N) (hN : N ≤ 200000) (A : Option Addr) (c : Nat) (rs : List Nat) (hr : Kd.C (Kd.int .u32) w A (uRow rs).length (uRow rs)) (h32 : ∀ r ∈ rs, r < 4294967296) (hrs : ∃ r ∈ rs, ¬ r < nodes.length) :
    Calls Try.prog 44 #[.pointer (some ⟨p, 0, none⟩), .slice A rs.length c] w fun e w' => e = .returned (.tuple #[.int .i64 0, .iface 59 (.int .i64 4)]) ∧ Below w.heap.size w w' := by
  have hnn := h.len
  refine (reach_walk F p nodes empty 1048576 A c rs w h.tr.hold.ar h.tr.wf h.tr.hold.hi (by omega) hr h32).mono fun e w' hp => ?_
  obtain ⟨r, hm, hno⟩ := hrs
  exact ⟨hp.2.2 (fun hall => hno (hall r hm)), hp.1⟩
theorem under_lt {nodes : List Nd} {i x : Nat} (hu : Under nodes i x) : ∀ {q : Q}, Rep nodes q i → x < nodes.length := by
  induction hu with
  | refl i => intro q h; exact h.lt
  | step hk _ ih => intro q h; obtain ⟨q', g, _⟩ := kid_rep h hk; exact ih g
/-- a collected arena's root reaches all nodes, but for the empty leaf -/
theorem reach_all {rs js S : List Nat} {q : Q} (h : Coll w w' F p src dst rs js N) (h1 : rs.length = 1) (hq : Rep dst q (js.getD 0 0)) (hS : ReachL dst [js.getD 0 0] S) : dst.length = S.length ∨ dst.length = S.length + 1 := by
  have hlt : ∀ x ∈ S, x < dst.length := fun x hx => by
    obtain ⟨r, hr, hu⟩ := (hS.mem x).1 hx
    obtain rfl : r = js.getD 0 0 := by simpa using hr
    exact under_lt hu hq
  have h2 := nodup_le dst.length S hS.nodup hlt
  have h3 := sub_len (List.range' 1 (dst.length - 1)) S List.nodup_range' (fun j hj => by
    rw [List.mem_range'_1] at hj
    obtain ⟨t, ht, hu⟩ := h.all j hj.1 (by omega)
    obtain rfl : t = 0 := by omega
    exact (hS.mem j).2 ⟨_, by simp, hu⟩)
  rw [List.length_range'] at h3
  omega
theorem keeps_of {w0 w w' : World} {F : Nat → Prop} (h : Below w0.heap.size w0 w) (h' : Below w0.heap.size w0 w') (hs : w.heap.size ≤ w'.heap.size) (hk : ∀ k, k < w.heap.size → ¬ F k → w'.heap[k]? = w.heap[k]?) : Keeps F w w' :=
  ⟨h'.os.trans h.os.symm, h'.tape.trans h.tape.symm, h'.output.trans h.output.symm, hs, hk⟩
theorem Roomy.other {G : Nat → Prop} (h : Roomy w0 w F p nodes empty N) (hk : Keeps G w w') (hd : ∀ k, F k → ¬ G k) : Roomy w0 w' F p nodes empty N := ⟨h.tr.other hk hd, h.len⟩
theorem cp_dis {M : Nat} {F2' : Nat → Prop} {dst' : List Nd} {m1 m2 : Int} {rs : List Nat} {K : List (Nat × Nat)} (h : CpSt w0 w w' F1 F2 F2' p1 p2 M src dst dst' em1 em2 m1 m2 rs K) : ∀ k, F1 k → ¬ F2' k := h.mv.dis
/-- nodes copied into another arena where there is room -/
theorem copy_roomy (h1 : Roomy w1 w F1 p1 src em1 N1) (h2 : Roomy w0 w F2 p2 dst em2 N2) (hN : N1 + N2 ≤ 200000) (hB : Below w0.heap.size w0 w) (hdis : ∀ k, F1 k → ¬ F2 k) (A : Option Addr) (c : Nat) (rs : List Nat) (hr : Kd.R (Kd.int .u32) 38 w 0 (fun k => ¬ F2 k) (.slice A rs.length c) (uRow rs)) (hrs : ∀ r ∈ rs, r < src.length) (hrl : rs.length ≤ 1000) :
    Calls Try.prog 48 #[.pointer (some ⟨p1, 0, none⟩), .pointer (some ⟨p2, 0, none⟩), .slice A rs.length c] w fun e w' => ∃ F2' dst' js A' c', e = .returned (.tuple #[.slice A' js.length c', .nilIface]) ∧ Roomy w0 w' F2' p2 dst' em2 (N2 + N1) ∧ (∃ l, dst' = dst ++ l) ∧ js.length = rs.length ∧ (∀ (t r : Nat) (q : Q), rs[t]? = some r → Rep src q r → Rep dst' q (js.getD t 0)) ∧ Roomy w1 w' F1 p1 src em1 N1 ∧ (∀ k, F1 k → ¬ F2' k) ∧ Kd.R (Kd.int .u32) 38 w' 0 (fun k => ¬ F2' k) (.slice A' js.length c') (uRow js) ∧ Below w0.heap.size w0 w' := by
  have hl1 := h1.len
  have hl2 := h2.len
  refine (copy_walk w0 F1 F2 p1 p2 src dst em1 em2 1048576 1048576 A c rs w h1.tr.hold.ar h2.tr.hold hB h1.tr.hold.hi hdis h1.tr.wf h2.tr.wf (lv44_of h1.tr.hold.ar) (by omega) (by omega) (by omega) h2.tr.lim hr (fun r hm => by have := hrs r hm; omega) (by omega)).mono fun e w' hp => ?_
  obtain ⟨M, F2', dst', K, hst, hp⟩ := hp
  have hcl := copy_len dst.length hst.cover
  have hkl := keys_le hst.mv.inv
  rcases hp with ⟨A', c', js, he, _, hrow, hjl, him⟩ | ⟨_, r, hm, hno⟩ | ⟨_, hmx, _⟩
  · refine ⟨F2', dst', js, A', c', he, ⟨⟨hst.mv.a2, hst.mv.wf, ?_, h2.tr.emb, hst.mv.lim, hst.mv.below.size⟩, by omega⟩, hst.dext, hjl, fun t r q ht hq => img_rep hst.mv.inv (him t r ht) hq, h1.other (keeps_of hB hst.mv.below hst.size hst.keep) hdis, cp_dis hst, Kd.R_mono hrow (fun k hk => hk.2.2.1), hst.mv.below⟩
    obtain ⟨l, rfl⟩ := hst.dext
    exact h2.tr.emq.ext l
  · exact absurd (hrs r hm) hno
  · omega
theorem copy_arg (h1 : Roomy w1 w F1 p1 src em1 N1) (h2 : Roomy w0 w F2 p2 dst em2 N2) (hN : N1 + N2 ≤ 200000) (hB : Below w0.heap.size w0 w) (hdis : ∀ k, F1 k → ¬ F2 k) (A : Option Addr) (c : Nat) (rs : List Nat) (hr : Kd.R (Kd.int .u32) 38 w 0 (fun k => ¬ F2 k) (.slice A rs.length c) (uRow rs)) (h32 : ∀ r ∈ rs, r < 4294967296) (hrs : ∃ r ∈ rs, ¬ r < src.length) (hrl : rs.length ≤ 1000) :
    Calls Try.prog 48 #[.pointer (some ⟨p1, 0, none⟩), .pointer (some ⟨p2, 0, none⟩), .slice A rs.length c] w fun e w' => e = .returned (.tuple #[.slice none 0 0, .iface 59 (.int .i64 4)]) ∧ Roomy w1 w' F1 p1 src em1 N1 ∧ Below w0.heap.size w0 w' := by
  have hl1 := h1.len
  have hl2 := h2.len
  refine (copy_walk w0 F1 F2 p1 p2 src dst em1 em2 1048576 1048576 A c rs w h1.tr.hold.ar h2.tr.hold hB h1.tr.hold.hi hdis h1.tr.wf h2.tr.wf (lv44_of h1.tr.hold.ar) (by omega) (by omega) (by omega) h2.tr.lim hr h32 (by omega)).mono fun e w' hp => ?_
  obtain ⟨M, F2', dst', K, hst, hp⟩ := hp
  have hcl := copy_len dst.length hst.cover
  have hkl := keys_le hst.mv.inv
  rcases hp with ⟨A', c', js, he, hall, _⟩ | ⟨he, _⟩ | ⟨_, hmx, _⟩
  · obtain ⟨r, hm, hno⟩ := hrs
    exact absurd (hall r hm) hno
  · exact ⟨he, h1.other (keeps_of hB hst.mv.below hst.size hst.keep) hdis, hst.mv.below⟩
  · omega
/-- a node copied into a small arena -/
theorem copy_small (h1 : Roomy w1 w F1 p1 src em1 N1) (hN : N1 ≤ 200000) (h2 : Tr w0 w F2 p2 [nd0] [0, 0, 0] 64) (hB : Below w0.heap.size w0 w) (hdis : ∀ k, F1 k → ¬ F2 k) (A : Option Addr) (c r : Nat) (hr : Kd.R (Kd.int .u32) 38 w 0 (fun k => ¬ F2 k) (.slice A 1 c) [(r : Int)]) (hrs : r < src.length) :
    Calls Try.prog 48 #[.pointer (some ⟨p1, 0, none⟩), .pointer (some ⟨p2, 0, none⟩), .slice A 1 c] w fun e w' => Roomy w1 w' F1 p1 src em1 N1 ∧ Below w0.heap.size w0 w' ∧ ((∃ A' c', e = .returned (.tuple #[.slice A' 1 c', .nilIface]) ∧ ∀ S, ReachL src [r] S → S.length ≤ 64) ∨ (e = .returned (.tuple #[.slice none 0 0, .iface 59 (.int .i64 8)]) ∧ ∀ S, ReachL src [r] S → 64 ≤ S.length)) := by
  have hl1 := h1.len
  refine (copy_walk w0 F1 F2 p1 p2 src [nd0] em1 [0, 0, 0] 1048576 64 A c [r] w h1.tr.hold.ar h2.hold hB h1.tr.hold.hi hdis h1.tr.wf h2.wf (lv44_of h1.tr.hold.ar) (by omega) (by omega) (by simp) h2.lim hr (fun x hm => by have h0 : x = r := List.mem_singleton.1 hm; omega) (by simp)).mono fun e w' hp => ?_
  obtain ⟨M, F2', dst', K, hst, hp⟩ := hp
  have hcl := copy_len 1 hst.cover
  have hlim := hst.mv.lim
  refine ⟨h1.other (keeps_of hB hst.mv.below hst.size hst.keep) hdis, hst.mv.below, ?_⟩
  rcases hp with ⟨A', c', js, he, _, hrow, hjl, him⟩ | ⟨_, x, hm, hno⟩ | ⟨he, hmx, x, hxm, a, hu, ha⟩
  · left
    have hj1 : js.length = 1 := hjl
    rw [hj1] at he
    refine ⟨A', c', he, fun S hS => ?_⟩
    have hR := copied_all hst.mv.inv (fun x hm => by
      obtain rfl : x = r := by simpa using hm
      exact mem_keys (him 0 x rfl)) hst.keys
    rw [hS.len hR]
    have hnd := images_nodup K hst.mv.inv.nodup (fun a b j ha hb => image_one hst.mv.inv h1.tr.once ha hb)
    have := nodup_le dst'.length (K.map Prod.snd) hnd (fun j hj => by
      obtain ⟨⟨a, j'⟩, hx, rfl⟩ := List.mem_map.1 hj
      obtain ⟨q, _, g⟩ := hst.mv.inv.rep a j' hx
      exact g.lt)
    rw [List.length_map] at this
    have e : (keysL K).length = K.length := by simp [keysL]
    omega
  · obtain rfl : x = r := by simpa using hm
    exact absurd hrs hno
  · right
    refine ⟨he, fun S hS => ?_⟩
    obtain rfl : x = r := by simpa using hxm
    have := sub_len (a :: keysL K) S (List.nodup_cons.2 ⟨ha, hst.mv.inv.nodup⟩) (fun y hy => by
      rcases List.mem_cons.1 hy with rfl | hy
      · exact (hS.mem y).2 ⟨x, by simp, hu⟩
      · obtain ⟨x', hx', hu'⟩ := hst.keys y hy
        exact (hS.mem y).2 ⟨x', hx', hu'⟩)
    have e : (a :: keysL K).length = K.length + 1 := by simp [keysL]
    omega
end
theorem row_at {w : World} {ok : Nat → Prop} {A : Option Addr} {n c : Nat} {js : List Nat} (h : Kd.R (Kd.int .u32) 38 w 0 ok (.slice A n c) (uRow js)) (hn : js.length = n) (hp : 0 < n) : ∃ be, A = some ⟨be, 0, none⟩ ∧ (∀ t : Nat, t < n → w.cell? ⟨be, t, none⟩ = some (.int .u32 (js.getD t 0 : Nat))) ∧ ok be := by
  have h2 := h
  obtain ⟨be, ce, hv, _⟩ := Kd.R_form h (by rw [uRow_len]; omega)
  injection hv with e1 e2 e3
  subst e1
  refine ⟨be, rfl, fun t ht => ?_, h2.1 be rfl⟩
  have := (Kd.R_celln (enc := Value.int .u32) (h1 := fun _ => rfl) 0 h (t : Int) (by omega) (by omega)).1
  rw [Int.toNat_natCast] at this
  rw [this]
  unfold rdOf uRow
  rw [Int.toNat_natCast, List.getD_eq_getElem?_getD, List.getD_eq_getElem?_getD, List.getElem?_map]
  cases js[t]? <;> rfl
section
variable {w0 w w2 : World} {F F' : Nat → Prop} {p N : Nat} {nodes nodes' : List Nd} {empty empty' : List Int} {most : Int}
/-- one more set built in an arena that has room, with what it leaves of other blocks -/
theorem build_ste (h : Roomy w0 w F p nodes empty N) (hN : N ≤ 200000) {l : List Rc} (hn : NearR l) (A : Option Addr) (c : Nat) (hC : Kd.C k57 w A (l.map ownC).length (l.map ownC)) (hb0 : Below w0.heap.size w0 w) :
    Calls Try.prog 24 #[.pointer (some ⟨p, 0, none⟩), .slice A (l.map ownC).length c] w fun e w' => ∃ F' nodes' empty', ∃ i : Nat, e = .returned (.tuple #[.int .u32 i, .nilIface]) ∧ Roomy w0 w' F' p nodes' empty' (N + 2000) ∧ Ste w0 w w' F F' p nodes nodes' empty empty' 1048576 ∧ Rep nodes' (rootQ (l.map ownC)) i ∧ Below w0.heap.size w0 w' := by
  have hlen : (l.map ownC).length ≤ 40 := by rw [List.length_map]; exact hn.len
  have hnn := h.len
  refine (tbuild_walk h.tr A c (l.map ownC) hC hn.ok.1 (by omega) hn.ok.2 (by omega)).mono fun e w' hg => ?_
  obtain ⟨F', nodes', empty', i, he, hs, hl, hr, hh⟩ := hg.sure (by omega)
  have := hs.tr.emq.hi
  exact ⟨F', nodes', empty', i, he, ⟨hs.tr, by omega⟩, hs, hr, hs.belowAll h.tr hb0⟩
/-- a row that is none of the arena's, over a step of the arena -/
theorem rowU_step {v : Value} {xs : List Int} (hr : Kd.R (Kd.int .u32) 38 w 0 (fun k => ¬ F k) v xs) (hs : Ste w0 w w2 F F' p nodes nodes' empty empty' most) : Kd.R (Kd.int .u32) 38 w2 0 (fun k => ¬ F' k) v xs :=
  Kd.R_mono (Kd.R_step (Kd.R_bound hr) (fun k hk hlt => hs.keeps.block k hlt hk.1)) (fun k hk => fun hf => hk.1 ((hs.old k hk.2.2.1).1 hf))
theorem kd_step {α : Type} {d : Kd α} {e : Nat} {v : Value} {xs : List α} (hr : d.R e w 0 (fun k => ¬ F k) v xs) (hs : Ste w0 w w2 F F' p nodes nodes' empty empty' most) : d.R e w2 0 (fun k => ¬ F' k) v xs :=
  Kd.R_mono (Kd.R_step (Kd.R_bound hr) (fun k hk hlt => hs.keeps.block k hlt hk.1)) (fun k hk => fun hf => hk.1 ((hs.old k hk.2.2.1).1 hf))
/-- the cells of a set's root, as a row that is none of the arena's -/
theorem cells_row (h : Roomy w0 w F p nodes empty N) (hN : N ≤ 200000) {l : List Rc} (hn : NearR l) {i : Nat} (hR : Rep nodes (rootQ (l.map ownC)) i) (most : Int) (hm : 100 ≤ most ∧ most ≤ 9223372036854775807) :
    Calls Try.prog 27 #[.pointer (some ⟨p, 0, none⟩), .int .u32 i, .int .i64 most] w fun e w' => ∃ A' c', e = .returned (.tuple #[.slice A' (l.map ownC).length c', .nilIface]) ∧ (l.map ownC).length ≤ c' ∧ Kd.R k57 57 w' 0 (fun k => ¬ F k) (.slice A' (l.map ownC).length c') (l.map ownC) ∧ Below w.heap.size w w' := by
  have hnn := h.len
  have hll := hn.len
  have hlv := rlv_bd (l.map ownC)
  refine (cells_ok h.tr.hold.ar (by omega) h.tr.hold.hi (rootQ (l.map ownC)) i hR (by rw [rootQ_lv]; omega) (by rw [rootQ_lv]; omega) (by rw [hn.count.2]; omega) most (by omega) (by rw [hn.count.1]; omega)).mono fun e w' ⟨v, he, hr, hb⟩ => ?_
  rw [hn.cells] at hr
  obtain ⟨A, c, hv, hc, hC⟩ := Kd.R_reads hr
  rw [hv] at hr
  exact ⟨A, c, by rw [he, hv], hc, Kd.R_lower (Kd.R_mono hr (fun k hk hf => by have := h.tr.hold.hi k hf; omega)) (Nat.zero_le _), hb⟩
end
end Go.Proofs.Ytbkbkgfpnefilaa.tr
