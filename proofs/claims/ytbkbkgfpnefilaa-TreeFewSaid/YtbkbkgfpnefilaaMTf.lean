/- For any number and any cells, near or far, the law TreeFew answers true: what is no root is told to be none; with few nodes a set is built, and has its cells, or the budget is told to be spent. No condition. -/
import Derived.Test.YtbkbkgfpnefilaaMSh
import Derived.Test.YtbkbkgfpnefilaaRow
namespace Go.Proofs.Ytbkbkgfpnefilaa.tr
open Go.RowKit Go.Proofs.Ytbkbkgfpnefilaa.PTreeBuilds Go.Proofs.YtbkbkgfpnefilaaW.PrintWords Go.Proofs.YtbkbkgfpnefilaaW.PrintLast Go.Proofs.YtbkbkgfpnefilaaW.PrintMore Go.Proofs.Ytbkbkgfpnefilaa.bs Go.ChangeShapes Go.Proofs.Ytbkbkgfpnefilaa.lb Go.Proofs.Ytbkbkgfpnefilaa.ar Go.Maps

theorem wide_walk (raw : List Rc) (A : Option Addr) (c : Nat) (w : World) (hC : Kd.C k30 w A raw.length raw) (hc : raw.length ≤ c) :
    Calls Try.prog 22 #[.slice A raw.length c] w fun e w' => ∃ A' c', e = .returned (.slice A' (wideR raw).length c') ∧ (wideR raw).length ≤ c' ∧ Kd.C k30 w' A' (wideR raw).length (wideR raw) ∧ Below w.heap.size w w' := by
  refine (honeycomblaw13_Wide.calls 4000 A c raw (wideR raw) w hC hc (wide_val raw 4000 (by omega))).mono fun e w' ⟨v, he, hr, hb⟩ => ?_
  obtain ⟨A', c', hv, hc', hC'⟩ := Kd.R_reads hr
  exact ⟨A', c', by rw [he, hv], hc', hC', hb⟩
theorem are_walk (l : List Cl) (m : List Rc) (hm : m.length ≤ 1000000) (A B : Option Addr) (c d : Nat) (w : World) (hl : Kd.C k57 w A l.length l) (hc : l.length ≤ c) (hM : Kd.C k30 w B m.length m) (hd : m.length ≤ d) :
    Calls Try.prog 28 #[.slice A l.length c, .slice B m.length d] w fun e w' => e = .returned (.int .i64 (if l = m.map ownC then 0 else -1)) ∧ Below w.heap.size w w' :=
  honeycomblaw04_Are.calls (m.length + 1) A c l B d m _ w hl hc hM hd (are_val l m hm _ (by omega))
set_option maxRecDepth 100000 in
set_option maxHeartbeats 4000000 in
theorem shares_walk (raw other : List Rc) (rA oA : Option Addr) (rc oc : Nat) (w : World) (hR : Kd.C k30 w rA raw.length raw) (hrc : raw.length ≤ rc) (hO : Kd.C k30 w oA other.length other) (hoc : other.length ≤ oc) :
    Calls Try.prog 4 #[.slice rA raw.length rc, .slice oA other.length oc] w fun e w' => e = .returned (.bool true) ∧ Below w.heap.size w w' := by
  have hws := fun (w' : World) (hb : Below w.heap.size w w') => wide_walk raw rA rc w' (Kd.C_below hR hb) hrc
  have hwt := fun (w' : World) (hb : Below w.heap.size w w') => wide_walk other oA oc w' (Kd.C_below hO hb) hoc
  have hns := wide_near raw
  have hnt := wide_near other
  obtain ⟨s, hs⟩ : ∃ s, wideR raw = s := ⟨_, rfl⟩
  obtain ⟨t, ht⟩ : ∃ t, wideR other = t := ⟨_, rfl⟩
  simp only [hs] at hws hns
  simp only [ht] at hwt hnt
  have HWS := Aside0.mk hws
  have HWT := Aside0.mk hwt
  have HX := Aside0.mk (show rootQ (s.map ownC) = rootQ (t.map ownC) → s.map ownC = t.map ownC from hns.same hnt)
  have HOS := Aside0.mk (fun A c w h1 h2 => own_near hns A c w h1 h2)
  have HOT := Aside0.mk (fun A c w h1 h2 => own_near hnt A c w h1 h2)
  have HMK := Aside0.mk (fun A c w h1 h2 => (make_near (A := A) (c := c) (w := w) h1 h2 hns.len hns.bd).mono (fun _ _ h => make_roomy (by rw [List.length_map]; exact hns.len) h))
  have HBS := Aside0.mk (fun (w0 w : World) (F : Nat → Prop) (p N : Nat) (nodes : List Nd) (empty : List Int) (A : Option Addr) (c : Nat) (h : Roomy w0 w F p nodes empty N) (hN : N ≤ 200000) (hC : Kd.C k57 w A (s.map ownC).length (s.map ownC)) (hb : Below w0.heap.size w0 w) => build_roomy h hN hns A c hC hb)
  have HBT := Aside0.mk (fun (w0 w : World) (F : Nat → Prop) (p N : Nat) (nodes : List Nd) (empty : List Int) (A : Option Addr) (c : Nat) (h : Roomy w0 w F p nodes empty N) (hN : N ≤ 200000) (hC : Kd.C k57 w A (t.map ownC).length (t.map ownC)) (hb : Below w0.heap.size w0 w) => build_roomy h hN hnt A c hC hb)
  have HCS := Aside0.mk (fun (w0 w : World) (F : Nat → Prop) (p N : Nat) (nodes : List Nd) (empty : List Int) (i : Nat) (h : Roomy w0 w F p nodes empty N) (hN : N ≤ 200000) (hr : Rep nodes (rootQ (s.map ownC)) i) => cells_roomy h hN hns hr 100 (by omega))
  have HCT := Aside0.mk (fun (w0 w : World) (F : Nat → Prop) (p N : Nat) (nodes : List Nd) (empty : List Int) (i : Nat) (h : Roomy w0 w F p nodes empty N) (hN : N ≤ 200000) (hr : Rep nodes (rootQ (t.map ownC)) i) => cells_roomy h hN hnt hr 100 (by omega))
  have HAS := Aside0.mk (fun A B c d w h1 h2 h3 h4 => are_walk (s.map ownC) s (by have := hns.len; omega) A B c d w h1 h2 h3 h4)
  have HAT := Aside0.mk (fun A B c d w h1 h2 h3 h4 => are_walk (t.map ownC) t (by have := hnt.len; omega) A B c d w h1 h2 h3 h4)
  have HAX := Aside0.mk (fun A B c d w h1 h2 h3 h4 => are_walk (s.map ownC) t (by have := hnt.len; omega) A B c d w h1 h2 h3 h4)
  simp only [if_true] at HAS HAT
  generalize s.map ownC = S at *
  generalize t.map ownC = T at *
  generalize raw.length = rn at *
  generalize other.length = on at *
  clear hs ht hws hwt hns hnt hR hO hrc hoc
  go_enter Try.func4, Try.ntmps4
  go_upto_region 4 with (first
    | (go_at_call 15; refine (awake_walk _).mono ?_; rintro e w1 ⟨rfl, hb1⟩; have HB1 := Aside0.mk hb1; clear hb1)
    | (go_at_call 22; with_reducible refine (HWS.out _ HB1.out).mono ?_; rintro e w2 ⟨sA, sc, rfl, hsc, hsC, hb2⟩; have HB2 := Aside0.mk (chain HB1.out hb2 HB1.out.size); have HSC := Aside0.mk hsC; have HSc := Aside0.mk hsc; clear hsc hsC hb2)
    | (go_at_call 22; with_reducible refine (HWT.out _ HB2.out).mono ?_; rintro e w3 ⟨tA, tc, rfl, htc, htC, hb3⟩; have HB3 := Aside0.mk (chain HB2.out hb3 HB2.out.size); have HSC3 := Aside0.mk (Kd.C_below HSC.out hb3); have HTC := Aside0.mk htC; have HTc := Aside0.mk htc; clear htc htC hb3))
  go_upto_region 9 with (first
    | (go_at_call 23; with_reducible refine (HMK.out _ _ _ HSC3.out HSc.out).mono ?_; rintro e w4 ⟨p, F4, nodes4, empty4, x, rfl, hr4, hx4, hb4⟩; have HR4 := Aside0.mk hr4; have HX4 := Aside0.mk hx4; have HB4 := Aside0.mk hb4; clear hr4 hx4 hb4)
    | (go_at_call 25; with_reducible refine (HOT.out _ _ _ (Kd.C_below HTC.out HB4.out) HTc.out).mono ?_; rintro e w5 ⟨yA, yc, rfl, hyc, hyC, hb5⟩; have HR5 := Aside0.mk (HR4.out.below hb5); have HYC := Aside0.mk hyC; have HB5 := Aside0.mk (chain HB4.out hb5 HB4.out.size); clear hyc hyC hb5)
    | (go_at_call 24; with_reducible refine (HBT.out _ _ _ _ _ _ _ _ _ HR5.out (by omega) HYC.out HB5.out).mono ?_; rintro e w6 ⟨F6, nodes6, empty6, y, rfl, hr6, ho6, hy6, hh6, hb6⟩; have HR6 := Aside0.mk hr6; have HY6 := Aside0.mk hy6; have HX6 := Aside0.mk (ho6 _ _ HX4.out); have HB6 := Aside0.mk hb6; clear hr6 ho6 hy6 hh6 hb6)
    | (go_at_call 25; with_reducible refine (HOS.out _ _ _ (Kd.C_below HSC3.out HB6.out) HSc.out).mono ?_; rintro e w7 ⟨zA, zc, rfl, hzc, hzC, hb7⟩; have HR7 := Aside0.mk (HR6.out.below hb7); have HZC := Aside0.mk hzC; have HB7 := Aside0.mk (chain HB6.out hb7 HB6.out.size); clear hzc hzC hb7)
    | (go_at_call 24; with_reducible refine (HBS.out _ _ _ _ _ _ _ _ _ HR7.out (by omega) HZC.out HB7.out).mono ?_; rintro e w8 ⟨F8, nodes8, empty8, z, rfl, hr8, ho8, hz8, hh8, hb8⟩; have HN8 := Aside0.mk (hh8 ⟨_, HX6.out⟩); have HR8 := Aside0.mk hr8; have HZ8 := Aside0.mk hz8; have HB8 := Aside0.mk hb8; clear hr8 ho8 hz8 hh8 hb8))
  obtain rfl : nodes8 = nodes6 := HN8.out
  obtain rfl : z = x := Rep.same HR8.out.tr.once HZ8.out HX6.out
  clear HN8 HX6 HX4 HR4 HR5 HR6 HR7 HB4 HB5 HB6 HB7 HYC HZC HMK
  go_upto_region 13 with (first
    | (go_at_call 26; refine (alen_walk F8 p nodes8 empty8 1048576 _ HR8.out.tr.hold.ar).mono ?_; rintro e w9 ⟨rfl, rfl⟩)
    | (go_at_call 25; with_reducible refine (HOT.out _ _ _ (Kd.C_below HTC.out HB8.out) HTc.out).mono ?_; rintro e w10 ⟨yA, yc, rfl, hyc, hyC, hb10⟩; have HR10 := Aside0.mk (HR8.out.below hb10); have HYC := Aside0.mk hyC; have HB10 := Aside0.mk (chain HB8.out hb10 HB8.out.size); clear hyc hyC hb10)
    | (go_at_call 24; with_reducible refine (HBT.out _ _ _ _ _ _ _ _ _ HR10.out (by omega) HYC.out HB10.out).mono ?_; rintro e w11 ⟨F11, nodes11, empty11, v, rfl, hr11, ho11, hv11, hh11, hb11⟩; obtain rfl : nodes11 = nodes8 := hh11 ⟨_, HY6.out⟩; obtain rfl : v = y := Rep.same hr11.tr.once hv11 HY6.out; have HR11 := Aside0.mk hr11; have HB11 := Aside0.mk hb11; clear hr11 ho11 hv11 hh11 hb11)
    | (go_at_call 27; with_reducible refine (HCS.out _ _ _ _ _ _ _ _ HR11.out (by omega) HZ8.out).mono ?_; rintro e w12 ⟨oneA, onec, rfl, honec, hone, hb12⟩; have HR12 := Aside0.mk (HR11.out.below hb12); have HB12 := Aside0.mk (chain HB11.out hb12 HB11.out.size); have HONE := Aside0.mk hone; have HONEc := Aside0.mk honec; clear honec hone hb12)
    | (go_at_call 27; with_reducible refine (HCT.out _ _ _ _ _ _ _ _ HR12.out (by omega) HY6.out).mono ?_; rintro e w13 ⟨twoA, twoc, rfl, htwoc, htwo, hb13⟩; have HR13 := Aside0.mk (HR12.out.below hb13); have HB13 := Aside0.mk (chain HB12.out hb13 HB12.out.size); have HONE13 := Aside0.mk (Kd.C_below HONE.out hb13); have HTWO := Aside0.mk htwo; have HTWOc := Aside0.mk htwoc; clear htwoc htwo hb13))
  clear HBS HBT HCS HCT HOT HWS HWT HR8 HR10 HR11 HR12 HB8 HB10 HB11 HB12 HYC
  by_cases hxy : z = v
  · subst hxy
    have hST : S = T := HX.out (Rep.one HZ8.out HY6.out)
    subst hST
    simp only [if_true] at HAX
    clear HX HZ8 HY6
    go_wp2_with (first
      | (go_at_call 26; refine (alen_walk F11 p nodes11 empty11 1048576 _ HR13.out.tr.hold.ar).mono ?_; rintro e w14 ⟨rfl, rfl⟩)
      | (go_at_call 25; with_reducible refine (HOS.out _ _ _ (Kd.C_below HSC3.out HB13.out) HSc.out).mono ?_; rintro e w15 ⟨yA, yc, rfl, hyc, hyC, hb15⟩; have HB15 := Aside0.mk (chain HB13.out hb15 HB13.out.size); have HONE15 := Aside0.mk (Kd.C_below HONE13.out hb15); have HTWO15 := Aside0.mk (Kd.C_below HTWO.out hb15); have HYC := Aside0.mk hyC; have HYc := Aside0.mk hyc; clear hyc hyC hb15)
      | (go_at_call 28; with_reducible refine (HAX.out _ _ _ _ _ HYC.out HYc.out (Kd.C_below HTC.out HB15.out) HTc.out).mono ?_; rintro e w16 ⟨rfl, hb16⟩; have HB16 := Aside0.mk (chain HB15.out hb16 HB15.out.size); have HONE16 := Aside0.mk (Kd.C_below HONE15.out hb16); have HTWO16 := Aside0.mk (Kd.C_below HTWO15.out hb16); clear hb16 HYC)
      | (go_at_call 28; with_reducible refine (HAS.out _ _ _ _ _ HONE16.out HONEc.out (Kd.C_below HSC3.out HB16.out) HSc.out).mono ?_; rintro e w17 ⟨rfl, hb17⟩; have HB17 := Aside0.mk (chain HB16.out hb17 HB16.out.size); have HTWO17 := Aside0.mk (Kd.C_below HTWO16.out hb17); clear hb17 HONE16)
      | (go_at_call 28; with_reducible refine (HAT.out _ _ _ _ _ HTWO17.out HTWOc.out (Kd.C_below HTC.out HB17.out) HTc.out).mono ?_; rintro e w18 ⟨rfl, hb18⟩; have HB18 := Aside0.mk (chain HB17.out hb18 HB17.out.size); clear hb18))
    refine bodyPost_ret (v := .bool true) (by simp [results, Try.results4, go_sem]) rfl ?_
    exact ⟨rfl, chain HB3.out HB18.out HB3.out.size⟩
  · have hST : ¬ S = T := fun h => hxy (by subst h; exact Rep.same HR13.out.tr.once HZ8.out HY6.out)
    simp only [if_neg hST] at HAX
    have hne : ((z : Int) == (v : Int)) = false := by rw [beq_eq_false_iff_ne]; omega
    clear HX HZ8 HY6 hxy hST
    go_wp2_with (first
      | (go_at_call 26; refine (alen_walk F11 p nodes11 empty11 1048576 _ HR13.out.tr.hold.ar).mono ?_; rintro e w14 ⟨rfl, rfl⟩)
      | (go_at_call 25; with_reducible refine (HOS.out _ _ _ (Kd.C_below HSC3.out HB13.out) HSc.out).mono ?_; rintro e w15 ⟨yA, yc, rfl, hyc, hyC, hb15⟩; have HB15 := Aside0.mk (chain HB13.out hb15 HB13.out.size); have HONE15 := Aside0.mk (Kd.C_below HONE13.out hb15); have HTWO15 := Aside0.mk (Kd.C_below HTWO.out hb15); have HYC := Aside0.mk hyC; have HYc := Aside0.mk hyc; clear hyc hyC hb15)
      | (go_at_call 28; with_reducible refine (HAX.out _ _ _ _ _ HYC.out HYc.out (Kd.C_below HTC.out HB15.out) HTc.out).mono ?_; rintro e w16 ⟨rfl, hb16⟩; have HB16 := Aside0.mk (chain HB15.out hb16 HB15.out.size); have HONE16 := Aside0.mk (Kd.C_below HONE15.out hb16); have HTWO16 := Aside0.mk (Kd.C_below HTWO15.out hb16); clear hb16 HYC)
      | (go_at_call 28; with_reducible refine (HAS.out _ _ _ _ _ HONE16.out HONEc.out (Kd.C_below HSC3.out HB16.out) HSc.out).mono ?_; rintro e w17 ⟨rfl, hb17⟩; have HB17 := Aside0.mk (chain HB16.out hb17 HB16.out.size); have HTWO17 := Aside0.mk (Kd.C_below HTWO16.out hb17); clear hb17 HONE16)
      | (go_at_call 28; with_reducible refine (HAT.out _ _ _ _ _ HTWO17.out HTWOc.out (Kd.C_below HTC.out HB17.out) HTc.out).mono ?_; rintro e w18 ⟨rfl, hb18⟩; have HB18 := Aside0.mk (chain HB17.out hb18 HB17.out.size); clear hb18))
    refine bodyPost_ret (v := .bool true) (by simp [results, Try.results4, go_sem]) rfl ?_
    exact ⟨rfl, chain HB3.out HB18.out HB3.out.size⟩
theorem shares_law (rA oA : Option Addr) (rn rc on oc : Nat) (raw other : List Rc) (w : World) (hrl : raw.length = rn) (hR : Kd.C k30 w rA rn raw) (hrc : rn ≤ rc) (hol : other.length = on) (hO : Kd.C k30 w oA on other) (hoc : on ≤ oc) :
    Calls Try.prog 4 #[.slice rA rn rc, .slice oA on oc] w fun e w' => e = .returned (.bool true) ∧ Below w.heap.size w w' := by
  subst hrl hol
  exact shares_walk raw other rA oA rc oc w hR hrc hO hoc
end Go.Proofs.Ytbkbkgfpnefilaa.tr
namespace Go.Proofs.Ytbkbkgfpnefilaa.tr
open Go.RowKit Go.Proofs.Ytbkbkgfpnefilaa.PTreeBuilds Go.Proofs.YtbkbkgfpnefilaaW.PrintWords Go.Proofs.YtbkbkgfpnefilaaW.PrintLast Go.Proofs.YtbkbkgfpnefilaaW.PrintMore Go.Proofs.Ytbkbkgfpnefilaa.bs Go.ChangeShapes Go.Proofs.Ytbkbkgfpnefilaa.lb Go.Proofs.Ytbkbkgfpnefilaa.ar Go.Maps

theorem wide_row (raw : List Rc) (A : Option Addr) (c : Nat) (w : World) (hC : Kd.C k30 w A raw.length raw) (hc : raw.length ≤ c) :
    Calls Try.prog 22 #[.slice A raw.length c] w fun e w' => ∃ A' c', e = .returned (.slice A' (wideR raw).length c') ∧ (wideR raw).length ≤ c' ∧ Kd.R k30 30 w' w.heap.size (fun k => w.heap.size ≤ k) (.slice A' (wideR raw).length c') (wideR raw) ∧ Below w.heap.size w w' := by
  refine (honeycomblaw13_Wide.calls 4000 A c raw (wideR raw) w hC hc (wide_val raw 4000 (by omega))).mono fun e w' ⟨v, he, hr, hb⟩ => ?_
  have hr2 := Kd.R_mono (Kd.R_bound hr) (ok' := fun k => w.heap.size ≤ k) (fun k hk => hk.2.1)
  obtain ⟨A', c', hv, hc', hC'⟩ := Kd.R_reads hr
  exact ⟨A', c', by rw [he, hv], hc', by rw [← hv]; exact hr2, hb⟩
section
variable {w0 w : World} {F : Nat → Prop} {p : Nat} {nodes : List Nd} {empty : List Int} {most : Int}
set_option maxRecDepth 100000 in
set_option maxHeartbeats 1000000 in
theorem put_arg (hA : Ar w F p nodes empty most) (k a b h : Int) (live : Bool) (hk : 0 ≤ k ∧ k < 4294967296) (hlt : lvAt nodes k < 3) :
    Calls Try.prog 30 #[.pointer (some ⟨p, 0, none⟩), .int .u32 k, .agg #[.int .i64 a, .int .i64 b, .int .i64 h], .bool live] w fun e w' => e = .returned (.tuple #[.int .u32 0, .iface 59 (.int .i64 4)]) ∧ Below w.heap.size w w' := by
  have hb := below_alloc (Below.refl w.heap.size w) (.cells #[.int .i64 a, .int .i64 b, .int .i64 h] 57)
  have hlev := level_walk F p nodes empty most _ (hA.below hb) k hk.1 hk.2
  generalize lvAt nodes k = lv at *
  have HLEV := Aside0.mk hlev
  have HB := Aside0.mk hb
  clear hlev hA hb hk
  go_enter Try.func30, Try.ntmps30
  go_wp2_with (go_at_call 29; refine HLEV.out.mono ?_; rintro e w1 ⟨rfl, rfl⟩)
  refine bodyPost_ret (v := .tuple #[.int .u32 0, .iface 59 (.int .i64 4)]) (by simp [results, Try.results30, go_sem]) rfl ?_
  exact ⟨rfl, HB.out⟩
set_option maxRecDepth 100000 in
set_option maxHeartbeats 1000000 in
theorem box_no (hA : Ar w F p nodes empty most) (k : Int) (hk : 0 ≤ k ∧ k < 4294967296) (hlt : lvAt nodes k < 3) :
    Calls Try.prog 34 #[.pointer (some ⟨p, 0, none⟩), .int .u32 k] w fun e w' => e = .returned (.tuple #[.agg #[.int .i64 0, .int .i64 0, .int .i64 0, .int .i64 0], .bool false]) ∧ Below w.heap.size w w' := by
  have hb := below_alloc (Below.refl w.heap.size w) (.cells #[.int .i64 0, .int .i64 0, .int .i64 0, .int .i64 0] 27)
  have hlev := level_walk F p nodes empty most _ (hA.below hb) k hk.1 hk.2
  have hkb := blk_new w (.cells #[.int .i64 0, .int .i64 0, .int .i64 0, .int .i64 0] 27)
  have c0 := blk_cell hkb 0
  have c1 := blk_cell hkb 1
  have c2 := blk_cell hkb 2
  have c3 := blk_cell hkb 3
  have f0 := blk_frozen hkb 0
  have f1 := blk_frozen hkb 1
  have f2 := blk_frozen hkb 2
  have f3 := blk_frozen hkb 3
  simp only [List.getElem?_toArray, List.getElem?_cons_zero, List.getElem?_cons_succ] at c0 c1 c2 c3
  generalize lvAt nodes k = lv at *
  have HLEV := Aside0.mk hlev
  have HB := Aside0.mk hb
  clear hlev hA hb hk hkb
  go_enter Try.func34, Try.ntmps34
  go_wp2_with (go_at_call 29; refine HLEV.out.mono ?_; rintro e w1 ⟨rfl, rfl⟩)
  refine bodyPost_ret (v := .tuple #[.agg #[.int .i64 0, .int .i64 0, .int .i64 0, .int .i64 0], .bool false]) (by simp [results, Try.results34, go_sem, c0, c1, c2, c3]) rfl ?_
  exact ⟨rfl, HB.out⟩
/-- the cells of a set's root, in any arena -/
theorem cells_set (h : Tr w0 w F p nodes empty most) (hN : nodes.length ≤ 200000) {l : List Rc} (hn : NearR l) {i : Nat} (hR : Rep nodes (rootQ (l.map ownC)) i) :
    Calls Try.prog 27 #[.pointer (some ⟨p, 0, none⟩), .int .u32 i, .int .i64 100] w fun e w' => ∃ A' c', e = .returned (.tuple #[.slice A' (l.map ownC).length c', .nilIface]) ∧ (l.map ownC).length ≤ c' ∧ Kd.C k57 w' A' (l.map ownC).length (l.map ownC) ∧ Below w.heap.size w w' := by
  have hll := hn.len
  have hlv := rlv_bd (l.map ownC)
  refine (cells_ok h.hold.ar (by omega) h.hold.hi (rootQ (l.map ownC)) i hR (by rw [rootQ_lv]; omega) (by rw [rootQ_lv]; omega) (by rw [hn.count.2]; omega) 100 (by omega) (by rw [hn.count.1]; omega)).mono fun e w' ⟨v, he, hr, hb⟩ => ?_
  rw [hn.cells] at hr
  obtain ⟨A, c, hv, hc, hC⟩ := Kd.R_reads hr
  exact ⟨A, c, by rw [he, hv], hc, hC, hb⟩
/-- a set built in a small arena -/
theorem build_few (h : Tr w0 w F p nodes empty 64) {l : List Rc} (hn : NearR l) (A : Option Addr) (c : Nat) (hC : Kd.C k57 w A (l.map ownC).length (l.map ownC)) (hb0 : Below w0.heap.size w0 w) :
    Calls Try.prog 24 #[.pointer (some ⟨p, 0, none⟩), .slice A (l.map ownC).length c] w fun e w' => ∃ F' nodes' empty' r code, e = .returned (.tuple #[.int .u32 r, errOf code]) ∧ Tr w0 w' F' p nodes' empty' 64 ∧ ((code = 0 ∧ ∃ i : Nat, r = (i : Int) ∧ Rep nodes' (rootQ (l.map ownC)) i) ∨ (r = 0 ∧ code = 8 ∧ nodes'.length = 64)) ∧ Below w0.heap.size w0 w' ∧ Keeps F w w' := by
  have hlen : (l.map ownC).length ≤ 40 := by rw [List.length_map]; exact hn.len
  have hlim := h.lim
  refine (tbuild_walk h A c (l.map ownC) hC hn.ok.1 (by omega) hn.ok.2 (by omega)).mono fun e w' hg => ?_
  obtain ⟨F', nodes', empty', r, code, he, hs, hl, hr, hh⟩ := Gets.ex hg
  have hlim' := hs.tr.lim
  refine ⟨F', nodes', empty', r, code, he, hs.tr, ?_, hs.belowAll h hb0, hs.keeps⟩
  rcases hr with ⟨h1, i, h2, h3⟩ | ⟨h1, h2, h3⟩
  · exact .inl ⟨h1, i, h2, h3⟩
  · exact .inr ⟨h1, h2, by omega⟩
end
theorem lv1 (i : Int) (h : 0 ≤ i) : (i = 0 ∧ lvAt [nd0] i = 2) ∨ (0 < i ∧ lvAt [nd0] i = -1) := by
  by_cases h0 : i = 0
  · subst h0; exact .inl ⟨rfl, rfl⟩
  · right
    refine ⟨by omega, ?_⟩
    rcases at_cases [nd0] i h with ⟨j, x, rfl, hx⟩ | ⟨hl, h2, _⟩
    · have := (List.getElem?_eq_some_iff.1 hx).1
      simp at this
      omega
    · exact h2
set_option maxRecDepth 100000 in
set_option maxHeartbeats 4000000 in
theorem few_walk (i : Int) (hi : 0 ≤ i ∧ i < 4294967296) (raw : List Rc) (rA : Option Addr) (rc : Nat) (w : World) (hR : Kd.C k30 w rA raw.length raw) (hrc : raw.length ≤ rc) :
    Calls Try.prog 7 #[.int .u32 i, .slice rA raw.length rc] w fun e w' => e = .returned (.bool true) ∧ Below w.heap.size w w' := by
  have hws := fun (w' : World) (hb : Below w.heap.size w w') => wide_row raw rA rc w' (Kd.C_below hR hb) hrc
  have hns := wide_near raw
  obtain ⟨s, hs⟩ : ∃ s, wideR raw = s := ⟨_, rfl⟩
  simp only [hs] at hws hns
  have hlv3 : lvAt [nd0] i < 3 := by rcases lv1 i hi.1 with ⟨_, h⟩ | ⟨_, h⟩ <;> rw [h] <;> decide
  have HLV := Aside0.mk (fun (w0 w : World) (F : Nat → Prop) (p : Nat) (h : Tr w0 w F p [nd0] [0, 0, 0] 64) => level_walk F p [nd0] [0, 0, 0] 64 w h.hold.ar i hi.1 hi.2)
  have HCA := Aside0.mk (fun (w0 w : World) (F : Nat → Prop) (p : Nat) (h : Tr w0 w F p [nd0] [0, 0, 0] 64) => cells_arg h.hold.ar i 9 hi hlv3)
  have HPA := Aside0.mk (fun (w0 w : World) (F : Nat → Prop) (p : Nat) (h : Tr w0 w F p [nd0] [0, 0, 0] 64) => put_arg h.hold.ar i 0 0 0 true hi hlv3)
  have HBN := Aside0.mk (fun (w0 w : World) (F : Nat → Prop) (p : Nat) (h : Tr w0 w F p [nd0] [0, 0, 0] 64) => box_no h.hold.ar i hi hlv3)
  have HGN := Aside0.mk (fun (w0 w : World) (F : Nat → Prop) (p : Nat) (h : Tr w0 w F p [nd0] [0, 0, 0] 64) => get_no h.hold.ar i hi.1 hi.2 0 0 0 (fun hh => by omega))
  have HOS := Aside0.mk (fun A c w h1 h2 => own_near hns A c w h1 h2)
  have HBS := Aside0.mk (fun (w0 w : World) (F : Nat → Prop) (p : Nat) (nodes : List Nd) (empty : List Int) (A : Option Addr) (c : Nat) (h : Tr w0 w F p nodes empty 64) (hC : Kd.C k57 w A (s.map ownC).length (s.map ownC)) (hb : Below w0.heap.size w0 w) => build_few h hns A c hC hb)
  have HCS := Aside0.mk (fun (w0 w : World) (F : Nat → Prop) (p : Nat) (nodes : List Nd) (empty : List Int) (i : Nat) (h : Tr w0 w F p nodes empty 64) (hr : Rep nodes (rootQ (s.map ownC)) i) => cells_set h (by have := h.lim; omega) hns hr)
  have HAS := Aside0.mk (fun A B c d w h1 h2 h3 h4 => are_walk (s.map ownC) s (by have := hns.len; omega) A B c d w h1 h2 h3 h4)
  simp only [if_true] at HAS
  generalize s.map ownC = S at *
  have HWS := Aside0.mk hws
  generalize raw.length = rn at *
  have hlc := lv1 i hi.1
  generalize lvAt [nd0] i = lv at *
  have hcv : IntKind.i64.wrap i = i := by rw [IntKind.wrap_i64]; omega
  clear hs hws hns hR hrc hlv3 hi
  have hnew := fun w => tr_new 64 (by decide) w
  rw [show max (64 : Int) 64 = 64 from rfl] at hnew
  have HNEW := Aside0.mk hnew
  clear hnew
  go_enter Try.func7, Try.ntmps7
  go_upto_region 5 with (first
    | (go_at_call 15; refine (awake_walk _).mono ?_; rintro e w1 ⟨rfl, hb1⟩; have HB1 := Aside0.mk hb1; clear hb1)
    | (go_at_call 40; refine (HNEW.out _).mono ?_; rintro e w2 ⟨p, F, rfl, ht, hb2⟩; have HT2 := Aside0.mk ht; have HB2 := Aside0.mk hb2; clear ht hb2))
  have hn44 := fun (w : World) => errNeq w 4 4
  have hn84 := fun (w : World) => errEq w 8 8
  rw [show ((4 : Int) != 4) = false from by decide] at hn44
  rw [show ((8 : Int) == 8) = true from by decide] at hn84
  rcases hlc with ⟨rfl, rfl⟩ | ⟨h0, rfl⟩
  all_goals (
    go_upto_region 13 with (first
      | (go_at_call 29; with_reducible refine (HLV.out _ _ _ _ HT2.out).mono ?_; rintro e w3 ⟨rfl, rfl⟩)
      | (go_at_call 27; with_reducible refine (HCA.out _ _ _ _ HT2.out).mono ?_; rintro e w4 ⟨rfl, rfl⟩)
      | (go_at_call 30; with_reducible refine (HPA.out _ _ _ _ HT2.out).mono ?_; rintro e w5 ⟨rfl, hb5⟩; have HT5 := Aside0.mk (HT2.out.below hb5); have HB5 := Aside0.mk (chain HB2.out hb5 HB2.out.size); clear hb5)
      | (go_at_call 34; with_reducible refine (HBN.out _ _ _ _ HT5.out).mono ?_; rintro e w6 ⟨rfl, hb6⟩; have HT6 := Aside0.mk (HT5.out.below (below_alloc hb6 (.cells #[.int .i64 0, .int .i64 0, .int .i64 0, .int .i64 0] 27))); have HB6 := Aside0.mk (chain HB5.out (below_alloc hb6 (.cells #[.int .i64 0, .int .i64 0, .int .i64 0, .int .i64 0] 27)) HB5.out.size); clear hb6)
      | (go_at_call 38; with_reducible refine (HGN.out _ _ _ _ HT6.out).mono ?_; rintro e w7 ⟨rfl, hb7⟩; have HT7 := Aside0.mk (HT6.out.below hb7); have HB7 := Aside0.mk (chain HB6.out hb7 HB6.out.size); clear hb7)
      | (go_at_call 22; with_reducible refine (HWS.out _ (chain HB1.out HB7.out HB1.out.size)).mono ?_; rintro e w8 ⟨sA, sc, rfl, hsc, hsR, hb8⟩; have HT8 := Aside0.mk (HT7.out.below hb8); have HB8 := Aside0.mk (chain HB7.out hb8 HB7.out.size); have HSR := Aside0.mk hsR; have HSC := Aside0.mk (Kd.R_reads' hsR).2.2; have HSc := Aside0.mk hsc; clear hsc hsR hb8))
    go_upto_region 14 with (first
      | (go_at_call 25; with_reducible refine (HOS.out _ _ _ HSC.out HSc.out).mono ?_; rintro e w9 ⟨yA, yc, rfl, hyc, hyC, hb9⟩; have HT9 := Aside0.mk (HT8.out.below hb9); have HYC := Aside0.mk hyC; have HB9 := Aside0.mk (chain HB8.out hb9 HB8.out.size); have HSR9 := Aside0.mk (Kd.R_below HSR.out hb9); clear hyc hyC hb9)
      | (go_at_call 24; with_reducible refine (HBS.out _ _ _ _ _ _ _ _ HT9.out HYC.out HB9.out).mono ?_; rintro e w10 ⟨F10, nodes10, empty10, r, code, rfl, ht10, hr10, hb10, hk10⟩; have HSC10 := Aside0.mk (Kd.R_reads' (Kd.R_step HSR9.out (fun k ho hlt => hk10.block k hlt (fun hf => by have := HT7.out.hold.hi k hf; omega)))).2.2; have HT10 := Aside0.mk ht10; have HR10 := Aside0.mk hr10; have HB10 := Aside0.mk hb10; clear ht10 hr10 hb10 hk10))
    rcases HR10.out with ⟨rfl, j, rfl, hrep⟩ | ⟨rfl, rfl, hlen⟩
    · have hno : errOf 0 = .nilIface := rfl
      rw [hno]
      have HREP := Aside0.mk hrep
      clear hno hrep
      go_wp2_with (first
        | (go_at_call 27; with_reducible refine (HCS.out _ _ _ _ _ _ _ HT10.out HREP.out).mono ?_; rintro e w11 ⟨gA, gc, rfl, hgc, hgC, hb11⟩; have HB11 := Aside0.mk (chain HB10.out hb11 HB10.out.size); have HGC := Aside0.mk hgC; have HGc := Aside0.mk hgc; have HSC11 := Aside0.mk (Kd.C_below HSC10.out hb11); clear hgc hgC hb11)
        | (go_at_call 28; with_reducible refine (HAS.out _ _ _ _ _ HGC.out HGc.out HSC11.out HSc.out).mono ?_; rintro e w12 ⟨rfl, hb12⟩; have HB12 := Aside0.mk (chain HB11.out hb12 HB11.out.size); clear hb12))
      refine bodyPost_ret (v := .bool true) (by simp [results, Try.results7, go_sem]) rfl ?_
      exact ⟨rfl, chain HB1.out HB12.out HB1.out.size⟩
    · have hno : errOf 8 = .iface 59 (.int .i64 8) := rfl
      rw [hno]
      have hL := alen_walk F10 p nodes10 empty10 64 _ HT10.out.hold.ar
      rw [hlen] at hL
      have HL := Aside0.mk hL
      clear hno hlen hL
      go_wp2_with (go_at_call 26; refine HL.out.mono ?_; rintro e w11 ⟨rfl, rfl⟩)
      refine bodyPost_ret (v := .bool true) (by simp [results, Try.results7, go_sem]) rfl ?_
      exact ⟨rfl, chain HB1.out HB10.out HB1.out.size⟩)
theorem few_law (i : Int) (h0 : 0 ≤ i) (h1 : i < 4294967296) (rA : Option Addr) (rn rc : Nat) (raw : List Rc) (w : World) (hrl : raw.length = rn) (hR : Kd.C k30 w rA rn raw) (hrc : rn ≤ rc) :
    Calls Try.prog 7 #[.int .u32 i, .slice rA rn rc] w fun e w' => e = .returned (.bool true) ∧ Below w.heap.size w w' := by
  subst hrl
  exact few_walk i ⟨h0, h1⟩ raw rA rc w hR hrc
end Go.Proofs.Ytbkbkgfpnefilaa.tr
namespace Go.Proofs.Ytbkbkgfpnefilaa.lawTreeFew
open Go.ChangeShapes Go.WideShapes Go.ChangeAt Go.RowKit Go.Joins

theorem params_read : ∀ t ∈ Try.f7.params.toList, Try.prog.readableRec t = true ∧ t < Try.prog.types.size := by
  have h : (Try.f7.params.toList.all fun t => Try.prog.readableRec t && decide (t < Try.prog.types.size)) = true := by kernel_rfl
  intro t ht
  have := List.all_eq_true.1 h t ht
  simpa using this
set_option maxRecDepth 100000 in
theorem contract (H : Type) (enc : TypeId × Value → H) (W : World) (base : Nat) (args : Array Value) (ds gs : List (DataW H)) (before : List MemPlace)
    (hval : ∀ (j : Nat) t v, Try.f7.params[j]? = some t → args[j]? = some v → Value.okWide Try.prog W .any base t v)
    (hW : DataW.Whole enc Try.prog Try.f7.params.toList Rows.treeFewSpec.vars false W args.toList ds gs before) :
    Calls Try.prog 7 args W fun e W' => ∃ v, e = .returned v ∧ Rows.treeFewSpec.post enc Try.prog Try.f7 false true false false W args v W' := by
  have hW' := hW
  obtain ⟨p, q, hA0, hV, rfl, hfz, hnd⟩ := hW
  have hA : DataW.TrodAll enc Try.prog W 0 (fun _ => true) true Try.f7.params.toList args.toList ds p := hA0
  rw [Try.params7] at hA hval
  obtain ⟨v0, vs0, d0, ds0, p0, q0, hargs, rfl, rfl, h0, r0⟩ := trodAll_cons hA
  obtain ⟨v1, vs1, d1, ds1, p1, q1, rfl, rfl, rfl, h1, r1⟩ := trodAll_cons r0
  obtain ⟨rfl, rfl, rfl⟩ := trodAll_nil r1
  obtain rfl : args = #[v0, v1] := by cases args; simp_all
  obtain ⟨rfl, rfl⟩ := trodVars_none hV
  obtain ⟨i, rfl, rfl, rfl, wi⟩ := open_int Try.underlying38 (hval 0 38 v0 rfl rfl) h0
  obtain ⟨rawA, rawn, rawc, raw, rfl, rawl, rawC, rawg, rawm⟩ := tr.open_rowsC PTreeBuilds.k30 tr.RcOk Try.underlying31 (by kernel_rfl) (fun m cs y h => tr.rcell_open m cs y h) (hval 1 31 v1 rfl rfl) h1
  clear hA0
  have bi := bs.bd_u32 wi
  refine (tr.few_law i bi.1 (Int.lt_of_le_of_lt bi.2 (by decide)) rawA rawn rawc raw W rawl rawC rawm).mono fun e W' ⟨he, hg⟩ => ?_
  subst he
  exact ⟨_, rfl, bs.post_law (tb := 4) hW' hg (by kernel_rfl) params_read rfl rfl Try.underlying4 rfl (fun _ => okWide_bool_mk Try.underlying4 _)⟩

theorem own : ownKnob Try.prog.godebug = none := by kernel_rfl
set_option maxRecDepth 100000 in
theorem lifted (os : Os) (started : os.Started) (H : Type) (enc : TypeId × Value → H) :
    ReturnsInHanded {} Try.checked os 7 .any (Rows.treeFewSpec.pre6 enc Try.prog Try.f7 Rows.treeFewRow.domain false) (Rows.treeFewSpec.post enc Try.prog Try.f7 false true false false) := by
  refine returnsInHanded_of_change_sized (C := Try.checked) own started (by kernel_rfl) Try.func7
    (ChangeSpec.witness6 (enc := enc) (C := Try.checked) false ⟨#[], #[Value.int .u32 0, .slice none 0 0], []⟩ 8 (by kernel_rfl) (by kernel_rfl) (by kernel_rfl) (by kernel_rfl)) ?_
  intro W base args ds gs before hval hW _ _ _
  exact contract H enc W base args ds gs before hval hW

theorem said : Rows.TreeFewSaid :=
  OpenClaim.holds_of_wide 7 Try.f7 rfl rfl rfl rfl rfl rfl rfl ⟨rfl, rfl, rfl, rfl, rfl⟩ rfl rfl rfl rfl rfl (by kernel_rfl) Try.func7 (by kernel_rfl)
    (of_decide_eq_true (by kernel_rfl)) (by unfold Func.isWrapper; first | (rw [if_pos (by decide +kernel)]; kernel_rfl) | (rw [if_neg (by decide +kernel)]; exact ⟨rfl, rfl⟩))
    (fun os started H enc _ => lifted os started H enc)
end Go.Proofs.Ytbkbkgfpnefilaa.lawTreeFew
