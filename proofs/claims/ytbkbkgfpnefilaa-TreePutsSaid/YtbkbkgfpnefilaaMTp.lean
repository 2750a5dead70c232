/- For any cells, near or far, any twenty of them put in, or out, the law TreePuts answers true: what lives behind each; the same node as building the set anew gives, where the level is the same; what is not inside, or no half, is told. No condition. -/
import Derived.Test.YtbkbkgfpnefilaaMSh
import Derived.Test.YtbkbkgfpnefilaaMPu
import Derived.Test.YtbkbkgfpnefilaaMGt
import Derived.Test.YtbkbkgfpnefilaaQTreeBuildsxLess
import Derived.Test.YtbkbkgfpnefilaaRow
namespace Go.Proofs.Ytbkbkgfpnefilaa.tr
open Go.RowKit Go.Proofs.Ytbkbkgfpnefilaa.PTreeBuilds Go.Proofs.YtbkbkgfpnefilaaW.PrintWords Go.Proofs.YtbkbkgfpnefilaaW.PrintLast Go.Proofs.YtbkbkgfpnefilaaW.PrintMore Go.Proofs.Ytbkbkgfpnefilaa.bs Go.ChangeShapes Go.Proofs.Ytbkbkgfpnefilaa.lb Go.Proofs.Ytbkbkgfpnefilaa.ar Go.Maps

theorem wide_walk (raw : List Rc) (A : Option Addr) (c : Nat) (w : World) (hC : Kd.C k30 w A raw.length raw) (hc : raw.length ≤ c) :
    Calls Try.prog 22 #[.slice A raw.length c] w fun e w' => ∃ A' c', e = .returned (.slice A' (wideR raw).length c') ∧ (wideR raw).length ≤ c' ∧ Kd.C k30 w' A' (wideR raw).length (wideR raw) ∧ Below w.heap.size w w' := by
  refine (honeycomblaw13_Wide.calls 4000 A c raw (wideR raw) w hC hc (wide_val raw 4000 (by omega))).mono fun e w' ⟨v, he, hr, hb⟩ => ?_
  obtain ⟨A', c', hv, hc', hC'⟩ := Kd.R_reads hr
  exact ⟨A', c', by rw [he, hv], hc', hC', hb⟩
theorem are_walk (l : List Cl) (m : List Rc) (hm : m.length ≤ 1000000) (A B : Option Addr) (c d : Nat) (w : World) (hl : Kd.C k57 w A l.length l) (hc : l.length ≤ c) (hM : Kd.C k30 w B m.length m) (hd : m.length ≤ d) :
    Calls Try.prog 28 #[.slice A l.length c, .slice B m.length d] w fun e w' => e = .returned (.int .i64 (if l = m.map ownC then 0 else -1)) ∧ Below w.heap.size w w' :=
  honeycomblaw04_Are.calls (m.length + 1) A c l B d m _ w hl hc hM hd (are_val l m hm _ (by omega))
set_option maxRecDepth 100000 in
set_option maxHeartbeats 4000000 in
theorem shares_walk (raw other : List Rc) (rA oA : Option Addr) (rc oc : Nat) (w : World) (hR : Kd.C k30 w rA raw.length raw) (hrc : raw.length ≤ rc) (hO : Kd.C k30 w oA other.length other) (hoc : other.length ≤ oc) :
    Calls Try.prog 4 #[.slice rA raw.length rc, .slice oA other.length oc] w fun e w' => e = .returned (.bool true) ∧ Below w.heap.size w w' := by
  have hws := fun (w' : World) (hb : Below w.heap.size w w') => wide_walk raw rA rc w' (Kd.C_below hR hb) hrc
  have hwt := fun (w' : World) (hb : Below w.heap.size w w') => wide_walk other oA oc w' (Kd.C_below hO hb) hoc
  have hns := wide_near raw
  have hnt := wide_near other
  obtain ⟨s, hs⟩ : ∃ s, wideR raw = s := ⟨_, rfl⟩
  obtain ⟨t, ht⟩ : ∃ t, wideR other = t := ⟨_, rfl⟩
  simp only [hs] at hws hns
  simp only [ht] at hwt hnt
  have HWS := Aside0.mk hws
  have HWT := Aside0.mk hwt
  have HX := Aside0.mk (show rootQ (s.map ownC) = rootQ (t.map ownC) → s.map ownC = t.map ownC from hns.same hnt)
  have HOS := Aside0.mk (fun A c w h1 h2 => own_near hns A c w h1 h2)
  have HOT := Aside0.mk (fun A c w h1 h2 => own_near hnt A c w h1 h2)
  have HMK := Aside0.mk (fun A c w h1 h2 => (make_near (A := A) (c := c) (w := w) h1 h2 hns.len hns.bd).mono (fun _ _ h => make_roomy (by rw [List.length_map]; exact hns.len) h))
  have HBS := Aside0.mk (fun (w0 w : World) (F : Nat → Prop) (p N : Nat) (nodes : List Nd) (empty : List Int) (A : Option Addr) (c : Nat) (h : Roomy w0 w F p nodes empty N) (hN : N ≤ 200000) (hC : Kd.C k57 w A (s.map ownC).length (s.map ownC)) (hb : Below w0.heap.size w0 w) => build_roomy h hN hns A c hC hb)
  have HBT := Aside0.mk (fun (w0 w : World) (F : Nat → Prop) (p N : Nat) (nodes : List Nd) (empty : List Int) (A : Option Addr) (c : Nat) (h : Roomy w0 w F p nodes empty N) (hN : N ≤ 200000) (hC : Kd.C k57 w A (t.map ownC).length (t.map ownC)) (hb : Below w0.heap.size w0 w) => build_roomy h hN hnt A c hC hb)
  have HCS := Aside0.mk (fun (w0 w : World) (F : Nat → Prop) (p N : Nat) (nodes : List Nd) (empty : List Int) (i : Nat) (h : Roomy w0 w F p nodes empty N) (hN : N ≤ 200000) (hr : Rep nodes (rootQ (s.map ownC)) i) => cells_roomy h hN hns hr 100 (by omega))
  have HCT := Aside0.mk (fun (w0 w : World) (F : Nat → Prop) (p N : Nat) (nodes : List Nd) (empty : List Int) (i : Nat) (h : Roomy w0 w F p nodes empty N) (hN : N ≤ 200000) (hr : Rep nodes (rootQ (t.map ownC)) i) => cells_roomy h hN hnt hr 100 (by omega))
  have HAS := Aside0.mk (fun A B c d w h1 h2 h3 h4 => are_walk (s.map ownC) s (by have := hns.len; omega) A B c d w h1 h2 h3 h4)
  have HAT := Aside0.mk (fun A B c d w h1 h2 h3 h4 => are_walk (t.map ownC) t (by have := hnt.len; omega) A B c d w h1 h2 h3 h4)
  have HAX := Aside0.mk (fun A B c d w h1 h2 h3 h4 => are_walk (s.map ownC) t (by have := hnt.len; omega) A B c d w h1 h2 h3 h4)
  simp only [if_true] at HAS HAT
  generalize s.map ownC = S at *
  generalize t.map ownC = T at *
  generalize raw.length = rn at *
  generalize other.length = on at *
  clear hs ht hws hwt hns hnt hR hO hrc hoc
  go_enter Try.func4, Try.ntmps4
  go_upto_region 4 with (first
    | (go_at_call 15; refine (awake_walk _).mono ?_; rintro e w1 ⟨rfl, hb1⟩; have HB1 := Aside0.mk hb1; clear hb1)
    | (go_at_call 22; with_reducible refine (HWS.out _ HB1.out).mono ?_; rintro e w2 ⟨sA, sc, rfl, hsc, hsC, hb2⟩; have HB2 := Aside0.mk (chain HB1.out hb2 HB1.out.size); have HSC := Aside0.mk hsC; have HSc := Aside0.mk hsc; clear hsc hsC hb2)
    | (go_at_call 22; with_reducible refine (HWT.out _ HB2.out).mono ?_; rintro e w3 ⟨tA, tc, rfl, htc, htC, hb3⟩; have HB3 := Aside0.mk (chain HB2.out hb3 HB2.out.size); have HSC3 := Aside0.mk (Kd.C_below HSC.out hb3); have HTC := Aside0.mk htC; have HTc := Aside0.mk htc; clear htc htC hb3))
  go_upto_region 9 with (first
    | (go_at_call 23; with_reducible refine (HMK.out _ _ _ HSC3.out HSc.out).mono ?_; rintro e w4 ⟨p, F4, nodes4, empty4, x, rfl, hr4, hx4, hb4⟩; have HR4 := Aside0.mk hr4; have HX4 := Aside0.mk hx4; have HB4 := Aside0.mk hb4; clear hr4 hx4 hb4)
    | (go_at_call 25; with_reducible refine (HOT.out _ _ _ (Kd.C_below HTC.out HB4.out) HTc.out).mono ?_; rintro e w5 ⟨yA, yc, rfl, hyc, hyC, hb5⟩; have HR5 := Aside0.mk (HR4.out.below hb5); have HYC := Aside0.mk hyC; have HB5 := Aside0.mk (chain HB4.out hb5 HB4.out.size); clear hyc hyC hb5)
    | (go_at_call 24; with_reducible refine (HBT.out _ _ _ _ _ _ _ _ _ HR5.out (by omega) HYC.out HB5.out).mono ?_; rintro e w6 ⟨F6, nodes6, empty6, y, rfl, hr6, ho6, hy6, hh6, hb6⟩; have HR6 := Aside0.mk hr6; have HY6 := Aside0.mk hy6; have HX6 := Aside0.mk (ho6 _ _ HX4.out); have HB6 := Aside0.mk hb6; clear hr6 ho6 hy6 hh6 hb6)
    | (go_at_call 25; with_reducible refine (HOS.out _ _ _ (Kd.C_below HSC3.out HB6.out) HSc.out).mono ?_; rintro e w7 ⟨zA, zc, rfl, hzc, hzC, hb7⟩; have HR7 := Aside0.mk (HR6.out.below hb7); have HZC := Aside0.mk hzC; have HB7 := Aside0.mk (chain HB6.out hb7 HB6.out.size); clear hzc hzC hb7)
    | (go_at_call 24; with_reducible refine (HBS.out _ _ _ _ _ _ _ _ _ HR7.out (by omega) HZC.out HB7.out).mono ?_; rintro e w8 ⟨F8, nodes8, empty8, z, rfl, hr8, ho8, hz8, hh8, hb8⟩; have HN8 := Aside0.mk (hh8 ⟨_, HX6.out⟩); have HR8 := Aside0.mk hr8; have HZ8 := Aside0.mk hz8; have HB8 := Aside0.mk hb8; clear hr8 ho8 hz8 hh8 hb8))
  obtain rfl : nodes8 = nodes6 := HN8.out
  obtain rfl : z = x := Rep.same HR8.out.tr.once HZ8.out HX6.out
  clear HN8 HX6 HX4 HR4 HR5 HR6 HR7 HB4 HB5 HB6 HB7 HYC HZC HMK
  go_upto_region 13 with (first
    | (go_at_call 26; refine (alen_walk F8 p nodes8 empty8 1048576 _ HR8.out.tr.hold.ar).mono ?_; rintro e w9 ⟨rfl, rfl⟩)
    | (go_at_call 25; with_reducible refine (HOT.out _ _ _ (Kd.C_below HTC.out HB8.out) HTc.out).mono ?_; rintro e w10 ⟨yA, yc, rfl, hyc, hyC, hb10⟩; have HR10 := Aside0.mk (HR8.out.below hb10); have HYC := Aside0.mk hyC; have HB10 := Aside0.mk (chain HB8.out hb10 HB8.out.size); clear hyc hyC hb10)
    | (go_at_call 24; with_reducible refine (HBT.out _ _ _ _ _ _ _ _ _ HR10.out (by omega) HYC.out HB10.out).mono ?_; rintro e w11 ⟨F11, nodes11, empty11, v, rfl, hr11, ho11, hv11, hh11, hb11⟩; obtain rfl : nodes11 = nodes8 := hh11 ⟨_, HY6.out⟩; obtain rfl : v = y := Rep.same hr11.tr.once hv11 HY6.out; have HR11 := Aside0.mk hr11; have HB11 := Aside0.mk hb11; clear hr11 ho11 hv11 hh11 hb11)
    | (go_at_call 27; with_reducible refine (HCS.out _ _ _ _ _ _ _ _ HR11.out (by omega) HZ8.out).mono ?_; rintro e w12 ⟨oneA, onec, rfl, honec, hone, hb12⟩; have HR12 := Aside0.mk (HR11.out.below hb12); have HB12 := Aside0.mk (chain HB11.out hb12 HB11.out.size); have HONE := Aside0.mk hone; have HONEc := Aside0.mk honec; clear honec hone hb12)
    | (go_at_call 27; with_reducible refine (HCT.out _ _ _ _ _ _ _ _ HR12.out (by omega) HY6.out).mono ?_; rintro e w13 ⟨twoA, twoc, rfl, htwoc, htwo, hb13⟩; have HR13 := Aside0.mk (HR12.out.below hb13); have HB13 := Aside0.mk (chain HB12.out hb13 HB12.out.size); have HONE13 := Aside0.mk (Kd.C_below HONE.out hb13); have HTWO := Aside0.mk htwo; have HTWOc := Aside0.mk htwoc; clear htwoc htwo hb13))
  clear HBS HBT HCS HCT HOT HWS HWT HR8 HR10 HR11 HR12 HB8 HB10 HB11 HB12 HYC
  by_cases hxy : z = v
  · subst hxy
    have hST : S = T := HX.out (Rep.one HZ8.out HY6.out)
    subst hST
    simp only [if_true] at HAX
    clear HX HZ8 HY6
    go_wp2_with (first
      | (go_at_call 26; refine (alen_walk F11 p nodes11 empty11 1048576 _ HR13.out.tr.hold.ar).mono ?_; rintro e w14 ⟨rfl, rfl⟩)
      | (go_at_call 25; with_reducible refine (HOS.out _ _ _ (Kd.C_below HSC3.out HB13.out) HSc.out).mono ?_; rintro e w15 ⟨yA, yc, rfl, hyc, hyC, hb15⟩; have HB15 := Aside0.mk (chain HB13.out hb15 HB13.out.size); have HONE15 := Aside0.mk (Kd.C_below HONE13.out hb15); have HTWO15 := Aside0.mk (Kd.C_below HTWO.out hb15); have HYC := Aside0.mk hyC; have HYc := Aside0.mk hyc; clear hyc hyC hb15)
      | (go_at_call 28; with_reducible refine (HAX.out _ _ _ _ _ HYC.out HYc.out (Kd.C_below HTC.out HB15.out) HTc.out).mono ?_; rintro e w16 ⟨rfl, hb16⟩; have HB16 := Aside0.mk (chain HB15.out hb16 HB15.out.size); have HONE16 := Aside0.mk (Kd.C_below HONE15.out hb16); have HTWO16 := Aside0.mk (Kd.C_below HTWO15.out hb16); clear hb16 HYC)
      | (go_at_call 28; with_reducible refine (HAS.out _ _ _ _ _ HONE16.out HONEc.out (Kd.C_below HSC3.out HB16.out) HSc.out).mono ?_; rintro e w17 ⟨rfl, hb17⟩; have HB17 := Aside0.mk (chain HB16.out hb17 HB16.out.size); have HTWO17 := Aside0.mk (Kd.C_below HTWO16.out hb17); clear hb17 HONE16)
      | (go_at_call 28; with_reducible refine (HAT.out _ _ _ _ _ HTWO17.out HTWOc.out (Kd.C_below HTC.out HB17.out) HTc.out).mono ?_; rintro e w18 ⟨rfl, hb18⟩; have HB18 := Aside0.mk (chain HB17.out hb18 HB17.out.size); clear hb18))
    refine bodyPost_ret (v := .bool true) (by simp [results, Try.results4, go_sem]) rfl ?_
    exact ⟨rfl, chain HB3.out HB18.out HB3.out.size⟩
  · have hST : ¬ S = T := fun h => hxy (by subst h; exact Rep.same HR13.out.tr.once HZ8.out HY6.out)
    simp only [if_neg hST] at HAX
    have hne : ((z : Int) == (v : Int)) = false := by rw [beq_eq_false_iff_ne]; omega
    clear HX HZ8 HY6 hxy hST
    go_wp2_with (first
      | (go_at_call 26; refine (alen_walk F11 p nodes11 empty11 1048576 _ HR13.out.tr.hold.ar).mono ?_; rintro e w14 ⟨rfl, rfl⟩)
      | (go_at_call 25; with_reducible refine (HOS.out _ _ _ (Kd.C_below HSC3.out HB13.out) HSc.out).mono ?_; rintro e w15 ⟨yA, yc, rfl, hyc, hyC, hb15⟩; have HB15 := Aside0.mk (chain HB13.out hb15 HB13.out.size); have HONE15 := Aside0.mk (Kd.C_below HONE13.out hb15); have HTWO15 := Aside0.mk (Kd.C_below HTWO.out hb15); have HYC := Aside0.mk hyC; have HYc := Aside0.mk hyc; clear hyc hyC hb15)
      | (go_at_call 28; with_reducible refine (HAX.out _ _ _ _ _ HYC.out HYc.out (Kd.C_below HTC.out HB15.out) HTc.out).mono ?_; rintro e w16 ⟨rfl, hb16⟩; have HB16 := Aside0.mk (chain HB15.out hb16 HB15.out.size); have HONE16 := Aside0.mk (Kd.C_below HONE15.out hb16); have HTWO16 := Aside0.mk (Kd.C_below HTWO15.out hb16); clear hb16 HYC)
      | (go_at_call 28; with_reducible refine (HAS.out _ _ _ _ _ HONE16.out HONEc.out (Kd.C_below HSC3.out HB16.out) HSc.out).mono ?_; rintro e w17 ⟨rfl, hb17⟩; have HB17 := Aside0.mk (chain HB16.out hb17 HB16.out.size); have HTWO17 := Aside0.mk (Kd.C_below HTWO16.out hb17); clear hb17 HONE16)
      | (go_at_call 28; with_reducible refine (HAT.out _ _ _ _ _ HTWO17.out HTWOc.out (Kd.C_below HTC.out HB17.out) HTc.out).mono ?_; rintro e w18 ⟨rfl, hb18⟩; have HB18 := Aside0.mk (chain HB17.out hb18 HB17.out.size); clear hb18))
    refine bodyPost_ret (v := .bool true) (by simp [results, Try.results4, go_sem]) rfl ?_
    exact ⟨rfl, chain HB3.out HB18.out HB3.out.size⟩
theorem shares_law (rA oA : Option Addr) (rn rc on oc : Nat) (raw other : List Rc) (w : World) (hrl : raw.length = rn) (hR : Kd.C k30 w rA rn raw) (hrc : rn ≤ rc) (hol : other.length = on) (hO : Kd.C k30 w oA on other) (hoc : on ≤ oc) :
    Calls Try.prog 4 #[.slice rA rn rc, .slice oA on oc] w fun e w' => e = .returned (.bool true) ∧ Below w.heap.size w w' := by
  subst hrl hol
  exact shares_walk raw other rA oA rc oc w hR hrc hO hoc
end Go.Proofs.Ytbkbkgfpnefilaa.tr
namespace Go.Proofs.Ytbkbkgfpnefilaa.tr
open Go.RowKit Go.Proofs.Ytbkbkgfpnefilaa.PTreeBuilds Go.Proofs.YtbkbkgfpnefilaaW.PrintWords Go.Proofs.YtbkbkgfpnefilaaW.PrintLast Go.Proofs.YtbkbkgfpnefilaaW.PrintMore Go.Proofs.Ytbkbkgfpnefilaa.bs Go.ChangeShapes Go.Proofs.Ytbkbkgfpnefilaa.lb Go.Proofs.Ytbkbkgfpnefilaa.ar Go.Maps

theorem wide_row (raw : List Rc) (A : Option Addr) (c : Nat) (w : World) (hC : Kd.C k30 w A raw.length raw) (hc : raw.length ≤ c) :
    Calls Try.prog 22 #[.slice A raw.length c] w fun e w' => ∃ A' c', e = .returned (.slice A' (wideR raw).length c') ∧ (wideR raw).length ≤ c' ∧ Kd.R k30 30 w' w.heap.size (fun k => w.heap.size ≤ k) (.slice A' (wideR raw).length c') (wideR raw) ∧ Below w.heap.size w w' := by
  refine (honeycomblaw13_Wide.calls 4000 A c raw (wideR raw) w hC hc (wide_val raw 4000 (by omega))).mono fun e w' ⟨v, he, hr, hb⟩ => ?_
  have hr2 := Kd.R_mono (Kd.R_bound hr) (ok' := fun k => w.heap.size ≤ k) (fun k hk => hk.2.1)
  obtain ⟨A', c', hv, hc', hC'⟩ := Kd.R_reads hr
  exact ⟨A', c', by rw [he, hv], hc', by rw [← hv]; exact hr2, hb⟩
section
variable {w0 w : World} {F : Nat → Prop} {p : Nat} {nodes : List Nd} {empty : List Int} {most : Int}
set_option maxRecDepth 100000 in
set_option maxHeartbeats 1000000 in
theorem put_arg (hA : Ar w F p nodes empty most) (k a b h : Int) (live : Bool) (hk : 0 ≤ k ∧ k < 4294967296) (hlt : lvAt nodes k < 3) :
    Calls Try.prog 30 #[.pointer (some ⟨p, 0, none⟩), .int .u32 k, .agg #[.int .i64 a, .int .i64 b, .int .i64 h], .bool live] w fun e w' => e = .returned (.tuple #[.int .u32 0, .iface 59 (.int .i64 4)]) ∧ Below w.heap.size w w' := by
  have hb := below_alloc (Below.refl w.heap.size w) (.cells #[.int .i64 a, .int .i64 b, .int .i64 h] 57)
  have hlev := level_walk F p nodes empty most _ (hA.below hb) k hk.1 hk.2
  generalize lvAt nodes k = lv at *
  have HLEV := Aside0.mk hlev
  have HB := Aside0.mk hb
  clear hlev hA hb hk
  go_enter Try.func30, Try.ntmps30
  go_wp2_with (go_at_call 29; refine HLEV.out.mono ?_; rintro e w1 ⟨rfl, rfl⟩)
  refine bodyPost_ret (v := .tuple #[.int .u32 0, .iface 59 (.int .i64 4)]) (by simp [results, Try.results30, go_sem]) rfl ?_
  exact ⟨rfl, HB.out⟩
set_option maxRecDepth 100000 in
set_option maxHeartbeats 1000000 in
theorem box_no (hA : Ar w F p nodes empty most) (k : Int) (hk : 0 ≤ k ∧ k < 4294967296) (hlt : lvAt nodes k < 3) :
    Calls Try.prog 34 #[.pointer (some ⟨p, 0, none⟩), .int .u32 k] w fun e w' => e = .returned (.tuple #[.agg #[.int .i64 0, .int .i64 0, .int .i64 0, .int .i64 0], .bool false]) ∧ Below w.heap.size w w' := by
  have hb := below_alloc (Below.refl w.heap.size w) (.cells #[.int .i64 0, .int .i64 0, .int .i64 0, .int .i64 0] 27)
  have hlev := level_walk F p nodes empty most _ (hA.below hb) k hk.1 hk.2
  have hkb := blk_new w (.cells #[.int .i64 0, .int .i64 0, .int .i64 0, .int .i64 0] 27)
  have c0 := blk_cell hkb 0
  have c1 := blk_cell hkb 1
  have c2 := blk_cell hkb 2
  have c3 := blk_cell hkb 3
  have f0 := blk_frozen hkb 0
  have f1 := blk_frozen hkb 1
  have f2 := blk_frozen hkb 2
  have f3 := blk_frozen hkb 3
  simp only [List.getElem?_toArray, List.getElem?_cons_zero, List.getElem?_cons_succ] at c0 c1 c2 c3
  generalize lvAt nodes k = lv at *
  have HLEV := Aside0.mk hlev
  have HB := Aside0.mk hb
  clear hlev hA hb hk hkb
  go_enter Try.func34, Try.ntmps34
  go_wp2_with (go_at_call 29; refine HLEV.out.mono ?_; rintro e w1 ⟨rfl, rfl⟩)
  refine bodyPost_ret (v := .tuple #[.agg #[.int .i64 0, .int .i64 0, .int .i64 0, .int .i64 0], .bool false]) (by simp [results, Try.results34, go_sem, c0, c1, c2, c3]) rfl ?_
  exact ⟨rfl, HB.out⟩
/-- the cells of a set's root, in any arena -/
theorem cells_set (h : Tr w0 w F p nodes empty most) (hN : nodes.length ≤ 200000) {l : List Rc} (hn : NearR l) {i : Nat} (hR : Rep nodes (rootQ (l.map ownC)) i) :
    Calls Try.prog 27 #[.pointer (some ⟨p, 0, none⟩), .int .u32 i, .int .i64 100] w fun e w' => ∃ A' c', e = .returned (.tuple #[.slice A' (l.map ownC).length c', .nilIface]) ∧ (l.map ownC).length ≤ c' ∧ Kd.C k57 w' A' (l.map ownC).length (l.map ownC) ∧ Below w.heap.size w w' := by
  have hll := hn.len
  have hlv := rlv_bd (l.map ownC)
  refine (cells_ok h.hold.ar (by omega) h.hold.hi (rootQ (l.map ownC)) i hR (by rw [rootQ_lv]; omega) (by rw [rootQ_lv]; omega) (by rw [hn.count.2]; omega) 100 (by omega) (by rw [hn.count.1]; omega)).mono fun e w' ⟨v, he, hr, hb⟩ => ?_
  rw [hn.cells] at hr
  obtain ⟨A, c, hv, hc, hC⟩ := Kd.R_reads hr
  exact ⟨A, c, by rw [he, hv], hc, hC, hb⟩
/-- a set built in a small arena -/
theorem build_few (h : Tr w0 w F p nodes empty 64) {l : List Rc} (hn : NearR l) (A : Option Addr) (c : Nat) (hC : Kd.C k57 w A (l.map ownC).length (l.map ownC)) (hb0 : Below w0.heap.size w0 w) :
    Calls Try.prog 24 #[.pointer (some ⟨p, 0, none⟩), .slice A (l.map ownC).length c] w fun e w' => ∃ F' nodes' empty' r code, e = .returned (.tuple #[.int .u32 r, errOf code]) ∧ Tr w0 w' F' p nodes' empty' 64 ∧ ((code = 0 ∧ ∃ i : Nat, r = (i : Int) ∧ Rep nodes' (rootQ (l.map ownC)) i) ∨ (r = 0 ∧ code = 8 ∧ nodes'.length = 64)) ∧ Below w0.heap.size w0 w' ∧ Keeps F w w' := by
  have hlen : (l.map ownC).length ≤ 40 := by rw [List.length_map]; exact hn.len
  have hlim := h.lim
  refine (tbuild_walk h A c (l.map ownC) hC hn.ok.1 (by omega) hn.ok.2 (by omega)).mono fun e w' hg => ?_
  obtain ⟨F', nodes', empty', r, code, he, hs, hl, hr, hh⟩ := Gets.ex hg
  have hlim' := hs.tr.lim
  refine ⟨F', nodes', empty', r, code, he, hs.tr, ?_, hs.belowAll h hb0, hs.keeps⟩
  rcases hr with ⟨h1, i, h2, h3⟩ | ⟨h1, h2, h3⟩
  · exact .inl ⟨h1, i, h2, h3⟩
  · exact .inr ⟨h1, h2, by omega⟩
end
theorem lv1 (i : Int) (h : 0 ≤ i) : (i = 0 ∧ lvAt [nd0] i = 2) ∨ (0 < i ∧ lvAt [nd0] i = -1) := by
  by_cases h0 : i = 0
  · subst h0; exact .inl ⟨rfl, rfl⟩
  · right
    refine ⟨by omega, ?_⟩
    rcases at_cases [nd0] i h with ⟨j, x, rfl, hx⟩ | ⟨hl, h2, _⟩
    · have := (List.getElem?_eq_some_iff.1 hx).1
      simp at this
      omega
    · exact h2
set_option maxRecDepth 100000 in
set_option maxHeartbeats 4000000 in
theorem few_walk (i : Int) (hi : 0 ≤ i ∧ i < 4294967296) (raw : List Rc) (rA : Option Addr) (rc : Nat) (w : World) (hR : Kd.C k30 w rA raw.length raw) (hrc : raw.length ≤ rc) :
    Calls Try.prog 7 #[.int .u32 i, .slice rA raw.length rc] w fun e w' => e = .returned (.bool true) ∧ Below w.heap.size w w' := by
  have hws := fun (w' : World) (hb : Below w.heap.size w w') => wide_row raw rA rc w' (Kd.C_below hR hb) hrc
  have hns := wide_near raw
  obtain ⟨s, hs⟩ : ∃ s, wideR raw = s := ⟨_, rfl⟩
  simp only [hs] at hws hns
  have hlv3 : lvAt [nd0] i < 3 := by rcases lv1 i hi.1 with ⟨_, h⟩ | ⟨_, h⟩ <;> rw [h] <;> decide
  have HLV := Aside0.mk (fun (w0 w : World) (F : Nat → Prop) (p : Nat) (h : Tr w0 w F p [nd0] [0, 0, 0] 64) => level_walk F p [nd0] [0, 0, 0] 64 w h.hold.ar i hi.1 hi.2)
  have HCA := Aside0.mk (fun (w0 w : World) (F : Nat → Prop) (p : Nat) (h : Tr w0 w F p [nd0] [0, 0, 0] 64) => cells_arg h.hold.ar i 9 hi hlv3)
  have HPA := Aside0.mk (fun (w0 w : World) (F : Nat → Prop) (p : Nat) (h : Tr w0 w F p [nd0] [0, 0, 0] 64) => put_arg h.hold.ar i 0 0 0 true hi hlv3)
  have HBN := Aside0.mk (fun (w0 w : World) (F : Nat → Prop) (p : Nat) (h : Tr w0 w F p [nd0] [0, 0, 0] 64) => box_no h.hold.ar i hi hlv3)
  have HGN := Aside0.mk (fun (w0 w : World) (F : Nat → Prop) (p : Nat) (h : Tr w0 w F p [nd0] [0, 0, 0] 64) => get_no h.hold.ar i hi.1 hi.2 0 0 0 (fun hh => by omega))
  have HOS := Aside0.mk (fun A c w h1 h2 => own_near hns A c w h1 h2)
  have HBS := Aside0.mk (fun (w0 w : World) (F : Nat → Prop) (p : Nat) (nodes : List Nd) (empty : List Int) (A : Option Addr) (c : Nat) (h : Tr w0 w F p nodes empty 64) (hC : Kd.C k57 w A (s.map ownC).length (s.map ownC)) (hb : Below w0.heap.size w0 w) => build_few h hns A c hC hb)
  have HCS := Aside0.mk (fun (w0 w : World) (F : Nat → Prop) (p : Nat) (nodes : List Nd) (empty : List Int) (i : Nat) (h : Tr w0 w F p nodes empty 64) (hr : Rep nodes (rootQ (s.map ownC)) i) => cells_set h (by have := h.lim; omega) hns hr)
  have HAS := Aside0.mk (fun A B c d w h1 h2 h3 h4 => are_walk (s.map ownC) s (by have := hns.len; omega) A B c d w h1 h2 h3 h4)
  simp only [if_true] at HAS
  generalize s.map ownC = S at *
  have HWS := Aside0.mk hws
  generalize raw.length = rn at *
  have hlc := lv1 i hi.1
  generalize lvAt [nd0] i = lv at *
  have hcv : IntKind.i64.wrap i = i := by rw [IntKind.wrap_i64]; omega
  clear hs hws hns hR hrc hlv3 hi
  have hnew := fun w => tr_new 64 (by decide) w
  rw [show max (64 : Int) 64 = 64 from rfl] at hnew
  have HNEW := Aside0.mk hnew
  clear hnew
  go_enter Try.func7, Try.ntmps7
  go_upto_region 5 with (first
    | (go_at_call 15; refine (awake_walk _).mono ?_; rintro e w1 ⟨rfl, hb1⟩; have HB1 := Aside0.mk hb1; clear hb1)
    | (go_at_call 40; refine (HNEW.out _).mono ?_; rintro e w2 ⟨p, F, rfl, ht, hb2⟩; have HT2 := Aside0.mk ht; have HB2 := Aside0.mk hb2; clear ht hb2))
  have hn44 := fun (w : World) => errNeq w 4 4
  have hn84 := fun (w : World) => errEq w 8 8
  rw [show ((4 : Int) != 4) = false from by decide] at hn44
  rw [show ((8 : Int) == 8) = true from by decide] at hn84
  rcases hlc with ⟨rfl, rfl⟩ | ⟨h0, rfl⟩
  all_goals (
    go_upto_region 13 with (first
      | (go_at_call 29; with_reducible refine (HLV.out _ _ _ _ HT2.out).mono ?_; rintro e w3 ⟨rfl, rfl⟩)
      | (go_at_call 27; with_reducible refine (HCA.out _ _ _ _ HT2.out).mono ?_; rintro e w4 ⟨rfl, rfl⟩)
      | (go_at_call 30; with_reducible refine (HPA.out _ _ _ _ HT2.out).mono ?_; rintro e w5 ⟨rfl, hb5⟩; have HT5 := Aside0.mk (HT2.out.below hb5); have HB5 := Aside0.mk (chain HB2.out hb5 HB2.out.size); clear hb5)
      | (go_at_call 34; with_reducible refine (HBN.out _ _ _ _ HT5.out).mono ?_; rintro e w6 ⟨rfl, hb6⟩; have HT6 := Aside0.mk (HT5.out.below (below_alloc hb6 (.cells #[.int .i64 0, .int .i64 0, .int .i64 0, .int .i64 0] 27))); have HB6 := Aside0.mk (chain HB5.out (below_alloc hb6 (.cells #[.int .i64 0, .int .i64 0, .int .i64 0, .int .i64 0] 27)) HB5.out.size); clear hb6)
      | (go_at_call 38; with_reducible refine (HGN.out _ _ _ _ HT6.out).mono ?_; rintro e w7 ⟨rfl, hb7⟩; have HT7 := Aside0.mk (HT6.out.below hb7); have HB7 := Aside0.mk (chain HB6.out hb7 HB6.out.size); clear hb7)
      | (go_at_call 22; with_reducible refine (HWS.out _ (chain HB1.out HB7.out HB1.out.size)).mono ?_; rintro e w8 ⟨sA, sc, rfl, hsc, hsR, hb8⟩; have HT8 := Aside0.mk (HT7.out.below hb8); have HB8 := Aside0.mk (chain HB7.out hb8 HB7.out.size); have HSR := Aside0.mk hsR; have HSC := Aside0.mk (Kd.R_reads' hsR).2.2; have HSc := Aside0.mk hsc; clear hsc hsR hb8))
    go_upto_region 14 with (first
      | (go_at_call 25; with_reducible refine (HOS.out _ _ _ HSC.out HSc.out).mono ?_; rintro e w9 ⟨yA, yc, rfl, hyc, hyC, hb9⟩; have HT9 := Aside0.mk (HT8.out.below hb9); have HYC := Aside0.mk hyC; have HB9 := Aside0.mk (chain HB8.out hb9 HB8.out.size); have HSR9 := Aside0.mk (Kd.R_below HSR.out hb9); clear hyc hyC hb9)
      | (go_at_call 24; with_reducible refine (HBS.out _ _ _ _ _ _ _ _ HT9.out HYC.out HB9.out).mono ?_; rintro e w10 ⟨F10, nodes10, empty10, r, code, rfl, ht10, hr10, hb10, hk10⟩; have HSC10 := Aside0.mk (Kd.R_reads' (Kd.R_step HSR9.out (fun k ho hlt => hk10.block k hlt (fun hf => by have := HT7.out.hold.hi k hf; omega)))).2.2; have HT10 := Aside0.mk ht10; have HR10 := Aside0.mk hr10; have HB10 := Aside0.mk hb10; clear ht10 hr10 hb10 hk10))
    rcases HR10.out with ⟨rfl, j, rfl, hrep⟩ | ⟨rfl, rfl, hlen⟩
    · have hno : errOf 0 = .nilIface := rfl
      rw [hno]
      have HREP := Aside0.mk hrep
      clear hno hrep
      go_wp2_with (first
        | (go_at_call 27; with_reducible refine (HCS.out _ _ _ _ _ _ _ HT10.out HREP.out).mono ?_; rintro e w11 ⟨gA, gc, rfl, hgc, hgC, hb11⟩; have HB11 := Aside0.mk (chain HB10.out hb11 HB10.out.size); have HGC := Aside0.mk hgC; have HGc := Aside0.mk hgc; have HSC11 := Aside0.mk (Kd.C_below HSC10.out hb11); clear hgc hgC hb11)
        | (go_at_call 28; with_reducible refine (HAS.out _ _ _ _ _ HGC.out HGc.out HSC11.out HSc.out).mono ?_; rintro e w12 ⟨rfl, hb12⟩; have HB12 := Aside0.mk (chain HB11.out hb12 HB11.out.size); clear hb12))
      refine bodyPost_ret (v := .bool true) (by simp [results, Try.results7, go_sem]) rfl ?_
      exact ⟨rfl, chain HB1.out HB12.out HB1.out.size⟩
    · have hno : errOf 8 = .iface 59 (.int .i64 8) := rfl
      rw [hno]
      have hL := alen_walk F10 p nodes10 empty10 64 _ HT10.out.hold.ar
      rw [hlen] at hL
      have HL := Aside0.mk hL
      clear hno hlen hL
      go_wp2_with (go_at_call 26; refine HL.out.mono ?_; rintro e w11 ⟨rfl, rfl⟩)
      refine bodyPost_ret (v := .bool true) (by simp [results, Try.results7, go_sem]) rfl ?_
      exact ⟨rfl, chain HB1.out HB10.out HB1.out.size⟩)
theorem few_law (i : Int) (h0 : 0 ≤ i) (h1 : i < 4294967296) (rA : Option Addr) (rn rc : Nat) (raw : List Rc) (w : World) (hrl : raw.length = rn) (hR : Kd.C k30 w rA rn raw) (hrc : rn ≤ rc) :
    Calls Try.prog 7 #[.int .u32 i, .slice rA rn rc] w fun e w' => e = .returned (.bool true) ∧ Below w.heap.size w w' := by
  subst hrl
  exact few_walk i ⟨h0, h1⟩ raw rA rc w hR hrc
end Go.Proofs.Ytbkbkgfpnefilaa.tr
namespace Go.Proofs.Ytbkbkgfpnefilaa.tr
open Go.RowKit Go.Proofs.Ytbkbkgfpnefilaa.PTreeBuilds Go.Proofs.YtbkbkgfpnefilaaW.PrintWords Go.Proofs.YtbkbkgfpnefilaaW.PrintLast Go.Proofs.YtbkbkgfpnefilaaW.PrintMore Go.Proofs.Ytbkbkgfpnefilaa.bs Go.ChangeShapes Go.Proofs.Ytbkbkgfpnefilaa.lb Go.Proofs.Ytbkbkgfpnefilaa.ar Go.Maps

theorem lessR_cons (x : Rc) (xs : List Rc) (c : Rc) : lessR (x :: xs) c = if x = c then lessR xs c else x :: lessR xs c := by
  unfold lessR
  rw [List.filter_cons]
  by_cases h : x = c
  · rw [if_pos h, if_neg (by simp [h])]
  · rw [if_neg h, if_pos (by simp [h])]
theorem less_go (c : Rc) (l : List Rc) (hl : l.length ≤ 1000000) : ∀ (d i k : Nat) (acc : List Rc), i + d = l.length → acc.length ≤ 1000000 + i → d < k →
    honeycombref04_Less.l0 k acc l (l.length : Int) (i : Int) c.f0 c.f1 c.f2 = some (acc ++ lessR (l.drop i) c)
  | 0, i, k, acc, h, ha, hk => by
    obtain ⟨k, rfl⟩ : ∃ m, k = m + 1 := ⟨k - 1, by omega⟩
    unfold honeycombref04_Less.l0
    rw [if_neg (by omega), List.drop_eq_nil_of_le (by omega)]
    simp [lessR]
  | d + 1, i, k, acc, h, ha, hk => by
    obtain ⟨k, rfl⟩ : ∃ m, k = m + 1 := ⟨k - 1, by omega⟩
    have hlt : i < l.length := by omega
    have hg := List.getElem?_eq_getElem hlt
    have hdr : l.drop i = l[i] :: l.drop (i + 1) := List.drop_eq_getElem_cons hlt
    have hw : wrap64 ((i : Int) + 1) = ((i + 1 : Nat) : Int) := by rw [w64 _ (by omega)]; omega
    unfold honeycombref04_Less.l0
    rw [if_pos (by omega), if_pos (by omega), if_pos (by omega), rdR l i _ hg, hdr, hw]
    by_cases hne : l[i] = c
    · rw [if_neg (fun h => (neB _ _).1 h hne), less_go c l hl d (i + 1) k _ (by omega) (by omega) (by omega), lessR_cons, if_pos hne]
    · rw [if_pos ((neB _ _).2 hne), if_pos (by omega), less_go c l hl d (i + 1) k _ (by omega) (by simp; omega) (by omega), lessR_cons, if_neg hne, List.append_assoc]
      rfl
theorem less_val (c : Rc) (l : List Rc) (hl : l.length ≤ 1000000) (k : Nat) (hk : l.length < k) : honeycombref04_Less.f k l c.f0 c.f1 c.f2 = some (lessR l c) := by
  have h := less_go c l hl l.length 0 k [] (by omega) (by simp) hk
  simpa [honeycombref04_Less.f] using h
theorem rinside_any (lv a b : Int) (k : Nat) (hk : 43 < k) (ha : -9223372036854775808 ≤ a ∧ a ≤ 9223372036854775807) (hb : -9223372036854775808 ≤ b ∧ b ≤ 9223372036854775807) :
    ∃ t, honeycombref13_Inside.f k lv a b = some t ∧ ((t = false ∨ a < -1125899906842624 ∨ b < -1125899906842624) ↔ ¬ Ins (pw (hx lv)) a b) := by
  have hpw := pw_le (show hx lv ≤ 43 from hx_le lv)
  have e43 : pw 43 = 8796093022208 := by decide
  unfold honeycombref13_Inside.f
  rw [rhalf_val lv k hk, Option.bind_some]
  generalize pw (hx lv) = h at *
  unfold Ins
  by_cases h1 : a < h
  · rw [if_pos h1]
    by_cases h2 : b < h
    · rw [if_pos h2]
      by_cases ga : a < -1125899906842624
      · by_cases h3 : wrap64 (-a) ≤ h
        · rw [if_pos h3]; exact ⟨_, rfl, fun _ => by omega, fun _ => .inr (.inl ga)⟩
        · rw [if_neg h3]; exact ⟨_, rfl, fun _ => by omega, fun _ => .inl rfl⟩
      · rw [w64 (-a) (by omega)]
        by_cases h3 : -a ≤ h
        · rw [if_pos h3]
          refine ⟨_, rfl, ?_⟩
          by_cases gb : b < -1125899906842624
          · exact ⟨fun _ => by omega, fun _ => .inr (.inr gb)⟩
          · rw [w64 (-b) (by omega), decide_eq_false_iff_not]
            omega
        · rw [if_neg h3]; exact ⟨_, rfl, fun _ => by omega, fun _ => .inl rfl⟩
    · rw [if_neg h2]; exact ⟨_, rfl, fun _ => by omega, fun _ => .inl rfl⟩
  · rw [if_neg h1]; exact ⟨_, rfl, fun _ => by omega, fun _ => .inl rfl⟩
section
variable {w0 w w2 : World} {F F' : Nat → Prop} {p N : Nat} {nodes nodes' : List Nd} {empty empty' : List Int} {most : Int}
/-- a row that is none of the arena's, over a step of the arena -/
theorem row_step {α : Type} {d : Kd α} {e : Nat} {v : Value} {xs : List α} (hr : d.R e w 0 (fun k => ¬ F k) v xs) (hs : Ste w0 w w2 F F' p nodes nodes' empty empty' most) : d.R e w2 0 (fun k => ¬ F' k) v xs :=
  Kd.R_mono (Kd.R_step (Kd.R_bound hr) (fun k hk hlt => hs.keeps.block k hlt hk.1)) (fun k hk => fun hf => hk.1 ((hs.old k hk.2.2.1).1 hf))
/-- a cell put in, or out, where there is room -/
theorem put_roomy (h : Roomy w0 w F p nodes empty N) (hN : N ≤ 200000) {q : Q} {n : Nat} {s : List Rc} (hq : IsSet q n s) {i : Nat} (hR : Rep nodes q i) (c : Rc) (hc : Ins (pw (n - 1)) c.f0 c.f1) (hh : 0 ≤ c.f2 ∧ c.f2 < 2) (live : Bool) (hb0 : Below w0.heap.size w0 w) :
    Calls Try.prog 30 #[.pointer (some ⟨p, 0, none⟩), .int .u32 i, .agg #[.int .i64 c.f0, .int .i64 c.f1, .int .i64 c.f2], .bool live] w fun e w' => ∃ F' nodes' empty', ∃ i' : Nat, ∃ q', e = .returned (.tuple #[.int .u32 i', .nilIface]) ∧ Roomy w0 w' F' p nodes' empty' (N + 100) ∧ Ste w0 w w' F F' p nodes nodes' empty empty' 1048576 ∧ IsSet q' n (doR s c live) ∧ Rep nodes' q' i' ∧ Below w0.heap.size w0 w' := by
  have hnn := h.len
  refine (put_in h.tr q i n hR hq.lv hq.lo hq.hi c.f0 c.f1 c.f2 live hc hh (by omega)).mono fun e w' hg => ?_
  obtain ⟨F', nodes', empty', i', he, hs, hl, hr, hh2⟩ := hg.sure (by omega)
  have := hs.tr.emq.hi
  exact ⟨F', nodes', empty', i', _, he, ⟨hs.tr, by omega⟩, hs, hq.put c live hc hh, hr, hs.belowAll h.tr hb0⟩
/-- the cells of a set's square -/
theorem cells_set2 (h : Roomy w0 w F p nodes empty N) (hN : N ≤ 200000) {q : Q} {n : Nat} {s : List Rc} (hq : IsSet q n s) (hs : s.length ≤ 100) {i : Nat} (hR : Rep nodes q i) :
    Calls Try.prog 27 #[.pointer (some ⟨p, 0, none⟩), .int .u32 i, .int .i64 100] w fun e w' => ∃ A' c', e = .returned (.tuple #[.slice A' (s.map ownC).length c', .nilIface]) ∧ (s.map ownC).length ≤ c' ∧ Kd.C k57 w' A' (s.map ownC).length (s.map ownC) ∧ Below w.heap.size w w' := by
  have hnn := h.len
  have hct := hq.count (by omega)
  refine (cells_ok h.tr.hold.ar (by omega) h.tr.hold.hi q i hR (by rw [hq.lv]; have := hq.lo; omega) (by rw [hq.lv]; have := hq.hi; omega) (by rw [hct.2]; omega) 100 (by omega) (by rw [hct.1]; omega)).mono fun e w' ⟨v, he, hr, hb⟩ => ?_
  rw [hq.cells] at hr
  obtain ⟨A, c, hv, hc, hC⟩ := Kd.R_reads hr
  exact ⟨A, c, by rw [he, hv], hc, hC, hb⟩
/-- the set built anew: at the same level it is the same node -/
theorem build_again (h : Roomy w0 w F p nodes empty N) (hN : N ≤ 200000) {q : Q} {n : Nat} {s : List Rc} (hq : IsSet q n s) (hs : s.length ≤ 50) {i : Nat} (hR : Rep nodes q i) (A : Option Addr) (c : Nat) (hC : Kd.C k57 w A (s.map ownC).length (s.map ownC)) (hb0 : Below w0.heap.size w0 w) :
    Calls Try.prog 24 #[.pointer (some ⟨p, 0, none⟩), .slice A (s.map ownC).length c] w fun e w' => ∃ F' nodes' empty', ∃ j : Nat, e = .returned (.tuple #[.int .u32 j, .nilIface]) ∧ Roomy w0 w' F' p nodes' empty' (N + 2500) ∧ Ste w0 w w' F F' p nodes nodes' empty empty' 1048576 ∧ lvAt nodes' j = (rlv (s.map ownC) : Int) ∧ (rlv (s.map ownC) = n → j = i) ∧ j < 4294967296 ∧ Below w0.heap.size w0 w' := by
  have hlen : (s.map ownC).length ≤ 50 := by rw [List.length_map]; exact hs
  have hnn := h.len
  refine (tbuild_walk h.tr A c (s.map ownC) hC hq.near.1 (by omega) hq.near.2 (by omega)).mono fun e w' hg => ?_
  obtain ⟨F', nodes', empty', j, he, hst, hl, hr, hh⟩ := hg.sure (by omega)
  have := hst.tr.emq.hi
  have hsz := hst.tr.hold.ar.size
  have hlt := hr.lt
  refine ⟨F', nodes', empty', j, he, ⟨hst.tr, by omega⟩, hst, by rw [hr.lv, rootQ_lv], fun hn => ?_, by omega, hst.belowAll h.tr hb0⟩
  have h1 := root_set hq.up hq.bd
  rw [hn] at h1
  rw [← h1.one hq] at hR
  exact Rep.same hst.tr.once hr (hst.rep hR)
end
/-- the document's Put and Less, as told -/
theorem rput_walk (s : List Rc) (hs : s.length ≤ 1000) (hu : Rising s) (c : Rc) (A : Option Addr) (cc : Nat) (w : World) (hC : Kd.C k30 w A s.length s) (hc : s.length ≤ cc) :
    Calls Try.prog 32 #[.slice A s.length cc, .agg #[.int .i64 c.f0, .int .i64 c.f1, .int .i64 c.f2]] w fun e w' => ∃ v, e = .returned v ∧ Kd.R k30 30 w' w.heap.size (fun _ => True) v (insR s c) ∧ Below w.heap.size w w' :=
  honeycombref04_Put.calls 3000 A cc s c.f0 c.f1 c.f2 (insR s c) w hC hc (put_val c s (by omega) hu 3000 (by omega))
theorem rless_walk (s : List Rc) (hs : s.length ≤ 1000) (c : Rc) (A : Option Addr) (cc : Nat) (w : World) (hC : Kd.C k30 w A s.length s) (hc : s.length ≤ cc) :
    Calls Try.prog 33 #[.slice A s.length cc, .agg #[.int .i64 c.f0, .int .i64 c.f1, .int .i64 c.f2]] w fun e w' => ∃ v, e = .returned v ∧ Kd.R k30 30 w' w.heap.size (fun _ => True) v (lessR s c) ∧ Below w.heap.size w w' :=
  honeycombref04_Less.calls 3000 A cc s c.f0 c.f1 c.f2 (lessR s c) w hC hc (less_val c s (by omega) 3000 (by omega))
end Go.Proofs.Ytbkbkgfpnefilaa.tr
namespace Go.Proofs.Ytbkbkgfpnefilaa.tr
open Go.RowKit Go.Proofs.Ytbkbkgfpnefilaa.PTreeBuilds Go.Proofs.YtbkbkgfpnefilaaW.PrintWords Go.Proofs.YtbkbkgfpnefilaaW.PrintLast Go.Proofs.YtbkbkgfpnefilaaW.PrintMore Go.Proofs.Ytbkbkgfpnefilaa.bs Go.ChangeShapes Go.Proofs.Ytbkbkgfpnefilaa.lb Go.Proofs.Ytbkbkgfpnefilaa.ar Go.Maps

theorem at_B {w : World} {A : Option Addr} {n : Nat} {xs : List Bool} (h : Kd.C Kd.bool w A n xs) (j : Nat) (b : Bool) (hj : xs[j]? = some b) (hn : j < n) : ∃ ad, A = some ad ∧ w.cell? (ad.add j) = some (.bool b) := by
  obtain ⟨ad, c, e, _, hK, hc⟩ := Kd.C_get h false (j : Int) (by omega) (by omega)
  have hx : xs.getD (j : Int).toNat false = b := by rw [Int.toNat_natCast, List.getD_eq_getElem?_getD, hj]; rfl
  rw [hx] at hK
  have e2 : c = [.bool b] := hK
  subst e2
  have h0 := hc 0 _ rfl
  rw [Int.toNat_natCast] at h0
  exact ⟨ad, e, by simpa [show Kd.bool.sz = 1 from rfl] using h0⟩
theorem at_R {w : World} {A : Option Addr} {n : Nat} {xs : List Rc} (h : Kd.C k30 w A n xs) (j : Nat) (x : Rc) (hj : xs[j]? = some x) (hn : j < n) : ∃ ad, A = some ad ∧ w.cell? (ad.add (j * 3)) = some (.int .i64 x.f0) ∧ w.cell? ⟨(ad.add (j * 3)).block, (ad.add (j * 3)).off + 1, none⟩ = some (.int .i64 x.f1) ∧ w.cell? ⟨(ad.add (j * 3)).block, (ad.add (j * 3)).off + 2, none⟩ = some (.int .i64 x.f2) := by
  have := at_T30 h (j : Int) (by omega) (by omega)
  rw [rdR xs j x hj, Int.toNat_natCast] at this
  exact this
/-- what the loop keeps -/
structure PutsInv (W0 w : World) (p n j : Nat) (r : Nat) (A : Option Addr) (s : List Rc) (c : Nat) (F : Nat → Prop) (nodes : List Nd) (empty : List Int) (q : Q) : Prop where
  row : Kd.R k30 30 w 0 (fun k => ¬ F k) (.slice A s.length c) s
  cap : s.length ≤ c
  len : s.length ≤ 30 + j
  room : Roomy W0 w F p nodes empty (2000 + 3000 * j)
  set : IsSet q n s
  rep : Rep nodes q r
  below : Below W0.heap.size W0 w
theorem PutsInv.drop {W0 w w' : World} {p n j r : Nat} {A : Option Addr} {s : List Rc} {c : Nat} {F : Nat → Prop} {nodes : List Nd} {empty : List Int} {q : Q} (h : PutsInv W0 w p n j r A s c F nodes empty q) (hb : Below w.heap.size w w') : PutsInv W0 w' p n j r A s c F nodes empty q :=
  ⟨Kd.R_below h.row hb, h.cap, h.len, h.room.below hb, h.set, h.rep, chain h.below hb h.below.size⟩
theorem PutsInv.succ {W0 w : World} {p n j r : Nat} {A : Option Addr} {s : List Rc} {c : Nat} {F : Nat → Prop} {nodes : List Nd} {empty : List Int} {q : Q} (h : PutsInv W0 w p n j r A s c F nodes empty q) : PutsInv W0 w p n (j + 1) r A s c F nodes empty q :=
  ⟨h.row, h.cap, by have := h.len; omega, ⟨h.room.tr, by have := h.room.len; omega⟩, h.set, h.rep, h.below⟩
/-- .. behind a cell put in, or out: the row is still that of the set ahead -/
structure PutsMid (W0 w : World) (p n N i : Nat) (v : Value) (s : List Rc) (F : Nat → Prop) (nodes : List Nd) (empty : List Int) (q : Q) (s1 : List Rc) : Prop where
  row : Kd.R k30 30 w 0 (fun k => ¬ F k) v s
  room : Roomy W0 w F p nodes empty N
  set : IsSet q n s1
  rep : Rep nodes q i
  below : Below W0.heap.size W0 w
theorem PutsMid.drop {W0 w w' : World} {p n N i : Nat} {v : Value} {s s1 : List Rc} {F : Nat → Prop} {nodes : List Nd} {empty : List Int} {q : Q} (h : PutsMid W0 w p n N i v s F nodes empty q s1) (hb : Below w.heap.size w w') : PutsMid W0 w' p n N i v s F nodes empty q s1 :=
  ⟨Kd.R_below h.row hb, h.room.below hb, h.set, h.rep, chain h.below hb h.below.size⟩
theorem PutsMid.swap {W0 w w' : World} {p n N i : Nat} {v u : Value} {s s1 s2 : List Rc} {F : Nat → Prop} {nodes : List Nd} {empty : List Int} {q : Q} (h : PutsMid W0 w p n N i v s F nodes empty q s1) (hb : Below w.heap.size w w') (hr : Kd.R k30 30 w' w.heap.size (fun _ => True) u s2) : PutsMid W0 w' p n N i u s2 F nodes empty q s1 :=
  ⟨Kd.R_lower (Kd.R_mono (Kd.R_bound hr) (fun k hk hf => by have h1 := h.room.tr.hold.hi k hf; have h2 := hk.2.1; omega)) (Nat.zero_le _), h.room.below hb, h.set, h.rep, chain h.below hb h.below.size⟩
theorem PutsMid.inv {W0 w w' : World} {p n N i j : Nat} {A : Option Addr} {c : Nat} {s1 : List Rc} {F F' : Nat → Prop} {nodes nodes' : List Nd} {empty empty' : List Int} {q : Q} (h : PutsMid W0 w p n N i (.slice A s1.length c) s1 F nodes empty q s1) (hs : Ste W0 w w' F F' p nodes nodes' empty empty' 1048576) (hr : Roomy W0 w' F' p nodes' empty' (N + 2500)) (hN : N + 2500 ≤ 2000 + 3000 * (j + 1)) (hl : s1.length ≤ 30 + (j + 1)) (hc : s1.length ≤ c) (hb : Below W0.heap.size W0 w') : PutsInv W0 w' p n (j + 1) i A s1 c F' nodes' empty' q :=
  ⟨row_step h.row hs, hc, hl, ⟨hr.tr, Nat.le_trans hr.len hN⟩, h.set, hs.rep h.rep, hb⟩
theorem PutsMid.level {W0 w : World} {p n N i : Nat} {v : Value} {s s1 : List Rc} {F : Nat → Prop} {nodes : List Nd} {empty : List Int} {q : Q} (h : PutsMid W0 w p n N i v s F nodes empty q s1) : Calls Try.prog 29 #[.pointer (some ⟨p, 0, none⟩), .int .u32 i] w fun e w' => e = .returned (.int .i64 n) ∧ w = w' := by
  have hsz := h.room.tr.hold.ar.size
  have := level_walk F p nodes empty 1048576 w h.room.tr.hold.ar i (by omega) (by have := h.rep.lt; omega)
  rw [h.rep.lv, h.set.lv] at this
  exact this
/-- the steps behind a cell put in, or out -/
theorem PutsMid.cells {W0 w : World} {p n N i : Nat} {v : Value} {s1 : List Rc} {F : Nat → Prop} {nodes : List Nd} {empty : List Int} {q : Q} (hN : N ≤ 200000) (hl : s1.length ≤ 50) (h : PutsMid W0 w p n N i v s1 F nodes empty q s1) :
    Calls Try.prog 27 #[.pointer (some ⟨p, 0, none⟩), .int .u32 i, .int .i64 100] w fun e w' => ∃ A' c', e = .returned (.tuple #[.slice A' (s1.map ownC).length c', .nilIface]) ∧ (s1.map ownC).length ≤ c' ∧ Kd.C k57 w' A' (s1.map ownC).length (s1.map ownC) ∧ Below w.heap.size w w' :=
  cells_set2 h.room hN h.set (by omega) h.rep
set_option maxRecDepth 100000 in
set_option maxHeartbeats 4000000 in
theorem puts_walk (raw cells : List Rc) (lives : List Bool) (rA cA lA : Option Addr) (rc cc lc : Nat) (w : World) (hR : Kd.C k30 w rA raw.length raw) (hrc : raw.length ≤ rc) (hC : Kd.C k30 w cA cells.length cells) (hL : Kd.C Kd.bool w lA lives.length lives) (hg : ∀ x ∈ cells, RcOk x) :
    Calls Try.prog 5 #[.slice rA raw.length rc, .slice cA cells.length cc, .slice lA lives.length lc] w fun e w' => e = .returned (.bool true) ∧ Below w.heap.size w w' := by
  have hws := fun (w' : World) (hb : Below w.heap.size w w') => wide_row raw rA rc w' (Kd.C_below hR hb) hrc
  have hns := wide_near raw
  have hwl := wideR_len raw
  obtain ⟨s0, hs0⟩ : ∃ s0, wideR raw = s0 := ⟨_, rfl⟩
  simp only [hs0] at hws hns hwl
  have HWS := Aside0.mk hws
  have HNS := Aside0.mk hns
  have HWL := Aside0.mk hwl
  have HMK := Aside0.mk (fun A c w h1 h2 => (make_near (A := A) (c := c) (w := w) h1 h2 hns.len hns.bd).mono (fun _ _ h => make_roomy (by rw [List.length_map]; exact hns.len) h))
  have HC := Aside0.mk hC
  have HL := Aside0.mk hL
  have HG := Aside0.mk hg
  obtain ⟨cn, hcn⟩ : ∃ cn, cells.length = cn := ⟨_, rfl⟩
  obtain ⟨ln, hln⟩ : ∃ ln, lives.length = ln := ⟨_, rfl⟩
  have HCN := Aside0.mk hcn
  have HLN := Aside0.mk hln
  rw [hcn] at HC ⊢
  rw [hln] at HL ⊢
  generalize raw.length = rn at *
  clear hws hs0 hns hwl hR hrc hC hL hg hcn hln
  go_enter Try.func5, Try.ntmps5
  go_upto_region 7 with (first
    | (go_at_call 15; refine (awake_walk _).mono ?_; rintro e w1 ⟨rfl, hb1⟩; have HB1 := Aside0.mk hb1; clear hb1)
    | (go_at_call 22; with_reducible refine (HWS.out _ HB1.out).mono ?_; rintro e w2 ⟨sA, sc, rfl, hsc, hsR, hb2⟩; have HB2 := Aside0.mk (chain HB1.out hb2 HB1.out.size); have HSR := Aside0.mk hsR; have HSc := Aside0.mk hsc; clear hsc hsR hb2)
    | (go_at_call 23; with_reducible refine (HMK.out _ _ _ (Kd.R_reads' HSR.out).2.2 HSc.out).mono ?_; rintro e w4 ⟨p, F4, nodes4, empty4, x, rfl, hr4, hx4, hb4⟩; have HR4 := Aside0.mk hr4; have HX4 := Aside0.mk hx4; have HB4 := Aside0.mk hb4; clear hr4 hx4 hb4))
  have HI0 : Aside0 (PutsInv w2 w4 p (rlv (s0.map ownC)) 0 x sA s0 sc F4 nodes4 empty4 (rootQ (s0.map ownC))) := ⟨⟨Kd.R_lower (Kd.R_mono (Kd.R_below (Kd.R_bound HSR.out) HB4.out) (fun k hk hf => by have := HR4.out.tr.hold.lo k hf; omega)) (Nat.zero_le _), HSc.out, by have := HWL.out; omega, ⟨HR4.out.tr, HR4.out.len⟩, root_set HNS.out.up HNS.out.bd, HX4.out, HB4.out⟩⟩
  have hlev := level_walk F4 p nodes4 empty4 1048576 w4 HR4.out.tr.hold.ar x (by omega) (by have := HX4.out.lt; have := HR4.out.len; omega)
  rw [HX4.out.lv, rootQ_lv] at hlev
  have HLEV := Aside0.mk hlev
  have HNB := Aside0.mk (rlv_bd (s0.map ownC))
  generalize rlv (s0.map ownC) = n at *
  clear hlev HR4 HX4 HB4 HSR HSc HWS HMK HNS HWL
  go_upto_region 8 with (go_at_call 29; refine HLEV.out.mono ?_; rintro e w5 ⟨rfl, rfl⟩)
  go_wp2_with (fail)
  go_loopg [7, 9, 12] 20 (fun kq c7 c9 c12 w' => ∃ (j r : Nat) (A : Option Addr) (s : List Rc) (c : Nat) (F : Nat → Prop) (nodes : List Nd) (empty : List Int) (q : Q), j + kq = 20 ∧ c12 = .int .i64 j ∧ c9 = .int .u32 r ∧ c7 = .slice A s.length c ∧ Aside0 (PutsInv w2 w' p n j r A s c F nodes empty q))
  case atStart => exact ⟨0, x, sA, s0, sc, F4, nodes4, empty4, _, by omega, rfl, rfl, rfl, HI0⟩
  case round =>
    clear HI0 HLEV
    obtain ⟨j, r, A, s, c, F, nodes, empty, q, hj, rfl, rfl, rfl, HI⟩ := hrel
    by_cases hcj : j < cn
    · by_cases hlj : j < ln
      · by_cases hj20 : j < 20
        · obtain ⟨gm, rfl⟩ : ∃ m, gk = m + 1 := ⟨gk - 1, by omega⟩
          obtain ⟨c0, hc0⟩ : ∃ x, cells[j]? = some x := ⟨_, List.getElem?_eq_getElem (by have := HCN.out; omega)⟩
          obtain ⟨b, hb0⟩ : ∃ x, lives[j]? = some x := ⟨_, List.getElem?_eq_getElem (by have := HLN.out; omega)⟩
          have HGC := Aside0.mk (HG.out c0 (List.mem_of_getElem? hc0))
          have hbw := chain HB2.out HI.out.below HB2.out.size
          obtain ⟨ad, rfl, k0, k1, k2⟩ := at_R HC.out j c0 hc0 hcj
          obtain ⟨al, rfl, kl⟩ := at_B HL.out j b hb0 hlj
          have HLF := Aside0.mk (show ¬ F (al.add j).block from fun hf => by have h1 := World.block_lt_of_cell? w _ kl; have h2 := HI.out.room.tr.hold.lo _ hf; have h3 := HB2.out.size; omega)
          replace k0 := (hbw.cell (World.block_lt_of_cell? w _ k0)).trans k0
          replace k1 := (hbw.cell (World.block_lt_of_cell? w _ k1)).trans k1
          replace k2 := (hbw.cell (World.block_lt_of_cell? w _ k2)).trans k2
          replace kl := (hbw.cell (World.block_lt_of_cell? w _ kl)).trans kl
          have hsz := HI.out.room.tr.hold.ar.size
          have HRL := Aside0.mk (show (r : Int) < 4294967296 by have := HI.out.rep.lt; have := HI.out.room.len; omega)
          have HLR := Aside0.mk (show lvAt nodes r = (n : Int) by rw [HI.out.rep.lv, HI.out.set.lv])
          have HOWN := Aside0.mk (fun w => honeycomblaw03_Own.calls c0.f0 c0.f1 c0.f2 c0.f0 c0.f1 c0.f2 w rfl)
          clear hsz hbw hc0 hb0
          obtain ⟨A0, B0, H0⟩ := c0
          dsimp only at k0 k1 k2 HOWN
          have HBA := Aside0.mk (below_alloc (Below.refl wr.heap.size wr) (.cells #[.int .i64 A0, .int .i64 B0, .int .i64 H0] 30))
          have HKA := Aside0.mk (blk_new wr (.cells #[.int .i64 A0, .int .i64 B0, .int .i64 H0] 30))
          have HIA := Aside0.mk (HI.out.drop HBA.out)
          have HKL := Aside0.mk (pw_cell_below HBA.out kl)
          by_cases hhalf : H0 < 0 ∨ 1 < H0
          · have HPH := Aside0.mk (fun (W : World) (hb : Below (wr.alloc (.cells #[.int .i64 A0, .int .i64 B0, .int .i64 H0] 30)).heap.size (wr.alloc (.cells #[.int .i64 A0, .int .i64 B0, .int .i64 H0] 30)) W) => put_half (HIA.out.drop hb).room.tr.hold.ar r A0 B0 H0 b ⟨by omega, HRL.out⟩ (by rw [HLR.out]; have := HNB.out; omega) hhalf)
            have HHF := Aside0.mk hhalf
            clear hhalf
            go_upto_region 12 with (fail)
            clear k0 k1 k2 kl
            generalize wr.alloc (.cells #[.int .i64 A0, .int .i64 B0, .int .i64 H0] 30) = wa at *
            obtain ⟨C, hCC⟩ : ∃ C, wr.heap.size = C := ⟨_, rfl⟩
            simp only [hCC] at HKA ⊢
            clear hCC HBA HI
            have c0 := blk_cell HKA.out 0
            have c1 := blk_cell HKA.out 1
            have c2 := blk_cell HKA.out 2
            simp only [List.getElem?_toArray, List.getElem?_cons_zero, List.getElem?_cons_succ] at c0 c1 c2
            have hkl := HKL.out
            have HL0 := Aside0.mk (show wa.drew.cell? ⟨C, 0, none⟩ = some (.int .i64 A0) from c0)
            have HL1 := Aside0.mk (show wa.drew.cell? ⟨C, 1, none⟩ = some (.int .i64 B0) from c1)
            have HL2 := Aside0.mk (show wa.drew.cell? ⟨C, 2, none⟩ = some (.int .i64 H0) from c2)
            have HL3 := Aside0.mk (show wa.drew.cell? (al.add j) = some (.bool b) from hkl)
            have HBD := Aside0.mk (show Below wa.heap.size wa wa.drew from below_drew (Below.refl _ _))
            go_region_held3 (fun w' => w'.cell? ⟨C, 0, none⟩ = some (.int .i64 A0) ∧ w'.cell? ⟨C, 1, none⟩ = some (.int .i64 B0) ∧ w'.cell? ⟨C, 2, none⟩ = some (.int .i64 H0) ∧ w'.cell? (al.add j) = some (.bool b)) (refine ⟨?_, ?_, ?_, ?_⟩ <;> (first | (with_reducible assumption) | (with_reducible refine pw_cell_below ?_ c0; (repeat' (first | (with_reducible exact Below.refl _ _) | (with_reducible assumption) | (with_reducible refine Below.alloc ?_ ?_ _) | (with_reducible refine Below.drew ?_) | (with_reducible refine Below.setCell ?_ ?_ _) | (with_reducible refine chain ?_ (by assumption) ?_) | go_size)); done) | (with_reducible refine pw_cell_below ?_ c1; (repeat' (first | (with_reducible exact Below.refl _ _) | (with_reducible assumption) | (with_reducible refine Below.alloc ?_ ?_ _) | (with_reducible refine Below.drew ?_) | (with_reducible refine Below.setCell ?_ ?_ _) | (with_reducible refine chain ?_ (by assumption) ?_) | go_size)); done) | (with_reducible refine pw_cell_below ?_ c2; (repeat' (first | (with_reducible exact Below.refl _ _) | (with_reducible assumption) | (with_reducible refine Below.alloc ?_ ?_ _) | (with_reducible refine Below.drew ?_) | (with_reducible refine Below.setCell ?_ ?_ _) | (with_reducible refine chain ?_ (by assumption) ?_) | go_size)); done) | (with_reducible refine pw_cell_below ?_ hkl; (repeat' (first | (with_reducible exact Below.refl _ _) | (with_reducible assumption) | (with_reducible refine Below.alloc ?_ ?_ _) | (with_reducible refine Below.drew ?_) | (with_reducible refine Below.setCell ?_ ?_ _) | (with_reducible refine chain ?_ (by assumption) ?_) | go_size)); done)))
              (first | (go_at_call 31; with_reducible refine (HOWN.out _).mono ?_; rintro e w6 ⟨rfl, hb6⟩; have HB6 := Aside0.mk (chain HBD.out hb6 HBD.out.size); have c0 := pw_cell_below hb6 HL0.out; have c1 := pw_cell_below hb6 HL1.out; have c2 := pw_cell_below hb6 HL2.out; have hkl := pw_cell_below hb6 HL3.out; clear hb6) | (go_at_call 30; with_reducible refine (HPH.out _ HB6.out).mono ?_; rintro e w7 ⟨rfl, hb7⟩; have HB7 := Aside0.mk (chain HB6.out hb7 HB6.out.size); have c0' := pw_cell_below hb7 c0; have c1' := pw_cell_below hb7 c1; have c2' := pw_cell_below hb7 c2; have hkl' := pw_cell_below hb7 hkl; clear hb7))
            have HI7 := Aside0.mk (HIA.out.drop HB7.out).succ
            have hn44 := errNeq w7 4 4
            rw [show ((4 : Int) != 4) = false from by decide] at hn44
            rw [show errOf 4 = .iface 59 (.int .i64 4) from rfl]
            clear HL0 HL1 HL2 HL3 HBD HKL HKA HIA HB6 HB7 HPH HOWN hkl' hkl c0 c1 c2
            rcases HHF.out with hh | hh
            · go_wp2_with (fail)
              go_roundg gm
              case measure => omega
              case rel => exact ⟨j + 1, r, A, s, c, F, nodes, empty, q, by omega, by go_num, rfl, rfl, HI7⟩
            · have hh0 : ¬ H0 < 0 := by omega
              go_wp2_with (fail)
              go_roundg gm
              case measure => omega
              case rel => exact ⟨j + 1, r, A, s, c, F, nodes, empty, q, by omega, by go_num, rfl, rfl, HI7⟩
          · have HBH := Aside0.mk (show 0 ≤ H0 ∧ H0 < 2 by omega)
            have hn0 : ¬ H0 < 0 := by omega
            have hn1 : ¬ 1 < H0 := by omega
            obtain ⟨t, ht, hti⟩ := rinside_any (n : Int) A0 B0 4000 (by omega) HGC.out.1 HGC.out.2.1
            rw [hx_nat n (by have := HNB.out; omega) HNB.out.2] at hti
            have HRIN := Aside0.mk (fun w => (honeycombref13_Inside.calls 4000 (n : Int) A0 B0 t w ht).mono (fun e w' h => And.intro h.1 h.2.below))
            clear ht hhalf
            by_cases hins : Ins (pw (n - 1)) A0 B0
            · have HPI := Aside0.mk (fun (W : World) (hb : Below (wr.alloc (.cells #[.int .i64 A0, .int .i64 B0, .int .i64 H0] 30)).heap.size (wr.alloc (.cells #[.int .i64 A0, .int .i64 B0, .int .i64 H0] 30)) W) => put_roomy (HIA.out.drop hb).room (by omega) (HIA.out.drop hb).set (HIA.out.drop hb).rep ⟨A0, B0, H0⟩ hins HBH.out b (HIA.out.drop hb).below)
              obtain ⟨rfl, hA, hB⟩ : t = true ∧ ¬ A0 < -1125899906842624 ∧ ¬ B0 < -1125899906842624 := by
                refine ⟨?_, fun h => hti.1 (.inr (.inl h)) hins, fun h => hti.1 (.inr (.inr h)) hins⟩
                cases t
                · exact absurd hins (hti.1 (.inl rfl))
                · rfl
              dsimp only at HPI
              have HSL := Aside0.mk HI.out.len
              have HSC := Aside0.mk HI.out.cap
              have HSU := Aside0.mk HI.out.set.up
              clear hti hins
              go_upto_region 12 with (fail)
              clear k0 k1 k2 kl
              generalize wr.alloc (.cells #[.int .i64 A0, .int .i64 B0, .int .i64 H0] 30) = wa at *
              obtain ⟨C, hCC⟩ : ∃ C, wr.heap.size = C := ⟨_, rfl⟩
              simp only [hCC] at HKA ⊢
              have HCF := Aside0.mk (show ¬ F C from fun hf => by have := HI.out.room.tr.hold.hi C hf; omega)
              clear hCC HBA HI
              have c0 := blk_cell HKA.out 0
              have c1 := blk_cell HKA.out 1
              have c2 := blk_cell HKA.out 2
              simp only [List.getElem?_toArray, List.getElem?_cons_zero, List.getElem?_cons_succ] at c0 c1 c2
              have hkl := HKL.out
              have HL0 := Aside0.mk (show wa.drew.cell? ⟨C, 0, none⟩ = some (.int .i64 A0) from c0)
              have HL1 := Aside0.mk (show wa.drew.cell? ⟨C, 1, none⟩ = some (.int .i64 B0) from c1)
              have HL2 := Aside0.mk (show wa.drew.cell? ⟨C, 2, none⟩ = some (.int .i64 H0) from c2)
              have HL3 := Aside0.mk (show wa.drew.cell? (al.add j) = some (.bool b) from hkl)
              have HBD := Aside0.mk (show Below wa.heap.size wa wa.drew from below_drew (Below.refl _ _))
              go_region_held3 (fun w' => w'.cell? ⟨C, 0, none⟩ = some (.int .i64 A0) ∧ w'.cell? ⟨C, 1, none⟩ = some (.int .i64 B0) ∧ w'.cell? ⟨C, 2, none⟩ = some (.int .i64 H0) ∧ w'.cell? (al.add j) = some (.bool b)) (refine ⟨?_, ?_, ?_, ?_⟩ <;> (first | (with_reducible assumption) | (with_reducible refine pw_cell_below ?_ c0; (repeat' (first | (with_reducible exact Below.refl _ _) | (with_reducible assumption) | (with_reducible refine Below.alloc ?_ ?_ _) | (with_reducible refine Below.drew ?_) | (with_reducible refine Below.setCell ?_ ?_ _) | (with_reducible refine chain ?_ (by assumption) ?_) | go_size)); done) | (with_reducible refine pw_cell_below ?_ c1; (repeat' (first | (with_reducible exact Below.refl _ _) | (with_reducible assumption) | (with_reducible refine Below.alloc ?_ ?_ _) | (with_reducible refine Below.drew ?_) | (with_reducible refine Below.setCell ?_ ?_ _) | (with_reducible refine chain ?_ (by assumption) ?_) | go_size)); done) | (with_reducible refine pw_cell_below ?_ c2; (repeat' (first | (with_reducible exact Below.refl _ _) | (with_reducible assumption) | (with_reducible refine Below.alloc ?_ ?_ _) | (with_reducible refine Below.drew ?_) | (with_reducible refine Below.setCell ?_ ?_ _) | (with_reducible refine chain ?_ (by assumption) ?_) | go_size)); done) | (with_reducible refine pw_cell_below ?_ hkl; (repeat' (first | (with_reducible exact Below.refl _ _) | (with_reducible assumption) | (with_reducible refine Below.alloc ?_ ?_ _) | (with_reducible refine Below.drew ?_) | (with_reducible refine Below.setCell ?_ ?_ _) | (with_reducible refine chain ?_ (by assumption) ?_) | go_size)); done)))
                (first | (go_at_call 31; with_reducible refine (HOWN.out _).mono ?_; rintro e w6 ⟨rfl, hb6⟩; have HB6 := Aside0.mk (chain HBD.out hb6 HBD.out.size); have c0 := pw_cell_below hb6 HL0.out; have c1 := pw_cell_below hb6 HL1.out; have c2 := pw_cell_below hb6 HL2.out; have hkl := pw_cell_below hb6 HL3.out; clear hb6) | (go_at_call 30; with_reducible refine (HPI.out _ HB6.out).mono ?_; rintro e w7 ⟨F7, nodes7, empty7, i7, q7, rfl, hr7, hs7, hq7, hR7, hb7⟩; have bC := hs7.keeps.block C (World.block_lt_of_cell? _ _ c0) HCF.out; have bL := hs7.keeps.block (al.add j).block (World.block_lt_of_cell? _ _ hkl) HLF.out; have c0' := (World.cell?_of_block (a := ⟨C, 0, none⟩) bC).trans c0; have c1' := (World.cell?_of_block (a := ⟨C, 1, none⟩) bC).trans c1; have c2' := (World.cell?_of_block (a := ⟨C, 2, none⟩) bC).trans c2; have hkl' := (World.cell?_of_block (a := al.add j) bL).trans hkl; have HM7 := Aside0.mk (PutsMid.mk (row_step (HIA.out.drop HB6.out).row hs7) hr7 hq7 hR7 hb7); clear hr7 hs7 hq7 hR7 hb7 bC bL))
              clear HL0 HL1 HL2 HL3 HBD HKL HKA HIA HB6 HPI HOWN hkl c0 c1 c2
              go_upto_region 16 with (fail)
              go_upto_region 19 with (go_at_call 21; refine (HRIN.out _).mono ?_; rintro e w8 ⟨rfl, hb8⟩; have HM8 := Aside0.mk (HM7.out.drop hb8); replace c0' := pw_cell_below hb8 c0'; replace c1' := pw_cell_below hb8 c1'; replace c2' := pw_cell_below hb8 c2'; replace hkl' := pw_cell_below hb8 hkl'; clear hb8)
              clear HM7 HRIN hA hB
              cases b
              · obtain ⟨s1, hs1⟩ : ∃ s1, doR s ⟨A0, B0, H0⟩ false = s1 := ⟨_, rfl⟩
                have hw := fun W A cc hC hc => rless_walk s (by have := HSL.out; omega) ⟨A0, B0, H0⟩ A cc W hC hc
                have hs1' : lessR s ⟨A0, B0, H0⟩ = s1 := hs1
                rw [hs1'] at hw
                have HRW := Aside0.mk hw
                have HS1 := Aside0.mk (show s1.length ≤ s.length + 1 by rw [← hs1]; exact doR_len _ _ _)
                rw [hs1] at HM8
                clear hs1 hs1' hw
                dsimp only at HRW
                go_upto_region 22 with (go_at_call 33; with_reducible refine (HRW.out _ _ _ (Kd.R_reads' HM8.out.row).2.2 HSC.out).mono ?_; rintro e w9 ⟨v9, rfl, hv9, hb9⟩; obtain ⟨A9, c9, rfl, hc9, _⟩ := Kd.R_reads hv9; have HM9 := Aside0.mk (HM8.out.swap hb9 hv9); have HC9 := Aside0.mk hc9; clear hv9 hb9 hc9)
                obtain ⟨N, hN⟩ : ∃ N, 2000 + 3000 * j + 100 = N := ⟨_, rfl⟩
                have HNN := Aside0.mk (show N ≤ 100000 ∧ N + 2500 ≤ 2000 + 3000 * (j + 1) by omega)
                have HL1 := Aside0.mk (show s1.length ≤ 50 ∧ s1.length ≤ 30 + (j + 1) by have h1 := HSL.out; have h2 := HS1.out; omega)
                rw [hN] at HM9
                clear hN HM8 HRW HSL HS1 HSU c0' c1' c2' hkl' HCF HLF
                have HCELL := Aside0.mk (fun W (h : PutsMid w2 W p n N i7 (.slice A9 s1.length c9) s1 F7 nodes7 empty7 q7 s1) => h.cells (by have := HNN.out; omega) HL1.out.1)
                have HLV2 := Aside0.mk (fun W (h : PutsMid w2 W p n N i7 (.slice A9 s1.length c9) s1 F7 nodes7 empty7 q7 s1) => h.level)
                have HBLD := Aside0.mk (fun W A c (h : PutsMid w2 W p n N i7 (.slice A9 s1.length c9) s1 F7 nodes7 empty7 q7 s1) hC => build_again h.room (by have := HNN.out; omega) h.set HL1.out.1 h.rep A c hC h.below)
                have HARE := Aside0.mk (fun A B c d w h1 h2 h3 h4 => are_walk (s1.map ownC) s1 (by have := HL1.out; omega) A B c d w h1 h2 h3 h4)
                simp only [if_true] at HARE
                generalize rlv (s1.map ownC) = m at *
                generalize s1.map ownC = S at *
                go_upto_region 25 with (first
                  | (go_at_call 27; with_reducible refine (HCELL.out _ HM9.out).mono ?_; rintro e w10 ⟨gA, gc, rfl, hgc, hgC, hb10⟩; have HM10 := Aside0.mk (HM9.out.drop hb10); have HGC := Aside0.mk hgC; have HGc := Aside0.mk hgc; clear hgc hgC hb10)
                  | (go_at_call 29; with_reducible refine (HLV2.out _ HM10.out).mono ?_; rintro e w11 ⟨rfl, rfl⟩)
                  | (go_at_call 28; with_reducible refine (HARE.out _ _ _ _ _ HGC.out HGc.out (Kd.R_reads' HM10.out.row).2.2 HC9.out).mono ?_; rintro e w12 ⟨rfl, hb12⟩; have HM12 := Aside0.mk (HM10.out.drop hb12); have HGC12 := Aside0.mk (Kd.C_below HGC.out hb12); clear hb12))
                go_upto_region 26 with (go_at_call 24; with_reducible refine (HBLD.out _ _ _ HM12.out HGC12.out).mono ?_; rintro e w13 ⟨F13, nodes13, empty13, jn, rfl, hr13, hs13, hlv13, hone, hj32, hb13⟩; have HI13 := Aside0.mk (HM12.out.inv hs13 hr13 HNN.out.2 HL1.out.2 HC9.out hb13); have HLV13 := Aside0.mk (level_walk F13 p nodes13 empty13 1048576 w13 hr13.tr.hold.ar jn (by omega) (by omega)); rw [hlv13] at HLV13; have HONE := Aside0.mk hone; clear hr13 hs13 hlv13 hone hj32 hb13)
                clear HM9 HM10 HM12 HCELL HLV2 HBLD HARE HGC HGC12
                by_cases hmn : m = n
                · obtain rfl : jn = i7 := HONE.out hmn
                  subst hmn
                  go_wp2_with (go_at_call 29; with_reducible refine HLV13.out.mono ?_; rintro e w14 ⟨rfl, rfl⟩)
                  go_roundg gm
                  case measure => omega
                  case rel => exact ⟨j + 1, jn, A9, s1, c9, F13, nodes13, empty13, q7, by omega, by go_num, rfl, rfl, HI13⟩
                · have hmne : ((m : Int) == (n : Int)) = false := by rw [beq_eq_false_iff_ne]; omega
                  go_wp2_with (go_at_call 29; with_reducible refine HLV13.out.mono ?_; rintro e w14 ⟨rfl, rfl⟩)
                  go_roundg gm
                  case measure => omega
                  case rel => exact ⟨j + 1, i7, A9, s1, c9, F13, nodes13, empty13, q7, by omega, by go_num, rfl, rfl, HI13⟩
              · obtain ⟨s1, hs1⟩ : ∃ s1, doR s ⟨A0, B0, H0⟩ true = s1 := ⟨_, rfl⟩
                have hw := fun W A cc hC hc => rput_walk s (by have := HSL.out; omega) HSU.out ⟨A0, B0, H0⟩ A cc W hC hc
                have hs1' : insR s ⟨A0, B0, H0⟩ = s1 := hs1
                rw [hs1'] at hw
                have HRW := Aside0.mk hw
                have HS1 := Aside0.mk (show s1.length ≤ s.length + 1 by rw [← hs1]; exact doR_len _ _ _)
                rw [hs1] at HM8
                clear hs1 hs1' hw
                dsimp only at HRW
                go_upto_region 22 with (go_at_call 32; with_reducible refine (HRW.out _ _ _ (Kd.R_reads' HM8.out.row).2.2 HSC.out).mono ?_; rintro e w9 ⟨v9, rfl, hv9, hb9⟩; obtain ⟨A9, c9, rfl, hc9, _⟩ := Kd.R_reads hv9; have HM9 := Aside0.mk (HM8.out.swap hb9 hv9); have HC9 := Aside0.mk hc9; clear hv9 hb9 hc9)
                obtain ⟨N, hN⟩ : ∃ N, 2000 + 3000 * j + 100 = N := ⟨_, rfl⟩
                have HNN := Aside0.mk (show N ≤ 100000 ∧ N + 2500 ≤ 2000 + 3000 * (j + 1) by omega)
                have HL1 := Aside0.mk (show s1.length ≤ 50 ∧ s1.length ≤ 30 + (j + 1) by have h1 := HSL.out; have h2 := HS1.out; omega)
                rw [hN] at HM9
                clear hN HM8 HRW HSL HS1 HSU c0' c1' c2' hkl' HCF HLF
                have HCELL := Aside0.mk (fun W (h : PutsMid w2 W p n N i7 (.slice A9 s1.length c9) s1 F7 nodes7 empty7 q7 s1) => h.cells (by have := HNN.out; omega) HL1.out.1)
                have HLV2 := Aside0.mk (fun W (h : PutsMid w2 W p n N i7 (.slice A9 s1.length c9) s1 F7 nodes7 empty7 q7 s1) => h.level)
                have HBLD := Aside0.mk (fun W A c (h : PutsMid w2 W p n N i7 (.slice A9 s1.length c9) s1 F7 nodes7 empty7 q7 s1) hC => build_again h.room (by have := HNN.out; omega) h.set HL1.out.1 h.rep A c hC h.below)
                have HARE := Aside0.mk (fun A B c d w h1 h2 h3 h4 => are_walk (s1.map ownC) s1 (by have := HL1.out; omega) A B c d w h1 h2 h3 h4)
                simp only [if_true] at HARE
                generalize rlv (s1.map ownC) = m at *
                generalize s1.map ownC = S at *
                go_upto_region 25 with (first
                  | (go_at_call 27; with_reducible refine (HCELL.out _ HM9.out).mono ?_; rintro e w10 ⟨gA, gc, rfl, hgc, hgC, hb10⟩; have HM10 := Aside0.mk (HM9.out.drop hb10); have HGC := Aside0.mk hgC; have HGc := Aside0.mk hgc; clear hgc hgC hb10)
                  | (go_at_call 29; with_reducible refine (HLV2.out _ HM10.out).mono ?_; rintro e w11 ⟨rfl, rfl⟩)
                  | (go_at_call 28; with_reducible refine (HARE.out _ _ _ _ _ HGC.out HGc.out (Kd.R_reads' HM10.out.row).2.2 HC9.out).mono ?_; rintro e w12 ⟨rfl, hb12⟩; have HM12 := Aside0.mk (HM10.out.drop hb12); have HGC12 := Aside0.mk (Kd.C_below HGC.out hb12); clear hb12))
                go_upto_region 26 with (go_at_call 24; with_reducible refine (HBLD.out _ _ _ HM12.out HGC12.out).mono ?_; rintro e w13 ⟨F13, nodes13, empty13, jn, rfl, hr13, hs13, hlv13, hone, hj32, hb13⟩; have HI13 := Aside0.mk (HM12.out.inv hs13 hr13 HNN.out.2 HL1.out.2 HC9.out hb13); have HLV13 := Aside0.mk (level_walk F13 p nodes13 empty13 1048576 w13 hr13.tr.hold.ar jn (by omega) (by omega)); rw [hlv13] at HLV13; have HONE := Aside0.mk hone; clear hr13 hs13 hlv13 hone hj32 hb13)
                clear HM9 HM10 HM12 HCELL HLV2 HBLD HARE HGC HGC12
                by_cases hmn : m = n
                · obtain rfl : jn = i7 := HONE.out hmn
                  subst hmn
                  go_wp2_with (go_at_call 29; with_reducible refine HLV13.out.mono ?_; rintro e w14 ⟨rfl, rfl⟩)
                  go_roundg gm
                  case measure => omega
                  case rel => exact ⟨j + 1, jn, A9, s1, c9, F13, nodes13, empty13, q7, by omega, by go_num, rfl, rfl, HI13⟩
                · have hmne : ((m : Int) == (n : Int)) = false := by rw [beq_eq_false_iff_ne]; omega
                  go_wp2_with (go_at_call 29; with_reducible refine HLV13.out.mono ?_; rintro e w14 ⟨rfl, rfl⟩)
                  go_roundg gm
                  case measure => omega
                  case rel => exact ⟨j + 1, i7, A9, s1, c9, F13, nodes13, empty13, q7, by omega, by go_num, rfl, rfl, HI13⟩
            · have HPO := Aside0.mk (fun (W : World) (hb : Below (wr.alloc (.cells #[.int .i64 A0, .int .i64 B0, .int .i64 H0] 30)).heap.size (wr.alloc (.cells #[.int .i64 A0, .int .i64 B0, .int .i64 H0] 30)) W) => put_out (HIA.out.drop hb).room.tr.hold.ar r A0 B0 H0 b ⟨by omega, HRL.out⟩ (by rw [HLR.out]; have := HNB.out; omega) HBH.out (by rw [HLR.out, hx_nat n (by have := HNB.out; omega) HNB.out.2]; exact hins))
              have HTI := Aside0.mk (hti.2 hins)
              clear hti hins
              go_upto_region 12 with (fail)
              clear k0 k1 k2 kl
              generalize wr.alloc (.cells #[.int .i64 A0, .int .i64 B0, .int .i64 H0] 30) = wa at *
              obtain ⟨C, hCC⟩ : ∃ C, wr.heap.size = C := ⟨_, rfl⟩
              simp only [hCC] at HKA ⊢
              clear hCC HBA HI
              have c0 := blk_cell HKA.out 0
              have c1 := blk_cell HKA.out 1
              have c2 := blk_cell HKA.out 2
              simp only [List.getElem?_toArray, List.getElem?_cons_zero, List.getElem?_cons_succ] at c0 c1 c2
              have hkl := HKL.out
              have HL0 := Aside0.mk (show wa.drew.cell? ⟨C, 0, none⟩ = some (.int .i64 A0) from c0)
              have HL1 := Aside0.mk (show wa.drew.cell? ⟨C, 1, none⟩ = some (.int .i64 B0) from c1)
              have HL2 := Aside0.mk (show wa.drew.cell? ⟨C, 2, none⟩ = some (.int .i64 H0) from c2)
              have HL3 := Aside0.mk (show wa.drew.cell? (al.add j) = some (.bool b) from hkl)
              have HBD := Aside0.mk (show Below wa.heap.size wa wa.drew from below_drew (Below.refl _ _))
              go_region_held3 (fun w' => w'.cell? ⟨C, 0, none⟩ = some (.int .i64 A0) ∧ w'.cell? ⟨C, 1, none⟩ = some (.int .i64 B0) ∧ w'.cell? ⟨C, 2, none⟩ = some (.int .i64 H0) ∧ w'.cell? (al.add j) = some (.bool b)) (refine ⟨?_, ?_, ?_, ?_⟩ <;> (first | (with_reducible assumption) | (with_reducible refine pw_cell_below ?_ c0; (repeat' (first | (with_reducible exact Below.refl _ _) | (with_reducible assumption) | (with_reducible refine Below.alloc ?_ ?_ _) | (with_reducible refine Below.drew ?_) | (with_reducible refine Below.setCell ?_ ?_ _) | (with_reducible refine chain ?_ (by assumption) ?_) | go_size)); done) | (with_reducible refine pw_cell_below ?_ c1; (repeat' (first | (with_reducible exact Below.refl _ _) | (with_reducible assumption) | (with_reducible refine Below.alloc ?_ ?_ _) | (with_reducible refine Below.drew ?_) | (with_reducible refine Below.setCell ?_ ?_ _) | (with_reducible refine chain ?_ (by assumption) ?_) | go_size)); done) | (with_reducible refine pw_cell_below ?_ c2; (repeat' (first | (with_reducible exact Below.refl _ _) | (with_reducible assumption) | (with_reducible refine Below.alloc ?_ ?_ _) | (with_reducible refine Below.drew ?_) | (with_reducible refine Below.setCell ?_ ?_ _) | (with_reducible refine chain ?_ (by assumption) ?_) | go_size)); done) | (with_reducible refine pw_cell_below ?_ hkl; (repeat' (first | (with_reducible exact Below.refl _ _) | (with_reducible assumption) | (with_reducible refine Below.alloc ?_ ?_ _) | (with_reducible refine Below.drew ?_) | (with_reducible refine Below.setCell ?_ ?_ _) | (with_reducible refine chain ?_ (by assumption) ?_) | go_size)); done)))
                (first | (go_at_call 31; with_reducible refine (HOWN.out _).mono ?_; rintro e w6 ⟨rfl, hb6⟩; have HB6 := Aside0.mk (chain HBD.out hb6 HBD.out.size); have c0 := pw_cell_below hb6 HL0.out; have c1 := pw_cell_below hb6 HL1.out; have c2 := pw_cell_below hb6 HL2.out; have hkl := pw_cell_below hb6 HL3.out; clear hb6) | (go_at_call 30; with_reducible refine (HPO.out _ HB6.out).mono ?_; rintro e w7 ⟨rfl, hb7⟩; have HB7 := Aside0.mk (chain HB6.out hb7 HB6.out.size); have c0' := pw_cell_below hb7 c0; have c1' := pw_cell_below hb7 c1; have c2' := pw_cell_below hb7 c2; have hkl' := pw_cell_below hb7 hkl; clear hb7))
              have HI7 := Aside0.mk (HIA.out.drop HB7.out)
              have hn66 := fun w => errNeq w 6 6
              rw [show ((6 : Int) != 6) = false from by decide] at hn66
              rw [show errOf 6 = .iface 59 (.int .i64 6) from rfl]
              clear HL0 HL1 HL2 HL3 HBD HKL HKA HIA HB6 HPO HOWN hkl' hkl c0 c1 c2 HB7
              go_upto_region 16 with (fail)
              rcases HTI.out with rfl | hA | hB
              · go_wp2_with (go_at_call 21; refine (HRIN.out _).mono ?_; rintro e w8 ⟨rfl, hb8⟩; have HI8 := Aside0.mk (HI7.out.drop hb8).succ; clear hb8)
                go_roundg gm
                case measure => omega
                case rel => exact ⟨j + 1, r, A, s, c, F, nodes, empty, q, by omega, by go_num, rfl, rfl, HI8⟩
              · cases t
                · go_wp2_with (go_at_call 21; refine (HRIN.out _).mono ?_; rintro e w8 ⟨rfl, hb8⟩; have HI8 := Aside0.mk (HI7.out.drop hb8).succ; clear hb8)
                  go_roundg gm
                  case measure => omega
                  case rel => exact ⟨j + 1, r, A, s, c, F, nodes, empty, q, by omega, by go_num, rfl, rfl, HI8⟩
                · go_wp2_with (go_at_call 21; refine (HRIN.out _).mono ?_; rintro e w8 ⟨rfl, hb8⟩; have HI8 := Aside0.mk (HI7.out.drop hb8).succ; replace c0' := pw_cell_below hb8 c0'; replace c1' := pw_cell_below hb8 c1'; replace c2' := pw_cell_below hb8 c2'; clear hb8)
                  go_roundg gm
                  case measure => omega
                  case rel => exact ⟨j + 1, r, A, s, c, F, nodes, empty, q, by omega, by go_num, rfl, rfl, HI8⟩
              · cases t
                · go_wp2_with (go_at_call 21; refine (HRIN.out _).mono ?_; rintro e w8 ⟨rfl, hb8⟩; have HI8 := Aside0.mk (HI7.out.drop hb8).succ; clear hb8)
                  go_roundg gm
                  case measure => omega
                  case rel => exact ⟨j + 1, r, A, s, c, F, nodes, empty, q, by omega, by go_num, rfl, rfl, HI8⟩
                · by_cases hA : A0 < -1125899906842624
                  · go_wp2_with (go_at_call 21; refine (HRIN.out _).mono ?_; rintro e w8 ⟨rfl, hb8⟩; have HI8 := Aside0.mk (HI7.out.drop hb8).succ; replace c0' := pw_cell_below hb8 c0'; replace c1' := pw_cell_below hb8 c1'; replace c2' := pw_cell_below hb8 c2'; clear hb8)
                    go_roundg gm
                    case measure => omega
                    case rel => exact ⟨j + 1, r, A, s, c, F, nodes, empty, q, by omega, by go_num, rfl, rfl, HI8⟩
                  · go_wp2_with (go_at_call 21; refine (HRIN.out _).mono ?_; rintro e w8 ⟨rfl, hb8⟩; have HI8 := Aside0.mk (HI7.out.drop hb8).succ; replace c0' := pw_cell_below hb8 c0'; replace c1' := pw_cell_below hb8 c1'; replace c2' := pw_cell_below hb8 c2'; clear hb8)
                    go_roundg gm
                    case measure => omega
                    case rel => exact ⟨j + 1, r, A, s, c, F, nodes, empty, q, by omega, by go_num, rfl, rfl, HI8⟩
        · go_wp2_with (fail)
          go_ret
          exact ⟨rfl, chain HB2.out HI.out.below HB2.out.size⟩
      · go_wp2_with (fail)
        go_ret
        exact ⟨rfl, chain HB2.out HI.out.below HB2.out.size⟩
    · go_wp2_with (fail)
      go_ret
      exact ⟨rfl, chain HB2.out HI.out.below HB2.out.size⟩
theorem puts_law (rA cA lA : Option Addr) (rn rc cn cc ln lc : Nat) (raw cells : List Rc) (lives : List Bool) (w : World) (hrl : raw.length = rn) (hcl : cells.length = cn) (hll : lives.length = ln) (hR : Kd.C k30 w rA rn raw) (hrc : rn ≤ rc) (hC : Kd.C k30 w cA cn cells) (hL : Kd.C Kd.bool w lA ln lives) (hg : ∀ x ∈ cells, RcOk x) :
    Calls Try.prog 5 #[.slice rA rn rc, .slice cA cn cc, .slice lA ln lc] w fun e w' => e = .returned (.bool true) ∧ Below w.heap.size w w' := by
  subst hrl hcl hll
  exact puts_walk raw cells lives rA cA lA rc cc lc w hR hrc hC hL hg
end Go.Proofs.Ytbkbkgfpnefilaa.tr
namespace Go.Proofs.Ytbkbkgfpnefilaa.lawTreePuts
open Go.ChangeShapes Go.WideShapes Go.ChangeAt Go.RowKit Go.Joins

theorem params_read : ∀ t ∈ Try.f5.params.toList, Try.prog.readableRec t = true ∧ t < Try.prog.types.size := by
  have h : (Try.f5.params.toList.all fun t => Try.prog.readableRec t && decide (t < Try.prog.types.size)) = true := by kernel_rfl
  intro t ht
  have := List.all_eq_true.1 h t ht
  simpa using this
set_option maxRecDepth 100000 in
theorem contract (H : Type) (enc : TypeId × Value → H) (W : World) (base : Nat) (args : Array Value) (ds gs : List (DataW H)) (before : List MemPlace)
    (hval : ∀ (j : Nat) t v, Try.f5.params[j]? = some t → args[j]? = some v → Value.okWide Try.prog W .any base t v)
    (hW : DataW.Whole enc Try.prog Try.f5.params.toList Rows.treePutsSpec.vars false W args.toList ds gs before) :
    Calls Try.prog 5 args W fun e W' => ∃ v, e = .returned v ∧ Rows.treePutsSpec.post enc Try.prog Try.f5 false true false false W args v W' := by
  have hW' := hW
  obtain ⟨p, q, hA0, hV, rfl, hfz, hnd⟩ := hW
  have hA : DataW.TrodAll enc Try.prog W 0 (fun _ => true) true Try.f5.params.toList args.toList ds p := hA0
  rw [Try.params5] at hA hval
  obtain ⟨v0, vs0, d0, ds0, p0, q0, hargs, rfl, rfl, h0, r0⟩ := trodAll_cons hA
  obtain ⟨v1, vs1, d1, ds1, p1, q1, rfl, rfl, rfl, h1, r1⟩ := trodAll_cons r0
  obtain ⟨v2, vs2, d2, ds2, p2, q2, rfl, rfl, rfl, h2, r2⟩ := trodAll_cons r1
  obtain ⟨rfl, rfl, rfl⟩ := trodAll_nil r2
  obtain rfl : args = #[v0, v1, v2] := by cases args; simp_all
  obtain ⟨rfl, rfl⟩ := trodVars_none hV
  obtain ⟨rawA, rawn, rawc, raw, rfl, rawl, rawC, rawg, rawm⟩ := tr.open_rowsC PTreeBuilds.k30 tr.RcOk Try.underlying31 (by kernel_rfl) (fun m cs y h => tr.rcell_open m cs y h) (hval 0 31 v0 rfl rfl) h0
  obtain ⟨cellsA, cellsn, cellsc, cells, rfl, cellsl, cellsC, cellsg, cellsm⟩ := tr.open_rowsC PTreeBuilds.k30 tr.RcOk Try.underlying31 (by kernel_rfl) (fun m cs y h => tr.rcell_open m cs y h) (hval 1 31 v1 rfl rfl) h1
  obtain ⟨liveA, liven, livec, live, rfl, livel, liveC, liveg⟩ := bs.open_rowsG Go.Proofs.YtbkbkgfpnefilaaW.PrintWords.Kd.bool (fun _ => True) Try.underlying53 (by kernel_rfl) (fun m cs y h => tr.bool_open m cs y h) (hval 2 53 v2 rfl rfl) h2
  clear hA0
  refine (tr.puts_law rawA cellsA liveA rawn rawc cellsn cellsc liven livec raw cells live W rawl cellsl livel rawC rawm cellsC liveC cellsg).mono fun e W' ⟨he, hg⟩ => ?_
  subst he
  exact ⟨_, rfl, bs.post_law (tb := 4) hW' hg (by kernel_rfl) params_read rfl rfl Try.underlying4 rfl (fun _ => okWide_bool_mk Try.underlying4 _)⟩

theorem own : ownKnob Try.prog.godebug = none := by kernel_rfl
set_option maxRecDepth 100000 in
theorem lifted (os : Os) (started : os.Started) (H : Type) (enc : TypeId × Value → H) :
    ReturnsInHanded {} Try.checked os 5 .any (Rows.treePutsSpec.pre6 enc Try.prog Try.f5 Rows.treePutsRow.domain false) (Rows.treePutsSpec.post enc Try.prog Try.f5 false true false false) := by
  refine returnsInHanded_of_change_sized (C := Try.checked) own started (by kernel_rfl) Try.func5
    (ChangeSpec.witness6 (enc := enc) (C := Try.checked) false ⟨#[], #[Value.slice none 0 0, .slice none 0 0, .slice none 0 0], []⟩ 8 (by kernel_rfl) (by kernel_rfl) (by kernel_rfl) (by kernel_rfl)) ?_
  intro W base args ds gs before hval hW _ _ _
  exact contract H enc W base args ds gs before hval hW

theorem said : Rows.TreePutsSaid :=
  OpenClaim.holds_of_wide 5 Try.f5 rfl rfl rfl rfl rfl rfl rfl ⟨rfl, rfl, rfl, rfl, rfl⟩ rfl rfl rfl rfl rfl (by kernel_rfl) Try.func5 (by kernel_rfl)
    (of_decide_eq_true (by kernel_rfl)) (by unfold Func.isWrapper; first | (rw [if_pos (by decide +kernel)]; kernel_rfl) | (rw [if_neg (by decide +kernel)]; exact ⟨rfl, rfl⟩))
    (fun os started H enc _ => lifted os started H enc)
end Go.Proofs.Ytbkbkgfpnefilaa.lawTreePuts
